/- Small functions of the tape. -/
import Derived.Test.YtkfcejhebepdkaaTapeIr
import Derived.Test.YtkfcejhebepdkaaWpA
namespace Go.Proofs.Ytkfcejhebepdkaa
open Go Go.Vam

/-- The sum of bytes, from a number on. -/
def fnvF (s : Nat) : List UInt8 → Nat
  | [] => s
  | c :: l => fnvF ((s ^^^ c.toNat) * 16777619 % 4294967296) l

theorem fnvF_lt {s : Nat} (hs : s < 4294967296) : ∀ l, fnvF s l < 4294967296 := by
  intro l
  induction l generalizing s with
  | nil => exact hs
  | cons c l ih => exact ih (Nat.mod_lt _ (by omega))

theorem xor_u32 {a b : Nat} (ha : a < 4294967296) (hb : b < 4294967296) : intBitsV .xor .u32 (a : Int) (b : Int) = some ((a ^^^ b : Nat) : Int) := by
  have h : (a ^^^ b) < 2 ^ 32 := Nat.xor_lt_two_pow (by omega) (by omega)
  have e : (BitVec.ofInt 32 (a : Int) ^^^ BitVec.ofInt 32 (b : Int)).toNat = a ^^^ b := by
    rw [BitVec.toNat_xor, BitVec.ofInt_natCast, BitVec.ofInt_natCast, BitVec.toNat_ofNat, BitVec.toNat_ofNat, Nat.mod_eq_of_lt ha, Nat.mod_eq_of_lt hb]
  show some (wrapK .u32 ((BitVec.ofInt 32 (a : Int) ^^^ BitVec.ofInt 32 (b : Int)).toNat : Nat)) = _
  rw [e, wrap_u32 (by omega) (by omega)]


theorem run37 {X : Ctx} (hX : X.fns = fnsOf Try.prog) (ho : ∀ f args, f ≠ 9 → X.orc f args = none) {s : Mm} {v : Value} {b : List UInt8} (h : SlC s 1 v b.length (bsV b)) (hn : b.length < 2 ^ 62) :
    CallP X 37 [v] s (fun r s' => r = .int .u32 (fnvF 2166136261 b : Nat) ∧ s = s') := by
  refine CallP_of (hX ▸ ir37_eq) (ho _ _ (by decide)) (Nat.le_of_ble_eq_true rfl) ?_
  refine W_seq (W_ops [0] ?_)
  simp only [o37_0, WO_move, WO_nil, geT_put, frame_nil, frame_cons, evO_const, keep_nil, keep_cons, keepK_eq, Nat.reduceEqDiff, reduceIte, eq_self, Nat.zero_add]
  intro fr e0
  refine SeqK_n ?_
  refine W_seq (W_ops [0, 3] ?_)
  simp only [o37_1, WO_move, WO_nil, geT_put, evO_const, keep_nil, keep_cons, keepK_eq, Nat.reduceEqDiff, reduceIte, eq_self, e0]
  clear e0
  intro fr e0 e3
  refine SeqK_n ?_
  refine W_assoc ?_
  refine W_seq (W_ops [3, 6, 7, 8] ?_)
  simp only [o37_2, WO_bu, WO_move, WO_nil, PureK_some, geT_put, evO_tmp, evO_const, keep_nil, keep_cons, keepK_eq, List.map_cons, List.map_nil, Nat.reduceEqDiff, reduceIte, eq_self, e0, e3, h.len]
  clear e0 e3
  intro fr e3 e6 e7 e8
  refine SeqK_n ?_
  refine W_seq (W_block (W_loop (fun m fr s1 => ∃ k p, k + m = b.length ∧ fnvF p (b.drop k) = fnvF 2166136261 b ∧ p < 4294967296 ∧ s1 = s ∧ geT fr 3 = .int .u32 (p : Nat) ∧ geT fr 6 = v ∧ geT fr 7 = .int .i64 (b.length : Nat) ∧ geT fr 8 = .int .i64 (k : Nat)) b.length ⟨0, 2166136261, by simp, by simp, by omega, rfl, e3, e6, e7, e8⟩ ?_))
  clear e3 e6 e7 e8 fr
  rintro m fr _ ⟨k, p, hk, hp, hp2, rfl, e3, e6, e7, e8⟩
  refine W_seq (W_ops [3, 6, 7, 8, 9] ?_)
  simp only [o37_4, WO_bin, bin_lss, WO_nil, PureK_some, geT_put, evO_tmp, keep_nil, keep_cons, keepK_eq, Nat.reduceEqDiff, reduceIte, eq_self, e3, e6, e7, e8]
  clear e3 e6 e7 e8
  intro fr e3 e6 e7 e8 e9
  refine SeqK_n ?_
  refine W_while e9 (fun hlt => ?_) (fun hlt => ?_)
  · have hk2 : k < b.length := by omega
    refine W_seq (W_block ?_)
    refine W_seq (W_ops [3, 5, 6, 7, 8] ?_)
    simp only [o37_5, WO_addrSl, WO_load, WO_move, WO_nil, PureK_some, geT_put, evO_tmp, keep_nil, keep_cons, keepK_eq, Nat.reduceEqDiff, reduceIte, eq_self, Nat.mul_one, e3, e6, e7, e8, h.addr rfl hk2, h.load (by simp [bsV, hk2] : (bsV b)[k]? = some (byteV b[k]))]
    clear e3 e6 e7 e8 e9
    intro fr e3 e5 e6 e7 e8
    refine SeqK_n ?_
    have hx := xor_u32 hp2 (by have := (b[k]).toNat_lt; omega : (b[k]).toNat < 4294967296)
    refine W_seq (W_ops [3, 6, 7, 8] ?_)
    simp only [o37_6, WO_bin, WO_conv, conv_int, WO_move, bin_xor, WO_nil, PureK_some, geT_put, evO_tmp, keep_nil, keep_cons, keepK_eq, Option.map_some, Nat.reduceEqDiff, reduceIte, eq_self, e3, e5, e6, e7, e8, byteV, wrap_u32 (n := ((b[k]).toNat : Int)) (by omega) (by have := (b[k]).toNat_lt; omega), hx]
    clear e3 e5 e6 e7 e8
    intro fr e3 e6 e7 e8
    refine SeqK_n ?_
    refine W_ops [3, 6, 7, 8] ?_
    simp only [o37_7, WO_bin, WO_move, bin_mul, WO_nil, PureK_some, geT_put, evO_tmp, evO_const, keep_nil, keep_cons, keepK_eq, Nat.reduceEqDiff, reduceIte, eq_self, e3, e6, e7, e8]
    clear e3 e6 e7 e8
    intro fr e3 e6 e7 e8
    refine BlkK_n (SeqK_n ?_)
    refine W_ops [3, 6, 7, 8] ?_
    simp only [o37_8, WO_bin, WO_move, bin_add, WO_nil, PureK_some, geT_put, evO_tmp, evO_const, keep_nil, keep_cons, keepK_eq, Nat.reduceEqDiff, reduceIte, eq_self, e3, e6, e7, e8, wrap_i64 (n := (k : Int) + 1) (by omega) (by omega)]
    clear e3 e6 e7 e8
    intro fr e3 e6 e7 e8
    refine LoopK_n (m' := m - 1) (by omega) ⟨k + 1, (p ^^^ (b[k]).toNat) * 16777619 % 4294967296, by omega, ?_, by omega, rfl, ?_, e6, e7, e8⟩
    · rw [← hp]
      rw [List.drop_eq_getElem_cons hk2]
      rfl
    · rw [e3]; rfl
  · refine LoopK_x (BlkK_e (SeqK_n ?_))
    have : k = b.length := by omega
    subst this
    refine W_seq (W_ops [2] ?_)
    simp only [o37_9, WO_move, WO_nil, geT_put, evO_tmp, keep_nil, keep_cons, keepK_eq, Nat.reduceEqDiff, reduceIte, eq_self, e3]
    clear e3 e6 e7 e8 e9
    intro fr e2
    refine SeqK_n ?_
    simp only [List.drop_length, fnvF] at hp
    exact W_ret (Ret1 e2 ⟨by rw [hp], rfl⟩)

theorem shl8 {a : Nat} : shiftV .shl .u64 (a : Int) 8 = some ((a * 256 % 18446744073709551616 : Nat) : Int) := by
  have e : shiftV .shl .u64 (a : Int) 8 = some (wrapK .u64 ((a : Int) * 2 ^ 8)) := rfl
  rw [e]
  simp only [wrapK]
  congr 1

theorem or_u64 {a b : Nat} (hb : b < 256) : intBitsV .or .u64 ((a * 256 % 18446744073709551616 : Nat) : Int) (b : Int) = some (((a * 256 + b) % 18446744073709551616 : Nat) : Int) := by
  have hm : a * 256 % 18446744073709551616 = 2 ^ 8 * (a % 72057594037927936) := by omega
  have ha : a * 256 % 18446744073709551616 < 18446744073709551616 := Nat.mod_lt _ (by omega)
  have e : (BitVec.ofInt 64 ((a * 256 % 18446744073709551616 : Nat) : Int) ||| BitVec.ofInt 64 (b : Int)).toNat = (a * 256 + b) % 18446744073709551616 := by
    rw [BitVec.toNat_or, BitVec.ofInt_natCast, BitVec.ofInt_natCast, BitVec.toNat_ofNat, BitVec.toNat_ofNat, Nat.mod_eq_of_lt ha, Nat.mod_eq_of_lt (by omega : b < 2 ^ 64), hm, ← Nat.two_pow_add_eq_or_of_lt (by omega : b < 2 ^ 8)]
    omega
  show some (wrapK .u64 ((BitVec.ofInt 64 ((a * 256 % 18446744073709551616 : Nat) : Int) ||| BitVec.ofInt 64 (b : Int)).toNat : Nat)) = _
  rw [e, wrap_u64 (by omega) (by omega)]

/-- The number that bytes say. -/
def getF (s : Nat) : List UInt8 → Nat
  | [] => s
  | c :: l => getF ((s * 256 + c.toNat) % 18446744073709551616) l

theorem run49 {X : Ctx} (hX : X.fns = fnsOf Try.prog) (ho : ∀ f args, f ≠ 9 → X.orc f args = none) {s : Mm} {v : Value} {b : List UInt8} (h : SlC s 1 v b.length (bsV b)) (hn : b.length < 2 ^ 62) :
    CallP X 49 [v] s (fun r s' => r = .int .u64 (getF 0 b : Nat) ∧ s = s') := by
  refine CallP_of (hX ▸ ir49_eq) (ho _ _ (by decide)) (Nat.le_of_ble_eq_true rfl) ?_
  refine W_seq (W_ops [0] ?_)
  simp only [o49_0, WO_move, WO_nil, geT_put, frame_nil, frame_cons, evO_const, keep_nil, keep_cons, keepK_eq, Nat.reduceEqDiff, reduceIte, eq_self, Nat.zero_add]
  intro fr e0
  refine SeqK_n ?_
  refine W_seq (W_ops [0, 3] ?_)
  simp only [o49_1, WO_move, WO_nil, geT_put, evO_const, keep_nil, keep_cons, keepK_eq, Nat.reduceEqDiff, reduceIte, eq_self, e0]
  clear e0
  intro fr e0 e3
  refine SeqK_n ?_
  refine W_assoc ?_
  refine W_seq (W_ops [3, 6, 7, 8] ?_)
  simp only [o49_2, WO_bu, WO_move, WO_nil, PureK_some, geT_put, evO_tmp, evO_const, keep_nil, keep_cons, keepK_eq, List.map_cons, List.map_nil, Nat.reduceEqDiff, reduceIte, eq_self, e0, e3, h.len]
  clear e0 e3
  intro fr e3 e6 e7 e8
  refine SeqK_n ?_
  refine W_seq (W_block (W_loop (fun m fr s1 => ∃ k p : Nat, k + m = b.length ∧ getF p (b.drop k) = getF 0 b ∧ s1 = s ∧ geT fr 3 = .int .u64 (p : Nat) ∧ geT fr 6 = v ∧ geT fr 7 = .int .i64 (b.length : Nat) ∧ geT fr 8 = .int .i64 (k : Nat)) b.length ⟨0, 0, by simp, by simp, rfl, e3, e6, e7, e8⟩ ?_))
  clear e3 e6 e7 e8 fr
  rintro m fr _ ⟨k, p, hk, hp, rfl, e3, e6, e7, e8⟩
  refine W_seq (W_ops [3, 6, 7, 8, 9] ?_)
  simp only [o49_4, WO_bin, bin_lss, WO_nil, PureK_some, geT_put, evO_tmp, keep_nil, keep_cons, keepK_eq, Nat.reduceEqDiff, reduceIte, eq_self, e3, e6, e7, e8]
  clear e3 e6 e7 e8
  intro fr e3 e6 e7 e8 e9
  refine SeqK_n ?_
  refine W_while e9 (fun hlt => ?_) (fun hlt => ?_)
  · have hk2 : k < b.length := by omega
    have hb := (b[k]).toNat_lt
    refine W_seq (W_block ?_)
    refine W_seq (W_ops [3, 5, 6, 7, 8] ?_)
    simp only [o49_5, WO_addrSl, WO_load, WO_move, WO_nil, PureK_some, geT_put, evO_tmp, keep_nil, keep_cons, keepK_eq, Nat.reduceEqDiff, reduceIte, eq_self, Nat.mul_one, e3, e6, e7, e8, h.addr rfl hk2, h.load (by simp [bsV, hk2] : (bsV b)[k]? = some (byteV b[k]))]
    clear e3 e6 e7 e8 e9
    intro fr e3 e5 e6 e7 e8
    refine SeqK_n ?_
    refine W_seq (W_ops [3, 5, 6, 7, 8] ?_)
    simp only [o49_6, WO_bin, WO_move, bin_shl, WO_nil, PureK_some, geT_put, evO_tmp, evO_const, keep_nil, keep_cons, keepK_eq, Option.map_some, Nat.reduceEqDiff, reduceIte, eq_self, e3, e5, e6, e7, e8, shl8]
    clear e3 e5 e6 e7 e8
    intro fr e3 e5 e6 e7 e8
    refine SeqK_n ?_
    refine W_ops [3, 6, 7, 8] ?_
    simp only [o49_7, WO_bin, WO_conv, conv_int, WO_move, bin_or, WO_nil, PureK_some, geT_put, evO_tmp, keep_nil, keep_cons, keepK_eq, Option.map_some, Nat.reduceEqDiff, reduceIte, eq_self, e3, e5, e6, e7, e8, byteV, wrap_u64 (n := ((b[k]).toNat : Int)) (by omega) (by omega), or_u64 (a := p) (b := (b[k]).toNat) (by omega)]
    clear e3 e5 e6 e7 e8
    intro fr e3 e6 e7 e8
    refine BlkK_n (SeqK_n ?_)
    refine W_ops [3, 6, 7, 8] ?_
    simp only [o49_8, WO_bin, WO_move, bin_add, WO_nil, PureK_some, geT_put, evO_tmp, evO_const, keep_nil, keep_cons, keepK_eq, Nat.reduceEqDiff, reduceIte, eq_self, e3, e6, e7, e8, wrap_i64 (n := (k : Int) + 1) (by omega) (by omega)]
    clear e3 e6 e7 e8
    intro fr e3 e6 e7 e8
    refine LoopK_n (m' := m - 1) (by omega) ⟨k + 1, (p * 256 + (b[k]).toNat) % 18446744073709551616, by omega, ?_, rfl, e3, e6, e7, e8⟩
    rw [← hp, List.drop_eq_getElem_cons hk2]
    rfl
  · refine LoopK_x (BlkK_e (SeqK_n ?_))
    have : k = b.length := by omega
    subst this
    refine W_seq (W_ops [2] ?_)
    simp only [o49_9, WO_move, WO_nil, geT_put, evO_tmp, keep_nil, keep_cons, keepK_eq, Nat.reduceEqDiff, reduceIte, eq_self, e3]
    clear e3 e6 e7 e8 e9
    intro fr e2
    refine SeqK_n ?_
    simp only [List.drop_length, getF] at hp
    exact W_ret (Ret1 e2 ⟨by rw [hp], rfl⟩)

/-- A number as so many bytes. -/
def beN (n : Nat) : Nat → List UInt8
  | 0 => []
  | k + 1 => UInt8.ofNat (n / 256 ^ k) :: beN n k

theorem beN_length (n : Nat) : ∀ k, (beN n k).length = k := by
  intro k
  induction k with
  | zero => rfl
  | succ k ih => simp only [beN, List.length_cons, ih]

theorem shr_u64 {n j : Nat} (hj : j ≤ 7) : shiftV .shr .u64 (n : Int) ((8 * j : Nat) : Int) = some ((n / 256 ^ j : Nat) : Int) := by
  have e : shiftV .shr .u64 (n : Int) ((8 * j : Nat) : Int) = some ((n : Int).fdiv (2 ^ (min (8 * j) 64))) := by
    simp only [shiftV]
    rw [if_neg (by omega)]
    rfl
  rw [e, Nat.min_eq_left (by omega)]
  congr 1
  have h2 : (2 : Int) ^ (8 * j) = ((256 ^ j : Nat) : Int) := by
    rw [show (256 : Nat) = 2 ^ 8 from rfl, ← Nat.pow_mul]; simp
  rw [h2, Int.fdiv_eq_ediv_of_nonneg _ (Int.natCast_nonneg _)]
  rfl

theorem wrap_byte (x : Nat) : wrapK .u8 (x : Int) = ((UInt8.ofNat x).toNat : Int) := by
  simp only [wrapK, UInt8.toNat_ofNat']; omega

theorem buildSl_1 {s : Mm} {z : Value} {k : IntKind} {x : Int} : buildSlV s 1 [z] 1 [(0, 1, .int k x)] = some (.slice (some ⟨s.nxt, 0, none⟩) 1 1, .cells [.int k x] false) := rfl

theorem run35 {X : Ctx} (hX : X.fns = fnsOf Try.prog) (ho : ∀ f args, f ≠ 9 → X.orc f args = none) {s : Mm} {v : Value} {n : Nat} {b : List UInt8} (h : Own s 1 v n (bsV b)) {N k : Nat} (hk8 : k ≤ 8) (hn : b.length + k ≤ 70368744177664) :
    CallP X 35 [v, .int .u64 (N : Nat), .int .i64 (k : Nat)] s (fun r s' => Own s' 1 r (b.length + k) (bsV (b ++ beN N k)) ∧ Same s s' (footV v) ∧ (∀ x, footV r x → footV v x ∨ s.nxt ≤ x)) := by
  have hnb : n = b.length := by have := h.length; rw [bsV_length] at this; omega
  subst hnb
  refine CallP_of (hX ▸ ir35_eq) (ho _ _ (by decide)) (Nat.le_of_ble_eq_true rfl) ?_
  refine W_seq (W_ops [0, 1, 2] ?_)
  simp only [o35_0, WO_move, WO_nil, geT_put, frame_nil, frame_cons, evO_const, keep_nil, keep_cons, keepK_eq, Nat.reduceEqDiff, Nat.reduceAdd, reduceIte, eq_self, Nat.zero_add]
  intro fr e0 e1 e2
  refine SeqK_n ?_
  refine W_seq (W_block (W_loop (fun m fr s1 => ∃ v1 dn, dn ++ beN N m = beN N k ∧ m ≤ k ∧ geT fr 0 = v1 ∧ geT fr 1 = .int .u64 (N : Nat) ∧ geT fr 2 = .int .i64 (m : Nat) ∧ Own s1 1 v1 (b.length + dn.length) (bsV (b ++ dn)) ∧ Same s s1 (footV v) ∧ (∀ x, footV v1 x → footV v x ∨ s.nxt ≤ x)) k
    ⟨v, [], rfl, Nat.le_refl _, e0, e1, e2, by simpa using h, .refl _ _, fun x hx => .inl hx⟩ ?_))
  clear e0 e1 e2 fr
  rintro m fr s1 ⟨v1, dn, hdn, hm, e0, e1, e2, ho1, hs1, hf1⟩
  have hl : dn.length + m = k := by have := congrArg List.length hdn; simpa [beN_length] using this
  refine W_assoc ?_
  refine W_seq (W_ops [0, 1, 2, 8] ?_)
  simp only [o35_2, WO_bin, WO_move, bin_gtr, WO_nil, PureK_some, geT_put, evO_tmp, evO_const, keep_nil, keep_cons, keepK_eq, Nat.reduceEqDiff, reduceIte, eq_self, e0, e1, e2]
  clear e0 e1 e2
  intro fr e0 e1 e2 e8
  refine SeqK_n ?_
  refine W_while e8 (fun hlt => ?_) (fun hlt => ?_)
  · obtain ⟨m, rfl⟩ : ∃ j, m = j + 1 := ⟨m - 1, by omega⟩
    refine W_block ?_
    refine W_seq (W_ops [0, 1, 2] ?_)
    simp only [o35_3, WO_bin, WO_move, bin_sub, WO_nil, PureK_some, geT_put, evO_tmp, evO_const, keep_nil, keep_cons, keepK_eq, Nat.reduceEqDiff, reduceIte, eq_self, e0, e1, e2, wrap_i64 (n := ((m + 1 : Nat) : Int) - 1) (by omega) (by omega)]
    clear e0 e1 e2 e8
    intro fr e0 e1 e2
    refine SeqK_n ?_
    have e2' : geT fr 2 = .int .i64 (m : Nat) := by rw [e2]; congr 1; omega
    clear e2
    have e2 := e2'
    clear e2'
    have hnew : Own (newAt s1 (.cells [byteV (UInt8.ofNat (N / 256 ^ m))] false)) 1 v1 (b.length + dn.length) (bsV (b ++ dn)) := ho1.same (F := fun _ => False) .new (fun _ _ h => h)
    have hsrc : SlC (newAt s1 (.cells [byteV (UInt8.ofNat (N / 256 ^ m))] false)) 1 (.slice (some ⟨s1.nxt, 0, none⟩) 1 1) 1 [byteV (UInt8.ofNat (N / 256 ^ m))] :=
      .mk blk_new_self (by rw [nxt_new]; omega) rfl (by simp) (.inl ⟨by omega, by unfold OPEN; omega⟩)
    obtain ⟨v2, s2, ha, ho2, hs2, hf2⟩ := hnew.append (bytes := 1) hsrc.src rfl rfl (by omega) (by omega) (by omega) (by omega)
    refine W_ops [0, 1, 2] ?_
    simp only [o35_4, WO_bin, WO_move, bin_mul, bin_shr, PureK_some, geT_put, evO_tmp, evO_const, Nat.reduceEqDiff, reduceIte, eq_self, e0, e1, e2, wrap_i64 (n := (8 : Int) * (m : Int)) (by omega) (by omega)]
    rw [show (8 : Int) * (m : Int) = ((8 * m : Nat) : Int) by omega, shr_u64 (by omega : m ≤ 7)]
    simp only [WO_append, WO_buildSlice, WO_conv, conv_int, PureK_some, NewK_some, geT_put, evO_tmp, List.map_cons, List.map_nil, Option.map_some, Nat.reduceEqDiff, reduceIte, eq_self, Nat.mul_one, wrap_byte, buildSl_1]
    simp only [byteV] at ha
    simp only [WO_move, WO_nil, MemK_some, geT_put, evO_tmp, keep_nil, keep_cons, keepK_eq, Nat.reduceEqDiff, reduceIte, eq_self, e0, e1, e2, ha]
    clear e0 e1 e2
    intro fr e0 e1 e2
    refine BlkK_n (LoopK_n (m' := m) (by omega) ⟨v2, dn ++ [UInt8.ofNat (N / 256 ^ m)], ?_, by omega, e0, e1, e2, ?_, ?_, ?_⟩)
    · rw [← hdn]; simp [beN]
    · rw [← List.append_assoc, bsV_app]
      have e : bsV [UInt8.ofNat (N / 256 ^ m)] = [byteV (UInt8.ofNat (N / 256 ^ m))] := rfl
      rw [e]
      simpa [Nat.add_assoc] using ho2
    · refine (hs1.trans (.new (F := fun _ => False)) (fun _ _ h => h) (fun _ _ h => h.elim)).trans hs2 (fun _ _ h => h) (fun B hB hf => ?_)
      rcases hf1 B hf with h | h
      · exact h
      · omega
    · intro x hx
      rcases hf2 x hx with h | h
      · exact hf1 x h
      · right; have := hs1.nxt; rw [nxt_new] at h; omega
  · have : m = 0 := by omega
    subst this
    refine LoopK_x (BlkK_e (SeqK_n ?_))
    refine W_seq (W_ops [6] ?_)
    simp only [o35_5, WO_move, WO_nil, geT_put, evO_tmp, keep_nil, keep_cons, keepK_eq, Nat.reduceEqDiff, reduceIte, eq_self, e0]
    clear e0 e1 e2 e8
    intro fr e6
    refine SeqK_n ?_
    have hd : dn = beN N k := by simpa [beN] using hdn
    subst hd
    exact W_ret (Ret1 e6 ⟨by rw [beN_length] at ho1; exact ho1, hs1, hf1⟩)

end Go.Proofs.Ytkfcejhebepdkaa

/- Functions of the tape: floats, sizes, the check of a frame. -/
namespace Go.Proofs.Ytkfcejhebepdkaa
open Go Go.Vam

/-- Is a float a number? -/
def notNan (x : Nat) : Bool := ford .f64 x x == some .eq
def finB (x : Nat) : Bool := notNan x && !(ford .f64 (fabs x) 9218868437227405311 == some .gt)
def largeB (r n : Nat) : Bool := decide (256 < r) || (decide (16384 < n) || decide (262144 < r * n))

/-- A table of small numbers. -/
def TabC (s : Mm) (v : Value) (rows : List (List Int)) : Prop :=
  ∃ cells, SlC s 1 v rows.length cells ∧ ∀ (i : Nat) (r : List Int), rows[i]? = some r → ∃ c, cells[i]? = some c ∧ SlC s 1 c r.length (r.map (.int .i16))


theorem run55 {X : Ctx} (hX : X.fns = fnsOf Try.prog) (ho : ∀ f args, f ≠ 9 → X.orc f args = none) {s : Mm} {x : Nat} : CallP X 55 [.float .f64 x] s (fun r s' => r = .bool (!notNan x) ∧ s = s') := by
  refine CallP_of (hX ▸ ir55_eq) (ho _ _ (by decide)) (Nat.le_of_ble_eq_true rfl) ?_
  refine W_seq (W_ops [0] ?_)
  simp only [o55_0, WO_move, WO_nil, geT_put, frame_nil, frame_cons, evO_const, keep_nil, keep_cons, keepK_eq, Nat.reduceEqDiff, reduceIte, eq_self, Nat.zero_add]
  intro fr e0
  refine SeqK_n ?_
  refine W_seq (W_ops [2] ?_)
  simp only [o55_1, WO_bin, WO_move, binf_neq, WO_nil, PureK_some, geT_put, evO_tmp, keep_nil, keep_cons, keepK_eq, Nat.reduceEqDiff, reduceIte, eq_self, e0]
  clear e0
  intro fr e2
  refine SeqK_n ?_
  exact W_ret (Ret1 e2 ⟨rfl, rfl⟩)

theorem run56 {X : Ctx} (hX : X.fns = fnsOf Try.prog) (ho : ∀ f args, f ≠ 9 → X.orc f args = none) {s : Mm} {x : Nat} : CallP X 56 [.float .f64 x, .int .i64 0] s (fun r s' => r = .bool (ford .f64 (fabs x) 9218868437227405311 == some .gt) ∧ s = s') := by
  refine CallP_of (hX ▸ ir56_eq) (ho _ _ (by decide)) (Nat.le_of_ble_eq_true rfl) ?_
  refine W_seq (W_ops [0, 1] ?_)
  simp only [o56_0, WO_move, WO_nil, geT_put, frame_nil, frame_cons, evO_const, keep_nil, keep_cons, keepK_eq, Nat.reduceEqDiff, Nat.reduceAdd, reduceIte, eq_self, Nat.zero_add]
  intro fr e0 e1
  refine SeqK_n ?_
  refine W_assoc ?_
  refine W_seq (W_ops [0, 1, 6] ?_)
  simp only [o56_1, WO_bin, WO_move, bin_eql, WO_nil, PureK_some, geT_put, evO_tmp, evO_const, keep_nil, keep_cons, keepK_eq, Nat.reduceEqDiff, reduceIte, decide_true, eq_self, e0, e1]
  clear e0 e1
  intro fr e0 e1 e6
  refine SeqK_n ?_
  refine W_seq (W_cond e6 (fun _ => ?_) (fun h => by cases h))
  refine W_ops [0] ?_
  simp only [o56_2, WO_ext, WO_move, WO_nil, PureK_some, geT_put, evO_tmp, keep_nil, keep_cons, keepK_eq, List.map_cons, List.map_nil, Nat.reduceEqDiff, reduceIte, eq_self, e0, extV]
  clear e0 e1 e6
  intro fr e0
  refine SeqK_n ?_
  refine W_seq (W_ops [4] ?_)
  simp only [o56_5, WO_bin, WO_move, binf_gtr, WO_nil, PureK_some, geT_put, evO_tmp, evO_const, keep_nil, keep_cons, keepK_eq, Nat.reduceEqDiff, reduceIte, eq_self, e0]
  clear e0
  intro fr e4
  refine SeqK_n ?_
  exact W_ret (Ret1 e4 ⟨rfl, rfl⟩)

theorem run45 {X : Ctx} (hX : X.fns = fnsOf Try.prog) (ho : ∀ f args, f ≠ 9 → X.orc f args = none) {s : Mm} {x : Nat} : CallP X 45 [.float .f64 x] s (fun r s' => r = .bool (finB x) ∧ s = s') := by
  refine CallP_of (hX ▸ ir45_eq) (ho _ _ (by decide)) (Nat.le_of_ble_eq_true rfl) ?_
  refine W_seq (W_ops [0] ?_)
  simp only [o45_0, WO_move, WO_nil, geT_put, frame_nil, frame_cons, evO_const, keep_nil, keep_cons, keepK_eq, Nat.reduceEqDiff, reduceIte, eq_self, Nat.zero_add]
  intro fr e0
  refine SeqK_n ?_
  refine W_seq (W_ops [2] ?_)
  simp only [o45_1, WO_call, WO_move, geT_put, evO_tmp, List.map_cons, List.map_nil, reduceIte, eq_self, e0]
  refine CallK_of (run55 hX ho (x := x)) ?_
  rintro _ _ ⟨rfl, rfl⟩
  simp only [WO_call, WO_move, WO_pick, pick_b, WO_un, un_not, WO_nil, PureK_some, WO_guard, want_v, wantB_t, geT_put, evO_tmp, evO_const, keep_nil, keep_cons, keepK_eq, List.map_cons, List.map_nil, Nat.reduceEqDiff, reduceIte, Bool.not_not, eq_self, e0]
  cases h : notNan x
  · simp only [reduceIte, Bool.not_false, Bool.false_eq_true]
    clear e0
    intro fr e2
    refine SeqK_n ?_
    exact W_ret (Ret1 e2 ⟨by simp [finB, h], rfl⟩)
  · skip
    simp only [reduceIte, Bool.not_true, eq_self]
    refine CallK_of (run56 hX ho (x := x)) ?_
    rintro _ _ ⟨rfl, rfl⟩
    simp only [WO_move, WO_pick, pick_b, WO_un, un_not, WO_nil, PureK_some, WO_guard, want_v, wantB_t, geT_put, evO_tmp, evO_const, keep_nil, keep_cons, keepK_eq, Nat.reduceEqDiff, reduceIte, eq_self]
    clear e0
    intro fr e2
    refine SeqK_n ?_
    exact W_ret (Ret1 e2 ⟨by simp [finB, h], rfl⟩)

theorem run46 {X : Ctx} (hX : X.fns = fnsOf Try.prog) (ho : ∀ f args, f ≠ 9 → X.orc f args = none) {s : Mm} {r n : Nat} : CallP X 46 [.int .i64 (r : Nat), .int .i64 (n : Nat)] s (fun v s' => v = .bool (largeB r n) ∧ s = s') := by
  refine CallP_of (hX ▸ ir46_eq) (ho _ _ (by decide)) (Nat.le_of_ble_eq_true rfl) ?_
  refine W_seq (W_ops [0, 1] ?_)
  simp only [o46_0, WO_move, WO_nil, geT_put, frame_nil, frame_cons, evO_const, keep_nil, keep_cons, keepK_eq, Nat.reduceEqDiff, Nat.reduceAdd, reduceIte, eq_self, Nat.zero_add]
  intro fr e0 e1
  refine SeqK_n ?_
  by_cases h1 : 256 < r
  · have h1' : (256 : Int) < (r : Int) := by omega
    refine W_seq (W_ops [4] ?_)
    simp only [o46_1, WO_bin, WO_move, WO_pick, pick_b, bin_gtr, bin_mul, WO_nil, PureK_some, WO_guard, want_v, wantB_f, geT_put, evO_tmp, evO_const, keep_nil, keep_cons, keepK_eq, Nat.reduceEqDiff, reduceIte, Bool.not_true, decide_true, eq_self, Bool.false_eq_true, e0, e1, h1']
    clear e0 e1
    intro fr e4
    refine SeqK_n ?_
    exact W_ret (Ret1 e4 ⟨by simp [largeB, h1], rfl⟩)
  · have h1' : ¬ (256 : Int) < (r : Int) := by omega
    by_cases h2 : 16384 < n
    · have h2' : (16384 : Int) < (n : Int) := by omega
      refine W_seq (W_ops [4] ?_)
      simp only [o46_1, WO_bin, WO_move, WO_pick, pick_b, bin_gtr, bin_mul, WO_nil, PureK_some, WO_guard, want_v, wantB_f, geT_put, evO_tmp, evO_const, keep_nil, keep_cons, keepK_eq, Nat.reduceEqDiff, reduceIte, Bool.not_true, Bool.not_false, decide_true, decide_false, eq_self, Bool.false_eq_true, e0, e1, h1', h2']
      clear e0 e1
      intro fr e4
      refine SeqK_n ?_
      exact W_ret (Ret1 e4 ⟨by simp [largeB, h1, h2], rfl⟩)
    · have h2' : ¬ (16384 : Int) < (n : Int) := by omega
      have hm : r * n ≤ 256 * 16384 := Nat.mul_le_mul (by omega) (by omega)
      refine W_seq (W_ops [4] ?_)
      simp only [o46_1, WO_bin, WO_move, WO_pick, pick_b, bin_gtr, bin_mul, WO_nil, PureK_some, WO_guard, want_v, wantB_f, geT_put, evO_tmp, evO_const, keep_nil, keep_cons, keepK_eq, Nat.reduceEqDiff, reduceIte, Bool.not_false, decide_false, eq_self, Bool.false_eq_true, e0, e1, h1', h2', ← Int.natCast_mul, wrap_i64 (n := ((r * n : Nat) : Int)) (by omega) (by omega)]
      clear e0 e1
      intro fr e4
      refine SeqK_n ?_
      refine W_ret (Ret1 e4 ⟨?_, rfl⟩)
      simp only [largeB, h1, h2, decide_false, Bool.false_or]
      congr 1
      exact decide_eq_decide.2 (by omega)

end Go.Proofs.Ytkfcejhebepdkaa

/- The check of a frame. -/
namespace Go.Proofs.Ytkfcejhebepdkaa
open Go Go.Vam

def okU (x : Nat) : Bool := finB x && ford .f64 x 0 == some .gt

/-- The columns of a table. -/
def colsN (re : List (List Int)) : Nat := (re.headD []).length
def okUp (re im : List (List Int)) (i : Nat) : Bool := decide (re.length = im.length) && ((re.take i).all (fun r => decide (r.length = colsN re)) && (im.take i).all (fun r => decide (r.length = colsN re)))
def okB (re im : List (List Int)) : Bool := okUp re im re.length
def chkE (T U : Nat) (re im : List (List Int)) : Nat :=
  if (finB T && okU U) = false then 6 else if okB re im = false then 5 else if largeB re.length (colsN re) = true then 3 else 0
def chkN (T U : Nat) (re im : List (List Int)) : Nat := if chkE T U re im = 0 then colsN re else 0

theorem okUp_mono {re im : List (List Int)} {i j : Nat} (hij : i ≤ j) (h : okUp re im i = false) : okUp re im j = false := by
  unfold okUp at *
  rw [Bool.and_eq_false_iff] at *
  rcases h with h | h
  · exact .inl h
  · right
    rw [Bool.and_eq_false_iff] at *
    rcases h with h | h
    · left
      rw [List.all_eq_false] at *
      obtain ⟨x, hx, h⟩ := h
      exact ⟨x, List.take_subset_take_left _ hij hx, h⟩
    · right
      rw [List.all_eq_false] at *
      obtain ⟨x, hx, h⟩ := h
      exact ⟨x, List.take_subset_take_left _ hij hx, h⟩

theorem okUp_succ {re im : List (List Int)} {i : Nat} {a b : List Int} (ha : re[i]? = some a) (hb : im[i]? = some b) (h : okUp re im i = true) : okUp re im (i + 1) = (decide (a.length = colsN re) && decide (b.length = colsN re)) := by
  unfold okUp at *
  simp only [Bool.and_eq_true] at h
  obtain ⟨h1, h2, h3⟩ := h
  rw [List.take_add_one, List.take_add_one, ha, hb, h1]
  simp only [Option.toList_some, List.all_append, h2, h3, List.all_cons, List.all_nil, Bool.true_and, Bool.and_true]

theorem TabC.row {s : Mm} {v : Value} {rows : List (List Int)} (h : TabC s v rows) : ∃ cells, SlC s 1 v rows.length cells ∧ ∀ (i : Nat) (r : List Int), rows[i]? = some r → ∃ c, cells[i]? = some c ∧ SlC s 1 c r.length (r.map (.int .i16)) := h

theorem TabC.one {s : Mm} {v : Value} {rows : List (List Int)} (h : TabC s v rows) : oneCell v = true := by obtain ⟨c, h1, _⟩ := h; exact h1.one


/-- All that a table names lies below. -/
theorem run34 {X : Ctx} (hX : X.fns = fnsOf Try.prog) (ho : ∀ f args, f ≠ 9 → X.orc f args = none) {s : Mm} {rv iv : Value} {T U : Nat} {re im : List (List Int)} (hr : TabC s rv re) (hi : TabC s iv im) (hlr : re.length ≤ 9223372036854775807) :
    CallP X 34 [.agg #[.float .f64 T, .float .f64 U, rv, iv]] s (fun r s' => r = .tuple #[.int .i64 (chkN T U re im : Nat), .int .i64 (chkE T U re im : Nat)] ∧ Same s s' (fun _ => False)) := by
  obtain ⟨cr, hr1, hr2⟩ := hr
  obtain ⟨ci, hi1, hi2⟩ := hi
  refine CallP_of (hX ▸ ir34_eq) (ho _ _ (by decide)) (Nat.le_of_ble_eq_true rfl) ?_
  have hbx : (Value.agg #[.float .f64 T, .float .f64 U, rv, iv]).cells.toList = [.float .f64 T, .float .f64 U, rv, iv] := rfl
  refine W_seq (W_ops [1] ?_)
  simp only [o34_0, WO_box, WO_move, WO_nil, geT_put, frame_nil, frame_cons, evO_tmp, evO_const, keep_nil, keep_cons, keepK_eq, Nat.reduceEqDiff, reduceIte, eq_self, Nat.zero_add, hbx]
  intro fr e1
  refine SeqK_n ?_
  have hg : Store.get (newAt s (.cells [.float .f64 T, .float .f64 U, rv, iv] false)).h s.nxt = some (.cells [.float .f64 T, .float .f64 U, rv, iv] false) := by rw [get_new, if_pos rfl]
  have hs1 : Same s (newAt s (.cells [.float .f64 T, .float .f64 U, rv, iv] false)) (fun _ => False) := .new
  generalize newAt s (.cells [.float .f64 T, .float .f64 U, rv, iv] false) = s1 at hg hs1 ⊢
  replace hr1 := hr1.same hs1 (fun _ _ h => h)
  replace hi1 := hi1.same hs1 (fun _ _ h => h)
  have hr2' : ∀ (i : Nat) (r : List Int), re[i]? = some r → ∃ c, cr[i]? = some c ∧ SlC s1 1 c r.length (r.map (.int .i16)) := fun i r h => let ⟨c, a, b⟩ := hr2 i r h; ⟨c, a, b.same hs1 (fun _ _ h => h)⟩
  have hi2' : ∀ (i : Nat) (r : List Int), im[i]? = some r → ∃ c, ci[i]? = some c ∧ SlC s1 1 c r.length (r.map (.int .i16)) := fun i r h => let ⟨c, a, b⟩ := hi2 i r h; ⟨c, a, b.same hs1 (fun _ _ h => h)⟩
  clear hr2 hi2
  have hr2 := hr2'
  have hi2 := hi2'
  clear hr2' hi2'
  have L0 := load_g (o := 0) hg
  have L1 := load_g (o := 1) hg
  have L2 := load_g (o := 2) hg
  have L3 := load_g (o := 3) hg
  simp only [List.getElem?_cons_zero, List.getElem?_cons_succ] at L0 L1 L2 L3
  refine W_assoc ?_
  refine W_seq (W_opsB [1, 22] (fun fr1 s3 => s1 = s3 ∧ geT fr1 1 = .pointer (some ⟨s.nxt, 0, none⟩) ∧ geT fr1 22 = .bool (!(finB T && okU U))) ?_ ?_)
  · intro R' hR'
    simp only [o34_1, WO_fieldAddr, WO_load, WO_call, PureK_some, geT_put, evO_tmp, List.map_cons, List.map_nil, Nat.reduceEqDiff, reduceIte, fieldAddr_p, eq_self, Nat.add_zero, e1, L0]
    refine CallK_of (run45 hX ho) ?_
    rintro _ _ ⟨rfl, rfl⟩
    simp only [WO_bin, WO_call, WO_fieldAddr, fieldAddr_p, WO_load, WO_move, WO_pick, pick_b, WO_un, un_not, binf_gtr, PureK_some, WO_guard, want_v, wantB_f, geT_put, evO_tmp, evO_const, List.map_cons, List.map_nil, Nat.reduceEqDiff, reduceIte, Bool.not_not, eq_self, Nat.zero_add, e1, L1]
    cases hx : finB T with
    | false =>
      simp only [WO_nil, PureK_some, geT_put, wantB_f, keep_nil, keep_cons, keepK_eq, Nat.reduceEqDiff, reduceIte, pick_b, Bool.not_true, Bool.not_false, eq_self, Bool.false_eq_true, e1]
      intro fr e1 e22
      exact hR' _ _ ⟨rfl, e1, by rw [e22, hx]; rfl⟩
    | true =>
      simp only [reduceIte, Bool.not_true, eq_self, Bool.false_eq_true]
      refine CallK_of (run45 hX ho) ?_
      rintro _ _ ⟨rfl, rfl⟩
      simp only [WO_bin, WO_fieldAddr, fieldAddr_p, WO_load, WO_move, WO_pick, pick_b, WO_un, un_not, binf_gtr, WO_nil, PureK_some, WO_guard, want_v, wantB_f, geT_put, evO_tmp, evO_const, keep_nil, keep_cons, keepK_eq, Nat.reduceEqDiff, reduceIte, Bool.not_false, Bool.not_not, eq_self, Bool.false_eq_true, Nat.zero_add, e1, L1]
      cases hy : finB U with
      | false =>
        simp only [reduceIte, Bool.not_false, eq_self, Bool.false_eq_true]
        intro fr e1 e22
        exact hR' _ _ ⟨rfl, e1, by rw [e22, hx]; simp [okU, hy]⟩
      | true =>
        simp only [reduceIte, Bool.not_true, eq_self, Bool.false_eq_true]
        intro fr e1 e22
        exact hR' _ _ ⟨rfl, e1, by rw [e22, hx]; simp [okU, hy]⟩
  clear e1 fr
  rintro fr _ ⟨rfl, e1, e22⟩
  refine SeqK_n (W_seq (W_cond e22 (fun hc => ?_) (fun hc => W_skip (SeqK_n ?_))))
  · have he : chkE T U re im = 6 := by unfold chkE; rw [if_pos (by rw [Bool.not_eq_true'] at hc; exact hc)]
    refine W_seq (W_ops [2, 3] ?_)
    simp only [o34_2, WO_move, WO_nil, geT_put, evO_const, keep_nil, keep_cons, keepK_eq, Nat.reduceEqDiff, reduceIte, eq_self]
    clear e1 e22
    intro fr e2 e3
    refine SeqK_n ?_
    exact W_ret (SeqK_r (Ret2 e2 e3 ⟨by rw [chkN, he]; rfl, hs1⟩))
  have he0 : chkE T U re im = if okB re im = false then 5 else if largeB re.length (colsN re) = true then 3 else 0 := by
    unfold chkE
    rw [if_neg (by rw [Bool.not_eq_false'] at hc; rw [hc]; simp)]
  refine W_seq (W_ops [1, 4] ?_)
  simp only [o34_3, WO_move, WO_nil, geT_put, evO_const, keep_nil, keep_cons, keepK_eq, Nat.reduceEqDiff, reduceIte, eq_self, e1]
  clear e1 e22
  intro fr e1 e4
  refine SeqK_n ?_
  refine W_assoc ?_
  refine W_seq (W_ops [1, 4, 26] ?_)
  simp only [o34_4, WO_bin, WO_bu, WO_fieldAddr, fieldAddr_p, WO_load, bin_gtr, WO_nil, PureK_some, geT_put, evO_tmp, evO_const, keep_nil, keep_cons, keepK_eq, List.map_cons, List.map_nil, Nat.reduceEqDiff, reduceIte, eq_self, Nat.zero_add, e1, e4, L2, hr1.len]
  clear e1 e4
  intro fr e1 e4 e26
  refine SeqK_n ?_
  refine W_seq (W_cutN (fun fr1 s3 => s1 = s3 ∧ geT fr1 1 = .pointer (some ⟨s.nxt, 0, none⟩) ∧ geT fr1 4 = .int .i64 (colsN re : Nat)) ?_ ?_)
  · intro R' hR'
    refine W_if e26 (fun hc => ?_) (fun hc => W_skip (hR' _ _ ⟨rfl, e1, ?_⟩))
    · have hl : 0 < re.length := by omega
      obtain ⟨c, hc1, hc2⟩ := hr2 0 re[0] (by simp)
      refine W_ops [1, 4] ?_
      simp only [o34_5, WO_addrSl, WO_bu, WO_fieldAddr, fieldAddr_p, WO_load, WO_move, WO_nil, PureK_some, geT_put, evO_tmp, evO_const, keep_nil, keep_cons, keepK_eq, List.map_cons, List.map_nil, Nat.reduceEqDiff, reduceIte, eq_self, Nat.zero_add, Nat.mul_one, e1, e4, L2, hr1.addr (i := 0) (k := 0) rfl hl, hr1.load (j := 0) hc1, hc2.len]
      clear e1 e4 e26
      intro fr e1 e4
      refine hR' _ _ ⟨rfl, e1, ?_⟩
      rw [e4, colsN]
      cases re with
      | nil => simp at hl
      | cons a l => rfl
    · have hl : re.length = 0 := by omega
      rw [e4, colsN]
      cases re with
      | nil => rfl
      | cons a l => simp at hl
  clear e1 e4 e26 fr
  rintro fr _ ⟨rfl, e1, e4⟩
  have hdl : decide (((re.length : Nat) : Int) = (im.length : Nat)) = okUp re im 0 := by
    have : decide (((re.length : Nat) : Int) = (im.length : Nat)) = decide (re.length = im.length) := decide_eq_decide.2 (by omega)
    rw [this]; simp [okUp]
  refine SeqK_n ?_
  refine W_seq (W_ops [1, 4, 5] ?_)
  simp only [o34_6, WO_bin, WO_bu, WO_fieldAddr, fieldAddr_p, WO_load, WO_move, bin_eql, WO_nil, PureK_some, geT_put, evO_tmp, keep_nil, keep_cons, keepK_eq, List.map_cons, List.map_nil, Nat.reduceEqDiff, reduceIte, eq_self, Nat.zero_add, e1, e4, L2, L3, hr1.len, hi1.len, hdl]
  clear e1 e4
  intro fr e1 e4 e5
  refine SeqK_n ?_
  refine W_assoc ?_
  refine W_seq (W_ops [1, 4, 5, 6] ?_)
  simp only [o34_7, WO_move, WO_nil, geT_put, evO_const, keep_nil, keep_cons, keepK_eq, Nat.reduceEqDiff, reduceIte, eq_self, e1, e4, e5]
  clear e1 e4 e5
  intro fr e1 e4 e5 e6
  refine SeqK_n ?_
  have hloop : W X (.block 0 (.loop b34_8)) fr s1 (fun e fr1 s3 => e = .normal ∧ s1 = s3 ∧ geT fr1 1 = .pointer (some ⟨s.nxt, 0, none⟩) ∧ geT fr1 4 = .int .i64 (colsN re : Nat) ∧ geT fr1 5 = .bool (okB re im)) := by
    refine W_block (W_loop (fun m fr s3 => ∃ k, k + m = re.length ∧ s1 = s3 ∧ geT fr 1 = .pointer (some ⟨s.nxt, 0, none⟩) ∧ geT fr 4 = .int .i64 (colsN re : Nat) ∧ geT fr 5 = .bool (okUp re im k) ∧ geT fr 6 = .int .i64 (k : Nat)) re.length ⟨0, by omega, rfl, e1, e4, e5, e6⟩ ?_)
    clear e1 e4 e5 e6 fr
    rintro m fr _ ⟨k, hk, rfl, e1, e4, e5, e6⟩
    refine W_assoc ?_
    cases hok : okUp re im k with
    | false =>
      rw [hok] at e5
      refine W_seq (W_ops [1, 4, 5, 6, 46] ?_)
      simp only [o34_9, WO_bin, WO_bu, WO_fieldAddr, fieldAddr_p, WO_load, WO_move, WO_pick, pick_b, WO_nil, PureK_some, WO_guard, want_v, wantB_t, geT_put, evO_tmp, evO_const, keep_nil, keep_cons, keepK_eq, List.map_cons, List.map_nil, Nat.reduceEqDiff, reduceIte, eq_self, Bool.false_eq_true, Nat.zero_add, e1, e4, e5, e6]
      clear e1 e4 e5 e6
      intro fr e1 e4 e5 e6 e46
      refine SeqK_n ?_
      refine W_seq (W_cond e46 (fun h => by cases h) (fun _ => W_exit (SeqK_x (LoopK_x (BlkK_e ⟨rfl, rfl, e1, e4, ?_⟩)))))
      rw [e5, okB, okUp_mono (by omega) hok]
    | true =>
      rw [hok] at e5
      refine W_seq (W_ops [1, 4, 5, 6, 46] ?_)
      simp only [o34_9, WO_bin, WO_bu, WO_fieldAddr, fieldAddr_p, WO_load, WO_move, WO_pick, pick_b, bin_lss, WO_nil, PureK_some, WO_guard, want_v, wantB_t, geT_put, evO_tmp, evO_const, keep_nil, keep_cons, keepK_eq, List.map_cons, List.map_nil, Nat.reduceEqDiff, reduceIte, eq_self, Nat.zero_add, e1, e4, e5, e6, L2, hr1.len]
      clear e1 e4 e5 e6
      intro fr e1 e4 e5 e6 e46
      refine SeqK_n ?_
      refine W_while e46 (fun hlt => ?_) (fun hlt => LoopK_x (BlkK_e ⟨rfl, rfl, e1, e4, ?_⟩))
      · have hk1 : k < re.length := by omega
        have hll : re.length = im.length := by
          unfold okUp at hok
          simp only [Bool.and_eq_true, decide_eq_true_eq] at hok
          exact hok.1
        have hk2 : k < im.length := by omega
        obtain ⟨c, hc1, hc2⟩ := hr2 k re[k] (by simp [hk1])
        obtain ⟨c', hc1', hc2'⟩ := hi2 k im[k] (by simp [hk2])
        have hnx := okUp_succ (by simp [hk1] : re[k]? = some re[k]) (by simp [hk2] : im[k]? = some im[k]) hok
        have hd1 : decide (((re[k].length : Nat) : Int) = (colsN re : Nat)) = decide (re[k].length = colsN re) := decide_eq_decide.2 (by omega)
        have hd2 : decide (((im[k].length : Nat) : Int) = (colsN re : Nat)) = decide (im[k].length = colsN re) := decide_eq_decide.2 (by omega)
        refine W_seq (W_cutN (fun fr1 s3 => s1 = s3 ∧ geT fr1 1 = .pointer (some ⟨s.nxt, 0, none⟩) ∧ geT fr1 4 = .int .i64 (colsN re : Nat) ∧ geT fr1 5 = .bool (okUp re im (k + 1)) ∧ geT fr1 6 = .int .i64 (k : Nat)) ?_ ?_)
        · intro R' hR'
          refine W_block ?_
          rw [hnx] at hR'
          cases hd : decide (re[k].length = colsN re) with
          | false =>
            refine W_ops [1, 4, 5, 6] ?_
            simp only [o34_10, WO_addrSl, WO_bin, WO_bu, WO_fieldAddr, fieldAddr_p, WO_load, WO_move, WO_pick, pick_b, bin_eql, WO_nil, PureK_some, WO_guard, want_v, wantB_t, geT_put, evO_tmp, evO_const, keep_nil, keep_cons, keepK_eq, List.map_cons, List.map_nil, Nat.reduceEqDiff, reduceIte, eq_self, Bool.false_eq_true, Nat.zero_add, Nat.mul_one, e1, e4, e5, e6, L2, L3, hr1.addr (i := (k : Int)) (k := k) rfl hk1, hr1.load (j := k) hc1, hc2.len, hd1, hd]
            clear e1 e4 e5 e6 e46
            intro fr e1 e4 e5 e6
            exact BlkK_n (hR' _ _ ⟨rfl, e1, e4, by rw [e5, hd]; rfl, e6⟩)
          | true =>
            refine W_ops [1, 4, 5, 6] ?_
            simp only [o34_10, WO_addrSl, WO_bin, WO_bu, WO_fieldAddr, fieldAddr_p, WO_load, WO_move, WO_pick, pick_b, bin_eql, WO_nil, PureK_some, WO_guard, want_v, wantB_t, geT_put, evO_tmp, evO_const, keep_nil, keep_cons, keepK_eq, List.map_cons, List.map_nil, Nat.reduceEqDiff, reduceIte, eq_self, Nat.zero_add, Nat.mul_one, e1, e4, e5, e6, L2, L3, hr1.addr (i := (k : Int)) (k := k) rfl hk1, hr1.load (j := k) hc1, hc2.len, hd1, hd, hi1.addr (i := (k : Int)) (k := k) rfl hk2, hi1.load (j := k) hc1', hc2'.len, hd2]
            clear e1 e4 e5 e6 e46
            intro fr e1 e4 e5 e6
            exact BlkK_n (hR' _ _ ⟨rfl, e1, e4, by rw [e5, hd, Bool.true_and], e6⟩)
        clear e1 e4 e5 e6 e46 fr
        rintro fr _ ⟨rfl, e1, e4, e5, e6⟩
        refine SeqK_n ?_
        refine W_ops [1, 4, 5, 6] ?_
        simp only [o34_11, WO_bin, WO_move, bin_add, WO_nil, PureK_some, geT_put, evO_tmp, evO_const, keep_nil, keep_cons, keepK_eq, Nat.reduceEqDiff, reduceIte, eq_self, e1, e4, e5, e6, wrap_i64 (n := (k : Int) + 1) (by omega) (by omega)]
        clear e1 e4 e5 e6
        intro fr e1 e4 e5 e6
        exact LoopK_n (m' := m - 1) (by omega) ⟨k + 1, by omega, rfl, e1, e4, e5, e6⟩
      · have : k = re.length := by omega
        subst this
        rw [e5, okB, hok]
  refine W_seq (hloop.mono ?_)
  clear e1 e4 e5 e6 fr hloop
  rintro _ fr _ ⟨rfl, rfl, e1, e4, e5⟩
  refine SeqK_n ?_
  refine W_seq (W_block ?_)
  refine W_seq (W_ops [1, 4, 67] ?_)
  simp only [o34_12, WO_move, WO_un, un_not, WO_nil, PureK_some, geT_put, evO_tmp, keep_nil, keep_cons, keepK_eq, Nat.reduceEqDiff, reduceIte, eq_self, e1, e4, e5]
  clear e1 e4 e5
  intro fr e1 e4 e67
  refine SeqK_n ?_
  cases hok : okB re im with
  | false =>
    rw [hok] at e67 he0
    refine W_cond e67 (fun _ => ?_) (fun h => by cases h)
    refine W_seq (W_ops [2, 3] ?_)
    simp only [o34_13, WO_move, WO_nil, geT_put, evO_const, keep_nil, keep_cons, keepK_eq, Nat.reduceEqDiff, reduceIte, eq_self]
    clear e1 e4 e67
    intro fr e2 e3
    refine SeqK_n ?_
    exact W_ret (BlkK_r (SeqK_r (Ret2 e2 e3 ⟨by rw [chkN, he0]; rfl, hs1⟩)))
  | true =>
    rw [hok] at e67 he0
    refine W_cond e67 (fun h => by cases h) (fun _ => ?_)
    refine W_seq (W_ops [4, 70] ?_)
    simp only [o34_14, WO_bu, WO_call, WO_fieldAddr, fieldAddr_p, WO_load, WO_move, PureK_some, geT_put, evO_tmp, List.map_cons, List.map_nil, Nat.reduceEqDiff, reduceIte, eq_self, Nat.zero_add, e1, e4, L2, hr1.len]
    refine CallK_of (run46 hX ho) ?_
    rintro _ _ ⟨rfl, rfl⟩
    simp only [WO_move, WO_nil, geT_put, evO_tmp, keep_nil, keep_cons, keepK_eq, Nat.reduceEqDiff, reduceIte, eq_self, e4]
    clear e1 e4 e67
    intro fr e4 e70
    refine SeqK_n ?_
    cases hL : largeB re.length (colsN re) with
    | true =>
      rw [hL] at e70 he0
      refine W_cond e70 (fun _ => ?_) (fun h => by cases h)
      refine W_seq (W_ops [2, 3] ?_)
      simp only [o34_15, WO_move, WO_nil, geT_put, evO_const, keep_nil, keep_cons, keepK_eq, Nat.reduceEqDiff, reduceIte, eq_self]
      clear e4 e70
      intro fr e2 e3
      refine SeqK_n ?_
      exact W_ret (BlkK_r (SeqK_r (Ret2 e2 e3 ⟨by rw [chkN, he0]; rfl, hs1⟩)))
    | false =>
      rw [hL] at e70 he0
      refine W_cond e70 (fun h => by cases h) (fun _ => W_skip (BlkK_n (SeqK_n ?_)))
      refine W_seq (W_ops [2, 3] ?_)
      simp only [o34_16, WO_move, WO_nil, geT_put, evO_tmp, evO_const, keep_nil, keep_cons, keepK_eq, Nat.reduceEqDiff, reduceIte, eq_self, e4]
      clear e4 e70
      intro fr e2 e3
      refine SeqK_n ?_
      exact W_ret (Ret2 e2 e3 ⟨by rw [chkN, he0]; rfl, hs1⟩)

end Go.Proofs.Ytkfcejhebepdkaa

/- A frame's bytes. -/
namespace Go.Proofs.Ytkfcejhebepdkaa
open Go Go.Vam

def u16 (x : Int) : Nat := (x % 65536).toNat

/-- Two rows of small numbers, in turns, as bytes. -/
def encRow : List Int → List Int → List UInt8
  | a :: r, b :: i => beN (u16 a) 2 ++ (beN (u16 b) 2 ++ encRow r i)
  | _, _ => []
def encRows : List (List Int) → List (List Int) → List UInt8
  | a :: r, b :: i => encRow a b ++ encRows r i
  | _, _ => []

theorem encRow_app : ∀ (a b a' b' : List Int), a.length = b.length → encRow (a ++ a') (b ++ b') = encRow a b ++ encRow a' b' := by
  intro a
  induction a with
  | nil => intro b a' b' h; cases b with
    | nil => rfl
    | cons x b => simp at h
  | cons x a ih =>
    intro b a' b' h
    cases b with
    | nil => simp at h
    | cons y b => simp only [List.cons_append, encRow, ih b a' b' (by simpa using h), List.append_assoc]

theorem encRows_app : ∀ (a b a' b' : List (List Int)), a.length = b.length → encRows (a ++ a') (b ++ b') = encRows a b ++ encRows a' b' := by
  intro a
  induction a with
  | nil => intro b a' b' h; cases b with
    | nil => rfl
    | cons x b => simp at h
  | cons x a ih =>
    intro b a' b' h
    cases b with
    | nil => simp at h
    | cons y b => simp only [List.cons_append, encRows, ih b a' b' (by simpa using h), List.append_assoc]

theorem encRow_take {a b : List Int} (h : a.length = b.length) {k : Nat} (hk : k < a.length) : encRow (a.take (k + 1)) (b.take (k + 1)) = encRow (a.take k) (b.take k) ++ (beN (u16 a[k]) 2 ++ beN (u16 (b[k]'(by omega))) 2) := by
  rw [List.take_add_one, List.take_add_one, encRow_app _ _ _ _ (by simp [h]), List.getElem?_eq_getElem hk, List.getElem?_eq_getElem (by omega)]
  simp [encRow]

theorem encRows_take {a b : List (List Int)} (h : a.length = b.length) {k : Nat} (hk : k < a.length) : encRows (a.take (k + 1)) (b.take (k + 1)) = encRows (a.take k) (b.take k) ++ encRow a[k] (b[k]'(by omega)) := by
  rw [List.take_add_one, List.take_add_one, encRows_app _ _ _ _ (by simp [h]), List.getElem?_eq_getElem hk, List.getElem?_eq_getElem (by omega)]
  simp [encRows]

theorem encRow_length : ∀ (a b : List Int), a.length = b.length → (encRow a b).length = 4 * a.length := by
  intro a
  induction a with
  | nil => intro b h; rfl
  | cons x a ih =>
    intro b h
    cases b with
    | nil => simp at h
    | cons y b => simp only [encRow, List.length_append, beN_length, List.length_cons, ih b (by simpa using h)]; omega

theorem encRows_length {n : Nat} : ∀ (a b : List (List Int)), a.length = b.length → (∀ r ∈ a, r.length = n) → (∀ r ∈ b, r.length = n) → (encRows a b).length = 4 * (a.length * n) := by
  intro a
  induction a with
  | nil => intro b h _ _; simp [encRows]
  | cons x a ih =>
    intro b h h1 h2
    cases b with
    | nil => simp at h
    | cons y b =>
      have e1 := h1 x (by simp)
      have e2 := h2 y (by simp)
      simp only [encRows, List.length_append, List.length_cons, encRow_length x y (by omega), ih b (by simpa using h) (fun r hr => h1 r (by simp [hr])) (fun r hr => h2 r (by simp [hr])), e1, Nat.add_mul]; omega

def hdr : List UInt8 := [76, 75, 49]

/-- The bytes ahead of the numbers. -/
def encHead (T U R n : Nat) : List UInt8 := hdr ++ beN (20 + 4 * R * n) 4 ++ beN T 8 ++ beN U 8 ++ beN R 2 ++ beN n 2
def encBody (T U : Nat) (re im : List (List Int)) : List UInt8 := encHead T U re.length (colsN re) ++ encRows re im
def encF (T U : Nat) (re im : List (List Int)) : List UInt8 := encBody T U re im ++ beN (fnvF 2166136261 (encBody T U re im)) 4

theorem okB_spec {re im : List (List Int)} (h : okB re im = true) : re.length = im.length ∧ (∀ r ∈ re, r.length = colsN re) ∧ (∀ r ∈ im, r.length = colsN re) := by
  unfold okB okUp at h
  simp only [Bool.and_eq_true, decide_eq_true_eq, List.all_eq_true] at h
  obtain ⟨h1, h2, h3⟩ := h
  rw [h1, List.take_length] at h3
  rw [List.take_length] at h2
  exact ⟨h1, h2, h3⟩

theorem chk_spec {T U : Nat} {re im : List (List Int)} (h : chkE T U re im = 0) : finB T = true ∧ okU U = true ∧ okB re im = true ∧ largeB re.length (colsN re) = false := by
  unfold chkE at h
  split at h
  · cases h
  · rename_i h1
    split at h
    · cases h
    · split at h
      · cases h
      · rename_i h2 h3
        simp only [Bool.not_eq_false, Bool.and_eq_true] at h1 h2
        simp only [Bool.not_eq_true] at h3
        exact ⟨h1.1, h1.2, h2, h3⟩

theorem large_spec {r n : Nat} (h : largeB r n = false) : r ≤ 256 ∧ n ≤ 16384 ∧ r * n ≤ 262144 := by
  simp only [largeB, Bool.or_eq_false_iff, decide_eq_false_iff_not] at h
  omega

theorem fin_known {x : Nat} (h : finB x = true) : fknown .f64 x = true := by
  unfold fknown
  rw [bne_iff_ne]
  intro e
  subst e
  exact absurd h (by decide +kernel)

theorem bits_eq {x : Nat} (h : finB x = true) : extV 0 [.float .f64 x] = some (.int .u64 (x : Nat)) := by
  simp only [extV, fin_known h, if_true]

theorem conv_u16 {x : Int} : wrapK .u16 x = (u16 x : Nat) := by
  simp only [wrapK, u16]; omega


/-- A call of put, told of the state before all. -/
theorem put_to {X : Ctx} (hX : X.fns = fnsOf Try.prog) (ho : ∀ f args, f ≠ 9 → X.orc f args = none) {s0 s : Mm} {v : Value} {n : Nat} {b : List UInt8} (h : Own s 1 v n (bsV b)) (hs : Same s0 s (fun _ => False)) (hf : ∀ x, footV v x → s0.nxt ≤ x) {N k : Nat} (hk8 : k ≤ 8) (hn : b.length + k ≤ 70368744177664) :
    CallP X 35 [v, .int .u64 (N : Nat), .int .i64 (k : Nat)] s (fun r s' => Own s' 1 r (b.length + k) (bsV (b ++ beN N k)) ∧ Same s0 s' (fun _ => False) ∧ (∀ x, footV r x → s0.nxt ≤ x) ∧ Same s s' (footV v)) := by
  refine (run35 hX ho h hk8 hn).mono ?_
  rintro r s' ⟨a, b, c⟩
  refine ⟨a, hs.trans b (fun _ _ h => h) (fun B hB h => by have := hf B h; omega), fun x hx => ?_, b⟩
  rcases c x hx with h | h
  · exact hf x h
  · have := hs.nxt; omega

set_option maxHeartbeats 1000000 in
theorem run18 {X : Ctx} (hX : X.fns = fnsOf Try.prog) (ho : ∀ f args, f ≠ 9 → X.orc f args = none) {s : Mm} {rv iv : Value} {T U : Nat} {re im : List (List Int)} (hr : TabC s rv re) (hi : TabC s iv im) (hlr : re.length ≤ 9223372036854775807) :
    CallP X 18 [.agg #[.float .f64 T, .float .f64 U, rv, iv]] s (fun r s' => Same s s' (fun _ => False) ∧ ((chkE T U re im ≠ 0 ∧ r = .tuple #[.slice none 0 0, .int .i64 (chkE T U re im : Nat)]) ∨
      (chkE T U re im = 0 ∧ ∃ v n, r = .tuple #[v, .int .i64 0] ∧ Own s' 1 v n (bsV (encF T U re im)) ∧ (∀ x, footV v x → s.nxt ≤ x)))) := by
  refine CallP_of (hX ▸ ir18_eq) (ho _ _ (by decide)) (Nat.le_of_ble_eq_true rfl) ?_
  have hbx : (Value.agg #[.float .f64 T, .float .f64 U, rv, iv]).cells.toList = [.float .f64 T, .float .f64 U, rv, iv] := rfl
  refine W_seq (W_ops [1] ?_)
  simp only [o18_0, WO_box, WO_move, WO_nil, geT_put, frame_nil, frame_cons, evO_tmp, evO_const, keep_nil, keep_cons, keepK_eq, Nat.reduceEqDiff, reduceIte, eq_self, Nat.zero_add, hbx]
  intro fr e1
  refine SeqK_n ?_
  have hg : Store.get (newAt s (.cells [.float .f64 T, .float .f64 U, rv, iv] false)).h s.nxt = some (.cells [.float .f64 T, .float .f64 U, rv, iv] false) := by rw [get_new, if_pos rfl]
  have hs1 : Same s (newAt s (.cells [.float .f64 T, .float .f64 U, rv, iv] false)) (fun _ => False) := .new
  have hnx : s.nxt < (newAt s (.cells [.float .f64 T, .float .f64 U, rv, iv] false)).nxt := by rw [nxt_new]; omega
  generalize newAt s (.cells [.float .f64 T, .float .f64 U, rv, iv] false) = s1 at hg hs1 hnx ⊢
  have tabs : ∀ {s'} {v} {rows}, Same s s' (fun _ => False) → TabC s v rows → TabC s' v rows := fun hs ⟨c, a, b⟩ => ⟨c, a.same hs (fun _ _ h => h), fun i r h => let ⟨x, y, z⟩ := b i r h; ⟨x, y, z.same hs (fun _ _ h => h)⟩⟩
  have hr1 := tabs hs1 hr
  have hi1 := tabs hs1 hi
  refine W_seq (W_ops [1, 4, 5] ?_)
  simp only [o18_1, WO_call, WO_load, PureK_some, geT_put, evO_tmp, List.map_cons, List.map_nil, reduceIte, eq_self, e1, loadn_all (n := 4) hg rfl]
  refine CallK_of (run34 hX ho hr1 hi1 hlr) ?_
  rintro _ s2 ⟨rfl, hs2⟩
  simp only [WO_extract, ext_20, ext_21, WO_move, WO_nil, PureK_some, geT_put, evO_tmp, keep_nil, keep_cons, keepK_eq, Nat.reduceEqDiff, reduceIte, eq_self, e1]
  clear e1
  intro fr e1 e4 e5
  refine SeqK_n ?_
  refine W_assoc ?_
  refine W_seq (W_ops [1, 4, 5, 15] ?_)
  simp only [o18_2, WO_bin, WO_move, bin_neq, WO_nil, PureK_some, geT_put, evO_tmp, evO_const, keep_nil, keep_cons, keepK_eq, Nat.reduceEqDiff, reduceIte, eq_self, e1, e4, e5]
  clear e1 e4 e5
  intro fr e1 e4 e5 e15
  refine SeqK_n ?_
  refine W_seq (W_ifn e15 (fun hc => ?_) (fun hc => W_skip (SeqK_n ?_)))
  · refine W_seq (W_ops [2, 3] ?_)
    simp only [o18_3, WO_move, WO_nil, geT_put, evO_tmp, evO_const, keep_nil, keep_cons, keepK_eq, Nat.reduceEqDiff, reduceIte, eq_self, e5]
    clear e1 e4 e5 e15
    intro fr e2 e3
    refine SeqK_n ?_
    refine W_ret (SeqK_r (Ret2 e2 e3 ⟨hs1.trans hs2 (fun _ _ h => h) (fun _ _ h => h), .inl ⟨by omega, rfl⟩⟩))
  have hc0 : chkE T U re im = 0 := by omega
  obtain ⟨hfT, hfU, hok, hlg⟩ := chk_spec hc0
  obtain ⟨hl, hcr, hci⟩ := okB_spec hok
  obtain ⟨hR, hN, hRN⟩ := large_spec hlg
  have hn0 : chkN T U re im = colsN re := by unfold chkN; rw [if_pos hc0]
  rw [hn0] at e4
  have LD : ∀ {s'}, Same s1 s' (fun _ => False) → Store.get s'.h s.nxt = some (.cells [.float .f64 T, .float .f64 U, rv, iv] false) := fun h => by rw [h.get _ hnx (fun h => h)]; exact hg
  have L0 : ∀ {s'}, Same s1 s' (fun _ => False) → loadV s' none (.pointer (some ⟨s.nxt, 0, none⟩)) = some (.float .f64 T) := fun h => load_g (o := 0) (LD h)
  have L1 : ∀ {s'}, Same s1 s' (fun _ => False) → loadV s' none (.pointer (some ⟨s.nxt, 1, none⟩)) = some (.float .f64 U) := fun h => load_g (o := 1) (LD h)
  have L2 : ∀ {s'}, Same s1 s' (fun _ => False) → loadV s' none (.pointer (some ⟨s.nxt, 2, none⟩)) = some rv := fun h => load_g (o := 2) (LD h)
  have L3 : ∀ {s'}, Same s1 s' (fun _ => False) → loadV s' none (.pointer (some ⟨s.nxt, 3, none⟩)) = some iv := fun h => load_g (o := 3) (LD h)
  obtain ⟨cr, hr1, hr2⟩ := hr1
  obtain ⟨ci, hi1, hi2⟩ := hi1
  have hrl := hr1.len
  have hil := hi1.len
  obtain ⟨M, hM⟩ : ∃ M, M = 4 * re.length * colsN re := ⟨_, rfl⟩
  have hMb : M ≤ 1048576 := by rw [hM, Nat.mul_assoc]; omega
  have hMc : (4 : Int) * (re.length : Nat) * (colsN re : Nat) = (M : Nat) := by rw [hM, Int.natCast_mul, Int.natCast_mul]; rfl
  have w4 := wrap_i64 (n := (4 : Int) * (re.length : Nat)) (by omega) (by omega)
  have wM := wrap_i64 (n := ((M : Nat) : Int)) (by omega) (by omega)
  have w31 := wrap_i64 (n := (31 : Int) + (M : Nat)) (by omega) (by omega)
  have w20 := wrap_i64 (n := ((20 + M : Nat) : Int)) (by omega) (by omega)
  have w20' := wrap_u64 (n := ((20 + M : Nat) : Int)) (by omega) (by omega)
  have c20 : (20 : Int) + (M : Nat) = ((20 + M : Nat) : Int) := by omega
  have hOp : 31 + M < OPEN := by unfold OPEN; omega
  have hmk : Own (newAt s2 (.cells (repZ [.int .u8 0] (31 + M)) false)) 1 (.slice (some ⟨s2.nxt, 0, none⟩) 0 (31 + M)) 0 (bsV []) := own_make (s := s2) (z := [.int .u8 0]) (sz := 1) rfl (Nat.zero_le _) hOp
  obtain ⟨v3, s3, ha3, ho3, hs3, hf3⟩ := hmk.append (bytes := 1) (xv := .string ⟨#[76, 75, 49]⟩) (m := 3) (new := bsV hdr) rfl rfl rfl (by omega) (by omega) (by omega) (by omega)
  rw [← bsV_app, List.nil_append] at ho3
  have hs3' : Same s1 s3 (fun _ => False) := (hs2.trans (.new (F := fun _ => False)) (fun _ _ h => h) (fun _ _ h => h)).trans hs3 (fun _ _ h => h) (fun B hB h => by have := hs2.nxt; simp only [footV] at h; omega)
  have hf3' : ∀ x, footV v3 x → s1.nxt ≤ x := fun x hx => by
    have := hs2.nxt
    rcases hf3 x hx with h | h
    · simp only [footV] at h; omega
    · rw [nxt_new] at h; omega
  refine W_seq (W_ops [1, 4, 6] ?_)
  simp only [o18_4, WO_append, WO_bin, WO_bu, WO_fieldAddr, fieldAddr_p, WO_load, WO_makeSlice, WO_move, bin_add, bin_mul, WO_nil, PureK_some, MemK_some, NewK_some, geT_put, evO_tmp, evO_const, keep_nil, keep_cons, keepK_eq, List.map_cons, List.map_nil, Nat.reduceEqDiff, reduceIte, eq_self, Nat.zero_add, e1, e4, L2 hs2, hrl, w4, hMc, wM, w31, makeSl_eq (s := s2) (bytes := 1) (l := 0) (c := 31 + M) (z := [.int .u8 0]) (k := .i64) (k' := .i64) (i := 0) (j := (31 : Int) + (M : Nat)) rfl (by omega) (Nat.zero_le _) (by omega) (by omega), ha3]
  clear e1 e4
  intro fr e1 e4 e6
  refine SeqK_n ?_
  clear hmk ha3 hs3 hf3
  refine W_seq (W_ops [1, 4, 6] ?_)
  simp only [o18_5, WO_bin, WO_bu, WO_call, WO_conv, conv_int, WO_fieldAddr, fieldAddr_p, WO_load, WO_move, bin_add, bin_mul, PureK_some, geT_put, evO_tmp, evO_const, List.map_cons, List.map_nil, Nat.reduceEqDiff, reduceIte, eq_self, Nat.zero_add, e1, e4, e6, L2 hs3', hrl, w4, hMc, wM, w20, w20', c20]
  refine CallK_of (put_to hX ho ho3 hs3' hf3' (N := 20 + M) (k := 4) (by omega) (by simp [hdr])) ?_
  rintro v4 s4 ⟨ho4, hs4, hf4, -⟩
  simp only [WO_move, WO_nil, geT_put, evO_tmp, keep_nil, keep_cons, keepK_eq, Nat.reduceEqDiff, reduceIte, eq_self, e1, e4, e6]
  clear e1 e4 e6
  intro fr e1 e4 e6
  refine SeqK_n ?_
  refine W_seq (W_draw0 [1, 4, 6] rfl ?_)
  simp only [d18_6, WD_call, WD_ext, WD_fieldAddr, fieldAddr_p, WD_load, WD_move, DPureK_some, DReadK_some, DActK_some, pastR_nil, preHead_nil, joinF_nil, setH_self, Nat.testBit, Nat.reduceShiftRight, Nat.reduceAnd, Nat.reduceBneDiff, List.all_nil, List.all_cons, List.filter_nil, List.filter_cons, sameO_float, geT_put, evO_tmp, evO_const, List.map_cons, List.map_nil, Nat.reduceEqDiff, Nat.reduceAdd, reduceIte, Bool.not_true, Bool.and_true, Bool.or_true, eq_self, Bool.false_eq_true, true_and, Nat.zero_add, Nat.add_zero, e1, e6, L0 hs4, extS_eq (s := s4) (bits_eq hfT)]
  refine DCallK_of rfl (put_to hX ho ho4 hs4 hf4 (N := T) (k := 8) (by omega) (by simp [hdr, beN_length])) ?_
  rintro v5 s5 ⟨ho5, hs5, hf5, -⟩
  have hfU' : finB U = true := by unfold okU at hfU; simp only [Bool.and_eq_true] at hfU; exact hfU.1
  simp only [WD_call, WD_ext, WD_fieldAddr, fieldAddr_p, WD_load, DPureK_some, DReadK_some, DActK_some, pastR_nil, pastR_cons, preHead_cons, joinF_nil, setH_self, Nat.testBit, Nat.reduceShiftRight, Nat.reduceAnd, Nat.reduceBneDiff, List.all_nil, List.all_cons, List.filter_nil, List.filter_cons, sameO_float, bne_self_eq_false, geT_put, evO_tmp, evO_const, List.map_cons, List.map_nil, Nat.reduceEqDiff, Nat.reduceAdd, reduceIte, Bool.not_true, Bool.and_true, Bool.or_true, eq_self, Bool.false_eq_true, true_and, Nat.zero_add, e1, L1 hs4, L1 hs5, extS_eq (s := s5) (bits_eq hfU')]
  refine DCallK_of rfl (put_to hX ho ho5 hs5 hf5 (N := U) (k := 8) (by omega) (by simp [hdr, beN_length])) ?_
  rintro v6 s6 ⟨ho6, hs6, hf6, -⟩
  simp only [WD_move, WD_nil, DPureK_some, joinF_nil, joinAll_nil, setH_self, Nat.testBit, List.all_nil, List.filter_nil, geT_put, evO_tmp, keep_nil, keep_cons, keepK_eq, Nat.reduceEqDiff, Nat.reduceAdd, reduceIte, eq_self, true_and, e1, e4, e6]
  clear e1 e4 e6
  intro fr e1 e4 e6
  refine SeqK_n ?_
  have wR := wrap_u64 (n := ((re.length : Nat) : Int)) (by omega) (by omega)
  have wn := wrap_u64 (n := ((colsN re : Nat) : Int)) (by omega) (by omega)
  refine W_seq (W_ops [1, 4, 6] ?_)
  simp only [o18_7, WO_bu, WO_call, WO_conv, conv_int, WO_fieldAddr, fieldAddr_p, WO_load, WO_move, PureK_some, geT_put, evO_tmp, evO_const, List.map_cons, List.map_nil, Nat.reduceEqDiff, reduceIte, eq_self, Nat.zero_add, e1, e6, L2 hs6, hrl, wR]
  refine CallK_of (put_to hX ho ho6 hs6 hf6 (N := re.length) (k := 2) (by omega) (by simp [hdr, beN_length])) ?_
  rintro v7 s7 ⟨ho7, hs7, hf7, -⟩
  simp only [WO_call, WO_conv, conv_int, WO_move, PureK_some, geT_put, evO_tmp, evO_const, List.map_cons, List.map_nil, Nat.reduceEqDiff, reduceIte, eq_self, e4, wn]
  refine CallK_of (put_to hX ho ho7 hs7 hf7 (N := colsN re) (k := 2) (by omega) (by simp [hdr, beN_length])) ?_
  rintro v8 s8 ⟨ho8, hs8, hf8, -⟩
  simp only [WO_move, WO_nil, geT_put, evO_tmp, keep_nil, keep_cons, keepK_eq, Nat.reduceEqDiff, reduceIte, eq_self, e1, e4, e6]
  clear e1 e4 e6
  intro fr e1 e4 e6
  refine SeqK_n ?_
  have hhead : hdr ++ beN (20 + M) 4 ++ beN T 8 ++ beN U 8 ++ beN re.length 2 ++ beN (colsN re) 2 = encHead T U re.length (colsN re) := by rw [hM]; rfl
  rw [hhead] at ho8
  clear ho3 ho4 ho5 ho6 ho7
  refine W_assoc ?_
  refine W_seq (W_ops [1, 4, 6, 56, 57] ?_)
  simp only [o18_8, WO_bu, WO_fieldAddr, fieldAddr_p, WO_load, WO_move, WO_nil, PureK_some, geT_put, evO_tmp, evO_const, keep_nil, keep_cons, keepK_eq, List.map_cons, List.map_nil, Nat.reduceEqDiff, reduceIte, eq_self, Nat.zero_add, e1, e4, e6, L2 hs8, hrl]
  clear e1 e4 e6
  intro fr e1 e4 e6 e56 e57
  refine SeqK_n ?_
  have hhl : (encHead T U re.length (colsN re)).length = 27 := by simp [encHead, hdr, beN_length]
  refine W_seq (W_block (W_loop (fun m fr s3 => ∃ k v n, k + m = re.length ∧ geT fr 1 = .pointer (some ⟨s.nxt, 0, none⟩) ∧ geT fr 4 = .int .i64 (colsN re : Nat) ∧ geT fr 6 = v ∧ geT fr 56 = .int .i64 (re.length : Nat) ∧ geT fr 57 = .int .i64 (k : Nat) ∧
    Own s3 1 v n (bsV (encHead T U re.length (colsN re) ++ encRows (re.take k) (im.take k))) ∧ Same s1 s3 (fun _ => False) ∧ (∀ x, footV v x → s1.nxt ≤ x)) re.length ⟨0, v8, _, by omega, e1, e4, e6, e56, e57, by simpa [encRows] using ho8, hs8, hf8⟩ ?_))
  clear e1 e4 e6 e56 e57 fr
  rintro m fr s9 ⟨k, v9, n9, hk, e1, e4, e6, e56, e57, ho9, hs9, hf9⟩
  refine W_seq (W_ops [1, 4, 6, 56, 57, 58] ?_)
  simp only [o18_10, WO_bin, bin_lss, WO_nil, PureK_some, geT_put, evO_tmp, keep_nil, keep_cons, keepK_eq, Nat.reduceEqDiff, reduceIte, eq_self, e1, e4, e6, e56, e57]
  clear e1 e4 e6 e56 e57
  intro fr e1 e4 e6 e56 e57 e58
  refine SeqK_n ?_
  refine W_while e58 (fun hlt => ?_) (fun hlt => ?_)
  · have hk1 : k < re.length := by omega
    have hk2 : k < im.length := by omega
    obtain ⟨c, hc1, hc2⟩ := hr2 k re[k] (by simp [hk1])
    obtain ⟨c', hc1', hc2'⟩ := hi2 k im[k] (by simp [hk2])
    have hlk : re[k].length = colsN re := hcr _ (by simp)
    have hlk' : im[k].length = colsN re := hci _ (by simp)
    refine W_seq (W_block ?_)
    refine W_seq (W_ops [1, 4, 6, 7, 56, 57] ?_)
    simp only [o18_11, WO_move, WO_nil, geT_put, evO_tmp, keep_nil, keep_cons, keepK_eq, Nat.reduceEqDiff, reduceIte, eq_self, e1, e4, e6, e56, e57]
    clear e1 e4 e6 e56 e57 e58
    intro fr e1 e4 e6 e7 e56 e57
    refine SeqK_n ?_
    refine W_seq (W_ops [1, 4, 6, 7, 56, 57, 60, 61] ?_)
    simp only [o18_12, WO_move, WO_nil, geT_put, evO_tmp, evO_const, keep_nil, keep_cons, keepK_eq, Nat.reduceEqDiff, reduceIte, eq_self, e1, e4, e6, e7, e56, e57]
    clear e1 e4 e6 e7 e56 e57
    intro fr e1 e4 e6 e7 e56 e57 e60 e61
    refine SeqK_n ?_
    have hbl : (encHead T U re.length (colsN re) ++ encRows (re.take k) (im.take k)).length + 4 * colsN re ≤ 2000000 := by
      have := encRows_length (n := colsN re) (re.take k) (im.take k) (by simp [hl]) (fun r h => hcr r (List.mem_of_mem_take h)) (fun r h => hci r (List.mem_of_mem_take h))
      rw [List.length_append, hhl, this, List.length_take]
      have h2 : (min k re.length) * colsN re ≤ re.length * colsN re := Nat.mul_le_mul_right _ (by omega)
      omega
    refine W_block (W_loop (fun m fr s3 => ∃ g v n, g + m = colsN re ∧ geT fr 1 = .pointer (some ⟨s.nxt, 0, none⟩) ∧ geT fr 4 = .int .i64 (colsN re : Nat) ∧ geT fr 6 = v ∧ geT fr 7 = .int .i64 (k : Nat) ∧ geT fr 56 = .int .i64 (re.length : Nat) ∧ geT fr 57 = .int .i64 (k : Nat) ∧ geT fr 60 = .int .i64 (colsN re : Nat) ∧ geT fr 61 = .int .i64 (g : Nat) ∧
      Own s3 1 v n (bsV (encHead T U re.length (colsN re) ++ encRows (re.take k) (im.take k) ++ encRow (re[k].take g) (im[k].take g))) ∧ Same s1 s3 (fun _ => False) ∧ (∀ x, footV v x → s1.nxt ≤ x)) (colsN re) ⟨0, v9, _, by omega, e1, e4, e6, e7, e56, e57, e60, e61, by simpa [encRow] using ho9, hs9, hf9⟩ ?_)
    clear e1 e4 e6 e7 e56 e57 e60 e61 fr
    rintro m2 fr sa ⟨g, va, na, hg2, e1, e4, e6, e7, e56, e57, e60, e61, hoa, hsa, hfa⟩
    refine W_seq (W_ops [1, 4, 6, 7, 56, 57, 60, 61, 62] ?_)
    simp only [o18_14, WO_bin, bin_lss, WO_nil, PureK_some, geT_put, evO_tmp, keep_nil, keep_cons, keepK_eq, Nat.reduceEqDiff, reduceIte, eq_self, e1, e4, e6, e7, e56, e57, e60, e61]
    clear e1 e4 e6 e7 e56 e57 e60 e61
    intro fr e1 e4 e6 e7 e56 e57 e60 e61 e62
    refine SeqK_n ?_
    refine W_while e62 (fun hlt2 => ?_) (fun hlt2 => ?_)
    · have hg1 : g < colsN re := by omega
      have hg3 : g < re[k].length := by omega
      have hg4 : g < im[k].length := by omega
      refine W_seq (W_block ?_)
      refine W_seq (W_ops [1, 4, 6, 7, 8, 56, 57, 60, 61] ?_)
      simp only [o18_15, WO_move, WO_nil, geT_put, evO_tmp, keep_nil, keep_cons, keepK_eq, Nat.reduceEqDiff, reduceIte, eq_self, e1, e4, e6, e7, e56, e57, e60, e61]
      clear e1 e4 e6 e7 e56 e57 e60 e61 e62
      intro fr e1 e4 e6 e7 e8 e56 e57 e60 e61
      refine SeqK_n ?_
      have hla : (encHead T U re.length (colsN re) ++ encRows (re.take k) (im.take k) ++ encRow (re[k].take g) (im[k].take g)).length + 4 ≤ 2000000 := by
        have := encRow_length (re[k].take g) (im[k].take g) (by simp [hlk, hlk'])
        rw [List.length_append, this, List.length_take]
        omega
      have A1 : ∀ {s'}, Same s1 s' (fun _ => False) → loadV s' none (elP rv k) = some c := fun h => (hr1.same h (fun _ _ h => h)).load hc1
      have A2 : ∀ {s'}, Same s1 s' (fun _ => False) → loadV s' none (elP c g) = some (.int .i16 (re[k]'hk1)[g]) := fun h => (hc2.same h (fun _ _ h => h)).load (by simp [hg3])
      have A3 : ∀ {s'}, Same s1 s' (fun _ => False) → loadV s' none (elP iv k) = some c' := fun h => (hi1.same h (fun _ _ h => h)).load hc1'
      have A4 : ∀ {s'}, Same s1 s' (fun _ => False) → loadV s' none (elP c' g) = some (.int .i16 (im[k]'hk2)[g]) := fun h => (hc2'.same h (fun _ _ h => h)).load (by simp [hg4])
      have B1 := hr1.addr (kk := .i64) (i := (k : Int)) rfl hk1
      have B2 := hc2.addr (kk := .i64) (i := (g : Int)) rfl hg3
      have B3 := hi1.addr (kk := .i64) (i := (k : Int)) rfl hk2
      have B4 := hc2'.addr (kk := .i64) (i := (g : Int)) rfl hg4
      have u1 : u16 (re[k]'hk1)[g] < 65536 := by unfold u16; omega
      have u2 : u16 (im[k]'hk2)[g] < 65536 := by unfold u16; omega
      have W1 := wrap_u64 (n := ((u16 (re[k]'hk1)[g] : Nat) : Int)) (by omega) (by omega)
      have W2 := wrap_u64 (n := ((u16 (im[k]'hk2)[g] : Nat) : Int)) (by omega) (by omega)
      refine W_draw0 [1, 4, 6, 7, 56, 57, 60, 61] rfl ?_
      simp only [d18_16, WD_addrSl, WD_call, WD_conv, conv_int, WD_fieldAddr, fieldAddr_p, WD_load, WD_move, DPureK_some, DReadK_some, pastR_nil, joinF_nil, setH_self, geT_put, evO_tmp, evO_const, List.map_cons, List.map_nil, Nat.reduceEqDiff, Nat.reduceAdd, reduceIte, eq_self, true_and, Nat.zero_add, Nat.mul_one, e1, e6, e7, e8, L2 hsa, A1 hsa, A2 hsa, B1, B2, conv_u16, W1]
      refine DCallK_of rfl (put_to hX ho hoa hsa hfa (N := u16 (re[k]'hk1)[g]) (k := 2) (by omega) (by omega)) ?_
      rintro vb sb ⟨hob, hsb, hfb, -⟩
      simp only [WD_addrSl, WD_call, WD_conv, conv_int, WD_fieldAddr, fieldAddr_p, WD_load, WD_move, DPureK_some, DReadK_some, pastR_nil, pastR_cons, joinF_nil, setH_self, Nat.testBit, Nat.reduceShiftRight, Nat.reduceAnd, Nat.reduceBneDiff, List.all_nil, List.all_cons, List.filter_nil, List.filter_cons, sameO_int, bne_self_eq_false, geT_put, evO_tmp, evO_const, List.map_cons, List.map_nil, Nat.reduceEqDiff, Nat.reduceAdd, reduceIte, Bool.not_true, Bool.and_true, Bool.true_or, eq_self, Bool.false_eq_true, true_and, Nat.zero_add, Nat.mul_one, e1, e7, e8, L3 hsa, L3 hsb, SlC.sameO hi1, A3 hsa, A3 hsb, SlC.sameO hc2', A4 hsa, A4 hsb, B3, B4, conv_u16, W2]
      refine DCallK_of rfl (put_to hX ho hob hsb hfb (N := u16 (im[k]'hk2)[g]) (k := 2) (by omega) (by simp only [List.length_append, beN_length] at hla ⊢; omega)) ?_
      rintro vc sc ⟨hoc, hsc, hfc, -⟩
      simp only [WD_move, WD_nil, DPureK_some, joinF_nil, joinAll_nil, setH_self, Nat.testBit, Nat.reduceShiftRight, Nat.reduceAnd, Nat.reduceBneDiff, List.all_nil, List.all_cons, List.filter_nil, List.filter_cons, geT_put, evO_tmp, keep_nil, keep_cons, keepK_eq, Nat.reduceEqDiff, Nat.reduceAdd, reduceIte, Bool.not_true, Bool.and_true, Bool.true_or, eq_self, Bool.false_eq_true, true_and, e1, e4, e6, e7, e56, e57, e60, e61]
      clear e1 e4 e6 e7 e8 e56 e57 e60 e61
      intro fr e1 e4 e6 e7 e56 e57 e60 e61
      refine BlkK_n (SeqK_n ?_)
      refine W_ops [1, 4, 6, 7, 56, 57, 60, 61] ?_
      simp only [o18_17, WO_bin, WO_move, bin_add, WO_nil, PureK_some, geT_put, evO_tmp, evO_const, keep_nil, keep_cons, keepK_eq, Nat.reduceEqDiff, reduceIte, eq_self, e1, e4, e6, e7, e56, e57, e60, e61, wrap_i64 (n := (g : Int) + 1) (by omega) (by omega)]
      clear e1 e4 e6 e7 e56 e57 e60 e61
      intro fr e1 e4 e6 e7 e56 e57 e60 e61
      have ecs : encHead T U re.length (colsN re) ++ encRows (re.take k) (im.take k) ++ encRow (re[k].take g) (im[k].take g) ++ beN (u16 (re[k]'hk1)[g]) 2 ++ beN (u16 (im[k]'hk2)[g]) 2 = encHead T U re.length (colsN re) ++ encRows (re.take k) (im.take k) ++ encRow (re[k].take (g + 1)) (im[k].take (g + 1)) := by
        rw [encRow_take (by omega) hg3]
        simp only [List.append_assoc]
      rw [ecs] at hoc
      exact LoopK_n (m' := m2 - 1) (by omega) ⟨g + 1, vc, _, by omega, e1, e4, e6, e7, e56, e57, e60, by rw [e61]; rfl, hoc, hsc, hfc⟩
    · have : g = colsN re := by omega
      subst this
      refine LoopK_x (BlkK_e (BlkK_n (SeqK_n ?_)))
      refine W_ops [1, 4, 6, 56, 57] ?_
      simp only [o18_18, WO_bin, WO_move, bin_add, WO_nil, PureK_some, geT_put, evO_tmp, evO_const, keep_nil, keep_cons, keepK_eq, Nat.reduceEqDiff, reduceIte, eq_self, e1, e4, e6, e56, e57, wrap_i64 (n := (k : Int) + 1) (by omega) (by omega)]
      clear e1 e4 e6 e7 e56 e57 e60 e61 e62
      intro fr e1 e4 e6 e56 e57
      rw [List.take_of_length_le (l := re[k]) (by omega), List.take_of_length_le (l := im[k]) (by omega), List.append_assoc, ← encRows_take hl hk1] at hoa
      exact LoopK_n (m' := m - 1) (by omega) ⟨k + 1, va, _, by omega, e1, e4, e6, e56, by rw [e57]; rfl, hoa, hsa, hfa⟩
  · have : k = re.length := by omega
    subst this
    refine LoopK_x (BlkK_e (SeqK_n ?_))
    rw [List.take_length, hl, List.take_length] at ho9
    have hbody : encHead T U im.length (colsN re) ++ encRows re im = encBody T U re im := by unfold encBody; rw [hl]
    rw [hbody] at ho9
    have hel : (encBody T U re im).length = 27 + M := by
      rw [encBody, List.length_append, hhl, encRows_length (n := colsN re) re im hl hcr hci, hM, Nat.mul_assoc]
    have hbs9 : Bs s9 v9 (encBody T U re im) := Bs.of ho9.slc
    have hfv := fnvF_lt (s := 2166136261) (by omega) (encBody T U re im)
    refine W_seq (W_ops [2, 3] ?_)
    simp only [o18_19, WO_call, WO_move, geT_put, evO_tmp, List.map_cons, List.map_nil, Nat.reduceEqDiff, reduceIte, eq_self, e6]
    refine CallK_of (run37 hX ho hbs9 (by omega)) ?_
    rintro _ _ ⟨rfl, rfl⟩
    simp only [WO_call, WO_conv, conv_int, PureK_some, geT_put, evO_tmp, evO_const, List.map_cons, List.map_nil, Nat.reduceEqDiff, reduceIte, eq_self, wrap_u64 (n := ((fnvF 2166136261 (encBody T U re im) : Nat) : Int)) (by omega) (by omega)]
    refine CallK_of (put_to hX ho ho9 hs9 hf9 (N := fnvF 2166136261 (encBody T U re im)) (k := 4) (by omega) (by omega)) ?_
    rintro vz sz ⟨hoz, hsz, hfz, -⟩
    simp only [WO_move, WO_nil, geT_put, evO_tmp, evO_const, keep_nil, keep_cons, keepK_eq, Nat.reduceEqDiff, reduceIte, eq_self]
    clear e1 e4 e6 e56 e57 e58
    intro fr e2 e3
    refine SeqK_n ?_
    exact W_ret (Ret2 e2 e3 ⟨hs1.trans hsz (fun _ _ h => h) (fun _ _ h => h), .inr ⟨hc0, vz, _, rfl, hoz, fun x hx => by have := hfz x hx; omega⟩⟩)

end Go.Proofs.Ytkfcejhebepdkaa
