/- Small functions of the tape. -/
import Derived.Test.YtkfcejhebepdkaaTapeIr
import Derived.Test.YtkfcejhebepdkaaWp5
namespace Go.Proofs.Ytkfcejhebepdkaa
open Go Go.Vam

/-- The sum of bytes, from a number on. -/
def fnvF (s : Nat) : List UInt8 → Nat
  | [] => s
  | c :: l => fnvF ((s ^^^ c.toNat) * 16777619 % 4294967296) l

theorem fnvF_lt {s : Nat} (hs : s < 4294967296) : ∀ l, fnvF s l < 4294967296 := by
  intro l
  induction l generalizing s with
  | nil => exact hs
  | cons c l ih => exact ih (Nat.mod_lt _ (by omega))

theorem xor_u32 {a b : Nat} (ha : a < 4294967296) (hb : b < 4294967296) : intBitsV .xor .u32 (a : Int) (b : Int) = some ((a ^^^ b : Nat) : Int) := by
  have h : (a ^^^ b) < 2 ^ 32 := Nat.xor_lt_two_pow (by omega) (by omega)
  have e : (BitVec.ofInt 32 (a : Int) ^^^ BitVec.ofInt 32 (b : Int)).toNat = a ^^^ b := by
    rw [BitVec.toNat_xor, BitVec.ofInt_natCast, BitVec.ofInt_natCast, BitVec.toNat_ofNat, BitVec.toNat_ofNat, Nat.mod_eq_of_lt ha, Nat.mod_eq_of_lt hb]
  show some (wrapK .u32 ((BitVec.ofInt 32 (a : Int) ^^^ BitVec.ofInt 32 (b : Int)).toNat : Nat)) = _
  rw [e, wrap_u32 (by omega) (by omega)]


theorem run37 {X : Ctx} (hX : X.fns = fnsOf Try.prog) (ho : ∀ f args, f ≠ 9 → X.orc f args = none) {s : Mm} {v : Value} {b : List UInt8} (h : SlC s 1 v b.length (bsV b)) (hn : b.length < 2 ^ 62) :
    CallP X 37 [v] s (fun r s' => r = .int .u32 (fnvF 2166136261 b : Nat) ∧ s = s') := by
  refine CallP_of (hX ▸ ir37_eq) (ho _ _ (by decide)) (Nat.le_of_ble_eq_true rfl) ?_
  refine W_seq (W_ops [0] ?_)
  simp only [o37_0, WO_move, WO_nil, geT_put, frame_nil, frame_cons, evO_const, keep_nil, keep_cons, keepK_eq, Nat.reduceEqDiff, reduceIte, eq_self, Nat.zero_add]
  intro fr e0
  refine SeqK_n ?_
  refine W_seq (W_ops [0, 3] ?_)
  simp only [o37_1, WO_move, WO_nil, geT_put, evO_const, keep_nil, keep_cons, keepK_eq, Nat.reduceEqDiff, reduceIte, eq_self, e0]
  clear e0
  intro fr e0 e3
  refine SeqK_n ?_
  refine W_assoc ?_
  refine W_seq (W_ops [3, 6, 7, 8] ?_)
  simp only [o37_2, WO_bu, WO_move, WO_nil, PureK_some, geT_put, evO_tmp, evO_const, keep_nil, keep_cons, keepK_eq, List.map_cons, List.map_nil, Nat.reduceEqDiff, reduceIte, eq_self, e0, e3, h.len]
  clear e0 e3
  intro fr e3 e6 e7 e8
  refine SeqK_n ?_
  refine W_seq (W_block (W_loop (fun m fr s1 => ∃ k p, k + m = b.length ∧ fnvF p (b.drop k) = fnvF 2166136261 b ∧ p < 4294967296 ∧ s1 = s ∧ geT fr 3 = .int .u32 (p : Nat) ∧ geT fr 6 = v ∧ geT fr 7 = .int .i64 (b.length : Nat) ∧ geT fr 8 = .int .i64 (k : Nat)) b.length ⟨0, 2166136261, by simp, by simp, by omega, rfl, e3, e6, e7, e8⟩ ?_))
  clear e3 e6 e7 e8 fr
  rintro m fr _ ⟨k, p, hk, hp, hp2, rfl, e3, e6, e7, e8⟩
  refine W_seq (W_ops [3, 6, 7, 8, 9] ?_)
  simp only [o37_4, WO_bin, bin_lss, WO_nil, PureK_some, geT_put, evO_tmp, keep_nil, keep_cons, keepK_eq, Nat.reduceEqDiff, reduceIte, eq_self, e3, e6, e7, e8]
  clear e3 e6 e7 e8
  intro fr e3 e6 e7 e8 e9
  refine SeqK_n ?_
  refine W_while e9 (fun hlt => ?_) (fun hlt => ?_)
  · have hk2 : k < b.length := by omega
    refine W_seq (W_block ?_)
    refine W_seq (W_ops [3, 5, 6, 7, 8] ?_)
    simp only [o37_5, WO_addrSl, WO_load, WO_move, WO_nil, PureK_some, geT_put, evO_tmp, keep_nil, keep_cons, keepK_eq, Nat.reduceEqDiff, reduceIte, eq_self, Nat.mul_one, e3, e6, e7, e8, h.addr rfl hk2, h.load (by simp [bsV, hk2] : (bsV b)[k]? = some (byteV b[k]))]
    clear e3 e6 e7 e8 e9
    intro fr e3 e5 e6 e7 e8
    refine SeqK_n ?_
    have hx := xor_u32 hp2 (by have := (b[k]).toNat_lt; omega : (b[k]).toNat < 4294967296)
    refine W_seq (W_ops [3, 6, 7, 8] ?_)
    simp only [o37_6, WO_bin, WO_conv, conv_int, WO_move, bin_xor, WO_nil, PureK_some, geT_put, evO_tmp, keep_nil, keep_cons, keepK_eq, Option.map_some, Nat.reduceEqDiff, reduceIte, eq_self, e3, e5, e6, e7, e8, byteV, wrap_u32 (n := ((b[k]).toNat : Int)) (by omega) (by have := (b[k]).toNat_lt; omega), hx]
    clear e3 e5 e6 e7 e8
    intro fr e3 e6 e7 e8
    refine SeqK_n ?_
    refine W_ops [3, 6, 7, 8] ?_
    simp only [o37_7, WO_bin, WO_move, bin_mul, WO_nil, PureK_some, geT_put, evO_tmp, evO_const, keep_nil, keep_cons, keepK_eq, Nat.reduceEqDiff, reduceIte, eq_self, e3, e6, e7, e8]
    clear e3 e6 e7 e8
    intro fr e3 e6 e7 e8
    refine BlkK_n (SeqK_n ?_)
    refine W_ops [3, 6, 7, 8] ?_
    simp only [o37_8, WO_bin, WO_move, bin_add, WO_nil, PureK_some, geT_put, evO_tmp, evO_const, keep_nil, keep_cons, keepK_eq, Nat.reduceEqDiff, reduceIte, eq_self, e3, e6, e7, e8, wrap_i64 (n := (k : Int) + 1) (by omega) (by omega)]
    clear e3 e6 e7 e8
    intro fr e3 e6 e7 e8
    refine LoopK_n (m' := m - 1) (by omega) ⟨k + 1, (p ^^^ (b[k]).toNat) * 16777619 % 4294967296, by omega, ?_, by omega, rfl, ?_, e6, e7, e8⟩
    · rw [← hp]
      rw [List.drop_eq_getElem_cons hk2]
      rfl
    · rw [e3]; rfl
  · refine LoopK_x (BlkK_e (SeqK_n ?_))
    have : k = b.length := by omega
    subst this
    refine W_seq (W_ops [2] ?_)
    simp only [o37_9, WO_move, WO_nil, geT_put, evO_tmp, keep_nil, keep_cons, keepK_eq, Nat.reduceEqDiff, reduceIte, eq_self, e3]
    clear e3 e6 e7 e8 e9
    intro fr e2
    refine SeqK_n ?_
    simp only [List.drop_length, fnvF] at hp
    exact W_ret (Ret1 e2 ⟨by rw [hp], rfl⟩)

theorem shl8 {a : Nat} : shiftV .shl .u64 (a : Int) 8 = some ((a * 256 % 18446744073709551616 : Nat) : Int) := by
  have e : shiftV .shl .u64 (a : Int) 8 = some (wrapK .u64 ((a : Int) * 2 ^ 8)) := rfl
  rw [e]
  simp only [wrapK]
  congr 1

theorem or_u64 {a b : Nat} (hb : b < 256) : intBitsV .or .u64 ((a * 256 % 18446744073709551616 : Nat) : Int) (b : Int) = some (((a * 256 + b) % 18446744073709551616 : Nat) : Int) := by
  have hm : a * 256 % 18446744073709551616 = 2 ^ 8 * (a % 72057594037927936) := by omega
  have ha : a * 256 % 18446744073709551616 < 18446744073709551616 := Nat.mod_lt _ (by omega)
  have e : (BitVec.ofInt 64 ((a * 256 % 18446744073709551616 : Nat) : Int) ||| BitVec.ofInt 64 (b : Int)).toNat = (a * 256 + b) % 18446744073709551616 := by
    rw [BitVec.toNat_or, BitVec.ofInt_natCast, BitVec.ofInt_natCast, BitVec.toNat_ofNat, BitVec.toNat_ofNat, Nat.mod_eq_of_lt ha, Nat.mod_eq_of_lt (by omega : b < 2 ^ 64), hm, ← Nat.two_pow_add_eq_or_of_lt (by omega : b < 2 ^ 8)]
    omega
  show some (wrapK .u64 ((BitVec.ofInt 64 ((a * 256 % 18446744073709551616 : Nat) : Int) ||| BitVec.ofInt 64 (b : Int)).toNat : Nat)) = _
  rw [e, wrap_u64 (by omega) (by omega)]

/-- The number that bytes say. -/
def getF (s : Nat) : List UInt8 → Nat
  | [] => s
  | c :: l => getF ((s * 256 + c.toNat) % 18446744073709551616) l

theorem run49 {X : Ctx} (hX : X.fns = fnsOf Try.prog) (ho : ∀ f args, f ≠ 9 → X.orc f args = none) {s : Mm} {v : Value} {b : List UInt8} (h : SlC s 1 v b.length (bsV b)) (hn : b.length < 2 ^ 62) :
    CallP X 49 [v] s (fun r s' => r = .int .u64 (getF 0 b : Nat) ∧ s = s') := by
  refine CallP_of (hX ▸ ir49_eq) (ho _ _ (by decide)) (Nat.le_of_ble_eq_true rfl) ?_
  refine W_seq (W_ops [0] ?_)
  simp only [o49_0, WO_move, WO_nil, geT_put, frame_nil, frame_cons, evO_const, keep_nil, keep_cons, keepK_eq, Nat.reduceEqDiff, reduceIte, eq_self, Nat.zero_add]
  intro fr e0
  refine SeqK_n ?_
  refine W_seq (W_ops [0, 3] ?_)
  simp only [o49_1, WO_move, WO_nil, geT_put, evO_const, keep_nil, keep_cons, keepK_eq, Nat.reduceEqDiff, reduceIte, eq_self, e0]
  clear e0
  intro fr e0 e3
  refine SeqK_n ?_
  refine W_assoc ?_
  refine W_seq (W_ops [3, 6, 7, 8] ?_)
  simp only [o49_2, WO_bu, WO_move, WO_nil, PureK_some, geT_put, evO_tmp, evO_const, keep_nil, keep_cons, keepK_eq, List.map_cons, List.map_nil, Nat.reduceEqDiff, reduceIte, eq_self, e0, e3, h.len]
  clear e0 e3
  intro fr e3 e6 e7 e8
  refine SeqK_n ?_
  refine W_seq (W_block (W_loop (fun m fr s1 => ∃ k p : Nat, k + m = b.length ∧ getF p (b.drop k) = getF 0 b ∧ s1 = s ∧ geT fr 3 = .int .u64 (p : Nat) ∧ geT fr 6 = v ∧ geT fr 7 = .int .i64 (b.length : Nat) ∧ geT fr 8 = .int .i64 (k : Nat)) b.length ⟨0, 0, by simp, by simp, rfl, e3, e6, e7, e8⟩ ?_))
  clear e3 e6 e7 e8 fr
  rintro m fr _ ⟨k, p, hk, hp, rfl, e3, e6, e7, e8⟩
  refine W_seq (W_ops [3, 6, 7, 8, 9] ?_)
  simp only [o49_4, WO_bin, bin_lss, WO_nil, PureK_some, geT_put, evO_tmp, keep_nil, keep_cons, keepK_eq, Nat.reduceEqDiff, reduceIte, eq_self, e3, e6, e7, e8]
  clear e3 e6 e7 e8
  intro fr e3 e6 e7 e8 e9
  refine SeqK_n ?_
  refine W_while e9 (fun hlt => ?_) (fun hlt => ?_)
  · have hk2 : k < b.length := by omega
    have hb := (b[k]).toNat_lt
    refine W_seq (W_block ?_)
    refine W_seq (W_ops [3, 5, 6, 7, 8] ?_)
    simp only [o49_5, WO_addrSl, WO_load, WO_move, WO_nil, PureK_some, geT_put, evO_tmp, keep_nil, keep_cons, keepK_eq, Nat.reduceEqDiff, reduceIte, eq_self, Nat.mul_one, e3, e6, e7, e8, h.addr rfl hk2, h.load (by simp [bsV, hk2] : (bsV b)[k]? = some (byteV b[k]))]
    clear e3 e6 e7 e8 e9
    intro fr e3 e5 e6 e7 e8
    refine SeqK_n ?_
    refine W_seq (W_ops [3, 5, 6, 7, 8] ?_)
    simp only [o49_6, WO_bin, WO_move, bin_shl, WO_nil, PureK_some, geT_put, evO_tmp, evO_const, keep_nil, keep_cons, keepK_eq, Option.map_some, Nat.reduceEqDiff, reduceIte, eq_self, e3, e5, e6, e7, e8, shl8]
    clear e3 e5 e6 e7 e8
    intro fr e3 e5 e6 e7 e8
    refine SeqK_n ?_
    refine W_ops [3, 6, 7, 8] ?_
    simp only [o49_7, WO_bin, WO_conv, conv_int, WO_move, bin_or, WO_nil, PureK_some, geT_put, evO_tmp, keep_nil, keep_cons, keepK_eq, Option.map_some, Nat.reduceEqDiff, reduceIte, eq_self, e3, e5, e6, e7, e8, byteV, wrap_u64 (n := ((b[k]).toNat : Int)) (by omega) (by omega), or_u64 (a := p) (b := (b[k]).toNat) (by omega)]
    clear e3 e5 e6 e7 e8
    intro fr e3 e6 e7 e8
    refine BlkK_n (SeqK_n ?_)
    refine W_ops [3, 6, 7, 8] ?_
    simp only [o49_8, WO_bin, WO_move, bin_add, WO_nil, PureK_some, geT_put, evO_tmp, evO_const, keep_nil, keep_cons, keepK_eq, Nat.reduceEqDiff, reduceIte, eq_self, e3, e6, e7, e8, wrap_i64 (n := (k : Int) + 1) (by omega) (by omega)]
    clear e3 e6 e7 e8
    intro fr e3 e6 e7 e8
    refine LoopK_n (m' := m - 1) (by omega) ⟨k + 1, (p * 256 + (b[k]).toNat) % 18446744073709551616, by omega, ?_, rfl, e3, e6, e7, e8⟩
    rw [← hp, List.drop_eq_getElem_cons hk2]
    rfl
  · refine LoopK_x (BlkK_e (SeqK_n ?_))
    have : k = b.length := by omega
    subst this
    refine W_seq (W_ops [2] ?_)
    simp only [o49_9, WO_move, WO_nil, geT_put, evO_tmp, keep_nil, keep_cons, keepK_eq, Nat.reduceEqDiff, reduceIte, eq_self, e3]
    clear e3 e6 e7 e8 e9
    intro fr e2
    refine SeqK_n ?_
    simp only [List.drop_length, getF] at hp
    exact W_ret (Ret1 e2 ⟨by rw [hp], rfl⟩)

/-- A number as so many bytes. -/
def beN (n : Nat) : Nat → List UInt8
  | 0 => []
  | k + 1 => UInt8.ofNat (n / 256 ^ k) :: beN n k

theorem beN_length (n : Nat) : ∀ k, (beN n k).length = k := by
  intro k
  induction k with
  | zero => rfl
  | succ k ih => simp only [beN, List.length_cons, ih]

theorem shr_u64 {n j : Nat} (hj : j ≤ 7) : shiftV .shr .u64 (n : Int) ((8 * j : Nat) : Int) = some ((n / 256 ^ j : Nat) : Int) := by
  have e : shiftV .shr .u64 (n : Int) ((8 * j : Nat) : Int) = some ((n : Int).fdiv (2 ^ (min (8 * j) 64))) := by
    simp only [shiftV]
    rw [if_neg (by omega)]
    rfl
  rw [e, Nat.min_eq_left (by omega)]
  congr 1
  have h2 : (2 : Int) ^ (8 * j) = ((256 ^ j : Nat) : Int) := by
    rw [show (256 : Nat) = 2 ^ 8 from rfl, ← Nat.pow_mul]; simp
  rw [h2, Int.fdiv_eq_ediv_of_nonneg _ (Int.natCast_nonneg _)]
  rfl

theorem wrap_byte (x : Nat) : wrapK .u8 (x : Int) = ((UInt8.ofNat x).toNat : Int) := by
  simp only [wrapK, UInt8.toNat_ofNat']; omega

theorem buildSl_1 {s : Mm} {z : Value} {k : IntKind} {x : Int} : buildSlV s 1 [z] 1 [(0, 1, .int k x)] = some (.slice (some ⟨s.nxt, 0, none⟩) 1 1, .cells [.int k x] false) := rfl

theorem run35 {X : Ctx} (hX : X.fns = fnsOf Try.prog) (ho : ∀ f args, f ≠ 9 → X.orc f args = none) {s : Mm} {v : Value} {n : Nat} {b : List UInt8} (h : Own s 1 v n (bsV b)) {N k : Nat} (hk8 : k ≤ 8) (hn : b.length + k ≤ 70368744177664) :
    CallP X 35 [v, .int .u64 (N : Nat), .int .i64 (k : Nat)] s (fun r s' => Own s' 1 r (b.length + k) (bsV (b ++ beN N k)) ∧ Same s s' (footV v) ∧ (∀ x, footV r x → footV v x ∨ s.nxt ≤ x)) := by
  have hnb : n = b.length := by have := h.length; rw [bsV_length] at this; omega
  subst hnb
  refine CallP_of (hX ▸ ir35_eq) (ho _ _ (by decide)) (Nat.le_of_ble_eq_true rfl) ?_
  refine W_seq (W_ops [0, 1, 2] ?_)
  simp only [o35_0, WO_move, WO_nil, geT_put, frame_nil, frame_cons, evO_const, keep_nil, keep_cons, keepK_eq, Nat.reduceEqDiff, Nat.reduceAdd, reduceIte, eq_self, Nat.zero_add]
  intro fr e0 e1 e2
  refine SeqK_n ?_
  refine W_seq (W_block (W_loop (fun m fr s1 => ∃ v1 dn, dn ++ beN N m = beN N k ∧ m ≤ k ∧ geT fr 0 = v1 ∧ geT fr 1 = .int .u64 (N : Nat) ∧ geT fr 2 = .int .i64 (m : Nat) ∧ Own s1 1 v1 (b.length + dn.length) (bsV (b ++ dn)) ∧ Same s s1 (footV v) ∧ (∀ x, footV v1 x → footV v x ∨ s.nxt ≤ x)) k
    ⟨v, [], rfl, Nat.le_refl _, e0, e1, e2, by simpa using h, .refl _ _, fun x hx => .inl hx⟩ ?_))
  clear e0 e1 e2 fr
  rintro m fr s1 ⟨v1, dn, hdn, hm, e0, e1, e2, ho1, hs1, hf1⟩
  have hl : dn.length + m = k := by have := congrArg List.length hdn; simpa [beN_length] using this
  refine W_assoc ?_
  refine W_seq (W_ops [0, 1, 2, 8] ?_)
  simp only [o35_2, WO_bin, WO_move, bin_gtr, WO_nil, PureK_some, geT_put, evO_tmp, evO_const, keep_nil, keep_cons, keepK_eq, Nat.reduceEqDiff, reduceIte, eq_self, e0, e1, e2]
  clear e0 e1 e2
  intro fr e0 e1 e2 e8
  refine SeqK_n ?_
  refine W_while e8 (fun hlt => ?_) (fun hlt => ?_)
  · obtain ⟨m, rfl⟩ : ∃ j, m = j + 1 := ⟨m - 1, by omega⟩
    refine W_block ?_
    refine W_seq (W_ops [0, 1, 2] ?_)
    simp only [o35_3, WO_bin, WO_move, bin_sub, WO_nil, PureK_some, geT_put, evO_tmp, evO_const, keep_nil, keep_cons, keepK_eq, Nat.reduceEqDiff, reduceIte, eq_self, e0, e1, e2, wrap_i64 (n := ((m + 1 : Nat) : Int) - 1) (by omega) (by omega)]
    clear e0 e1 e2 e8
    intro fr e0 e1 e2
    refine SeqK_n ?_
    have e2' : geT fr 2 = .int .i64 (m : Nat) := by rw [e2]; congr 1; omega
    clear e2
    have e2 := e2'
    clear e2'
    have hnew : Own (newAt s1 (.cells [byteV (UInt8.ofNat (N / 256 ^ m))] false)) 1 v1 (b.length + dn.length) (bsV (b ++ dn)) := ho1.same (F := fun _ => False) .new (fun _ _ h => h)
    have hsrc : SlC (newAt s1 (.cells [byteV (UInt8.ofNat (N / 256 ^ m))] false)) 1 (.slice (some ⟨s1.nxt, 0, none⟩) 1 1) 1 [byteV (UInt8.ofNat (N / 256 ^ m))] :=
      .mk blk_new_self (by rw [nxt_new]; omega) rfl (by simp) (.inl ⟨by omega, by unfold OPEN; omega⟩)
    obtain ⟨v2, s2, ha, ho2, hs2, hf2⟩ := hnew.append (bytes := 1) hsrc.src rfl rfl (by omega) (by omega) (by omega) (by omega)
    refine W_ops [0, 1, 2] ?_
    simp only [o35_4, WO_bin, WO_move, bin_mul, bin_shr, PureK_some, geT_put, evO_tmp, evO_const, Nat.reduceEqDiff, reduceIte, eq_self, e0, e1, e2, wrap_i64 (n := (8 : Int) * (m : Int)) (by omega) (by omega)]
    rw [show (8 : Int) * (m : Int) = ((8 * m : Nat) : Int) by omega, shr_u64 (by omega : m ≤ 7)]
    simp only [WO_append, WO_buildSlice, WO_conv, conv_int, PureK_some, NewK_some, geT_put, evO_tmp, List.map_cons, List.map_nil, Option.map_some, Nat.reduceEqDiff, reduceIte, eq_self, Nat.mul_one, wrap_byte, buildSl_1]
    simp only [byteV] at ha
    simp only [WO_move, WO_nil, MemK_some, geT_put, evO_tmp, keep_nil, keep_cons, keepK_eq, Nat.reduceEqDiff, reduceIte, eq_self, e0, e1, e2, ha]
    clear e0 e1 e2
    intro fr e0 e1 e2
    refine BlkK_n (LoopK_n (m' := m) (by omega) ⟨v2, dn ++ [UInt8.ofNat (N / 256 ^ m)], ?_, by omega, e0, e1, e2, ?_, ?_, ?_⟩)
    · rw [← hdn]; simp [beN]
    · rw [← List.append_assoc, bsV_app]
      have e : bsV [UInt8.ofNat (N / 256 ^ m)] = [byteV (UInt8.ofNat (N / 256 ^ m))] := rfl
      rw [e]
      simpa [Nat.add_assoc] using ho2
    · refine (hs1.trans (.new (F := fun _ => False)) (fun _ _ h => h) (fun _ _ h => h.elim)).trans hs2 (fun _ _ h => h) (fun B hB hf => ?_)
      rcases hf1 B hf with h | h
      · exact h
      · omega
    · intro x hx
      rcases hf2 x hx with h | h
      · exact hf1 x h
      · right; have := hs1.nxt; rw [nxt_new] at h; omega
  · have : m = 0 := by omega
    subst this
    refine LoopK_x (BlkK_e (SeqK_n ?_))
    refine W_seq (W_ops [6] ?_)
    simp only [o35_5, WO_move, WO_nil, geT_put, evO_tmp, keep_nil, keep_cons, keepK_eq, Nat.reduceEqDiff, reduceIte, eq_self, e0]
    clear e0 e1 e2 e8
    intro fr e6
    refine SeqK_n ?_
    have hd : dn = beN N k := by simpa [beN] using hdn
    subst hd
    exact W_ret (Ret1 e6 ⟨by rw [beN_length] at ho1; exact ho1, hs1, hf1⟩)

end Go.Proofs.Ytkfcejhebepdkaa
