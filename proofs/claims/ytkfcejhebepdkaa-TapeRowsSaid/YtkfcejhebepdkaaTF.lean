/- The document's small functions; finite floats, told in two ways. -/
import Derived.Test.YtkfcejhebepdkaaTA
import Derived.Test.YtkfcejhebepdkaaFl2
import Derived.Test.YtkfcejhebepdkaaTC
import Derived.Test.YtkfcejhebepdkaaWpA
import Derived.Test.YtkfcejhebepdkaaTD
namespace Go.Proofs.Ytkfcejhebepdkaa
open Go Go.Vam

def MX : Nat := 9218868437227405311
def NX : Nat := 18442240474082181119

def isFin (x : Nat) : Bool := notNan x && ((ford .f64 x MX == some .lt || ford .f64 x MX == some .eq) && (ford .f64 x NX == some .gt || ford .f64 x NX == some .eq))

theorem word_of {x : Nat} (hx : x < 18446744073709551616) : x = Ieee.double.word (decide (9223372036854775808 ≤ x)) (x % 9223372036854775808) := by
  unfold Ieee.Format.word
  rw [d_sw]
  by_cases h : 9223372036854775808 ≤ x
  · rw [decide_eq_true h]; simp only [if_true]; omega
  · rw [decide_eq_false h]; simp only [Bool.false_eq_true, if_false]; omega

theorem nan_of {x : Nat} (h : Ieee.double.infRung < x % 9223372036854775808) : notNan x = false := by
  have hr : ∃ s f, Ieee.double.read x = .nan s f := by
    unfold Ieee.Format.read
    have h1 : ¬ x % Ieee.double.signWeight < Ieee.double.binade := by rw [d_sw, d_bi]; rw [d_ir] at h; omega
    have h2 : ¬ x % Ieee.double.signWeight < Ieee.double.infRung := by rw [d_sw]; omega
    have h3 : ¬ x % Ieee.double.signWeight = Ieee.double.infRung := by rw [d_sw]; omega
    simp only [if_neg h1, if_neg h2, if_neg h3]
    exact ⟨_, _, rfl⟩
  obtain ⟨s, f, hr⟩ := hr
  have : ford .f64 x x = none := by
    show (Ieee.double.read x).order (Ieee.double.read x) = none
    rw [hr]; rfl
  unfold notNan
  rw [this]; rfl

theorem cmp_le {a b : Int} (h : a ≤ b) : compare a b = .lt ∨ compare a b = .eq := by
  show compareOfLessAndEq a b = .lt ∨ compareOfLessAndEq a b = .eq
  unfold compareOfLessAndEq
  split
  · exact .inl rfl
  · split
    · exact .inr rfl
    · omega

theorem cmp_ge {a b : Int} (h : b ≤ a) : compare a b = .gt ∨ compare a b = .eq := by
  show compareOfLessAndEq a b = .gt ∨ compareOfLessAndEq a b = .eq
  unfold compareOfLessAndEq
  split
  · omega
  · split
    · exact .inr rfl
    · exact .inl rfl

theorem rung_fin {r : Nat} (h : r < Ieee.double.infRung) : ∃ m : Nat, ∃ i : Int, m ≤ 9007199254740991 ∧ i ≤ 971 ∧ ∀ s, rungD s r = .number s m i := by
  rw [d_ir] at h
  unfold rungD
  have hl : Ieee.double.leastPlace = -1074 := by decide
  by_cases h1 : r < Ieee.double.binade
  · exact ⟨r, Ieee.double.leastPlace, by rw [d_bi] at h1; omega, by rw [hl]; omega, fun s => by rw [if_pos h1]⟩
  · refine ⟨_, _, ?_, ?_, fun s => by rw [if_neg h1, if_pos (by rw [d_ir]; exact h)]⟩
    · rw [d_bi]; omega
    · rw [hl, d_bi]; omega

theorem max_rung : MX = Ieee.double.word false MX ∧ NX = Ieee.double.word true MX ∧ MX < Ieee.double.infRung ∧ ∀ s, rungD s MX = .number s 9007199254740991 971 := by
  refine ⟨by decide, by decide, by decide, fun s => ?_⟩
  cases s <;> decide

theorem fin_of {x : Nat} (hx : x < 18446744073709551616) : isFin x = finB x := by
  obtain ⟨m1, m2, m3, m4⟩ := max_rung
  by_cases h1 : Ieee.double.infRung < x % 9223372036854775808
  · simp only [isFin, finB, nan_of h1, Bool.false_and]
  · have hr : x % 9223372036854775808 ≤ Ieee.double.infRung := by omega
    have hw := word_of hx
    generalize decide (9223372036854775808 ≤ x) = s at hw
    generalize x % 9223372036854775808 = r at hw hr h1
    have hn : notNan x = true := by
      unfold notNan
      rw [hw, ford_word _ _ _ _ hr hr, order_self]; rfl
    have ha : fabs x = Ieee.double.word false r := by rw [hw, fabs_word _ _ hr]; rfl
    unfold isFin finB
    rw [hn, ha, show (9218868437227405311 : Nat) = MX from rfl]
    simp only [Bool.true_and]
    rw [m2]
    conv => rhs; rw [show ford .f64 (Ieee.double.word false r) MX = ford .f64 (Ieee.double.word false r) (Ieee.double.word false MX) by rw [← m1]]
    rw [hw, show ford .f64 (Ieee.double.word s r) MX = ford .f64 (Ieee.double.word s r) (Ieee.double.word false MX) by rw [← m1], ford_word _ _ _ _ hr (by omega), ford_word _ _ _ _ hr (by omega), ford_word _ _ _ _ hr (by omega)]
    rcases Nat.lt_or_eq_of_le hr with hlt | rfl
    · obtain ⟨m, i, hm, hi, hd⟩ := rung_fin hlt
      rw [hd, hd, m4, m4]
      have hmin : min i 971 = i := by omega
      have e0 : (i - i).toNat = 0 := by omega
      have o1 : ∀ s t, (Ieee.Datum.number s m i).order (Ieee.Datum.number t 9007199254740991 971) = some (compare (Ieee.signed s m 0) (Ieee.signed t 9007199254740991 ((971 : Int) - i).toNat)) := fun s t => by
        simp only [Ieee.Datum.order, hmin, e0]
      simp only [o1]
      obtain ⟨K, hK⟩ : ∃ K, K = 9007199254740991 <<< ((971 : Int) - i).toNat := ⟨_, rfl⟩
      have hKm : 9007199254740991 ≤ K := by
        rw [hK, Nat.shiftLeft_eq]
        exact Nat.le_mul_of_pos_right _ (Nat.pow_pos (by omega))
      have s1 : Ieee.signed false 9007199254740991 ((971 : Int) - i).toNat = (K : Int) := by rw [hK]; rfl
      have s2 : Ieee.signed true 9007199254740991 ((971 : Int) - i).toNat = -(K : Int) := by rw [hK]; rfl
      have s3 : Ieee.signed false m 0 = (m : Int) := rfl
      have s4 : -(m : Int) ≤ Ieee.signed s m 0 ∧ Ieee.signed s m 0 ≤ (m : Int) := by
        cases s
        · rw [s3]; omega
        · have : Ieee.signed true m 0 = -(m : Int) := rfl
          rw [this]; omega
      rw [s1, s2, s3]
      rcases cmp_le (a := Ieee.signed s m 0) (b := (K : Int)) (by omega) with c1 | c1 <;> rcases cmp_ge (a := Ieee.signed s m 0) (b := -(K : Int)) (by omega) with c2 | c2 <;> rcases cmp_le (a := (m : Int)) (b := (K : Int)) (by omega) with c3 | c3 <;> rw [c1, c2, c3] <;> rfl
    · have hinf : ∀ s, rungD s Ieee.double.infRung = .infinity s := fun s => by
        unfold rungD
        rw [if_neg (by decide), if_neg (by omega)]
      rw [hinf, hinf, m4, m4]
      cases s <;> rfl


theorem run51 {X : Ctx} (hX : X.fns = fnsOf Try.prog) (ho : ∀ f args, f ≠ 9 → X.orc f args = none) {s : Mm} {x : Nat} (hx : x < 18446744073709551616) : CallP X 51 [.float .f64 x] s (fun r s' => r = .bool (finB x) ∧ s = s') := by
  have hq : (ford .f64 x x == some .eq) = notNan x := rfl
  have e : isFin x = finB x := fin_of hx
  have q1 : (ford .f64 x 9218868437227405311 == some .lt || ford .f64 x 9218868437227405311 == some .eq) = (ford .f64 x MX == some .lt || ford .f64 x MX == some .eq) := rfl
  have q2 : (ford .f64 x 18442240474082181119 == some .gt || ford .f64 x 18442240474082181119 == some .eq) = (ford .f64 x NX == some .gt || ford .f64 x NX == some .eq) := rfl
  unfold isFin at e
  refine CallP_of (hX ▸ ir51_eq) (ho _ _ (by decide)) (Nat.le_of_ble_eq_true rfl) ?_
  refine W_seq (W_ops [0] ?_)
  simp only [o51_0, WO_move, WO_nil, geT_put, frame_nil, frame_cons, evO_const, keep_nil, keep_cons, keepK_eq, Nat.reduceEqDiff, reduceIte, eq_self, Nat.zero_add]
  intro fr e0
  refine SeqK_n ?_
  cases h1 : notNan x with
  | false =>
    refine W_seq (W_ops [2] ?_)
    simp only [o51_1, WO_bin, WO_move, WO_pick, pick_b, binf_eql, binf_geq, binf_leq, WO_nil, PureK_some, WO_guard, want_v, wantB_t, geT_put, evO_tmp, evO_const, keep_nil, keep_cons, keepK_eq, Nat.reduceEqDiff, reduceIte, eq_self, Bool.false_eq_true, e0, hq, h1]
    clear e0
    intro fr e2
    refine SeqK_n ?_
    exact W_ret (Ret1 e2 ⟨by rw [← e, h1]; rfl, rfl⟩)
  | true =>
    cases h2 : (ford .f64 x MX == some .lt || ford .f64 x MX == some .eq) with
    | false =>
      refine W_seq (W_ops [2] ?_)
      simp only [o51_1, WO_bin, WO_move, WO_pick, pick_b, binf_eql, binf_geq, binf_leq, WO_nil, PureK_some, WO_guard, want_v, wantB_t, geT_put, evO_tmp, evO_const, keep_nil, keep_cons, keepK_eq, Nat.reduceEqDiff, reduceIte, eq_self, Bool.false_eq_true, e0, hq, h1, q1, h2]
      clear e0
      intro fr e2
      refine SeqK_n ?_
      exact W_ret (Ret1 e2 ⟨by rw [← e, h1, h2]; rfl, rfl⟩)
    | true =>
      refine W_seq (W_ops [2] ?_)
      simp only [o51_1, WO_bin, WO_move, WO_pick, pick_b, binf_eql, binf_geq, binf_leq, WO_nil, PureK_some, WO_guard, want_v, wantB_t, geT_put, evO_tmp, evO_const, keep_nil, keep_cons, keepK_eq, Nat.reduceEqDiff, reduceIte, eq_self, e0, hq, h1, q1, h2, q2]
      clear e0
      intro fr e2
      refine SeqK_n ?_
      exact W_ret (Ret1 e2 ⟨by rw [← e, h1, h2]; simp, rfl⟩)

theorem run52 {X : Ctx} (hX : X.fns = fnsOf Try.prog) (ho : ∀ f args, f ≠ 9 → X.orc f args = none) {s : Mm} {x : Nat} (hx : x < 18446744073709551616) : CallP X 52 [.float .f64 x] s (fun r s' => r = .bool (finB x && ford .f64 x 0 == some .gt) ∧ s = s') := by
  refine CallP_of (hX ▸ ir52_eq) (ho _ _ (by decide)) (Nat.le_of_ble_eq_true rfl) ?_
  refine W_seq (W_ops [0] ?_)
  simp only [o52_0, WO_move, WO_nil, geT_put, frame_nil, frame_cons, evO_const, keep_nil, keep_cons, keepK_eq, Nat.reduceEqDiff, reduceIte, eq_self, Nat.zero_add]
  intro fr e0
  refine SeqK_n ?_
  refine W_seq (W_ops [2] ?_)
  simp only [o52_1, WO_call, WO_move, geT_put, evO_tmp, List.map_cons, List.map_nil, reduceIte, eq_self, e0]
  refine CallK_of (run51 hX ho hx) ?_
  rintro _ _ ⟨rfl, rfl⟩
  cases h : finB x with
  | false =>
    simp only [WO_bin, WO_move, WO_pick, pick_b, binf_gtr, WO_nil, PureK_some, WO_guard, want_v, wantB_t, geT_put, evO_tmp, evO_const, keep_nil, keep_cons, keepK_eq, Nat.reduceEqDiff, reduceIte, Bool.false_and, eq_self, Bool.false_eq_true, e0]
    clear e0
    intro fr e2
    refine SeqK_n ?_
    exact W_ret (Ret1 e2 ⟨rfl, rfl⟩)
  | true =>
    simp only [WO_bin, WO_move, WO_pick, pick_b, binf_gtr, WO_nil, PureK_some, WO_guard, want_v, wantB_t, geT_put, evO_tmp, evO_const, keep_nil, keep_cons, keepK_eq, Nat.reduceEqDiff, reduceIte, Bool.true_and, eq_self, e0]
    clear e0
    intro fr e2
    refine SeqK_n ?_
    exact W_ret (Ret1 e2 ⟨by simp, rfl⟩)

theorem run31 {X : Ctx} (hX : X.fns = fnsOf Try.prog) (ho : ∀ f args, f ≠ 9 → X.orc f args = none) {s : Mm} {v : Value} {b : List UInt8} (h : SlC s 1 v b.length (bsV b)) (hn : b.length < 2 ^ 62) :
    CallP X 31 [v] s (fun r s' => r = .int .u32 (fnvF 2166136261 b : Nat) ∧ s = s') := by
  refine CallP_of (hX ▸ ir31_eq) (ho _ _ (by decide)) (Nat.le_of_ble_eq_true rfl) ?_
  refine W_seq (W_ops [0] ?_)
  simp only [o31_0, WO_move, WO_nil, geT_put, frame_nil, frame_cons, evO_const, keep_nil, keep_cons, keepK_eq, Nat.reduceEqDiff, reduceIte, eq_self, Nat.zero_add]
  intro fr e0
  refine SeqK_n ?_
  refine W_seq (W_ops [0, 3] ?_)
  simp only [o31_1, WO_move, WO_nil, geT_put, evO_const, keep_nil, keep_cons, keepK_eq, Nat.reduceEqDiff, reduceIte, eq_self, e0]
  clear e0
  intro fr e0 e3
  refine SeqK_n ?_
  refine W_assoc ?_
  refine W_seq (W_ops [0, 3, 4] ?_)
  simp only [o31_2, WO_move, WO_nil, geT_put, evO_const, keep_nil, keep_cons, keepK_eq, Nat.reduceEqDiff, reduceIte, eq_self, e0, e3]
  clear e0 e3
  intro fr e0 e3 e4
  refine SeqK_n ?_
  refine W_seq (W_block (W_loop (fun m fr s1 => ∃ k p, k + m = b.length ∧ fnvF p (b.drop k) = fnvF 2166136261 b ∧ p < 4294967296 ∧ s = s1 ∧ geT fr 0 = v ∧ geT fr 3 = .int .u32 (p : Nat) ∧ geT fr 4 = .int .i64 (k : Nat)) b.length ⟨0, 2166136261, by simp, by simp, by omega, rfl, e0, e3, e4⟩ ?_))
  clear e0 e3 e4 fr
  rintro m fr _ ⟨k, p, hk, hp, hp2, rfl, e0, e3, e4⟩
  refine W_assoc ?_
  refine W_seq (W_ops [0, 3, 4, 8] ?_)
  simp only [o31_4, WO_bin, WO_bu, WO_move, bin_lss, WO_nil, PureK_some, geT_put, evO_tmp, keep_nil, keep_cons, keepK_eq, List.map_cons, List.map_nil, Nat.reduceEqDiff, reduceIte, eq_self, e0, e3, e4, h.len]
  clear e0 e3 e4
  intro fr e0 e3 e4 e8
  refine SeqK_n ?_
  refine W_while e8 (fun hlt => ?_) (fun hlt => ?_)
  · have hk2 : k < b.length := by omega
    have hx := xor_u32 hp2 (by have := (b[k]).toNat_lt; omega : (b[k]).toNat < 4294967296)
    have hl : loadV s none (elP v k) = some (.int .u8 ((b[k]).toNat : Nat)) := h.load (by simp [bsV, byteV, hk2])
    refine W_seq (W_block ?_)
    refine W_ops [0, 3, 4] ?_
    simp only [o31_5, WO_addrSl, WO_bin, WO_conv, conv_int, WO_load, WO_move, bin_mul, bin_xor, WO_nil, PureK_some, geT_put, evO_tmp, evO_const, keep_nil, keep_cons, keepK_eq, Option.map_some, Nat.reduceEqDiff, reduceIte, eq_self, Nat.mul_one, e0, e3, e4, h.addr (kk := .i64) (i := (k : Int)) rfl hk2, hl, wrap_u32 (n := ((b[k]).toNat : Int)) (by omega) (by have := (b[k]).toNat_lt; omega), hx]
    clear e0 e3 e4 e8
    intro fr e0 e3 e4
    refine BlkK_n (SeqK_n ?_)
    refine W_ops [0, 3, 4] ?_
    simp only [o31_6, WO_bin, WO_move, bin_add, WO_nil, PureK_some, geT_put, evO_tmp, evO_const, keep_nil, keep_cons, keepK_eq, Nat.reduceEqDiff, reduceIte, eq_self, e0, e3, e4, wrap_i64 (n := (k : Int) + 1) (by omega) (by omega)]
    clear e0 e3 e4
    intro fr e0 e3 e4
    refine LoopK_n (m' := m - 1) (by omega) ⟨k + 1, (p ^^^ (b[k]).toNat) * 16777619 % 4294967296, by omega, ?_, by omega, rfl, e0, ?_, by rw [e4]; rfl⟩
    · rw [← hp, List.drop_eq_getElem_cons hk2]; rfl
    · rw [e3]; rfl
  · refine LoopK_x (BlkK_e (SeqK_n ?_))
    have : k = b.length := by omega
    subst this
    refine W_seq (W_ops [2] ?_)
    simp only [o31_7, WO_move, WO_nil, geT_put, evO_tmp, keep_nil, keep_cons, keepK_eq, Nat.reduceEqDiff, reduceIte, eq_self, e3]
    clear e0 e3 e4 e8
    intro fr e2
    refine SeqK_n ?_
    simp only [List.drop_length, fnvF] at hp
    exact W_ret (Ret1 e2 ⟨by rw [hp], rfl⟩)

theorem run32 {X : Ctx} (hX : X.fns = fnsOf Try.prog) (ho : ∀ f args, f ≠ 9 → X.orc f args = none) {s : Mm} {v : Value} {b : List UInt8} (h : SlC s 1 v b.length (bsV b)) (hn : b.length < 2 ^ 62) :
    CallP X 32 [v] s (fun r s' => r = .int .u64 (getF 0 b : Nat) ∧ s = s') := by
  refine CallP_of (hX ▸ ir32_eq) (ho _ _ (by decide)) (Nat.le_of_ble_eq_true rfl) ?_
  refine W_seq (W_ops [0] ?_)
  simp only [o32_0, WO_move, WO_nil, geT_put, frame_nil, frame_cons, evO_const, keep_nil, keep_cons, keepK_eq, Nat.reduceEqDiff, reduceIte, eq_self, Nat.zero_add]
  intro fr e0
  refine SeqK_n ?_
  refine W_seq (W_ops [0, 3] ?_)
  simp only [o32_1, WO_move, WO_nil, geT_put, evO_const, keep_nil, keep_cons, keepK_eq, Nat.reduceEqDiff, reduceIte, eq_self, e0]
  clear e0
  intro fr e0 e3
  refine SeqK_n ?_
  refine W_assoc ?_
  refine W_seq (W_ops [0, 3, 4] ?_)
  simp only [o32_2, WO_move, WO_nil, geT_put, evO_const, keep_nil, keep_cons, keepK_eq, Nat.reduceEqDiff, reduceIte, eq_self, e0, e3]
  clear e0 e3
  intro fr e0 e3 e4
  refine SeqK_n ?_
  refine W_seq (W_block (W_loop (fun m fr s1 => ∃ k p : Nat, k + m = b.length ∧ getF p (b.drop k) = getF 0 b ∧ s = s1 ∧ geT fr 0 = v ∧ geT fr 3 = .int .u64 (p : Nat) ∧ geT fr 4 = .int .i64 (k : Nat)) b.length ⟨0, 0, by simp, by simp, rfl, e0, e3, e4⟩ ?_))
  clear e0 e3 e4 fr
  rintro m fr _ ⟨k, p, hk, hp, rfl, e0, e3, e4⟩
  refine W_assoc ?_
  refine W_seq (W_ops [0, 3, 4, 8] ?_)
  simp only [o32_4, WO_bin, WO_bu, WO_move, bin_lss, WO_nil, PureK_some, geT_put, evO_tmp, keep_nil, keep_cons, keepK_eq, List.map_cons, List.map_nil, Nat.reduceEqDiff, reduceIte, eq_self, e0, e3, e4, h.len]
  clear e0 e3 e4
  intro fr e0 e3 e4 e8
  refine SeqK_n ?_
  refine W_while e8 (fun hlt => ?_) (fun hlt => ?_)
  · have hk2 : k < b.length := by omega
    have hb := (b[k]).toNat_lt
    have hl : loadV s none (elP v k) = some (.int .u8 ((b[k]).toNat : Nat)) := h.load (by simp [bsV, byteV, hk2])
    refine W_seq (W_block ?_)
    refine W_ops [0, 3, 4] ?_
    simp only [o32_5, WO_addrSl, WO_bin, WO_conv, conv_int, WO_load, WO_move, bin_or, bin_shl, WO_nil, PureK_some, geT_put, evO_tmp, evO_const, keep_nil, keep_cons, keepK_eq, Option.map_some, Nat.reduceEqDiff, reduceIte, eq_self, Nat.mul_one, e0, e3, e4, shl8, h.addr (kk := .i64) (i := (k : Int)) rfl hk2, hl, wrap_u64 (n := ((b[k]).toNat : Int)) (by omega) (by omega), or_u64 (a := p) (b := (b[k]).toNat) (by omega)]
    clear e0 e3 e4 e8
    intro fr e0 e3 e4
    refine BlkK_n (SeqK_n ?_)
    refine W_ops [0, 3, 4] ?_
    simp only [o32_6, WO_bin, WO_move, bin_add, WO_nil, PureK_some, geT_put, evO_tmp, evO_const, keep_nil, keep_cons, keepK_eq, Nat.reduceEqDiff, reduceIte, eq_self, e0, e3, e4, wrap_i64 (n := (k : Int) + 1) (by omega) (by omega)]
    clear e0 e3 e4
    intro fr e0 e3 e4
    refine LoopK_n (m' := m - 1) (by omega) ⟨k + 1, (p * 256 + (b[k]).toNat) % 18446744073709551616, by omega, ?_, rfl, e0, e3, by rw [e4]; rfl⟩
    rw [← hp, List.drop_eq_getElem_cons hk2]; rfl
  · refine LoopK_x (BlkK_e (SeqK_n ?_))
    have : k = b.length := by omega
    subst this
    refine W_seq (W_ops [2] ?_)
    simp only [o32_7, WO_move, WO_nil, geT_put, evO_tmp, keep_nil, keep_cons, keepK_eq, Nat.reduceEqDiff, reduceIte, eq_self, e3]
    clear e0 e3 e4 e8
    intro fr e2
    refine SeqK_n ?_
    simp only [List.drop_length, getF] at hp
    exact W_ret (Ret1 e2 ⟨by rw [hp], rfl⟩)

end Go.Proofs.Ytkfcejhebepdkaa

/- The document's tests of bytes. -/
namespace Go.Proofs.Ytkfcejhebepdkaa
open Go Go.Vam

def headOk (b : List UInt8) : Bool := decide (b.take (min b.length 3) = hdr.take (min b.length 3))

/-- Can what is there be no frame's begin? -/
def wrongF (b : List UInt8) : Bool :=
  if headOk b = false then true
  else if b.length < 7 then false
  else if badN (getF 0 (subB b 3 7)) = true then true
  else if b.length < 23 then false
  else if (finB (getF 0 (subB b 7 15)) && okU (getF 0 (subB b 15 23))) = false then true
  else if b.length < 27 then false
  else badG (getF 0 (subB b 23 25)) (getF 0 (subB b 25 27)) ((getF 0 (subB b 3 7) - 20) / 4)

def sizeF (b : List UInt8) : Nat := if b.length < 27 then 0 else getF 0 (subB b 3 7) + 11


theorem run30 {X : Ctx} (hX : X.fns = fnsOf Try.prog) (ho : ∀ f args, f ≠ 9 → X.orc f args = none) {s : Mm} {v : Value} {b : List UInt8} (h : Bs s v b) (hn : b.length ≤ 70368744177664) : CallP X 30 [v] s (fun r s' => r = .int .i64 (sizeF b : Nat) ∧ s = s') := by
  refine CallP_of (hX ▸ ir30_eq) (ho _ _ (by decide)) (Nat.le_of_ble_eq_true rfl) ?_
  refine W_seq (W_ops [0] ?_)
  simp only [o30_0, WO_move, WO_nil, geT_put, frame_nil, frame_cons, evO_const, keep_nil, keep_cons, keepK_eq, Nat.reduceEqDiff, ↓reduceIte, eq_self, Nat.zero_add]
  intro fr e0
  refine SeqK_n ?_
  refine W_assoc ?_
  refine W_seq (W_ops [0, 5] ?_)
  simp only [o30_1, WO_bin, WO_bu, WO_move, bin_lss, WO_nil, PureK_some, geT_put, evO_tmp, evO_const, keep_nil, keep_cons, keepK_eq, List.map_cons, List.map_nil, Nat.reduceEqDiff, ↓reduceIte, eq_self, e0, h.len]
  clear e0
  intro fr e0 e5
  refine SeqK_n ?_
  refine W_seq (W_if e5 (fun hc => ?_) (fun hc => W_skip (SeqK_n ?_)))
  · refine W_seq (W_ops [2] ?_)
    simp only [o30_2, WO_move, WO_nil, geT_put, evO_const, keep_nil, keep_cons, keepK_eq, ↓reduceIte, eq_self]
    clear e0 e5
    intro fr e2
    refine SeqK_n ?_
    exact W_ret (SeqK_r (Ret1 e2 ⟨by rw [sizeF, if_pos (by omega)]; rfl, rfl⟩))
  have h7 : 7 ≤ b.length := by omega
  have hN := getF_32 (b := b) (l := 3) (h := 7) rfl h7
  have hsl : slV 1 v (some (.int .i64 3)) (some (.int .i64 7)) none = some (subS 1 v 3 7) := h.sl rfl rfl (by omega) h7
  refine W_seq (W_ops [2] ?_)
  simp only [o30_3, WO_call, WO_move, WO_slSl, PureK_some, geT_put, evO_tmp, evO_const, List.map_cons, List.map_nil, Option.map_some, Option.map_none, ↓reduceIte, eq_self, e0, hsl]
  refine CallK_of (run32 hX ho (Bs.sub h (by omega : 3 ≤ 7) h7) (by rw [subB_length h7]; omega)) ?_
  rintro _ _ ⟨rfl, rfl⟩
  simp only [WO_bin, WO_conv, conv_int, WO_move, bin_add, WO_nil, PureK_some, geT_put, evO_tmp, evO_const, keep_nil, keep_cons, keepK_eq, ↓reduceIte, eq_self, wrap_i64 (n := ((getF 0 (subB b 3 7) : Nat) : Int)) (by omega) (by omega), wrap_i64 (n := ((getF 0 (subB b 3 7) : Nat) : Int) + 11) (by omega) (by omega)]
  clear e0 e5
  intro fr e2
  refine SeqK_n ?_
  exact W_ret (Ret1 e2 ⟨by rw [sizeF, if_neg (by omega)]; rfl, rfl⟩)

set_option maxHeartbeats 2000000 in
theorem rest29 {X : Ctx} (hX : X.fns = fnsOf Try.prog) (ho : ∀ f args, f ≠ 9 → X.orc f args = none) {s s1 : Mm} {v : Value} {b : List UInt8} (h1 : Bs s1 v b) (hs1 : Same s s1 (fun _ => False)) (hn : b.length ≤ 70368744177664) (hok : headOk b = true) {fr : Fr} (e0 : geT fr 0 = v) :
    W X (.seq (.seq (.ops o29_8) (.cond (.tmp 30) (.seq (.ops o29_9) .ret) .skip)) (.seq (.ops o29_10) (.seq (.seq (.ops o29_11) (.cond (.tmp 46) (.seq (.ops o29_12) .ret) .skip)) (.seq (.seq (.ops o29_13) (.cond (.tmp 49) (.seq (.ops o29_14) .ret) .skip)) (.seq (.seq (.ops o29_15) (.cond (.tmp 63) (.seq (.ops o29_16) .ret) .skip)) (.seq (.seq (.ops o29_17) (.cond (.tmp 66) (.seq (.ops o29_18) .ret) .skip)) (.seq (.ops o29_19) (.seq (.ops o29_20) (.seq (.ops o29_21) .ret)))))))))
      fr s1 (RetK ir29.results fun r s' => r = .bool (wrongF b) ∧ Same s s' (fun _ => False)) := by
  have hf : wrongF b = if b.length < 7 then false
      else if badN (getF 0 (subB b 3 7)) = true then true
      else if b.length < 23 then false
      else if (finB (getF 0 (subB b 7 15)) && okU (getF 0 (subB b 15 23))) = false then true
      else if b.length < 27 then false
      else badG (getF 0 (subB b 23 25)) (getF 0 (subB b 25 27)) ((getF 0 (subB b 3 7) - 20) / 4) := by
    unfold wrongF; rw [if_neg (by rw [hok]; simp)]
  refine W_assoc ?_
  refine W_seq (W_ops [0, 30] ?_)
  simp only [o29_8, WO_bin, WO_bu, WO_move, bin_lss, WO_nil, PureK_some, geT_put, evO_tmp, evO_const, keep_nil, keep_cons, keepK_eq, List.map_cons, List.map_nil, Nat.reduceEqDiff, ↓reduceIte, eq_self, e0, h1.len]
  clear e0
  intro fr e0 e30
  refine SeqK_n ?_
  refine W_seq (W_if e30 (fun hc => ?_) (fun hc => W_skip (SeqK_n ?_)))
  · refine W_seq (W_ops [2] ?_)
    simp only [o29_9, WO_move, WO_nil, geT_put, evO_const, keep_nil, keep_cons, keepK_eq, ↓reduceIte, eq_self]
    clear e0 e30
    intro fr e2
    refine SeqK_n ?_
    exact W_ret (SeqK_r (Ret1 e2 ⟨by rw [hf, if_pos (by omega)], hs1⟩))
  rw [if_neg (by omega)] at hf
  have hn7 : 7 ≤ b.length := by omega
  have hN := getF_32 (b := b) (l := 3) (h := 7) rfl hn7
  have hsl2 : slV 1 v (some (.int .i64 3)) (some (.int .i64 7)) none = some (subS 1 v 3 7) := h1.sl rfl rfl (by omega) hn7
  refine W_seq (W_ops [0, 5] ?_)
  simp only [o29_10, WO_call, WO_move, WO_slSl, PureK_some, geT_put, evO_tmp, evO_const, List.map_cons, List.map_nil, Option.map_some, Option.map_none, ↓reduceIte, eq_self, e0, hsl2]
  refine CallK_of (run32 hX ho (Bs.sub h1 (by omega : 3 ≤ 7) hn7) (by rw [subB_length hn7]; omega)) ?_
  rintro _ _ ⟨rfl, rfl⟩
  simp only [WO_move, WO_nil, geT_put, evO_tmp, keep_nil, keep_cons, keepK_eq, Nat.reduceEqDiff, ↓reduceIte, eq_self, e0]
  clear e0 e30
  intro fr e0 e5
  refine SeqK_n ?_
  generalize getF 0 (subB b 3 7) = N at hN hf e5
  refine W_assoc ?_
  refine W_seq (W_opsB [0, 5, 46] (fun fr1 s2 => s1 = s2 ∧ geT fr1 0 = v ∧ geT fr1 5 = .int .u64 (N : Nat) ∧ geT fr1 46 = .bool (badN N)) ?_ ?_)
  · intro R' hR'
    have d4 : ¬ ((4 : Int) = 0) := by decide
    have hm : (N : Int).tmod 4 = ((N % 4 : Nat) : Int) := rfl
    by_cases a1 : N < 20
    · have a1' : (N : Int) < 20 := by omega
      simp only [o29_11, WO_bin, WO_move, WO_pick, pick_b, bin_lss, WO_nil, PureK_some, WO_guard, want_v, wantB_f, geT_put, evO_tmp, evO_const, keep_nil, keep_cons, keepK_eq, Nat.reduceEqDiff, ↓reduceIte, Bool.not_true, decide_true, eq_self, Bool.false_eq_true, e0, e5, a1']
      intro fr e0 e5 e46
      exact hR' _ _ ⟨rfl, e0, e5, by rw [e46]; simp [badN, a1]⟩
    · have a1' : ¬ (N : Int) < 20 := by omega
      have w20 : wrapK .u64 ((N : Int) - 20) = ((N - 20 : Nat) : Int) := by rw [wrap_u64 (by omega) (by omega)]; omega
      have q20 : ((N - 20 : Nat) : Int).tdiv 4 = (((N - 20) / 4 : Nat) : Int) := rfl
      have wq := wrap_u64 (n := (((N - 20) / 4 : Nat) : Int)) (by omega) (by omega)
      by_cases a2 : N % 4 = 0
      · have a2' : ((N % 4 : Nat) : Int) = 0 := by omega
        simp only [o29_11, WO_bin, WO_move, WO_pick, pick_b, bin_gtr, bin_lss, bin_neq, bin_quo, bin_rem, bin_sub, WO_nil, PureK_some, WO_guard, want_v, wantB_f, geT_put, evO_tmp, evO_const, keep_nil, keep_cons, keepK_eq, Nat.reduceEqDiff, ↓reduceIte, Bool.not_true, Bool.not_false, decide_true, decide_false, eq_self, Bool.false_eq_true, e0, e5, a1', d4, hm, a2', w20, q20, wq]
        intro fr e0 e5 e46
        refine hR' _ _ ⟨rfl, e0, e5, ?_⟩
        rw [e46]
        simp only [badN, a1, a2, decide_false, decide_true, Bool.false_or, Bool.not_true]
        congr 1
        exact decide_eq_decide.2 (by omega)
      · have a2' : ¬ ((N % 4 : Nat) : Int) = 0 := by omega
        simp only [o29_11, WO_bin, WO_move, WO_pick, pick_b, bin_lss, bin_neq, bin_rem, WO_nil, PureK_some, WO_guard, want_v, wantB_f, geT_put, evO_tmp, evO_const, keep_nil, keep_cons, keepK_eq, Nat.reduceEqDiff, ↓reduceIte, Bool.not_true, Bool.not_false, decide_false, eq_self, Bool.false_eq_true, e0, e5, a1', d4, hm, a2']
        intro fr e0 e5 e46
        exact hR' _ _ ⟨rfl, e0, e5, by rw [e46]; simp [badN, a1, a2]⟩
  clear e0 e5 fr
  rintro fr _ ⟨rfl, e0, e5, e46⟩
  refine SeqK_n (W_seq (W_cond e46 (fun hc3 => ?_) (fun hc3 => W_skip (SeqK_n ?_))))
  · skip
    refine W_seq (W_ops [2] ?_)
    simp only [o29_12, WO_move, WO_nil, geT_put, evO_const, keep_nil, keep_cons, keepK_eq, ↓reduceIte, eq_self]
    clear e0 e5 e46
    intro fr e2
    refine SeqK_n ?_
    exact W_ret (SeqK_r (Ret1 e2 ⟨by rw [hf, if_pos hc3], hs1⟩))
  rw [if_neg (by rw [hc3]; simp)] at hf
  have hN20 : 20 ≤ N ∧ N % 4 = 0 ∧ (N - 20) / 4 ≤ 262144 := by
    simp only [badN, Bool.or_eq_false_iff, decide_eq_false_iff_not, Bool.not_eq_false', decide_eq_true_eq] at hc3
    omega
  refine W_assoc ?_
  refine W_seq (W_ops [0, 5, 49] ?_)
  simp only [o29_13, WO_bin, WO_bu, WO_move, bin_lss, WO_nil, PureK_some, geT_put, evO_tmp, evO_const, keep_nil, keep_cons, keepK_eq, List.map_cons, List.map_nil, Nat.reduceEqDiff, ↓reduceIte, eq_self, e0, e5, h1.len]
  clear e0 e5 e46
  intro fr e0 e5 e49
  refine SeqK_n ?_
  refine W_seq (W_if e49 (fun hc4 => ?_) (fun hc4 => W_skip (SeqK_n ?_)))
  · refine W_seq (W_ops [2] ?_)
    simp only [o29_14, WO_move, WO_nil, geT_put, evO_const, keep_nil, keep_cons, keepK_eq, ↓reduceIte, eq_self]
    clear e0 e5 e49
    intro fr e2
    refine SeqK_n ?_
    exact W_ret (SeqK_r (Ret1 e2 ⟨by rw [hf, if_pos (by omega)], hs1⟩))
  rw [if_neg (by omega)] at hf
  have hn23 : 23 ≤ b.length := by omega
  have hsl3 : slV 1 v (some (.int .i64 7)) (some (.int .i64 15)) none = some (subS 1 v 7 15) := h1.sl rfl rfl (by omega) (by omega)
  have hsl4 : slV 1 v (some (.int .i64 15)) (some (.int .i64 23)) none = some (subS 1 v 15 23) := h1.sl rfl rfl (by omega) hn23
  have hT := getF_lt (subB b 7 15) 0 (by omega)
  have hU := getF_lt (subB b 15 23) 0 (by omega)
  refine W_assoc ?_
  refine W_seq (W_opsB [0, 5, 63] (fun fr1 s2 => s1 = s2 ∧ geT fr1 0 = v ∧ geT fr1 5 = .int .u64 (N : Nat) ∧ geT fr1 63 = .bool (!(finB (getF 0 (subB b 7 15)) && okU (getF 0 (subB b 15 23))))) ?_ ?_)
  · intro R' hR'
    simp only [o29_15, WO_call, WO_move, WO_slSl, PureK_some, geT_put, evO_tmp, evO_const, List.map_cons, List.map_nil, Option.map_some, Option.map_none, ↓reduceIte, eq_self, e0, hsl3]
    refine CallK_of (run32 hX ho (Bs.sub h1 (by omega : 7 ≤ 15) (by omega)) (by rw [subB_length (by omega)]; omega)) ?_
    rintro _ _ ⟨rfl, rfl⟩
    simp only [WO_call, WO_ext, PureK_some, geT_put, evO_tmp, List.map_cons, List.map_nil, ↓reduceIte, eq_self, ext1_nat hT]
    refine CallK_of (run51 hX ho hT) ?_
    rintro _ _ ⟨rfl, rfl⟩
    simp only [WO_call, WO_ext, WO_move, WO_pick, pick_b, WO_slSl, WO_un, un_not, WO_nil, PureK_some, WO_guard, want_v, wantB_f, geT_put, evO_tmp, evO_const, keep_nil, keep_cons, keepK_eq, List.map_cons, List.map_nil, Option.map_some, Option.map_none, Nat.reduceEqDiff, ↓reduceIte, Bool.not_not, eq_self, e0, e5]
    cases hx : finB (getF 0 (subB b 7 15)) with
    | false =>
      simp only [↓reduceIte, Bool.not_false, eq_self, Bool.false_eq_true]
      intro fr e0 e5 e63
      exact hR' _ _ ⟨rfl, e0, e5, by rw [e63, hx]; rfl⟩
    | true =>
      simp only [WO_call, PureK_some, WO_guard, want_v, wantB_f, geT_put, evO_tmp, List.map_cons, List.map_nil, Nat.reduceEqDiff, ↓reduceIte, Bool.not_true, Bool.not_false, eq_self, hsl4]
      refine CallK_of (run32 hX ho (Bs.sub h1 (by omega : 15 ≤ 23) hn23) (by rw [subB_length hn23]; omega)) ?_
      rintro _ _ ⟨rfl, rfl⟩
      simp only [WO_call, WO_ext, PureK_some, WO_guard, want_v, wantB_f, geT_put, evO_tmp, List.map_cons, List.map_nil, Nat.reduceEqDiff, ↓reduceIte, Bool.not_false, eq_self, ext1_nat hU]
      refine CallK_of (run52 hX ho hU) ?_
      rintro _ _ ⟨rfl, rfl⟩
      simp only [WO_pick, pick_b, WO_un, un_not, WO_nil, PureK_some, WO_guard, want_v, wantB_f, geT_put, evO_tmp, evO_const, keep_nil, keep_cons, keepK_eq, Nat.reduceEqDiff, ↓reduceIte, Bool.not_false, eq_self, Bool.false_eq_true, e0, e5]
      intro fr e0 e5 e63
      exact hR' _ _ ⟨rfl, e0, e5, by rw [e63, hx]; simp [okU]⟩
  clear e0 e5 e49 fr
  rintro fr _ ⟨rfl, e0, e5, e63⟩
  refine SeqK_n (W_seq (W_cond e63 (fun hc5 => ?_) (fun hc5 => W_skip (SeqK_n ?_))))
  · skip
    refine W_seq (W_ops [2] ?_)
    simp only [o29_16, WO_move, WO_nil, geT_put, evO_const, keep_nil, keep_cons, keepK_eq, ↓reduceIte, eq_self]
    clear e0 e5 e63
    intro fr e2
    refine SeqK_n ?_
    exact W_ret (SeqK_r (Ret1 e2 ⟨by rw [hf, if_pos (by rw [Bool.not_eq_true'] at hc5; exact hc5)], hs1⟩))
  rw [if_neg (by rw [Bool.not_eq_false'] at hc5; rw [hc5]; simp)] at hf
  refine W_assoc ?_
  refine W_seq (W_ops [0, 5, 66] ?_)
  simp only [o29_17, WO_bin, WO_bu, WO_move, bin_lss, WO_nil, PureK_some, geT_put, evO_tmp, evO_const, keep_nil, keep_cons, keepK_eq, List.map_cons, List.map_nil, Nat.reduceEqDiff, ↓reduceIte, eq_self, e0, e5, h1.len]
  clear e0 e5 e63
  intro fr e0 e5 e66
  refine SeqK_n ?_
  refine W_seq (W_if e66 (fun hc6 => ?_) (fun hc6 => W_skip (SeqK_n ?_)))
  · refine W_seq (W_ops [2] ?_)
    simp only [o29_18, WO_move, WO_nil, geT_put, evO_const, keep_nil, keep_cons, keepK_eq, ↓reduceIte, eq_self]
    clear e0 e5 e66
    intro fr e2
    refine SeqK_n ?_
    exact W_ret (SeqK_r (Ret1 e2 ⟨by rw [hf, if_pos (by omega)], hs1⟩))
  rw [if_neg (by omega)] at hf
  have hn27 : 27 ≤ b.length := by omega
  have hsl5 : slV 1 v (some (.int .i64 23)) (some (.int .i64 25)) none = some (subS 1 v 23 25) := h1.sl rfl rfl (by omega) (by omega)
  have hsl6 : slV 1 v (some (.int .i64 25)) (some (.int .i64 27)) none = some (subS 1 v 25 27) := h1.sl rfl rfl (by omega) hn27
  have hR := getF_16 (b := b) (l := 23) (h := 25) rfl (by omega)
  have hG := getF_16 (b := b) (l := 25) (h := 27) rfl (by omega)
  refine W_seq (W_ops [0, 5, 6] ?_)
  simp only [o29_19, WO_call, WO_move, WO_slSl, PureK_some, geT_put, evO_tmp, evO_const, List.map_cons, List.map_nil, Option.map_some, Option.map_none, ↓reduceIte, eq_self, e0, hsl5]
  refine CallK_of (run32 hX ho (Bs.sub h1 (by omega : 23 ≤ 25) (by omega)) (by rw [subB_length (by omega)]; omega)) ?_
  rintro _ _ ⟨rfl, rfl⟩
  simp only [WO_move, WO_nil, geT_put, evO_tmp, keep_nil, keep_cons, keepK_eq, Nat.reduceEqDiff, ↓reduceIte, eq_self, e0, e5]
  clear e0 e5 e66
  intro fr e0 e5 e6
  refine SeqK_n ?_
  refine W_seq (W_ops [5, 6, 7] ?_)
  simp only [o29_20, WO_call, WO_move, WO_slSl, PureK_some, geT_put, evO_tmp, evO_const, List.map_cons, List.map_nil, Option.map_some, Option.map_none, ↓reduceIte, eq_self, e0, hsl6]
  refine CallK_of (run32 hX ho (Bs.sub h1 (by omega : 25 ≤ 27) hn27) (by rw [subB_length hn27]; omega)) ?_
  rintro _ _ ⟨rfl, rfl⟩
  simp only [WO_move, WO_nil, geT_put, evO_tmp, keep_nil, keep_cons, keepK_eq, Nat.reduceEqDiff, ↓reduceIte, eq_self, e5, e6]
  clear e0 e5 e6
  intro fr e5 e6 e7
  refine SeqK_n ?_
  generalize getF 0 (subB b 23 25) = R at hR hf e6
  generalize getF 0 (subB b 25 27) = G at hG hf e7
  refine W_seq (W_opsB [2] (fun fr1 s2 => s1 = s2 ∧ geT fr1 2 = .bool (badG R G ((N - 20) / 4))) ?_ ?_)
  · intro R' hR'
    have w20 : wrapK .u64 ((N : Int) - 20) = ((N - 20 : Nat) : Int) := by rw [wrap_u64 (by omega) (by omega)]; omega
    have q20 : ((N - 20 : Nat) : Int).tdiv 4 = (((N - 20) / 4 : Nat) : Int) := rfl
    have d4 : ¬ ((4 : Int) = 0) := by decide
    have wq := wrap_u64 (n := (((N - 20) / 4 : Nat) : Int)) (by omega) (by omega)
    by_cases b1 : 256 < R
    · have b1' : (256 : Int) < (R : Int) := by omega
      simp only [o29_21, WO_bin, WO_move, WO_pick, pick_b, bin_gtr, WO_nil, PureK_some, WO_guard, want_v, wantB_f, geT_put, evO_tmp, evO_const, keep_nil, keep_cons, keepK_eq, Nat.reduceEqDiff, ↓reduceIte, Bool.not_true, decide_true, eq_self, Bool.false_eq_true, e6, e7, b1']
      intro fr e2
      exact hR' _ _ ⟨rfl, by rw [e2]; simp [badG, largeB, b1]⟩
    have b1' : ¬ (256 : Int) < (R : Int) := by omega
    by_cases b2 : 16384 < G
    · have b2' : (16384 : Int) < (G : Int) := by omega
      simp only [o29_21, WO_bin, WO_move, WO_pick, pick_b, bin_gtr, WO_nil, PureK_some, WO_guard, want_v, wantB_f, geT_put, evO_tmp, evO_const, keep_nil, keep_cons, keepK_eq, Nat.reduceEqDiff, ↓reduceIte, Bool.not_true, Bool.not_false, decide_true, decide_false, eq_self, Bool.false_eq_true, e6, e7, b1', b2']
      intro fr e2
      exact hR' _ _ ⟨rfl, by rw [e2]; simp [badG, largeB, b2]⟩
    have b2' : ¬ (16384 : Int) < (G : Int) := by omega
    have hRG : R * G ≤ 256 * 16384 := Nat.mul_le_mul (by omega) (by omega)
    have wRG := wrap_u64 (n := ((R * G : Nat) : Int)) (by omega) (by omega)
    have hdec : (!decide (((R * G : Nat) : Int) = (((N - 20) / 4 : Nat) : Int))) = badG R G ((N - 20) / 4) ∨ (R = 0 ∧ 0 < G) := by
      by_cases b3 : R = 0 ∧ 0 < G
      · exact .inr b3
      · left
        have e1 : decide (((R * G : Nat) : Int) = (((N - 20) / 4 : Nat) : Int)) = decide (R * G = (N - 20) / 4) := decide_eq_decide.2 (by omega)
        have e3 : (decide (R = 0) && decide (0 < G)) = false := by
          rw [Bool.and_eq_false_iff, decide_eq_false_iff_not, decide_eq_false_iff_not]
          by_cases b4 : R = 0
          · exact .inr fun h => b3 ⟨b4, h⟩
          · exact .inl b4
        rw [e1, badG, e3, largeB]
        simp only [b1, b2, decide_false, Bool.false_or]
        by_cases b5 : 262144 < R * G
        · have : ¬ R * G = (N - 20) / 4 := by omega
          simp [b5, this]
        · simp [b5]
    by_cases b3 : R = 0
    · have b3' : (R : Int) = 0 := by omega
      by_cases b4 : 0 < G
      · have b4' : (0 : Int) < (G : Int) := by omega
        simp only [o29_21, WO_bin, WO_move, WO_pick, pick_b, bin_eql, bin_gtr, WO_nil, PureK_some, WO_guard, want_v, wantB_t, wantB_f, geT_put, evO_tmp, evO_const, keep_nil, keep_cons, keepK_eq, Nat.reduceEqDiff, ↓reduceIte, Bool.not_true, Bool.not_false, decide_true, decide_false, eq_self, Bool.false_eq_true, e6, e7, b1', b2', decide_eq_true b3', b4']
        intro fr e2
        exact hR' _ _ ⟨rfl, by rw [e2]; simp [badG, b3, b4]⟩
      · have b4' : ¬ (0 : Int) < (G : Int) := by omega
        simp only [o29_21, WO_bin, WO_move, WO_pick, pick_b, bin_eql, bin_gtr, bin_mul, bin_neq, bin_quo, bin_sub, WO_nil, PureK_some, WO_guard, want_v, wantB_t, wantB_f, geT_put, evO_tmp, evO_const, keep_nil, keep_cons, keepK_eq, Nat.reduceEqDiff, ↓reduceIte, Bool.not_false, decide_false, eq_self, Bool.false_eq_true, e5, e6, e7, b1', b2', decide_eq_true b3', b4', ← Int.natCast_mul, wRG, d4, w20, q20, wq]
        intro fr e2
        exact hR' _ _ ⟨rfl, by
          rw [e2]
          rcases hdec with hd | hd
          · rw [hd]
          · exact absurd hd.2 b4⟩
    · have b3' : ¬ (R : Int) = 0 := by omega
      simp only [o29_21, WO_bin, WO_move, WO_pick, pick_b, bin_eql, bin_gtr, bin_mul, bin_neq, bin_quo, bin_sub, WO_nil, PureK_some, WO_guard, want_v, wantB_t, wantB_f, geT_put, evO_tmp, evO_const, keep_nil, keep_cons, keepK_eq, Nat.reduceEqDiff, ↓reduceIte, Bool.not_false, decide_false, eq_self, Bool.false_eq_true, e5, e6, e7, b1', b2', b3', ← Int.natCast_mul, wRG, d4, w20, q20, wq]
      intro fr e2
      exact hR' _ _ ⟨rfl, by
        rw [e2]
        rcases hdec with hd | hd
        · rw [hd]
        · exact absurd hd.1 b3⟩
  rintro fr _ ⟨rfl, e2⟩
  exact SeqK_n (W_ret (Ret1 e2 ⟨by rw [hf], hs1⟩))

set_option maxHeartbeats 1000000 in
theorem run29 {X : Ctx} (hX : X.fns = fnsOf Try.prog) (ho : ∀ f args, f ≠ 9 → X.orc f args = none) {s : Mm} {v : Value} {b : List UInt8} (h : Bs s v b) (hn : b.length ≤ 70368744177664) : CallP X 29 [v] s (fun r s' => r = .bool (wrongF b) ∧ Same s s' (fun _ => False)) := by
  refine CallP_of (hX ▸ ir29_eq) (ho _ _ (by decide)) (Nat.le_of_ble_eq_true rfl) ?_
  refine W_seq (W_ops [0] ?_)
  simp only [o29_0, WO_move, WO_nil, geT_put, frame_nil, frame_cons, evO_const, keep_nil, keep_cons, keepK_eq, Nat.reduceEqDiff, ↓reduceIte, eq_self, Nat.zero_add]
  intro fr e0
  refine SeqK_n ?_
  have hbs : buildSlV s 1 [.int .u8 0] 3 [(0, 1, .int .u8 76), (1, 1, .int .u8 75), (2, 1, .int .u8 49)] = some (.slice (some ⟨s.nxt, 0, none⟩) 3 3, .cells (bsV hdr) false) := rfl
  refine W_seq (W_ops [0, 3] ?_)
  simp only [o29_1, WO_buildSlice, WO_move, WO_nil, NewK_some, geT_put, evO_tmp, evO_const, keep_nil, keep_cons, keepK_eq, List.map_cons, List.map_nil, Nat.reduceEqDiff, ↓reduceIte, eq_self, Nat.mul_one, e0, hbs]
  clear e0
  intro fr e0 e3
  refine SeqK_n ?_
  have hs1 : Same s (newAt s (.cells (bsV hdr) false)) (fun _ => False) := .new
  have hhd : Bs (newAt s (.cells (bsV hdr) false)) (.slice (some ⟨s.nxt, 0, none⟩) 3 3) hdr := .mk blk_new_self (by rw [nxt_new]; omega) rfl (by decide) (.inl ⟨Nat.le_refl _, by decide⟩)
  generalize newAt s (.cells (bsV hdr) false) = s1 at hs1 hhd ⊢
  generalize Value.slice (some ⟨s.nxt, 0, none⟩) 3 3 = hd at hhd e3
  have h1 : Bs s1 v b := h.same hs1 (fun _ _ h => h)
  have h3l : hdr.length = 3 := rfl
  refine W_assoc ?_
  refine W_seq (W_ops [0, 3, 4] ?_)
  simp only [o29_2, WO_move, WO_nil, geT_put, evO_const, keep_nil, keep_cons, keepK_eq, Nat.reduceEqDiff, ↓reduceIte, eq_self, e0, e3]
  clear e0 e3
  intro fr e0 e3 e4
  refine SeqK_n ?_
  refine W_seq (W_block (W_loop (fun m fr s3 => ∃ k, k + m = 3 ∧ s1 = s3 ∧ geT fr 0 = v ∧ geT fr 3 = hd ∧ geT fr 4 = .int .i64 (k : Nat) ∧ k ≤ b.length ∧ b.take k = hdr.take k) 3 ⟨0, by omega, rfl, e0, e3, e4, Nat.zero_le _, by simp⟩ ?_))
  clear e0 e3 e4 fr
  rintro m fr _ ⟨k, hk, rfl, e0, e3, e4, hkl, htk⟩
  refine W_assoc ?_
  by_cases k3 : k < 3
  case neg =>
    have k3' : ¬ (k : Int) < 3 := by omega
    refine W_seq (W_ops [0, 3, 4, 16] ?_)
    simp only [o29_4, WO_bin, WO_move, WO_pick, pick_b, bin_lss, WO_nil, PureK_some, WO_guard, want_v, wantB_t, geT_put, evO_tmp, evO_const, keep_nil, keep_cons, keepK_eq, Nat.reduceEqDiff, ↓reduceIte, decide_false, eq_self, Bool.false_eq_true, e0, e3, e4, k3']
    clear e0 e3 e4
    intro fr e0 e3 e4 e16
    refine SeqK_n ?_
    refine W_seq (W_cond e16 (fun h => by cases h) (fun _ => W_exit (SeqK_x (LoopK_x (BlkK_e (SeqK_n (rest29 hX ho h1 hs1 hn ?_ e0)))))))
    have : min b.length 3 = k := by omega
    unfold headOk; rw [this, htk]; simp
  have k3' : (k : Int) < 3 := by omega
  by_cases kl : k < b.length
  case neg =>
    have kl' : ¬ (k : Int) < (b.length : Nat) := by omega
    refine W_seq (W_ops [0, 3, 4, 16] ?_)
    simp only [o29_4, WO_bin, WO_bu, WO_move, WO_pick, pick_b, bin_lss, WO_nil, PureK_some, WO_guard, want_v, wantB_t, geT_put, evO_tmp, evO_const, keep_nil, keep_cons, keepK_eq, List.map_cons, List.map_nil, Nat.reduceEqDiff, ↓reduceIte, decide_true, decide_false, eq_self, e0, e3, e4, k3', h1.len, kl']
    clear e0 e3 e4
    intro fr e0 e3 e4 e16
    refine SeqK_n ?_
    refine W_seq (W_cond e16 (fun h => by cases h) (fun _ => W_exit (SeqK_x (LoopK_x (BlkK_e (SeqK_n (rest29 hX ho h1 hs1 hn ?_ e0)))))))
    have : min b.length 3 = k := by omega
    unfold headOk; rw [this, htk]; simp
  have kl' : (k : Int) < (b.length : Nat) := by omega
  refine W_seq (W_ops [0, 3, 4, 16] ?_)
  simp only [o29_4, WO_bin, WO_bu, WO_move, WO_pick, pick_b, bin_lss, WO_nil, PureK_some, WO_guard, want_v, wantB_t, geT_put, evO_tmp, evO_const, keep_nil, keep_cons, keepK_eq, List.map_cons, List.map_nil, Nat.reduceEqDiff, ↓reduceIte, decide_true, eq_self, e0, e3, e4, k3', h1.len, kl']
  clear e0 e3 e4
  intro fr e0 e3 e4 e16
  refine SeqK_n ?_
  refine W_seq (W_cond e16 (fun _ => W_skip (SeqK_n ?_)) (fun h => by cases h))
  have kh : k < hdr.length := by omega
  have L1 : loadV s1 none (elP v k) = some (.int .u8 ((b[k]).toNat : Nat)) := h1.load (by simp [bsV, byteV, kl])
  have L2 : loadV s1 none (elP hd k) = some (.int .u8 ((hdr[k]).toNat : Nat)) := hhd.load (by simp [bsV, byteV, kh])
  have hdd : decide (((b[k]).toNat : Int) = ((hdr[k]).toNat : Nat)) = decide (b[k] = hdr[k]) := decide_eq_decide.2 ⟨fun h => UInt8.toNat_inj.1 (by omega), fun h => by rw [h]⟩
  refine W_seq (W_block ?_)
  refine W_seq (W_draw0 [0, 3, 4, 27] rfl ?_)
  simp only [d29_5, WD_addrSl, WD_bin, WD_load, WD_move, bin_neq, WD_nil, DPureK_some, DReadK_some, pastR_nil, joinAll_nil, setH_self, geT_put, evO_tmp, keep_nil, keep_cons, keepK_eq, Nat.reduceEqDiff, Nat.reduceAdd, ↓reduceIte, eq_self, true_and, Nat.zero_add, Nat.mul_one, e0, e3, e4, h1.addr (kk := .i64) (i := (k : Int)) rfl kl, hhd.addr (kk := .i64) (i := (k : Int)) rfl kh, L1, L2, hdd]
  clear e0 e3 e4 e16
  intro fr e0 e3 e4 e27
  refine SeqK_n ?_
  refine W_ifn e27 (fun hc => ?_) (fun hc => W_skip (BlkK_n (SeqK_n ?_)))
  · refine W_seq (W_ops [2] ?_)
    simp only [o29_6, WO_move, WO_nil, geT_put, evO_const, keep_nil, keep_cons, keepK_eq, ↓reduceIte, eq_self]
    clear e0 e3 e4 e27
    intro fr e2
    refine SeqK_n ?_
    refine W_ret (BlkK_r (SeqK_r (LoopK_r (BlkK_r (SeqK_r (Ret1 e2 ⟨?_, hs1⟩))))))
    have hh : headOk b = false := by
      unfold headOk
      rw [decide_eq_false_iff_not]
      intro h
      have h2 : (b.take (min b.length 3))[k]? = (hdr.take (min b.length 3))[k]? := by rw [h]
      rw [List.getElem?_take, List.getElem?_take, if_pos (by omega), if_pos (by omega), List.getElem?_eq_getElem kl, List.getElem?_eq_getElem kh] at h2
      exact hc (Option.some.inj h2)
    unfold wrongF
    rw [if_pos hh]
  · skip
    refine W_ops [0, 3, 4] ?_
    simp only [o29_7, WO_bin, WO_move, bin_add, WO_nil, PureK_some, geT_put, evO_tmp, evO_const, keep_nil, keep_cons, keepK_eq, Nat.reduceEqDiff, ↓reduceIte, eq_self, e0, e3, e4, wrap_i64 (n := (k : Int) + 1) (by omega) (by omega)]
    clear e0 e3 e4 e27
    intro fr e0 e3 e4
    refine LoopK_n (m' := m - 1) (by omega) ⟨k + 1, by omega, rfl, e0, e3, by rw [e4]; rfl, by omega, ?_⟩
    rw [List.take_add_one, List.take_add_one, htk, List.getElem?_eq_getElem kl, List.getElem?_eq_getElem kh, hc]

end Go.Proofs.Ytkfcejhebepdkaa

/- The document's frame of so many bytes. -/
namespace Go.Proofs.Ytkfcejhebepdkaa
open Go Go.Vam

/-- A table whose rows have blocks of their own, and that may grow. -/
structure TabO (s : Mm) (v : Value) (rows : List (List Int)) (K : Nat → Prop) : Prop where
  c : ∃ cells, Own s 1 v rows.length cells ∧ (cells.all oneCell = true) ∧ ∀ (i : Nat) (r : List Int), rows[i]? = some r → ∃ c, cells[i]? = some c ∧ SlC s 1 c r.length (r.map (.int .i16)) ∧ ∀ b, footV c b → K b

theorem TabO.nil {s : Mm} {K : Nat → Prop} : TabO s (.slice none 0 0) [] K := ⟨[], .nil, rfl, fun i r h => by simp at h⟩

theorem TabO.same {s s' : Mm} {v : Value} {rows : List (List Int)} {K F : Nat → Prop} (h : TabO s v rows K) (g : Same s s' F) (h1 : ∀ x, footV v x → ¬ F x) (h2 : ∀ x, K x → ¬ F x) : TabO s' v rows K := by
  obtain ⟨cells, a, o, b⟩ := h.c
  exact ⟨cells, a.same g h1, o, fun i r h => let ⟨x, y, z, w⟩ := b i r h; ⟨x, y, z.same g (fun x hx => h2 x (w x hx)), w⟩⟩

theorem TabO.mono {s : Mm} {v : Value} {rows : List (List Int)} {K K' : Nat → Prop} (h : TabO s v rows K) (g : ∀ x, K x → K' x) : TabO s v rows K' := by
  obtain ⟨cells, a, o, b⟩ := h.c
  exact ⟨cells, a, o, fun i r h => let ⟨x, y, z, w⟩ := b i r h; ⟨x, y, z, fun b hb => g b (w b hb)⟩⟩

theorem TabO.foot {s : Mm} {v : Value} {rows : List (List Int)} {K : Nat → Prop} (h : TabO s v rows K) : ∀ x, footV v x → x < s.nxt := by
  obtain ⟨cells, a, o, b⟩ := h.c
  exact a.slc.foot

theorem TabO.one {s : Mm} {v : Value} {rows : List (List Int)} {K : Nat → Prop} (h : TabO s v rows K) : oneCell v = true := by
  obtain ⟨cells, a, o, b⟩ := h.c
  exact a.one

theorem TabO.tabG {s : Mm} {v : Value} {rows : List (List Int)} {K : Nat → Prop} (h : TabO s v rows K) : TabG s v rows (fun x => K x ∨ footV v x) := by
  obtain ⟨cells, a, o, b⟩ := h.c
  exact ⟨cells, a.slc, fun x hx => .inr hx, fun i r h => let ⟨x, y, z, w⟩ := b i r h; ⟨x, y, z, fun x hx => .inl (w x hx)⟩⟩

/-- One row more. -/
theorem TabO.snoc {s : Mm} {v c : Value} {rows : List (List Int)} {r : List Int} {K : Nat → Prop} (h : TabO s v rows K) (hc : SlC s 1 c r.length (r.map (.int .i16))) (hK : ∀ x, footV c x → K x) (hd : ∀ x, K x → ¬ footV v x) (hn : rows.length ≤ 256) (hKl : ∀ x, K x → x < s.nxt) :
    ∃ v' s', appendV (newAt s (.cells [c] false)) 24 1 v (.slice (some ⟨s.nxt, 0, none⟩) 1 1) = some (v', s') ∧ TabO s' v' (rows ++ [r]) K ∧ Same s s' (footV v) ∧ (∀ x, footV v' x → footV v x ∨ s.nxt < x) ∧ s.nxt < s'.nxt := by
  obtain ⟨cells, a, o, b⟩ := h.c
  have hs1 : Same s (newAt s (.cells [c] false)) (fun _ => False) := .new
  have hsc : SlC (newAt s (.cells [c] false)) 1 (.slice (some ⟨s.nxt, 0, none⟩) 1 1) 1 [c] := .mk blk_new_self (by rw [nxt_new]; omega) rfl (by simp) (.inl ⟨Nat.le_refl _, by decide⟩)
  obtain ⟨v', s', ap, k1, k2, k3⟩ := (a.same hs1 (fun _ _ h => h)).append (bytes := 24) hsc.src rfl (by simp only [List.all_cons, hc.one, List.all_nil, Bool.and_true]) (by omega) (by omega) (by omega) (by omega)
  have hs2 : Same s s' (footV v) := hs1.trans k2 (fun _ _ h => h.elim) (fun _ _ h => h)
  refine ⟨v', s', ap, ⟨cells ++ [c], by rw [List.length_append]; exact k1, by rw [List.all_append, o]; simp only [List.all_cons, hc.one, List.all_nil, Bool.and_true], fun i r' hi => ?_⟩, hs2, fun x hx => ?_, ?_⟩
  · have hl : cells.length = rows.length := by have := a.length; omega
    by_cases h1 : i < rows.length
    · rw [List.getElem?_append_left h1] at hi
      obtain ⟨y, z, w, u⟩ := b i r' hi
      exact ⟨y, by rw [List.getElem?_append_left (by omega)]; exact z, w.same hs2 (fun x hx => hd x (u x hx)), u⟩
    · rw [List.getElem?_append_right (by omega)] at hi
      have hi0 : i - rows.length = 0 := by
        rcases Nat.eq_zero_or_pos (i - rows.length) with h0 | h0
        · exact h0
        · rw [List.getElem?_eq_none (by simp; omega)] at hi; cases hi
      rw [hi0] at hi
      simp at hi
      subst hi
      exact ⟨c, by rw [List.getElem?_append_right (by omega), hl, hi0]; rfl, hc.same hs2 (fun x hx => hd x (hK x hx)), hK⟩
  · rcases k3 x hx with h | h
    · exact .inl h
    · rw [nxt_new] at h; exact .inr (by omega)
  · have := k2.nxt; rw [nxt_new] at this; omega

theorem buildSl_sl {s : Mm} {c : Value} (h : oneCell c = true) : buildSlV s 1 [.slice none 0 0] 1 [(0, 1, c)] = some (.slice (some ⟨s.nxt, 0, none⟩) 1 1, .cells [c] false) := by
  cases c <;> first | rfl | cases h

/-- A row that is filled from its begin on. -/
def rowPre (row : List Int) (g : Nat) : List Int := row.take g ++ List.replicate (row.length - g) 0

theorem rowPre_set {row : List Int} {g : Nat} (hg : g < row.length) : (rowPre row g).set g row[g] = rowPre row (g + 1) := by
  unfold rowPre
  rw [List.set_append_right _ _ (by rw [List.length_take]; omega), List.length_take, Nat.min_eq_left (by omega), Nat.sub_self]
  obtain ⟨m, hm⟩ : ∃ m, row.length - g = m + 1 := ⟨row.length - g - 1, by omega⟩
  rw [hm, List.replicate_succ, List.set_cons_zero, List.take_add_one, List.append_assoc, show row.length - (g + 1) = m by omega, List.getElem?_eq_getElem hg]
  rfl

theorem rowPre_all {row : List Int} : rowPre row row.length = row := by unfold rowPre; simp

theorem row_at {b : List UInt8} {R G o p : Nat} (hp : p < R) : ((decA b (R * G) o).drop (p * G)).take G = (chunk R G (decA b (R * G) o))[p]'(by rw [chunk_length]; exact hp) := by
  simp [chunk]

theorem row_len {b : List UInt8} {R G o p : Nat} (hp : p < R) : (((decA b (R * G) o).drop (p * G)).take G).length = G := by
  have hmul : p * G + G ≤ R * G := by rw [← Nat.succ_mul]; exact Nat.mul_le_mul_right _ hp
  rw [List.length_take, List.length_drop]
  have : (decA b (R * G) o).length = R * G := by simp [decA]
  omega

theorem row_cell {b : List UInt8} {R G o p g : Nat} (hp : p < R) (hg : g < G) : (((decA b (R * G) o).drop (p * G)).take G)[g]? = some (i16of (getF 0 (subB b (27 + 4 * (p * G + g) + o) (27 + 4 * (p * G + g) + o + 2)))) := by
  have hmul : p * G + G ≤ R * G := by rw [← Nat.succ_mul]; exact Nat.mul_le_mul_right _ hp
  rw [List.getElem?_take, if_pos hg, List.getElem?_drop]
  unfold decA
  rw [List.getElem?_map, List.getElem?_range (by omega)]
  rfl

theorem RetC1n {s : Mm} {fr : Fr} {P : Value → Mm → Prop} {t : Tmp} {n : Option Nat} {a v : Value} (h : geT fr t = a) (h' : loadV s n a = some v) (g : P v s) : RetK [.cell t n] P .normal fr s := by
  subst h; exact RetK_n (vs := [v]) (by simp only [resVs, resV, h']) g

theorem W_drawN {X : Ctx} (L : List Nat) {l : List DOper} {fr : Fr} {s : Mm} {Q : AExit → Fr → Mm → Prop} (c : Nat) (hc : countNew l = c) (h : ∀ s' : Mm, s'.h = s.h → s'.nxt = s.nxt + c → WD X l 0 fr s' [] [] [] s.nxt [] (KeepK L (Q .normal))) : W X (.draw l) fr s Q := W_draw L c hc (h _ rfl rfl)


set_option maxHeartbeats 2000000 in
theorem run33 {X : Ctx} (hX : X.fns = fnsOf Try.prog) (ho : ∀ f args, f ≠ 9 → X.orc f args = none) {s : Mm} {v : Value} {b : List UInt8} {n : Nat} (h : Bs s v b) (hf : fstF b = .got n) (hn : b.length ≤ 70368744177664) :
    CallP X 33 [v] s (fun r s' => Same s s' (fun _ => False) ∧ ∃ rv iv, r = .agg #[.float .f64 (frOf b).T, .float .f64 (frOf b).U, rv, iv] ∧ TabG s' rv (frOf b).re (fun x => s.nxt ≤ x) ∧ TabG s' iv (frOf b).im (fun x => s.nxt ≤ x)) := by
  obtain ⟨_, f1, f2, f3, f4, f5, f6, _⟩ := fst_got hf
  obtain ⟨l1, l2, l3⟩ := large_spec f4
  refine CallP_of (hX ▸ ir33_eq) (ho _ _ (by decide)) (Nat.le_of_ble_eq_true rfl) ?_
  refine W_seq (W_ops [0, 2] ?_)
  simp only [o33_0, WO_alloc, WO_nil, geT_put, frame_nil, frame_cons, keep_nil, keep_cons, keepK_eq, Nat.reduceEqDiff, ↓reduceIte, eq_self, Nat.zero_add]
  intro fr e0 e2
  refine SeqK_n ?_
  have hg2 : Store.get (newAt s (.cells [.float .f64 0, .float .f64 0, .slice none 0 0, .slice none 0 0] false)).h s.nxt = some (.cells [.float .f64 0, .float .f64 0, .slice none 0 0, .slice none 0 0] false) := by rw [get_new, if_pos rfl]
  have hs1 : Same s (newAt s (.cells [.float .f64 0, .float .f64 0, .slice none 0 0, .slice none 0 0] false)) (fun _ => False) := .new
  have hn1 : (newAt s (.cells [.float .f64 0, .float .f64 0, .slice none 0 0, .slice none 0 0] false)).nxt = s.nxt + 1 := nxt_new
  generalize newAt s (.cells [.float .f64 0, .float .f64 0, .slice none 0 0, .slice none 0 0] false) = s1 at hg2 hs1 hn1 ⊢
  have hsl3 : slV 1 v (some (.int .i64 7)) (some (.int .i64 15)) none = some (subS 1 v 7 15) := h.sl rfl rfl (by omega) (by omega)
  have hsl4 : slV 1 v (some (.int .i64 15)) (some (.int .i64 23)) none = some (subS 1 v 15 23) := h.sl rfl rfl (by omega) (by omega)
  have hT := getF_lt (subB b 7 15) 0 (by omega)
  have hU := getF_lt (subB b 15 23) 0 (by omega)
  refine W_seq (W_drawN [0, 2, 3] 1 rfl ?_)
  intro s2 hh2 hn2
  have hs12 : Same s1 s2 (fun _ => False) := ⟨by omega, fun B _ _ => by rw [hh2]⟩
  have h2 : Bs s2 v b := (h.same hs1 (fun _ _ h => h)).same hs12 (fun _ _ h => h)
  have hbu : buildV [.float .f64 0, .float .f64 0, .slice none 0 0, .slice none 0 0] [(0, 1, .float .f64 (getF 0 (subB b 7 15))), (1, 1, .float .f64 (getF 0 (subB b 15 23)))] = some (.agg #[.float .f64 (getF 0 (subB b 7 15)), .float .f64 (getF 0 (subB b 15 23)), .slice none 0 0, .slice none 0 0]) := rfl
  have hga : Store.get (setH s2 (Store.put s2.h s1.nxt (some (.cells [.float .f64 0, .float .f64 0, .slice none 0 0, .slice none 0 0] false)))).h s1.nxt = some (.cells [.float .f64 0, .float .f64 0, .slice none 0 0, .slice none 0 0] false) := by rw [setH_h, Store.get_put, if_pos rfl]
  have hst := store_all (n := 4) (vs := [.float .f64 (getF 0 (subB b 7 15)), .float .f64 (getF 0 (subB b 15 23)), .slice none 0 0, .slice none 0 0]) hga rfl rfl rfl
  simp only [List.toArray] at hst
  simp only [d33_1, WD_move, WD_slSl, WD_call, DPureK_some, joinF_nil, setH_self, geT_put, evO_tmp, evO_const, List.map_cons, List.map_nil, Option.map_some, Option.map_none, Nat.reduceAdd, ↓reduceIte, eq_self, Nat.zero_add, e0, hsl3]
  refine DCallK_of rfl (run32 hX ho (Bs.sub h2 (by omega : 7 ≤ 15) (by omega)) (by rw [subB_length (by omega)]; omega)) ?_
  rintro _ _ ⟨rfl, rfl⟩
  simp only [WD_call, WD_ext, WD_move, WD_slSl, DPureK_some, DActK_some, preHead_cons, joinF_nil, setH_self, Nat.testBit, Nat.reduceShiftRight, Nat.reduceAnd, Nat.reduceBneDiff, List.all_nil, List.filter_nil, geT_put, evO_tmp, evO_const, List.map_cons, List.map_nil, Option.map_some, Option.map_none, Nat.reduceEqDiff, Nat.reduceAdd, ↓reduceIte, eq_self, true_and, e0, extS_eq (s := s2) (ext1_nat hT), hsl4]
  refine DCallK_of rfl (run32 hX ho (Bs.sub h2 (by omega : 15 ≤ 23) (by omega)) (by rw [subB_length (by omega)]; omega)) ?_
  rintro _ _ ⟨rfl, rfl⟩
  simp only [WD_alloc, WD_build, WD_ext, WD_store, WD_nil, DPureK_some, DActK_some, preHead_cons, joinF_nil, joinF_cons, joinAll_nil, setH_self, Nat.testBit, Nat.reduceShiftRight, Nat.reduceAnd, Nat.reduceBneDiff, List.all_nil, List.filter_nil, geT_put, puT_none, evO_tmp, keep_nil, keep_cons, keepK_eq, List.map_cons, List.map_nil, Nat.reduceEqDiff, Nat.reduceAdd, ↓reduceIte, eq_self, true_and, e0, e2, extS_eq (s := s2) (ext1_nat hU), hbu, hst]
  clear e0 e2
  intro fr e0 e2 e3
  refine SeqK_n ?_
  obtain ⟨T, hTd⟩ : ∃ T, T = (frOf b).T := ⟨_, rfl⟩
  obtain ⟨U, hUd⟩ : ∃ U, U = (frOf b).U := ⟨_, rfl⟩
  have hT1 : getF 0 (subB b 7 15) = T := hTd.symm
  have hU1 : getF 0 (subB b 15 23) = U := hUd.symm
  rw [hT1, hU1]
  obtain ⟨s3, hs3⟩ : ∃ s3, s3 = setBlk (setH s2 (Store.put s2.h s1.nxt (some (.cells [.float .f64 0, .float .f64 0, .slice none 0 0, .slice none 0 0] false)))) s1.nxt (.cells [.float .f64 T, .float .f64 U, .slice none 0 0, .slice none 0 0] false) := ⟨_, rfl⟩
  rw [← hs3]
  have g3 : Store.get s3.h s1.nxt = some (.cells [.float .f64 T, .float .f64 U, .slice none 0 0, .slice none 0 0] false) := by rw [hs3, get_set, if_pos rfl]
  have g2 : Store.get s3.h s.nxt = some (.cells [.float .f64 0, .float .f64 0, .slice none 0 0, .slice none 0 0] false) := by
    rw [hs3, get_set, if_neg (by omega), setH_h, Store.get_put, if_neg (by omega), hh2]; exact hg2
  have hn3 : s3.nxt = s1.nxt + 1 := by rw [hs3, nxt_set, setH_nxt]; exact hn2
  have hs03 : Same s s3 (fun _ => False) := ⟨by omega, fun B hB _ => by
    rw [hs3, get_set, if_neg (by omega), setH_h, Store.get_put, if_neg (by omega), hh2]; exact hs1.get B hB (fun h => h)⟩
  clear hs3 hga hst h2 hs12 hn2 hh2
  have h3 : Bs s3 v b := h.same hs03 (fun _ _ h => h)
  have hsl5 : slV 1 v (some (.int .i64 23)) (some (.int .i64 25)) none = some (subS 1 v 23 25) := h.sl rfl rfl (by omega) (by omega)
  have hsl6 : slV 1 v (some (.int .i64 25)) (some (.int .i64 27)) none = some (subS 1 v 25 27) := h.sl rfl rfl (by omega) (by omega)
  have hRn : getF 0 (subB b 23 25) = rowsN b := rfl
  have hGn : getF 0 (subB b 25 27) = colN b := rfl
  refine W_seq (W_ops [0, 2, 3, 4] ?_)
  simp only [o33_2, WO_call, WO_move, WO_slSl, PureK_some, geT_put, evO_tmp, evO_const, List.map_cons, List.map_nil, Option.map_some, Option.map_none, ↓reduceIte, eq_self, e0, hsl5]
  refine CallK_of (run32 hX ho (Bs.sub h3 (by omega : 23 ≤ 25) (by omega)) (by rw [subB_length (by omega)]; omega)) ?_
  rintro _ _ ⟨rfl, rfl⟩
  simp only [WO_conv, conv_int, WO_move, WO_nil, PureK_some, geT_put, evO_tmp, keep_nil, keep_cons, keepK_eq, Nat.reduceEqDiff, ↓reduceIte, eq_self, e0, e2, e3, hRn, wrap_i64 (n := ((rowsN b : Nat) : Int)) (by omega) (by omega)]
  clear e0 e2 e3
  intro fr e0 e2 e3 e4
  refine SeqK_n ?_
  refine W_seq (W_ops [0, 2, 3, 4, 5] ?_)
  simp only [o33_3, WO_call, WO_move, WO_slSl, PureK_some, geT_put, evO_tmp, evO_const, List.map_cons, List.map_nil, Option.map_some, Option.map_none, ↓reduceIte, eq_self, e0, hsl6]
  refine CallK_of (run32 hX ho (Bs.sub h3 (by omega : 25 ≤ 27) (by omega)) (by rw [subB_length (by omega)]; omega)) ?_
  rintro _ _ ⟨rfl, rfl⟩
  simp only [WO_conv, conv_int, WO_move, WO_nil, PureK_some, geT_put, evO_tmp, keep_nil, keep_cons, keepK_eq, Nat.reduceEqDiff, ↓reduceIte, eq_self, e0, e2, e3, e4, hGn, wrap_i64 (n := ((colN b : Nat) : Int)) (by omega) (by omega)]
  clear e0 e2 e3 e4
  intro fr e0 e2 e3 e4 e5
  refine SeqK_n ?_
  refine W_seq (W_ops [0, 2, 3, 4, 5, 6] ?_)
  simp only [o33_4, WO_move, WO_nil, geT_put, evO_const, keep_nil, keep_cons, keepK_eq, Nat.reduceEqDiff, ↓reduceIte, eq_self, e0, e2, e3, e4, e5]
  clear e0 e2 e3 e4 e5
  intro fr e0 e2 e3 e4 e5 e6
  refine SeqK_n ?_
  have hre : (frOf b).re = chunk (rowsN b) (colN b) (decA b (rowsN b * colN b) 0) := rfl
  have him : (frOf b).im = chunk (rowsN b) (colN b) (decA b (rowsN b * colN b) 2) := rfl
  have hlr : (frOf b).re.length = rowsN b := by rw [hre, chunk_length]
  have hli : (frOf b).im.length = rowsN b := by rw [him, chunk_length]
  obtain ⟨R, hR⟩ : ∃ R, R = rowsN b := ⟨_, rfl⟩
  obtain ⟨G, hG⟩ : ∃ G, G = colN b := ⟨_, rfl⟩
  rw [← hR] at e4 hre him hlr hli l1 l3 f5
  rw [← hG] at e5 hre him l2 l3 f5
  have hGO : G < OPEN := by unfold OPEN; omega
  refine W_assoc ?_
  refine W_seq (W_ops [0, 2, 3, 4, 5, 6, 7] ?_)
  simp only [o33_5, WO_move, WO_nil, geT_put, evO_const, keep_nil, keep_cons, keepK_eq, Nat.reduceEqDiff, ↓reduceIte, eq_self, e0, e2, e3, e4, e5, e6]
  clear e0 e2 e3 e4 e5 e6
  intro fr e0 e2 e3 e4 e5 e6 e7
  refine SeqK_n ?_
  refine W_seq (W_block (W_loop (fun m fr s4 => ∃ p ov oi K, p + m = R ∧ geT fr 0 = v ∧ geT fr 2 = .pointer (some ⟨s.nxt, 0, none⟩) ∧ geT fr 3 = .pointer (some ⟨s1.nxt, 0, none⟩) ∧ geT fr 4 = .int .i64 (R : Nat) ∧ geT fr 5 = .int .i64 (G : Nat) ∧ geT fr 6 = .int .i64 ((27 + 4 * (p * G) : Nat)) ∧ geT fr 7 = .int .i64 (p : Nat) ∧
    Store.get s4.h s1.nxt = some (.cells [.float .f64 T, .float .f64 U, ov, oi] false) ∧ Store.get s4.h s.nxt = some (.cells [.float .f64 0, .float .f64 0, .slice none 0 0, .slice none 0 0] false) ∧ s1.nxt < s4.nxt ∧
    TabO s4 ov ((frOf b).re.take p) K ∧ TabO s4 oi ((frOf b).im.take p) K ∧ (∀ x, K x → s1.nxt < x ∧ x < s4.nxt ∧ ¬ footV ov x ∧ ¬ footV oi x) ∧ (∀ x, footV ov x → s1.nxt < x ∧ ¬ footV oi x) ∧ (∀ x, footV oi x → s1.nxt < x) ∧ Same s s4 (fun _ => False)) R
    ⟨0, _, _, fun _ => False, by omega, e0, e2, e3, e4, e5, by rw [e6]; simp, e7, g3, g2, by omega, by rw [List.take_zero]; exact .nil, by rw [List.take_zero]; exact .nil, fun _ h => h.elim, fun _ h => h.elim, fun _ h => h.elim, hs03⟩ ?_))
  clear e0 e2 e3 e4 e5 e6 e7 fr g3 g2 hn3 hs03 h3 s3
  rintro m fr s4 ⟨p, ov, oi, K, hm, e0, e2, e3, e4, e5, e6, e7, g3, g2, hn4, to, ti, hK, hfo, hfi, hs4⟩
  refine W_assoc ?_
  refine W_seq (W_ops [0, 2, 3, 4, 5, 6, 7, 30] ?_)
  simp only [o33_7, WO_bin, WO_move, bin_lss, WO_nil, PureK_some, geT_put, evO_tmp, keep_nil, keep_cons, keepK_eq, Nat.reduceEqDiff, ↓reduceIte, eq_self, e0, e2, e3, e4, e5, e6, e7]
  clear e0 e2 e3 e4 e5 e6 e7
  intro fr e0 e2 e3 e4 e5 e6 e7 e30
  refine SeqK_n ?_
  refine W_while e30 (fun hlt => ?_) (fun hlt => ?_)
  · have hp : p < R := by omega
    have hmul : p * G + G ≤ R * G := by rw [← Nat.succ_mul]; exact Nat.mul_le_mul_right _ hp
    obtain ⟨ra, hra⟩ : ∃ ra, ra = ((decA b (R * G) 0).drop (p * G)).take G := ⟨_, rfl⟩
    obtain ⟨ia, hia⟩ : ∃ ia, ia = ((decA b (R * G) 2).drop (p * G)).take G := ⟨_, rfl⟩
    have hral : ra.length = G := by rw [hra]; exact row_len hp
    have hial : ia.length = G := by rw [hia]; exact row_len hp
    refine W_seq (W_block ?_)
    refine W_seq (W_ops [0, 2, 3, 4, 5, 6, 7, 8] ?_)
    simp only [o33_8, WO_makeSlice, WO_move, WO_nil, NewK_some, geT_put, evO_tmp, keep_nil, keep_cons, keepK_eq, Nat.reduceEqDiff, ↓reduceIte, eq_self, e0, e2, e3, e4, e5, e6, e7, makeSl_eq (s := s4) (bytes := 2) (l := G) (c := G) (z := [.int .i16 0]) (k := .i64) (k' := .i64) rfl rfl (Nat.le_refl _) (by omega) (by omega)]
    clear e0 e2 e3 e4 e5 e6 e7 e30
    intro fr e0 e2 e3 e4 e5 e6 e7 e8
    refine SeqK_n ?_
    have o8 := own_make (s := s4) (z := [.int .i16 0]) (sz := 1) (n := G) (c := G) rfl (Nat.le_refl _) hGO
    have hs45 : Same s4 (newAt s4 (.cells (repZ [.int .i16 0] G) false)) (fun _ => False) := .new
    have hn5 : (newAt s4 (.cells (repZ [.int .i16 0] G) false)).nxt = s4.nxt + 1 := nxt_new
    generalize newAt s4 (.cells (repZ [.int .i16 0] G) false) = s5 at o8 hs45 hn5 ⊢
    refine W_seq (W_ops [0, 2, 3, 4, 5, 6, 7, 8, 9] ?_)
    simp only [o33_9, WO_makeSlice, WO_move, WO_nil, NewK_some, geT_put, evO_tmp, keep_nil, keep_cons, keepK_eq, Nat.reduceEqDiff, ↓reduceIte, eq_self, e0, e2, e3, e4, e5, e6, e7, e8, makeSl_eq (s := s5) (bytes := 2) (l := G) (c := G) (z := [.int .i16 0]) (k := .i64) (k' := .i64) rfl rfl (Nat.le_refl _) (by omega) (by omega)]
    clear e0 e2 e3 e4 e5 e6 e7 e8
    intro fr e0 e2 e3 e4 e5 e6 e7 e8 e9
    refine SeqK_n ?_
    have o9 := own_make (s := s5) (z := [.int .i16 0]) (sz := 1) (n := G) (c := G) rfl (Nat.le_refl _) hGO
    have hs56 : Same s5 (newAt s5 (.cells (repZ [.int .i16 0] G) false)) (fun _ => False) := .new
    have hn6 : (newAt s5 (.cells (repZ [.int .i16 0] G) false)).nxt = s4.nxt + 2 := by rw [nxt_new, hn5]
    generalize newAt s5 (.cells (repZ [.int .i16 0] G) false) = s6 at o9 hs56 hn6 ⊢
    have o8' := o8.same hs56 (fun _ _ h => h)
    have z8 : repZ [.int .i16 0] G = (rowPre ra 0).map (.int .i16) := by rw [repZ_one]; simp [rowPre, hral]
    have z9 : repZ [.int .i16 0] G = (rowPre ia 0).map (.int .i16) := by rw [repZ_one]; simp [rowPre, hial]
    rw [z8] at o8'
    rw [z9, hn5] at o9
    rw [hn5] at e9
    have hs46 : Same s4 s6 (fun _ => False) := hs45.trans hs56 (fun _ _ h => h) (fun _ _ h => h)
    clear o8 hs45 hs56 z8 z9 hn5 s5
    refine W_assoc ?_
    refine W_seq (W_ops [0, 2, 3, 4, 5, 6, 7, 8, 9, 10] ?_)
    simp only [o33_10, WO_move, WO_nil, geT_put, evO_const, keep_nil, keep_cons, keepK_eq, Nat.reduceEqDiff, ↓reduceIte, eq_self, e0, e2, e3, e4, e5, e6, e7, e8, e9]
    clear e0 e2 e3 e4 e5 e6 e7 e8 e9
    intro fr e0 e2 e3 e4 e5 e6 e7 e8 e9 e10
    refine SeqK_n ?_
    refine W_seq (W_block (W_loop (fun m2 fr s6 => ∃ g, g + m2 = G ∧ geT fr 0 = v ∧ geT fr 2 = .pointer (some ⟨s.nxt, 0, none⟩) ∧ geT fr 3 = .pointer (some ⟨s1.nxt, 0, none⟩) ∧ geT fr 4 = .int .i64 (R : Nat) ∧ geT fr 5 = .int .i64 (G : Nat) ∧ geT fr 6 = .int .i64 ((27 + 4 * (p * G + g) : Nat)) ∧ geT fr 7 = .int .i64 (p : Nat) ∧
      geT fr 8 = .slice (some ⟨s4.nxt, 0, none⟩) G G ∧ geT fr 9 = .slice (some ⟨s4.nxt + 1, 0, none⟩) G G ∧ geT fr 10 = .int .i64 (g : Nat) ∧ Own s6 1 (.slice (some ⟨s4.nxt, 0, none⟩) G G) G ((rowPre ra g).map (.int .i16)) ∧ Own s6 1 (.slice (some ⟨s4.nxt + 1, 0, none⟩) G G) G ((rowPre ia g).map (.int .i16)) ∧ Same s4 s6 (fun _ => False) ∧ s4.nxt + 2 ≤ s6.nxt) G
      ⟨0, by omega, e0, e2, e3, e4, e5, e6, e7, e8, e9, e10, o8', o9, hs46, by omega⟩ ?_))
    · clear e0 e2 e3 e4 e5 e6 e7 e8 e9 e10 fr o8' o9 hs46 hn6 s6
      rintro m2 fr s6 ⟨g, hm2, e0, e2, e3, e4, e5, e6, e7, e8, e9, e10, o8, o9, hs46, hn6⟩
      refine W_assoc ?_
      refine W_seq (W_ops [0, 2, 3, 4, 5, 6, 7, 8, 9, 10, 39] ?_)
      simp only [o33_12, WO_bin, WO_move, bin_lss, WO_nil, PureK_some, geT_put, evO_tmp, keep_nil, keep_cons, keepK_eq, Nat.reduceEqDiff, ↓reduceIte, eq_self, e0, e2, e3, e4, e5, e6, e7, e8, e9, e10]
      clear e0 e2 e3 e4 e5 e6 e7 e8 e9 e10
      intro fr e0 e2 e3 e4 e5 e6 e7 e8 e9 e10 e39
      refine SeqK_n ?_
      refine W_while e39 (fun hlt2 => ?_) (fun hlt2 => ?_)
      · have hg : g < G := by omega
        obtain ⟨A, hA⟩ : ∃ A, A = 27 + 4 * (p * G + g) := ⟨_, rfl⟩
        rw [← hA] at e6
        have hAb : A + 4 ≤ b.length := by omega
        have hb6 : Bs s6 v b := (h.same hs4 (fun _ _ h => h)).same hs46 (fun _ _ h => h)
        have x1 := getF_16 (b := b) (l := A) (h := A + 2) rfl (by omega)
        have x2 := getF_16 (b := b) (l := A + 2) (h := A + 4) rfl (by omega)
        have sl1 : slV 1 v (some (.int .i64 (A : Nat))) (some (.int .i64 ((A : Nat) + 2))) none = some (subS 1 v A (A + 2)) := hb6.sl rfl (by omega) (by omega) (by omega)
        have sl2 : slV 1 v (some (.int .i64 ((A : Nat) + 2))) (some (.int .i64 ((A : Nat) + 4))) none = some (subS 1 v (A + 2) (A + 4)) := hb6.sl (by omega) (by omega) (by omega) (by omega)
        have w2 := wrap_i64 (n := ((A : Nat) : Int) + 2) (by omega) (by omega)
        have w4 := wrap_i64 (n := ((A : Nat) : Int) + 4) (by omega) (by omega)
        have c1 : ra[g]'(by omega) = i16of (getF 0 (subB b A (A + 2))) := by
          have := row_cell (b := b) (o := 0) hp hg
          rw [← hra, List.getElem?_eq_getElem (by omega), Nat.add_zero, ← hA] at this
          exact Option.some.inj this
        have c2 : ia[g]'(by omega) = i16of (getF 0 (subB b (A + 2) (A + 4))) := by
          have := row_cell (b := b) (o := 2) hp hg
          rw [← hia, List.getElem?_eq_getElem (by omega), ← hA] at this
          exact Option.some.inj this
        have ad8 := o8.slc.addr (kk := .i64) (i := (g : Int)) rfl hg
        have ad9 := o9.slc.addr (kk := .i64) (i := (g : Int)) rfl hg
        obtain ⟨s7, st7, o87, hs67⟩ := o8.store (k := g) (x := .int .i16 (i16of (getF 0 (subB b A (A + 2))))) (by rw [o8.length]; omega) rfl
        rw [← List.map_set, ← c1, rowPre_set (by omega)] at o87
        refine W_seq (W_block ?_)
        refine W_seq (W_ops [0, 2, 3, 4, 5, 6, 7, 8, 9, 10] ?_)
        simp only [o33_13, WO_bin, WO_call, WO_move, WO_slSl, bin_add, PureK_some, geT_put, evO_tmp, evO_const, List.map_cons, List.map_nil, Option.map_some, Option.map_none, Nat.reduceEqDiff, ↓reduceIte, eq_self, e0, e6, e8, e10, w2, sl1]
        refine CallK_of (run32 hX ho (Bs.sub hb6 (by omega : A ≤ A + 2) (by omega)) (by rw [subB_length (by omega)]; omega)) ?_
        rintro _ _ ⟨rfl, rfl⟩
        simp only [WO_addrSl, WO_conv, conv_int, WO_store, WO_nil, PureK_some, MemK_some, geT_put, puT_none, evO_tmp, keep_nil, keep_cons, keepK_eq, Nat.reduceEqDiff, ↓reduceIte, eq_self, Nat.mul_one, e0, e2, e3, e4, e5, e6, e7, e8, e9, e10, wrap_u16 (n := ((getF 0 (subB b A (A + 2)) : Nat) : Int)) (by omega) (by omega), wrap_i16of x1, ad8, st7]
        clear e0 e2 e3 e4 e5 e6 e7 e8 e9 e10 e39
        intro fr e0 e2 e3 e4 e5 e6 e7 e8 e9 e10
        refine SeqK_n ?_
        have o97 := o9.same hs67 (fun x hx hx2 => by simp only [footV] at hx hx2; omega)
        have hs47 : Same s4 s7 (fun _ => False) := hs46.trans hs67 (fun _ _ h => h) (fun x hx h => by simp only [footV] at h; omega)
        have hb7 : Bs s7 v b := (h.same hs4 (fun _ _ h => h)).same hs47 (fun _ _ h => h)
        obtain ⟨s8, st8, o98, hs78⟩ := o97.store (k := g) (x := .int .i16 (i16of (getF 0 (subB b (A + 2) (A + 4))))) (by rw [o97.length]; omega) rfl
        rw [← List.map_set, ← c2, rowPre_set (by omega)] at o98
        refine W_seq (W_ops [0, 2, 3, 4, 5, 6, 7, 8, 9, 10] ?_)
        simp only [o33_14, WO_bin, WO_call, WO_move, WO_slSl, bin_add, PureK_some, geT_put, evO_tmp, evO_const, List.map_cons, List.map_nil, Option.map_some, Option.map_none, Nat.reduceEqDiff, ↓reduceIte, eq_self, e0, e6, e9, e10, w2, w4, sl2]
        refine CallK_of (run32 hX ho (Bs.sub hb7 (by omega : A + 2 ≤ A + 4) (by omega)) (by rw [subB_length (by omega)]; omega)) ?_
        rintro _ _ ⟨rfl, rfl⟩
        simp only [WO_addrSl, WO_conv, conv_int, WO_store, WO_nil, PureK_some, MemK_some, geT_put, puT_none, evO_tmp, keep_nil, keep_cons, keepK_eq, Nat.reduceEqDiff, ↓reduceIte, eq_self, Nat.mul_one, e0, e2, e3, e4, e5, e6, e7, e8, e9, e10, wrap_u16 (n := ((getF 0 (subB b (A + 2) (A + 4)) : Nat) : Int)) (by omega) (by omega), wrap_i16of x2, ad9, st8]
        clear e0 e2 e3 e4 e5 e6 e7 e8 e9 e10
        intro fr e0 e2 e3 e4 e5 e6 e7 e8 e9 e10
        refine SeqK_n ?_
        refine W_ops [0, 2, 3, 4, 5, 6, 7, 8, 9, 10] ?_
        simp only [o33_15, WO_bin, WO_move, bin_add, WO_nil, PureK_some, geT_put, evO_tmp, evO_const, keep_nil, keep_cons, keepK_eq, Nat.reduceEqDiff, ↓reduceIte, eq_self, e0, e2, e3, e4, e5, e6, e7, e8, e9, e10, w4]
        clear e0 e2 e3 e4 e5 e6 e7 e8 e9 e10
        intro fr e0 e2 e3 e4 e5 e6 e7 e8 e9 e10
        refine BlkK_n (SeqK_n ?_)
        refine W_ops [0, 2, 3, 4, 5, 6, 7, 8, 9, 10] ?_
        simp only [o33_16, WO_bin, WO_move, bin_add, WO_nil, PureK_some, geT_put, evO_tmp, evO_const, keep_nil, keep_cons, keepK_eq, Nat.reduceEqDiff, ↓reduceIte, eq_self, e0, e2, e3, e4, e5, e6, e7, e8, e9, e10, wrap_i64 (n := (g : Int) + 1) (by omega) (by omega)]
        clear e0 e2 e3 e4 e5 e6 e7 e8 e9 e10
        intro fr e0 e2 e3 e4 e5 e6 e7 e8 e9 e10
        have n67 := hs67.nxt
        have n78 := hs78.nxt
        exact LoopK_n (m' := m2 - 1) (by omega) ⟨g + 1, by omega, e0, e2, e3, e4, e5, by rw [e6]; congr 1; omega, e7, e8, e9, by rw [e10]; rfl, o87.same hs78 (fun x hx hx2 => by simp only [footV] at hx hx2; omega), o98,
          hs47.trans hs78 (fun _ _ h => h) (fun x hx h => by simp only [footV] at h; omega), by omega⟩
      · have hgG : g = G := by omega
        rw [hgG] at o8 o9 e6
        have r8 : rowPre ra G = ra := by have := rowPre_all (row := ra); rw [hral] at this; exact this
        have r9 : rowPre ia G = ia := by have := rowPre_all (row := ia); rw [hial] at this; exact this
        rw [r8] at o8
        rw [r9] at o9
        refine LoopK_x (BlkK_e (SeqK_n ?_))
        -- the rows are laid behind the others
        have g36 : Store.get s6.h s1.nxt = some (.cells [.float .f64 T, .float .f64 U, ov, oi] false) := by rw [hs46.get _ hn4 (fun h => h)]; exact g3
        have g26 : Store.get s6.h s.nxt = some (.cells [.float .f64 0, .float .f64 0, .slice none 0 0, .slice none 0 0] false) := by rw [hs46.get _ (by omega) (fun h => h)]; exact g2
        have to6 := (to.same hs46 (fun _ _ h => h) (fun _ _ h => h)).mono (K' := fun x => K x ∨ x = s4.nxt ∨ x = s4.nxt + 1) (fun x hx => .inl hx)
        have ti6 := (ti.same hs46 (fun _ _ h => h) (fun _ _ h => h)).mono (K' := fun x => K x ∨ x = s4.nxt ∨ x = s4.nxt + 1) (fun x hx => .inl hx)
        have hov := to.foot
        have hoi := ti.foot
        have hKo : ∀ x, (K x ∨ x = s4.nxt ∨ x = s4.nxt + 1) → s1.nxt < x ∧ x < s6.nxt ∧ ¬ footV ov x ∧ ¬ footV oi x := by
          rintro x (hx | rfl | rfl)
          · obtain ⟨q1, q2, q3, q4⟩ := hK x hx
            exact ⟨q1, by omega, q3, q4⟩
          · exact ⟨by omega, by omega, fun h => by have := hov _ h; omega, fun h => by have := hoi _ h; omega⟩
          · exact ⟨by omega, by omega, fun h => by have := hov _ h; omega, fun h => by have := hoi _ h; omega⟩
        have sc8 : SlC s6 1 (.slice (some ⟨s4.nxt, 0, none⟩) G G) ra.length (ra.map (.int .i16)) := by rw [hral]; exact o8.slc
        obtain ⟨ov', s7, ap7, to7, hs67, hf7, hn7⟩ := to6.snoc sc8 (fun x hx => .inr (.inl hx)) (fun x hx => (hKo x hx).2.2.1) (by rw [List.length_take]; omega) (fun x hx => (hKo x hx).2.1)
        have hB3 : s1.nxt < s6.nxt := by omega
        have g37 : Store.get s7.h s1.nxt = some (.cells [.float .f64 T, .float .f64 U, ov, oi] false) := by rw [hs67.get _ hB3 (fun h => by have := (hfo _ h).1; omega)]; exact g36
        have st7 : storeV s7 1 (.pointer (some ⟨s1.nxt, 2, none⟩)) ov' = some (undefV, setBlk s7 s1.nxt (.cells [.float .f64 T, .float .f64 U, ov', oi] false)) := store_g (o := 2) g37 to7.one (by simp)
        have L2 := load_g (o := 2) g36
        simp only [List.getElem?_cons_zero, List.getElem?_cons_succ] at L2
        refine W_seq (W_ops [0, 2, 3, 4, 5, 6, 7, 9] ?_)
        simp only [o33_17, WO_append, WO_buildSlice, WO_fieldAddr, fieldAddr_p, WO_load, WO_move, WO_store, WO_nil, PureK_some, MemK_some, NewK_some, geT_put, puT_none, evO_tmp, keep_nil, keep_cons, keepK_eq, List.map_cons, List.map_nil, Nat.reduceEqDiff, ↓reduceIte, eq_self, Nat.zero_add, Nat.mul_one, e0, e2, e3, e4, e5, e6, e7, e8, e9, L2, buildSl_sl (s := s6) (c := .slice (some ⟨s4.nxt, 0, none⟩) G G) rfl, ap7, st7]
        clear e0 e2 e3 e4 e5 e6 e7 e8 e9 e10 e39
        intro fr e0 e2 e3 e4 e5 e6 e7 e9
        refine SeqK_n ?_
        have hs78 : Same s7 (setBlk s7 s1.nxt (.cells [.float .f64 T, .float .f64 U, ov', oi] false)) (fun x => x = s1.nxt) := .set rfl
        have hov' : ∀ x, footV ov' x → s1.nxt < x ∧ ¬ footV oi x := fun x hx => by
          rcases hf7 x hx with h | h
          · exact hfo x h
          · exact ⟨by omega, fun h' => by have := hoi _ h'; omega⟩
        have ne1 : ∀ x, s1.nxt < x → ¬ x = s1.nxt := fun x h1 h2 => by omega
        have g38 : Store.get (setBlk s7 s1.nxt (.cells [.float .f64 T, .float .f64 U, ov', oi] false)).h s1.nxt = some (.cells [.float .f64 T, .float .f64 U, ov', oi] false) := by rw [get_set, if_pos rfl]
        have to8 := to7.same hs78 (fun x hx => ne1 x (hov' x hx).1) (fun x hx => ne1 x (hKo x hx).1)
        have hs68 : Same s6 (setBlk s7 s1.nxt (.cells [.float .f64 T, .float .f64 U, ov', oi] false)) (fun x => footV ov x ∨ x = s1.nxt) := hs67.trans hs78 (fun _ _ h => .inl h) (fun _ _ h => .inr h)
        have ti8 := ti6.same hs68 (fun x hx h => by
          rcases h with h | h
          · exact (hfo x h).2 hx
          · have := hfi x hx; omega) (fun x hx h => by
          rcases h with h | h
          · exact (hKo x hx).2.2.1 h
          · have := (hKo x hx).1; omega)
        have sc9 : SlC (setBlk s7 s1.nxt (.cells [.float .f64 T, .float .f64 U, ov', oi] false)) 1 (.slice (some ⟨s4.nxt + 1, 0, none⟩) G G) ia.length (ia.map (.int .i16)) := by
          rw [hial]
          exact o9.slc.same hs68 (fun x hx h => by
            simp only [footV] at hx
            rcases h with h | h
            · have := hov _ h; omega
            · omega)
        have g28 : Store.get (setBlk s7 s1.nxt (.cells [.float .f64 T, .float .f64 U, ov', oi] false)).h s.nxt = some (.cells [.float .f64 0, .float .f64 0, .slice none 0 0, .slice none 0 0] false) := by
          rw [hs68.get _ (by omega) (fun h => by
            rcases h with h | h
            · have := (hfo _ h).1; omega
            · omega)]
          exact g26
        have hn8 : s7.nxt = (setBlk s7 s1.nxt (.cells [.float .f64 T, .float .f64 U, ov', oi] false)).nxt := rfl
        clear hs78 g37 st7 ap7 to7 to6 ti6 L2 sc8
        generalize setBlk s7 s1.nxt (.cells [.float .f64 T, .float .f64 U, ov', oi] false) = s8 at g38 to8 hs68 ti8 sc9 g28 hn8 ⊢
        obtain ⟨oi', s9, ap9, ti9, hs89, hf9, hn9⟩ := ti8.snoc sc9 (fun x hx => .inr (.inr hx)) (fun x hx => (hKo x hx).2.2.2) (by rw [List.length_take]; omega) (fun x hx => by have := (hKo x hx).2.1; omega)
        have g39 : Store.get s9.h s1.nxt = some (.cells [.float .f64 T, .float .f64 U, ov', oi] false) := by rw [hs89.get _ (by omega) (fun h => by have := hfi _ h; omega)]; exact g38
        have st9 : storeV s9 1 (.pointer (some ⟨s1.nxt, 3, none⟩)) oi' = some (undefV, setBlk s9 s1.nxt (.cells [.float .f64 T, .float .f64 U, ov', oi'] false)) := store_g (o := 3) g39 ti9.one (by simp)
        have L3 := load_g (o := 3) g38
        simp only [List.getElem?_cons_zero, List.getElem?_cons_succ] at L3
        refine W_ops [0, 2, 3, 4, 5, 6, 7] ?_
        simp only [o33_18, WO_append, WO_buildSlice, WO_fieldAddr, fieldAddr_p, WO_load, WO_move, WO_store, WO_nil, PureK_some, MemK_some, NewK_some, geT_put, puT_none, evO_tmp, keep_nil, keep_cons, keepK_eq, List.map_cons, List.map_nil, Nat.reduceEqDiff, ↓reduceIte, eq_self, Nat.zero_add, Nat.mul_one, e0, e2, e3, e4, e5, e6, e7, e9, L3, buildSl_sl (s := s8) (c := .slice (some ⟨s4.nxt + 1, 0, none⟩) G G) rfl, ap9, st9]
        clear e0 e2 e3 e4 e5 e6 e7 e9
        intro fr e0 e2 e3 e4 e5 e6 e7
        refine BlkK_n (SeqK_n ?_)
        refine W_ops [0, 2, 3, 4, 5, 6, 7] ?_
        simp only [o33_19, WO_bin, WO_move, bin_add, WO_nil, PureK_some, geT_put, evO_tmp, evO_const, keep_nil, keep_cons, keepK_eq, Nat.reduceEqDiff, ↓reduceIte, eq_self, e0, e2, e3, e4, e5, e6, e7, wrap_i64 (n := (p : Int) + 1) (by omega) (by omega)]
        clear e0 e2 e3 e4 e5 e6 e7
        intro fr e0 e2 e3 e4 e5 e6 e7
        have hs9a : Same s9 (setBlk s9 s1.nxt (.cells [.float .f64 T, .float .f64 U, ov', oi'] false)) (fun x => x = s1.nxt) := .set rfl
        have hoi' : ∀ x, footV oi' x → s1.nxt < x := fun x hx => by
          rcases hf9 x hx with h | h
          · exact hfi x h
          · omega
        have hov8 := to8.foot
        have ho9 : ∀ x, footV ov' x → ¬ footV oi' x := fun x hx h => by
          rcases hf9 x h with h' | h'
          · exact (hov' x hx).2 h'
          · have := hov8 x hx; omega
        have rrow : (frOf b).re.take p ++ [ra] = (frOf b).re.take (p + 1) := by
          rw [List.take_add_one, hre, List.getElem?_eq_getElem (by rw [chunk_length]; exact hp), hra, row_at hp]; rfl
        have irow : (frOf b).im.take p ++ [ia] = (frOf b).im.take (p + 1) := by
          rw [List.take_add_one, him, List.getElem?_eq_getElem (by rw [chunk_length]; exact hp), hia, row_at hp]; rfl
        rw [rrow] at to8
        rw [irow] at ti9
        have to9 := to8.same hs89 (fun x hx => (hov' x hx).2) (fun x hx => (hKo x hx).2.2.2)
        have n89 := hs89.nxt
        have hsAll : Same s (setBlk s9 s1.nxt (.cells [.float .f64 T, .float .f64 U, ov', oi'] false)) (fun _ => False) :=
          (((hs4.trans hs46 (fun _ _ h => h) (fun _ _ h => h)).trans hs68 (G := fun _ => False) (fun _ _ h => h) (fun x hx h => by
            rcases h with h | h
            · have := (hfo _ h).1; omega
            · omega)).trans hs89 (fun _ _ h => h) (fun x hx h => by have := hfi _ h; omega)).trans hs9a (fun _ _ h => h) (fun x hx h => by omega)
        refine LoopK_n (m' := m - 1) (by omega) ⟨p + 1, ov', oi', fun x => K x ∨ x = s4.nxt ∨ x = s4.nxt + 1, by omega, e0, e2, e3, e4, e5, by rw [e6, Nat.add_mul, Nat.one_mul], by rw [e7]; rfl, by rw [get_set, if_pos rfl], ?_, by rw [nxt_set]; omega,
          to9.same hs9a (fun x hx => ne1 x (hov' x hx).1) (fun x hx => ne1 x (hKo x hx).1), ti9.same hs9a (fun x hx => ne1 x (hoi' x hx)) (fun x hx => ne1 x (hKo x hx).1), fun x hx => ?_, fun x hx => ⟨(hov' x hx).1, ho9 x hx⟩, hoi', hsAll⟩
        · rw [get_set, if_neg (by omega), hs89.get _ (by omega) (fun h => by have := hfi _ h; omega)]; exact g28
        · obtain ⟨q1, q2, q3, q4⟩ := hKo x hx
          refine ⟨q1, by rw [nxt_set]; omega, fun h => ?_, fun h => ?_⟩
          · rcases hf7 x h with h' | h'
            · exact q3 h'
            · omega
          · rcases hf9 x h with h' | h'
            · exact q4 h'
            · omega
  · have hpR : p = R := by omega
    rw [hpR] at to ti
    rw [List.take_of_length_le (by omega)] at to ti
    refine LoopK_x (BlkK_e (SeqK_n ?_))
    have hld := loadn_all (n := 4) g3 rfl
    have hst := store_all (n := 4) (vs := [.float .f64 T, .float .f64 U, ov, oi]) g2 rfl rfl (by simp only [List.all_cons, to.one, ti.one, List.all_nil, Bool.and_true]; rfl)
    refine W_seq (W_ops [2] ?_)
    simp only [o33_20, WO_load, WO_store, WO_nil, PureK_some, MemK_some, geT_put, puT_none, evO_tmp, keep_nil, keep_cons, keepK_eq, Nat.reduceEqDiff, ↓reduceIte, eq_self, e2, e3, hld, hst]
    clear e0 e2 e3 e4 e5 e6 e7 e30
    intro fr e2
    refine SeqK_n ?_
    have hs45 : Same s4 (setBlk s4 s.nxt (.cells [.float .f64 T, .float .f64 U, ov, oi] false)) (fun x => x = s.nxt) := .set rfl
    refine W_ret (RetC1 e2 (loadn_all (n := 4) (by rw [get_set, if_pos rfl]) rfl) ⟨hs4.trans hs45 (fun _ _ h => h) (fun x hx h => by omega), ov, oi, by rw [hTd, hUd], ?_, ?_⟩)
    · exact (to.same hs45 (fun x hx h => by have := (hfo x hx).1; omega) (fun x hx h => by have := (hK x hx).1; omega)).tabG.mono (fun x hx => by
        rcases hx with h | h
        · have := (hK x h).1; omega
        · have := (hfo x h).1; omega)
    · exact (ti.same hs45 (fun x hx h => by have := hfi x hx; omega) (fun x hx h => by have := (hK x hx).1; omega)).tabG.mono (fun x hx => by
        rcases hx with h | h
        · have := (hK x h).1; omega
        · have := hfi x h; omega)

end Go.Proofs.Ytkfcejhebepdkaa

/- The document's reader that is fed. -/
namespace Go.Proofs.Ytkfcejhebepdkaa
open Go Go.Vam

theorem fst_wrong {b : List UInt8} (h : wrongF b = true) : fstF b = .bad := by
  unfold wrongF at h
  unfold fstF
  by_cases c0 : headOk b = false
  · rw [if_pos (by unfold headOk at c0; rw [decide_eq_false_iff_not] at c0; exact c0)]
  rw [if_neg c0] at h
  rw [if_neg (by unfold headOk at c0; simpa using c0)]
  by_cases c1 : b.length < 7
  · rw [if_pos c1] at h; cases h
  rw [if_neg c1] at h ⊢
  by_cases c2 : badN (getF 0 (subB b 3 7)) = true
  · rw [if_pos c2]
  rw [if_neg c2] at h ⊢
  by_cases c3 : b.length < 23
  · rw [if_pos c3] at h; cases h
  rw [if_neg c3] at h ⊢
  by_cases c4 : (finB (getF 0 (subB b 7 15)) && okU (getF 0 (subB b 15 23))) = false
  · rw [if_pos c4]
  rw [if_neg c4] at h ⊢
  by_cases c5 : b.length < 27
  · rw [if_pos c5] at h; cases h
  rw [if_neg c5] at h ⊢
  rw [if_pos h]

theorem fst_right {b : List UInt8} (h : wrongF b = false) : fstF b = if b.length < 27 then .wait else if b.length < getF 0 (subB b 3 7) + 11 then .wait
    else if fnvF 2166136261 (subB b 0 (getF 0 (subB b 3 7) + 7)) ≠ getF 0 (subB b (getF 0 (subB b 3 7) + 7) (getF 0 (subB b 3 7) + 11)) then .bad else .got (getF 0 (subB b 3 7)) := by
  unfold wrongF at h
  unfold fstF
  by_cases c0 : headOk b = false
  · rw [if_pos c0] at h; cases h
  rw [if_neg c0] at h
  rw [if_neg (by unfold headOk at c0; simpa using c0)]
  by_cases c1 : b.length < 7
  · rw [if_pos c1, if_pos (by omega)]
  rw [if_neg c1] at h ⊢
  by_cases c2 : badN (getF 0 (subB b 3 7)) = true
  · rw [if_pos c2] at h; cases h
  rw [if_neg c2] at h ⊢
  by_cases c3 : b.length < 23
  · rw [if_pos c3, if_pos (by omega)]
  rw [if_neg c3] at h ⊢
  by_cases c4 : (finB (getF 0 (subB b 7 15)) && okU (getF 0 (subB b 15 23))) = false
  · rw [if_pos c4] at h; cases h
  rw [if_neg c4] at h ⊢
  by_cases c5 : b.length < 27
  · rw [if_pos c5, if_pos c5]
  rw [if_neg c5] at h ⊢
  rw [if_neg (by rw [h]; simp), if_neg c5]

/-- The frame's own bytes are enough. -/
theorem fst_take {b : List UInt8} {n : Nat} (h : fstF b = .got n) : fstF (b.take (n + 11)) = .got n ∧ frOf (b.take (n + 11)) = frOf b := by
  obtain ⟨hn, h20, h4, hlen, hlg, hcell, hz, hT, hU, hh, hs⟩ := fst_got h
  obtain ⟨c, hc⟩ : ∃ c, c = b.take (n + 11) := ⟨_, rfl⟩
  obtain ⟨q, hq⟩ : ∃ q, q = b.drop (n + 11) := ⟨_, rfl⟩
  have hb : b = c ++ q := by rw [hc, hq, List.take_append_drop]
  have hl : c.length = n + 11 := by rw [hc, List.length_take]; omega
  rw [← hc]
  have sub : ∀ l h, h ≤ n + 11 → subB c l h = subB b l h := fun l h hh => by rw [hb, subB_pre (by omega)]
  have hc3 : c.take 3 = hdr := by rw [hc, List.take_take, Nat.min_eq_left (by omega)]; exact hh
  have r1 : rowsN c = rowsN b := by unfold rowsN; rw [sub _ _ (by omega)]
  have r2 : colN c = colN b := by unfold colN; rw [sub _ _ (by omega)]
  constructor
  · unfold fstF
    unfold rowsN colN at *
    rw [Nat.min_eq_right (by omega), hc3, sub 3 7 (by omega), sub 7 15 (by omega), sub 15 23 (by omega), r1, r2, ← hn, sub 0 (n + 7) (by omega), sub (n + 7) (n + 11) (by omega)]
    rw [if_neg (by simp [hdr]), if_neg (by omega), if_neg, if_neg (by omega), if_neg (by rw [hT, hU]; simp), if_neg (by omega), if_neg, if_neg (by omega), if_neg (by simp only [ne_eq, Classical.not_not]; exact hs)]
    · simp only [badG, Bool.or_eq_true, Bool.and_eq_true, decide_eq_true_eq, Bool.not_eq_true', decide_eq_false_iff_not, not_or, Classical.not_not]
      exact ⟨by rw [hlg]; simp, fun h => by have := hz h.1; omega, hcell⟩
    · simp only [badN, Bool.or_eq_true, decide_eq_true_eq, Bool.not_eq_true', decide_eq_false_iff_not, not_or, Classical.not_not]
      have := large_spec hlg; omega
  · have dec : ∀ o, o ≤ 2 → decA c (rowsN b * colN b) o = decA b (rowsN b * colN b) o := fun o ho => by
      unfold decA
      apply List.map_congr_left
      intro x hx
      have := List.mem_range.1 hx
      rw [sub _ _ (by omega)]
    unfold frOf
    rw [r1, r2, sub 7 15 (by omega), sub 15 23 (by omega), dec 0 (by omega), dec 2 (by omega)]

theorem TabG.lt {s : Mm} {v : Value} {rows : List (List Int)} {K : Nat → Prop} (h : TabG s v rows K) : TabG s v rows (fun x => K x ∧ x < s.nxt) := by
  obtain ⟨c, a, k, b⟩ := h
  exact ⟨c, a, fun x hx => ⟨k x hx, a.foot x hx⟩, fun i r h => let ⟨x, y, z, w⟩ := b i r h; ⟨x, y, z, fun u hu => ⟨w u hu, z.foot u hu⟩⟩⟩

def isBad : Fst → Bool
  | .bad => true
  | _ => false

/-- What the document's reader is behind a call, and what was told. -/
structure Fed2 (s s' : Mm) (R : Nat) (hv : Value) (r : Value) (fs : List FrS) (rest : Option (List UInt8)) : Prop where
  same : Same s s' (fun x => x = R ∨ footV hv x)
  out : ∃ out n cells K, Own s' 4 out n cells ∧ FrsG s' K cells fs ∧ (∀ x, K x → s.nxt ≤ x ∧ x < s'.nxt ∧ ¬ footV out x) ∧ (∀ x, footV out x → s.nxt ≤ x) ∧
    ((rest = none ∧ r = .tuple #[out, .int .i64 270] ∧ Store.get s'.h R = some (.cells [.slice none 0 0, .bool true] false)) ∨
      (∃ w v' n', rest = some w ∧ r = .tuple #[out, .int .i64 0] ∧ Store.get s'.h R = some (.cells [v', .bool false] false) ∧ Own s' 1 v' n' (bsV w) ∧ (∀ x, footV v' x → (footV hv x ∨ s.nxt ≤ x) ∧ ¬ K x ∧ ¬ footV out x)))


set_option maxHeartbeats 2000000 in
theorem run13 {X : Ctx} (hX : X.fns = fnsOf Try.prog) (ho : ∀ f args, f ≠ 9 → X.orc f args = none) {s : Mm} {R nh : Nat} {hv v : Value} {held b : List UInt8} (hg : Store.get s.h R = some (.cells [hv, .bool false] false)) (hR : R < s.nxt) (hh : Own s 1 hv nh (bsV held)) (hfR : ∀ x, footV hv x → x ≠ R) (hb : Bs s v b) (hn : b.length ≤ 1048576) (hl : held.length + b.length ≤ 1099511627776) :
    CallP X 13 [.pointer (some ⟨R, 0, none⟩), v] s (fun r s' => Fed2 s s' R hv r (feedF (held.length + b.length + 1) (held ++ b)).1 (feedF (held.length + b.length + 1) (held ++ b)).2) := by
  have hnh : nh = held.length := by have := hh.length; rw [bsV_length] at this; omega
  subst hnh
  refine CallP_of (hX ▸ ir13_eq) (ho _ _ (by decide)) (Nat.le_of_ble_eq_true rfl) ?_
  refine W_seq (W_ops [0, 1] ?_)
  simp only [o13_0, WO_move, WO_nil, geT_put, frame_nil, frame_cons, evO_const, keep_nil, keep_cons, keepK_eq, Nat.reduceEqDiff, Nat.reduceAdd, ↓reduceIte, eq_self, Nat.zero_add]
  intro fr e0 e1
  refine SeqK_n ?_
  refine W_assoc ?_
  refine W_seq (W_ops [0, 1, 10] ?_)
  simp only [o13_1, WO_eq, ptr_some, WO_move, WO_nil, PureK_some, geT_put, evO_tmp, evO_const, keep_nil, keep_cons, keepK_eq, Nat.reduceEqDiff, ↓reduceIte, eq_self, Bool.false_eq_true, e0, e1]
  clear e0 e1
  intro fr e0 e1 e10
  refine SeqK_n ?_
  refine W_seq (W_cond e10 (fun h => by cases h) (fun _ => W_skip (SeqK_n ?_)))
  refine W_assoc ?_
  refine W_seq (W_ops [0, 1, 13] ?_)
  simp only [o13_3, WO_bin, WO_bu, WO_move, bin_gtr, WO_nil, PureK_some, geT_put, evO_tmp, evO_const, keep_nil, keep_cons, keepK_eq, List.map_cons, List.map_nil, Nat.reduceEqDiff, ↓reduceIte, eq_self, e0, e1, hb.len]
  clear e0 e1 e10
  intro fr e0 e1 e13
  refine SeqK_n ?_
  refine W_seq (W_if e13 (fun h => by omega) (fun _ => W_skip (SeqK_n ?_)))
  refine W_assoc ?_
  refine W_seq (W_ops [0, 1, 17] ?_)
  simp only [o13_5, WO_fieldAddr, fieldAddr_p, WO_load, WO_move, WO_nilCheck, nilCheck_p, WO_nil, PureK_some, geT_put, evO_tmp, keep_nil, keep_cons, keepK_eq, Nat.reduceEqDiff, ↓reduceIte, eq_self, Nat.zero_add, List.getElem?_cons_zero, List.getElem?_cons_succ, e0, e1, load_g (o := 1) hg]
  clear e0 e1 e13
  intro fr e0 e1 e17
  refine SeqK_n ?_
  refine W_seq (W_cond e17 (fun h => by cases h) (fun _ => W_skip (SeqK_n ?_)))
  obtain ⟨v2, s2, ha, ho2, hs2, hf2⟩ := hh.append (bytes := 1) (SlC.src hb) (by rw [bsV_length]; omega) (bsV_one b) (by omega) (by omega) (by omega) (by omega)
  rw [← bsV_app] at ho2
  have hg2 : Store.get s2.h R = some (.cells [hv, .bool false] false) := by rw [hs2.get R hR (fun h => hfR R h rfl)]; exact hg
  have hst : storeV s2 1 (.pointer (some ⟨R, 0, none⟩)) v2 = some (undefV, setBlk s2 R (.cells [v2, .bool false] false)) := store_g (o := 0) hg2 ho2.one (by simp)
  refine W_seq (W_ops [0] ?_)
  simp only [o13_7, WO_append, WO_fieldAddr, fieldAddr_p, WO_load, WO_move, WO_nilCheck, nilCheck_p, WO_store, WO_nil, PureK_some, MemK_some, geT_put, puT_none, evO_tmp, keep_nil, keep_cons, keepK_eq, Nat.reduceEqDiff, ↓reduceIte, eq_self, Nat.add_zero, List.getElem?_cons_zero, e0, e1, load_g (o := 0) hg, ha, hst]
  clear e0 e1 e17
  intro fr e0
  refine SeqK_n ?_
  have hne : ∀ x, footV v2 x → x ≠ R := by
    intro x hx
    rcases hf2 x hx with h | h
    · exact hfR x h
    · omega
  have ho3 : Own (setBlk s2 R (.cells [v2, .bool false] false)) 1 v2 (held.length + b.length) (bsV (held ++ b)) := ho2.same (F := fun x => x = R) (.set rfl) hne
  have hg3 : Store.get (setBlk s2 R (.cells [v2, .bool false] false)).h R = some (.cells [v2, .bool false] false) := by rw [get_set, if_pos rfl]
  have hs03 : Same s (setBlk s2 R (.cells [v2, .bool false] false)) (fun x => x = R ∨ footV hv x) := hs2.trans (.set (F := fun x => x = R) rfl) (fun _ _ h => .inr h) (fun _ _ h => .inl h)
  clear hst ha hg2 ho2 hs2
  generalize setBlk s2 R (.cells [v2, .bool false] false) = s3 at ho3 hg3 hs03 ⊢
  refine W_seq (W_ops [0, 6] ?_)
  simp only [o13_8, WO_move, WO_nil, geT_put, evO_const, keep_nil, keep_cons, keepK_eq, Nat.reduceEqDiff, ↓reduceIte, eq_self, e0]
  clear e0
  intro fr e0 e6
  refine SeqK_n ?_
  have hal : (held ++ b).length = held.length + b.length := List.length_append
  generalize held ++ b = all at ho3 hal ⊢
  obtain ⟨N, hN⟩ : ∃ N, N = held.length + b.length + 1 := ⟨_, rfl⟩
  rw [← hN]
  refine W_block (W_loop (fun m fr s1 => ∃ cur cv nc out n cells K fs k, cur.length = m ∧ geT fr 0 = .pointer (some ⟨R, 0, none⟩) ∧ geT fr 6 = out ∧ Store.get s1.h R = some (.cells [cv, .bool false] false) ∧ Own s1 1 cv nc (bsV cur) ∧ (∀ x, footV cv x → (footV hv x ∨ s.nxt ≤ x) ∧ ¬ K x ∧ ¬ footV out x ∧ x ≠ R) ∧
    Own s1 4 out n cells ∧ FrsG s1 K cells fs ∧ feedF N all = (fs ++ (feedF k cur).1, (feedF k cur).2) ∧ cur.length < k ∧ cur.length ≤ all.length ∧ Same s s1 (fun x => x = R ∨ footV hv x) ∧ fs.length ≤ all.length - cur.length ∧
    (∀ x, K x → s.nxt ≤ x ∧ x < s1.nxt ∧ ¬ footV out x) ∧ (∀ x, footV out x → s.nxt ≤ x)) all.length
    ⟨all, v2, _, _, 0, [], fun _ => False, [], N, rfl, e0, e6, hg3, ho3, fun x hx => ⟨hf2 x hx, fun h => h, fun h => h.elim, hne x hx⟩, .nil, .nil, rfl, by omega, Nat.le_refl _, hs03, by simp, fun x h => h.elim, fun x h => h.elim⟩ ?_)
  clear e0 e6 fr ho3 hg3 hs03 s3
  rintro m fr s1 ⟨cur, cv, nc, out, n, cells, K, fs, k, rfl, e0, e6, hg1, hc1, hcv, hout, hfr, hfeed, hk, hcl, hs1, hfl, hK, hof⟩
  obtain ⟨k, rfl⟩ : ∃ j, k = j + 1 := ⟨k - 1, by omega⟩
  refine W_block ?_
  have hR1 : R < s1.nxt := Nat.lt_of_lt_of_le hR hs1.nxt
  have hb1 : Bs s1 cv cur := Bs.of hc1.slc
  refine W_seq (W_ops [0, 6, 7] ?_)
  simp only [o13_10, WO_call, WO_fieldAddr, fieldAddr_p, WO_load, WO_move, WO_nilCheck, nilCheck_p, PureK_some, geT_put, evO_tmp, List.map_cons, List.map_nil, ↓reduceIte, eq_self, Nat.add_zero, List.getElem?_cons_zero, e0, load_g (o := 0) hg1]
  refine CallK_of (run29 hX ho hb1 (by omega)) ?_
  rintro _ s4 ⟨rfl, hs4⟩
  simp only [WO_move, WO_nil, geT_put, evO_tmp, keep_nil, keep_cons, keepK_eq, Nat.reduceEqDiff, ↓reduceIte, eq_self, e0, e6]
  clear e0 e6
  intro fr e0 e6 e7
  refine SeqK_n ?_
  have hg4 : Store.get s4.h R = some (.cells [cv, .bool false] false) := by rw [hs4.get R hR1 (fun h => h)]; exact hg1
  have hb4 : Bs s4 cv cur := hb1.same hs4 (fun _ _ h => h)
  have hc4 := hc1.same hs4 (fun _ _ h => h)
  have hout4 := hout.same hs4 (fun _ _ h => h)
  have hfr4 := hfr.same hs4 (fun _ _ h => h)
  have hs04 : Same s s4 (fun x => x = R ∨ footV hv x) := hs1.trans hs4 (fun _ _ h => h) (fun _ _ h => h.elim)
  have hR4 : R < s4.nxt := Nat.lt_of_lt_of_le hR hs04.nxt
  have n14 := hs4.nxt
  have hof1 : ∀ x, footV out x → x < s1.nxt := hout.slc.foot
  have hcf1 : ∀ x, footV cv x → x < s1.nxt := hc1.slc.foot
  clear hg1 hb1 hc1 hout hfr
  refine W_seq (W_ops [0, 6, 7, 8] ?_)
  simp only [o13_11, WO_call, WO_fieldAddr, fieldAddr_p, WO_load, WO_move, WO_nilCheck, nilCheck_p, PureK_some, geT_put, evO_tmp, List.map_cons, List.map_nil, ↓reduceIte, eq_self, Nat.add_zero, List.getElem?_cons_zero, e0, load_g (o := 0) hg4]
  refine CallK_of (run30 hX ho hb4 (by omega)) ?_
  rintro _ _ ⟨rfl, rfl⟩
  simp only [WO_move, WO_nil, geT_put, evO_tmp, keep_nil, keep_cons, keepK_eq, Nat.reduceEqDiff, ↓reduceIte, eq_self, e0, e6, e7]
  clear e0 e6 e7
  intro fr e0 e6 e7 e8
  refine SeqK_n ?_
  have hcb := hb4.len
  refine W_seq (W_cutN (fun fr s' => s4 = s' ∧ geT fr 0 = .pointer (some ⟨R, 0, none⟩) ∧ geT fr 6 = out ∧ geT fr 7 = .bool (isBad (fstF cur)) ∧ geT fr 8 = .int .i64 (sizeF cur : Nat)) ?_ ?_)
  · intro R' hR'
    have L0 := load_g (o := 0) hg4
    simp only [List.getElem?_cons_zero] at L0
    cases hw : wrongF cur with
    | true =>
      rw [hw] at e7
      have hf := fst_wrong hw
      refine W_seq (W_ops [0, 6, 7, 8, 51] ?_)
      simp only [o13_12, WO_move, WO_pick, pick_b, WO_un, un_not, WO_nil, PureK_some, WO_guard, want_v, wantB_t, geT_put, evO_tmp, evO_const, keep_nil, keep_cons, keepK_eq, Nat.reduceEqDiff, ↓reduceIte, Bool.not_true, eq_self, Bool.false_eq_true, e0, e6, e7, e8]
      clear e0 e6 e7 e8
      intro fr e0 e6 e7 e8 e51
      refine SeqK_n ?_
      exact W_cond e51 (fun h => by cases h) (fun _ => W_skip (hR' _ _ ⟨rfl, e0, e6, by rw [e7, hf]; rfl, e8⟩))
    | false =>
      rw [hw] at e7
      have hf := fst_right hw
      by_cases c27 : cur.length < 27
      · have hz : sizeF cur = 0 := by unfold sizeF; rw [if_pos c27]
        rw [if_pos c27] at hf
        rw [hz] at e8 hR'
        refine W_seq (W_ops [0, 6, 7, 8, 51] ?_)
        simp only [o13_12, WO_bin, WO_move, WO_pick, pick_b, WO_un, un_not, bin_gtr, WO_nil, PureK_some, WO_guard, want_v, wantB_t, geT_put, evO_tmp, evO_const, keep_nil, keep_cons, keepK_eq, Nat.reduceEqDiff, ↓reduceIte, Bool.not_false, decide_false, Int.reduceLT, eq_self, Bool.false_eq_true, e0, e6, e7, e8, nat_0]
        clear e0 e6 e7 e8
        intro fr e0 e6 e7 e8 e51
        refine SeqK_n ?_
        exact W_cond e51 (fun h => by cases h) (fun _ => W_skip (hR' _ _ ⟨rfl, e0, e6, by rw [e7, hf]; rfl, e8⟩))
      rw [if_neg c27] at hf
      have hN32 := getF_32 (b := cur) (l := 3) (h := 7) rfl (by omega)
      obtain ⟨n0, hn0⟩ : ∃ n0, n0 = getF 0 (subB cur 3 7) := ⟨_, rfl⟩
      have hz : sizeF cur = n0 + 11 := by unfold sizeF; rw [if_neg c27, hn0]
      rw [← hn0] at hf hN32
      rw [hz] at e8 hR'
      have hp : (0 : Int) < ((n0 + 11 : Nat) : Int) := by omega
      by_cases cl : cur.length < n0 + 11
      · rw [if_pos cl] at hf
        have hcl' : ¬ ((n0 + 11 : Nat) : Int) ≤ (cur.length : Nat) := by omega
        refine W_seq (W_ops [0, 6, 7, 8, 51] ?_)
        simp only [o13_12, WO_bin, WO_bu, WO_fieldAddr, fieldAddr_p, WO_load, WO_move, WO_nilCheck, nilCheck_p, WO_pick, pick_b, WO_un, un_not, bin_geq, bin_gtr, WO_nil, PureK_some, WO_guard, want_v, wantB_t, geT_put, evO_tmp, evO_const, keep_nil, keep_cons, keepK_eq, List.map_cons, List.map_nil, Nat.reduceEqDiff, ↓reduceIte, Bool.not_false, decide_true, decide_false, eq_self, Nat.add_zero, e0, e6, e7, e8, hp, L0, hcb, hcl']
        clear e0 e6 e7 e8
        intro fr e0 e6 e7 e8 e51
        refine SeqK_n ?_
        exact W_cond e51 (fun h => by cases h) (fun _ => W_skip (hR' _ _ ⟨rfl, e0, e6, by rw [e7, hf]; rfl, e8⟩))
      rw [if_neg cl] at hf
      have hcl' : ((n0 + 11 : Nat) : Int) ≤ (cur.length : Nat) := by omega
      refine W_seq (W_ops [0, 6, 7, 8, 51] ?_)
      simp only [o13_12, WO_bin, WO_bu, WO_fieldAddr, fieldAddr_p, WO_load, WO_move, WO_nilCheck, nilCheck_p, WO_pick, pick_b, WO_un, un_not, bin_geq, bin_gtr, WO_nil, PureK_some, WO_guard, want_v, wantB_t, geT_put, evO_tmp, evO_const, keep_nil, keep_cons, keepK_eq, List.map_cons, List.map_nil, Nat.reduceEqDiff, ↓reduceIte, Bool.not_false, decide_true, eq_self, Nat.add_zero, e0, e6, e7, e8, hp, L0, hcb, hcl']
      clear e0 e6 e7 e8
      intro fr e0 e6 e7 e8 e51
      refine SeqK_n ?_
      refine W_cond e51 (fun _ => ?_) (fun h => by cases h)
      have w4 := wrap_i64 (n := ((n0 + 11 : Nat) : Int) - 4) (by omega) (by omega)
      have sl1 : slV 1 cv none (some (.int .i64 (((n0 + 11 : Nat) : Int) - 4))) none = some (subS 1 cv 0 (n0 + 7)) := hb4.sl0 (by omega) (by omega)
      have sl2 : slV 1 cv (some (.int .i64 (((n0 + 11 : Nat) : Int) - 4))) (some (.int .i64 ((n0 + 11 : Nat) : Int))) none = some (subS 1 cv (n0 + 7) (n0 + 11)) := hb4.sl (by omega) rfl (by omega) (by omega)
      have hfv := fnvF_lt (s := 2166136261) (by omega) (subB cur 0 (n0 + 7))
      have hso : sameO (some cv) cv = true := hb4.sameO
      have hdec : decide (((fnvF 2166136261 (subB cur 0 (n0 + 7)) : Nat) : Int) = ((getF 0 (subB cur (n0 + 7) (n0 + 11)) : Nat) : Int)) = decide (fnvF 2166136261 (subB cur 0 (n0 + 7)) = getF 0 (subB cur (n0 + 7) (n0 + 11))) := decide_eq_decide.2 (by omega)
      refine W_draw0 [0, 6, 7, 8] rfl ?_
      simp only [d13_13, WD_bin, WD_call, WD_fieldAddr, fieldAddr_p, WD_load, WD_move, WD_nilCheck, nilCheck_p, WD_slSl, bin_sub, DPureK_some, DReadK_some, pastR_nil, joinF_nil, setH_self, geT_put, evO_tmp, evO_const, List.map_cons, List.map_nil, Option.map_some, Option.map_none, Nat.reduceEqDiff, Nat.reduceAdd, ↓reduceIte, eq_self, true_and, Nat.zero_add, Nat.add_zero, e0, e8, L0, w4, sl1]
      refine DCallK_of rfl (run31 hX ho (Bs.sub hb4 (Nat.zero_le (n0 + 7)) (by omega)) (by rw [subB_length (by omega)]; omega)) ?_
      rintro _ _ ⟨rfl, rfl⟩
      simp only [WD_bin, WD_call, WD_conv, conv_int, WD_fieldAddr, fieldAddr_p, WD_load, WD_move, WD_nilCheck, nilCheck_p, WD_slSl, bin_sub, DPureK_some, DReadK_some, pastR_nil, pastR_cons, joinF_nil, setH_self, Nat.testBit, Nat.reduceShiftRight, Nat.reduceAnd, Nat.reduceBneDiff, List.all_nil, List.all_cons, List.filter_nil, List.filter_cons, bne_self_eq_false, geT_put, evO_tmp, evO_const, List.map_cons, List.map_nil, Option.map_some, Option.map_none, Nat.reduceEqDiff, Nat.reduceAdd, ↓reduceIte, Bool.not_true, Bool.and_true, Bool.or_true, eq_self, Bool.false_eq_true, true_and, Nat.add_zero, e0, e8, L0, hso, w4, sl2, wrap_u64 (n := ((fnvF 2166136261 (subB cur 0 (n0 + 7)) : Nat) : Int)) (by omega) (by omega)]
      refine DCallK_of rfl (run32 hX ho (Bs.sub hb4 (by omega : n0 + 7 ≤ n0 + 11) (by omega)) (by rw [subB_length (by omega)]; omega)) ?_
      rintro _ _ ⟨rfl, rfl⟩
      simp only [WD_bin, WD_move, bin_neq, WD_nil, DPureK_some, joinF_nil, joinAll_nil, setH_self, Nat.testBit, Nat.reduceShiftRight, Nat.reduceAnd, Nat.reduceBneDiff, List.all_nil, List.all_cons, List.filter_nil, List.filter_cons, geT_put, evO_tmp, keep_nil, keep_cons, keepK_eq, Nat.reduceEqDiff, Nat.reduceAdd, ↓reduceIte, Bool.not_true, Bool.and_true, Bool.true_or, eq_self, Bool.false_eq_true, true_and, e0, e6, e8, hdec]
      clear e0 e6 e7 e8 e51
      intro fr e0 e6 e7 e8
      refine hR' _ _ ⟨rfl, e0, e6, ?_, e8⟩
      rw [e7, hf]
      by_cases hq : fnvF 2166136261 (subB cur 0 (n0 + 7)) = getF 0 (subB cur (n0 + 7) (n0 + 11))
      · rw [if_neg (fun h => h hq), decide_eq_true hq]; rfl
      · rw [if_pos hq, decide_eq_false hq]; rfl
  clear e0 e6 e7 e8 fr
  rintro fr _ ⟨rfl, e0, e6, e7, e8⟩
  refine SeqK_n ?_
  refine W_assoc ?_
  refine W_seq (W_ops [0, 6, 8, 71] ?_)
  simp only [o13_14, WO_move, WO_nil, geT_put, evO_tmp, keep_nil, keep_cons, keepK_eq, Nat.reduceEqDiff, ↓reduceIte, eq_self, e0, e6, e7, e8]
  clear e0 e6 e7 e8
  intro fr e0 e6 e8 e71
  refine SeqK_n ?_
  cases hfs : fstF cur with
  | bad =>
    rw [hfs] at e71
    refine W_seq (W_cond e71 (fun _ => ?_) (fun h => by cases h))
    have h1 : storeV s4 1 (.pointer (some ⟨R, 0, none⟩)) (.slice none 0 0) = some (undefV, setBlk s4 R (.cells [.slice none 0 0, .bool false] false)) := store_g (o := 0) hg4 rfl (by simp)
    have h2' : Store.get (setBlk s4 R (.cells [.slice none 0 0, .bool false] false)).h R = some (.cells [.slice none 0 0, .bool false] false) := by rw [get_set, if_pos rfl]
    have h2 : storeV (setBlk s4 R (.cells [.slice none 0 0, .bool false] false)) 1 (.pointer (some ⟨R, 1, none⟩)) (.bool true) = some (undefV, setBlk (setBlk s4 R (.cells [.slice none 0 0, .bool false] false)) R (.cells [.slice none 0 0, .bool true] false)) := store_g (o := 1) h2' rfl (by simp)
    refine W_seq (W_ops [0, 6] ?_)
    simp only [o13_15, WO_fieldAddr, fieldAddr_p, WO_move, WO_nilCheck, nilCheck_p, WO_store, WO_nil, PureK_some, MemK_some, geT_put, puT_none, evO_tmp, evO_const, keep_nil, keep_cons, keepK_eq, Nat.reduceEqDiff, ↓reduceIte, eq_self, Nat.add_zero, e0, e6, h1]
    clear e0 e6 e8 e71
    intro fr e0 e6
    refine SeqK_n ?_
    refine W_seq (W_ops [6] ?_)
    simp only [o13_16, WO_fieldAddr, fieldAddr_p, WO_move, WO_nilCheck, nilCheck_p, WO_store, WO_nil, PureK_some, MemK_some, geT_put, puT_none, evO_tmp, evO_const, keep_nil, keep_cons, keepK_eq, Nat.reduceEqDiff, ↓reduceIte, eq_self, Nat.zero_add, e0, e6, h2]
    clear e0 e6
    intro fr e6
    refine SeqK_n ?_
    refine W_seq (W_ops [4, 5] ?_)
    simp only [o13_17, WO_move, WO_nil, geT_put, evO_tmp, evO_const, keep_nil, keep_cons, keepK_eq, Nat.reduceEqDiff, ↓reduceIte, eq_self, e6]
    clear e6
    intro fr e4 e5
    refine SeqK_n ?_
    have hs47 : Same s4 (setBlk (setBlk s4 R (.cells [.slice none 0 0, .bool false] false)) R (.cells [.slice none 0 0, .bool true] false)) (fun x => x = R) := (Same.set (F := fun x => x = R) rfl).trans (.set (F := fun x => x = R) rfl) (fun _ _ h => h) (fun _ _ h => h)
    have hfe : feedF (k + 1) cur = ([], none) := by simp only [feedF, hfs]
    rw [hfe] at hfeed
    refine W_ret (SeqK_r (BlkK_r (LoopK_r (BlkK_r (Ret2 e4 e5 ⟨hs04.trans hs47 (fun _ _ h => h) (fun _ _ h => .inl h), out, n, cells, K, hout4.same hs47 (fun x hx e => by have := hof x hx; omega), ?_, fun x hx => ⟨(hK x hx).1, by have := (hK x hx).2.1; have := hs47.nxt; omega, (hK x hx).2.2⟩, hof, .inl ⟨by rw [hfeed], rfl, by rw [get_set, if_pos rfl]⟩⟩)))))
    rw [hfeed]
    simpa using hfr4.same hs47 (fun x hx e => by have := (hK x hx).1; omega)
  | wait =>
    rw [hfs] at e71
    refine W_seq (W_cond e71 (fun h => by cases h) (fun _ => W_skip (SeqK_n ?_)))
    have hw : wrongF cur = false := by
      cases h : wrongF cur with
      | false => rfl
      | true => rw [fst_wrong h] at hfs; cases hfs
    have hfr2 := fst_right hw
    have hres : ∃ w8 : Bool, (w8 = true) ∧ True := ⟨true, rfl, trivial⟩
    clear hres
    have L0 := load_g (o := 0) hg4
    simp only [List.getElem?_cons_zero] at L0
    refine W_assoc ?_
    refine W_seq (W_opsB [0, 6, 8, 89] (fun fr s' => s4 = s' ∧ geT fr 6 = out ∧ geT fr 89 = .bool true) ?_ ?_)
    · intro R' hR'
      by_cases hz : sizeF cur = 0
      · rw [hz] at e8
        simp only [o13_18, WO_bin, WO_move, WO_pick, pick_b, bin_eql, WO_nil, PureK_some, WO_guard, want_v, wantB_f, geT_put, evO_tmp, evO_const, keep_nil, keep_cons, keepK_eq, Nat.reduceEqDiff, ↓reduceIte, Bool.not_true, decide_true, eq_self, Bool.false_eq_true, e0, e6, e8, nat_0]
        intro fr e0 e6 e8 e89
        exact hR' _ _ ⟨rfl, e6, e89⟩
      · have hz' : ¬ ((sizeF cur : Nat) : Int) = 0 := by omega
        have c27 : ¬ cur.length < 27 := fun h => hz (by unfold sizeF; rw [if_pos h])
        have hsz : sizeF cur = getF 0 (subB cur 3 7) + 11 := by unfold sizeF; rw [if_neg c27]
        rw [if_neg c27] at hfr2
        have hlt : (cur.length : Int) < (sizeF cur : Nat) := by
          by_cases cl : cur.length < getF 0 (subB cur 3 7) + 11
          · omega
          · rw [if_neg cl, hfs] at hfr2
            split at hfr2 <;> cases hfr2
        simp only [o13_18, WO_bin, WO_bu, WO_fieldAddr, fieldAddr_p, WO_load, WO_move, WO_nilCheck, nilCheck_p, WO_pick, pick_b, bin_eql, bin_lss, WO_nil, PureK_some, WO_guard, want_v, wantB_f, geT_put, evO_tmp, evO_const, keep_nil, keep_cons, keepK_eq, List.map_cons, List.map_nil, Nat.reduceEqDiff, ↓reduceIte, Bool.not_false, decide_true, decide_false, eq_self, Bool.false_eq_true, Nat.add_zero, e0, e6, e8, hz', L0, hcb, hlt]
        intro fr e0 e6 e8 e89
        exact hR' _ _ ⟨rfl, e6, e89⟩
    clear e0 e6 e8 e71 fr
    rintro fr _ ⟨rfl, e6, e89⟩
    refine SeqK_n (W_seq (W_cond e89 (fun _ => ?_) (fun h => by cases h)))
    refine W_seq (W_ops [4, 5] ?_)
    simp only [o13_19, WO_move, WO_nil, geT_put, evO_tmp, evO_const, keep_nil, keep_cons, keepK_eq, Nat.reduceEqDiff, ↓reduceIte, eq_self, e6]
    clear e6 e89
    intro fr e4 e5
    refine SeqK_n ?_
    have hfe : feedF (k + 1) cur = ([], some cur) := by simp only [feedF, hfs]
    rw [hfe] at hfeed
    refine W_ret (SeqK_r (BlkK_r (LoopK_r (BlkK_r (Ret2 e4 e5 ⟨hs04, out, n, cells, K, hout4, ?_, fun x hx => ⟨(hK x hx).1, by have := (hK x hx).2.1; omega, (hK x hx).2.2⟩, hof, .inr ⟨cur, cv, nc, by rw [hfeed], rfl, hg4, hc4, fun x hx => ⟨(hcv x hx).1, (hcv x hx).2.1, (hcv x hx).2.2.1⟩⟩⟩)))))
    rw [hfeed]; simpa using hfr4
  | got n0 =>
    rw [hfs] at e71
    refine W_seq (W_cond e71 (fun h => by cases h) (fun _ => W_skip (SeqK_n ?_)))
    obtain ⟨f0, f1, f2, f3, _⟩ := fst_got hfs
    have hsz : sizeF cur = n0 + 11 := by unfold sizeF; rw [if_neg (by omega), ← f0]
    rw [hsz] at e8
    have hz : ¬ ((n0 + 11 : Nat) : Int) = 0 := by omega
    have hnlt : ¬ (cur.length : Int) < ((n0 + 11 : Nat) : Int) := by omega
    have L0 := load_g (o := 0) hg4
    simp only [List.getElem?_cons_zero] at L0
    refine W_assoc ?_
    refine W_seq (W_ops [0, 6, 8, 89] ?_)
    simp only [o13_18, WO_bin, WO_bu, WO_fieldAddr, fieldAddr_p, WO_load, WO_move, WO_nilCheck, nilCheck_p, WO_pick, pick_b, bin_eql, bin_lss, WO_nil, PureK_some, WO_guard, want_v, wantB_f, geT_put, evO_tmp, evO_const, keep_nil, keep_cons, keepK_eq, List.map_cons, List.map_nil, Nat.reduceEqDiff, ↓reduceIte, Bool.not_false, decide_false, eq_self, Bool.false_eq_true, Nat.add_zero, e0, e6, e8, hz, L0, hcb, hnlt]
    clear e0 e6 e8 e71
    intro fr e0 e6 e8 e89
    refine SeqK_n ?_
    refine W_seq (W_cond e89 (fun h => by cases h) (fun _ => W_skip (SeqK_n ?_)))
    have sl1 : slV 1 cv none (some (.int .i64 ((n0 + 11 : Nat) : Int))) none = some (subS 1 cv 0 (n0 + 11)) := hb4.sl0 rfl f3
    have hsub := Bs.sub hb4 (Nat.zero_le (n0 + 11)) f3
    have hst0 : subB cur 0 (n0 + 11) = cur.take (n0 + 11) := by unfold subB; simp
    rw [hst0] at hsub
    obtain ⟨ft, fo⟩ := fst_take hfs
    refine W_seq (W_ops [0, 6, 8] ?_)
    simp only [o13_20, WO_call, WO_fieldAddr, fieldAddr_p, WO_load, WO_move, WO_nilCheck, nilCheck_p, WO_slSl, PureK_some, geT_put, evO_tmp, List.map_cons, List.map_nil, Option.map_some, Option.map_none, Nat.reduceEqDiff, ↓reduceIte, eq_self, Nat.add_zero, e0, e6, e8, L0, sl1]
    refine CallK_of (run33 hX ho hsub ft (by rw [List.length_take]; omega)) ?_
    rintro _ s5 ⟨hs45, rv, iv, rfl, t1, t2⟩
    rw [fo] at t1 t2 ⊢
    have hn : n = fs.length := by have := hout4.length; have := hfr4.len; omega
    have hs56 : Same s5 (newAt s5 (.cells [.float .f64 (frOf cur).T, .float .f64 (frOf cur).U, rv, iv] false)) (fun _ => False) := .new
    have hsc : SlC (newAt s5 (.cells [.float .f64 (frOf cur).T, .float .f64 (frOf cur).U, rv, iv] false)) 4 (.slice (some ⟨s5.nxt, 0, none⟩) 1 1) 1 [.float .f64 (frOf cur).T, .float .f64 (frOf cur).U, rv, iv] :=
      .mk blk_new_self (by rw [nxt_new]; omega) rfl (by simp) (.inl ⟨Nat.le_refl _, by decide⟩)
    have hbs : buildSlV s5 4 [.float .f64 0, .float .f64 0, .slice none 0 0, .slice none 0 0] 1 [(0, 4, .agg #[.float .f64 (frOf cur).T, .float .f64 (frOf cur).U, rv, iv])] = some (.slice (some ⟨s5.nxt, 0, none⟩) 1 1, .cells [.float .f64 (frOf cur).T, .float .f64 (frOf cur).U, rv, iv] false) := rfl
    have hones : [Value.float .f64 (frOf cur).T, .float .f64 (frOf cur).U, rv, iv].all oneCell = true := by
      simp only [List.all_cons, t1.tab.one, t2.tab.one, List.all_nil, Bool.and_true]; rfl
    obtain ⟨out', s7, ap7, ho7, hs67, hf7⟩ := ((hout4.same hs45 (fun _ _ h => h)).same hs56 (fun _ _ h => h)).append (bytes := 64) hsc.src rfl hones (by omega) (by omega) (by omega) (by omega)
    have hs57 : Same s5 s7 (footV out) := hs56.trans hs67 (fun _ _ h => h.elim) (fun _ _ h => h)
    have hs47 : Same s4 s7 (footV out) := hs45.trans hs57 (fun _ _ h => h.elim) (fun _ _ h => h)
    simp only [WO_append, WO_buildSlice, WO_move, WO_nil, MemK_some, NewK_some, geT_put, evO_tmp, keep_nil, keep_cons, keepK_eq, List.map_cons, List.map_nil, Nat.reduceEqDiff, ↓reduceIte, eq_self, Nat.zero_mul, e0, e8, hbs, ap7]
    clear e0 e6 e8 e89
    intro fr e0 e6 e8
    refine SeqK_n ?_
    have n45 := hs45.nxt
    have n57 := hs57.nxt
    have n04 := hs04.nxt
    have hc7 := hc4.same hs47 (fun x hx => (hcv x hx).2.2.1)
    have hb7 : Bs s7 cv cur := Bs.of hc7.slc
    have hg7 : Store.get s7.h R = some (.cells [cv, .bool false] false) := by rw [hs47.get R hR4 (fun h => by have := hof R h; omega)]; exact hg4
    have tg1 := (t1.lt.same hs57 (fun x hx h => by have := hof1 x h; omega))
    have tg2 := (t2.lt.same hs57 (fun x hx h => by have := hof1 x h; omega))
    have hfr7 := (hfr4.same hs47 (fun x hx => (hK x hx).2.2)).mono (K' := fun x => K x ∨ (s4.nxt ≤ x ∧ x < s5.nxt)) (fun _ h => .inl h)
    have hfrn := hfr7.app (.cons (f := frOf cur) (tg1.mono (fun _ h => .inr h)) (tg2.mono (fun _ h => .inr h)) .nil)
    have hfo' : ∀ x, footV out' x → s.nxt ≤ x ∧ (footV out x ∨ s5.nxt < x) := fun x hx => by
      rcases hf7 x hx with h | h
      · exact ⟨hof x h, .inl h⟩
      · rw [nxt_new] at h; exact ⟨by omega, .inr (by omega)⟩
    have hK' : ∀ x, (K x ∨ (s4.nxt ≤ x ∧ x < s5.nxt)) → s.nxt ≤ x ∧ x < s7.nxt ∧ ¬ footV out' x := by
      rintro x (hx | hx)
      · obtain ⟨q1, q2, q3⟩ := hK x hx
        refine ⟨q1, by omega, fun h => ?_⟩
        rcases (hfo' x h).2 with h' | h'
        · exact q3 h'
        · omega
      · refine ⟨by omega, by omega, fun h => ?_⟩
        rcases (hfo' x h).2 with h' | h'
        · have := hof1 x h'; omega
        · omega
    have hout7 : ∀ x, footV out' x → x < s7.nxt := ho7.slc.foot
    -- what is held is laid anew
    have hb0 : buildSlV s7 1 [.int .u8 0] 0 [] = some (.slice (some ⟨s7.nxt, 0, none⟩) 0 0, .cells [] false) := rfl
    have hs78 : Same s7 (newAt s7 (.cells [] false)) (fun _ => False) := .new
    have ow0 : Own (newAt s7 (.cells [] false)) 1 (.slice (some ⟨s7.nxt, 0, none⟩) 0 0) 0 [] := .cap (rest := []) (by rw [get_new, if_pos rfl]; rfl) (by rw [nxt_new]; omega) rfl rfl (Nat.le_refl _) (by decide)
    have hb8 : Bs (newAt s7 (.cells [] false)) cv cur := hb7.same hs78 (fun _ _ h => h)
    have hg8 : Store.get (newAt s7 (.cells [] false)).h R = some (.cells [cv, .bool false] false) := by rw [hs78.get R (by omega) (fun h => h)]; exact hg7
    have hn8 : (newAt s7 (.cells [] false)).nxt = s7.nxt + 1 := nxt_new
    have hsl : slV 1 cv (some (.int .i64 ((n0 + 11 : Nat) : Int))) none none = some (subS 1 cv (n0 + 11) cur.length) := hb8.slE rfl f3
    have hsub8 : Bs (newAt s7 (.cells [] false)) (subS 1 cv (n0 + 11) cur.length) (subB cur (n0 + 11) cur.length) := Bs.sub hb8 f3 (Nat.le_refl _)
    have hdr' : subB cur (n0 + 11) cur.length = cur.drop (n0 + 11) := by
      unfold subB; rw [List.take_of_length_le (by simp)]
    rw [hdr'] at hsub8
    have hdl : (cur.drop (n0 + 11)).length = cur.length - (n0 + 11) := List.length_drop
    obtain ⟨v', s9, ap9, ho9, hs89, hf9⟩ := ow0.append (bytes := 1) (SlC.src hsub8) (by rw [bsV_length]; omega) (bsV_one _) (by omega) (by omega) (by omega) (by omega)
    rw [List.nil_append] at ho9
    have hs79 : Same s7 s9 (fun _ => False) := hs78.trans hs89 (fun _ _ h => h) (fun x hx h => by simp only [footV] at h; omega)
    have hg9 : Store.get s9.h R = some (.cells [cv, .bool false] false) := by rw [hs79.get R (by omega) (fun h => h)]; exact hg7
    have hsta : storeV s9 1 (.pointer (some ⟨R, 0, none⟩)) v' = some (undefV, setBlk s9 R (.cells [v', .bool false] false)) := store_g (o := 0) hg9 ho9.one (by simp)
    have L8 := load_g (o := 0) hg8
    simp only [List.getElem?_cons_zero] at L8
    refine W_ops [0, 6] ?_
    simp only [o13_21, WO_append, WO_buildSlice, WO_fieldAddr, fieldAddr_p, WO_load, WO_move, WO_nilCheck, nilCheck_p, WO_slSl, WO_store, WO_nil, PureK_some, MemK_some, NewK_some, geT_put, puT_none, evO_tmp, keep_nil, keep_cons, keepK_eq, List.map_nil, Option.map_some, Option.map_none, Nat.reduceEqDiff, ↓reduceIte, eq_self, Nat.add_zero, Nat.mul_one, e0, e6, e8, hb0, L8, hsl, ap9, hsta]
    clear e0 e6 e8
    intro fr e0 e6
    have hv' : ∀ x, footV v' x → s7.nxt ≤ x := fun x hx => by
      rcases hf9 x hx with h | h
      · simp only [footV] at h; omega
      · omega
    have hs9a : Same s9 (setBlk s9 R (.cells [v', .bool false] false)) (fun x => x = R) := .set rfl
    have hs7a : Same s7 (setBlk s9 R (.cells [v', .bool false] false)) (fun x => x = R) := hs79.trans hs9a (fun _ _ h => h.elim) (fun _ _ h => h)
    have hfe : feedF (k + 1) cur = (frOf cur :: (feedF k (cur.drop (n0 + 11))).1, (feedF k (cur.drop (n0 + 11))).2) := by simp only [feedF, hfs]
    rw [hfe] at hfeed
    have n7a := hs7a.nxt
    refine BlkK_n (LoopK_n (m' := (cur.drop (n0 + 11)).length) (by omega) ⟨cur.drop (n0 + 11), v', 0 + (cur.drop (n0 + 11)).length, out', n + 1, _, fun x => K x ∨ (s4.nxt ≤ x ∧ x < s5.nxt), fs ++ [frOf cur], k, rfl, e0, e6, by rw [get_set, if_pos rfl],
      ho9.same hs9a (fun x hx e => by have := hv' x hx; omega), fun x hx => ⟨.inr (by have := hv' x hx; omega), fun h => ?_, fun h => by have := hv' x hx; have := hout7 x h; omega, by have := hv' x hx; omega⟩,
      ho7.same hs7a (fun x hx e => by have := (hfo' x hx).1; omega), hfrn.same hs7a (fun x hx e => by have := (hK' x hx).1; omega), by rw [hfeed]; simp, by omega, by omega,
      (hs04.trans hs47 (fun _ _ h => h) (fun x hx h => by have := hof x h; omega)).trans hs7a (fun _ _ h => h) (fun _ _ h => .inl h), by rw [List.length_append, List.length_singleton]; omega, fun x hx => ⟨(hK' x hx).1, by have := (hK' x hx).2.1; omega, (hK' x hx).2.2⟩, fun x hx => (hfo' x hx).1⟩)
    have := hv' x hx
    have := (hK' x h).2.1
    omega

end Go.Proofs.Ytkfcejhebepdkaa
