/- A float as a small number. -/
import Derived.Test.YtkfcejhebepdkaaUB
import Derived.Test.YtkfcejhebepdkaaFlB
namespace Go.Proofs.Ytkfcejhebepdkaa
open Go Go.Vam

theorem sv_c (q low n k r : Nat) (h1 : q * 4503599627370496 + low = r) (h2 : low ≤ 9007199254740992) (h3 : 4503599627370496 ≤ low) (h4 : low = n * twoP k) (h5 : k + q = 1074) : sv r = n * oneU := by
  rw [← h1, sv_at h2 (.inr h3), h4, Nat.mul_assoc]
  exact congrArg (n * ·) (twoP_join h5)

theorem sv_32767 : sv 4674736138332667904 = 32767 * oneU := sv_c 1036 (32767 * 274877906944) 32767 38 _ (by decide) (by decide) (by decide) rfl rfl
theorem sv_32768 : sv 4674736413210574848 = 32768 * oneU := sv_c 1037 (32768 * 137438953472) 32768 37 _ (by decide) (by decide) (by decide) rfl rfl
theorem sv_half : sv 4602678819172646912 * 2 = oneU := by
  have := sv_one (q := 1021)
  have e : 1021 * 4503599627370496 + 4503599627370496 = 4602678819172646912 := by decide
  rw [e] at this
  have e1 : twoP 1 = 2 := by decide
  have e2 : 52 + 1021 = 1073 := rfl
  unfold oneU
  rw [this, e2, ← e1, twoP_join (c := 1074) rfl]

theorem ge_of {a b : Int} : (compare a b == .gt || compare a b == .eq) = decide (b ≤ a) := by
  rcases Int.lt_trichotomy a b with h | h | h
  · have : compare a b = .lt := by show compareOfLessAndEq a b = _; unfold compareOfLessAndEq; rw [if_pos h]
    rw [this, decide_eq_false (by omega)]; rfl
  · subst h
    have : compare a a = .eq := by show compareOfLessAndEq a a = _; unfold compareOfLessAndEq; simp
    rw [this, decide_eq_true (by omega)]; rfl
  · have : compare a b = .gt := by show compareOfLessAndEq a b = _; unfold compareOfLessAndEq; rw [if_neg (by omega), if_neg (by omega)]
    rw [this, decide_eq_true (by omega)]; rfl

theorem le_of {a b : Int} : (compare a b == .lt || compare a b == .eq) = decide (a ≤ b) := by
  rcases Int.lt_trichotomy a b with h | h | h
  · have : compare a b = .lt := by show compareOfLessAndEq a b = _; unfold compareOfLessAndEq; rw [if_pos h]
    rw [this, decide_eq_true (by omega)]; rfl
  · subst h
    have : compare a a = .eq := by show compareOfLessAndEq a a = _; unfold compareOfLessAndEq; simp
    rw [this, decide_eq_true (by omega)]; rfl
  · have : compare a b = .gt := by show compareOfLessAndEq a b = _; unfold compareOfLessAndEq; rw [if_neg (by omega), if_neg (by omega)]
    rw [this, decide_eq_false (by omega)]; rfl

theorem gt_of {a b : Int} : (compare a b == .gt) = decide (b < a) := by
  rcases Int.lt_trichotomy a b with h | h | h
  · have : compare a b = .lt := by show compareOfLessAndEq a b = _; unfold compareOfLessAndEq; rw [if_pos h]
    rw [this, decide_eq_false (by omega)]; rfl
  · subst h
    have : compare a a = .eq := by show compareOfLessAndEq a a = _; unfold compareOfLessAndEq; simp
    rw [this, decide_eq_false (by omega)]; rfl
  · have : compare a b = .gt := by show compareOfLessAndEq a b = _; unfold compareOfLessAndEq; rw [if_neg (by omega), if_neg (by omega)]
    rw [this, decide_eq_true (by omega)]; rfl

theorem eq_of {a b : Int} : (compare a b == .eq) = decide (a = b) := by
  rcases Int.lt_trichotomy a b with h | h | h
  · have : compare a b = .lt := by show compareOfLessAndEq a b = _; unfold compareOfLessAndEq; rw [if_pos h]
    rw [this, decide_eq_false (by omega)]; rfl
  · subst h
    have : compare a a = .eq := by show compareOfLessAndEq a a = _; unfold compareOfLessAndEq; simp
    rw [this, decide_eq_true (by omega)]; rfl
  · have : compare a b = .gt := by show compareOfLessAndEq a b = _; unfold compareOfLessAndEq; rw [if_neg (by omega), if_neg (by omega)]
    rw [this, decide_eq_false (by omega)]; rfl

/-- Comparisons of floats that are numbers. -/
theorem fge_w {r p : Nat} (hr : r < infR) (hp : p < infR) (s t : Bool) : (ford .f64 (Ieee.double.word s r) (Ieee.double.word t p) == some .gt || ford .f64 (Ieee.double.word s r) (Ieee.double.word t p) == some .eq) = decide (sw t p ≤ sw s r) := by
  rw [order_sw hr hp, ← ge_of]; rfl
theorem fle_w {r p : Nat} (hr : r < infR) (hp : p < infR) (s t : Bool) : (ford .f64 (Ieee.double.word s r) (Ieee.double.word t p) == some .lt || ford .f64 (Ieee.double.word s r) (Ieee.double.word t p) == some .eq) = decide (sw s r ≤ sw t p) := by
  rw [order_sw hr hp, ← le_of]; rfl
theorem fgt_w {r p : Nat} (hr : r < infR) (hp : p < infR) (s t : Bool) : (ford .f64 (Ieee.double.word s r) (Ieee.double.word t p) == some .gt) = decide (sw t p < sw s r) := by
  rw [order_sw hr hp, ← gt_of]; rfl
theorem feq_w {r p : Nat} (hr : r < infR) (hp : p < infR) (s t : Bool) : (ford .f64 (Ieee.double.word s r) (Ieee.double.word t p) == some .eq) = decide (sw s r = sw t p) := by
  rw [order_sw hr hp, ← eq_of]; rfl


theorem run57 {X : Ctx} (hX : X.fns = fnsOf Try.prog) (ho : ∀ f args, f ≠ 9 → X.orc f args = none) {s : Mm} {x y : Nat} (h : extV 2 [.float .f64 x] = some (.float .f64 y)) : CallP X 57 [.float .f64 x] s (fun r s' => r = .float .f64 y ∧ s = s') := by
  refine CallP_of (hX ▸ ir57_eq) (ho _ _ (by decide)) (Nat.le_of_ble_eq_true rfl) ?_
  refine W_seq (W_ops [0] ?_)
  simp only [o57_0, WO_move, WO_nil, geT_put, frame_nil, frame_cons, evO_const, keep_nil, keep_cons, keepK_eq, Nat.reduceEqDiff, ↓reduceIte, eq_self, Nat.zero_add]
  intro fr e0
  refine SeqK_n ?_
  refine W_seq (W_cond (b := true) rfl (fun _ => ?_) (fun h => by cases h))
  refine W_seq (W_ops [2] ?_)
  simp only [o57_1, WO_ext, WO_move, WO_nil, PureK_some, geT_put, evO_tmp, keep_nil, keep_cons, keepK_eq, List.map_cons, List.map_nil, ↓reduceIte, eq_self, e0, h]
  clear e0
  intro fr e2
  refine SeqK_n ?_
  exact W_ret (SeqK_r (Ret1 e2 ⟨rfl, rfl⟩))

set_option maxHeartbeats 1000000 in
theorem run48 {X : Ctx} (hX : X.fns = fnsOf Try.prog) (ho : ∀ f args, f ≠ 9 → X.orc f args = none) {s0 : Mm} {s : Bool} {y : Nat} {a : Int} (hy : y < infR) (ha1 : -32768 ≤ a) (ha2 : a ≤ 32767) (h1 : a * (oneU : Nat) - (epsU : Nat) ≤ sw s y) (h2 : sw s y ≤ a * (oneU : Nat) + (epsU : Nat)) :
    CallP X 48 [.float .f64 (Ieee.double.word s y)] s0 (fun r s' => r = .int .i16 a ∧ s0 = s') := by
  obtain ⟨C1, w1, i1, v1⟩ : ∃ C, 4674736138332667904 = Ieee.double.word false C ∧ C < infR ∧ sv C = 32767 * oneU := ⟨4674736138332667904, rfl, by decide, sv_32767⟩
  obtain ⟨C2, w2, i2, v2⟩ : ∃ C, 13898108450065350656 = Ieee.double.word true C ∧ C < infR ∧ sv C = 32768 * oneU := ⟨4674736413210574848, by decide, by decide, sv_32768⟩
  obtain ⟨C3, w3, i3, v3⟩ : ∃ C, 4602678819172646912 = Ieee.double.word false C ∧ C < infR ∧ sv C * 2 = oneU := ⟨4602678819172646912, rfl, by decide, sv_half⟩
  have hnn : notNan (Ieee.double.word s y) = true := by
    unfold notNan
    rw [feq_w hy hy]; simp
  have s1 : sw false C1 = (32767 : Int) * (oneU : Nat) := by
    simp only [sw, Bool.false_eq_true, if_false]; omega
  have s2 : sw true C2 = (-32768 : Int) * (oneU : Nat) := by
    simp only [sw, if_true]; omega
  have cg : (ford .f64 (Ieee.double.word s y) 4674736138332667904 == some .gt || ford .f64 (Ieee.double.word s y) 4674736138332667904 == some .eq) = decide ((32767 : Int) * (oneU : Nat) ≤ sw s y) := by
    rw [w1, fge_w hy i1, s1]
  have cl : (ford .f64 (Ieee.double.word s y) 13898108450065350656 == some .lt || ford .f64 (Ieee.double.word s y) 13898108450065350656 == some .eq) = decide (sw s y ≤ (-32768 : Int) * (oneU : Nat)) := by
    rw [w2, fle_w hy i2, s2]
  have hEU : (oneU : Int) = 137438953472 * (epsU : Nat) := by rw [oneU_eps, Int.natCast_mul]; rfl
  have hE : (0 : Int) < (epsU : Nat) := by have := epsU_pos; omega
  have hU : (0 : Int) < (oneU : Nat) := by have := oneU_pos; omega
  have mulle : ∀ x y : Int, x ≤ y → x * (oneU : Nat) ≤ y * (oneU : Nat) := fun x y h => Int.mul_le_mul_of_nonneg_right h (Int.le_of_lt hU)
  refine CallP_of (hX ▸ ir48_eq) (ho _ _ (by decide)) (Nat.le_of_ble_eq_true rfl) ?_
  refine W_seq (W_ops [0] ?_)
  simp only [o48_0, WO_move, WO_nil, geT_put, frame_nil, frame_cons, evO_const, keep_nil, keep_cons, keepK_eq, Nat.reduceEqDiff, ↓reduceIte, eq_self, Nat.zero_add]
  intro fr e0
  refine SeqK_n ?_
  refine W_seq (W_block ?_)
  refine W_seq (W_ops [0, 6] ?_)
  simp only [o48_1, WO_call, WO_move, geT_put, evO_tmp, List.map_cons, List.map_nil, ↓reduceIte, eq_self, e0]
  refine CallK_of (run55 hX ho) ?_
  rintro _ _ ⟨rfl, rfl⟩
  simp only [WO_move, WO_nil, geT_put, evO_tmp, keep_nil, keep_cons, keepK_eq, Nat.reduceEqDiff, ↓reduceIte, Bool.not_true, eq_self, e0, hnn]
  clear e0
  intro fr e0 e6
  refine SeqK_n ?_
  refine W_cond e6 (fun h => by cases h) (fun _ => ?_)
  refine W_seq (W_ops [0, 9] ?_)
  simp only [o48_3, WO_bin, WO_move, binf_geq, WO_nil, PureK_some, geT_put, evO_tmp, evO_const, keep_nil, keep_cons, keepK_eq, Nat.reduceEqDiff, ↓reduceIte, eq_self, e0, cg]
  clear e0 e6
  intro fr e0 e9
  refine SeqK_n ?_
  by_cases c1 : (32767 : Int) * (oneU : Nat) ≤ sw s y
  · rw [decide_eq_true c1] at e9
    refine W_cond e9 (fun _ => ?_) (fun h => by cases h)
    have hae : a = 32767 := by
      apply Int.le_antisymm ha2
      refine Int.not_lt.1 ?_
      intro hlt
      have := mulle a 32766 (by omega)
      omega
    refine W_seq (W_ops [2] ?_)
    simp only [o48_4, WO_move, WO_nil, geT_put, evO_const, keep_nil, keep_cons, keepK_eq, ↓reduceIte, eq_self]
    clear e0 e9
    intro fr e2
    refine SeqK_n ?_
    exact W_ret (BlkK_r (SeqK_r (Ret1 e2 ⟨by rw [hae], rfl⟩)))
  rw [decide_eq_false c1] at e9
  refine W_cond e9 (fun h => by cases h) (fun _ => ?_)
  refine W_seq (W_ops [0, 12] ?_)
  simp only [o48_5, WO_bin, WO_move, binf_leq, WO_nil, PureK_some, geT_put, evO_tmp, evO_const, keep_nil, keep_cons, keepK_eq, Nat.reduceEqDiff, ↓reduceIte, eq_self, e0, cl]
  clear e0 e9
  intro fr e0 e12
  refine SeqK_n ?_
  by_cases c2 : sw s y ≤ (-32768 : Int) * (oneU : Nat)
  · rw [decide_eq_true c2] at e12
    refine W_cond e12 (fun _ => ?_) (fun h => by cases h)
    have hae : a = -32768 := by
      apply Int.le_antisymm _ ha1
      refine Int.not_lt.1 ?_
      intro hlt
      have := mulle (-32767) a (by omega)
      omega
    refine W_seq (W_ops [2] ?_)
    simp only [o48_6, WO_move, WO_nil, geT_put, evO_const, keep_nil, keep_cons, keepK_eq, ↓reduceIte, eq_self]
    clear e0 e12
    intro fr e2
    refine SeqK_n ?_
    exact W_ret (BlkK_r (SeqK_r (Ret1 e2 ⟨by rw [hae], rfl⟩)))
  rw [decide_eq_false c2] at e12
  refine W_cond e12 (fun h => by cases h) (fun _ => W_skip (BlkK_n (SeqK_n ?_)))
  obtain ⟨F, f1, f2, f3⟩ := floor_word hy s
  obtain ⟨fl, hfl⟩ : ∃ fl : Int, fl = if s then -(F : Int) else (F : Int) := ⟨_, rfl⟩
  rw [← hfl] at f2 f3
  have l1 : fl ≤ a := by
    refine Int.not_lt.1 ?_
    intro hlt
    have := mulle (a + 1) fl (by omega)
    rw [Int.add_mul, Int.one_mul] at this
    omega
  have l2 : a - 1 ≤ fl := by
    refine Int.not_lt.1 ?_
    intro hlt
    have := mulle (fl + 1) (a - 1) (by omega)
    rw [Int.sub_mul, Int.one_mul] at this
    omega
  have hF : F ≤ 32769 := by cases s <;> simp at hfl <;> omega
  obtain ⟨g1, g2⟩ := rungN_int (F := F) (by omega)
  have hti := toInt_word g1 s g2 (by omega)
  rw [← hfl] at hti
  have hsf : sw s (rungN F 0) = fl * (oneU : Nat) := by
    rw [hfl]
    cases s
    · simp only [sw, g2, Bool.false_eq_true, if_false, Int.natCast_mul]
    · simp only [sw, g2, if_true, Int.natCast_mul, Int.neg_mul]
  obtain ⟨z, z1, z2⟩ := sub_rn hy g1 s s
  rw [hsf] at z1 z2
  refine W_seq (W_ops [0, 3] ?_)
  simp only [o48_7, WO_call, WO_move, geT_put, evO_tmp, List.map_cons, List.map_nil, ↓reduceIte, eq_self, e0]
  refine CallK_of (run57 hX ho f1) ?_
  rintro _ _ ⟨rfl, rfl⟩
  simp only [WO_move, WO_nil, geT_put, evO_tmp, keep_nil, keep_cons, keepK_eq, Nat.reduceEqDiff, ↓reduceIte, eq_self, e0]
  clear e0 e12
  intro fr e0 e3
  refine SeqK_n ?_
  refine W_seq (W_ops [4, 5] ?_)
  simp only [o48_8, WO_bin, WO_conv, WO_move, binf_sub, WO_nil, PureK_some, geT_put, evO_tmp, keep_nil, keep_cons, keepK_eq, Nat.reduceEqDiff, ↓reduceIte, eq_self, e0, e3, hti, z1]
  clear e0 e3
  intro fr e4 e5
  refine SeqK_n ?_
  have sHf : sw false C3 * 2 = (oneU : Nat) := by
    simp only [sw, Bool.false_eq_true, if_false]
    omega
  by_cases hfa : fl = a
  · -- the whole part is the number
    have hd1 : 0 ≤ sw s y - fl * (oneU : Nat) := by omega
    have hd2 : sw s y - fl * (oneU : Nat) ≤ (epsU : Nat) := by rw [hfa]; omega
    obtain ⟨w, hw⟩ := sv_repr 1037 1 (by omega)
    have hzw : z ≤ w := z2.le w (by
      rw [hw, Nat.one_mul, Nat.mul_one]
      have : epsU = twoP 1037 := rfl
      rw [← this]; omega)
    have hz3 := sv_le hzw
    rw [hw, Nat.one_mul] at hz3
    have hz4 : sv z ≤ epsU := hz3
    have hzi : z < infR := sv_lt_inv (Nat.lt_of_le_of_lt hz4 (Nat.lt_of_lt_of_le (by omega : epsU < sv C3) (sv_le (Nat.le_of_lt i3))))
    obtain ⟨sg, hsg⟩ : ∃ sg, sg = (if sw s y - fl * (oneU : Nat) = 0 then s && !s else decide (sw s y - fl * (oneU : Nat) < 0)) := ⟨_, rfl⟩
    have hsg0 : sg = false := by
      rw [hsg]
      split
      · cases s <;> rfl
      · exact decide_eq_false (by omega)
    rw [← hsg, hsg0] at e5
    have hz5 : sw false z < sw false C3 := by
      have : sw false z = (sv z : Int) := by simp [sw]
      omega
    have k1 : (ford .f64 (Ieee.double.word false z) 4602678819172646912 == some .gt) = false := by
      rw [w3, fgt_w hzi i3, decide_eq_false (by omega)]
    have k2 : (ford .f64 (Ieee.double.word false z) 4602678819172646912 == some .eq) = false := by
      rw [w3, feq_w hzi i3, decide_eq_false (by omega)]
    refine W_assoc ?_
    refine W_seq (W_ops [4, 32] ?_)
    simp only [o48_9, WO_bin, WO_move, WO_pick, pick_b, binf_eql, binf_gtr, WO_nil, PureK_some, WO_guard, want_v, wantB_t, wantB_f, geT_put, evO_tmp, evO_const, keep_nil, keep_cons, keepK_eq, Nat.reduceEqDiff, ↓reduceIte, Bool.not_false, eq_self, Bool.false_eq_true, e4, e5, k1, k2]
    clear e4 e5
    intro fr e4 e32
    refine SeqK_n ?_
    refine W_seq (W_cond e32 (fun h => by cases h) (fun _ => W_skip (SeqK_n ?_)))
    refine W_seq (W_ops [2] ?_)
    simp only [o48_11, WO_conv, conv_int, WO_move, WO_nil, PureK_some, geT_put, evO_tmp, keep_nil, keep_cons, keepK_eq, ↓reduceIte, eq_self, e4, wrap_i16 (n := fl) (by omega) (by omega)]
    clear e4 e32
    intro fr e2
    refine SeqK_n ?_
    exact W_ret (Ret1 e2 ⟨by rw [hfa], rfl⟩)
  · -- it is one less
    have hfa1 : fl = a - 1 := by omega
    have hd1 : (oneU : Int) - (epsU : Nat) ≤ sw s y - fl * (oneU : Nat) := by rw [hfa1, Int.sub_mul, Int.one_mul]; omega
    have hd2 : sw s y - fl * (oneU : Nat) ≤ (oneU : Nat) := by rw [Int.add_mul, Int.one_mul] at f3; omega
    obtain ⟨w, hw⟩ := sv_repr 1037 137438953471 (by omega)
    have hpe : twoP 1037 = epsU := rfl
    have hwe : sv w = 137438953471 * epsU := by rw [hw, hpe]
    clear hpe
    obtain ⟨w', hw'⟩ := sv_repr 1074 1 (by omega)
    have hwe' : sv w' = oneU := by rw [hw', Nat.one_mul]; rfl
    clear hw hw'
    have hlt1 : sv w' < sv C1 := by rw [hwe', v1]; clear v1 hwe' hwe; have := oneU_pos; omega
    have hw'i : w' < infR := Nat.lt_trans (sv_lt_inv hlt1) i1
    have hwi : w < infR := Nat.lt_of_lt_of_le (sv_lt_inv (by omega : sv w < sv w')) (Nat.le_of_lt hw'i)
    have hzw : w ≤ z := z2.ge w (Nat.le_of_lt hwi) (by rw [hwe, Nat.mul_one]; omega)
    have hzw' : z ≤ w' := z2.le w' (by rw [hwe', Nat.mul_one]; omega)
    have hzi : z < infR := Nat.lt_of_le_of_lt hzw' hw'i
    have hz3 := sv_le hzw
    obtain ⟨sg, hsg⟩ : ∃ sg, sg = (if sw s y - fl * (oneU : Nat) = 0 then s && !s else decide (sw s y - fl * (oneU : Nat) < 0)) := ⟨_, rfl⟩
    have hsg0 : sg = false := by
      rw [hsg]
      split
      · cases s <;> rfl
      · exact decide_eq_false (by omega)
    rw [← hsg, hsg0] at e5
    have hz5 : sw false C3 < sw false z := by
      have : sw false z = (sv z : Int) := by simp [sw]
      omega
    have k1 : (ford .f64 (Ieee.double.word false z) 4602678819172646912 == some .gt) = true := by
      rw [w3, fgt_w hzi i3, decide_eq_true (by omega)]
    refine W_assoc ?_
    refine W_seq (W_ops [4, 32] ?_)
    simp only [o48_9, WO_bin, WO_move, WO_pick, pick_b, bin_and, binf_gtr, WO_nil, PureK_some, WO_guard, want_v, wantB_f, geT_put, evO_tmp, evO_const, keep_nil, keep_cons, keepK_eq, Nat.reduceEqDiff, ↓reduceIte, Bool.not_true, eq_self, Bool.false_eq_true, e4, e5, k1]
    clear e4 e5
    intro fr e4 e32
    refine SeqK_n ?_
    refine W_seq (W_cond e32 (fun _ => ?_) (fun h => by cases h))
    refine W_ops [4] ?_
    simp only [o48_10, WO_bin, WO_move, bin_add, WO_nil, PureK_some, geT_put, evO_tmp, evO_const, keep_nil, keep_cons, keepK_eq, ↓reduceIte, eq_self, e4, wrap_i64 (n := fl + 1) (by omega) (by omega)]
    clear e4 e32
    intro fr e4
    refine SeqK_n ?_
    refine W_seq (W_ops [2] ?_)
    simp only [o48_11, WO_conv, conv_int, WO_move, WO_nil, PureK_some, geT_put, evO_tmp, keep_nil, keep_cons, keepK_eq, ↓reduceIte, eq_self, e4, wrap_i16 (n := fl + 1) (by omega) (by omega)]
    clear e4
    intro fr e2
    refine SeqK_n ?_
    exact W_ret (Ret1 e2 ⟨by rw [hfa1]; congr 1; omega, rfl⟩)

end Go.Proofs.Ytkfcejhebepdkaa

/- A frame made of rows, where each number comes to a known one. -/
namespace Go.Proofs.Ytkfcejhebepdkaa
open Go Go.Vam

theorem TabW.set {s : Mm} {v : Value} {A O R G p g : Nat} {flat : List Int} (h : TabW s v A O R G flat) (hp : p < R) (hg : g < G) (x : Int) :
    ∃ s', storeV s 1 (elP (rowSl A G p) g) (.int .i16 x) = some (undefV, s') ∧ TabW s' v A O R G (flat.set (p * G + g) x) ∧ Same s s' (· = A) := by
  have hmul : p * G + G ≤ R * G := by rw [← Nat.succ_mul]; exact Nat.mul_le_mul_right _ hp
  have hst := store_g (o := p * G + g) (x := .int .i16 x) h.all rfl (by rw [List.length_map, h.len]; omega)
  refine ⟨_, by rw [rowSl, elP, add_none']; exact hst, ?_, .set rfl⟩
  have hne := h.ne
  refine ⟨h.v, ?_, ?_, by rw [List.length_set]; exact h.len, h.hO, h.hA, h.ne, h.hR, h.hG⟩
  · rw [get_set, if_neg (fun e => hne e.symm)]; exact h.out
  · rw [get_set, if_pos rfl, List.map_set]

theorem flat_at {G : Nat} : ∀ (re : List (List Int)), (∀ r ∈ re, r.length = G) → ∀ (p g : Nat) (hp : p < re.length) (hg : g < G), re.flatten[p * G + g]? = re[p][g]? := by
  intro re
  induction re with
  | nil => intro _ p g hp; simp at hp
  | cons r re ih =>
    intro h p g hp hg
    have hr := h r (by simp)
    rw [List.flatten_cons]
    cases p with
    | zero => rw [Nat.zero_mul, Nat.zero_add, List.getElem?_append_left (by omega)]; rfl
    | succ p =>
      have e : (p + 1) * G + g = r.length + (p * G + g) := by rw [Nat.add_mul, hr]; omega
      rw [e, List.getElem?_append_right (by omega), Nat.add_sub_cancel_left]
      exact ih (fun r hr => h r (by simp [hr])) p g (by simpa using hp) hg

theorem flat_len {G : Nat} : ∀ (re : List (List Int)), (∀ r ∈ re, r.length = G) → re.flatten.length = re.length * G := by
  intro re
  induction re with
  | nil => intro _; simp
  | cons r re ih =>
    intro h
    rw [List.flatten_cons, List.length_append, ih (fun r hr => h r (by simp [hr])), h r (by simp), List.length_cons, Nat.add_mul]; omega

theorem chunk_flat {G : Nat} (re : List (List Int)) (h : ∀ r ∈ re, r.length = G) : chunk re.length G re.flatten = re := by
  apply List.ext_getElem?
  intro p
  unfold chunk
  rw [List.getElem?_map]
  by_cases hp : p < re.length
  · rw [List.getElem?_range hp, List.getElem?_eq_getElem hp]
    simp only [Option.map_some]
    congr 1
    apply List.ext_getElem?
    intro g
    rw [List.getElem?_take]
    split
    · rename_i hg
      rw [List.getElem?_drop, flat_at re h p g hp hg]
    · rename_i hg
      rw [List.getElem?_eq_none]
      rw [h _ (List.getElem_mem hp)]; omega
  · rw [List.getElem?_eq_none (by simp; omega), List.getElem?_eq_none (by omega)]; rfl

theorem TabW.tabC {s : Mm} {v : Value} {A O R : Nat} {re : List (List Int)} {G : Nat} (h : TabW s v A O R G re.flatten) (hR : R = re.length) (hG : ∀ r ∈ re, r.length = G) : TabC s v re := by
  subst hR
  have := h.tabG.tab
  rw [chunk_flat re hG] at this
  exact this

theorem fin_word {x : Nat} (hx : x < 18446744073709551616) (h : finB x = true) : ∃ s r, x = Ieee.double.word s r ∧ r < infR := by
  refine ⟨_, _, word_of hx, ?_⟩
  have h2 : notNan x = true := by unfold finB at h; simp only [Bool.and_eq_true] at h; exact h.1
  rcases Nat.lt_trichotomy (x % 9223372036854775808) infR with hl | hl | hl
  · exact hl
  · exfalso
    have e : fabs x = infR := by
      rw [word_of hx, fabs_word _ _ (by rw [d_ir, hl]; exact Nat.le_refl _), hl]
    unfold finB at h
    rw [e] at h
    have : (ford .f64 infR 9218868437227405311 == some .gt) = true := by decide +kernel
    rw [this] at h
    simp at h
  · have := nan_of (x := x) (by rw [d_ir]; exact hl)
    rw [this] at h2; cases h2


theorem run26 {X : Ctx} (hX : X.fns = fnsOf Try.prog) (ho : ∀ f args, f ≠ 9 → X.orc f args = none) {s : Mm} {x : Nat} : CallP X 26 [.float .f64 x] s (fun r s' => r = .bool ((ford .f64 x 2355382605114769408 == some .gt || ford .f64 x 2355382605114769408 == some .eq) && (ford .f64 x 6858982232485265408 == some .lt || ford .f64 x 6858982232485265408 == some .eq)) ∧ s = s') := by
  refine CallP_of (hX ▸ ir26_eq) (ho _ _ (by decide)) (Nat.le_of_ble_eq_true rfl) ?_
  refine W_seq (W_ops [0] ?_)
  simp only [o26_0, WO_move, WO_nil, geT_put, frame_nil, frame_cons, evO_const, keep_nil, keep_cons, keepK_eq, Nat.reduceEqDiff, ↓reduceIte, eq_self, Nat.zero_add]
  intro fr e0
  refine SeqK_n ?_
  cases h : (ford .f64 x 2355382605114769408 == some .gt || ford .f64 x 2355382605114769408 == some .eq) with
  | false =>
    refine W_seq (W_ops [2] ?_)
    simp only [o26_1, WO_bin, WO_move, WO_pick, pick_b, binf_geq, WO_nil, PureK_some, WO_guard, want_v, wantB_t, geT_put, evO_tmp, evO_const, keep_nil, keep_cons, keepK_eq, Nat.reduceEqDiff, ↓reduceIte, Bool.false_and, eq_self, Bool.false_eq_true, e0, h]
    clear e0
    intro fr e2
    refine SeqK_n ?_
    exact W_ret (Ret1 e2 ⟨rfl, rfl⟩)
  | true =>
    refine W_seq (W_ops [2] ?_)
    simp only [o26_1, WO_bin, WO_move, WO_pick, pick_b, binf_geq, binf_leq, WO_nil, PureK_some, WO_guard, want_v, wantB_t, geT_put, evO_tmp, evO_const, keep_nil, keep_cons, keepK_eq, Nat.reduceEqDiff, ↓reduceIte, Bool.true_and, eq_self, e0, h]
    clear e0
    intro fr e2
    refine SeqK_n ?_
    exact W_ret (Ret1 e2 ⟨rfl, rfl⟩)

set_option maxHeartbeats 4000000 in
theorem run27 {X : Ctx} (hX : X.fns = fnsOf Try.prog) (ho : ∀ f args, f ≠ 9 → X.orc f args = none) {s : Mm} {v : Value} {T U : Nat} {re im : List (List Int)} (hv : TabE s 1 eX v (rowsX U re im)) (hc0 : chkE T U re im = 0)
    (hsm : ∀ (p g : Nat) (a b : Int) (r i : List Int), re[p]? = some r → im[p]? = some i → r[g]? = some a → i[g]? = some b → ∀ s0, CallP X 48 [.float .f64 (fdiv .f64 (fmul .f64 (FloatKind.f64.nearest a) U) U)] s0 (fun r s' => r = .int .i16 a ∧ s0 = s') ∧ CallP X 48 [.float .f64 (fdiv .f64 (fmul .f64 (FloatKind.f64.nearest b) U) U)] s0 (fun r s' => r = .int .i16 b ∧ s0 = s')) :
    CallP X 27 [v, .float .f64 T, .float .f64 U] s (fun r s' => ∃ rv iv, r = .tuple #[.agg #[.float .f64 T, .float .f64 U, rv, iv], .int .i64 0] ∧ oneCell rv = true ∧ oneCell iv = true ∧ TabC s' rv re ∧ TabC s' iv im ∧ Same s s' (fun _ => False)) := by
  obtain ⟨hfT, hfU, hok, hlg⟩ := chk_spec hc0
  have hfU2 : finB U = true ∧ (ford .f64 U 0 == some .gt) = true := by unfold okU at hfU; simpa only [Bool.and_eq_true] using hfU
  obtain ⟨hl, hcr, hci⟩ := okB_spec hok
  obtain ⟨hR, hN, hRN⟩ := large_spec hlg
  have hxl : (rowsX U re im).length = re.length := rowsX_len rfl hl.symm
  have hrow : ∀ (p : Nat) (hp : p < re.length), ∃ hq : p < (rowsX U re im).length, ∃ hp2 : p < im.length, (rowsX U re im)[p] = rowX U re[p] im[p] ∧ (rowsX U re im)[p].length = colsN re := fun p hp => by
    refine ⟨by omega, by omega, by simp [rowsX], ?_⟩
    simp only [rowsX, List.getElem_zipWith]
    exact rowX_len (hcr _ (by simp)) (hci _ (by simp))
  refine CallP_of (hX ▸ ir27_eq) (ho _ _ (by decide)) (Nat.le_of_ble_eq_true rfl) ?_
  refine W_seq (W_ops [0, 1, 2, 6] ?_)
  simp only [o27_0, WO_alloc, WO_move, WO_nil, geT_put, frame_nil, frame_cons, evO_const, keep_nil, keep_cons, keepK_eq, Nat.reduceEqDiff, Nat.reduceAdd, ↓reduceIte, eq_self, Nat.zero_add]
  intro fr e0 e1 e2 e6
  refine SeqK_n ?_
  have H1 := (Hold.refl s).new [.float .f64 0, .float .f64 0, .slice none 0 0, .slice none 0 0]
  generalize newAt s (.cells [.float .f64 0, .float .f64 0, .slice none 0 0, .slice none 0 0] false) = s1 at H1 ⊢
  have hv1 := hv.same H1.same
  refine W_assoc ?_
  refine W_seq (W_ops [0, 1, 2, 6, 28] ?_)
  simp only [o27_1, WO_call, WO_move, geT_put, evO_tmp, List.map_cons, List.map_nil, ↓reduceIte, eq_self, e1]
  refine CallK_of (run45 hX ho) ?_
  rintro _ _ ⟨rfl, rfl⟩
  simp only [WO_call, WO_move, WO_un, un_not, PureK_some, WO_guard, want_v, wantB_f, geT_put, evO_tmp, List.map_cons, List.map_nil, Nat.reduceEqDiff, ↓reduceIte, Bool.not_true, Bool.not_false, eq_self, e2, hfT]
  refine CallK_of (run45 hX ho) ?_
  rintro _ _ ⟨rfl, rfl⟩
  simp only [WO_bin, WO_move, WO_pick, pick_b, WO_un, un_not, binf_gtr, WO_nil, PureK_some, WO_guard, want_v, wantB_f, geT_put, evO_tmp, evO_const, keep_nil, keep_cons, keepK_eq, Nat.reduceEqDiff, ↓reduceIte, Bool.not_true, Bool.not_false, eq_self, Bool.false_eq_true, e0, e1, e2, e6, hfU2.1, hfU2.2]
  clear e0 e1 e2 e6
  intro fr e0 e1 e2 e6 e28
  refine SeqK_n ?_
  refine W_seq (W_cond e28 (fun h => by cases h) (fun _ => W_skip (SeqK_n ?_)))
  refine W_seq (W_ops [0, 1, 2, 6, 8] ?_)
  simp only [o27_3, WO_move, WO_nil, geT_put, evO_const, keep_nil, keep_cons, keepK_eq, Nat.reduceEqDiff, ↓reduceIte, eq_self, e0, e1, e2, e6]
  clear e0 e1 e2 e6 e28
  intro fr e0 e1 e2 e6 e8
  refine SeqK_n ?_
  refine W_assoc ?_
  refine W_seq (W_ops [0, 1, 2, 6, 8, 30, 31, 32] ?_)
  simp only [o27_4, WO_bu, WO_move, WO_nil, PureK_some, geT_put, evO_tmp, evO_const, keep_nil, keep_cons, keepK_eq, List.map_cons, List.map_nil, Nat.reduceEqDiff, ↓reduceIte, eq_self, e0, e1, e2, e6, e8, hv1.len, hxl]
  clear e0 e1 e2 e6 e8
  intro fr e0 e1 e2 e6 e8 e30 e31 e32
  refine SeqK_n ?_
  refine W_seq (W_block (W_loop (fun m fr s2 => ∃ k, k + m = re.length ∧ s1 = s2 ∧ geT fr 0 = v ∧ geT fr 1 = .float .f64 T ∧ geT fr 2 = .float .f64 U ∧ geT fr 6 = .pointer (some ⟨s.nxt, 0, none⟩) ∧ geT fr 8 = .int .i64 ((if k = 0 then 0 else colsN re : Nat) : Nat) ∧ geT fr 30 = v ∧ geT fr 31 = .int .i64 (re.length : Nat) ∧ geT fr 32 = .int .i64 (k : Nat)) re.length ⟨0, by omega, rfl, e0, e1, e2, e6, e8, e30, e31, e32⟩ ?_))
  clear e0 e1 e2 e6 e8 e30 e31 e32 fr
  rintro m fr _ ⟨k, hk, rfl, e0, e1, e2, e6, e8, e30, e31, e32⟩
  refine W_seq (W_ops [0, 1, 2, 6, 8, 30, 31, 32, 33] ?_)
  simp only [o27_6, WO_bin, bin_lss, WO_nil, PureK_some, geT_put, evO_tmp, keep_nil, keep_cons, keepK_eq, Nat.reduceEqDiff, ↓reduceIte, eq_self, e0, e1, e2, e6, e8, e30, e31, e32]
  clear e0 e1 e2 e6 e8 e30 e31 e32
  intro fr e0 e1 e2 e6 e8 e30 e31 e32 e33
  refine SeqK_n ?_
  refine W_while e33 (fun hlt => ?_) (fun hlt => ?_)
  · have hk1 : k < re.length := by omega
    obtain ⟨hq, hk2, hrw, hrl⟩ := hrow k hk1
    obtain ⟨c, B1, A1, r1⟩ := hv1.row hq
    rw [hrl] at r1
    refine W_seq (W_block ?_)
    refine W_seq (W_ops [0, 1, 2, 6, 8, 9, 10, 30, 31, 32] ?_)
    simp only [o27_7, WO_addrSl, WO_load, WO_move, WO_nil, PureK_some, geT_put, evO_tmp, keep_nil, keep_cons, keepK_eq, Nat.reduceEqDiff, ↓reduceIte, eq_self, e0, e1, e2, e6, e8, e30, e31, e32, B1, A1]
    clear e0 e1 e2 e6 e8 e30 e31 e32 e33
    intro fr e0 e1 e2 e6 e8 e9 e10 e30 e31 e32
    refine SeqK_n ?_
    have hd : decide (((k : Nat) : Int) = 0) = decide (k = 0) := decide_eq_decide.2 (by omega)
    refine W_seq (W_ops [0, 1, 2, 6, 8, 10, 30, 31, 32, 38] ?_)
    simp only [o27_8, WO_bin, WO_move, bin_eql, WO_nil, PureK_some, geT_put, evO_tmp, evO_const, keep_nil, keep_cons, keepK_eq, Nat.reduceEqDiff, ↓reduceIte, eq_self, e0, e1, e2, e6, e8, e9, e10, e30, e31, e32, hd]
    clear e0 e1 e2 e6 e8 e9 e10 e30 e31 e32
    intro fr e0 e1 e2 e6 e8 e10 e30 e31 e32 e38
    refine SeqK_n ?_
    by_cases h0 : k = 0
    · rw [decide_eq_true h0] at e38
      refine W_cond e38 (fun _ => ?_) (fun h => by cases h)
      refine W_ops [0, 1, 2, 6, 8, 30, 31, 32] ?_
      simp only [o27_9, WO_bu, WO_move, WO_nil, PureK_some, geT_put, evO_tmp, keep_nil, keep_cons, keepK_eq, List.map_cons, List.map_nil, Nat.reduceEqDiff, ↓reduceIte, eq_self, e0, e1, e2, e6, e10, e30, e31, e32, r1.len]
      clear e0 e1 e2 e6 e8 e10 e30 e31 e32 e38
      intro fr e0 e1 e2 e6 e8 e30 e31 e32
      refine BlkK_n (SeqK_n ?_)
      refine W_ops [0, 1, 2, 6, 8, 30, 31, 32] ?_
      simp only [o27_12, WO_bin, WO_move, bin_add, WO_nil, PureK_some, geT_put, evO_tmp, evO_const, keep_nil, keep_cons, keepK_eq, Nat.reduceEqDiff, ↓reduceIte, eq_self, e0, e1, e2, e6, e8, e30, e31, e32, wrap_i64 (n := (k : Int) + 1) (by omega) (by omega)]
      clear e0 e1 e2 e6 e8 e30 e31 e32
      intro fr e0 e1 e2 e6 e8 e30 e31 e32
      exact LoopK_n (m' := m - 1) (by omega) ⟨k + 1, by omega, rfl, e0, e1, e2, e6, by rw [e8, if_neg (by omega)], e30, e31, by rw [e32]; rfl⟩
    · rw [decide_eq_false h0] at e38
      rw [if_neg h0] at e8
      refine W_cond e38 (fun h => by cases h) (fun _ => ?_)
      refine W_seq (W_ops [0, 1, 2, 6, 8, 30, 31, 32, 44] ?_)
      simp only [o27_10, WO_bin, WO_bu, WO_move, bin_neq, WO_nil, PureK_some, geT_put, evO_tmp, keep_nil, keep_cons, keepK_eq, List.map_cons, List.map_nil, Nat.reduceEqDiff, ↓reduceIte, Bool.not_true, decide_true, eq_self, e0, e1, e2, e6, e8, e10, e30, e31, e32, r1.len]
      clear e0 e1 e2 e6 e8 e10 e30 e31 e32 e38
      intro fr e0 e1 e2 e6 e8 e30 e31 e32 e44
      refine SeqK_n ?_
      refine W_cond e44 (fun h => by cases h) (fun _ => W_skip (BlkK_n (SeqK_n ?_)))
      refine W_ops [0, 1, 2, 6, 8, 30, 31, 32] ?_
      simp only [o27_12, WO_bin, WO_move, bin_add, WO_nil, PureK_some, geT_put, evO_tmp, evO_const, keep_nil, keep_cons, keepK_eq, Nat.reduceEqDiff, ↓reduceIte, eq_self, e0, e1, e2, e6, e8, e30, e31, e32, wrap_i64 (n := (k : Int) + 1) (by omega) (by omega)]
      clear e0 e1 e2 e6 e8 e30 e31 e32 e44
      intro fr e0 e1 e2 e6 e8 e30 e31 e32
      exact LoopK_n (m' := m - 1) (by omega) ⟨k + 1, by omega, rfl, e0, e1, e2, e6, by rw [e8, if_neg (by omega)], e30, e31, by rw [e32]; rfl⟩
  · have hkk : k = re.length := by omega
    have e8' : geT fr 8 = .int .i64 (colsN re : Nat) := by
      rw [e8]
      split
      · rename_i h0
        have : re = [] := List.eq_nil_of_length_eq_zero (by omega)
        subst this; rfl
      · rfl
    clear e8
    have e8 := e8'
    clear e8'
    refine LoopK_x (BlkK_e (SeqK_n ?_))
    refine W_assoc ?_
    refine W_seq (W_ops [0, 1, 2, 6, 8, 50] ?_)
    simp only [o27_13, WO_bu, WO_call, WO_move, PureK_some, geT_put, evO_tmp, List.map_cons, List.map_nil, Nat.reduceEqDiff, ↓reduceIte, eq_self, e0, e8, hv1.len, hxl]
    refine CallK_of (run46 hX ho) ?_
    rintro _ _ ⟨rfl, rfl⟩
    simp only [WO_nil, geT_put, keep_nil, keep_cons, keepK_eq, Nat.reduceEqDiff, ↓reduceIte, eq_self, e0, e1, e2, e6, e8, hlg]
    clear e0 e1 e2 e6 e8 e30 e31 e32 e33
    intro fr e0 e1 e2 e6 e8 e50
    refine SeqK_n ?_
    refine W_seq (W_cond e50 (fun h => by cases h) (fun _ => W_skip (SeqK_n ?_)))
    refine W_seq (W_ops [0, 2, 6, 11] ?_)
    simp only [o27_15, WO_bu, WO_call, WO_move, PureK_some, geT_put, evO_tmp, List.map_cons, List.map_nil, Nat.reduceEqDiff, ↓reduceIte, eq_self, e0, e1, e2, e8, hv1.len, hxl]
    refine CallK_of (run47 hX ho (by omega) (by omega)) ?_
    rintro rv s2 ⟨t1, hs2, hn2⟩
    simp only [WO_bu, WO_call, WO_move, PureK_some, geT_put, evO_tmp, List.map_cons, List.map_nil, Nat.reduceEqDiff, ↓reduceIte, eq_self, e0, e8, hv1.len, hxl]
    refine CallK_of (run47 hX ho (by omega) (by omega)) ?_
    rintro iv s3 ⟨t2, hs3, hn3⟩
    have t1' := t1.same hs3 (fun h => h) (fun h => h)
    have hrv : rv = .slice (some ⟨s1.nxt + 1, 0, none⟩) re.length re.length := t1.v
    have hiv : iv = .slice (some ⟨s2.nxt + 1, 0, none⟩) re.length re.length := t2.v
    subst hrv hiv
    have H3 := (H1.keep hs2).keep hs3
    have hbu : buildV [.float .f64 0, .float .f64 0, .slice none 0 0, .slice none 0 0] [(0, 1, .float .f64 T), (1, 1, .float .f64 U), (2, 1, .slice (some ⟨s1.nxt + 1, 0, none⟩) re.length re.length), (3, 1, .slice (some ⟨s2.nxt + 1, 0, none⟩) re.length re.length)] =
        some (.agg #[.float .f64 T, .float .f64 U, .slice (some ⟨s1.nxt + 1, 0, none⟩) re.length re.length, .slice (some ⟨s2.nxt + 1, 0, none⟩) re.length re.length]) := rfl
    have H4 := H3.new [.float .f64 0, .float .f64 0, .slice none 0 0, .slice none 0 0]
    have st := store_all (n := 4) (vs := [.float .f64 T, .float .f64 U, .slice (some ⟨s1.nxt + 1, 0, none⟩) re.length re.length, .slice (some ⟨s2.nxt + 1, 0, none⟩) re.length re.length]) (H4.cell (List.mem_cons_self ..)) rfl rfl rfl
    simp only [List.toArray] at st
    simp only [WO_alloc, WO_build, WO_store, WO_nil, PureK_some, MemK_some, geT_put, puT_none, evO_tmp, keep_nil, keep_cons, keepK_eq, List.map_cons, List.map_nil, Nat.reduceEqDiff, ↓reduceIte, eq_self, e0, e2, e6, hbu, st]
    clear e0 e1 e2 e6 e8 e50
    intro fr e0 e2 e6 e11
    refine SeqK_n ?_
    -- the memory as it is now
    obtain ⟨s4, hs4d⟩ : ∃ s4, s4 = setBlk (newAt s3 (.cells [.float .f64 0, .float .f64 0, .slice none 0 0, .slice none 0 0] false)) s3.nxt (.cells [.float .f64 T, .float .f64 U, .slice (some ⟨s1.nxt + 1, 0, none⟩) re.length re.length, .slice (some ⟨s2.nxt + 1, 0, none⟩) re.length re.length] false) := ⟨_, rfl⟩
    rw [← hs4d]
    have hs34 : Same s3 s4 (fun _ => False) := by
      rw [hs4d]
      exact (Same.new (F := fun _ => False)).trans (.set (F := (· = s3.nxt)) rfl) (fun _ _ h => h) (fun B hB h => by omega)
    have g4 : Store.get s4.h s3.nxt = some (.cells [.float .f64 T, .float .f64 U, .slice (some ⟨s1.nxt + 1, 0, none⟩) re.length re.length, .slice (some ⟨s2.nxt + 1, 0, none⟩) re.length re.length] false) := by rw [hs4d, get_set, if_pos rfl]
    have g6 : Store.get s4.h s.nxt = some (.cells [.float .f64 0, .float .f64 0, .slice none 0 0, .slice none 0 0] false) := by
      have hlt6 : s.nxt < s3.nxt := by obtain ⟨K, ⟨_, b, rfl⟩, _⟩ := H3.mem (List.mem_cons_self ..); exact b
      rw [hs34.get _ hlt6 (fun h => h)]
      exact H3.cell (List.mem_cons_self ..)
    have hn4 : s4.nxt = s3.nxt + 1 := by rw [hs4d]; rfl
    have hlt1 : s.nxt < s1.nxt := by obtain ⟨K, ⟨_, b, rfl⟩, _⟩ := H1.mem (List.mem_cons_self ..); exact b
    have w1 := t1'.same hs34 (fun h => h) (fun h => h)
    have w2 := t2.same hs34 (fun h => h) (fun h => h)
    have hsame : Same s s4 (fun _ => False) := H3.same.trans hs34 (fun _ _ h => h) (fun _ _ h => h)
    have hfl : re.flatten.length = re.length * colsN re := flat_len re hcr
    have hfl2 : im.flatten.length = re.length * colsN re := by rw [flat_len im hci, hl]
    have z1 : List.replicate (re.length * colsN re) (0 : Int) = rowPre re.flatten (0 * colsN re) := by simp [rowPre, hfl]
    have z2 : List.replicate (re.length * colsN re) (0 : Int) = rowPre im.flatten (0 * colsN re) := by simp [rowPre, hfl2]
    rw [z1] at w1
    rw [z2] at w2
    have hv4 := hv.same hsame
    clear hs4d st H4 hbu z1 z2 t1 t2 t1' H3
    refine W_assoc ?_
    refine W_seq (W_ops [2, 6, 11, 63, 64, 65] ?_)
    simp only [o27_16, WO_bu, WO_move, WO_nil, PureK_some, geT_put, evO_tmp, evO_const, keep_nil, keep_cons, keepK_eq, List.map_cons, List.map_nil, Nat.reduceEqDiff, ↓reduceIte, eq_self, e0, e2, e6, e11, hv4.len, hxl]
    clear e0 e2 e6 e11
    intro fr e2 e6 e11 e63 e64 e65
    refine SeqK_n ?_
    refine W_seq (W_block (W_loop (fun m fr s5 => ∃ p, p + m = re.length ∧ geT fr 2 = .float .f64 U ∧ geT fr 6 = .pointer (some ⟨s.nxt, 0, none⟩) ∧ geT fr 11 = .pointer (some ⟨s3.nxt, 0, none⟩) ∧ geT fr 63 = v ∧ geT fr 64 = .int .i64 (re.length : Nat) ∧ geT fr 65 = .int .i64 (p : Nat) ∧
      Store.get s5.h s3.nxt = some (.cells [.float .f64 T, .float .f64 U, .slice (some ⟨s1.nxt + 1, 0, none⟩) re.length re.length, .slice (some ⟨s2.nxt + 1, 0, none⟩) re.length re.length] false) ∧ Store.get s5.h s.nxt = some (.cells [.float .f64 0, .float .f64 0, .slice none 0 0, .slice none 0 0] false) ∧
      TabW s5 (.slice (some ⟨s1.nxt + 1, 0, none⟩) re.length re.length) s1.nxt (s1.nxt + 1) re.length (colsN re) (rowPre re.flatten (p * colsN re)) ∧ TabW s5 (.slice (some ⟨s2.nxt + 1, 0, none⟩) re.length re.length) s2.nxt (s2.nxt + 1) re.length (colsN re) (rowPre im.flatten (p * colsN re)) ∧ Same s s5 (fun _ => False) ∧ s5.nxt = s3.nxt + 1) re.length
      ⟨0, by omega, e2, e6, e11, e63, e64, e65, g4, g6, w1, w2, hsame, hn4⟩ ?_))
    clear e2 e6 e11 e63 e64 e65 fr g4 g6 w1 w2 hsame hn4 hs34 hv4 s4 hkk hk hlt
    rintro m fr s5 ⟨p, hm, e2, e6, e11, e63, e64, e65, g4, g6, w1, w2, hsame, hn4⟩
    refine W_seq (W_ops [2, 6, 11, 63, 64, 65, 66] ?_)
    simp only [o27_18, WO_bin, bin_lss, WO_nil, PureK_some, geT_put, evO_tmp, keep_nil, keep_cons, keepK_eq, Nat.reduceEqDiff, ↓reduceIte, eq_self, e2, e6, e11, e63, e64, e65]
    clear e2 e6 e11 e63 e64 e65
    intro fr e2 e6 e11 e63 e64 e65 e66
    refine SeqK_n ?_
    refine W_while e66 (fun hlt => ?_) (fun hlt => ?_)
    · have hp : p < re.length := by omega
      obtain ⟨hq, hp2, hrw, hrl⟩ := hrow p hp
      obtain ⟨c, B1, A1, r1⟩ := (hv.same hsame).row hq
      have hlk : re[p].length = colsN re := hcr _ (by simp)
      have hlk' : im[p].length = colsN re := hci _ (by simp)
      have hmul : p * colsN re + colsN re ≤ re.length * colsN re := by rw [← Nat.succ_mul]; exact Nat.mul_le_mul_right _ hp
      refine W_seq (W_block ?_)
      refine W_seq (W_ops [2, 6, 11, 12, 13, 63, 64, 65] ?_)
      simp only [o27_19, WO_addrSl, WO_load, WO_move, WO_nil, PureK_some, geT_put, evO_tmp, keep_nil, keep_cons, keepK_eq, Nat.reduceEqDiff, ↓reduceIte, eq_self, e2, e6, e11, e63, e64, e65, B1, A1]
      clear e2 e6 e11 e63 e64 e65 e66
      intro fr e2 e6 e11 e12 e13 e63 e64 e65
      refine SeqK_n ?_
      rw [hrl] at r1
      refine W_seq (W_ops [2, 6, 11, 12, 63, 64, 65, 70, 71, 72] ?_)
      simp only [o27_20, WO_bu, WO_move, WO_nil, PureK_some, geT_put, evO_tmp, evO_const, keep_nil, keep_cons, keepK_eq, List.map_cons, List.map_nil, Nat.reduceEqDiff, ↓reduceIte, eq_self, e2, e6, e11, e12, e13, e63, e64, e65, r1.len]
      clear e2 e6 e11 e12 e13 e63 e64 e65
      intro fr e2 e6 e11 e12 e63 e64 e65 e70 e71 e72
      refine SeqK_n ?_
      refine W_block (W_loop (fun m2 fr s6 => ∃ g, g + m2 = colsN re ∧ geT fr 2 = .float .f64 U ∧ geT fr 6 = .pointer (some ⟨s.nxt, 0, none⟩) ∧ geT fr 11 = .pointer (some ⟨s3.nxt, 0, none⟩) ∧ geT fr 12 = .int .i64 (p : Nat) ∧ geT fr 63 = v ∧ geT fr 64 = .int .i64 (re.length : Nat) ∧ geT fr 65 = .int .i64 (p : Nat) ∧ geT fr 70 = c ∧ geT fr 71 = .int .i64 (colsN re : Nat) ∧ geT fr 72 = .int .i64 (g : Nat) ∧
        Store.get s6.h s3.nxt = some (.cells [.float .f64 T, .float .f64 U, .slice (some ⟨s1.nxt + 1, 0, none⟩) re.length re.length, .slice (some ⟨s2.nxt + 1, 0, none⟩) re.length re.length] false) ∧ Store.get s6.h s.nxt = some (.cells [.float .f64 0, .float .f64 0, .slice none 0 0, .slice none 0 0] false) ∧
        TabW s6 (.slice (some ⟨s1.nxt + 1, 0, none⟩) re.length re.length) s1.nxt (s1.nxt + 1) re.length (colsN re) (rowPre re.flatten (p * colsN re + g)) ∧ TabW s6 (.slice (some ⟨s2.nxt + 1, 0, none⟩) re.length re.length) s2.nxt (s2.nxt + 1) re.length (colsN re) (rowPre im.flatten (p * colsN re + g)) ∧ Same s5 s6 (fun x => x = s1.nxt ∨ x = s2.nxt) ∧ Same s s6 (fun _ => False) ∧ s6.nxt = s3.nxt + 1) (colsN re)
        ⟨0, by omega, e2, e6, e11, e12, e63, e64, e65, e70, e71, e72, g4, g6, w1, w2, .refl _ _, hsame, hn4⟩ ?_)
      clear e2 e6 e11 e12 e63 e64 e65 e70 e71 e72 fr g4 g6 w1 w2 hn4
      rintro m2 fr s6 ⟨g, hm2, e2, e6, e11, e12, e63, e64, e65, e70, e71, e72, g4, g6, w1, w2, hs56, hsm6, hn4⟩
      refine W_seq (W_ops [2, 6, 11, 12, 63, 64, 65, 70, 71, 72, 73] ?_)
      simp only [o27_22, WO_bin, bin_lss, WO_nil, PureK_some, geT_put, evO_tmp, keep_nil, keep_cons, keepK_eq, Nat.reduceEqDiff, ↓reduceIte, eq_self, e2, e6, e11, e12, e63, e64, e65, e70, e71, e72]
      clear e2 e6 e11 e12 e63 e64 e65 e70 e71 e72
      intro fr e2 e6 e11 e12 e63 e64 e65 e70 e71 e72 e73
      refine SeqK_n ?_
      refine W_while e73 (fun hlt2 => ?_) (fun hlt2 => ?_)
      · have hg : g < colsN re := by omega
        have hg3 : g < re[p].length := by omega
        have hg4 : g < im[p].length := by omega
        have hg5 : g < ((rowsX U re im)[p]).length := by omega
        have hcell : ((rowsX U re im)[p])[g] = (fmul .f64 (FloatKind.f64.nearest re[p][g]) U, fmul .f64 (FloatKind.f64.nearest im[p][g]) U) := by
          have e : ((rowsX U re im)[p])[g]? = (rowX U re[p] im[p])[g]? := congrArg (fun l => l[g]?) hrw
          rw [List.getElem?_eq_getElem hg5, rowX, List.getElem?_zipWith, List.getElem?_eq_getElem hg3, List.getElem?_eq_getElem hg4] at e
          exact Option.some.inj e
        obtain ⟨cx, rx1, rx2, rx3⟩ := (hv.same hsm6).row hq
        have hcx : cx = c := by
          have a := (hv.same hsame).row hq
          have := (hv.same hsm6)
          have k1 : loadV s6 none (elP v p) = loadV s5 none (elP v p) := by
            obtain ⟨cc, sl, _⟩ := hv
            have q1 := (sl.same hsm6 (fun _ _ h => h))
            have q2 := (sl.same hsame (fun _ _ h => h))
            have hcl : p < cc.length := by have := sl.length; omega
            rw [q1.load (List.getElem?_eq_getElem hcl), q2.load (List.getElem?_eq_getElem hcl)]
          rw [rx2, A1] at k1
          exact Option.some.inj k1
        rw [hcx] at rx3
        have A2 : loadV s6 none (elP c g) = some (.complex .f64 (fmul .f64 (FloatKind.f64.nearest re[p][g]) U) (fmul .f64 (FloatKind.f64.nearest im[p][g]) U)) := by
          refine rx3.load ?_
          rw [flat_eX, List.getElem?_map, List.getElem?_eq_getElem hg5, hcell]; rfl
        have B2 := r1.addr (kk := .i64) (i := (g : Int)) rfl hg
        rw [Nat.mul_one] at B2
        have hix : p * colsN re + g < re.flatten.length := by omega
        have hix2 : p * colsN re + g < im.flatten.length := by omega
        have fa := flat_at re hcr p g hp hg
        have fb := flat_at im hci p g hp2 hg
        rw [List.getElem?_eq_getElem hix, List.getElem?_eq_getElem hg3] at fa
        rw [List.getElem?_eq_getElem hix2, List.getElem?_eq_getElem hg4] at fb
        obtain ⟨s7, st7, w17, hs67⟩ := w1.set hp hg re[p][g]
        rw [← Option.some.inj fa, rowPre_set hix] at w17
        have hne12 : s2.nxt = s1.nxt + 2 := hn2
        have w27 := w2.same hs67 (fun h => by omega) (fun h => by omega)
        obtain ⟨s8, st8, w28, hs78⟩ := w27.set hp hg im[p][g]
        rw [← Option.some.inj fb, rowPre_set hix2] at w28
        have w18 := w17.same hs78 (fun h => by omega) (fun h => by omega)
        have tr1 : loadV s6 none (elP (.slice (some ⟨s1.nxt + 1, 0, none⟩) re.length re.length) p) = some (rowSl s1.nxt (colsN re) p) := by
          rw [elP, add_none', load_g w1.out, Nat.zero_add, List.getElem?_map, List.getElem?_range hp]; rfl
        have tr2 : loadV s6 none (elP (.slice (some ⟨s2.nxt + 1, 0, none⟩) re.length re.length) p) = some (rowSl s2.nxt (colsN re) p) := by
          rw [elP, add_none', load_g w2.out, Nat.zero_add, List.getElem?_map, List.getElem?_range hp]; rfl
        have ad1 : ∀ O, addrSlV 1 (.slice (some ⟨O, 0, none⟩) re.length re.length) (.int .i64 (p : Nat)) = some (elP (.slice (some ⟨O, 0, none⟩) re.length re.length) p) := fun O => by
          have : (0 : Int) ≤ (p : Int) ∧ (p : Int) < (re.length : Int) := ⟨by omega, by omega⟩
          simp only [addrSlV, idxV, if_pos this, elP, Nat.mul_one, Int.toNat_natCast]
        have ad2 : ∀ A, addrSlV 1 (rowSl A (colsN re) p) (.int .i64 (g : Nat)) = some (elP (rowSl A (colsN re) p) g) := fun A => by
          have : (0 : Int) ≤ (g : Int) ∧ (g : Int) < (colsN re : Int) := ⟨by omega, by omega⟩
          simp only [rowSl, addrSlV, idxV, if_pos this, elP, Nat.mul_one, Int.toNat_natCast]
        have so : ∀ A, sameO (some (rowSl A (colsN re) p)) (rowSl A (colsN re) p) = true := fun A => sameO_sl
        have L2 := load_g (o := 2) g4
        have L3 := load_g (o := 3) g4
        simp only [List.getElem?_cons_zero, List.getElem?_cons_succ] at L2 L3
        have hs := fun s0 => hsm p g re[p][g] im[p][g] re[p] im[p] (by simp [hp]) (by simp [hp2]) (by simp [hg3]) (by simp [hg4]) s0
        refine W_seq (W_block ?_)
        refine W_seq (W_ops [2, 6, 11, 12, 14, 15, 63, 64, 65, 70, 71, 72] ?_)
        simp only [o27_23, WO_addrSl, WO_load, WO_move, WO_nil, PureK_some, geT_put, evO_tmp, keep_nil, keep_cons, keepK_eq, Nat.reduceEqDiff, ↓reduceIte, eq_self, e2, e6, e11, e12, e63, e64, e65, e70, e71, e72, B2, A2]
        clear e2 e6 e11 e12 e63 e64 e65 e70 e71 e72 e73
        intro fr e2 e6 e11 e12 e14 e15 e63 e64 e65 e70 e71 e72
        refine SeqK_n ?_
        refine W_draw0 [2, 6, 11, 12, 63, 64, 65, 70, 71, 72] rfl ?_
        simp only [d27_24, WD_addrSl, WD_bin, WD_bu, bu_real, WD_call, WD_fieldAddr, fieldAddr_p, WD_load, WD_move, binf_quo, DPureK_some, DReadK_some, pastR_nil, joinF_nil, setH_self, geT_put, evO_tmp, List.map_cons, List.map_nil, Nat.reduceEqDiff, Nat.reduceAdd, ↓reduceIte, eq_self, true_and, Nat.zero_add, e2, e11, e12, e14, e15, L2, L3, ad1, tr1, tr2]
        refine DCallK_of rfl (hs _).1 ?_
        rintro _ _ ⟨rfl, rfl⟩
        simp only [WD_bin, WD_bu, bu_imag, WD_call, WD_move, binf_quo, DPureK_some, joinF_nil, setH_self, Nat.testBit, Nat.reduceShiftRight, Nat.reduceAnd, List.all_nil, List.all_cons, List.filter_nil, List.filter_cons, sameO_sl, bne_self_eq_false, geT_put, evO_tmp, List.map_cons, List.map_nil, Nat.reduceEqDiff, Nat.reduceAdd, ↓reduceIte, Bool.not_false, Bool.and_true, Bool.or_true, eq_self, true_and, e2, e15, L2, L3, tr1, tr2, so]
        refine DCallK_of rfl (hs _).2 ?_
        rintro _ _ ⟨rfl, rfl⟩
        simp only [WD_addrSl, WD_store, WD_nil, DPureK_some, DActK_some, preHead_cons, joinF_nil, joinAll_nil, setH_self, Nat.testBit, Nat.reduceShiftRight, Nat.reduceAnd, Nat.reduceBneDiff, List.all_nil, List.all_cons, List.filter_nil, List.filter_cons, sameO_sl, bne_self_eq_false, geT_put, puT_none, evO_tmp, keep_nil, keep_cons, keepK_eq, Nat.reduceEqDiff, Nat.reduceAdd, ↓reduceIte, Bool.not_true, Bool.not_false, Bool.and_true, Bool.or_true, Bool.true_or, eq_self, Bool.false_eq_true, true_and, e2, e6, e11, e12, e63, e64, e65, e70, e71, e72, L2, L3, tr1, tr2, so, ad2, st7, st8]
        clear e2 e6 e11 e12 e14 e15 e63 e64 e65 e70 e71 e72
        intro fr e2 e6 e11 e12 e63 e64 e65 e70 e71 e72
        refine BlkK_n (SeqK_n ?_)
        refine W_ops [2, 6, 11, 12, 63, 64, 65, 70, 71, 72] ?_
        simp only [o27_25, WO_bin, WO_move, bin_add, WO_nil, PureK_some, geT_put, evO_tmp, evO_const, keep_nil, keep_cons, keepK_eq, Nat.reduceEqDiff, ↓reduceIte, eq_self, e2, e6, e11, e12, e63, e64, e65, e70, e71, e72, wrap_i64 (n := (g : Int) + 1) (by omega) (by omega)]
        clear e2 e6 e11 e12 e63 e64 e65 e70 e71 e72
        intro fr e2 e6 e11 e12 e63 e64 e65 e70 e71 e72
        have hs68 : Same s6 s8 (fun x => x = s1.nxt ∨ x = s2.nxt) := hs67.trans hs78 (fun _ _ h => .inl h) (fun _ _ h => .inr h)
        have hn8 : s8.nxt = s3.nxt + 1 := by
          have a1 := w1.hA
          have e7 : s7.nxt = s6.nxt := by
            have := st7
            simp only [rowSl, elP, add_none'] at this
            rw [store_g w1.all rfl (by rw [List.length_map, w1.len]; omega)] at this
            simp only [Option.some.injEq, Prod.mk.injEq, true_and] at this
            rw [← this]; rfl
          have e8 : s8.nxt = s7.nxt := by
            have := st8
            simp only [rowSl, elP, add_none'] at this
            rw [store_g w27.all rfl (by rw [List.length_map, w27.len]; omega)] at this
            simp only [Option.some.injEq, Prod.mk.injEq, true_and] at this
            rw [← this]; rfl
          omega
        have n12 := hs2.nxt
        have n23 := hs3.nxt
        refine LoopK_n (m' := m2 - 1) (by omega) ⟨g + 1, by omega, e2, e6, e11, e12, e63, e64, e65, e70, e71, by rw [e72]; rfl, ?_, ?_, w18, w28, hs56.trans hs68 (fun _ _ h => h) (fun _ _ h => h), hsm6.trans hs68 (fun _ _ h => h) (fun B hB h => by omega), hn8⟩
        · rw [hs68.get _ (by omega) (fun h => by omega)]; exact g4
        · rw [hs68.get _ (by omega) (fun h => by omega)]; exact g6
      · have hgG : g = colsN re := by omega
        have e1 : p * colsN re + g = (p + 1) * colsN re := by rw [hgG, Nat.add_mul, Nat.one_mul]
        rw [e1] at w1 w2
        refine LoopK_x (BlkK_e (BlkK_n (SeqK_n ?_)))
        refine W_ops [2, 6, 11, 63, 64, 65] ?_
        simp only [o27_26, WO_bin, WO_move, bin_add, WO_nil, PureK_some, geT_put, evO_tmp, evO_const, keep_nil, keep_cons, keepK_eq, Nat.reduceEqDiff, ↓reduceIte, eq_self, e2, e6, e11, e63, e64, e65, wrap_i64 (n := (p : Int) + 1) (by omega) (by omega)]
        clear e2 e6 e11 e12 e63 e64 e65 e70 e71 e72 e73
        intro fr e2 e6 e11 e63 e64 e65
        exact LoopK_n (m' := m - 1) (by omega) ⟨p + 1, by omega, e2, e6, e11, e63, e64, by rw [e65]; rfl, g4, g6, w1, w2, hsm6, hn4⟩
    · have hpR : p = re.length := by omega
      have r1 : rowPre re.flatten (p * colsN re) = re.flatten := by rw [hpR, ← hfl]; exact rowPre_all
      have r2 : rowPre im.flatten (p * colsN re) = im.flatten := by rw [hpR, ← hfl2]; exact rowPre_all
      rw [r1] at w1
      rw [r2] at w2
      refine LoopK_x (BlkK_e (SeqK_n ?_))
      have ld := loadn_all (n := 4) g4 rfl
      have st := store_all (n := 4) (vs := [.float .f64 T, .float .f64 U, .slice (some ⟨s1.nxt + 1, 0, none⟩) re.length re.length, .slice (some ⟨s2.nxt + 1, 0, none⟩) re.length re.length]) g6 rfl rfl rfl
      refine W_seq (W_ops [6, 7] ?_)
      simp only [o27_27, WO_load, WO_move, WO_store, WO_nil, PureK_some, MemK_some, geT_put, puT_none, evO_tmp, evO_const, keep_nil, keep_cons, keepK_eq, Nat.reduceEqDiff, ↓reduceIte, eq_self, e6, e11, ld, st]
      clear e2 e6 e11 e63 e64 e65 e66
      intro fr e6 e7
      refine SeqK_n ?_
      have hss : Same s5 (setBlk s5 s.nxt (.cells [.float .f64 T, .float .f64 U, .slice (some ⟨s1.nxt + 1, 0, none⟩) re.length re.length, .slice (some ⟨s2.nxt + 1, 0, none⟩) re.length re.length] false)) (· = s.nxt) := .set rfl
      have n12 := hs2.nxt
      have x1 := w1.same hss (fun h => by omega) (fun h => by omega)
      have x2 := w2.same hss (fun h => by omega) (fun h => by omega)
      refine W_ret (RetC2 e6 (loadn_all (n := 4) (by rw [get_set, if_pos rfl]) rfl) e7 ⟨_, _, rfl, rfl, rfl, x1.tabC rfl hcr, ?_, hsame.trans hss (fun _ _ h => h) (fun B hB h => by omega)⟩)
      exact x2.tabC hl hci

end Go.Proofs.Ytkfcejhebepdkaa

/- The law that what was recorded, played and recorded again is the same: its run. -/
namespace Go.Proofs.Ytkfcejhebepdkaa
open Go Go.Vam

theorem sv_lo : sv 2355382605114769408 = twoP 574 := sv_one (q := 522)
theorem sv_hi : sv 6858982232485265408 = twoP 1574 := sv_one (q := 1522)

theorem within_w {U : Nat} (hU : U < 18446744073709551616) (hf : okU U = true) (h : ((ford .f64 U 2355382605114769408 == some .gt || ford .f64 U 2355382605114769408 == some .eq) && (ford .f64 U 6858982232485265408 == some .lt || ford .f64 U 6858982232485265408 == some .eq)) = true) :
    ∃ u, U = Ieee.double.word false u ∧ twoP 574 ≤ sv u ∧ sv u ≤ twoP 1574 := by
  unfold okU at hf
  simp only [Bool.and_eq_true] at hf
  obtain ⟨s, r, rfl, hr⟩ := fin_word hU hf.1
  obtain ⟨C1, c1, i1, v1⟩ : ∃ C, 2355382605114769408 = Ieee.double.word false C ∧ C < infR ∧ sv C = twoP 574 := ⟨2355382605114769408, rfl, by decide, sv_lo⟩
  obtain ⟨C2, c2, i2, v2⟩ : ∃ C, 6858982232485265408 = Ieee.double.word false C ∧ C < infR ∧ sv C = twoP 1574 := ⟨6858982232485265408, rfl, by decide, sv_hi⟩
  have h0 : (0 : Nat) = Ieee.double.word false 0 := rfl
  have hpos := hf.2
  rw [h0, fgt_w hr (by decide)] at hpos
  rw [c1, fge_w hr i1, c2, fle_w hr i2] at h
  simp only [Bool.and_eq_true, decide_eq_true_eq] at h hpos
  cases s with
  | true =>
    exfalso
    simp only [sw, sv_zero, if_true, Bool.false_eq_true, if_false] at hpos
    omega
  | false =>
    refine ⟨r, rfl, ?_, ?_⟩
    · rw [← v1]; have := h.1; simp only [sw, Bool.false_eq_true, if_false] at this; clear v1 v2; omega
    · rw [← v2]; have := h.2; simp only [sw, Bool.false_eq_true, if_false] at this; clear v1 v2; omega


set_option maxHeartbeats 1000000 in
theorem run7 {X : Ctx} (hX : X.fns = fnsOf Try.prog) (ho : ∀ f args, f ≠ 9 → X.orc f args = none) (hw : X.orc 9 [] = some (.bool true)) {s : Mm} {rv iv : Value} {T U : Nat} {re im : List (List Int)} (hr : TabC s rv re) (hi : TabC s iv im) (hlr : re.length ≤ 9223372036854775807) (hli : im.length ≤ 9223372036854775807) (hn1 : ∀ r ∈ re, r.length ≤ 9223372036854775807) (hn2 : ∀ r ∈ im, r.length ≤ 9223372036854775807)
    (hU : U < 18446744073709551616) (b1 : i16R re) (b2 : i16R im) :
    CallP X 7 [.agg #[.float .f64 T, .float .f64 U, rv, iv]] s (fun r _ => r = .bool true) := by
  refine CallP_of (hX ▸ ir7_eq) (ho _ _ (by decide)) (Nat.le_of_ble_eq_true rfl) ?_
  have hbx : (Value.agg #[.float .f64 T, .float .f64 U, rv, iv]).cells.toList = [.float .f64 T, .float .f64 U, rv, iv] := rfl
  refine W_seq (W_ops [1] ?_)
  simp only [o7_0, WO_box, WO_move, WO_nil, geT_put, frame_nil, frame_cons, evO_tmp, evO_const, keep_nil, keep_cons, keepK_eq, Nat.reduceEqDiff, ↓reduceIte, eq_self, Nat.zero_add, hbx]
  intro fr e1
  refine SeqK_n ?_
  have H1 := (Hold.refl s).new [.float .f64 T, .float .f64 U, rv, iv]
  generalize newAt s (.cells [.float .f64 T, .float .f64 U, rv, iv] false) = s1 at H1 ⊢
  refine W_seq (W_ops [1, 3, 4] ?_)
  simp only [o7_1, WO_call, WO_load, PureK_some, geT_put, evO_tmp, List.map_cons, List.map_nil, ↓reduceIte, eq_self, e1, loadn_all (n := 4) (H1.cell (List.mem_cons_self ..)) rfl]
  refine CallK_of (do20 hX ho H1 (hr.same H1.same) (hi.same H1.same) (by omega)) ?_
  rintro _ s2 ⟨av, rfl, H2⟩
  simp only [WO_extract, ext_20, ext_21, WO_move, WO_nil, PureK_some, geT_put, evO_tmp, keep_nil, keep_cons, keepK_eq, Nat.reduceEqDiff, ↓reduceIte, eq_self, e1]
  clear e1
  intro fr e1 e3 e4
  refine SeqK_n ?_
  have c2 := H2.cell (List.mem_cons_of_mem _ (List.mem_cons_self ..))
  have L0 := load_g (o := 0) c2
  have L1 := load_g (o := 1) c2
  simp only [List.getElem?_cons_zero, List.getElem?_cons_succ] at L0 L1
  refine W_assoc ?_
  by_cases hc : chkE T U re im = 0
  · rw [hc, nat_0] at e4
    obtain ⟨hfT, hfU, hok, hlg⟩ := chk_spec hc
    refine W_seq (W_ops [1, 3, 19] ?_)
    simp only [o7_2, WO_bin, WO_call, WO_fieldAddr, fieldAddr_p, WO_load, WO_move, bin_neq, PureK_some, WO_guard, want_v, wantB_f, geT_put, evO_tmp, evO_const, List.map_cons, List.map_nil, Nat.reduceEqDiff, ↓reduceIte, Bool.not_true, Bool.not_false, decide_true, eq_self, Nat.zero_add, e1, e4, L1]
    refine CallK_of (run26 hX ho) ?_
    rintro _ _ ⟨rfl, rfl⟩
    simp only [WO_pick, pick_b, WO_un, un_not, WO_nil, PureK_some, WO_guard, want_v, wantB_f, geT_put, evO_tmp, evO_const, keep_nil, keep_cons, keepK_eq, Nat.reduceEqDiff, ↓reduceIte, Bool.not_false, eq_self, Bool.false_eq_true, e1, e3]
    clear e1 e3 e4
    intro fr e1 e3 e19
    refine SeqK_n ?_
    cases hwi : ((ford .f64 U 2355382605114769408 == some .gt || ford .f64 U 2355382605114769408 == some .eq) && (ford .f64 U 6858982232485265408 == some .lt || ford .f64 U 6858982232485265408 == some .eq)) with
    | false =>
      rw [hwi] at e19
      refine W_seq (W_cond e19 (fun _ => ?_) (fun h => by cases h))
      refine W_seq (W_ops [2] ?_)
      simp only [o7_3, WO_call, List.map_nil]
      refine CallK_eq (Call_orc hw) ?_
      simp only [WO_move, WO_nil, geT_put, evO_tmp, keep_nil, keep_cons, keepK_eq, ↓reduceIte, eq_self]
      clear e1 e3 e19
      intro fr e2
      refine SeqK_n ?_
      exact W_ret (SeqK_r (Ret1 e2 rfl))
    | true =>
      rw [hwi] at e19
      refine W_seq (W_cond e19 (fun h => by cases h) (fun _ => W_skip (SeqK_n ?_)))
      obtain ⟨u, hUu, u1, u2⟩ := within_w hU hfU hwi
      have hRX : RX T U re im = rowsX U re im := by rw [RX, if_pos hc]
      rw [hRX] at H2
      have one : ∀ (a : Int), -32768 ≤ a → a ≤ 32767 → ∀ s0, CallP X 48 [.float .f64 (fdiv .f64 (fmul .f64 (FloatKind.f64.nearest a) U) U)] s0 (fun r s' => r = .int .i16 a ∧ s0 = s') := fun a h1 h2 s0 => by
        obtain ⟨sg, y, k1, k2, k3, k4⟩ := there_back (a := a) (by clear u1 u2; omega) u1 u2
        rw [hUu, k1]
        exact run48 hX ho k2 h1 h2 k3 k4
      have hsm : ∀ (p g : Nat) (a b : Int) (r i : List Int), re[p]? = some r → im[p]? = some i → r[g]? = some a → i[g]? = some b → ∀ s0, CallP X 48 [.float .f64 (fdiv .f64 (fmul .f64 (FloatKind.f64.nearest a) U) U)] s0 (fun r s' => r = .int .i16 a ∧ s0 = s') ∧ CallP X 48 [.float .f64 (fdiv .f64 (fmul .f64 (FloatKind.f64.nearest b) U) U)] s0 (fun r s' => r = .int .i16 b ∧ s0 = s') :=
        fun p g a b r i h1 h2 h3 h4 s0 => by
          have ra := b1 r (List.mem_of_getElem? h1) a (List.mem_of_getElem? h3)
          have rb := b2 i (List.mem_of_getElem? h2) b (List.mem_of_getElem? h4)
          exact ⟨one a ra.1 ra.2 s0, one b rb.1 rb.2 s0⟩
      refine W_seq (W_ops [1, 5, 6] ?_)
      simp only [o7_4, WO_call, WO_fieldAddr, fieldAddr_p, WO_load, WO_move, PureK_some, geT_put, evO_tmp, List.map_cons, List.map_nil, Nat.reduceEqDiff, ↓reduceIte, eq_self, Nat.zero_add, Nat.add_zero, e1, e3, L0, L1]
      refine CallK_of (run27 hX ho (H2.tab (List.mem_cons_self ..)) hc hsm) ?_
      rintro _ s3 ⟨rv', iv', rfl, o1, o2, t1, t2, hs3⟩
      have H3 := H2.keep hs3
      have H4 := H3.new [.float .f64 0, .float .f64 0, .slice none 0 0, .slice none 0 0]
      have st := store_all (n := 4) (vs := [.float .f64 T, .float .f64 U, rv', iv']) (H4.cell (List.mem_cons_self ..)) rfl rfl (by simp only [List.all_cons, o1, o2, List.all_nil, Bool.and_true]; rfl)
      simp only [List.toArray] at st
      have H5 := H4.setc (cs' := [.float .f64 T, .float .f64 U, rv', iv'])
      simp only [WO_alloc, WO_extract, ext_20, ext_21, WO_move, WO_store, WO_nil, PureK_some, MemK_some, geT_put, puT_none, evO_tmp, keep_nil, keep_cons, keepK_eq, Nat.reduceEqDiff, ↓reduceIte, eq_self, e1, st]
      clear e1 e3 e19
      intro fr e1 e5 e6
      refine SeqK_n ?_
      have hs35 : Same s3 (setBlk (newAt s3 (.cells [.float .f64 0, .float .f64 0, .slice none 0 0, .slice none 0 0] false)) s3.nxt (.cells [.float .f64 T, .float .f64 U, rv', iv'] false)) (fun _ => False) :=
        (Same.new (F := fun _ => False)).trans (.set (F := (· = s3.nxt)) rfl) (fun _ _ h => h) (fun B hB h => by omega)
      have t1' := t1.same hs35
      have t2' := t2.same hs35
      generalize setBlk (newAt s3 (.cells [.float .f64 0, .float .f64 0, .slice none 0 0, .slice none 0 0] false)) s3.nxt (.cells [.float .f64 T, .float .f64 U, rv', iv'] false) = s5 at H5 t1' t2' ⊢
      have k1 := loadn_all (n := 4) (H5.cell (List.mem_cons_self ..)) rfl
      have k2 := loadn_all (n := 4) (H5.cell (List.mem_cons_of_mem _ (List.mem_cons_of_mem _ (List.mem_cons_self ..)))) rfl
      refine W_seq (W_ops [2] ?_)
      simp only [o7_5, WO_bin, WO_call, WO_load, WO_move, bin_eql, PureK_some, WO_guard, want_v, wantB_t, geT_put, evO_tmp, evO_const, List.map_cons, List.map_nil, Nat.reduceEqDiff, ↓reduceIte, decide_true, eq_self, e1, e5, e6, k1, k2]
      refine CallK_of (run25_self hX ho (f := ⟨T, U, re, im⟩) t1' t2' (hr.same H5.same) (hi.same H5.same) (by show re.length ≤ _; omega) (by show im.length ≤ _; omega) (fun r h => by have := hn1 r h; omega) (fun r h => by have := hn2 r h; omega)) ?_
      rintro _ s6 ⟨rfl, -⟩
      simp only [WO_call, WO_move, WO_pick, pick_b, PureK_some, WO_guard, want_v, wantB_t, geT_put, evO_tmp, evO_const, List.map_nil, Nat.reduceEqDiff, ↓reduceIte, eq_self]
      refine CallK_eq (Call_orc hw) ?_
      simp only [WO_move, WO_pick, pick_b, WO_nil, PureK_some, geT_put, evO_tmp, evO_const, keep_nil, keep_cons, keepK_eq, Nat.reduceEqDiff, ↓reduceIte, eq_self]
      clear e1 e5 e6
      intro fr e2
      refine SeqK_n ?_
      exact W_ret (Ret1 e2 rfl)
  · have hd : decide (((chkE T U re im : Nat) : Int) = 0) = false := decide_eq_false (by omega)
    refine W_seq (W_ops [1, 3, 19] ?_)
    simp only [o7_2, WO_bin, WO_move, WO_pick, pick_b, bin_neq, WO_nil, PureK_some, WO_guard, want_v, wantB_f, geT_put, evO_tmp, evO_const, keep_nil, keep_cons, keepK_eq, Nat.reduceEqDiff, ↓reduceIte, Bool.not_true, Bool.not_false, eq_self, Bool.false_eq_true, e1, e3, e4, hd]
    clear e1 e3 e4
    intro fr e1 e3 e19
    refine SeqK_n ?_
    refine W_seq (W_cond e19 (fun _ => ?_) (fun h => by cases h))
    refine W_seq (W_ops [2] ?_)
    simp only [o7_3, WO_call, List.map_nil]
    refine CallK_eq (Call_orc hw) ?_
    simp only [WO_move, WO_nil, geT_put, evO_tmp, keep_nil, keep_cons, keepK_eq, ↓reduceIte, eq_self]
    clear e1 e3 e19
    intro fr e2
    refine SeqK_n ?_
    exact W_ret (SeqK_r (Ret1 e2 rfl))

set_option maxRecDepth 100000 in
theorem runTapeExact {T : Type} {s : Mm} {avs : List Value} {ds : List (DataW T)} (hs : Lt s) (h : AbsL Try.prog s [42] avs ds) : CallP ⟨orcW 9, fnsOf Try.prog⟩ 7 avs s (fun v _ => v = .bool true) := by
  obtain ⟨v0, vs, d0, ds, rfl, rfl, h0, h⟩ := AbsL.cons h
  obtain ⟨rfl, rfl⟩ := AbsL.nil h
  obtain ⟨T, U, rv, iv, re, im, rfl, hr, hi, l1, l2, hT, hU, b1, b2, l3, l4⟩ := frame_open hs h0
  exact run7 (X := ⟨orcW 9, fnsOf Try.prog⟩) rfl (fun f args hf => orcW_other hf args) (orcW_self 9) hr hi l1 l2 l3 l4 hU b1 b2

end Go.Proofs.Ytkfcejhebepdkaa
