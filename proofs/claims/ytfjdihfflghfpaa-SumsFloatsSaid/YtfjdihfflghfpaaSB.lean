/- Sorting, walked: by insertion; heaps. -/
import Derived.Test.YtfjdihfflghfpaaSA
namespace Go.Proofs.Ytfjdihfflghfpaa
open Go Go.Vam Go.Sort

theorem own_size {s0 s : Mm} {l : List HP} {v : Value} {n : Nat} {d : Array UInt64} (H : Hold s0 s (HP.own 1 v n (flA d) :: l)) : d.size = n := by
  have := (H.own (List.mem_cons_self ..)).length
  rw [flA_len] at this; omega

theorem ins_stop1 {lt : UInt64 → UInt64 → Bool} {a j : Nat} {d : Array UInt64} (h : ¬ a < j) : insInner lt a j d = d := by
  cases j with
  | zero => rfl
  | succ j => simp only [insInner]; rw [if_neg]; simp; omega
theorem ins_stop2 {lt : UInt64 → UInt64 → Bool} {a j : Nat} {d : Array UInt64} (h : lt d[j]! d[j - 1]! = false) : insInner lt a j d = d := by
  cases j with
  | zero => rfl
  | succ j => simp only [insInner]; rw [if_neg]; simp only [Nat.add_sub_cancel] at h; rw [h]; simp
theorem ins_go {lt : UInt64 → UInt64 → Bool} {a j : Nat} {d : Array UInt64} (h0 : a < j) (h : lt d[j]! d[j - 1]! = true) : insInner lt a j d = insInner lt a (j - 1) (swp d j (j - 1)) := by
  cases j with
  | zero => omega
  | succ j => simp only [insInner]; simp only [Nat.add_sub_cancel] at h ⊢; rw [if_pos]; rw [h]; simp; omega

theorem sift_stop {lt : UInt64 → UInt64 → Bool} {hi first root : Nat} {d : Array UInt64} (h : hi ≤ 2 * root + 1) : siftDown lt hi first root d = d := by
  rw [siftDown, dif_pos h]
theorem sift_go {lt : UInt64 → UInt64 → Bool} {hi first root c : Nat} {d : Array UInt64} (h : ¬ hi ≤ 2 * root + 1)
    (hc : (c = 2 * root + 2 ∧ 2 * root + 2 < hi ∧ lt d[first + (2 * root + 1)]! d[first + (2 * root + 2)]! = true) ∨ (c = 2 * root + 1 ∧ (2 * root + 2 < hi → lt d[first + (2 * root + 1)]! d[first + (2 * root + 2)]! = false))) :
    siftDown lt hi first root d = if lt d[first + root]! d[first + c]! = false then d else siftDown lt hi first c (swp d (first + root) (first + c)) := by
  rw [siftDown, dif_neg (by omega)]
  have e : first + (2 * root + 1) + 1 = first + (2 * root + 2) := by omega
  have e2 : 2 * root + 1 + 1 = 2 * root + 2 := by omega
  rw [e, e2]
  rcases hc with ⟨rfl, h1, h2⟩ | ⟨rfl, h1⟩
  · rw [if_pos (by rw [h2]; simp; omega), dif_pos h1]
    cases lt d[first + root]! d[first + (2 * root + 2)]! <;> simp
  · rw [if_neg (by
      intro hx
      rw [Bool.and_eq_true, decide_eq_true_eq] at hx
      rw [h1 hx.1] at hx; exact absurd hx.2 (by simp))]
    cases lt d[first + root]! d[first + (2 * root + 1)]! <;> simp


set_option maxHeartbeats 1000000 in
theorem run86 {X : Ctx} (hX : X.fns = fnsOf Try.prog) (ho : ∀ f args, f ≠ 10 ∧ f ≠ 24 → X.orc f args = none) {lt : UInt64 → UInt64 → Bool} {C : FuncId} (hc : ∀ (s : Mm) (x y : UInt64), CallP X C [.float .f64 x.toNat, .float .f64 y.toNat] s (fun r s' => ∃ z, r = .int .i64 z ∧ decide (z < 0) = lt x y ∧ s = s')) {s0 s : Mm} {l : List HP} {v : Value} {n a b : Nat} {d : Array UInt64} (H : Hold s0 s (HP.own 1 v n (flA d) :: l)) (hb : b ≤ n) (ha : a ≤ n) (hn2 : n ≤ 1152921504606846976) :
    CallP X 86 [v, .int .i64 (a : Nat), .int .i64 (b : Nat), cmpV C] s (fun _ s' => Hold s0 s' (HP.own 1 v n (flA (insertionSort lt d a b)) :: l)) := by
  have hcv : cmpV C = .func (.func C) #[] #[] := rfl
  refine CallP_of (hX ▸ ir86_eq) (ho _ _ (by decide)) (Nat.le_of_ble_eq_true rfl) ?_
  rw [hcv]
  refine W_seq (W_ops [0, 1, 2, 3, 8] ?_)
  simp only [o86_0, WO_bin, WO_move, bin_add, WO_nil, PureK_some, geT_put, frame_nil, frame_cons, evO_tmp, evO_const, keep_nil, keep_cons, keepK_eq, Nat.reduceEqDiff, Nat.reduceAdd, ↓reduceIte, eq_self, Nat.zero_add, wrap_i64 (n := (a : Int) + 1) (by omega) (by omega)]
  intro fr e0 e1 e2 e3 e8
  refine SeqK_n ?_
  obtain ⟨T, hT⟩ : ∃ T, T = insertionSort lt d a b := ⟨_, rfl⟩
  rw [← hT]
  have hT0 : insOuter lt a b (a + 1) d = T := hT.symm
  refine W_block (W_loop (fun m fr s1 => ∃ (i : Nat) (d' : Array UInt64), b - i ≤ m ∧ a < i ∧ i ≤ n + 1 ∧ insOuter lt a b i d' = T ∧ geT fr 0 = v ∧ geT fr 1 = .int .i64 (a : Nat) ∧ geT fr 2 = .int .i64 (b : Nat) ∧ geT fr 3 = .func (.func C) #[] #[] ∧ geT fr 8 = .int .i64 (i : Nat) ∧
    Hold s0 s1 (HP.own 1 v n (flA d') :: l)) b ⟨a + 1, d, by omega, by omega, by omega, hT0, e0, e1, e2, e3, by rw [e8]; rfl, H⟩ ?_)
  clear e0 e1 e2 e3 e8 fr H hT hT0
  rintro m fr s1 ⟨i, d1, hm, hi, hin, hT, e0, e1, e2, e3, e8, H⟩
  refine W_assoc ?_
  refine W_seq (W_ops [0, 1, 2, 3, 8, 14] ?_)
  simp only [o86_2, WO_bin, WO_move, bin_lss, WO_nil, PureK_some, geT_put, evO_tmp, keep_nil, keep_cons, keepK_eq, Nat.reduceEqDiff, ↓reduceIte, eq_self, e0, e1, e2, e3, e8]
  clear e0 e1 e2 e3 e8
  intro fr e0 e1 e2 e3 e8 e14
  refine SeqK_n ?_
  refine W_while e14 (fun hlt => ?_) (fun hlt => ?_)
  · have hib : i < b := by omega
    rw [insOuter, if_pos hib] at hT
    refine W_seq (W_block ?_)
    refine W_seq (W_ops [0, 1, 2, 3, 8, 9] ?_)
    simp only [o86_3, WO_move, WO_nil, geT_put, evO_tmp, keep_nil, keep_cons, keepK_eq, Nat.reduceEqDiff, ↓reduceIte, eq_self, e0, e1, e2, e3, e8]
    clear e0 e1 e2 e3 e8 e14
    intro fr e0 e1 e2 e3 e8 e9
    refine SeqK_n ?_
    refine W_block (W_loop (fun m fr s1 => ∃ (j : Nat) (d' : Array UInt64), j = m ∧ j ≤ i ∧ insInner lt a j d' = insInner lt a i d1 ∧ geT fr 0 = v ∧ geT fr 1 = .int .i64 (a : Nat) ∧ geT fr 2 = .int .i64 (b : Nat) ∧ geT fr 3 = .func (.func C) #[] #[] ∧ geT fr 8 = .int .i64 (i : Nat) ∧ geT fr 9 = .int .i64 (j : Nat) ∧
      Hold s0 s1 (HP.own 1 v n (flA d') :: l)) i ⟨i, d1, rfl, Nat.le_refl _, rfl, e0, e1, e2, e3, e8, e9, H⟩ ?_)
    clear e0 e1 e2 e3 e8 e9 fr H s1
    rintro m' fr s1 ⟨j, d2, hm', hj, hT2, e0, e1, e2, e3, e8, e9, H⟩
    have hds := own_size H
    refine W_assoc ?_
    by_cases hja : a < j
    · have j0 : ((j : Nat) : Int) - 1 = ((j - 1 : Nat) : Int) := by omega
      have wj := wrap_i64 (n := ((j - 1 : Nat) : Int)) (by omega) (by omega)
      obtain ⟨A1, L1⟩ := own_ld H hds (i := j) (by omega)
      obtain ⟨A2, L2⟩ := own_ld H hds (i := j - 1) (by omega)
      refine W_seq (W_draw0 [0, 1, 2, 3, 8, 9, 34] rfl ?_)
      simp only [d86_5, WD_addrSl, WD_bin, WD_load, WD_move, WD_callT, DFunK_0, bin_gtr, bin_sub, want_v, wantB_t, DPureK_some, DReadK_some, pastR_nil, joinF_nil, setH_self, geT_put, evO_tmp, evO_const, List.map_cons, List.map_nil, Nat.reduceEqDiff, Nat.reduceAdd, ↓reduceIte, eq_self, true_and, Nat.zero_add, e0, e1, e3, e9, WD_yes, decide_eq_true (show ((a : Nat) : Int) < ((j : Nat) : Int) by omega), A1, L1, j0, wj, A2, L2]
      refine DCallK_of rfl (hc _ _ _) ?_
      rintro _ _ ⟨z, rfl, hz, rfl⟩
      simp only [WD_bin, WD_pick, pick_b, bin_lss, want_v, wantB_t, WD_nil, DPureK_some, joinF_nil, joinAll_nil, setH_self, Nat.testBit, Nat.reduceShiftRight, Nat.reduceAnd, Nat.reduceBneDiff, List.all_nil, List.all_cons, List.filter_nil, List.filter_cons, geT_put, evO_tmp, evO_const, keep_nil, keep_cons, keepK_eq, Nat.reduceEqDiff, Nat.reduceAdd, ↓reduceIte, Bool.not_true, Bool.and_true, Bool.true_or, eq_self, Bool.false_eq_true, true_and, e0, e1, e2, e3, e8, e9, WD_yes]
      clear e0 e1 e2 e3 e8 e9
      intro fr e0 e1 e2 e3 e8 e9 e34
      refine SeqK_n ?_
      cases hl : lt d2[j]! d2[j - 1]! with
      | true =>
        rw [hl] at hz
        rw [hz] at e34
        rw [ins_go hja hl] at hT2
        refine W_seq (W_cond e34 (fun _ => W_skip (SeqK_n ?_)) (fun h => absurd h (by decide)))
        refine W_seq (W_block ?_)
        obtain ⟨s3, s4, st1, st2, H4⟩ := H.swp hds (i := j) (j := j - 1) (by omega) (by omega)
        refine W_draw0 [0, 1, 2, 3, 8, 9] rfl ?_
        simp only [d86_6, WD_addrSl, WD_bin, WD_load, WD_move, WD_store, bin_sub, WD_nil, DPureK_some, DReadK_some, DActK_some, pastR_nil, preHead_nil, preHead_cons, joinF_nil, joinAll_nil, setH_self, Nat.testBit, Nat.reduceShiftRight, Nat.reduceAnd, Nat.reduceBneDiff, List.all_nil, List.all_cons, List.filter_nil, List.filter_cons, geT_put, puT_none, evO_tmp, evO_const, keep_nil, keep_cons, keepK_eq, Nat.reduceEqDiff, Nat.reduceAdd, ↓reduceIte, Bool.not_true, Bool.and_true, Bool.true_or, eq_self, Bool.false_eq_true, true_and, Nat.zero_add, e0, e1, e2, e3, e8, e9, j0, wj, A1, A2, L1, L2, st1, st2]
        clear e0 e1 e2 e3 e8 e9
        intro fr e0 e1 e2 e3 e8 e9
        refine BlkK_n (SeqK_n ?_)
        refine W_ops [0, 1, 2, 3, 8, 9] ?_
        simp only [o86_7, WO_bin, WO_move, bin_sub, WO_nil, PureK_some, geT_put, evO_tmp, evO_const, keep_nil, keep_cons, keepK_eq, Nat.reduceEqDiff, ↓reduceIte, eq_self, e0, e1, e2, e3, e8, e9, j0, wj]
        clear e0 e1 e2 e3 e8 e9
        intro fr e0 e1 e2 e3 e8 e9
        exact LoopK_n (m' := j - 1) (by omega) ⟨j - 1, _, rfl, by omega, hT2, e0, e1, e2, e3, e8, e9, H4⟩
      | false =>
        rw [hl] at hz
        rw [hz] at e34
        rw [ins_stop2 hl] at hT2
        refine W_seq (W_cond e34 (fun h => absurd h (by decide)) (fun _ => W_exit (SeqK_x (LoopK_x (BlkK_e (BlkK_n (SeqK_n ?_)))))))
        refine W_ops [0, 1, 2, 3, 8] ?_
        simp only [o86_8, WO_bin, WO_move, bin_add, WO_nil, PureK_some, geT_put, evO_tmp, evO_const, keep_nil, keep_cons, keepK_eq, Nat.reduceEqDiff, ↓reduceIte, eq_self, e0, e1, e2, e3, e8, wrap_i64 (n := (i : Int) + 1) (by omega) (by omega)]
        clear e0 e1 e2 e3 e8
        intro fr e0 e1 e2 e3 e8
        rw [← hT2] at hT
        exact LoopK_n (m' := m - 1) (by omega) ⟨i + 1, d2, by omega, by omega, by omega, hT, e0, e1, e2, e3, by rw [e8]; rfl, H⟩
    · rw [ins_stop1 hja] at hT2
      refine W_seq (W_draw0 [0, 1, 2, 3, 8, 9, 34] rfl ?_)
      simp only [d86_5, WD_bin, WD_move, WD_pick, pick_b, bin_gtr, want_v, wantB_t, WD_nil, DPureK_some, DActK_some, preHead_nil, joinF_nil, joinAll_nil, setH_self, Nat.testBit, List.all_nil, List.filter_nil, geT_put, evO_tmp, evO_const, keep_nil, keep_cons, keepK_eq, Nat.reduceEqDiff, Nat.reduceAdd, ↓reduceIte, eq_self, Bool.false_eq_true, true_and, Nat.zero_add, e0, e1, e2, e3, e8, e9, WD_no_move, WD_no_bin, WD_no_addrSl, WD_no_load, WD_no_call, decide_eq_false (show ¬ ((a : Nat) : Int) < ((j : Nat) : Int) by omega)]
      clear e0 e1 e2 e3 e8 e9
      intro fr e0 e1 e2 e3 e8 e9 e34
      refine SeqK_n ?_
      refine W_seq (W_cond e34 (fun h => absurd h (by decide)) (fun _ => W_exit (SeqK_x (LoopK_x (BlkK_e (BlkK_n (SeqK_n ?_)))))))
      refine W_ops [0, 1, 2, 3, 8] ?_
      simp only [o86_8, WO_bin, WO_move, bin_add, WO_nil, PureK_some, geT_put, evO_tmp, evO_const, keep_nil, keep_cons, keepK_eq, Nat.reduceEqDiff, ↓reduceIte, eq_self, e0, e1, e2, e3, e8, wrap_i64 (n := (i : Int) + 1) (by omega) (by omega)]
      clear e0 e1 e2 e3 e8
      intro fr e0 e1 e2 e3 e8
      rw [← hT2] at hT
      exact LoopK_n (m' := m - 1) (by omega) ⟨i + 1, d2, by omega, by omega, by omega, hT, e0, e1, e2, e3, by rw [e8]; rfl, H⟩
  · rw [insOuter, if_neg (by omega)] at hT
    subst hT
    exact LoopK_x (BlkK_e (Ret0n H))

set_option maxHeartbeats 1000000 in
theorem run97 {X : Ctx} (hX : X.fns = fnsOf Try.prog) (ho : ∀ f args, f ≠ 10 ∧ f ≠ 24 → X.orc f args = none) {lt : UInt64 → UInt64 → Bool} {C : FuncId} (hc : ∀ (s : Mm) (x y : UInt64), CallP X C [.float .f64 x.toNat, .float .f64 y.toNat] s (fun r s' => ∃ z, r = .int .i64 z ∧ decide (z < 0) = lt x y ∧ s = s')) {s0 s : Mm} {l : List HP} {v : Value} {n lo hi first : Nat} {d : Array UInt64} (H : Hold s0 s (HP.own 1 v n (flA d) :: l)) (hf : first + hi ≤ n) (hlo : lo ≤ n) (hn2 : n ≤ 1152921504606846976) :
    CallP X 97 [v, .int .i64 (lo : Nat), .int .i64 (hi : Nat), .int .i64 (first : Nat), cmpV C] s (fun _ s' => Hold s0 s' (HP.own 1 v n (flA (siftDown lt hi first lo d)) :: l)) := by
  have hcv : cmpV C = .func (.func C) #[] #[] := rfl
  refine CallP_of (hX ▸ ir97_eq) (ho _ _ (by decide)) (Nat.le_of_ble_eq_true rfl) ?_
  rw [hcv]
  refine W_seq (W_ops [0, 2, 3, 4, 10] ?_)
  simp only [o97_0, WO_move, WO_nil, geT_put, frame_nil, frame_cons, evO_tmp, keep_nil, keep_cons, keepK_eq, Nat.reduceEqDiff, Nat.reduceAdd, ↓reduceIte, eq_self, Nat.zero_add]
  intro fr e0 e2 e3 e4 e10
  refine SeqK_n ?_
  obtain ⟨T, hT⟩ : ∃ T, siftDown lt hi first lo d = T := ⟨_, rfl⟩
  rw [hT]
  refine W_block (W_loop (fun m fr s1 => ∃ (root : Nat) (d' : Array UInt64), hi - root ≤ m ∧ root ≤ n ∧ siftDown lt hi first root d' = T ∧ geT fr 0 = v ∧ geT fr 2 = .int .i64 (hi : Nat) ∧ geT fr 3 = .int .i64 (first : Nat) ∧ geT fr 4 = .func (.func C) #[] #[] ∧ geT fr 10 = .int .i64 (root : Nat) ∧
    Hold s0 s1 (HP.own 1 v n (flA d') :: l)) hi ⟨lo, d, by omega, hlo, hT, e0, e2, e3, e4, e10, H⟩ ?_)
  clear e0 e2 e3 e4 e10 fr H hT
  rintro m fr s1 ⟨r, d1, hm, hr, hT, e0, e2, e3, e4, e10, H⟩
  have hds := own_size H
  have k1 : 2 * ((r : Nat) : Int) = ((2 * r : Nat) : Int) := by omega
  have k2 : ((2 * r : Nat) : Int) + 1 = ((2 * r + 1 : Nat) : Int) := by omega
  have k3 : ((2 * r + 1 : Nat) : Int) + 1 = ((2 * r + 2 : Nat) : Int) := by omega
  have w1 := wrap_i64 (n := ((2 * r : Nat) : Int)) (by omega) (by omega)
  have w2 := wrap_i64 (n := ((2 * r + 1 : Nat) : Int)) (by omega) (by omega)
  have w3 := wrap_i64 (n := ((2 * r + 2 : Nat) : Int)) (by omega) (by omega)
  refine W_block ?_
  refine W_seq (W_ops [0, 2, 3, 4, 10, 11] ?_)
  simp only [o97_2, WO_bin, WO_move, bin_add, bin_mul, WO_nil, PureK_some, geT_put, evO_tmp, evO_const, keep_nil, keep_cons, keepK_eq, Nat.reduceEqDiff, ↓reduceIte, eq_self, e0, e2, e3, e4, e10, k1, w1, k2, w2]
  clear e0 e2 e3 e4 e10
  intro fr e0 e2 e3 e4 e10 e11
  refine SeqK_n ?_
  refine W_assoc ?_
  refine W_seq (W_ops [0, 2, 3, 4, 10, 11, 18] ?_)
  simp only [o97_3, WO_bin, WO_move, bin_geq, WO_nil, PureK_some, geT_put, evO_tmp, keep_nil, keep_cons, keepK_eq, Nat.reduceEqDiff, ↓reduceIte, eq_self, e0, e2, e3, e4, e10, e11]
  clear e0 e2 e3 e4 e10 e11
  intro fr e0 e2 e3 e4 e10 e11 e18
  refine SeqK_n ?_
  by_cases hch : hi ≤ 2 * r + 1
  · rw [sift_stop hch] at hT
    subst hT
    refine W_seq (W_if e18 (fun _ => W_exit (SeqK_x (BlkK_x (by decide) (LoopK_x (BlkK_e (Ret0n H)))))) (fun h => absurd (by omega) h))
  refine W_seq (W_if e18 (fun h => absurd h (by omega)) (fun _ => W_skip (SeqK_n ?_)))
  refine W_assoc ?_
  have f1 : ((first : Nat) : Int) + ((2 * r + 1 : Nat) : Int) = ((first + (2 * r + 1) : Nat) : Int) := by omega
  have f2 : ((first + (2 * r + 1) : Nat) : Int) + 1 = ((first + (2 * r + 2) : Nat) : Int) := by omega
  have v1 := wrap_i64 (n := ((first + (2 * r + 1) : Nat) : Int)) (by omega) (by omega)
  have v2 := wrap_i64 (n := ((first + (2 * r + 2) : Nat) : Int)) (by omega) (by omega)
  obtain ⟨A1, L1⟩ := own_ld H hds (i := first + (2 * r + 1)) (by omega)
  refine W_seq (W_cutN (fun fr1 s6 => s1 = s6 ∧ geT fr1 0 = v ∧ geT fr1 2 = .int .i64 (hi : Nat) ∧ geT fr1 3 = .int .i64 (first : Nat) ∧ geT fr1 4 = .func (.func C) #[] #[] ∧ geT fr1 10 = .int .i64 (r : Nat) ∧ geT fr1 11 = .int .i64 (2 * r + 1 : Nat) ∧ ∃ bb : Bool, geT fr1 40 = .bool bb ∧ (bb = true → 2 * r + 2 < hi ∧ lt d1[first + (2 * r + 1)]! d1[first + (2 * r + 2)]! = true) ∧ (bb = false → 2 * r + 2 < hi → lt d1[first + (2 * r + 1)]! d1[first + (2 * r + 2)]! = false)) ?_ ?_)
  · intro R' hR'
    by_cases h2 : 2 * r + 2 < hi
    · obtain ⟨A2, L2⟩ := own_ld H hds (i := first + (2 * r + 2)) (by omega)
      refine W_draw0 [0, 2, 3, 4, 10, 11, 40] rfl ?_
      simp only [d97_4, WD_addrSl, WD_bin, WD_load, WD_move, WD_callT, DFunK_0, bin_add, bin_lss, want_v, wantB_t, DPureK_some, DReadK_some, pastR_nil, joinF_nil, setH_self, geT_put, evO_tmp, evO_const, List.map_cons, List.map_nil, Nat.reduceEqDiff, Nat.reduceAdd, ↓reduceIte, eq_self, true_and, Nat.zero_add, e0, e2, e3, e4, e11, WD_yes, k3, w3, decide_eq_true (show ((2 * r + 2 : Nat) : Int) < ((hi : Nat) : Int) by omega), f1, v1, f2, v2, A1, L1, A2, L2]
      refine DCallK_of rfl (hc _ _ _) ?_
      rintro _ _ ⟨z, rfl, hz, rfl⟩
      simp only [WD_bin, WD_pick, pick_b, bin_lss, want_v, wantB_t, WD_nil, DPureK_some, joinF_nil, joinAll_nil, setH_self, Nat.testBit, Nat.reduceShiftRight, Nat.reduceAnd, Nat.reduceBneDiff, List.all_nil, List.all_cons, List.filter_nil, List.filter_cons, geT_put, evO_tmp, evO_const, keep_nil, keep_cons, keepK_eq, Nat.reduceEqDiff, Nat.reduceAdd, ↓reduceIte, Bool.not_true, Bool.and_true, Bool.true_or, eq_self, Bool.false_eq_true, true_and, e0, e2, e3, e4, e10, e11, WD_yes]
      clear e0 e2 e3 e4 e10 e11
      intro fr e0 e2 e3 e4 e10 e11 e40
      exact hR' _ _ ⟨rfl, e0, e2, e3, e4, e10, e11, _, e40, fun hb => ⟨h2, by rw [← hz]; exact hb⟩, fun hb _ => by rw [← hz]; exact hb⟩
    · have _h := h2
      refine W_draw0 [0, 2, 3, 4, 10, 11, 40] rfl ?_
      simp only [d97_4, WD_bin, WD_move, WD_pick, pick_b, bin_add, bin_lss, want_v, wantB_t, WD_nil, DPureK_some, DActK_some, preHead_nil, joinF_nil, joinAll_nil, setH_self, Nat.testBit, List.all_nil, List.filter_nil, geT_put, evO_tmp, evO_const, keep_nil, keep_cons, keepK_eq, Nat.reduceEqDiff, Nat.reduceAdd, ↓reduceIte, eq_self, Bool.false_eq_true, true_and, Nat.zero_add, e0, e2, e3, e4, e10, e11, WD_no_move, WD_no_bin, WD_no_addrSl, WD_no_load, WD_no_call, k3, w3, decide_eq_false (show ¬ ((2 * r + 2 : Nat) : Int) < ((hi : Nat) : Int) by omega)]
      clear e0 e2 e3 e4 e10 e11
      intro fr e0 e2 e3 e4 e10 e11 e40
      exact hR' _ _ ⟨rfl, e0, e2, e3, e4, e10, e11, _, e40, fun hb => (by cases hb), fun _ h => absurd h h2⟩
  clear e0 e2 e3 e4 e10 e11 e18 fr
  rintro fr _ ⟨rfl, e0, e2, e3, e4, e10, e11, bb, e40, hb1, hb2⟩
  refine SeqK_n ?_
  refine W_seq (W_cutN (fun fr1 s6 => ∃ c : Nat, ((c = 2 * r + 2 ∧ 2 * r + 2 < hi ∧ lt d1[first + (2 * r + 1)]! d1[first + (2 * r + 2)]! = true) ∨ (c = 2 * r + 1 ∧ (2 * r + 2 < hi → lt d1[first + (2 * r + 1)]! d1[first + (2 * r + 2)]! = false))) ∧ s1 = s6 ∧ geT fr1 0 = v ∧ geT fr1 2 = .int .i64 (hi : Nat) ∧ geT fr1 3 = .int .i64 (first : Nat) ∧ geT fr1 4 = .func (.func C) #[] #[] ∧ geT fr1 10 = .int .i64 (r : Nat) ∧ geT fr1 11 = .int .i64 (c : Nat)) ?_ ?_)
  · intro R' hR'
    cases bb with
    | true =>
      refine W_cond e40 (fun _ => ?_) (fun h => absurd h (by decide))
      refine W_ops [0, 2, 3, 4, 10, 11] ?_
      simp only [o97_5, WO_bin, WO_move, bin_add, WO_nil, PureK_some, geT_put, evO_tmp, evO_const, keep_nil, keep_cons, keepK_eq, Nat.reduceEqDiff, ↓reduceIte, eq_self, e0, e2, e3, e4, e10, e11, k3, w3]
      clear e0 e2 e3 e4 e10 e11
      intro fr e0 e2 e3 e4 e10 e11
      exact hR' _ _ ⟨2 * r + 2, .inl ⟨rfl, hb1 rfl⟩, rfl, e0, e2, e3, e4, e10, e11⟩
    | false =>
      refine W_cond e40 (fun h => absurd h (by decide)) (fun _ => W_skip ?_)
      exact hR' _ _ ⟨2 * r + 1, .inr ⟨rfl, hb2 rfl⟩, rfl, e0, e2, e3, e4, e10, e11⟩
  clear e0 e2 e3 e4 e10 e11 e40 fr
  rintro fr _ ⟨c, hcc, rfl, e0, e2, e3, e4, e10, e11⟩
  refine SeqK_n ?_
  have hch2 : c < hi ∧ r < c := by omega
  rw [sift_go hch hcc] at hT
  have g1 : ((first : Nat) : Int) + ((r : Nat) : Int) = ((first + r : Nat) : Int) := by omega
  have g2 : ((first : Nat) : Int) + ((c : Nat) : Int) = ((first + c : Nat) : Int) := by omega
  have x1 := wrap_i64 (n := ((first + r : Nat) : Int)) (by omega) (by omega)
  have x2 := wrap_i64 (n := ((first + c : Nat) : Int)) (by omega) (by omega)
  obtain ⟨A3, L3⟩ := own_ld H hds (i := first + r) (by omega)
  obtain ⟨A4, L4⟩ := own_ld H hds (i := first + c) (by omega)
  refine W_assoc ?_
  refine W_seq (W_draw0 [0, 2, 3, 4, 10, 11, 58] rfl ?_)
  simp only [d97_6, WD_addrSl, WD_bin, WD_load, WD_move, WD_callT, DFunK_0, bin_add, DPureK_some, DReadK_some, pastR_nil, joinF_nil, setH_self, geT_put, evO_tmp, List.map_cons, List.map_nil, Nat.reduceEqDiff, Nat.reduceAdd, ↓reduceIte, eq_self, true_and, Nat.zero_add, e0, e3, e4, e10, e11, g1, x1, g2, x2, A3, L3, A4, L4]
  refine DCallK_of rfl (hc _ _ _) ?_
  rintro _ _ ⟨z, rfl, hz, rfl⟩
  simp only [WD_bin, WD_un, un_not, bin_lss, WD_nil, DPureK_some, joinF_nil, joinAll_nil, setH_self, Nat.testBit, Nat.reduceShiftRight, Nat.reduceAnd, Nat.reduceBneDiff, List.all_nil, List.all_cons, List.filter_nil, List.filter_cons, geT_put, evO_tmp, evO_const, keep_nil, keep_cons, keepK_eq, Nat.reduceEqDiff, Nat.reduceAdd, ↓reduceIte, Bool.not_true, Bool.and_true, Bool.true_or, eq_self, Bool.false_eq_true, true_and, e0, e2, e3, e4, e10, e11]
  clear e0 e2 e3 e4 e10 e11
  intro fr e0 e2 e3 e4 e10 e11 e58
  refine SeqK_n ?_
  cases hl : lt d1[first + r]! d1[first + c]! with
  | false =>
    rw [hl] at hz
    rw [hz] at e58
    rw [if_pos hl] at hT
    subst hT
    refine W_seq (W_cond e58 (fun _ => ?_) (fun h => absurd h (by decide)))
    exact W_ret (SeqK_r (BlkK_r (LoopK_r (BlkK_r (Ret0 H)))))
  | true =>
    rw [hl] at hz
    rw [hz] at e58
    rw [if_neg (by rw [hl]; simp)] at hT
    refine W_seq (W_cond e58 (fun h => absurd h (by decide)) (fun _ => W_skip (SeqK_n ?_)))
    obtain ⟨s3, s4, st1, st2, H4⟩ := H.swp hds (i := first + r) (j := first + c) (by omega) (by omega)
    refine W_seq (W_draw0 [0, 2, 3, 4, 11] rfl ?_)
    simp only [d97_7, WD_addrSl, WD_bin, WD_load, WD_move, WD_store, bin_add, WD_nil, DPureK_some, DReadK_some, DActK_some, pastR_nil, preHead_nil, preHead_cons, joinF_nil, joinAll_nil, setH_self, Nat.testBit, Nat.reduceShiftRight, Nat.reduceAnd, Nat.reduceBneDiff, List.all_nil, List.all_cons, List.filter_nil, List.filter_cons, geT_put, puT_none, evO_tmp, keep_nil, keep_cons, keepK_eq, Nat.reduceEqDiff, Nat.reduceAdd, ↓reduceIte, Bool.not_true, Bool.and_true, Bool.true_or, eq_self, Bool.false_eq_true, true_and, Nat.zero_add, e0, e2, e3, e4, e10, e11, g1, x1, g2, x2, A3, L3, A4, L4, st1, st2]
    clear e0 e2 e3 e4 e10 e11
    intro fr e0 e2 e3 e4 e11
    refine SeqK_n ?_
    refine W_ops [0, 2, 3, 4, 10] ?_
    simp only [o97_8, WO_move, WO_nil, geT_put, evO_tmp, keep_nil, keep_cons, keepK_eq, Nat.reduceEqDiff, ↓reduceIte, eq_self, e0, e2, e3, e4, e11]
    clear e0 e2 e3 e4 e11
    intro fr e0 e2 e3 e4 e10
    exact BlkK_n (LoopK_n (m' := hi - c) (by omega) ⟨c, _, Nat.le_refl _, by omega, hT, e0, e2, e3, e4, e10, H4⟩)

end Go.Proofs.Ytfjdihfflghfpaa

/- Sorting, walked: the partitions. -/
namespace Go.Proofs.Ytfjdihfflghfpaa
open Go Go.Vam Go.Sort

theorem su_stop1 {p : UInt64 → Bool} {d : Array UInt64} {j i : Nat} (h : ¬ i ≤ j) : scanUp p d j i = i := by
  rw [scanUp, if_neg]; simp; omega
theorem su_stop2 {p : UInt64 → Bool} {d : Array UInt64} {j i : Nat} (h : p d[i]! = false) : scanUp p d j i = i := by
  rw [scanUp, if_neg]; rw [h]; simp
theorem su_go {p : UInt64 → Bool} {d : Array UInt64} {j i : Nat} (h0 : i ≤ j) (h : p d[i]! = true) : scanUp p d j i = scanUp p d j (i + 1) := by
  rw [scanUp, if_pos]; rw [h]; simp; omega
theorem sd_stop1 {p : UInt64 → Bool} {d : Array UInt64} {i j : Nat} (h : ¬ i ≤ j) : scanDown p d i j = j := by
  cases j with
  | zero => rfl
  | succ j => rw [scanDown, if_neg]; simp; omega
theorem sd_stop2 {p : UInt64 → Bool} {d : Array UInt64} {i j : Nat} (h : p d[j]! = false) : scanDown p d i j = j := by
  cases j with
  | zero => rfl
  | succ j => rw [scanDown, if_neg]; rw [h]; simp
theorem sd_go {p : UInt64 → Bool} {d : Array UInt64} {i j : Nat} (hi : 1 ≤ i) (h0 : i ≤ j) (h : p d[j]! = true) : scanDown p d i j = scanDown p d i (j - 1) := by
  cases j with
  | zero => omega
  | succ j => rw [scanDown, if_pos]; rfl; rw [h]; simp; omega


set_option maxHeartbeats 2000000 in
theorem run93 {X : Ctx} (hX : X.fns = fnsOf Try.prog) (ho : ∀ f args, f ≠ 10 ∧ f ≠ 24 → X.orc f args = none) {lt : UInt64 → UInt64 → Bool} {C : FuncId} (hc : ∀ (s : Mm) (x y : UInt64), CallP X C [.float .f64 x.toNat, .float .f64 y.toNat] s (fun r s' => ∃ z, r = .int .i64 z ∧ decide (z < 0) = lt x y ∧ s = s')) {s0 s : Mm} {l : List HP} {v : Value} {n a b pv : Nat} {d : Array UInt64} (H : Hold s0 s (HP.own 1 v n (flA d) :: l)) (hap : a ≤ pv) (hpb : pv < b) (hb : b ≤ n) (hn2 : n ≤ 1152921504606846976) :
    CallP X 93 [v, .int .i64 (a : Nat), .int .i64 (b : Nat), .int .i64 (pv : Nat), cmpV C] s (fun r s' => r = .tuple #[.int .i64 ((partition lt d a b pv).1 : Nat), .bool (partition lt d a b pv).2.1] ∧ Hold s0 s' (HP.own 1 v n (flA (partition lt d a b pv).2.2) :: l)) := by
  have hcv : cmpV C = .func (.func C) #[] #[] := rfl
  have hds := own_size H
  refine CallP_of (hX ▸ ir93_eq) (ho _ _ (by decide)) (Nat.le_of_ble_eq_true rfl) ?_
  rw [hcv]
  refine W_seq (W_ops [0, 1, 2, 3, 4] ?_)
  simp only [o93_0, WO_move, WO_nil, geT_put, frame_nil, frame_cons, evO_const, keep_nil, keep_cons, keepK_eq, Nat.reduceEqDiff, Nat.reduceAdd, ↓reduceIte, eq_self, Nat.zero_add]
  intro fr e0 e1 e2 e3 e4
  refine SeqK_n ?_
  obtain ⟨A1, L1⟩ := own_ld H hds (i := a) (by omega)
  obtain ⟨A2, L2⟩ := own_ld H hds (i := pv) (by omega)
  obtain ⟨s3, s4, st1, st2, H4⟩ := H.swp hds (i := a) (j := pv) (by omega) (by omega)
  refine W_seq (W_draw0 [0, 1, 2, 4] rfl ?_)
  simp only [d93_1, WD_addrSl, WD_load, WD_move, WD_store, WD_nil, DPureK_some, DReadK_some, DActK_some, pastR_nil, preHead_nil, preHead_cons, joinF_nil, joinAll_nil, setH_self, Nat.testBit, Nat.reduceShiftRight, Nat.reduceAnd, Nat.reduceBneDiff, List.all_nil, List.all_cons, List.filter_nil, List.filter_cons, geT_put, puT_none, evO_tmp, keep_nil, keep_cons, keepK_eq, Nat.reduceEqDiff, Nat.reduceAdd, ↓reduceIte, Bool.not_true, Bool.and_true, Bool.true_or, eq_self, Bool.false_eq_true, true_and, Nat.zero_add, e0, e1, e2, e3, e4, A1, A2, L1, L2, st1, st2]
  clear e0 e1 e2 e3 e4
  intro fr e0 e1 e2 e4
  refine SeqK_n ?_
  obtain ⟨d1, hd1⟩ : ∃ x, x = swp d a pv := ⟨_, rfl⟩
  rw [← hd1] at H4
  clear A1 A2 L1 L2 st1 st2 H hds s3
  have hds := own_size H4
  have i0 : ((b : Nat) : Int) - 1 = ((b - 1 : Nat) : Int) := by omega
  have i1' : ((a : Nat) : Int) + 1 = ((a + 1 : Nat) : Int) := by omega
  refine W_seq (W_ops [0, 1, 4, 12, 13] ?_)
  simp only [o93_2, WO_bin, WO_move, bin_add, bin_sub, WO_nil, PureK_some, geT_put, evO_tmp, evO_const, keep_nil, keep_cons, keepK_eq, Nat.reduceEqDiff, ↓reduceIte, eq_self, e0, e1, e2, e4, i1', wrap_i64 (n := ((a + 1 : Nat) : Int)) (by omega) (by omega), i0, wrap_i64 (n := ((b - 1 : Nat) : Int)) (by omega) (by omega)]
  clear e0 e1 e2 e4
  intro fr e0 e1 e4 e12 e13
  refine SeqK_n ?_
  obtain ⟨b1, hb1⟩ : ∃ x, x = b - 1 := ⟨_, rfl⟩
  rw [← hb1] at e13
  obtain ⟨a1, ha1⟩ : ∃ x, x = a + 1 := ⟨_, rfl⟩
  rw [← ha1] at e12
  obtain ⟨i1, hi1⟩ : ∃ x, x = scanUp (fun x => lt x d1[a]!) d1 b1 a1 := ⟨_, rfl⟩
  have bi1 : a1 ≤ i1 := by rw [hi1]; exact scanUp_ge _ _ _ _
  refine W_seq (W_cutN (fun fr1 s6 => s4 = s6 ∧ geT fr1 0 = v ∧ geT fr1 1 = .int .i64 (a : Nat) ∧ geT fr1 4 = .func (.func C) #[] #[] ∧ geT fr1 12 = .int .i64 (i1 : Nat) ∧ geT fr1 13 = .int .i64 (b1 : Nat)) ?_ ?_)
  · intro R' hR'
    refine W_block (W_loop (fun m fr s6 => ∃ x : Nat, s4 = s6 ∧ (b1 + 1 - x ≤ m) ∧ scanUp (fun x => lt x d1[a]!) d1 b1 x = i1 ∧ geT fr 0 = v ∧ geT fr 1 = .int .i64 (a : Nat) ∧ geT fr 4 = .func (.func C) #[] #[] ∧ geT fr 12 = .int .i64 (x : Nat) ∧ geT fr 13 = .int .i64 (b1 : Nat)) (b1 + 1) ⟨a1, rfl, by omega, hi1.symm, e0, e1, e4, e12, e13⟩ ?_)
    clear e0 e1 e4 e12 e13 fr
    rintro m fr _ ⟨x, rfl, hm, hs, e0, e1, e4, e12, e13⟩
    refine W_assoc ?_
    by_cases hx : x ≤ b1
    · obtain ⟨A1, L1⟩ := own_ld H4 hds (i := x) (by omega)
      obtain ⟨A0, L0⟩ := own_ld H4 hds (i := a) (by omega)
      refine W_seq (W_draw0 [0, 1, 4, 12, 13, 47] rfl ?_)
      simp only [d93_4, WD_addrSl, WD_bin, WD_load, WD_move, WD_callT, DFunK_0, bin_leq, want_v, wantB_t, DPureK_some, DReadK_some, pastR_nil, joinF_nil, setH_self, geT_put, evO_tmp, List.map_cons, List.map_nil, Nat.reduceEqDiff, Nat.reduceAdd, ↓reduceIte, eq_self, true_and, Nat.zero_add, e0, e1, e4, e12, e13, WD_yes, decide_eq_true (show ((x : Nat) : Int) ≤ ((b1 : Nat) : Int) by omega), A1, L1, A0, L0]
      refine DCallK_of rfl (hc _ _ _) ?_
      rintro _ _ ⟨z, rfl, hz, rfl⟩
      simp only [WD_bin, WD_pick, pick_b, bin_lss, want_v, wantB_t, WD_nil, DPureK_some, joinF_nil, joinAll_nil, setH_self, Nat.testBit, Nat.reduceShiftRight, Nat.reduceAnd, Nat.reduceBneDiff, List.all_nil, List.all_cons, List.filter_nil, List.filter_cons, geT_put, evO_tmp, evO_const, keep_nil, keep_cons, keepK_eq, Nat.reduceEqDiff, Nat.reduceAdd, ↓reduceIte, Bool.not_true, Bool.and_true, Bool.true_or, eq_self, Bool.false_eq_true, true_and, e0, e1, e4, e12, e13, WD_yes]
      clear e0 e1 e4 e12 e13
      intro fr e0 e1 e4 e12 e13 e47
      refine SeqK_n ?_
      cases hl : lt d1[x]! d1[a]! with
      | true =>
        rw [hl] at hz
        rw [hz] at e47
        rw [su_go (p := fun x => lt x d1[a]!) (d := d1) hx (show (fun x => lt x d1[a]!) d1[x]! = true by show (lt d1[x]! d1[a]!) = true; rw [hl])] at hs
        refine W_seq (W_cond e47 (fun _ => W_skip (SeqK_n ?_)) (fun h => absurd h (by decide)))
        refine W_block ?_
        refine W_ops [0, 1, 4, 12, 13] ?_
        simp only [o93_5, WO_bin, WO_move, bin_add, WO_nil, PureK_some, geT_put, evO_tmp, evO_const, keep_nil, keep_cons, keepK_eq, Nat.reduceEqDiff, ↓reduceIte, eq_self, e0, e1, e4, e12, e13, wrap_i64 (n := (x : Int) + 1) (by omega) (by omega)]
        clear e0 e1 e4 e12 e13
        intro fr e0 e1 e4 e12 e13
        refine BlkK_n ?_
        exact LoopK_n (m' := m - 1) (by omega) ⟨x + 1, rfl, by omega, hs, e0, e1, e4, by rw [e12]; rfl, e13⟩
      | false =>
        rw [hl] at hz
        rw [hz] at e47
        rw [su_stop2 (p := fun x => lt x d1[a]!) (d := d1) (show (fun x => lt x d1[a]!) d1[x]! = false by show (lt d1[x]! d1[a]!) = false; rw [hl])] at hs
        refine W_seq (W_cond e47 (fun h => absurd h (by decide)) (fun _ => W_exit (SeqK_x (LoopK_x (BlkK_e ?_)))))
        exact hR' _ _ ⟨rfl, by rw [← hs]; exact ⟨e0, e1, e4, e12, e13⟩⟩
    · rw [su_stop1 hx] at hs
      refine W_seq (W_draw0 [0, 1, 4, 12, 13, 47] rfl ?_)
      simp only [d93_4, WD_bin, WD_move, WD_pick, pick_b, bin_leq, want_v, wantB_t, WD_nil, DPureK_some, DActK_some, preHead_nil, joinF_nil, joinAll_nil, setH_self, Nat.testBit, List.all_nil, List.filter_nil, geT_put, evO_tmp, evO_const, keep_nil, keep_cons, keepK_eq, Nat.reduceEqDiff, Nat.reduceAdd, ↓reduceIte, eq_self, Bool.false_eq_true, true_and, Nat.zero_add, e0, e1, e4, e12, e13, WD_no_move, WD_no_bin, WD_no_addrSl, WD_no_load, WD_no_call, decide_eq_false (show ¬ ((x : Nat) : Int) ≤ ((b1 : Nat) : Int) by omega)]
      clear e0 e1 e4 e12 e13
      intro fr e0 e1 e4 e12 e13 e47
      refine SeqK_n ?_
      refine W_seq (W_cond e47 (fun h => absurd h (by decide)) (fun _ => W_exit (SeqK_x (LoopK_x (BlkK_e ?_)))))
      exact hR' _ _ ⟨rfl, by rw [← hs]; exact ⟨e0, e1, e4, e12, e13⟩⟩
  clear e0 e1 e4 e12 e13 fr
  rintro fr _ ⟨rfl, e0, e1, e4, e12, e13⟩
  refine SeqK_n ?_
  obtain ⟨j1, hj1⟩ : ∃ x, x = scanDown (fun x => !lt x d1[a]!) d1 i1 b1 := ⟨_, rfl⟩
  have bj1 : j1 ≤ b1 := by rw [hj1]; exact scanDown_le _ _ _ _
  refine W_seq (W_cutN (fun fr1 s6 => s4 = s6 ∧ geT fr1 0 = v ∧ geT fr1 1 = .int .i64 (a : Nat) ∧ geT fr1 4 = .func (.func C) #[] #[] ∧ geT fr1 12 = .int .i64 (i1 : Nat) ∧ geT fr1 13 = .int .i64 (j1 : Nat)) ?_ ?_)
  · intro R' hR'
    refine W_block (W_loop (fun m fr s6 => ∃ x : Nat, s4 = s6 ∧ (x ≤ b1 ∧ x ≤ m) ∧ scanDown (fun x => !lt x d1[a]!) d1 i1 x = j1 ∧ geT fr 0 = v ∧ geT fr 1 = .int .i64 (a : Nat) ∧ geT fr 4 = .func (.func C) #[] #[] ∧ geT fr 12 = .int .i64 (i1 : Nat) ∧ geT fr 13 = .int .i64 (x : Nat)) (b1) ⟨b1, rfl, by omega, hj1.symm, e0, e1, e4, e12, e13⟩ ?_)
    clear e0 e1 e4 e12 e13 fr
    rintro m fr _ ⟨x, rfl, hm, hs, e0, e1, e4, e12, e13⟩
    refine W_assoc ?_
    by_cases hx : i1 ≤ x
    · obtain ⟨A1, L1⟩ := own_ld H4 hds (i := x) (by omega)
      obtain ⟨A0, L0⟩ := own_ld H4 hds (i := a) (by omega)
      refine W_seq (W_draw0 [0, 1, 4, 12, 13, 66] rfl ?_)
      simp only [d93_7, WD_addrSl, WD_bin, WD_load, WD_move, WD_callT, DFunK_0, bin_leq, want_v, wantB_t, DPureK_some, DReadK_some, pastR_nil, joinF_nil, setH_self, geT_put, evO_tmp, List.map_cons, List.map_nil, Nat.reduceEqDiff, Nat.reduceAdd, ↓reduceIte, eq_self, true_and, Nat.zero_add, e0, e1, e4, e12, e13, WD_yes, decide_eq_true (show ((i1 : Nat) : Int) ≤ ((x : Nat) : Int) by omega), A1, L1, A0, L0]
      refine DCallK_of rfl (hc _ _ _) ?_
      rintro _ _ ⟨z, rfl, hz, rfl⟩
      simp only [WD_bin, WD_pick, pick_b, WD_un, un_not, bin_lss, want_v, wantB_t, WD_nil, DPureK_some, joinF_nil, joinAll_nil, setH_self, Nat.testBit, Nat.reduceShiftRight, Nat.reduceAnd, Nat.reduceBneDiff, List.all_nil, List.all_cons, List.filter_nil, List.filter_cons, geT_put, evO_tmp, evO_const, keep_nil, keep_cons, keepK_eq, Nat.reduceEqDiff, Nat.reduceAdd, ↓reduceIte, Bool.not_true, Bool.and_true, Bool.true_or, eq_self, Bool.false_eq_true, true_and, e0, e1, e4, e12, e13, WD_yes]
      clear e0 e1 e4 e12 e13
      intro fr e0 e1 e4 e12 e13 e66
      refine SeqK_n ?_
      cases hl : lt d1[x]! d1[a]! with
      | false =>
        rw [hl] at hz
        rw [hz] at e66
        rw [sd_go (p := fun x => !lt x d1[a]!) (d := d1) (by omega) hx (show (fun x => !lt x d1[a]!) d1[x]! = true by show (!lt d1[x]! d1[a]!) = true; rw [hl]; rfl)] at hs
        refine W_seq (W_cond e66 (fun _ => W_skip (SeqK_n ?_)) (fun h => absurd h (by decide)))
        refine W_block ?_
        have xm : ((x : Nat) : Int) - 1 = ((x - 1 : Nat) : Int) := by omega
        refine W_ops [0, 1, 4, 12, 13] ?_
        simp only [o93_8, WO_bin, WO_move, bin_sub, WO_nil, PureK_some, geT_put, evO_tmp, evO_const, keep_nil, keep_cons, keepK_eq, Nat.reduceEqDiff, ↓reduceIte, eq_self, e0, e1, e4, e12, e13, xm, wrap_i64 (n := ((x - 1 : Nat) : Int)) (by omega) (by omega)]
        clear e0 e1 e4 e12 e13
        intro fr e0 e1 e4 e12 e13
        refine BlkK_n ?_
        exact LoopK_n (m' := m - 1) (by omega) ⟨x - 1, rfl, by omega, hs, e0, e1, e4, e12, e13⟩
      | true =>
        rw [hl] at hz
        rw [hz] at e66
        rw [sd_stop2 (p := fun x => !lt x d1[a]!) (d := d1) (show (fun x => !lt x d1[a]!) d1[x]! = false by show (!lt d1[x]! d1[a]!) = false; rw [hl]; rfl)] at hs
        refine W_seq (W_cond e66 (fun h => absurd h (by decide)) (fun _ => W_exit (SeqK_x (LoopK_x (BlkK_e ?_)))))
        exact hR' _ _ ⟨rfl, by rw [← hs]; exact ⟨e0, e1, e4, e12, e13⟩⟩
    · rw [sd_stop1 hx] at hs
      refine W_seq (W_draw0 [0, 1, 4, 12, 13, 66] rfl ?_)
      simp only [d93_7, WD_bin, WD_move, WD_pick, pick_b, bin_leq, want_v, wantB_t, WD_nil, DPureK_some, DActK_some, preHead_nil, joinF_nil, joinAll_nil, setH_self, Nat.testBit, List.all_nil, List.filter_nil, geT_put, evO_tmp, evO_const, keep_nil, keep_cons, keepK_eq, Nat.reduceEqDiff, Nat.reduceAdd, ↓reduceIte, eq_self, Bool.false_eq_true, true_and, Nat.zero_add, e0, e1, e4, e12, e13, WD_no_move, WD_no_bin, WD_no_un, WD_no_addrSl, WD_no_load, WD_no_call, decide_eq_false (show ¬ ((i1 : Nat) : Int) ≤ ((x : Nat) : Int) by omega)]
      clear e0 e1 e4 e12 e13
      intro fr e0 e1 e4 e12 e13 e66
      refine SeqK_n ?_
      refine W_seq (W_cond e66 (fun h => absurd h (by decide)) (fun _ => W_exit (SeqK_x (LoopK_x (BlkK_e ?_)))))
      exact hR' _ _ ⟨rfl, by rw [← hs]; exact ⟨e0, e1, e4, e12, e13⟩⟩
  clear e0 e1 e4 e12 e13 fr
  rintro fr _ ⟨rfl, e0, e1, e4, e12, e13⟩
  refine SeqK_n ?_
  have hP : partition lt d a b pv = if i1 > j1 then (j1, true, swp d1 j1 a) else ((partLoop lt a (i1 + 1) (j1 - 1) (swp d1 i1 j1)).1, false, swp (partLoop lt a (i1 + 1) (j1 - 1) (swp d1 i1 j1)).2 (partLoop lt a (i1 + 1) (j1 - 1) (swp d1 i1 j1)).1 a) := by
    rw [hj1, hi1, hd1, hb1, ha1]; rfl
  rw [hP]
  refine W_assoc ?_
  refine W_seq (W_ops [0, 1, 4, 12, 13, 71] ?_)
  simp only [o93_9, WO_bin, WO_move, bin_gtr, WO_nil, PureK_some, geT_put, evO_tmp, keep_nil, keep_cons, keepK_eq, Nat.reduceEqDiff, ↓reduceIte, eq_self, e0, e1, e4, e12, e13]
  clear e0 e1 e4 e12 e13
  intro fr e0 e1 e4 e12 e13 e71
  refine SeqK_n ?_
  by_cases hij : i1 > j1
  · rw [if_pos hij]
    refine W_seq (W_if e71 (fun _ => ?_) (fun h => absurd (by omega) h))
    obtain ⟨A1, L1⟩ := own_ld H4 hds (i := a) (by omega)
    obtain ⟨A2, L2⟩ := own_ld H4 hds (i := j1) (by omega)
    obtain ⟨s5, s6, st1, st2, H6⟩ := H4.swp hds (i := j1) (j := a) (by omega) (by omega)
    refine W_seq (W_draw0 [13] rfl ?_)
    simp only [d93_10, WD_addrSl, WD_load, WD_move, WD_store, WD_nil, DPureK_some, DReadK_some, DActK_some, pastR_nil, preHead_nil, preHead_cons, joinF_nil, joinAll_nil, setH_self, Nat.testBit, Nat.reduceShiftRight, Nat.reduceAnd, Nat.reduceBneDiff, List.all_nil, List.all_cons, List.filter_nil, List.filter_cons, geT_put, puT_none, evO_tmp, keep_nil, keep_cons, keepK_eq, Nat.reduceEqDiff, Nat.reduceAdd, ↓reduceIte, Bool.not_true, Bool.and_true, Bool.true_or, eq_self, Bool.false_eq_true, true_and, Nat.zero_add, e0, e1, e13, A1, A2, L1, L2, st1, st2]
    clear e0 e1 e4 e12 e13 e71
    intro fr e13
    refine SeqK_n ?_
    refine W_seq (W_ops [10, 11] ?_)
    simp only [o93_11, WO_move, WO_nil, geT_put, evO_tmp, evO_const, keep_nil, keep_cons, keepK_eq, Nat.reduceEqDiff, ↓reduceIte, eq_self, e13]
    clear e13
    intro fr e10 e11
    refine SeqK_n ?_
    exact W_ret (SeqK_r (Ret2 e10 e11 ⟨rfl, H6⟩))
  rw [if_neg hij]
  refine W_seq (W_if e71 (fun h => absurd h (by omega)) (fun _ => W_skip (SeqK_n ?_)))
  obtain ⟨A1, L1⟩ := own_ld H4 hds (i := i1) (by omega)
  obtain ⟨A2, L2⟩ := own_ld H4 hds (i := j1) (by omega)
  obtain ⟨s5, s6, st1, st2, H6⟩ := H4.swp hds (i := i1) (j := j1) (by omega) (by omega)
  refine W_seq (W_draw0 [0, 1, 4, 12, 13] rfl ?_)
  simp only [d93_12, WD_addrSl, WD_load, WD_move, WD_store, WD_nil, DPureK_some, DReadK_some, DActK_some, pastR_nil, preHead_nil, preHead_cons, joinF_nil, joinAll_nil, setH_self, Nat.testBit, Nat.reduceShiftRight, Nat.reduceAnd, Nat.reduceBneDiff, List.all_nil, List.all_cons, List.filter_nil, List.filter_cons, geT_put, puT_none, evO_tmp, keep_nil, keep_cons, keepK_eq, Nat.reduceEqDiff, Nat.reduceAdd, ↓reduceIte, Bool.not_true, Bool.and_true, Bool.true_or, eq_self, Bool.false_eq_true, true_and, Nat.zero_add, e0, e1, e4, e12, e13, A1, A2, L1, L2, st1, st2]
  clear e0 e1 e4 e12 e13
  intro fr e0 e1 e4 e12 e13
  refine SeqK_n ?_
  clear A1 A2 L1 L2 st1 st2 s5
  have j0 : ((j1 : Nat) : Int) - 1 = ((j1 - 1 : Nat) : Int) := by omega
  refine W_seq (W_ops [0, 1, 4, 12, 13] ?_)
  simp only [o93_13, WO_bin, WO_move, bin_add, WO_nil, PureK_some, geT_put, evO_tmp, evO_const, keep_nil, keep_cons, keepK_eq, Nat.reduceEqDiff, ↓reduceIte, eq_self, e0, e1, e4, e12, e13, wrap_i64 (n := (i1 : Int) + 1) (by omega) (by omega)]
  clear e0 e1 e4 e12 e13
  intro fr e0 e1 e4 e12 e13
  refine SeqK_n ?_
  refine W_seq (W_ops [0, 1, 4, 12, 13] ?_)
  simp only [o93_14, WO_bin, WO_move, bin_sub, WO_nil, PureK_some, geT_put, evO_tmp, evO_const, keep_nil, keep_cons, keepK_eq, Nat.reduceEqDiff, ↓reduceIte, eq_self, e0, e1, e4, e12, e13, j0, wrap_i64 (n := ((j1 - 1 : Nat) : Int)) (by omega) (by omega)]
  clear e0 e1 e4 e12 e13
  intro fr e0 e1 e4 e12 e13
  refine SeqK_n ?_
  obtain ⟨T, hT⟩ : ∃ T, partLoop lt a (i1 + 1) (j1 - 1) (swp d1 i1 j1) = T := ⟨_, rfl⟩
  rw [hT]
  refine W_seq (W_block (W_loop (fun m fr s1 => ∃ (i j : Nat) (d' : Array UInt64), j + 1 - i ≤ m ∧ a < i ∧ j < b ∧ partLoop lt a i j d' = T ∧ geT fr 0 = v ∧ geT fr 1 = .int .i64 (a : Nat) ∧ geT fr 4 = .func (.func C) #[] #[] ∧ geT fr 12 = .int .i64 (i : Nat) ∧ geT fr 13 = .int .i64 (j : Nat) ∧
    Hold s0 s1 (HP.own 1 v n (flA d') :: l)) n ⟨i1 + 1, j1 - 1, _, by omega, by omega, by omega, hT, e0, e1, e4, by rw [e12]; rfl, e13, H6⟩ ?_))
  clear e0 e1 e4 e12 e13 fr hT H6 H4 hP hds hi1 hj1 s4 s6
  rintro m fr s4 ⟨i, j, d1, hm, hai, hjb, hT, e0, e1, e4, e12, e13, H4⟩
  have hds := own_size H4
  refine W_block ?_
  obtain ⟨i2, hi2⟩ : ∃ x, x = scanUp (fun x => lt x d1[a]!) d1 j i := ⟨_, rfl⟩
  have bi2 : i ≤ i2 := by rw [hi2]; exact scanUp_ge _ _ _ _
  refine W_seq (W_cutN (fun fr1 s6 => s4 = s6 ∧ geT fr1 0 = v ∧ geT fr1 1 = .int .i64 (a : Nat) ∧ geT fr1 4 = .func (.func C) #[] #[] ∧ geT fr1 12 = .int .i64 (i2 : Nat) ∧ geT fr1 13 = .int .i64 (j : Nat)) ?_ ?_)
  · intro R' hR'
    refine W_block (W_loop (fun m fr s6 => ∃ x : Nat, s4 = s6 ∧ (j + 1 - x ≤ m) ∧ scanUp (fun x => lt x d1[a]!) d1 j x = i2 ∧ geT fr 0 = v ∧ geT fr 1 = .int .i64 (a : Nat) ∧ geT fr 4 = .func (.func C) #[] #[] ∧ geT fr 12 = .int .i64 (x : Nat) ∧ geT fr 13 = .int .i64 (j : Nat)) (j + 1) ⟨i, rfl, by omega, hi2.symm, e0, e1, e4, e12, e13⟩ ?_)
    clear e0 e1 e4 e12 e13 fr
    rintro m fr _ ⟨x, rfl, hm, hs, e0, e1, e4, e12, e13⟩
    refine W_assoc ?_
    by_cases hx : x ≤ j
    · obtain ⟨A1, L1⟩ := own_ld H4 hds (i := x) (by omega)
      obtain ⟨A0, L0⟩ := own_ld H4 hds (i := a) (by omega)
      refine W_seq (W_draw0 [0, 1, 4, 12, 13, 120] rfl ?_)
      simp only [d93_17, WD_addrSl, WD_bin, WD_load, WD_move, WD_callT, DFunK_0, bin_leq, want_v, wantB_t, DPureK_some, DReadK_some, pastR_nil, joinF_nil, setH_self, geT_put, evO_tmp, List.map_cons, List.map_nil, Nat.reduceEqDiff, Nat.reduceAdd, ↓reduceIte, eq_self, true_and, Nat.zero_add, e0, e1, e4, e12, e13, WD_yes, decide_eq_true (show ((x : Nat) : Int) ≤ ((j : Nat) : Int) by omega), A1, L1, A0, L0]
      refine DCallK_of rfl (hc _ _ _) ?_
      rintro _ _ ⟨z, rfl, hz, rfl⟩
      simp only [WD_bin, WD_pick, pick_b, bin_lss, want_v, wantB_t, WD_nil, DPureK_some, joinF_nil, joinAll_nil, setH_self, Nat.testBit, Nat.reduceShiftRight, Nat.reduceAnd, Nat.reduceBneDiff, List.all_nil, List.all_cons, List.filter_nil, List.filter_cons, geT_put, evO_tmp, evO_const, keep_nil, keep_cons, keepK_eq, Nat.reduceEqDiff, Nat.reduceAdd, ↓reduceIte, Bool.not_true, Bool.and_true, Bool.true_or, eq_self, Bool.false_eq_true, true_and, e0, e1, e4, e12, e13, WD_yes]
      clear e0 e1 e4 e12 e13
      intro fr e0 e1 e4 e12 e13 e120
      refine SeqK_n ?_
      cases hl : lt d1[x]! d1[a]! with
      | true =>
        rw [hl] at hz
        rw [hz] at e120
        rw [su_go (p := fun x => lt x d1[a]!) (d := d1) hx (show (fun x => lt x d1[a]!) d1[x]! = true by show (lt d1[x]! d1[a]!) = true; rw [hl])] at hs
        refine W_seq (W_cond e120 (fun _ => W_skip (SeqK_n ?_)) (fun h => absurd h (by decide)))
        refine W_block ?_
        refine W_ops [0, 1, 4, 12, 13] ?_
        simp only [o93_18, WO_bin, WO_move, bin_add, WO_nil, PureK_some, geT_put, evO_tmp, evO_const, keep_nil, keep_cons, keepK_eq, Nat.reduceEqDiff, ↓reduceIte, eq_self, e0, e1, e4, e12, e13, wrap_i64 (n := (x : Int) + 1) (by omega) (by omega)]
        clear e0 e1 e4 e12 e13
        intro fr e0 e1 e4 e12 e13
        refine BlkK_n ?_
        exact LoopK_n (m' := m - 1) (by omega) ⟨x + 1, rfl, by omega, hs, e0, e1, e4, by rw [e12]; rfl, e13⟩
      | false =>
        rw [hl] at hz
        rw [hz] at e120
        rw [su_stop2 (p := fun x => lt x d1[a]!) (d := d1) (show (fun x => lt x d1[a]!) d1[x]! = false by show (lt d1[x]! d1[a]!) = false; rw [hl])] at hs
        refine W_seq (W_cond e120 (fun h => absurd h (by decide)) (fun _ => W_exit (SeqK_x (LoopK_x (BlkK_e ?_)))))
        exact hR' _ _ ⟨rfl, by rw [← hs]; exact ⟨e0, e1, e4, e12, e13⟩⟩
    · rw [su_stop1 hx] at hs
      refine W_seq (W_draw0 [0, 1, 4, 12, 13, 120] rfl ?_)
      simp only [d93_17, WD_bin, WD_move, WD_pick, pick_b, bin_leq, want_v, wantB_t, WD_nil, DPureK_some, DActK_some, preHead_nil, joinF_nil, joinAll_nil, setH_self, Nat.testBit, List.all_nil, List.filter_nil, geT_put, evO_tmp, evO_const, keep_nil, keep_cons, keepK_eq, Nat.reduceEqDiff, Nat.reduceAdd, ↓reduceIte, eq_self, Bool.false_eq_true, true_and, Nat.zero_add, e0, e1, e4, e12, e13, WD_no_move, WD_no_bin, WD_no_addrSl, WD_no_load, WD_no_call, decide_eq_false (show ¬ ((x : Nat) : Int) ≤ ((j : Nat) : Int) by omega)]
      clear e0 e1 e4 e12 e13
      intro fr e0 e1 e4 e12 e13 e120
      refine SeqK_n ?_
      refine W_seq (W_cond e120 (fun h => absurd h (by decide)) (fun _ => W_exit (SeqK_x (LoopK_x (BlkK_e ?_)))))
      exact hR' _ _ ⟨rfl, by rw [← hs]; exact ⟨e0, e1, e4, e12, e13⟩⟩
  clear e0 e1 e4 e12 e13 fr
  rintro fr _ ⟨rfl, e0, e1, e4, e12, e13⟩
  refine SeqK_n ?_
  obtain ⟨j2, hj2⟩ : ∃ x, x = scanDown (fun x => !lt x d1[a]!) d1 i2 j := ⟨_, rfl⟩
  have bj2 : j2 ≤ j := by rw [hj2]; exact scanDown_le _ _ _ _
  refine W_seq (W_cutN (fun fr1 s6 => s4 = s6 ∧ geT fr1 0 = v ∧ geT fr1 1 = .int .i64 (a : Nat) ∧ geT fr1 4 = .func (.func C) #[] #[] ∧ geT fr1 12 = .int .i64 (i2 : Nat) ∧ geT fr1 13 = .int .i64 (j2 : Nat)) ?_ ?_)
  · intro R' hR'
    refine W_block (W_loop (fun m fr s6 => ∃ x : Nat, s4 = s6 ∧ (x ≤ j ∧ x ≤ m) ∧ scanDown (fun x => !lt x d1[a]!) d1 i2 x = j2 ∧ geT fr 0 = v ∧ geT fr 1 = .int .i64 (a : Nat) ∧ geT fr 4 = .func (.func C) #[] #[] ∧ geT fr 12 = .int .i64 (i2 : Nat) ∧ geT fr 13 = .int .i64 (x : Nat)) (j) ⟨j, rfl, by omega, hj2.symm, e0, e1, e4, e12, e13⟩ ?_)
    clear e0 e1 e4 e12 e13 fr
    rintro m fr _ ⟨x, rfl, hm, hs, e0, e1, e4, e12, e13⟩
    refine W_assoc ?_
    by_cases hx : i2 ≤ x
    · obtain ⟨A1, L1⟩ := own_ld H4 hds (i := x) (by omega)
      obtain ⟨A0, L0⟩ := own_ld H4 hds (i := a) (by omega)
      refine W_seq (W_draw0 [0, 1, 4, 12, 13, 139] rfl ?_)
      simp only [d93_20, WD_addrSl, WD_bin, WD_load, WD_move, WD_callT, DFunK_0, bin_leq, want_v, wantB_t, DPureK_some, DReadK_some, pastR_nil, joinF_nil, setH_self, geT_put, evO_tmp, List.map_cons, List.map_nil, Nat.reduceEqDiff, Nat.reduceAdd, ↓reduceIte, eq_self, true_and, Nat.zero_add, e0, e1, e4, e12, e13, WD_yes, decide_eq_true (show ((i2 : Nat) : Int) ≤ ((x : Nat) : Int) by omega), A1, L1, A0, L0]
      refine DCallK_of rfl (hc _ _ _) ?_
      rintro _ _ ⟨z, rfl, hz, rfl⟩
      simp only [WD_bin, WD_pick, pick_b, WD_un, un_not, bin_lss, want_v, wantB_t, WD_nil, DPureK_some, joinF_nil, joinAll_nil, setH_self, Nat.testBit, Nat.reduceShiftRight, Nat.reduceAnd, Nat.reduceBneDiff, List.all_nil, List.all_cons, List.filter_nil, List.filter_cons, geT_put, evO_tmp, evO_const, keep_nil, keep_cons, keepK_eq, Nat.reduceEqDiff, Nat.reduceAdd, ↓reduceIte, Bool.not_true, Bool.and_true, Bool.true_or, eq_self, Bool.false_eq_true, true_and, e0, e1, e4, e12, e13, WD_yes]
      clear e0 e1 e4 e12 e13
      intro fr e0 e1 e4 e12 e13 e139
      refine SeqK_n ?_
      cases hl : lt d1[x]! d1[a]! with
      | false =>
        rw [hl] at hz
        rw [hz] at e139
        rw [sd_go (p := fun x => !lt x d1[a]!) (d := d1) (by omega) hx (show (fun x => !lt x d1[a]!) d1[x]! = true by show (!lt d1[x]! d1[a]!) = true; rw [hl]; rfl)] at hs
        refine W_seq (W_cond e139 (fun _ => W_skip (SeqK_n ?_)) (fun h => absurd h (by decide)))
        refine W_block ?_
        have xm : ((x : Nat) : Int) - 1 = ((x - 1 : Nat) : Int) := by omega
        refine W_ops [0, 1, 4, 12, 13] ?_
        simp only [o93_21, WO_bin, WO_move, bin_sub, WO_nil, PureK_some, geT_put, evO_tmp, evO_const, keep_nil, keep_cons, keepK_eq, Nat.reduceEqDiff, ↓reduceIte, eq_self, e0, e1, e4, e12, e13, xm, wrap_i64 (n := ((x - 1 : Nat) : Int)) (by omega) (by omega)]
        clear e0 e1 e4 e12 e13
        intro fr e0 e1 e4 e12 e13
        refine BlkK_n ?_
        exact LoopK_n (m' := m - 1) (by omega) ⟨x - 1, rfl, by omega, hs, e0, e1, e4, e12, e13⟩
      | true =>
        rw [hl] at hz
        rw [hz] at e139
        rw [sd_stop2 (p := fun x => !lt x d1[a]!) (d := d1) (show (fun x => !lt x d1[a]!) d1[x]! = false by show (!lt d1[x]! d1[a]!) = false; rw [hl]; rfl)] at hs
        refine W_seq (W_cond e139 (fun h => absurd h (by decide)) (fun _ => W_exit (SeqK_x (LoopK_x (BlkK_e ?_)))))
        exact hR' _ _ ⟨rfl, by rw [← hs]; exact ⟨e0, e1, e4, e12, e13⟩⟩
    · rw [sd_stop1 hx] at hs
      refine W_seq (W_draw0 [0, 1, 4, 12, 13, 139] rfl ?_)
      simp only [d93_20, WD_bin, WD_move, WD_pick, pick_b, bin_leq, want_v, wantB_t, WD_nil, DPureK_some, DActK_some, preHead_nil, joinF_nil, joinAll_nil, setH_self, Nat.testBit, List.all_nil, List.filter_nil, geT_put, evO_tmp, evO_const, keep_nil, keep_cons, keepK_eq, Nat.reduceEqDiff, Nat.reduceAdd, ↓reduceIte, eq_self, Bool.false_eq_true, true_and, Nat.zero_add, e0, e1, e4, e12, e13, WD_no_move, WD_no_bin, WD_no_un, WD_no_addrSl, WD_no_load, WD_no_call, decide_eq_false (show ¬ ((i2 : Nat) : Int) ≤ ((x : Nat) : Int) by omega)]
      clear e0 e1 e4 e12 e13
      intro fr e0 e1 e4 e12 e13 e139
      refine SeqK_n ?_
      refine W_seq (W_cond e139 (fun h => absurd h (by decide)) (fun _ => W_exit (SeqK_x (LoopK_x (BlkK_e ?_)))))
      exact hR' _ _ ⟨rfl, by rw [← hs]; exact ⟨e0, e1, e4, e12, e13⟩⟩
  clear e0 e1 e4 e12 e13 fr
  rintro fr _ ⟨rfl, e0, e1, e4, e12, e13⟩
  refine SeqK_n ?_
  rw [partLoop_eq, ← hi2, ← hj2] at hT
  refine W_assoc ?_
  refine W_seq (W_ops [0, 1, 4, 12, 13, 144] ?_)
  simp only [o93_22, WO_bin, WO_move, bin_gtr, WO_nil, PureK_some, geT_put, evO_tmp, keep_nil, keep_cons, keepK_eq, Nat.reduceEqDiff, ↓reduceIte, eq_self, e0, e1, e4, e12, e13]
  clear e0 e1 e4 e12 e13
  intro fr e0 e1 e4 e12 e13 e144
  refine SeqK_n ?_
  by_cases hij : i2 > j2
  · rw [if_pos hij] at hT
    refine W_seq (W_if e144 (fun _ => W_exit (SeqK_x (BlkK_x (by decide) (LoopK_x (BlkK_e (SeqK_n ?_)))))) (fun h => absurd (by omega) h))
    obtain ⟨A1, L1⟩ := own_ld H4 hds (i := a) (by omega)
    obtain ⟨A2, L2⟩ := own_ld H4 hds (i := j2) (by omega)
    obtain ⟨s5, s6, st1, st2, H6⟩ := H4.swp hds (i := j2) (j := a) (by omega) (by omega)
    subst hT
    refine W_seq (W_draw0 [13] rfl ?_)
    simp only [d93_26, WD_addrSl, WD_load, WD_move, WD_store, WD_nil, DPureK_some, DReadK_some, DActK_some, pastR_nil, preHead_nil, preHead_cons, joinF_nil, joinAll_nil, setH_self, Nat.testBit, Nat.reduceShiftRight, Nat.reduceAnd, Nat.reduceBneDiff, List.all_nil, List.all_cons, List.filter_nil, List.filter_cons, geT_put, puT_none, evO_tmp, keep_nil, keep_cons, keepK_eq, Nat.reduceEqDiff, Nat.reduceAdd, ↓reduceIte, Bool.not_true, Bool.and_true, Bool.true_or, eq_self, Bool.false_eq_true, true_and, Nat.zero_add, e0, e1, e13, A1, A2, L1, L2, st1, st2]
    clear e0 e1 e4 e12 e13
    intro fr e13
    refine SeqK_n ?_
    refine W_seq (W_ops [10, 11] ?_)
    simp only [o93_27, WO_move, WO_nil, geT_put, evO_tmp, evO_const, keep_nil, keep_cons, keepK_eq, Nat.reduceEqDiff, ↓reduceIte, eq_self, e13]
    clear e13
    intro fr e10 e11
    refine SeqK_n ?_
    exact W_ret (Ret2 e10 e11 ⟨rfl, H6⟩)
  rw [if_neg hij] at hT
  refine W_seq (W_if e144 (fun h => absurd h (by omega)) (fun _ => W_skip (SeqK_n ?_)))
  obtain ⟨A1, L1⟩ := own_ld H4 hds (i := i2) (by omega)
  obtain ⟨A2, L2⟩ := own_ld H4 hds (i := j2) (by omega)
  obtain ⟨s5, s6, st1, st2, H6⟩ := H4.swp hds (i := i2) (j := j2) (by omega) (by omega)
  refine W_seq (W_draw0 [0, 1, 4, 12, 13] rfl ?_)
  simp only [d93_23, WD_addrSl, WD_load, WD_move, WD_store, WD_nil, DPureK_some, DReadK_some, DActK_some, pastR_nil, preHead_nil, preHead_cons, joinF_nil, joinAll_nil, setH_self, Nat.testBit, Nat.reduceShiftRight, Nat.reduceAnd, Nat.reduceBneDiff, List.all_nil, List.all_cons, List.filter_nil, List.filter_cons, geT_put, puT_none, evO_tmp, keep_nil, keep_cons, keepK_eq, Nat.reduceEqDiff, Nat.reduceAdd, ↓reduceIte, Bool.not_true, Bool.and_true, Bool.true_or, eq_self, Bool.false_eq_true, true_and, Nat.zero_add, e0, e1, e4, e12, e13, A1, A2, L1, L2, st1, st2]
  clear e0 e1 e4 e12 e13
  intro fr e0 e1 e4 e12 e13
  refine SeqK_n ?_
  have j0 : ((j2 : Nat) : Int) - 1 = ((j2 - 1 : Nat) : Int) := by omega
  refine W_seq (W_ops [0, 1, 4, 12, 13] ?_)
  simp only [o93_24, WO_bin, WO_move, bin_add, WO_nil, PureK_some, geT_put, evO_tmp, evO_const, keep_nil, keep_cons, keepK_eq, Nat.reduceEqDiff, ↓reduceIte, eq_self, e0, e1, e4, e12, e13, wrap_i64 (n := (i2 : Int) + 1) (by omega) (by omega)]
  clear e0 e1 e4 e12 e13
  intro fr e0 e1 e4 e12 e13
  refine SeqK_n ?_
  refine W_ops [0, 1, 4, 12, 13] ?_
  simp only [o93_25, WO_bin, WO_move, bin_sub, WO_nil, PureK_some, geT_put, evO_tmp, evO_const, keep_nil, keep_cons, keepK_eq, Nat.reduceEqDiff, ↓reduceIte, eq_self, e0, e1, e4, e12, e13, j0, wrap_i64 (n := ((j2 - 1 : Nat) : Int)) (by omega) (by omega)]
  clear e0 e1 e4 e12 e13
  intro fr e0 e1 e4 e12 e13
  exact BlkK_n (LoopK_n (m' := j2 - 1 + 1 - (i2 + 1)) (by omega) ⟨i2 + 1, j2 - 1, _, Nat.le_refl _, by omega, by omega, hT, e0, e1, e4, by rw [e12]; rfl, e13, H6⟩)

set_option maxHeartbeats 2000000 in
theorem run92 {X : Ctx} (hX : X.fns = fnsOf Try.prog) (ho : ∀ f args, f ≠ 10 ∧ f ≠ 24 → X.orc f args = none) {lt : UInt64 → UInt64 → Bool} {C : FuncId} (hc : ∀ (s : Mm) (x y : UInt64), CallP X C [.float .f64 x.toNat, .float .f64 y.toNat] s (fun r s' => ∃ z, r = .int .i64 z ∧ decide (z < 0) = lt x y ∧ s = s')) {s0 s : Mm} {l : List HP} {v : Value} {n a b pv : Nat} {d : Array UInt64} (H : Hold s0 s (HP.own 1 v n (flA d) :: l)) (hap : a ≤ pv) (hpb : pv < b) (hb : b ≤ n) (hn2 : n ≤ 1152921504606846976) :
    CallP X 92 [v, .int .i64 (a : Nat), .int .i64 (b : Nat), .int .i64 (pv : Nat), cmpV C] s (fun r s' => r = .int .i64 ((partitionEqual lt d a b pv).1 : Nat) ∧ Hold s0 s' (HP.own 1 v n (flA (partitionEqual lt d a b pv).2) :: l)) := by
  have hcv : cmpV C = .func (.func C) #[] #[] := rfl
  have hds := own_size H
  refine CallP_of (hX ▸ ir92_eq) (ho _ _ (by decide)) (Nat.le_of_ble_eq_true rfl) ?_
  rw [hcv]
  refine W_seq (W_ops [0, 1, 2, 3, 4] ?_)
  simp only [o92_0, WO_move, WO_nil, geT_put, frame_nil, frame_cons, evO_const, keep_nil, keep_cons, keepK_eq, Nat.reduceEqDiff, Nat.reduceAdd, ↓reduceIte, eq_self, Nat.zero_add]
  intro fr e0 e1 e2 e3 e4
  refine SeqK_n ?_
  obtain ⟨A1, L1⟩ := own_ld H hds (i := a) (by omega)
  obtain ⟨A2, L2⟩ := own_ld H hds (i := pv) (by omega)
  obtain ⟨s3, s4, st1, st2, H4⟩ := H.swp hds (i := a) (j := pv) (by omega) (by omega)
  refine W_seq (W_draw0 [0, 1, 2, 4] rfl ?_)
  simp only [d92_1, WD_addrSl, WD_load, WD_move, WD_store, WD_nil, DPureK_some, DReadK_some, DActK_some, pastR_nil, preHead_nil, preHead_cons, joinF_nil, joinAll_nil, setH_self, Nat.testBit, Nat.reduceShiftRight, Nat.reduceAnd, Nat.reduceBneDiff, List.all_nil, List.all_cons, List.filter_nil, List.filter_cons, geT_put, puT_none, evO_tmp, keep_nil, keep_cons, keepK_eq, Nat.reduceEqDiff, Nat.reduceAdd, ↓reduceIte, Bool.not_true, Bool.and_true, Bool.true_or, eq_self, Bool.false_eq_true, true_and, Nat.zero_add, e0, e1, e2, e3, e4, A1, A2, L1, L2, st1, st2]
  clear e0 e1 e2 e3 e4
  intro fr e0 e1 e2 e4
  refine SeqK_n ?_
  have i0 : ((b : Nat) : Int) - 1 = ((b - 1 : Nat) : Int) := by omega
  have i1' : ((a : Nat) : Int) + 1 = ((a + 1 : Nat) : Int) := by omega
  refine W_seq (W_ops [0, 1, 4, 11, 12] ?_)
  simp only [o92_2, WO_bin, WO_move, bin_add, bin_sub, WO_nil, PureK_some, geT_put, evO_tmp, evO_const, keep_nil, keep_cons, keepK_eq, Nat.reduceEqDiff, ↓reduceIte, eq_self, e0, e1, e2, e4, i1', wrap_i64 (n := ((a + 1 : Nat) : Int)) (by omega) (by omega), i0, wrap_i64 (n := ((b - 1 : Nat) : Int)) (by omega) (by omega)]
  clear e0 e1 e2 e4
  intro fr e0 e1 e4 e11 e12
  refine SeqK_n ?_
  obtain ⟨T, hT⟩ : ∃ T, partEqLoop lt a (a + 1) (b - 1) (swp d a pv) = T := ⟨_, rfl⟩
  have hP : partitionEqual lt d a b pv = T := hT
  rw [hP]
  refine W_seq (W_block (W_loop (fun m fr s1 => ∃ (i j : Nat) (d' : Array UInt64), j + 1 - i ≤ m ∧ a < i ∧ j < b ∧ partEqLoop lt a i j d' = T ∧ geT fr 0 = v ∧ geT fr 1 = .int .i64 (a : Nat) ∧ geT fr 4 = .func (.func C) #[] #[] ∧ geT fr 11 = .int .i64 (i : Nat) ∧ geT fr 12 = .int .i64 (j : Nat) ∧
    Hold s0 s1 (HP.own 1 v n (flA d') :: l)) n ⟨a + 1, b - 1, _, by omega, by omega, by omega, hT, e0, e1, e4, e11, e12, H4⟩ ?_))
  clear e0 e1 e4 e11 e12 fr hT H4 H hP hds A1 A2 L1 L2 st1 st2 s3 s4
  rintro m fr s4 ⟨i, j, d1, hm, hai, hjb, hT, e0, e1, e4, e11, e12, H4⟩
  have hds := own_size H4
  refine W_block ?_
  obtain ⟨i2, hi2⟩ : ∃ x, x = scanUp (fun x => !lt d1[a]! x) d1 j i := ⟨_, rfl⟩
  have bi2 : i ≤ i2 := by rw [hi2]; exact scanUp_ge _ _ _ _
  refine W_seq (W_cutN (fun fr1 s6 => s4 = s6 ∧ geT fr1 0 = v ∧ geT fr1 1 = .int .i64 (a : Nat) ∧ geT fr1 4 = .func (.func C) #[] #[] ∧ geT fr1 11 = .int .i64 (i2 : Nat) ∧ geT fr1 12 = .int .i64 (j : Nat)) ?_ ?_)
  · intro R' hR'
    refine W_block (W_loop (fun m fr s6 => ∃ x : Nat, s4 = s6 ∧ (j + 1 - x ≤ m) ∧ scanUp (fun x => !lt d1[a]! x) d1 j x = i2 ∧ geT fr 0 = v ∧ geT fr 1 = .int .i64 (a : Nat) ∧ geT fr 4 = .func (.func C) #[] #[] ∧ geT fr 11 = .int .i64 (x : Nat) ∧ geT fr 12 = .int .i64 (j : Nat)) (j + 1) ⟨i, rfl, by omega, hi2.symm, e0, e1, e4, e11, e12⟩ ?_)
    clear e0 e1 e4 e11 e12 fr
    rintro m fr _ ⟨x, rfl, hm, hs, e0, e1, e4, e11, e12⟩
    refine W_assoc ?_
    by_cases hx : x ≤ j
    · obtain ⟨A1, L1⟩ := own_ld H4 hds (i := x) (by omega)
      obtain ⟨A0, L0⟩ := own_ld H4 hds (i := a) (by omega)
      refine W_seq (W_draw0 [0, 1, 4, 11, 12, 47] rfl ?_)
      simp only [d92_5, WD_addrSl, WD_bin, WD_load, WD_move, WD_callT, DFunK_0, bin_leq, want_v, wantB_t, DPureK_some, DReadK_some, pastR_nil, joinF_nil, setH_self, geT_put, evO_tmp, List.map_cons, List.map_nil, Nat.reduceEqDiff, Nat.reduceAdd, ↓reduceIte, eq_self, true_and, Nat.zero_add, e0, e1, e4, e11, e12, WD_yes, decide_eq_true (show ((x : Nat) : Int) ≤ ((j : Nat) : Int) by omega), A1, L1, A0, L0]
      refine DCallK_of rfl (hc _ _ _) ?_
      rintro _ _ ⟨z, rfl, hz, rfl⟩
      simp only [WD_bin, WD_pick, pick_b, WD_un, un_not, bin_lss, want_v, wantB_t, WD_nil, DPureK_some, joinF_nil, joinAll_nil, setH_self, Nat.testBit, Nat.reduceShiftRight, Nat.reduceAnd, Nat.reduceBneDiff, List.all_nil, List.all_cons, List.filter_nil, List.filter_cons, geT_put, evO_tmp, evO_const, keep_nil, keep_cons, keepK_eq, Nat.reduceEqDiff, Nat.reduceAdd, ↓reduceIte, Bool.not_true, Bool.and_true, Bool.true_or, eq_self, Bool.false_eq_true, true_and, e0, e1, e4, e11, e12, WD_yes]
      clear e0 e1 e4 e11 e12
      intro fr e0 e1 e4 e11 e12 e47
      refine SeqK_n ?_
      cases hl : lt d1[a]! d1[x]! with
      | false =>
        rw [hl] at hz
        rw [hz] at e47
        rw [su_go (p := fun x => !lt d1[a]! x) (d := d1) hx (show (fun x => !lt d1[a]! x) d1[x]! = true by show (!lt d1[a]! d1[x]!) = true; rw [hl]; rfl)] at hs
        refine W_seq (W_cond e47 (fun _ => W_skip (SeqK_n ?_)) (fun h => absurd h (by decide)))
        refine W_block ?_
        refine W_ops [0, 1, 4, 11, 12] ?_
        simp only [o92_6, WO_bin, WO_move, bin_add, WO_nil, PureK_some, geT_put, evO_tmp, evO_const, keep_nil, keep_cons, keepK_eq, Nat.reduceEqDiff, ↓reduceIte, eq_self, e0, e1, e4, e11, e12, wrap_i64 (n := (x : Int) + 1) (by omega) (by omega)]
        clear e0 e1 e4 e11 e12
        intro fr e0 e1 e4 e11 e12
        refine BlkK_n ?_
        exact LoopK_n (m' := m - 1) (by omega) ⟨x + 1, rfl, by omega, hs, e0, e1, e4, by rw [e11]; rfl, e12⟩
      | true =>
        rw [hl] at hz
        rw [hz] at e47
        rw [su_stop2 (p := fun x => !lt d1[a]! x) (d := d1) (show (fun x => !lt d1[a]! x) d1[x]! = false by show (!lt d1[a]! d1[x]!) = false; rw [hl]; rfl)] at hs
        refine W_seq (W_cond e47 (fun h => absurd h (by decide)) (fun _ => W_exit (SeqK_x (LoopK_x (BlkK_e ?_)))))
        exact hR' _ _ ⟨rfl, by rw [← hs]; exact ⟨e0, e1, e4, e11, e12⟩⟩
    · rw [su_stop1 hx] at hs
      refine W_seq (W_draw0 [0, 1, 4, 11, 12, 47] rfl ?_)
      simp only [d92_5, WD_bin, WD_move, WD_pick, pick_b, bin_leq, want_v, wantB_t, WD_nil, DPureK_some, DActK_some, preHead_nil, joinF_nil, joinAll_nil, setH_self, Nat.testBit, List.all_nil, List.filter_nil, geT_put, evO_tmp, evO_const, keep_nil, keep_cons, keepK_eq, Nat.reduceEqDiff, Nat.reduceAdd, ↓reduceIte, eq_self, Bool.false_eq_true, true_and, Nat.zero_add, e0, e1, e4, e11, e12, WD_no_move, WD_no_bin, WD_no_un, WD_no_addrSl, WD_no_load, WD_no_call, decide_eq_false (show ¬ ((x : Nat) : Int) ≤ ((j : Nat) : Int) by omega)]
      clear e0 e1 e4 e11 e12
      intro fr e0 e1 e4 e11 e12 e47
      refine SeqK_n ?_
      refine W_seq (W_cond e47 (fun h => absurd h (by decide)) (fun _ => W_exit (SeqK_x (LoopK_x (BlkK_e ?_)))))
      exact hR' _ _ ⟨rfl, by rw [← hs]; exact ⟨e0, e1, e4, e11, e12⟩⟩
  clear e0 e1 e4 e11 e12 fr
  rintro fr _ ⟨rfl, e0, e1, e4, e11, e12⟩
  refine SeqK_n ?_
  obtain ⟨j2, hj2⟩ : ∃ x, x = scanDown (fun x => lt d1[a]! x) d1 i2 j := ⟨_, rfl⟩
  have bj2 : j2 ≤ j := by rw [hj2]; exact scanDown_le _ _ _ _
  refine W_seq (W_cutN (fun fr1 s6 => s4 = s6 ∧ geT fr1 0 = v ∧ geT fr1 1 = .int .i64 (a : Nat) ∧ geT fr1 4 = .func (.func C) #[] #[] ∧ geT fr1 11 = .int .i64 (i2 : Nat) ∧ geT fr1 12 = .int .i64 (j2 : Nat)) ?_ ?_)
  · intro R' hR'
    refine W_block (W_loop (fun m fr s6 => ∃ x : Nat, s4 = s6 ∧ (x ≤ j ∧ x ≤ m) ∧ scanDown (fun x => lt d1[a]! x) d1 i2 x = j2 ∧ geT fr 0 = v ∧ geT fr 1 = .int .i64 (a : Nat) ∧ geT fr 4 = .func (.func C) #[] #[] ∧ geT fr 11 = .int .i64 (i2 : Nat) ∧ geT fr 12 = .int .i64 (x : Nat)) (j) ⟨j, rfl, by omega, hj2.symm, e0, e1, e4, e11, e12⟩ ?_)
    clear e0 e1 e4 e11 e12 fr
    rintro m fr _ ⟨x, rfl, hm, hs, e0, e1, e4, e11, e12⟩
    refine W_assoc ?_
    by_cases hx : i2 ≤ x
    · obtain ⟨A1, L1⟩ := own_ld H4 hds (i := x) (by omega)
      obtain ⟨A0, L0⟩ := own_ld H4 hds (i := a) (by omega)
      refine W_seq (W_draw0 [0, 1, 4, 11, 12, 65] rfl ?_)
      simp only [d92_8, WD_addrSl, WD_bin, WD_load, WD_move, WD_callT, DFunK_0, bin_leq, want_v, wantB_t, DPureK_some, DReadK_some, pastR_nil, joinF_nil, setH_self, geT_put, evO_tmp, List.map_cons, List.map_nil, Nat.reduceEqDiff, Nat.reduceAdd, ↓reduceIte, eq_self, true_and, Nat.zero_add, e0, e1, e4, e11, e12, WD_yes, decide_eq_true (show ((i2 : Nat) : Int) ≤ ((x : Nat) : Int) by omega), A1, L1, A0, L0]
      refine DCallK_of rfl (hc _ _ _) ?_
      rintro _ _ ⟨z, rfl, hz, rfl⟩
      simp only [WD_bin, WD_pick, pick_b, bin_lss, want_v, wantB_t, WD_nil, DPureK_some, joinF_nil, joinAll_nil, setH_self, Nat.testBit, Nat.reduceShiftRight, Nat.reduceAnd, Nat.reduceBneDiff, List.all_nil, List.all_cons, List.filter_nil, List.filter_cons, geT_put, evO_tmp, evO_const, keep_nil, keep_cons, keepK_eq, Nat.reduceEqDiff, Nat.reduceAdd, ↓reduceIte, Bool.not_true, Bool.and_true, Bool.true_or, eq_self, Bool.false_eq_true, true_and, e0, e1, e4, e11, e12, WD_yes]
      clear e0 e1 e4 e11 e12
      intro fr e0 e1 e4 e11 e12 e65
      refine SeqK_n ?_
      cases hl : lt d1[a]! d1[x]! with
      | true =>
        rw [hl] at hz
        rw [hz] at e65
        rw [sd_go (p := fun x => lt d1[a]! x) (d := d1) (by omega) hx (show (fun x => lt d1[a]! x) d1[x]! = true by show (lt d1[a]! d1[x]!) = true; rw [hl])] at hs
        refine W_seq (W_cond e65 (fun _ => W_skip (SeqK_n ?_)) (fun h => absurd h (by decide)))
        refine W_block ?_
        have xm : ((x : Nat) : Int) - 1 = ((x - 1 : Nat) : Int) := by omega
        refine W_ops [0, 1, 4, 11, 12] ?_
        simp only [o92_9, WO_bin, WO_move, bin_sub, WO_nil, PureK_some, geT_put, evO_tmp, evO_const, keep_nil, keep_cons, keepK_eq, Nat.reduceEqDiff, ↓reduceIte, eq_self, e0, e1, e4, e11, e12, xm, wrap_i64 (n := ((x - 1 : Nat) : Int)) (by omega) (by omega)]
        clear e0 e1 e4 e11 e12
        intro fr e0 e1 e4 e11 e12
        refine BlkK_n ?_
        exact LoopK_n (m' := m - 1) (by omega) ⟨x - 1, rfl, by omega, hs, e0, e1, e4, e11, e12⟩
      | false =>
        rw [hl] at hz
        rw [hz] at e65
        rw [sd_stop2 (p := fun x => lt d1[a]! x) (d := d1) (show (fun x => lt d1[a]! x) d1[x]! = false by show (lt d1[a]! d1[x]!) = false; rw [hl])] at hs
        refine W_seq (W_cond e65 (fun h => absurd h (by decide)) (fun _ => W_exit (SeqK_x (LoopK_x (BlkK_e ?_)))))
        exact hR' _ _ ⟨rfl, by rw [← hs]; exact ⟨e0, e1, e4, e11, e12⟩⟩
    · rw [sd_stop1 hx] at hs
      refine W_seq (W_draw0 [0, 1, 4, 11, 12, 65] rfl ?_)
      simp only [d92_8, WD_bin, WD_move, WD_pick, pick_b, bin_leq, want_v, wantB_t, WD_nil, DPureK_some, DActK_some, preHead_nil, joinF_nil, joinAll_nil, setH_self, Nat.testBit, List.all_nil, List.filter_nil, geT_put, evO_tmp, evO_const, keep_nil, keep_cons, keepK_eq, Nat.reduceEqDiff, Nat.reduceAdd, ↓reduceIte, eq_self, Bool.false_eq_true, true_and, Nat.zero_add, e0, e1, e4, e11, e12, WD_no_move, WD_no_bin, WD_no_addrSl, WD_no_load, WD_no_call, decide_eq_false (show ¬ ((i2 : Nat) : Int) ≤ ((x : Nat) : Int) by omega)]
      clear e0 e1 e4 e11 e12
      intro fr e0 e1 e4 e11 e12 e65
      refine SeqK_n ?_
      refine W_seq (W_cond e65 (fun h => absurd h (by decide)) (fun _ => W_exit (SeqK_x (LoopK_x (BlkK_e ?_)))))
      exact hR' _ _ ⟨rfl, by rw [← hs]; exact ⟨e0, e1, e4, e11, e12⟩⟩
  clear e0 e1 e4 e11 e12 fr
  rintro fr _ ⟨rfl, e0, e1, e4, e11, e12⟩
  refine SeqK_n ?_
  rw [partEqLoop_eq, ← hi2, ← hj2] at hT
  refine W_assoc ?_
  refine W_seq (W_ops [0, 1, 4, 11, 12, 70] ?_)
  simp only [o92_10, WO_bin, WO_move, bin_gtr, WO_nil, PureK_some, geT_put, evO_tmp, keep_nil, keep_cons, keepK_eq, Nat.reduceEqDiff, ↓reduceIte, eq_self, e0, e1, e4, e11, e12]
  clear e0 e1 e4 e11 e12
  intro fr e0 e1 e4 e11 e12 e70
  refine SeqK_n ?_
  by_cases hij : i2 > j2
  · rw [if_pos hij] at hT
    refine W_seq (W_if e70 (fun _ => W_exit (SeqK_x (BlkK_x (by decide) (LoopK_x (BlkK_e (SeqK_n ?_)))))) (fun h => absurd (by omega) h))
    subst hT
    refine W_seq (W_ops [10] ?_)
    simp only [o92_14, WO_move, WO_nil, geT_put, evO_tmp, keep_nil, keep_cons, keepK_eq, ↓reduceIte, eq_self, e11]
    clear e0 e1 e4 e11 e12
    intro fr e10
    refine SeqK_n ?_
    exact W_ret (Ret1 e10 ⟨rfl, H4⟩)
  rw [if_neg hij] at hT
  refine W_seq (W_if e70 (fun h => absurd h (by omega)) (fun _ => W_skip (SeqK_n ?_)))
  obtain ⟨A1, L1⟩ := own_ld H4 hds (i := i2) (by omega)
  obtain ⟨A2, L2⟩ := own_ld H4 hds (i := j2) (by omega)
  obtain ⟨s5, s6, st1, st2, H6⟩ := H4.swp hds (i := i2) (j := j2) (by omega) (by omega)
  refine W_seq (W_draw0 [0, 1, 4, 11, 12] rfl ?_)
  simp only [d92_11, WD_addrSl, WD_load, WD_move, WD_store, WD_nil, DPureK_some, DReadK_some, DActK_some, pastR_nil, preHead_nil, preHead_cons, joinF_nil, joinAll_nil, setH_self, Nat.testBit, Nat.reduceShiftRight, Nat.reduceAnd, Nat.reduceBneDiff, List.all_nil, List.all_cons, List.filter_nil, List.filter_cons, geT_put, puT_none, evO_tmp, keep_nil, keep_cons, keepK_eq, Nat.reduceEqDiff, Nat.reduceAdd, ↓reduceIte, Bool.not_true, Bool.and_true, Bool.true_or, eq_self, Bool.false_eq_true, true_and, Nat.zero_add, e0, e1, e4, e11, e12, A1, A2, L1, L2, st1, st2]
  clear e0 e1 e4 e11 e12
  intro fr e0 e1 e4 e11 e12
  refine SeqK_n ?_
  have j0 : ((j2 : Nat) : Int) - 1 = ((j2 - 1 : Nat) : Int) := by omega
  refine W_seq (W_ops [0, 1, 4, 11, 12] ?_)
  simp only [o92_12, WO_bin, WO_move, bin_add, WO_nil, PureK_some, geT_put, evO_tmp, evO_const, keep_nil, keep_cons, keepK_eq, Nat.reduceEqDiff, ↓reduceIte, eq_self, e0, e1, e4, e11, e12, wrap_i64 (n := (i2 : Int) + 1) (by omega) (by omega)]
  clear e0 e1 e4 e11 e12
  intro fr e0 e1 e4 e11 e12
  refine SeqK_n ?_
  refine W_ops [0, 1, 4, 11, 12] ?_
  simp only [o92_13, WO_bin, WO_move, bin_sub, WO_nil, PureK_some, geT_put, evO_tmp, evO_const, keep_nil, keep_cons, keepK_eq, Nat.reduceEqDiff, ↓reduceIte, eq_self, e0, e1, e4, e11, e12, j0, wrap_i64 (n := ((j2 - 1 : Nat) : Int)) (by omega) (by omega)]
  clear e0 e1 e4 e11 e12
  intro fr e0 e1 e4 e11 e12
  exact BlkK_n (LoopK_n (m' := j2 - 1 + 1 - (i2 + 1)) (by omega) ⟨i2 + 1, j2 - 1, _, Nat.le_refl _, by omega, by omega, hT, e0, e1, e4, by rw [e11]; rfl, e12, H6⟩)

end Go.Proofs.Ytfjdihfflghfpaa
