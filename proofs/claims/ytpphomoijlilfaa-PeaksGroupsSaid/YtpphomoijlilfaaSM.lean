/- Sorting, walked: by a heap; by insertion, a few steps. -/
import Derived.Test.YtpphomoijlilfaaSL
namespace Go.Proofs.Ytpphomoijlilfaa.L
open Go Go.Vam Go.Sort
variable {α : Type} [Inhabited α]
set_option maxHeartbeats 1000000 in
theorem run72 {X : Ctx} (hX : X.fns = fnsOf Try.prog) (ho : ∀ f args, f ≠ 15 ∧ f ≠ 38 → X.orc f args = none) {eV : α → Value} {eC : α → List Value} (hE : El 1 none eV eC) {lt : α → α → Bool} {C : FuncId} {s0 : Mm} {L0 : List HP} {Q : Prop} (hc : ∀ (s : Mm) (l' : List HP) (x y : α), Hold s0 s l' → (∀ P ∈ L0, P ∈ l') → Q → CallP X C [eV x, eV y] s (fun r s' => ∃ z, r = .int .i64 z ∧ decide (z < 0) = lt x y ∧ s = s')) {s : Mm} {l : List HP} (hMem : ∀ P ∈ L0, P ∈ l) {v : Value} {n a b : Nat} {d : Array α} (hQok : 0 < n → Q) (H : Hold s0 s (HP.own 1 v n (flE eC d) :: l)) (hab : a < b) (hb : b ≤ n) (hn2 : n ≤ 1152921504606846976) :
    CallP X 72 [v, .int .i64 (a : Nat), .int .i64 (b : Nat), cmpV C] s (fun _ s' => Hold s0 s' (HP.own 1 v n (flE eC (heapSort lt d a b)) :: l)) := by
  obtain ⟨L, hL⟩ : ∃ L, L = b - a := ⟨_, rfl⟩
  have i0 : ((b : Nat) : Int) - ((a : Nat) : Int) = ((L : Nat) : Int) := by omega
  have i1 : ((L : Nat) : Int) - 1 = ((L - 1 : Nat) : Int) := by omega
  have i2 : ((L - 1 : Nat) : Int).tdiv 2 = (((L - 1) / 2 : Nat) : Int) := by rw [Int.tdiv_eq_ediv_of_nonneg (by omega)]; omega
  have w0 := qal (n := ((L : Nat) : Int)) (by omega) (by omega)
  have w1 := qal (n := ((L - 1 : Nat) : Int)) (by omega) (by omega)
  have w2 := qal (n := (((L - 1) / 2 : Nat) : Int)) (by omega) (by omega)
  refine CallP_of (hX ▸ ir72_eq) (ho _ _ (by decide)) (Nat.le_of_ble_eq_true rfl) ?_
  refine qak (qan [0, 1, 2, 3, 8] ?_)
  simp only [o72_0, qah, qaj, qad, frame_nil, qbc, qaf, qab, qaa, qac, Nat.reduceEqDiff, Nat.reduceAdd, ↓reduceIte, eq_self, Nat.zero_add]
  intro fr e0 e1 e2 e3 e8
  refine qai ?_
  refine qak (qan [0, 1, 2, 3, 8, 9] ?_)
  simp only [o72_1, qah, qaj, qad, qae, qab, qaa, qac, Nat.reduceEqDiff, ↓reduceIte, eq_self, e0, e1, e2, e3, e8]
  clear e0 e1 e2 e3 e8
  intro fr e0 e1 e2 e3 e8 e9
  refine qai ?_
  refine qak (qan [0, 3, 8, 9, 10] ?_)
  simp only [o72_2, qao, qah, qbd, qaj, qag, qad, qaf, qab, qaa, qac, Nat.reduceEqDiff, ↓reduceIte, eq_self, e0, e1, e2, e3, e8, e9, i0, w0]
  clear e0 e1 e2 e3 e8 e9
  intro fr e0 e3 e8 e9 e10
  refine qai ?_
  refine qau ?_
  refine qak (qan [0, 3, 8, 9, 10, 11] ?_)
  simp only [o72_3, qao, qah, bin_quo, qbd, qaj, qag, qad, qaf, qae, qab, qaa, qac, Nat.reduceEqDiff, ↓reduceIte, Int.reduceEq, eq_self, e0, e3, e8, e9, e10, i1, w1, i2, w2]
  clear e0 e3 e8 e9 e10
  intro fr e0 e3 e8 e9 e10 e11
  refine qai ?_
  obtain ⟨T1, hT1⟩ : ∃ T, heapBuild lt L a ((L - 1) / 2 + 1) d = T := ⟨_, rfl⟩
  have hT : heapSort lt d a b = heapPop lt a L T1 := by rw [← hT1, hL]; rfl
  rw [hT]
  refine qak (W_cutN (fun fr1 s6 => geT fr1 0 = v ∧ geT fr1 3 = cmpV C ∧ geT fr1 8 = .int .i64 (a : Nat) ∧ geT fr1 9 = .int .i64 ((0 : Nat) : Int) ∧ geT fr1 10 = .int .i64 (L : Nat) ∧ Hold s0 s6 (HP.own 1 v n (flE eC T1) :: l)) ?_ ?_)
  · intro R' hR'
    refine qat (W_loop (fun m fr s1 => ∃ (k : Nat) (d' : Array α), k = m ∧ k ≤ L ∧ heapBuild lt L a k d' = T1 ∧ geT fr 0 = v ∧ geT fr 3 = cmpV C ∧ geT fr 8 = .int .i64 (a : Nat) ∧ geT fr 9 = .int .i64 ((0 : Nat) : Int) ∧ geT fr 10 = .int .i64 (L : Nat) ∧ geT fr 11 = .int .i64 ((k : Int) - 1) ∧
      Hold s0 s1 (HP.own 1 v n (flE eC d') :: l)) ((L - 1) / 2 + 1) ⟨_, d, rfl, by omega, hT1, e0, e3, e8, e9, e10, e11.trans (congrArg (Value.int .i64) (by omega)), H⟩ ?_)
    clear e0 e3 e8 e9 e10 e11 fr hT1 H
    rintro m fr s1 ⟨k, d', rfl, hkL, hT1, e0, e3, e8, e9, e10, e11, H⟩
    refine qau ?_
    refine qak (qan [0, 3, 8, 9, 10, 11, 21] ?_)
    simp only [o72_5, qao, qah, bin_geq, qaj, qag, qad, qaf, qae, qab, qaa, qac, Nat.reduceEqDiff, ↓reduceIte, eq_self, e0, e3, e8, e9, e10, e11]
    clear e0 e3 e8 e9 e10 e11
    intro fr e0 e3 e8 e9 e10 e11 e21
    refine qai ?_
    refine W_while e21 (fun hlt => ?_) (fun hlt => ?_)
    · have e11' : geT fr 11 = .int .i64 ((k - 1 : Nat) : Int) := e11.trans (congrArg (Value.int .i64) (by omega))
      clear e11
      have e11 := e11'
      clear e11'
      refine qak (qat ?_)
      refine qan [0, 3, 8, 9, 10, 11] ?_
      simp only [o72_6, WO_call, qah, qad, qaf, List.map_cons, List.map_nil, Nat.reduceEqDiff, ↓reduceIte, eq_self, e0, e3, e8, e10, e11]
      refine CallK_of (run84 hX ho hE hc (fun P hP => by simp [hMem P hP]) hQok H (lo := k - 1) (hi := L) (first := a) (by omega) (by omega) hn2) ?_
      rintro _ s2 H2
      simp only [qaj, qad, qab, qaa, qac, Nat.reduceEqDiff, ↓reduceIte, e0, e3, e8, e9, e10, e11]
      clear e0 e3 e8 e9 e10 e11
      intro fr e0 e3 e8 e9 e10 e11
      refine BlkK_n (qai ?_)
      refine qan [0, 3, 8, 9, 10, 11] ?_
      simp only [o72_7, qao, qah, qbd, qaj, qag, qad, qaf, qae, qab, qaa, qac, Nat.reduceEqDiff, ↓reduceIte, eq_self, e0, e3, e8, e9, e10, e11, qal (n := ((k - 1 : Nat) : Int) - 1) (by omega) (by omega)]
      clear e0 e3 e8 e9 e10 e11
      intro fr e0 e3 e8 e9 e10 e11
      have hk : heapBuild lt L a k d' = heapBuild lt L a (k - 1) (siftDown lt L a (k - 1) d') := by
        obtain ⟨k', rfl⟩ : ∃ k', k = k' + 1 := ⟨k - 1, by omega⟩
        rfl
      rw [hk] at hT1
      exact LoopK_n (m' := k - 1) (by omega) ⟨k - 1, _, rfl, by omega, hT1, e0, e3, e8, e9, e10, e11, H2⟩
    · have hk0 : k = 0 := by omega
      subst hk0
      have : d' = T1 := hT1
      subst this
      exact LoopK_x (BlkK_e (hR' _ _ ⟨e0, e3, e8, e9, e10, H⟩))
  clear e0 e3 e8 e9 e10 e11 fr hT1 H
  rintro fr s1 ⟨e0, e3, e8, e9, e10, H⟩
  refine qai ?_
  obtain ⟨T, hT⟩ : ∃ T, heapPop lt a L T1 = T := ⟨_, rfl⟩
  rw [hT]
  refine qak (qan [0, 3, 8, 9, 12] ?_)
  simp only [o72_8, qao, qah, qbd, qaj, qag, qad, qaf, qae, qab, qaa, qac, Nat.reduceEqDiff, ↓reduceIte, eq_self, e0, e3, e8, e9, e10, i1, w1]
  clear e0 e3 e8 e9 e10
  intro fr e0 e3 e8 e9 e12
  refine qai ?_
  refine qat (W_loop (fun m fr s1 => ∃ (k : Nat) (d' : Array α), k = m ∧ k ≤ L ∧ heapPop lt a k d' = T ∧ geT fr 0 = v ∧ geT fr 3 = cmpV C ∧ geT fr 8 = .int .i64 (a : Nat) ∧ geT fr 9 = .int .i64 ((0 : Nat) : Int) ∧ geT fr 12 = .int .i64 ((k : Int) - 1) ∧
      Hold s0 s1 (HP.own 1 v n (flE eC d') :: l)) L ⟨_, _, rfl, by omega, hT, e0, e3, e8, e9, e12.trans (congrArg (Value.int .i64) (by omega)), H⟩ ?_)
  clear e0 e3 e8 e9 e12 fr hT H
  rintro m fr s1 ⟨k, d', rfl, hkL, hT, e0, e3, e8, e9, e12, H⟩
  refine qau ?_
  refine qak (qan [0, 3, 8, 9, 12, 33] ?_)
  simp only [o72_10, qao, qah, bin_geq, qaj, qag, qad, qaf, qae, qab, qaa, qac, Nat.reduceEqDiff, ↓reduceIte, eq_self, e0, e3, e8, e9, e12]
  clear e0 e3 e8 e9 e12
  intro fr e0 e3 e8 e9 e12 e33
  refine qai ?_
  refine W_while e33 (fun hlt => ?_) (fun hlt => ?_)
  · have e12' : geT fr 12 = .int .i64 ((k - 1 : Nat) : Int) := e12.trans (congrArg (Value.int .i64) (by omega))
    clear e12
    have e12 := e12'
    clear e12'
    have hds := own_size hE H
    refine qak (qat ?_)
    have f0 : ((a : Nat) : Int) + ((k - 1 : Nat) : Int) = ((a + (k - 1) : Nat) : Int) := by omega
    obtain ⟨A1, L1⟩ := own_ld1 hE H hds (i := a) (by omega)
    obtain ⟨A2, L2⟩ := own_ld1 hE H hds (i := a + (k - 1)) (by omega)
    obtain ⟨s5, s6, st1, st2, H6⟩ := H.swp1 hE hds (i := a) (j := a + (k - 1)) (by omega) (by omega)
    refine qak (qbb [0, 3, 8, 9, 12] rfl ?_)
    simp only [d72_11, qay, WD_bin, WD_load, qba, WD_store, qax, WD_nil, qam, qas, qaz, qaw, qav, preHead_cons, qar, qaq, qap, Nat.testBit, Nat.reduceShiftRight, Nat.reduceAnd, Nat.reduceBneDiff, List.all_nil, List.all_cons, List.filter_nil, List.filter_cons, qad, puT_none, qaf, qab, qaa, qac, Nat.reduceEqDiff, Nat.reduceAdd, ↓reduceIte, Bool.not_true, Bool.and_true, Bool.true_or, eq_self, Bool.false_eq_true, true_and, Nat.zero_add, e0, e3, e8, e9, e12, f0, qal (n := ((a + (k - 1) : Nat) : Int)) (by omega) (by omega), A1, A2, L1, L2, st1, st2]
    clear e0 e3 e8 e9 e12
    intro fr e0 e3 e8 e9 e12
    refine qai ?_
    refine qan [0, 3, 8, 9, 12] ?_
    simp only [o72_12, WO_call, qah, qad, qaf, List.map_cons, List.map_nil, Nat.reduceEqDiff, ↓reduceIte, eq_self, e0, e3, e8, e9, e12]
    refine CallK_of (run84 hX ho hE hc (fun P hP => by simp [hMem P hP]) hQok H6 (lo := 0) (hi := k - 1) (first := a) (by omega) (by omega) hn2) ?_
    rintro _ s2 H2
    simp only [qaj, qad, qab, qaa, qac, Nat.reduceEqDiff, ↓reduceIte, e0, e3, e8, e9, e12]
    clear e0 e3 e8 e9 e12
    intro fr e0 e3 e8 e9 e12
    refine BlkK_n (qai ?_)
    refine qan [0, 3, 8, 9, 12] ?_
    simp only [o72_13, qao, qah, qbd, qaj, qag, qad, qaf, qae, qab, qaa, qac, Nat.reduceEqDiff, ↓reduceIte, eq_self, e0, e3, e8, e9, e12, qal (n := ((k - 1 : Nat) : Int) - 1) (by omega) (by omega)]
    clear e0 e3 e8 e9 e12
    intro fr e0 e3 e8 e9 e12
    have hk : heapPop lt a k d' = heapPop lt a (k - 1) (siftDown lt (k - 1) a 0 (swp d' a (a + (k - 1)))) := by
      obtain ⟨k', rfl⟩ : ∃ k', k = k' + 1 := ⟨k - 1, by omega⟩
      rfl
    rw [hk] at hT
    exact LoopK_n (m' := k - 1) (by omega) ⟨k - 1, _, rfl, by omega, hT, e0, e3, e8, e9, e12, H2⟩
  · have hk0 : k = 0 := by omega
    subst hk0
    have : d' = T := hT
    subst this
    exact LoopK_x (BlkK_e (Ret0n H))
end Go.Proofs.Ytpphomoijlilfaa.L

/- Sorting, walked: by insertion, a few steps. -/
namespace Go.Proofs.Ytpphomoijlilfaa.L
open Go Go.Vam Go.Sort
variable {α : Type} [Inhabited α]
theorem ss_stop1 {lt : α → α → Bool} {d : Array α} {b i : Nat} (h : ¬ i < b) : scanSorted lt d b i = i := by
  rw [scanSorted, if_neg]; simp; omega
theorem ss_stop2 {lt : α → α → Bool} {d : Array α} {b i : Nat} (h : lt d[i]! d[i - 1]! = true) : scanSorted lt d b i = i := by
  rw [scanSorted, if_neg]; rw [h]; simp
theorem ss_go {lt : α → α → Bool} {d : Array α} {b i : Nat} (h0 : i < b) (h : lt d[i]! d[i - 1]! = false) : scanSorted lt d b i = scanSorted lt d b (i + 1) := by
  rw [scanSorted, if_pos]; rw [h]; simp; omega
theorem dn_zero {lt : α → α → Bool} {d : Array α} : shiftDown lt 0 d = d := rfl
theorem dn_stop {lt : α → α → Bool} {d : Array α} {j : Nat} (h : lt d[j]! d[j - 1]! = false) : shiftDown lt j d = d := by
  cases j with
  | zero => rfl
  | succ j => simp only [Nat.add_sub_cancel] at h; rw [shiftDown, h]; rfl
theorem dn_go {lt : α → α → Bool} {d : Array α} {j : Nat} (h0 : 1 ≤ j) (h : lt d[j]! d[j - 1]! = true) : shiftDown lt j d = shiftDown lt (j - 1) (swp d j (j - 1)) := by
  cases j with
  | zero => omega
  | succ j => simp only [Nat.add_sub_cancel] at h ⊢; rw [shiftDown, h]; rfl
theorem up_stop1 {lt : α → α → Bool} {d : Array α} {b j : Nat} (h : ¬ j < b) : shiftUp lt b j d = d := by
  rw [shiftUp, if_neg h]
theorem up_stop2 {lt : α → α → Bool} {d : Array α} {b j : Nat} (h0 : j < b) (h : lt d[j]! d[j - 1]! = false) : shiftUp lt b j d = d := by
  rw [shiftUp, if_pos h0, h]; rfl
theorem up_go {lt : α → α → Bool} {d : Array α} {b j : Nat} (h0 : j < b) (h : lt d[j]! d[j - 1]! = true) : shiftUp lt b j d = shiftUp lt b (j + 1) (swp d j (j - 1)) := by
  rw [shiftUp, if_pos h0, h]; rfl
set_option maxHeartbeats 4000000 in
theorem run76 {X : Ctx} (hX : X.fns = fnsOf Try.prog) (ho : ∀ f args, f ≠ 15 ∧ f ≠ 38 → X.orc f args = none) {eV : α → Value} {eC : α → List Value} (hE : El 1 none eV eC) {lt : α → α → Bool} {C : FuncId} {s0 : Mm} {L0 : List HP} {Q : Prop} (hc : ∀ (s : Mm) (l' : List HP) (x y : α), Hold s0 s l' → (∀ P ∈ L0, P ∈ l') → Q → CallP X C [eV x, eV y] s (fun r s' => ∃ z, r = .int .i64 z ∧ decide (z < 0) = lt x y ∧ s = s')) {s : Mm} {l : List HP} (hMem : ∀ P ∈ L0, P ∈ l) {v : Value} {n a b : Nat} {d : Array α} (hQok : 0 < n → Q) (H : Hold s0 s (HP.own 1 v n (flE eC d) :: l)) (hab : a < b) (hb : b ≤ n) (hn2 : n ≤ 1152921504606846976) :
    CallP X 76 [v, .int .i64 (a : Nat), .int .i64 (b : Nat), cmpV C] s (fun r s' => r = .bool (partialInsertionSort lt d a b).2 ∧ Hold s0 s' (HP.own 1 v n (flE eC (partialInsertionSort lt d a b).1) :: l)) := by
  have hcv : cmpV C = .func (.func C) #[] #[] := rfl
  have ea : ((a : Nat) : Int) + 1 = ((a + 1 : Nat) : Int) := by omega
  refine CallP_of (hX ▸ ir76_eq) (ho _ _ (by decide)) (Nat.le_of_ble_eq_true rfl) ?_
  rw [hcv]
  refine qak (qan [0, 1, 2, 3] ?_)
  simp only [o76_0, qah, qaj, qad, frame_nil, qbc, qae, qab, qaa, qac, Nat.reduceEqDiff, Nat.reduceAdd, ↓reduceIte, eq_self, Nat.zero_add]
  intro fr e0 e1 e2 e3
  refine qai ?_
  refine qak (qan [0, 1, 2, 3, 9] ?_)
  simp only [o76_1, qao, qah, qax, qaj, qag, qad, qaf, qae, qab, qaa, qac, Nat.reduceEqDiff, ↓reduceIte, eq_self, e0, e1, e2, e3, ea, qal (n := ((a + 1 : Nat) : Int)) (by omega) (by omega)]
  clear e0 e1 e2 e3
  intro fr e0 e1 e2 e3 e9
  refine qai ?_
  refine qau ?_
  refine qak (qan [0, 1, 2, 3, 9, 10] ?_)
  simp only [o76_2, qah, qaj, qad, qae, qab, qaa, qac, Nat.reduceEqDiff, ↓reduceIte, eq_self, e0, e1, e2, e3, e9]
  clear e0 e1 e2 e3 e9
  intro fr e0 e1 e2 e3 e9 e10
  refine qai ?_
  obtain ⟨T, hT⟩ : ∃ T, partialIns lt a b 5 (a + 1) d = T := ⟨_, rfl⟩
  have hT0 : partialInsertionSort lt d a b = T := hT
  rw [hT0]
  clear hT0
  refine qak (qat (W_loop (fun m fr s1 => ∃ (c i : Nat) (d' : Array α), m + c = 5 ∧ a < i ∧ i ≤ b ∧ partialIns lt a b m i d' = T ∧ geT fr 0 = v ∧ geT fr 1 = .int .i64 (a : Nat) ∧ geT fr 2 = .int .i64 (b : Nat) ∧ geT fr 3 = .func (.func C) #[] #[] ∧ geT fr 9 = .int .i64 (i : Nat) ∧ geT fr 10 = .int .i64 (c : Nat) ∧
    Hold s0 s1 (HP.own 1 v n (flE eC d') :: l)) 5 ⟨0, a + 1, d, rfl, by omega, by omega, hT, e0, e1, e2, e3, e9, e10, H⟩ ?_))
  clear e0 e1 e2 e3 e9 e10 fr H hT s
  rintro m fr s1 ⟨c, i, d1, hm, hai, hib, hT, e0, e1, e2, e3, e9, e10, H⟩
  have hds := own_size hE H
  refine qau ?_
  refine qak (qan [0, 1, 2, 3, 9, 10, 16] ?_)
  simp only [o76_4, qao, qah, bin_lss, qaj, qag, qad, qaf, qae, qab, qaa, qac, Nat.reduceEqDiff, ↓reduceIte, eq_self, e0, e1, e2, e3, e9, e10]
  clear e0 e1 e2 e3 e9 e10
  intro fr e0 e1 e2 e3 e9 e10 e16
  refine qai ?_
  refine W_while e16 (fun hlt => ?_) (fun hlt => ?_)
  · obtain ⟨q, hq⟩ : ∃ q, m = q + 1 := ⟨m - 1, by omega⟩
    subst hq
    rw [partialIns_succ] at hT
    refine qak (qat ?_)
    obtain ⟨I, hI⟩ : ∃ x, x = scanSorted lt d1 b i := ⟨_, rfl⟩
    rw [← hI] at hT
    refine qak (W_cutN (fun fr1 s6 => s1 = s6 ∧ (i ≤ I ∧ I ≤ b) ∧ geT fr1 0 = v ∧ geT fr1 1 = .int .i64 (a : Nat) ∧ geT fr1 2 = .int .i64 (b : Nat) ∧ geT fr1 3 = .func (.func C) #[] #[] ∧ geT fr1 9 = .int .i64 (I : Nat) ∧ geT fr1 10 = .int .i64 (c : Nat)) ?_ ?_)
    · intro R' hR'
      refine qat (W_loop (fun m fr s6 => ∃ x : Nat, s1 = s6 ∧ (b - x ≤ m ∧ i ≤ x ∧ x ≤ b) ∧ scanSorted lt d1 b x = I ∧ geT fr 0 = v ∧ geT fr 1 = .int .i64 (a : Nat) ∧ geT fr 2 = .int .i64 (b : Nat) ∧ geT fr 3 = .func (.func C) #[] #[] ∧ geT fr 9 = .int .i64 (x : Nat) ∧ geT fr 10 = .int .i64 (c : Nat)) b ⟨i, rfl, by omega, hI.symm, e0, e1, e2, e3, e9, e10⟩ ?_)
      clear e0 e1 e2 e3 e9 e10 e16 fr
      rintro m' fr _ ⟨x, rfl, hm', hs, e0, e1, e2, e3, e9, e10⟩
      refine qau ?_
      by_cases hx : x < b
      · have j0 : ((x : Nat) : Int) - 1 = ((x - 1 : Nat) : Int) := by omega
        have wj := qal (n := ((x - 1 : Nat) : Int)) (by omega) (by omega)
        obtain ⟨A1, L1⟩ := own_ld1 hE H hds (i := x) (by omega)
        obtain ⟨A2, L2⟩ := own_ld1 hE H hds (i := x - 1) (by omega)
        refine qak (qbb [0, 1, 2, 3, 9, 10, 36] rfl ?_)
        simp only [d76_6, qay, WD_bin, WD_load, qba, WD_callT, DFunK_0, bin_lss, qbd, want_v, wantB_t, qam, qas, qaw, qar, qap, qad, qaf, qae, List.map_cons, List.map_nil, Nat.reduceEqDiff, Nat.reduceAdd, ↓reduceIte, eq_self, true_and, Nat.zero_add, e0, e2, e3, e9, WD_yes, decide_eq_true (show ((x : Nat) : Int) < ((b : Nat) : Int) by omega), A1, L1, j0, wj, A2, L2]
        refine DCallK_of rfl (hc _ _ _ _ (by assumption) (fun P hP => by simp [hMem P hP]) (hQok (by omega))) ?_
        rintro _ _ ⟨z, rfl, hz, rfl⟩
        simp only [WD_bin, WD_pick, pick_b, WD_un, un_not, bin_lss, want_v, wantB_t, WD_nil, qam, qar, qaq, qap, Nat.testBit, Nat.reduceShiftRight, Nat.reduceAnd, Nat.reduceBneDiff, List.all_nil, List.all_cons, List.filter_nil, List.filter_cons, qad, qaf, qae, qab, qaa, qac, Nat.reduceEqDiff, Nat.reduceAdd, ↓reduceIte, Bool.not_true, Bool.and_true, Bool.true_or, eq_self, Bool.false_eq_true, true_and, e0, e1, e2, e3, e9, e10, WD_yes]
        clear e0 e1 e2 e3 e9 e10
        intro fr e0 e1 e2 e3 e9 e10 e36
        refine qai ?_
        cases hl : lt d1[x]! d1[x - 1]! with
        | false =>
          rw [hl] at hz
          rw [hz] at e36
          rw [ss_go hx hl] at hs
          refine qak (W_cond e36 (fun _ => W_skip (qai ?_)) (fun h => absurd h (by decide)))
          refine qat ?_
          refine qan [0, 1, 2, 3, 9, 10] ?_
          simp only [o76_7, qao, qah, qax, qaj, qag, qad, qaf, qae, qab, qaa, qac, Nat.reduceEqDiff, ↓reduceIte, eq_self, e0, e1, e2, e3, e9, e10, qal (n := (x : Int) + 1) (by omega) (by omega)]
          clear e0 e1 e2 e3 e9 e10
          intro fr e0 e1 e2 e3 e9 e10
          exact BlkK_n (LoopK_n (m' := m' - 1) (by omega) ⟨x + 1, rfl, by omega, hs, e0, e1, e2, e3, by rw [e9]; rfl, e10⟩)
        | true =>
          rw [hl] at hz
          rw [hz] at e36
          rw [ss_stop2 hl] at hs
          refine qak (W_cond e36 (fun h => absurd h (by decide)) (fun _ => W_exit (SeqK_x (LoopK_x (BlkK_e ?_)))))
          exact hR' _ _ ⟨rfl, by omega, by rw [← hs]; exact ⟨e0, e1, e2, e3, e9, e10⟩⟩
      · rw [ss_stop1 hx] at hs
        refine qak (qbb [0, 1, 2, 3, 9, 10, 36] rfl ?_)
        simp only [d76_6, WD_bin, qba, WD_pick, pick_b, bin_lss, want_v, wantB_t, WD_nil, qam, qaz, qav, qar, qaq, qap, Nat.testBit, List.all_nil, List.filter_nil, qad, qaf, qae, qab, qaa, qac, Nat.reduceEqDiff, Nat.reduceAdd, ↓reduceIte, eq_self, Bool.false_eq_true, true_and, Nat.zero_add, e0, e1, e2, e3, e9, e10, WD_no_move, WD_no_bin, WD_no_un, WD_no_addrSl, WD_no_load, WD_no_call, decide_eq_false (show ¬ ((x : Nat) : Int) < ((b : Nat) : Int) by omega)]
        clear e0 e1 e2 e3 e9 e10
        intro fr e0 e1 e2 e3 e9 e10 e36
        refine qai ?_
        refine qak (W_cond e36 (fun h => absurd h (by decide)) (fun _ => W_exit (SeqK_x (LoopK_x (BlkK_e ?_)))))
        exact hR' _ _ ⟨rfl, by omega, by rw [← hs]; exact ⟨e0, e1, e2, e3, e9, e10⟩⟩
    clear e0 e1 e2 e3 e9 e10 e16 fr
    rintro fr _ ⟨rfl, hIb, e0, e1, e2, e3, e9, e10⟩
    refine qai ?_
    refine qau ?_
    refine qak (qan [0, 1, 2, 3, 9, 10, 41] ?_)
    simp only [o76_8, qao, qah, bin_eql, qaj, qag, qad, qaf, qab, qaa, qac, Nat.reduceEqDiff, ↓reduceIte, eq_self, e0, e1, e2, e3, e9, e10]
    clear e0 e1 e2 e3 e9 e10
    intro fr e0 e1 e2 e3 e9 e10 e41
    refine qai ?_
    by_cases hIe : I = b
    · rw [if_pos hIe] at hT
      refine qak (W_if e41 (fun _ => ?_) (fun h => absurd (by omega) h))
      refine qak (qan [8] ?_)
      simp only [o76_9, qah, qaj, qad, qae, qab, qaa, qac, ↓reduceIte, eq_self]
      clear e0 e1 e2 e3 e9 e10 e41
      intro fr e8
      refine qai ?_
      subst hT
      exact W_ret (SeqK_r (BlkK_r (SeqK_r (LoopK_r (BlkK_r (SeqK_r (Ret1 e8 ⟨rfl, H⟩)))))))
    rw [if_neg hIe] at hT
    refine qak (W_if e41 (fun h => absurd h (by omega)) (fun _ => W_skip (qai ?_)))
    have d0 : ((b : Nat) : Int) - ((a : Nat) : Int) = ((b - a : Nat) : Int) := by omega
    refine qau ?_
    refine qak (qan [0, 1, 2, 3, 9, 10, 45] ?_)
    simp only [o76_10, qao, qah, bin_lss, qbd, qaj, qag, qad, qaf, qae, qab, qaa, qac, Nat.reduceEqDiff, ↓reduceIte, eq_self, e0, e1, e2, e3, e9, e10, d0, qal (n := ((b - a : Nat) : Int)) (by omega) (by omega)]
    clear e0 e1 e2 e3 e9 e10
    intro fr e0 e1 e2 e3 e9 e10 e45
    refine qai ?_
    by_cases h50 : b - a < 50
    · rw [if_pos h50] at hT
      refine qak (W_if e45 (fun _ => ?_) (fun h => absurd (by omega) h))
      refine qak (qan [8] ?_)
      simp only [o76_11, qah, qaj, qad, qae, qab, qaa, qac, ↓reduceIte, eq_self]
      clear e0 e1 e2 e3 e9 e10 e45
      intro fr e8
      refine qai ?_
      subst hT
      exact W_ret (SeqK_r (BlkK_r (SeqK_r (LoopK_r (BlkK_r (SeqK_r (Ret1 e8 ⟨rfl, H⟩)))))))
    rw [if_neg h50] at hT
    refine qak (W_if e45 (fun h => absurd h (by omega)) (fun _ => W_skip (qai ?_)))
    have j0 : ((I : Nat) : Int) - 1 = ((I - 1 : Nat) : Int) := by omega
    have wj := qal (n := ((I - 1 : Nat) : Int)) (by omega) (by omega)
    obtain ⟨A1, L1⟩ := own_ld1 hE H hds (i := I) (by omega)
    obtain ⟨A2, L2⟩ := own_ld1 hE H hds (i := I - 1) (by omega)
    obtain ⟨s5, s6, st1, st2, H6⟩ := H.swp1 hE hds (i := I) (j := I - 1) (by omega) (by omega)
    refine qak (qbb [0, 1, 2, 3, 9, 10] rfl ?_)
    simp only [d76_12, qay, WD_bin, WD_load, qba, WD_store, qbd, WD_nil, qam, qas, qaz, qaw, qav, preHead_cons, qar, qaq, qap, Nat.testBit, Nat.reduceShiftRight, Nat.reduceAnd, Nat.reduceBneDiff, List.all_nil, List.all_cons, List.filter_nil, List.filter_cons, qad, puT_none, qaf, qae, qab, qaa, qac, Nat.reduceEqDiff, Nat.reduceAdd, ↓reduceIte, Bool.not_true, Bool.and_true, Bool.true_or, eq_self, Bool.false_eq_true, true_and, Nat.zero_add, e0, e1, e2, e3, e9, e10, j0, wj, A1, A2, L1, L2, st1, st2]
    clear e0 e1 e2 e3 e9 e10
    intro fr e0 e1 e2 e3 e9 e10
    refine qai ?_
    clear A1 A2 L1 L2 st1 st2 s5 H hds
    obtain ⟨D2, hD2⟩ : ∃ x, x = swp d1 I (I - 1) := ⟨_, rfl⟩
    rw [← hD2] at H6 hT
    have d1' : ((I : Nat) : Int) - ((a : Nat) : Int) = ((I - a : Nat) : Int) := by omega
    refine qau ?_
    refine qak (qan [0, 1, 2, 3, 9, 10, 65] ?_)
    simp only [o76_13, qao, qah, bin_geq, qbd, qaj, qag, qad, qaf, qae, qab, qaa, qac, Nat.reduceEqDiff, ↓reduceIte, eq_self, e0, e1, e2, e3, e9, e10, d1', qal (n := ((I - a : Nat) : Int)) (by omega) (by omega)]
    clear e0 e1 e2 e3 e9 e10
    intro fr e0 e1 e2 e3 e9 e10 e65
    refine qai ?_
    refine qak (W_cutN (fun fr1 s6 => geT fr1 0 = v ∧ geT fr1 1 = .int .i64 (a : Nat) ∧ geT fr1 2 = .int .i64 (b : Nat) ∧ geT fr1 3 = .func (.func C) #[] #[] ∧ geT fr1 9 = .int .i64 (I : Nat) ∧ geT fr1 10 = .int .i64 (c : Nat) ∧ Hold s0 s6 (HP.own 1 v n (flE eC (fixDown lt a I D2)) :: l)) ?_ ?_)
    · intro R' hR'
      by_cases h2 : I - a ≥ 2
      · refine W_if e65 (fun _ => ?_) (fun h => absurd (by omega) h)
        refine qak (qan [0, 1, 2, 3, 9, 10, 11] ?_)
        simp only [o76_14, qao, qah, qbd, qaj, qag, qad, qaf, qae, qab, qaa, qac, Nat.reduceEqDiff, ↓reduceIte, eq_self, e0, e1, e2, e3, e9, e10, j0, wj]
        clear e0 e1 e2 e3 e9 e10 e65
        intro fr e0 e1 e2 e3 e9 e10 e11
        refine qai ?_
        obtain ⟨T3, hT3⟩ : ∃ T, shiftDown lt (I - 1) D2 = T := ⟨_, rfl⟩
        have hfd : fixDown lt a I D2 = T3 := by rw [fixDown, if_pos h2]; exact hT3
        rw [hfd] at hR'
        refine qat (W_loop (fun m fr s6 => ∃ (x : Nat) (d' : Array α), x = m ∧ x < I ∧ shiftDown lt x d' = T3 ∧ geT fr 0 = v ∧ geT fr 1 = .int .i64 (a : Nat) ∧ geT fr 2 = .int .i64 (b : Nat) ∧ geT fr 3 = .func (.func C) #[] #[] ∧ geT fr 9 = .int .i64 (I : Nat) ∧ geT fr 10 = .int .i64 (c : Nat) ∧ geT fr 11 = .int .i64 (x : Nat) ∧
          Hold s0 s6 (HP.own 1 v n (flE eC d') :: l)) (I - 1) ⟨I - 1, D2, rfl, by omega, hT3, e0, e1, e2, e3, e9, e10, e11, H6⟩ ?_)
        clear e0 e1 e2 e3 e9 e10 e11 fr H6 hT3 hfd
        rintro m' fr s7 ⟨x, d2, hxm, hxI, hT3, e0, e1, e2, e3, e9, e10, e11, H⟩
        subst hxm
        have hds := own_size hE H
        refine qau ?_
        refine qak (qan [0, 1, 2, 3, 9, 10, 11, 69] ?_)
        simp only [o76_16, qao, qah, bin_geq, qaj, qag, qad, qaf, qae, qab, qaa, qac, Nat.reduceEqDiff, ↓reduceIte, eq_self, e0, e1, e2, e3, e9, e10, e11]
        clear e0 e1 e2 e3 e9 e10 e11
        intro fr e0 e1 e2 e3 e9 e10 e11 e69
        refine qai ?_
        refine W_while e69 (fun hx => ?_) (fun hx => ?_)
        · have k0 : ((x : Nat) : Int) - 1 = ((x - 1 : Nat) : Int) := by omega
          have wk := qal (n := ((x - 1 : Nat) : Int)) (by omega) (by omega)
          obtain ⟨A1, L1⟩ := own_ld1 hE H hds (i := x) (by omega)
          obtain ⟨A2, L2⟩ := own_ld1 hE H hds (i := x - 1) (by omega)
          refine qak (qat ?_)
          refine qau ?_
          refine qak (qbb [0, 1, 2, 3, 9, 10, 11, 84] rfl ?_)
          simp only [d76_17, qay, WD_bin, WD_load, qba, WD_callT, DFunK_0, qbd, qam, qas, qaw, qar, qap, qad, qaf, qae, List.map_cons, List.map_nil, Nat.reduceEqDiff, Nat.reduceAdd, ↓reduceIte, eq_self, true_and, Nat.zero_add, e0, e3, e11, A1, L1, k0, wk, A2, L2]
          refine DCallK_of rfl (hc _ _ _ _ (by assumption) (fun P hP => by simp [hMem P hP]) (hQok (by omega))) ?_
          rintro _ _ ⟨z, rfl, hz, rfl⟩
          simp only [WD_bin, WD_un, un_not, bin_lss, WD_nil, qam, qar, qaq, qap, Nat.testBit, Nat.reduceShiftRight, Nat.reduceAnd, Nat.reduceBneDiff, List.all_nil, List.all_cons, List.filter_nil, List.filter_cons, qad, qaf, qae, qab, qaa, qac, Nat.reduceEqDiff, Nat.reduceAdd, ↓reduceIte, Bool.not_true, Bool.and_true, Bool.true_or, eq_self, Bool.false_eq_true, true_and, e0, e1, e2, e3, e9, e10, e11]
          clear e0 e1 e2 e3 e9 e10 e11 e69
          intro fr e0 e1 e2 e3 e9 e10 e11 e84
          refine qai ?_
          cases hl : lt d2[x]! d2[x - 1]! with
          | false =>
            rw [hl] at hz
            rw [hz] at e84
            rw [dn_stop hl] at hT3
            refine qak (W_cond e84 (fun _ => W_exit (SeqK_x (BlkK_x (by decide) (SeqK_x (LoopK_x (BlkK_e ?_)))))) (fun h => absurd h (by decide)))
            exact hR' _ _ ⟨e0, e1, e2, e3, e9, e10, by rw [← hT3]; exact H⟩
          | true =>
            rw [hl] at hz
            rw [hz] at e84
            rw [dn_go (by omega) hl] at hT3
            refine qak (W_cond e84 (fun h => absurd h (by decide)) (fun _ => W_skip (qai ?_)))
            obtain ⟨s8, s9, st1, st2, H9⟩ := H.swp1 hE hds (i := x) (j := x - 1) (by omega) (by omega)
            refine qbb [0, 1, 2, 3, 9, 10, 11] rfl ?_
            simp only [d76_18, qay, WD_bin, WD_load, qba, WD_store, qbd, WD_nil, qam, qas, qaz, qaw, qav, preHead_cons, qar, qaq, qap, Nat.testBit, Nat.reduceShiftRight, Nat.reduceAnd, Nat.reduceBneDiff, List.all_nil, List.all_cons, List.filter_nil, List.filter_cons, qad, puT_none, qaf, qae, qab, qaa, qac, Nat.reduceEqDiff, Nat.reduceAdd, ↓reduceIte, Bool.not_true, Bool.and_true, Bool.true_or, eq_self, Bool.false_eq_true, true_and, Nat.zero_add, e0, e1, e2, e3, e9, e10, e11, k0, wk, A1, A2, L1, L2, st1, st2]
            clear e0 e1 e2 e3 e9 e10 e11
            intro fr e0 e1 e2 e3 e9 e10 e11
            refine BlkK_n (qai ?_)
            refine qan [0, 1, 2, 3, 9, 10, 11] ?_
            simp only [o76_19, qao, qah, qbd, qaj, qag, qad, qaf, qae, qab, qaa, qac, Nat.reduceEqDiff, ↓reduceIte, eq_self, e0, e1, e2, e3, e9, e10, e11, k0, wk]
            clear e0 e1 e2 e3 e9 e10 e11
            intro fr e0 e1 e2 e3 e9 e10 e11
            exact LoopK_n (m' := x - 1) (by omega) ⟨x - 1, _, rfl, by omega, hT3, e0, e1, e2, e3, e9, e10, e11, H9⟩
        · have hx0 : x = 0 := by omega
          subst hx0
          rw [dn_zero] at hT3
          exact LoopK_x (BlkK_e (hR' _ _ ⟨e0, e1, e2, e3, e9, e10, by rw [← hT3]; exact H⟩))
      · refine W_if e65 (fun h => absurd h (by omega)) (fun _ => W_skip (hR' _ _ ⟨e0, e1, e2, e3, e9, e10, ?_⟩))
        rw [fixDown, if_neg h2]; exact H6
    clear e0 e1 e2 e3 e9 e10 e65 fr H6 s6
    rintro fr s6 ⟨e0, e1, e2, e3, e9, e10, H6⟩
    refine qai ?_
    obtain ⟨D3, hD3⟩ : ∃ x, x = fixDown lt a I D2 := ⟨_, rfl⟩
    rw [← hD3] at H6 hT
    have d2' : ((b : Nat) : Int) - ((I : Nat) : Int) = ((b - I : Nat) : Int) := by omega
    refine qak (qan [0, 1, 2, 3, 9, 10, 104] ?_)
    simp only [o76_20, qao, qah, bin_geq, qbd, qaj, qag, qad, qaf, qae, qab, qaa, qac, Nat.reduceEqDiff, ↓reduceIte, eq_self, e0, e1, e2, e3, e9, e10, d2', qal (n := ((b - I : Nat) : Int)) (by omega) (by omega)]
    clear e0 e1 e2 e3 e9 e10
    intro fr e0 e1 e2 e3 e9 e10 e104
    refine qai ?_
    refine W_cutN (fun fr1 s6 => geT fr1 0 = v ∧ geT fr1 1 = .int .i64 (a : Nat) ∧ geT fr1 2 = .int .i64 (b : Nat) ∧ geT fr1 3 = .func (.func C) #[] #[] ∧ geT fr1 9 = .int .i64 (I : Nat) ∧ geT fr1 10 = .int .i64 (c : Nat) ∧ Hold s0 s6 (HP.own 1 v n (flE eC (fixUp lt b I D3)) :: l)) ?_ ?_
    · intro R' hR'
      by_cases h2 : b - I ≥ 2
      · refine W_if e104 (fun _ => ?_) (fun h => absurd (by omega) h)
        have k1 : ((I : Nat) : Int) + 1 = ((I + 1 : Nat) : Int) := by omega
        refine qak (qan [0, 1, 2, 3, 9, 10, 12] ?_)
        simp only [o76_21, qao, qah, qax, qaj, qag, qad, qaf, qae, qab, qaa, qac, Nat.reduceEqDiff, ↓reduceIte, eq_self, e0, e1, e2, e3, e9, e10, k1, qal (n := ((I + 1 : Nat) : Int)) (by omega) (by omega)]
        clear e0 e1 e2 e3 e9 e10 e104
        intro fr e0 e1 e2 e3 e9 e10 e12
        refine qai ?_
        obtain ⟨T3, hT3⟩ : ∃ T, shiftUp lt b (I + 1) D3 = T := ⟨_, rfl⟩
        have hfd : fixUp lt b I D3 = T3 := by rw [fixUp, if_pos h2]; exact hT3
        rw [hfd] at hR'
        refine qat (W_loop (fun m fr s6 => ∃ (x : Nat) (d' : Array α), b - x ≤ m ∧ I < x ∧ x ≤ b ∧ shiftUp lt b x d' = T3 ∧ geT fr 0 = v ∧ geT fr 1 = .int .i64 (a : Nat) ∧ geT fr 2 = .int .i64 (b : Nat) ∧ geT fr 3 = .func (.func C) #[] #[] ∧ geT fr 9 = .int .i64 (I : Nat) ∧ geT fr 10 = .int .i64 (c : Nat) ∧ geT fr 12 = .int .i64 (x : Nat) ∧
          Hold s0 s6 (HP.own 1 v n (flE eC d') :: l)) b ⟨I + 1, D3, by omega, by omega, by omega, hT3, e0, e1, e2, e3, e9, e10, e12, H6⟩ ?_)
        clear e0 e1 e2 e3 e9 e10 e12 fr H6 hT3 hfd
        rintro m' fr s7 ⟨x, d2, hxm, hxI, hxb, hT3, e0, e1, e2, e3, e9, e10, e12, H⟩
        have hds := own_size hE H
        refine qau ?_
        refine qak (qan [0, 1, 2, 3, 9, 10, 12, 109] ?_)
        simp only [o76_23, qao, qah, bin_lss, qaj, qag, qad, qaf, qab, qaa, qac, Nat.reduceEqDiff, ↓reduceIte, eq_self, e0, e1, e2, e3, e9, e10, e12]
        clear e0 e1 e2 e3 e9 e10 e12
        intro fr e0 e1 e2 e3 e9 e10 e12 e109
        refine qai ?_
        refine W_while e109 (fun hx => ?_) (fun hx => ?_)
        · have k0 : ((x : Nat) : Int) - 1 = ((x - 1 : Nat) : Int) := by omega
          have wk := qal (n := ((x - 1 : Nat) : Int)) (by omega) (by omega)
          obtain ⟨A1, L1⟩ := own_ld1 hE H hds (i := x) (by omega)
          obtain ⟨A2, L2⟩ := own_ld1 hE H hds (i := x - 1) (by omega)
          refine qak (qat ?_)
          refine qau ?_
          refine qak (qbb [0, 1, 2, 3, 9, 10, 12, 124] rfl ?_)
          simp only [d76_24, qay, WD_bin, WD_load, qba, WD_callT, DFunK_0, qbd, qam, qas, qaw, qar, qap, qad, qaf, qae, List.map_cons, List.map_nil, Nat.reduceEqDiff, Nat.reduceAdd, ↓reduceIte, eq_self, true_and, Nat.zero_add, e0, e3, e12, A1, L1, k0, wk, A2, L2]
          refine DCallK_of rfl (hc _ _ _ _ (by assumption) (fun P hP => by simp [hMem P hP]) (hQok (by omega))) ?_
          rintro _ _ ⟨z, rfl, hz, rfl⟩
          simp only [WD_bin, WD_un, un_not, bin_lss, WD_nil, qam, qar, qaq, qap, Nat.testBit, Nat.reduceShiftRight, Nat.reduceAnd, Nat.reduceBneDiff, List.all_nil, List.all_cons, List.filter_nil, List.filter_cons, qad, qaf, qae, qab, qaa, qac, Nat.reduceEqDiff, Nat.reduceAdd, ↓reduceIte, Bool.not_true, Bool.and_true, Bool.true_or, eq_self, Bool.false_eq_true, true_and, e0, e1, e2, e3, e9, e10, e12]
          clear e0 e1 e2 e3 e9 e10 e12 e109
          intro fr e0 e1 e2 e3 e9 e10 e12 e124
          refine qai ?_
          cases hl : lt d2[x]! d2[x - 1]! with
          | false =>
            rw [hl] at hz
            rw [hz] at e124
            rw [up_stop2 (by omega) hl] at hT3
            refine qak (W_cond e124 (fun _ => W_exit (SeqK_x (BlkK_x (by decide) (SeqK_x (LoopK_x (BlkK_e ?_)))))) (fun h => absurd h (by decide)))
            exact hR' _ _ ⟨e0, e1, e2, e3, e9, e10, by rw [← hT3]; exact H⟩
          | true =>
            rw [hl] at hz
            rw [hz] at e124
            rw [up_go (by omega) hl] at hT3
            refine qak (W_cond e124 (fun h => absurd h (by decide)) (fun _ => W_skip (qai ?_)))
            obtain ⟨s8, s9, st1, st2, H9⟩ := H.swp1 hE hds (i := x) (j := x - 1) (by omega) (by omega)
            refine qbb [0, 1, 2, 3, 9, 10, 12] rfl ?_
            simp only [d76_25, qay, WD_bin, WD_load, qba, WD_store, qbd, WD_nil, qam, qas, qaz, qaw, qav, preHead_cons, qar, qaq, qap, Nat.testBit, Nat.reduceShiftRight, Nat.reduceAnd, Nat.reduceBneDiff, List.all_nil, List.all_cons, List.filter_nil, List.filter_cons, qad, puT_none, qaf, qae, qab, qaa, qac, Nat.reduceEqDiff, Nat.reduceAdd, ↓reduceIte, Bool.not_true, Bool.and_true, Bool.true_or, eq_self, Bool.false_eq_true, true_and, Nat.zero_add, e0, e1, e2, e3, e9, e10, e12, k0, wk, A1, A2, L1, L2, st1, st2]
            clear e0 e1 e2 e3 e9 e10 e12
            intro fr e0 e1 e2 e3 e9 e10 e12
            refine BlkK_n (qai ?_)
            refine qan [0, 1, 2, 3, 9, 10, 12] ?_
            simp only [o76_26, qao, qah, qax, qaj, qag, qad, qaf, qae, qab, qaa, qac, Nat.reduceEqDiff, ↓reduceIte, eq_self, e0, e1, e2, e3, e9, e10, e12, qal (n := (x : Int) + 1) (by omega) (by omega)]
            clear e0 e1 e2 e3 e9 e10 e12
            intro fr e0 e1 e2 e3 e9 e10 e12
            exact LoopK_n (m' := m' - 1) (by omega) ⟨x + 1, _, by omega, by omega, by omega, hT3, e0, e1, e2, e3, e9, e10, by rw [e12]; rfl, H9⟩
        · rw [up_stop1 (by omega)] at hT3
          exact LoopK_x (BlkK_e (hR' _ _ ⟨e0, e1, e2, e3, e9, e10, by rw [← hT3]; exact H⟩))
      · refine W_if e104 (fun h => absurd h (by omega)) (fun _ => W_skip (hR' _ _ ⟨e0, e1, e2, e3, e9, e10, ?_⟩))
        rw [fixUp, if_neg h2]; exact H6
    clear e0 e1 e2 e3 e9 e10 e104 fr H6 s6
    rintro fr s6 ⟨e0, e1, e2, e3, e9, e10, H6⟩
    refine BlkK_n (qai ?_)
    refine qan [0, 1, 2, 3, 9, 10] ?_
    simp only [o76_27, qao, qah, qax, qaj, qag, qad, qaf, qae, qab, qaa, qac, Nat.reduceEqDiff, ↓reduceIte, eq_self, e0, e1, e2, e3, e9, e10, qal (n := (c : Int) + 1) (by omega) (by omega)]
    clear e0 e1 e2 e3 e9 e10
    intro fr e0 e1 e2 e3 e9 e10
    exact LoopK_n (m' := q) (by omega) ⟨c + 1, I, _, by omega, by omega, by omega, hT, e0, e1, e2, e3, e9, by rw [e10]; rfl, H6⟩
  · have hm0 : m = 0 := by omega
    subst hm0
    have hT' : (d1, false) = T := hT
    subst hT'
    refine LoopK_x (BlkK_e (qai ?_))
    refine qak (qan [8] ?_)
    simp only [o76_28, qah, qaj, qad, qae, qab, qaa, qac, ↓reduceIte, eq_self]
    clear e0 e1 e2 e3 e9 e10 e16
    intro fr e8
    refine qai ?_
    exact W_ret (Ret1 e8 ⟨rfl, H⟩)
end Go.Proofs.Ytpphomoijlilfaa.L

/- Sorting, walked: the whole. -/
namespace Go.Proofs.Ytpphomoijlilfaa.L
open Go Go.Vam Go.Sort
variable {α : Type} [Inhabited α]
theorem W_cutR {X : Ctx} (R : Fr → Mm → Prop) {c : ACode} {fr : Fr} {s : Mm} {Q : AExit → Fr → Mm → Prop} (h : ∀ R' : AExit → Fr → Mm → Prop, (∀ fr' s', R fr' s' → R' .normal fr' s') → (∀ fr' s', Q .ret fr' s' → R' .ret fr' s') → W X c fr s R') (g : ∀ fr' s', R fr' s' → Q .normal fr' s') : W X c fr s Q := by
  have := h (fun e fr s => (e = .normal ∧ R fr s) ∨ (e = .ret ∧ Q .ret fr s)) (fun _ _ h => .inl ⟨rfl, h⟩) (fun _ _ h => .inr ⟨rfl, h⟩)
  refine this.mono ?_
  rintro _ fr' s' (⟨rfl, h⟩ | ⟨rfl, h⟩)
  · exact g _ _ h
  · exact h
theorem below_perm {lt : α → α → Bool} {a b : Nat} {d d' : Array α} (hb : b ≤ d.size) (h : Below lt a b d) (hP : PermIn a b d d') : Below lt a b d' := h.permA permIn_all hb hP
set_option maxHeartbeats 8000000 in
theorem run56 {X : Ctx} (hX : X.fns = fnsOf Try.prog) (ho : ∀ f args, f ≠ 15 ∧ f ≠ 38 → X.orc f args = none) {eV : α → Value} {eC : α → List Value} (hE : El 1 none eV eC) {lt : α → α → Bool} {C : FuncId} {s0 : Mm} {L0 : List HP} {Q : Prop} (hc : ∀ (s : Mm) (l' : List HP) (x y : α), Hold s0 s l' → (∀ P ∈ L0, P ∈ l') → Q → CallP X C [eV x, eV y] s (fun r s' => ∃ z, r = .int .i64 z ∧ decide (z < 0) = lt x y ∧ s = s')) (hS : SWO lt) (N : Nat) : ∀ {s : Mm} {l : List HP} {v : Value} {n a b : Nat} {d : Array α} {lim : Int}, (∀ P ∈ L0, P ∈ l) → (0 < n → Q) → b - a ≤ N → Hold s0 s (HP.own 1 v n (flE eC d) :: l) → a ≤ b → b ≤ n → n ≤ 1152921504606846976 → Below lt a b d → (0 ≤ lim ∧ lim ≤ 64) →
    CallP X 56 [v, .int .i64 (a : Nat), .int .i64 (b : Nat), .int .i64 lim, cmpV C] s (fun _ s' => ∃ d', PermIn a b d d' ∧ SortedIn lt a b d' ∧ Hold s0 s' (HP.own 1 v n (flE eC d') :: l)) := by
  induction N with
  | zero =>
    intro s l v n a b d lim hMem hQok hN H hab hb hn2 hB hlim
    refine CallP_of (hX ▸ ir56_eq) (ho _ _ (by decide)) (Nat.le_of_ble_eq_true rfl) ?_
    refine qak (qan [0, 1, 2, 3, 4, 10] ?_)
    simp only [o56_0, qah, qaj, qad, frame_nil, qbc, qae, qab, qaa, qac, Nat.reduceEqDiff, Nat.reduceAdd, ↓reduceIte, eq_self, Nat.zero_add]
    intro fr e0 e1 e2 e3 e4 e10
    refine qai ?_
    refine qak (qan [0, 1, 2, 3, 4, 10, 11] ?_)
    simp only [o56_1, qah, qaj, qad, qae, qab, qaa, qac, Nat.reduceEqDiff, ↓reduceIte, eq_self, e0, e1, e2, e3, e4, e10]
    clear e0 e1 e2 e3 e4 e10
    intro fr e0 e1 e2 e3 e4 e10 e11
    refine qai ?_
    refine qat (W_loop (fun m fr s1 => s1 = s ∧ geT fr 0 = v ∧ geT fr 1 = .int .i64 (a : Nat) ∧ geT fr 2 = .int .i64 (b : Nat) ∧ geT fr 4 = cmpV C) 1 ⟨rfl, e0, e1, e2, e4⟩ ?_)
    clear e0 e1 e2 e3 e4 e10 e11 fr
    rintro m fr s1 ⟨rfl, e0, e1, e2, e4⟩
    have i0 : ((b : Nat) : Int) - ((a : Nat) : Int) = ((b - a : Nat) : Int) := by omega
    refine qat ?_
    refine qak (W_opsB [0, 1, 2, 4, 12] (fun fr1 s6 => s1 = s6 ∧ geT fr1 0 = v ∧ geT fr1 1 = .int .i64 (a : Nat) ∧ geT fr1 2 = .int .i64 (b : Nat) ∧ geT fr1 4 = cmpV C ∧ geT fr1 12 = .int .i64 ((b - a : Nat) : Int)) ?_ ?_)
    · intro R' hR'
      simp only [o56_3, qao, qah, qbd, qaj, qag, qad, qaf, qab, qaa, qac, Nat.reduceEqDiff, ↓reduceIte, eq_self, e0, e1, e2, e4, i0, qal (n := ((b - a : Nat) : Int)) (by omega) (by omega)]
      intro fr e0 e1 e2 e4 e12
      exact hR' _ _ ⟨rfl, e0, e1, e2, e4, e12⟩
    clear e0 e1 e2 e4 fr
    rintro fr _ ⟨rfl, e0, e1, e2, e4, e12⟩
    refine qai ?_
    refine qau ?_
    refine qak (W_opsB [0, 1, 2, 4, 25] (fun fr1 s6 => s1 = s6 ∧ geT fr1 0 = v ∧ geT fr1 1 = .int .i64 (a : Nat) ∧ geT fr1 2 = .int .i64 (b : Nat) ∧ geT fr1 4 = cmpV C ∧ geT fr1 25 = .bool true) ?_ ?_)
    · intro R' hR'
      simp only [o56_4, qao, qah, bin_leq, qaj, qag, qad, qaf, qae, qab, qaa, qac, Nat.reduceEqDiff, ↓reduceIte, eq_self, e0, e1, e2, e4, e12, decide_eq_true (show ((b - a : Nat) : Int) ≤ 12 by omega)]
      intro fr e0 e1 e2 e4 e25
      exact hR' _ _ ⟨rfl, e0, e1, e2, e4, e25⟩
    clear e0 e1 e2 e4 e12 fr
    rintro fr _ ⟨rfl, e0, e1, e2, e4, e25⟩
    refine qai ?_
    refine qak (W_cond e25 (fun _ => ?_) (fun h => by cases h))
    refine qak (qan [] ?_)
    simp only [o56_5, WO_call, qah, qad, qaf, List.map_cons, List.map_nil, Nat.reduceEqDiff, ↓reduceIte, eq_self, e0, e1, e2, e4]
    refine CallK_of (run71 hX ho hE hc (fun P hP => by simp [hMem P hP]) hQok H hb (by omega) hn2) ?_
    rintro _ s2 H2
    simp only [qaj, qab, qac]
    clear e0 e1 e2 e4 e25
    intro fr
    refine qai ?_
    obtain ⟨g1, g2⟩ := insertionSort_holds (lt := lt) hS d a b hab (by rw [own_size hE H]; exact hb)
    exact W_ret (SeqK_r (BlkK_r (LoopK_r (BlkK_r (Ret0 ⟨_, g1, g2, H2⟩)))))
  | succ N ih =>
    intro s l v n a b d lim hMem hQok hN H hab hb hn2 hB hlim
    refine CallP_of (hX ▸ ir56_eq) (ho _ _ (by decide)) (Nat.le_of_ble_eq_true rfl) ?_
    refine qak (qan [0, 1, 2, 3, 4, 10] ?_)
    simp only [o56_0, qah, qaj, qad, frame_nil, qbc, qae, qab, qaa, qac, Nat.reduceEqDiff, Nat.reduceAdd, ↓reduceIte, eq_self, Nat.zero_add]
    intro fr e0 e1 e2 e3 e4 e10
    refine qai ?_
    refine qak (qan [0, 1, 2, 3, 4, 10, 11] ?_)
    simp only [o56_1, qah, qaj, qad, qae, qab, qaa, qac, Nat.reduceEqDiff, ↓reduceIte, eq_self, e0, e1, e2, e3, e4, e10]
    clear e0 e1 e2 e3 e4 e10
    intro fr e0 e1 e2 e3 e4 e10 e11
    refine qai ?_
    refine qat (W_loop (fun m fr s1 => ∃ (a1 b1 : Nat) (d1 : Array α) (lim1 : Int) (wb wp : Bool), b1 - a1 ≤ m ∧ (a ≤ a1 ∧ a1 ≤ b1 ∧ b1 ≤ b) ∧ (0 ≤ lim1 ∧ lim1 ≤ 64) ∧ Below lt a1 b1 d1 ∧ (∀ R, PermIn a1 b1 d1 R → SortedIn lt a1 b1 R → PermIn a b d R ∧ SortedIn lt a b R) ∧
      geT fr 0 = v ∧ geT fr 1 = .int .i64 (a1 : Nat) ∧ geT fr 2 = .int .i64 (b1 : Nat) ∧ geT fr 3 = .int .i64 lim1 ∧ geT fr 4 = cmpV C ∧ geT fr 10 = .bool wb ∧ geT fr 11 = .bool wp ∧
      Hold s0 s1 (HP.own 1 v n (flE eC d1) :: l)) (b - a) ⟨a, b, d, lim, true, true, Nat.le_refl _, by omega, hlim, hB, fun R p q => ⟨p, q⟩, e0, e1, e2, e3, e4, e10, e11, H⟩ ?_)
    clear e0 e1 e2 e3 e4 e10 e11 fr H hB
    rintro m fr s1 ⟨a1, b1, d1, lim1, wb, wp, hm, hr, hl1, hB, fin, e0, e1, e2, e3, e4, e10, e11, H⟩
    have hds := own_size hE H
    have i0 : ((b1 : Nat) : Int) - ((a1 : Nat) : Int) = ((b1 - a1 : Nat) : Int) := by omega
    refine qat ?_
    refine qak (qan [0, 1, 2, 3, 4, 10, 11, 12] ?_)
    simp only [o56_3, qao, qah, qbd, qaj, qag, qad, qaf, qab, qaa, qac, Nat.reduceEqDiff, ↓reduceIte, eq_self, e0, e1, e2, e3, e4, e10, e11, i0, qal (n := ((b1 - a1 : Nat) : Int)) (by omega) (by omega)]
    clear e0 e1 e2 e3 e4 e10 e11
    intro fr e0 e1 e2 e3 e4 e10 e11 e12
    refine qai ?_
    refine qau ?_
    refine qak (qan [0, 1, 2, 3, 4, 10, 11, 12, 25] ?_)
    simp only [o56_4, qao, qah, bin_leq, qaj, qag, qad, qaf, qae, qab, qaa, qac, Nat.reduceEqDiff, ↓reduceIte, eq_self, e0, e1, e2, e3, e4, e10, e11, e12]
    clear e0 e1 e2 e3 e4 e10 e11 e12
    intro fr e0 e1 e2 e3 e4 e10 e11 e12 e25
    refine qai ?_
    refine qak (W_if e25 (fun h12 => ?_) (fun h12 => W_skip (qai ?_)))
    · refine qak (qan [] ?_)
      simp only [o56_5, WO_call, qah, qad, qaf, List.map_cons, List.map_nil, Nat.reduceEqDiff, ↓reduceIte, eq_self, e0, e1, e2, e4]
      refine CallK_of (run71 hX ho hE hc (fun P hP => by simp [hMem P hP]) hQok H (by omega) (by omega) hn2) ?_
      rintro _ s2 H2
      simp only [qaj, qab, qac]
      clear e0 e1 e2 e3 e4 e10 e11 e12 e25
      intro fr
      refine qai ?_
      obtain ⟨g1, g2⟩ := insertionSort_holds (lt := lt) hS d1 a1 b1 (by omega) (by omega)
      obtain ⟨g3, g4⟩ := fin _ g1 g2
      exact W_ret (SeqK_r (BlkK_r (LoopK_r (BlkK_r (Ret0 ⟨_, g3, g4, H2⟩)))))
    refine qau ?_
    refine qak (qan [0, 1, 2, 3, 4, 10, 11, 12, 32] ?_)
    simp only [o56_6, qao, qah, bin_eql, qaj, qag, qad, qaf, qae, qab, qaa, qac, Nat.reduceEqDiff, ↓reduceIte, eq_self, e0, e1, e2, e3, e4, e10, e11, e12]
    clear e0 e1 e2 e3 e4 e10 e11 e12
    intro fr e0 e1 e2 e3 e4 e10 e11 e12 e32
    refine qai ?_
    refine qak (W_if e32 (fun hl0 => ?_) (fun hl0 => W_skip (qai ?_)))
    · refine qak (qan [] ?_)
      simp only [o56_7, WO_call, qah, qad, qaf, List.map_cons, List.map_nil, Nat.reduceEqDiff, ↓reduceIte, eq_self, e0, e1, e2, e4]
      refine CallK_of (run72 hX ho hE hc (fun P hP => by simp [hMem P hP]) hQok H (by omega) (by omega) hn2) ?_
      rintro _ s2 H2
      simp only [qaj, qab, qac]
      clear e0 e1 e2 e3 e4 e10 e11 e12 e32
      intro fr
      refine qai ?_
      obtain ⟨g1, g2⟩ := heapSort_holds (lt := lt) hS d1 a1 b1 (by omega) (by omega)
      obtain ⟨g3, g4⟩ := fin _ g1 g2
      exact W_ret (SeqK_r (BlkK_r (LoopK_r (BlkK_r (Ret0 ⟨_, g3, g4, H2⟩)))))
    refine qau ?_
    refine qak (qan [0, 1, 2, 3, 4, 10, 11, 12, 39] ?_)
    simp only [o56_8, qah, WO_un, un_not, qaj, qag, qad, qaf, qab, qaa, qac, Nat.reduceEqDiff, ↓reduceIte, eq_self, e0, e1, e2, e3, e4, e10, e11, e12]
    clear e0 e1 e2 e3 e4 e10 e11 e12
    intro fr e0 e1 e2 e3 e4 e10 e11 e12 e39
    refine qai ?_
    refine qak (W_cutN (fun fr1 s6 => ∃ (d2 : Array α) (lim2 : Int), (0 ≤ lim2 ∧ lim2 ≤ 64) ∧ PermIn a1 b1 d1 d2 ∧ geT fr1 0 = v ∧ geT fr1 1 = .int .i64 (a1 : Nat) ∧ geT fr1 2 = .int .i64 (b1 : Nat) ∧ geT fr1 3 = .int .i64 lim2 ∧ geT fr1 4 = cmpV C ∧ geT fr1 10 = .bool wb ∧ geT fr1 11 = .bool wp ∧ geT fr1 12 = .int .i64 ((b1 - a1 : Nat) : Int) ∧ Hold s0 s6 (HP.own 1 v n (flE eC d2) :: l)) ?_ ?_)
    · intro R' hR'
      cases wb with
      | true =>
        refine W_cond e39 (fun h => absurd h (by decide)) (fun _ => W_skip ?_)
        exact hR' _ _ ⟨d1, lim1, hl1, permIn_refl _ _ _, e0, e1, e2, e3, e4, e10, e11, e12, H⟩
      | false =>
        refine W_cond e39 (fun _ => ?_) (fun h => absurd h (by decide))
        refine qak (qan [0, 1, 2, 3, 4, 10, 11, 12] ?_)
        simp only [o56_9, WO_call, qah, qad, qaf, List.map_cons, List.map_nil, Nat.reduceEqDiff, ↓reduceIte, eq_self, e0, e1, e2, e4]
        refine CallK_of (run73 hX ho hE H hds (by omega) (by omega) hn2) ?_
        rintro _ s2 ⟨d2, hp2, H2⟩
        simp only [qaj, qad, qab, qaa, qac, Nat.reduceEqDiff, ↓reduceIte, e0, e1, e2, e3, e4, e10, e11, e12]
        clear e0 e1 e2 e3 e4 e10 e11 e12 e39
        intro fr e0 e1 e2 e3 e4 e10 e11 e12
        refine qai ?_
        refine qan [0, 1, 2, 3, 4, 10, 11, 12] ?_
        simp only [o56_10, qao, qah, qbd, qaj, qag, qad, qaf, qae, qab, qaa, qac, Nat.reduceEqDiff, ↓reduceIte, eq_self, e0, e1, e2, e3, e4, e10, e11, e12, qal (n := lim1 - 1) (by omega) (by omega)]
        clear e0 e1 e2 e3 e4 e10 e11 e12
        intro fr e0 e1 e2 e3 e4 e10 e11 e12
        exact hR' _ _ ⟨d2, lim1 - 1, by omega, hp2, e0, e1, e2, e3, e4, e10, e11, e12, H2⟩
    clear e0 e1 e2 e3 e4 e10 e11 e12 e39 fr H
    rintro fr s1 ⟨d2, lim2, hl2, hP2, e0, e1, e2, e3, e4, e10, e11, e12, H⟩
    refine qai ?_
    have hds2 := own_size hE H
    refine qak (qan [0, 1, 2, 3, 4, 10, 11, 12, 13, 14] ?_)
    simp only [o56_11, WO_call, qah, qad, qaf, List.map_cons, List.map_nil, Nat.reduceEqDiff, ↓reduceIte, eq_self, e0, e1, e2, e4]
    refine CallK_of (run74 hX ho hE hc (fun P hP => by simp [hMem P hP]) hQok H hds2 (a := a1) (b := b1) (by omega) (by omega) hn2) ?_
    rintro _ s2 ⟨p, h, rfl, hp, H2⟩
    simp only [WO_extract, ext_20, ext_21, qah, qaj, qag, qad, qaf, qab, qaa, qac, Nat.reduceEqDiff, ↓reduceIte, eq_self, e0, e1, e2, e3, e4, e10, e11, e12]
    clear e0 e1 e2 e3 e4 e10 e11 e12
    intro fr e0 e1 e2 e3 e4 e10 e11 e12 e13 e14
    refine qai ?_
    clear H
    refine qau ?_
    refine qak (qan [0, 1, 2, 3, 4, 10, 11, 12, 13, 14, 56] ?_)
    simp only [o56_12, qao, qah, bin_eql, qaj, qag, qad, qaf, qae, qab, qaa, qac, Nat.reduceEqDiff, ↓reduceIte, eq_self, e0, e1, e2, e3, e4, e10, e11, e12, e13, e14]
    clear e0 e1 e2 e3 e4 e10 e11 e12 e13 e14
    intro fr e0 e1 e2 e3 e4 e10 e11 e12 e13 e14 e56
    refine qai ?_
    refine qak (W_cutN (fun fr1 s6 => ∃ (d3 : Array α) (p' : Nat) (h' : Int), (a1 ≤ p' ∧ p' < b1) ∧ PermIn a1 b1 d1 d3 ∧ geT fr1 0 = v ∧ geT fr1 1 = .int .i64 (a1 : Nat) ∧ geT fr1 2 = .int .i64 (b1 : Nat) ∧ geT fr1 3 = .int .i64 lim2 ∧ geT fr1 4 = cmpV C ∧ geT fr1 10 = .bool wb ∧ geT fr1 11 = .bool wp ∧ geT fr1 12 = .int .i64 ((b1 - a1 : Nat) : Int) ∧ geT fr1 13 = .int .i64 (p' : Nat) ∧ geT fr1 14 = .int .i64 h' ∧ Hold s0 s6 (HP.own 1 v n (flE eC d3) :: l)) ?_ ?_)
    · intro R' hR'
      refine W_if e56 (fun h2 => ?_) (fun h2 => W_skip (hR' _ _ ⟨d2, p, h, hp, hP2, e0, e1, e2, e3, e4, e10, e11, e12, e13, e14, H2⟩))
      refine qak (qan [0, 1, 2, 3, 4, 10, 11, 12, 13] ?_)
      simp only [o56_13, WO_call, qah, qad, qaf, List.map_cons, List.map_nil, Nat.reduceEqDiff, ↓reduceIte, eq_self, e0, e1, e2, e4]
      refine CallK_of (run75 hX ho hE H2 hds2 (a := a1) (b := b1) (by omega) (by omega) hn2) ?_
      rintro _ s3 ⟨d3, hp3, H3⟩
      simp only [qaj, qad, qab, qaa, qac, Nat.reduceEqDiff, ↓reduceIte, e0, e1, e2, e3, e4, e10, e11, e12, e13]
      clear e0 e1 e2 e3 e4 e10 e11 e12 e13 e14 e56
      intro fr e0 e1 e2 e3 e4 e10 e11 e12 e13
      refine qai ?_
      have q1 : ((b1 : Nat) : Int) - 1 = ((b1 - 1 : Nat) : Int) := by omega
      have q2 : ((p : Nat) : Int) - ((a1 : Nat) : Int) = ((p - a1 : Nat) : Int) := by omega
      have q3 : ((b1 - 1 : Nat) : Int) - ((p - a1 : Nat) : Int) = ((b1 - 1 - (p - a1) : Nat) : Int) := by omega
      refine qak (qan [0, 1, 2, 3, 4, 10, 11, 12, 13] ?_)
      simp only [o56_14, qao, qah, qbd, qaj, qag, qad, qaf, qae, qab, qaa, qac, Nat.reduceEqDiff, ↓reduceIte, eq_self, e0, e1, e2, e3, e4, e10, e11, e12, e13, q1, qal (n := ((b1 - 1 : Nat) : Int)) (by omega) (by omega), q2, qal (n := ((p - a1 : Nat) : Int)) (by omega) (by omega), q3, qal (n := ((b1 - 1 - (p - a1) : Nat) : Int)) (by omega) (by omega)]
      clear e0 e1 e2 e3 e4 e10 e11 e12 e13
      intro fr e0 e1 e2 e3 e4 e10 e11 e12 e13
      refine qai ?_
      refine qan [0, 1, 2, 3, 4, 10, 11, 12, 13, 14] ?_
      simp only [o56_15, qah, qaj, qad, qae, qab, qaa, qac, Nat.reduceEqDiff, ↓reduceIte, eq_self, e0, e1, e2, e3, e4, e10, e11, e12, e13]
      clear e0 e1 e2 e3 e4 e10 e11 e12 e13
      intro fr e0 e1 e2 e3 e4 e10 e11 e12 e13 e14
      exact hR' _ _ ⟨d3, b1 - 1 - (p - a1), 1, by omega, permIn_trans _ _ _ _ _ hP2 hp3, e0, e1, e2, e3, e4, e10, e11, e12, e13, e14, H3⟩
    clear e0 e1 e2 e3 e4 e10 e11 e12 e13 e14 e56 fr H2 hP2 hds2 hp p h d2 s2
    rintro fr s2 ⟨d2, p, h, hp, hP2, e0, e1, e2, e3, e4, e10, e11, e12, e13, e14, H2⟩
    refine qai ?_
    have hds2 := own_size hE H2
    have hB2 := below_perm (by omega) hB hP2
    refine qau ?_
    refine qak (W_opsB [0, 1, 2, 3, 4, 10, 11, 12, 13, 75] (fun fr1 s6 => s2 = s6 ∧ geT fr1 0 = v ∧ geT fr1 1 = .int .i64 (a1 : Nat) ∧ geT fr1 2 = .int .i64 (b1 : Nat) ∧ geT fr1 3 = .int .i64 lim2 ∧ geT fr1 4 = cmpV C ∧ geT fr1 10 = .bool wb ∧ geT fr1 11 = .bool wp ∧ geT fr1 12 = .int .i64 ((b1 - a1 : Nat) : Int) ∧ geT fr1 13 = .int .i64 (p : Nat) ∧ ∃ bb : Bool, geT fr1 75 = .bool bb) ?_ ?_)
    · intro R' hR'
      cases wb with
      | false =>
        simp only [o56_16, qah, WO_pick, pick_b, qaj, qag, WO_guard, want_v, wantB_t, qad, qaf, qae, qab, qaa, qac, Nat.reduceEqDiff, ↓reduceIte, eq_self, Bool.false_eq_true, e0, e1, e2, e3, e4, e10, e11, e12, e13]
        intro fr e0 e1 e2 e3 e4 e10 e11 e12 e13 e75
        exact hR' _ _ ⟨rfl, e0, e1, e2, e3, e4, e10, e11, e12, e13, _, e75⟩
      | true =>
        cases wp with
        | false =>
          simp only [o56_16, qah, WO_pick, pick_b, qaj, qag, WO_guard, want_v, wantB_t, qad, qaf, qae, qab, qaa, qac, Nat.reduceEqDiff, ↓reduceIte, eq_self, Bool.false_eq_true, e0, e1, e2, e3, e4, e10, e11, e12, e13]
          intro fr e0 e1 e2 e3 e4 e10 e11 e12 e13 e75
          exact hR' _ _ ⟨rfl, e0, e1, e2, e3, e4, e10, e11, e12, e13, _, e75⟩
        | true =>
          simp only [o56_16, qao, qah, WO_pick, pick_b, bin_eql, qaj, qag, WO_guard, want_v, wantB_t, qad, qaf, qae, qab, qaa, qac, Nat.reduceEqDiff, ↓reduceIte, eq_self, e0, e1, e2, e3, e4, e10, e11, e12, e13, e14]
          intro fr e0 e1 e2 e3 e4 e10 e11 e12 e13 e75
          exact hR' _ _ ⟨rfl, e0, e1, e2, e3, e4, e10, e11, e12, e13, _, e75⟩
    clear e0 e1 e2 e3 e4 e10 e11 e12 e13 e14 fr
    rintro fr _ ⟨rfl, e0, e1, e2, e3, e4, e10, e11, e12, e13, bb, e75⟩
    refine qai ?_
    refine qak (W_cutR (fun fr1 s6 => ∃ d3 : Array α, PermIn a1 b1 d1 d3 ∧ geT fr1 0 = v ∧ geT fr1 1 = .int .i64 (a1 : Nat) ∧ geT fr1 2 = .int .i64 (b1 : Nat) ∧ geT fr1 3 = .int .i64 lim2 ∧ geT fr1 4 = cmpV C ∧ geT fr1 10 = .bool wb ∧ geT fr1 11 = .bool wp ∧ geT fr1 12 = .int .i64 ((b1 - a1 : Nat) : Int) ∧ geT fr1 13 = .int .i64 (p : Nat) ∧ Hold s0 s6 (HP.own 1 v n (flE eC d3) :: l)) ?_ ?_)
    · intro R' hR' hRr
      cases bb with
      | false =>
        refine W_cond e75 (fun h => by cases h) (fun _ => W_skip ?_)
        exact hR' _ _ ⟨d2, hP2, e0, e1, e2, e3, e4, e10, e11, e12, e13, H2⟩
      | true =>
        refine W_cond e75 (fun _ => ?_) (fun h => by cases h)
        refine qak (qan [0, 1, 2, 3, 4, 10, 11, 12, 13, 80] ?_)
        simp only [o56_17, WO_call, qah, qad, qaf, List.map_cons, List.map_nil, Nat.reduceEqDiff, ↓reduceIte, eq_self, e0, e1, e2, e4]
        refine CallK_of (run76 hX ho hE hc (fun P hP => by simp [hMem P hP]) hQok H2 (a := a1) (b := b1) (by omega) (by omega) hn2) ?_
        rintro _ s3 ⟨rfl, H3⟩
        simp only [qaj, qad, qab, qaa, qac, Nat.reduceEqDiff, ↓reduceIte, eq_self, e0, e1, e2, e3, e4, e10, e11, e12, e13]
        clear e0 e1 e2 e3 e4 e10 e11 e12 e13
        intro fr e0 e1 e2 e3 e4 e10 e11 e12 e13 e80
        refine qai ?_
        obtain ⟨g1, g2⟩ := partialInsertionSort_holds (lt := lt) hS d2 a1 b1 (by omega) (by omega) hB2
        cases hd : (partialInsertionSort lt d2 a1 b1).2 with
        | true =>
          rw [hd] at e80
          refine W_cond e80 (fun _ => W_ret (hRr _ _ ?_)) (fun h => by cases h)
          obtain ⟨g3, g4⟩ := fin _ (permIn_trans _ _ _ _ _ hP2 g1) (g2 hd)
          exact SeqK_r (BlkK_r (LoopK_r (BlkK_r (Ret0 ⟨_, g3, g4, H3⟩))))
        | false =>
          rw [hd] at e80
          refine W_cond e80 (fun h => by cases h) (fun _ => W_skip (hR' _ _ ⟨_, permIn_trans _ _ _ _ _ hP2 g1, e0, e1, e2, e3, e4, e10, e11, e12, e13, H3⟩))
    clear e0 e1 e2 e3 e4 e10 e11 e12 e13 e75 fr H2 hB2 hds2 hP2 d2
    rintro fr s3 ⟨d3, hP3, e0, e1, e2, e3, e4, e10, e11, e12, e13, H3⟩
    refine qai ?_
    have hds3 := own_size hE H3
    have hB3 := below_perm (by omega) hB hP3
    have hcv : cmpV C = .func (.func C) #[] #[] := rfl
    refine qau ?_
    refine qak (W_cutN (fun fr1 s6 => s3 = s6 ∧ geT fr1 0 = v ∧ geT fr1 1 = .int .i64 (a1 : Nat) ∧ geT fr1 2 = .int .i64 (b1 : Nat) ∧ geT fr1 3 = .int .i64 lim2 ∧ geT fr1 4 = cmpV C ∧ geT fr1 10 = .bool wb ∧ geT fr1 11 = .bool wp ∧ geT fr1 12 = .int .i64 ((b1 - a1 : Nat) : Int) ∧ geT fr1 13 = .int .i64 (p : Nat) ∧ ∃ bb : Bool, geT fr1 97 = .bool bb ∧ (bb = true → 0 < a1 ∧ lt d3[a1 - 1]! d3[p]! = false)) ?_ ?_)
    · intro R' hR'
      rw [hcv] at e4
      by_cases h0 : 0 < a1
      · obtain ⟨A1, L1⟩ := own_ld1 hE H3 hds3 (i := a1 - 1) (by omega)
        obtain ⟨A2, L2⟩ := own_ld1 hE H3 hds3 (i := p) (by omega)
        have q1 : ((a1 : Nat) : Int) - 1 = ((a1 - 1 : Nat) : Int) := by omega
        refine qbb [0, 1, 2, 3, 4, 10, 11, 12, 13, 97] rfl ?_
        simp only [d56_18, qay, WD_bin, WD_load, qba, WD_callT, DFunK_0, bin_gtr, qbd, want_v, wantB_t, qam, qas, qaw, qar, qap, qad, qaf, qae, List.map_cons, List.map_nil, Nat.reduceEqDiff, Nat.reduceAdd, ↓reduceIte, eq_self, true_and, Nat.zero_add, e0, e1, e4, e13, WD_yes, decide_eq_true (show (0 : Int) < ((a1 : Nat) : Int) by omega), q1, qal (n := ((a1 - 1 : Nat) : Int)) (by omega) (by omega), A1, L1, A2, L2]
        refine DCallK_of rfl (hc _ _ _ _ (by assumption) (fun P hP => by simp [hMem P hP]) (hQok (by omega))) ?_
        rintro _ _ ⟨z, rfl, hz, rfl⟩
        simp only [WD_bin, WD_pick, pick_b, WD_un, un_not, bin_lss, want_v, wantB_t, WD_nil, qam, qar, qaq, qap, Nat.testBit, Nat.reduceShiftRight, Nat.reduceAnd, Nat.reduceBneDiff, List.all_nil, List.all_cons, List.filter_nil, List.filter_cons, qad, qaf, qae, qab, qaa, qac, Nat.reduceEqDiff, Nat.reduceAdd, ↓reduceIte, Bool.not_true, Bool.and_true, Bool.true_or, eq_self, Bool.false_eq_true, true_and, e0, e1, e2, e3, e4, e10, e11, e12, e13, WD_yes]
        clear e0 e1 e2 e3 e4 e10 e11 e12 e13
        intro fr e0 e1 e2 e3 e4 e10 e11 e12 e13 e97
        exact hR' _ _ ⟨rfl, e0, e1, e2, e3, e4, e10, e11, e12, e13, _, e97, fun hb => ⟨h0, by rw [← hz]; simpa using hb⟩⟩
      · skip
        refine qbb [0, 1, 2, 3, 4, 10, 11, 12, 13, 97] rfl ?_
        simp only [d56_18, WD_bin, qba, WD_pick, pick_b, bin_gtr, want_v, wantB_t, WD_nil, qam, qaz, qav, qar, qaq, qap, Nat.testBit, List.all_nil, List.filter_nil, qad, qaf, qae, qab, qaa, qac, Nat.reduceEqDiff, Nat.reduceAdd, ↓reduceIte, eq_self, Bool.false_eq_true, true_and, Nat.zero_add, e0, e1, e2, e3, e4, e10, e11, e12, e13, WD_no_move, WD_no_bin, WD_no_un, WD_no_addrSl, WD_no_load, WD_no_call, decide_eq_false (show ¬ (0 : Int) < ((a1 : Nat) : Int) by omega)]
        clear e0 e1 e2 e3 e4 e10 e11 e12 e13
        intro fr e0 e1 e2 e3 e4 e10 e11 e12 e13 e97
        exact hR' _ _ ⟨rfl, e0, e1, e2, e3, e4, e10, e11, e12, e13, _, e97, fun hb => by cases hb⟩
    clear e0 e1 e2 e3 e4 e10 e11 e12 e13 fr
    rintro fr _ ⟨rfl, e0, e1, e2, e3, e4, e10, e11, e12, e13, bb, e97, hbb⟩
    refine qai ?_
    cases bb with
    | true =>
      obtain ⟨h0, hnl⟩ := hbb rfl
      refine qak (W_cond e97 (fun _ => ?_) (fun h => by cases h))
      refine qak (qan [0, 2, 3, 4, 10, 11, 15] ?_)
      simp only [o56_19, WO_call, qah, qad, qaf, List.map_cons, List.map_nil, Nat.reduceEqDiff, ↓reduceIte, eq_self, e0, e1, e2, e4, e13]
      refine CallK_of (run77 hX ho hE hc (fun P hP => by simp [hMem P hP]) hQok H3 (a := a1) (b := b1) (pv := p) (by omega) (by omega) (by omega) hn2) ?_
      rintro _ s4 ⟨rfl, H4⟩
      simp only [qah, qaj, qad, qaf, qab, qaa, qac, Nat.reduceEqDiff, ↓reduceIte, eq_self, e0, e2, e3, e4, e10, e11]
      clear e0 e1 e2 e3 e4 e10 e11 e12 e13
      intro fr e0 e2 e3 e4 e10 e11 e15
      refine qai ?_
      obtain ⟨g1, g2, g3, g4, g5⟩ := round_eq hS (partitionEqual_holds lt) (d3 := d3) (d4 := (partitionEqual lt d3 a1 b1 p).2) (mid := (partitionEqual lt d3 a1 b1 p).1) h0 hp.1 hp.2 (by omega) hB3 hnl rfl
      refine qak (qan [0, 1, 2, 3, 4, 10, 11] ?_)
      simp only [o56_20, qah, qaj, qad, qaf, qab, qaa, qac, Nat.reduceEqDiff, ↓reduceIte, eq_self, e0, e2, e3, e4, e10, e11, e15]
      clear e0 e2 e3 e4 e10 e11 e15
      intro fr e0 e1 e2 e3 e4 e10 e11
      refine qai ?_
      exact W_exit (SeqK_x (BlkK_e (LoopK_n (m' := b1 - (partitionEqual lt d3 a1 b1 p).1) (by omega) ⟨_, b1, _, lim2, wb, wp, Nat.le_refl _, by omega, hl2, g4, fun R r1 r2 => by
        obtain ⟨q1, q2⟩ := g5 R r1 r2
        exact fin R (permIn_trans _ _ _ _ _ hP3 q1) q2, e0, e1, e2, e3, e4, e10, e11, H4⟩)))
    | false =>
      refine qak (W_cond e97 (fun h => by cases h) (fun _ => W_skip (qai ?_)))
      refine qak (qan [0, 1, 2, 3, 4, 12, 16, 17] ?_)
      simp only [o56_21, WO_call, qah, qad, qaf, List.map_cons, List.map_nil, Nat.reduceEqDiff, ↓reduceIte, eq_self, e0, e1, e2, e4, e13]
      refine CallK_of (run78 hX ho hE hc (fun P hP => by simp [hMem P hP]) hQok H3 (a := a1) (b := b1) (pv := p) (by omega) (by omega) (by omega) hn2) ?_
      rintro _ s4 ⟨rfl, H4⟩
      simp only [WO_extract, ext_20, ext_21, qah, qaj, qag, qad, qaf, qab, qaa, qac, Nat.reduceEqDiff, ↓reduceIte, eq_self, e0, e1, e2, e3, e4, e12]
      clear e0 e1 e2 e3 e4 e10 e11 e12 e13
      intro fr e0 e1 e2 e3 e4 e12 e16 e17
      refine qai ?_
      obtain ⟨g1, g2, g3, gBa, gBr, gl, gr⟩ := round_part hS (partition_holds lt) (d3 := d3) (d4 := (partition lt d3 a1 b1 p).2.2) (mid := (partition lt d3 a1 b1 p).1) (ap := (partition lt d3 a1 b1 p).2.1) hp.1 hp.2 (by omega) hB3 rfl
      generalize (partition lt d3 a1 b1 p).1 = mid at *
      generalize (partition lt d3 a1 b1 p).2.1 = ap at *
      generalize (partition lt d3 a1 b1 p).2.2 = d4 at *
      have q1 : ((mid : Nat) : Int) - ((a1 : Nat) : Int) = ((mid - a1 : Nat) : Int) := by omega
      have q2 : ((b1 : Nat) : Int) - ((mid : Nat) : Int) = ((b1 - mid : Nat) : Int) := by omega
      have q3 : ((b1 - a1 : Nat) : Int).tdiv 8 = (((b1 - a1) / 8 : Nat) : Int) := by rw [Int.tdiv_eq_ediv_of_nonneg (by omega)]; omega
      have q4 : ((mid : Nat) : Int) + 1 = ((mid + 1 : Nat) : Int) := by omega
      have q5 := qal (n := ((mid + 1 : Nat) : Int)) (by omega) (by omega)
      refine qak (qan [0, 1, 2, 3, 4, 11, 12, 16] ?_)
      simp only [o56_22, qah, qaj, qad, qaf, qab, qaa, qac, Nat.reduceEqDiff, ↓reduceIte, eq_self, e0, e1, e2, e3, e4, e12, e16, e17]
      clear e0 e1 e2 e3 e4 e12 e16 e17
      intro fr e0 e1 e2 e3 e4 e11 e12 e16
      refine qai ?_
      refine qak (qan [0, 1, 2, 3, 4, 11, 12, 16, 18, 19] ?_)
      simp only [o56_23, qao, qah, qbd, qaj, qag, qad, qaf, qab, qaa, qac, Nat.reduceEqDiff, ↓reduceIte, eq_self, e0, e1, e2, e3, e4, e11, e12, e16, q1, qal (n := ((mid - a1 : Nat) : Int)) (by omega) (by omega), q2, qal (n := ((b1 - mid : Nat) : Int)) (by omega) (by omega)]
      clear e0 e1 e2 e3 e4 e11 e12 e16
      intro fr e0 e1 e2 e3 e4 e11 e12 e16 e18 e19
      refine qai ?_
      refine qak (qan [0, 1, 2, 3, 4, 11, 16, 18, 19, 20] ?_)
      simp only [o56_24, qao, qah, bin_quo, qaj, qag, qad, qaf, qae, qab, qaa, qac, Nat.reduceEqDiff, ↓reduceIte, Int.reduceEq, eq_self, e0, e1, e2, e3, e4, e11, e12, e16, e18, e19, q3, qal (n := (((b1 - a1) / 8 : Nat) : Int)) (by omega) (by omega)]
      clear e0 e1 e2 e3 e4 e11 e12 e16 e18 e19
      intro fr e0 e1 e2 e3 e4 e11 e16 e18 e19 e20
      refine qai ?_
      refine qak (qan [0, 1, 2, 3, 4, 11, 16, 18, 19, 20, 125] ?_)
      simp only [o56_25, qao, qah, bin_lss, qaj, qag, qad, qaf, qab, qaa, qac, Nat.reduceEqDiff, ↓reduceIte, eq_self, e0, e1, e2, e3, e4, e11, e16, e18, e19, e20]
      clear e0 e1 e2 e3 e4 e11 e16 e18 e19 e20
      intro fr e0 e1 e2 e3 e4 e11 e16 e18 e19 e20 e125
      refine qai ?_
      refine W_if e125 (fun _ => ?_) (fun _ => ?_)
      · refine qak (qan [0, 1, 2, 3, 4, 10, 11, 16] ?_)
        simp only [o56_26, qao, qah, bin_geq, qaj, qag, qad, qaf, qab, qaa, qac, Nat.reduceEqDiff, ↓reduceIte, eq_self, e0, e1, e2, e3, e4, e11, e16, e18, e20]
        clear e0 e1 e2 e3 e4 e11 e16 e18 e19 e20 e125
        intro fr e0 e1 e2 e3 e4 e10 e11 e16
        refine qai ?_
        refine qak (qan [0, 2, 3, 4, 10, 11, 16] ?_)
        simp only [o56_27, WO_call, qah, qad, qaf, List.map_cons, List.map_nil, Nat.reduceEqDiff, ↓reduceIte, eq_self, e0, e1, e3, e4, e16]
        refine CallK_of (ih (a := a1) (b := mid) (fun P hP => by simp [hMem P hP]) hQok (by omega) H4 (by omega) (by omega) hn2 gBa hl2) ?_
        rintro _ s5 ⟨d5, r1, r2, H5⟩
        obtain ⟨hBL, hfin⟩ := gl d5 r1 r2
        simp only [qaj, qad, qab, qaa, qac, Nat.reduceEqDiff, ↓reduceIte, e0, e2, e3, e4, e10, e11, e16]
        clear e0 e1 e2 e3 e4 e10 e11 e16
        intro fr e0 e2 e3 e4 e10 e11 e16
        refine qai ?_
        refine qan [0, 1, 2, 3, 4, 10, 11] ?_
        simp only [o56_28, qao, qah, qax, qaj, qag, qad, qaf, qae, qab, qaa, qac, Nat.reduceEqDiff, ↓reduceIte, eq_self, e0, e2, e3, e4, e10, e11, e16, q4, q5]
        clear e0 e2 e3 e4 e10 e11 e16
        intro fr e0 e1 e2 e3 e4 e10 e11
        exact BlkK_n (LoopK_n (m' := b1 - (mid + 1)) (by omega) ⟨mid + 1, b1, d5, lim2, _, ap, Nat.le_refl _, by omega, hl2, hBL, fun R k1 k2 => by
          obtain ⟨k3, k4⟩ := hfin R k1 k2
          exact fin R (permIn_trans _ _ _ _ _ hP3 k3) k4, e0, e1, e2, e3, e4, e10, e11, H5⟩)
      · skip
        refine qak (qan [0, 1, 2, 3, 4, 10, 11, 16] ?_)
        simp only [o56_29, qao, qah, bin_geq, qaj, qag, qad, qaf, qab, qaa, qac, Nat.reduceEqDiff, ↓reduceIte, eq_self, e0, e1, e2, e3, e4, e11, e16, e19, e20]
        clear e0 e1 e2 e3 e4 e11 e16 e18 e19 e20 e125
        intro fr e0 e1 e2 e3 e4 e10 e11 e16
        refine qai ?_
        refine qak (qan [0, 1, 3, 4, 10, 11, 16] ?_)
        simp only [o56_30, qao, WO_call, qah, qax, qag, qad, qaf, qae, List.map_cons, List.map_nil, Nat.reduceEqDiff, ↓reduceIte, eq_self, e0, e2, e3, e4, e16, q4, q5]
        refine CallK_of (ih (a := mid + 1) (b := b1) (fun P hP => by simp [hMem P hP]) hQok (by omega) H4 (by omega) (by omega) hn2 gBr hl2) ?_
        rintro _ s5 ⟨d5, r1, r2, H5⟩
        obtain ⟨hBL, hfin⟩ := gr d5 r1 r2
        simp only [qaj, qad, qab, qaa, qac, Nat.reduceEqDiff, ↓reduceIte, e0, e1, e3, e4, e10, e11, e16]
        clear e0 e1 e2 e3 e4 e10 e11 e16
        intro fr e0 e1 e3 e4 e10 e11 e16
        refine qai ?_
        refine qan [0, 1, 2, 3, 4, 10, 11] ?_
        simp only [o56_31, qah, qaj, qad, qaf, qab, qaa, qac, Nat.reduceEqDiff, ↓reduceIte, eq_self, e0, e1, e3, e4, e10, e11, e16]
        clear e0 e1 e3 e4 e10 e11 e16
        intro fr e0 e1 e2 e3 e4 e10 e11
        exact BlkK_n (LoopK_n (m' := mid - a1) (by omega) ⟨a1, mid, d5, lim2, _, ap, Nat.le_refl _, by omega, hl2, hBL, fun R k1 k2 => by
          obtain ⟨k3, k4⟩ := hfin R k1 k2
          exact fin R (permIn_trans _ _ _ _ _ hP3 k3) k4, e0, e1, e2, e3, e4, e10, e11, H5⟩)
theorem run39 {X : Ctx} (hX : X.fns = fnsOf Try.prog) (ho : ∀ f args, f ≠ 15 ∧ f ≠ 38 → X.orc f args = none) {eV : α → Value} {eC : α → List Value} (hE : El 1 none eV eC) {lt : α → α → Bool} {C : FuncId} {s0 : Mm} {L0 : List HP} {Q : Prop} (hc : ∀ (s : Mm) (l' : List HP) (x y : α), Hold s0 s l' → (∀ P ∈ L0, P ∈ l') → Q → CallP X C [eV x, eV y] s (fun r s' => ∃ z, r = .int .i64 z ∧ decide (z < 0) = lt x y ∧ s = s')) (hS : SWO lt) {s : Mm} {l : List HP} (hMem : ∀ P ∈ L0, P ∈ l) {v : Value} {n : Nat} {d : Array α} (hQok : 0 < n → Q) (H : Hold s0 s (HP.own 1 v n (flE eC d) :: l)) (hn2 : n ≤ 1152921504606846976) :
    CallP X 39 [v, cmpV C] s (fun _ s' => ∃ d', PermIn 0 n d d' ∧ SortedIn lt 0 n d' ∧ Hold s0 s' (HP.own 1 v n (flE eC d') :: l)) := by
  have hlen := (H.own (List.mem_cons_self ..)).slc.len
  have hbl := bl_le (x := n) (k := 61) (by omega)
  have z0 : (0 : Int) = ((0 : Nat) : Int) := rfl
  refine CallP_of (hX ▸ ir39_eq) (ho _ _ (by decide)) (Nat.le_of_ble_eq_true rfl) ?_
  refine qak (qan [0, 1, 4] ?_)
  simp only [o39_0, WO_bu, qah, qaj, qag, qad, frame_nil, qbc, qaf, qab, qaa, qac, List.map_cons, List.map_nil, Nat.reduceEqDiff, Nat.reduceAdd, ↓reduceIte, eq_self, Nat.zero_add, hlen]
  intro fr e0 e1 e4
  refine qai ?_
  refine qan [] ?_
  simp only [o39_1, qah, WO_conv, WO_call, qag, qad, qaf, List.map_cons, List.map_nil, Nat.reduceEqDiff, ↓reduceIte, conv_int, eq_self, e0, e4, wrap_u64 (n := ((n : Nat) : Int)) (by omega) (by omega)]
  refine CallK_of (run55 hX ho (by omega)) ?_
  rintro _ _ ⟨rfl, rfl⟩
  simp only [WO_call, qah, qad, qaf, qae, List.map_cons, List.map_nil, Nat.reduceEqDiff, ↓reduceIte, eq_self, e1]
  refine CallK_of (run56 hX ho hE hc hS n (a := 0) (b := n) (fun P hP => by simp [hMem P hP]) hQok (by omega) H (by omega) (Nat.le_refl _) hn2 (.inl rfl) (by omega)) ?_
  rintro _ s2 H2
  simp only [qaj, qab, qac]
  intro fr
  exact Ret0n H2
end Go.Proofs.Ytpphomoijlilfaa.L
