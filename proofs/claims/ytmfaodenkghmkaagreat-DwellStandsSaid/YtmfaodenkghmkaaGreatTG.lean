/- The law, walked: its second part. -/
import Derived.Test.YtmfaodenkghmkaaGreatTF
namespace Go.Proofs.YtmfaodenkghmkaaGreat
open Go Go.Vam


set_option maxHeartbeats 8000000 in
theorem run3b {X : Ctx} (hX : X.fns = fnsOf Tryz.prog) (ho : ∀ f args s, f ≠ 7 → X.orc f args s = none) {s s6 : Mm} {fr : Fr} {c w r n m k b3 b9 : Nat} {ga : Int} (hwk : ∀ s, X.orc 7 [] s = some (.bool true, s)) (hpl : ∀ m n k gt, Good c w r m n k gt → Concl c w r m n k gt)
    (hk : 1 ≤ k ∧ k ≤ 7) (hc : chkE (set1 c w r n m k) = 0) (hm : 1 ≤ m ∧ m ≤ 256) (hn : 1 ≤ n ∧ n ≤ 4096) (hmn : m * n ≤ 4096) (hq : bkN k < n) (hC : inB c = true) (hW : inB w = true) (hR : inB r = true) (h64 : c < 18446744073709551616 ∧ w < 18446744073709551616 ∧ r < 18446744073709551616)
    (H7 : Hold s s6 [HP.cell b9 (set1 c w r n m k).C, HP.cell b3 (bC c w r (n : Nat) (m : Nat))])
    (e2 : geT fr 2 = .int .i64 ga) (e3 : geT fr 3 = .pointer (some ⟨b3, 0, none⟩)) (e8 : geT fr 8 = .int .i64 ((bkN k : Nat) : Int)) (e9 : geT fr 9 = .pointer (some ⟨b9, 0, none⟩)) :
    W X (.seq (.draw d3_8) (.seq (.ops o3_9) (.seq (.ops o3_10) (.seq (.ops o3_11) (.seq (.seq (.ops o3_12) (.cond (.tmp 147) (.seq (.ops o3_13) .ret) .skip)) (.seq (.ops o3_14) (.seq (.ops o3_15) (.seq (.ops o3_16) (.seq (.seq (.ops o3_17) (.block 0 (.loop b3_18))) (.seq (.ops o3_29) (.seq (.ops o3_30) .ret))))))))))) fr s6 (RetK [.tmp 6] fun q _ => q = .bool true) := by
  have run7 : ∀ s : Mm, CallP X 7 [] s (fun r s' => r = .bool true ∧ s = s') := fun s => ⟨_, _, Call_orc (hwk s), rfl, rfl⟩
  have lk : ∀ {s'} {l : List HP}, Hold s s' l → HP.cell b9 (set1 c w r n m k).C ∈ l → HP.cell b3 (bC c w r (n : Nat) (m : Nat)) ∈ l → loadV s' (some 14) (.pointer (some ⟨b9, 0, none⟩)) = some (set1 c w r n m k).V ∧ loadV s' none (.pointer (some ⟨b9, 5, none⟩)) = some (.int .i64 (k : Nat)) ∧
      loadV s' none (.pointer (some ⟨b3, 0, none⟩)) = some (.float .f64 c) ∧ loadV s' none (.pointer (some ⟨b3, 3, none⟩)) = some (.int .i64 (n : Nat)) ∧ loadV s' none (.pointer (some ⟨b3, 4, none⟩)) = some (.int .i64 (m : Nat)) := fun h h9 h3 =>
    ⟨loadn_all (h.cell h9) rfl, load_g (o := 5) (h.cell h9), load_g (o := 0) (h.cell h3), load_g (o := 3) (h.cell h3), load_g (o := 4) (h.cell h3)⟩
  obtain ⟨hq2, hq13⟩ := bkN_le hk
  -- the gate
  obtain ⟨D, hD⟩ : ∃ D : Nat, D + bkN k = n := ⟨n - bkN k, by omega⟩
  have eD : ((n : Nat) : Int) - ((bkN k : Nat) : Int) = ((D : Nat) : Int) := by omega
  have nD : ¬ ((D : Nat) : Int) = 0 := by omega
  have t1 := Int.tmod_lt_of_pos ga (show (0 : Int) < ((D : Nat) : Int) by omega)
  have t2 := Int.lt_tmod_of_pos ga (show (0 : Int) < ((D : Nat) : Int) by omega)
  have w1 : wrapK .i64 (ga.tmod ((D : Nat) : Int) + ((n : Nat) : Int)) = ga.tmod ((D : Nat) : Int) + ((n : Nat) : Int) := wrap_i64 (by omega) (by omega)
  have w2 : wrapK .i64 (ga.tmod ((D : Nat) : Int) + ((n : Nat) : Int) - ((bkN k : Nat) : Int)) = ga.tmod ((D : Nat) : Int) + ((n : Nat) : Int) - ((bkN k : Nat) : Int) := wrap_i64 (by omega) (by omega)
  obtain ⟨gt, hgt, hgt2⟩ : ∃ gt : Nat, (ga.tmod ((D : Nat) : Int) + ((n : Nat) : Int) - ((bkN k : Nat) : Int)).tmod ((D : Nat) : Int) = ((gt : Nat) : Int) ∧ gt < D := by
    have h1 := Int.tmod_lt_of_pos (ga.tmod ((D : Nat) : Int) + ((n : Nat) : Int) - ((bkN k : Nat) : Int)) (show (0 : Int) < ((D : Nat) : Int) by omega)
    have h2 := Int.tmod_nonneg ((D : Nat) : Int) (show (0 : Int) ≤ ga.tmod ((D : Nat) : Int) + ((n : Nat) : Int) - ((bkN k : Nat) : Int) by omega)
    exact ⟨_, (Int.toNat_of_nonneg h2).symm, by omega⟩
  obtain ⟨-, -, -, j3, -⟩ := lk H7 (by simp) (by simp)
  refine W_seq (W_draw0 [2, 3, 8, 9] rfl ?_)
  simp only [d3_8, wD, ↓reduceIte, Nat.reduceEqDiff, Nat.reduceAdd, e2, e3, e8, e9, j3, eD, wrap_i64 (n := ((D : Nat) : Int)) (by omega) (by omega), if_neg nD, w1, w2, hgt]
  clear e2 e3 e8 e9
  intro fr e2 e3 e8 e9
  refine SeqK_n ?_
  clear t1 t2 w1 w2 hgt nD eD j3
  obtain ⟨R, d, y, E, hT, hnear⟩ := hpl m n k gt ⟨hk, hc, hm, hn, hmn, by omega, hC, hW, hR, h64⟩
  obtain ⟨tr, htr⟩ : ∃ tr, tr = trF c gt := ⟨_, rfl⟩
  rw [← htr] at E
  have htr' : fmul .f64 (fadd .f64 (FloatKind.f64.nearest ((gt : Nat) : Int)) 4602678819172646912) c = tr := htr.symm
  -- the pulse
  obtain ⟨-, k5, -, -, -⟩ := lk H7 (by simp) (by simp)
  refine W_seq (W_ops [2, 3, 8, 9, 10, 11] ?_)
  simp only [o3_9, wO, ↓reduceIte, e9, k5]
  refine CallK_of (run8 hX ho hk H7) ?_
  rintro _ s7 ⟨pv, rfl, H8⟩
  simp only [wO, ↓reduceIte, Nat.reduceEqDiff, e2, e3, e8, e9]
  clear e2 e3 e8 e9
  intro fr e2 e3 e8 e9 e10 e11
  refine SeqK_n ?_
  clear k5 H7
  -- the rows
  obtain ⟨k14, -, j0, -, -⟩ := lk H8 (by simp) (by simp)
  have hbu : buildV [.float .f64 0, .float .f64 0, .float .f64 0, .float .f64 0, .float .f64 0] [(0, 1, .float .f64 tr), (2, 1, .float .f64 4607182418800017408)] = some (tV tr 0 oneF 0 0) := rfl
  have bs : buildSlV s7 5 [.float .f64 0, .float .f64 0, .float .f64 0, .float .f64 0, .float .f64 0] 1 [(0, 5, tV tr 0 oneF 0 0)] = some (.slice (some ⟨s7.nxt, 0, none⟩) 1 1, .cells (tC tr 0 oneF 0 0) false) := rfl
  have lb : SlC (newAt s7 (.cells (tC tr 0 oneF 0 0) false)) 5 (.slice (some ⟨s7.nxt, 0, none⟩) 1 1) 1 (tC tr 0 oneF 0 0) :=
    .mk blk_new_self (by rw [nxt_new]; omega) (by simp [tC]) (by simp [tC]) (.inl ⟨by omega, by unfold OPEN; omega⟩)
  have H9 := (H8.new (tC tr 0 oneF 0 0)).tail
  refine W_seq (W_ops [2, 3, 8, 9, 10, 11, 12, 13] ?_)
  simp only [o3_10, wO, ↓reduceIte, Nat.reduceEqDiff, e2, e3, e9, k14, j0, htr', hbu, bs]
  refine CallK_of (run9 hX ho tr H9 hk hc hm hn hmn lb E) ?_
  rintro _ s8 ⟨rv, A, rfl, H10⟩
  simp only [wO, ↓reduceIte, Nat.reduceEqDiff, e2, e3, e8, e9, e10, e11]
  clear e2 e3 e8 e9 e10 e11
  intro fr e2 e3 e8 e9 e10 e11 e12 e13
  refine SeqK_n ?_
  clear H8 H9 lb bs hbu k14 j0 htr'
  -- the cells
  have aT : TabC s8 rv m n (ecF (scaC (turnC y, turnS y) oneF) (bkF k) gt (bkN k) m 0) := .grid (B := A) H10 (List.mem_cons_self ..) (List.mem_cons_of_mem _ (List.mem_cons_self ..)) (by omega)
  obtain ⟨k14, -, -, -, -⟩ := lk H10 (by simp) (by simp)
  refine W_seq (W_ops [2, 3, 8, 10, 11, 13, 14, 15] ?_)
  simp only [o3_11, wO, ↓reduceIte, Nat.reduceEqDiff, e9, e12, k14]
  refine CallK_of (run10 hX ho hk hc hm hn hmn aT) ?_
  rintro _ s9 ⟨mv, rfl, aR, hs9⟩
  have H11 := H10.keep hs9
  have hPe : cellF m n k (ecF (scaC (turnC y, turnS y) oneF) (bkF k) gt (bkN k) m 0) = topP m n k gt y := rfl
  rw [hPe] at aR
  generalize hP : topP m n k gt y = P at aR hT hnear
  simp only [wO, ↓reduceIte, Nat.reduceEqDiff, e2, e3, e8, e10, e11, e13]
  clear e2 e3 e8 e9 e10 e11 e12 e13
  intro fr e2 e3 e8 e10 e11 e13 e14 e15
  refine SeqK_n ?_
  clear H10 aT k14 hs9 hPe
  obtain ⟨-, -, -, -, j4⟩ := lk H11 (by simp) (by simp)
  have pl := (H11.own (sz := 1) (v := pv) (n := bkN k) (cs := fV (bkN k) (bkF k)) (by simp)).slc.len
  refine W_assoc ?_
  refine W_seq (W_ops [2, 3, 8, 14, 147] ?_)
  simp only [o3_12, wO, ↓reduceIte, Nat.reduceEqDiff, e2, e3, e8, e10, e11, e13, e14, e15, pl, aR.len, j4]
  clear e2 e3 e8 e10 e11 e13 e14 e15
  intro fr e2 e3 e8 e14 e147
  refine SeqK_n ?_
  refine W_seq (W_cond e147 (fun h => by cases h) (fun _ => W_skip (SeqK_n ?_)))
  refine W_seq (W_ops [2, 3, 8, 14, 16] ?_)
  simp only [o3_14, wO, ↓reduceIte, Nat.reduceEqDiff, e2, e3, e8, e14]
  clear e2 e3 e8 e14
  intro fr e2 e3 e8 e14 e16
  refine SeqK_n ?_
  refine W_seq (W_ops [2, 3, 8, 14, 16, 17] ?_)
  simp only [o3_15, wO, ↓reduceIte, Nat.reduceEqDiff, e2, e3, e8, e14, e16]
  clear e2 e3 e8 e14 e16
  intro fr e2 e3 e8 e14 e16 e17
  refine SeqK_n ?_
  refine W_seq (W_ops [2, 3, 8, 14, 16, 17, 18] ?_)
  simp only [o3_16, wO, ↓reduceIte, Nat.reduceEqDiff, e2, e3, e8, e14, e16, e17]
  clear e2 e3 e8 e14 e16 e17
  intro fr e2 e3 e8 e14 e16 e17 e18
  refine SeqK_n ?_
  refine W_assoc ?_
  refine W_seq (W_ops [2, 3, 8, 14, 16, 17, 18, 19] ?_)
  simp only [o3_17, wO, ↓reduceIte, Nat.reduceEqDiff, e2, e3, e8, e14, e16, e17, e18]
  clear e2 e3 e8 e14 e16 e17 e18
  intro fr e2 e3 e8 e14 e16 e17 e18 e19
  refine SeqK_n ?_
  have hm0 : 0 < m := by omega
  have hgn : gt < n := by omega
  refine W_seq (W_block (W_loop (fun mm fr s1 => ∃ (i x : Nat) (b a : Int), i + mm = m ∧ s9 = s1 ∧ Seek gt P i 0 x b a ∧ geT fr 2 = .int .i64 (gt : Nat) ∧ geT fr 3 = .pointer (some ⟨b3, 0, none⟩) ∧ geT fr 8 = .int .i64 ((bkN k : Nat) : Int) ∧ geT fr 14 = mv ∧ geT fr 16 = .float .f64 x ∧ geT fr 17 = .int .i64 b ∧ geT fr 18 = .int .i64 a ∧ geT fr 19 = .int .i64 (i : Nat)) m ⟨0, 0, -1, -1, by omega, rfl, .start hT, e2, e3, e8, e14, e16, e17, e18, e19⟩ ?_))
  clear e2 e3 e8 e14 e16 e17 e18 e19 e147 fr
  rintro mm fr _ ⟨i, x, b, a, hi, rfl, hS, e2, e3, e8, e14, e16, e17, e18, e19⟩
  refine W_assoc ?_
  refine W_seq (W_ops [2, 3, 8, 14, 16, 17, 18, 19, 151] ?_)
  simp only [o3_19, wO, ↓reduceIte, Nat.reduceEqDiff, e2, e3, e8, e14, e16, e17, e18, e19, aR.len]
  clear e2 e3 e8 e14 e16 e17 e18 e19
  intro fr e2 e3 e8 e14 e16 e17 e18 e19 e151
  refine SeqK_n ?_
  refine W_while e151 (fun hlt => ?_) (fun hlt => ?_)
  · have hi1 : i < m := by omega
    obtain ⟨z, A1, L1, zr⟩ := aR.row hi1
    refine W_seq (W_block ?_)
    refine W_seq (W_ops [2, 3, 8, 14, 16, 17, 18, 19, 20] ?_)
    simp only [o3_20, wO, ↓reduceIte, Nat.reduceEqDiff, e2, e3, e8, e14, e16, e17, e18, e19]
    clear e2 e3 e8 e14 e16 e17 e18 e19
    intro fr e2 e3 e8 e14 e16 e17 e18 e19 e20
    refine SeqK_n ?_
    refine W_block (W_loop (fun m2 fr s1 => ∃ (j x : Nat) (b a : Int), j + m2 = n ∧ s9 = s1 ∧ Seek gt P i j x b a ∧ geT fr 2 = .int .i64 (gt : Nat) ∧ geT fr 3 = .pointer (some ⟨b3, 0, none⟩) ∧ geT fr 8 = .int .i64 ((bkN k : Nat) : Int) ∧ geT fr 14 = mv ∧ geT fr 16 = .float .f64 x ∧ geT fr 17 = .int .i64 b ∧ geT fr 18 = .int .i64 a ∧ geT fr 19 = .int .i64 (i : Nat) ∧ geT fr 20 = .int .i64 (j : Nat)) n ⟨0, x, b, a, by omega, rfl, hS, e2, e3, e8, e14, e16, e17, e18, e19, e20⟩ ?_)
    clear e2 e3 e8 e14 e16 e17 e18 e19 e20 fr hS x b a e151
    rintro m2 fr _ ⟨j, x, b, a, hj, rfl, hS, e2, e3, e8, e14, e16, e17, e18, e19, e20⟩
    refine W_assoc ?_
    refine W_seq (W_ops [2, 3, 8, 14, 16, 17, 18, 19, 20, 160] ?_)
    simp only [o3_22, wO, ↓reduceIte, Nat.reduceEqDiff, e2, e3, e8, e14, e16, e17, e18, e19, e20, A1, L1, zr.len]
    clear e2 e3 e8 e14 e16 e17 e18 e19 e20
    intro fr e2 e3 e8 e14 e16 e17 e18 e19 e20 e160
    refine SeqK_n ?_
    refine W_while e160 (fun hlt2 => ?_) (fun hlt2 => ?_)
    · have hj1 : j < n := by omega
      have A2 := zr.addr (kk := .i64) (i := ((j : Nat) : Int)) rfl hj1
      rw [Nat.mul_one] at A2
      have L2 := zr.load (flV_at (P i) hj1)
      refine W_seq (W_block ?_)
      cases hg : (ford .f64 (P i j) x == some .gt) with
      | true =>
        refine W_seq (W_ops [2, 3, 8, 14, 16, 17, 18, 19, 20, 171] ?_)
        simp only [o3_23, wO, ↓reduceIte, Nat.reduceEqDiff, e2, e3, e8, e14, e16, e17, e18, e19, e20, A1, L1, A2, L2, hg]
        clear e2 e3 e8 e14 e16 e17 e18 e19 e20
        intro fr e2 e3 e8 e14 e16 e17 e18 e19 e20 e171
        refine SeqK_n ?_
        refine W_cond e171 (fun _ => ?_) (fun h => by cases h)
        refine W_seq (W_ops [2, 3, 8, 14, 16, 19, 20] ?_)
        simp only [o3_24, wO, ↓reduceIte, Nat.reduceEqDiff, e2, e3, e8, e14, e19, e20, A1, L1, A2, L2]
        clear e2 e3 e8 e14 e16 e17 e18 e19 e20
        intro fr e2 e3 e8 e14 e16 e19 e20
        refine SeqK_n ?_
        refine W_seq (W_ops [2, 3, 8, 14, 16, 17, 19, 20] ?_)
        simp only [o3_25, wO, ↓reduceIte, Nat.reduceEqDiff, e2, e3, e8, e14, e16, e19, e20]
        clear e2 e3 e8 e14 e16 e19 e20
        intro fr e2 e3 e8 e14 e16 e17 e19 e20
        refine SeqK_n ?_
        refine W_ops [2, 3, 8, 14, 16, 17, 18, 19, 20] ?_
        simp only [o3_26, wO, ↓reduceIte, Nat.reduceEqDiff, e2, e3, e8, e14, e16, e17, e19, e20]
        clear e2 e3 e8 e14 e16 e17 e19 e20
        intro fr e2 e3 e8 e14 e16 e17 e18 e19 e20
        refine BlkK_n (SeqK_n ?_)
        refine W_ops [2, 3, 8, 14, 16, 17, 18, 19, 20] ?_
        simp only [o3_27, wO, ↓reduceIte, Nat.reduceEqDiff, e2, e3, e8, e14, e16, e17, e18, e19, e20, wrap_i64 (n := (j : Int) + 1) (by omega) (by omega)]
        clear e2 e3 e8 e14 e16 e17 e18 e19 e20
        intro fr e2 e3 e8 e14 e16 e17 e18 e19 e20
        exact LoopK_n (m' := m2 - 1) (by omega) ⟨j + 1, _, _, _, by omega, rfl, hS.turn hT hi1 hj1 hm0 hgn hg, e2, e3, e8, e14, e16, e17, e18, e19, by rw [e20]; rfl⟩
      | false =>
        refine W_seq (W_ops [2, 3, 8, 14, 16, 17, 18, 19, 20, 171] ?_)
        simp only [o3_23, wO, ↓reduceIte, Nat.reduceEqDiff, e2, e3, e8, e14, e16, e17, e18, e19, e20, A1, L1, A2, L2, hg]
        clear e2 e3 e8 e14 e16 e17 e18 e19 e20
        intro fr e2 e3 e8 e14 e16 e17 e18 e19 e20 e171
        refine SeqK_n ?_
        refine W_cond e171 (fun h => by cases h) (fun _ => W_skip (BlkK_n (SeqK_n ?_)))
        refine W_ops [2, 3, 8, 14, 16, 17, 18, 19, 20] ?_
        simp only [o3_27, wO, ↓reduceIte, Nat.reduceEqDiff, e2, e3, e8, e14, e16, e17, e18, e19, e20, wrap_i64 (n := (j : Int) + 1) (by omega) (by omega)]
        clear e2 e3 e8 e14 e16 e17 e18 e19 e20
        intro fr e2 e3 e8 e14 e16 e17 e18 e19 e20
        exact LoopK_n (m' := m2 - 1) (by omega) ⟨j + 1, _, _, _, by omega, rfl, hS.keep hT hi1 hj1 hm0 hgn hg, e2, e3, e8, e14, e16, e17, e18, e19, by rw [e20]; rfl⟩
    · refine LoopK_x (BlkK_e (BlkK_n (SeqK_n ?_)))
      refine W_ops [2, 3, 8, 14, 16, 17, 18, 19] ?_
      simp only [o3_28, wO, ↓reduceIte, Nat.reduceEqDiff, e2, e3, e8, e14, e16, e17, e18, e19, wrap_i64 (n := (i : Int) + 1) (by omega) (by omega)]
      clear e2 e3 e8 e14 e16 e17 e18 e19
      intro fr e2 e3 e8 e14 e16 e17 e18 e19
      exact LoopK_n (m' := mm - 1) (by omega) ⟨i + 1, x, b, a, by omega, rfl, hS.row (by omega) hgn, e2, e3, e8, e14, e16, e17, e18, by rw [e19]; rfl⟩
  · obtain ⟨rfl, rfl, rfl⟩ := hS.1 (by omega)
    have em : ((m : Nat) : Int) * ((bkN k : Nat) : Int) = ((m * bkN k : Nat) : Int) := (Int.natCast_mul ..).symm
    have hmq : m * bkN k ≤ 256 * 13 := Nat.mul_le_mul hm.2 hq13
    refine LoopK_x (BlkK_e (SeqK_n ?_))
    refine W_seq (W_ops [2, 16, 17, 18, 21] ?_)
    simp only [o3_29, wO, ↓reduceIte, Nat.reduceEqDiff, e2, e3, e8, e16, e17, e18, j4, em, wrap_i64 (n := ((m * bkN k : Nat) : Int)) (by omega) (by omega)]
    clear e2 e3 e8 e16 e17 e18
    intro fr e2 e16 e17 e18 e21
    refine SeqK_n ?_
    unfold nearB leB at hnear
    have d0 : decide ((0 : Int) = 0) = true := rfl
    have d1 : decide (((gt : Nat) : Int) = ((gt : Nat) : Int)) = true := decide_eq_true rfl
    refine W_seq (W_ops [6] ?_)
    simp only [o3_30, wO, ↓reduceIte, Nat.reduceEqDiff, e2, e16, e17, e18]
    refine CallK_of (run12 hX ho) ?_
    rintro _ _ ⟨rfl, rfl⟩
    simp only [wO, ↓reduceIte, Nat.reduceEqDiff, e21, ext_abs, hnear]
    refine CallK_of (run7 _) ?_
    rintro _ _ ⟨rfl, rfl⟩
    simp only [wO, ↓reduceIte, Nat.reduceEqDiff]
    clear e2 e16 e17 e18 e21
    intro fr e6
    refine SeqK_n ?_
    exact W_ret (Ret1 e6 rfl)

end Go.Proofs.YtmfaodenkghmkaaGreat

/- The law, walked whole. -/
namespace Go.Proofs.YtmfaodenkghmkaaGreat
open Go Go.Vam


set_option maxHeartbeats 8000000 in
theorem run3 {X : Ctx} (hX : X.fns = fnsOf Tryz.prog) (ho : ∀ f args s, f ≠ 7 → X.orc f args s = none) {s : Mm} {c w r : Nat} {ev ro ba ga : Int} (h64 : c < 18446744073709551616 ∧ w < 18446744073709551616 ∧ r < 18446744073709551616) (hwk : ∀ s, X.orc 7 [] s = some (.bool true, s)) (hpl : ∀ m n k gt, Good c w r m n k gt → Concl c w r m n k gt) :
    CallP X 3 [bV c w r ev ro, .int .i64 ba, .int .i64 ga] s (fun q _ => q = .bool true) := by
  have run7 : ∀ s : Mm, CallP X 7 [] s (fun r s' => r = .bool true ∧ s = s') := fun s => ⟨_, _, Call_orc (hwk s), rfl, rfl⟩
  have hbx : (bV c w r ev ro).cells.toList = bC c w r ev ro := rfl
  have n7 : ¬ (7 : Int) = 0 := by decide
  have t1 := Int.tmod_lt_of_pos ba (show (0 : Int) < 7 by decide)
  have t2 := Int.lt_tmod_of_pos ba (show (0 : Int) < 7 by decide)
  have w1 : wrapK .i64 (ba.tmod 7 + 7) = ba.tmod 7 + 7 := wrap_i64 (by omega) (by omega)
  obtain ⟨c0, hc0, hc7⟩ : ∃ c0 : Nat, (ba.tmod 7 + 7).tmod 7 = ((c0 : Nat) : Int) ∧ c0 < 7 := by
    have h1 := Int.tmod_lt_of_pos (ba.tmod 7 + 7) (show (0 : Int) < 7 by decide)
    have h2 := Int.tmod_nonneg 7 (show (0 : Int) ≤ ba.tmod 7 + 7 by omega)
    exact ⟨((ba.tmod 7 + 7).tmod 7).toNat, by omega, by omega⟩
  have hk : 1 ≤ c0 + 1 ∧ c0 + 1 ≤ 7 := by omega
  obtain ⟨k, hkk⟩ : ∃ k, k = c0 + 1 := ⟨_, rfl⟩
  obtain ⟨hq2, hq13⟩ := bkN_le (k := k) (by omega)
  have H1 := (Hold.refl s).new (bC c w r ev ro)
  refine CallP_of (hX ▸ ir3_eq) (ho _ _ _ (by decide)) (Nat.le_of_ble_eq_true rfl) ?_
  refine W_seq (W_ops [1, 2, 3] ?_)
  simp only [o3_0, wO, ↓reduceIte, Nat.reduceEqDiff, Nat.reduceAdd, hbx]
  intro fr e1 e2 e3
  refine SeqK_n ?_
  generalize newAt s (.cells (bC c w r ev ro) false) = s1 at H1 ⊢
  generalize s.nxt = b3 at H1 e3
  have bs7 : buildSlV s1 1 [.int .i64 0] 7 [(0, 1, .int .i64 2), (1, 1, .int .i64 3), (2, 1, .int .i64 4), (3, 1, .int .i64 5), (4, 1, .int .i64 7), (5, 1, .int .i64 11), (6, 1, .int .i64 13)] = some (.slice (some ⟨s1.nxt, 0, none⟩) 7 7, .cells L7 false) := rfl
  have sl7 : SlC (newAt s1 (.cells L7 false)) 1 (.slice (some ⟨s1.nxt, 0, none⟩) 7 7) 7 L7 := slc_new (cs := L7) rfl (by omega)
  have H2 := (H1.new L7).tail
  refine W_seq (W_ops [1, 2, 3, 7] ?_)
  simp only [o3_1, wO, ↓reduceIte, Nat.reduceEqDiff, e1, e2, e3, bs7]
  clear e1 e2 e3
  intro fr e1 e2 e3 e7
  refine SeqK_n ?_
  clear bs7 H1
  generalize newAt s1 (.cells L7 false) = s2 at sl7 H2 ⊢
  generalize Value.slice (some ⟨s1.nxt, 0, none⟩) 7 7 = lv at sl7 e7
  have A7 := sl7.addr (kk := .i64) (i := ((c0 : Nat) : Int)) rfl hc7
  rw [Nat.mul_one] at A7
  have L7c := sl7.load (L7_at hc7)
  rw [← hkk] at L7c
  refine W_seq (W_ops [1, 2, 3, 8] ?_)
  simp only [o3_2, wO, ↓reduceIte, Nat.reduceEqDiff, Int.reduceEq, e1, e2, e3, e7, w1, hc0, A7, L7c]
  clear e1 e2 e3 e7
  intro fr e1 e2 e3 e8
  refine SeqK_n ?_
  clear A7 L7c sl7
  have hz : ∀ s : Mm, newAt s (.cells [.float .f64 0, .float .f64 0, .float .f64 0, .int .i64 0, .int .i64 0, .int .i64 0, .int .i8 0, .int .i64 0, .int .i8 0, .int .i64 0, .int .i64 0, .int .i64 0, .float .f64 0, .float .f64 0] false) = newAt s (.cells z14 false) := fun _ => rfl
  refine W_seq (W_ops [1, 2, 3, 8, 9] ?_)
  simp only [o3_3, wO]
  refine CallK_of (run4 hX ho) ?_
  rintro _ s3 ⟨rfl, hs3⟩
  have H3 := H2.keep hs3
  have H4 := H3.new z14
  have st : storeV (newAt s3 (.cells z14 false)) 14 (.pointer (some ⟨s3.nxt, 0, none⟩)) set0.V = some (undefV, setBlk (newAt s3 (.cells z14 false)) s3.nxt (.cells set0.C false)) :=
    store_all (vs := set0.C) (H4.cell (List.mem_cons_self ..)) rfl rfl rfl
  have H5 := H4.setc (cs' := set0.C)
  simp only [wO, ↓reduceIte, Nat.reduceEqDiff, e1, e2, e3, e8, hz, st]
  clear e1 e2 e3 e8
  intro fr e1 e2 e3 e8 e9
  refine SeqK_n ?_
  clear H2 H3 H4 st hz hs3 s2
  generalize setBlk _ s3.nxt _ = s4 at H5 ⊢
  generalize s3.nxt = b9 at H5 e9
  have Lb : loadV s4 (some 5) (.pointer (some ⟨b3, 0, none⟩)) = some (bV c w r ev ro) := loadn_all (H5.cell (B := b3) (cs := bC c w r ev ro) (by simp)) rfl
  have st : storeV s4 5 (.pointer (some ⟨b9, 0, none⟩)) (bV c w r ev ro) = some (undefV, setBlk s4 b9 (.cells (set2 c w r ev ro 3).C false)) := store_head (vs := bC c w r ev ro) (H5.cell (List.mem_cons_self ..)) rfl (by decide) rfl
  have H6 := H5.setc (cs' := (set2 c w r ev ro 3).C)
  refine W_seq (W_ops [1, 2, 3, 8, 9] ?_)
  simp only [o3_4, wO, ↓reduceIte, Nat.reduceEqDiff, e1, e2, e3, e8, e9, Lb, st]
  clear e1 e2 e3 e8 e9
  intro fr e1 e2 e3 e8 e9
  refine SeqK_n ?_
  clear Lb st H5
  generalize setBlk s4 b9 _ = s5 at H6 ⊢
  have st : storeV s5 1 (.pointer (some ⟨b9, 5, none⟩)) (.int .i64 ((k : Nat) : Int)) = some (undefV, setBlk s5 b9 (.cells (set2 c w r ev ro k).C false)) := store_g (H6.cell (List.mem_cons_self ..)) rfl (show 5 < 14 by decide)
  have H7 := H6.setc (cs' := (set2 c w r ev ro k).C)
  have ek : ((c0 : Nat) : Int) + 1 = ((k : Nat) : Int) := by omega
  refine W_seq (W_ops [2, 3, 8, 9] ?_)
  simp only [o3_5, wO, ↓reduceIte, Nat.reduceEqDiff, Int.reduceEq, e1, e2, e3, e8, e9, w1, hc0, ek, wrap_i64 (n := ((k : Nat) : Int)) (by omega) (by omega), st]
  clear e1 e2 e3 e8 e9
  intro fr e2 e3 e8 e9
  refine SeqK_n ?_
  clear st H6
  generalize setBlk s5 b9 _ = s6 at H7 ⊢
  clear t1 t2 w1 hc0 ek
  rw [← hkk] at hk
  have lk : ∀ {s'} {l : List HP}, Hold s s' l → HP.cell b9 (set2 c w r ev ro k).C ∈ l → HP.cell b3 (bC c w r ev ro) ∈ l → loadV s' (some 14) (.pointer (some ⟨b9, 0, none⟩)) = some (set2 c w r ev ro k).V ∧ loadV s' none (.pointer (some ⟨b9, 5, none⟩)) = some (.int .i64 (k : Nat)) ∧
      loadV s' none (.pointer (some ⟨b3, 0, none⟩)) = some (.float .f64 c) ∧ loadV s' none (.pointer (some ⟨b3, 1, none⟩)) = some (.float .f64 w) ∧ loadV s' none (.pointer (some ⟨b3, 2, none⟩)) = some (.float .f64 r) ∧
      loadV s' none (.pointer (some ⟨b3, 3, none⟩)) = some (.int .i64 ev) ∧ loadV s' none (.pointer (some ⟨b3, 4, none⟩)) = some (.int .i64 ro) := fun h h9 h3 =>
    ⟨loadn_all (h.cell h9) rfl, load_g (o := 5) (h.cell h9), load_g (o := 0) (h.cell h3), load_g (o := 1) (h.cell h3), load_g (o := 2) (h.cell h3), load_g (o := 3) (h.cell h3), load_g (o := 4) (h.cell h3)⟩
  obtain ⟨k14, -, -, -, -, -, -⟩ := lk H7 (by simp) (by simp)
  refine W_assoc ?_
  refine W_seq (W_opsB [2, 3, 8, 9, 82] (fun fr s' => Hold s s' [HP.cell b9 (set2 c w r ev ro k).C, HP.cell b3 (bC c w r ev ro)] ∧ geT fr 2 = .int .i64 ga ∧ geT fr 3 = .pointer (some ⟨b3, 0, none⟩) ∧ geT fr 8 = .int .i64 ((bkN k : Nat) : Int) ∧ geT fr 9 = .pointer (some ⟨b9, 0, none⟩) ∧
    ∃ bad : Bool, geT fr 82 = .bool bad ∧ (bad = false → heavyB ev ro = false ∧ chkE (set2 c w r ev ro k) = 0 ∧ ((bkN k : Nat) : Int) < ev ∧ inB c = true ∧ inB w = true ∧ inB r = true)) ?_ ?_)
  · intro R' hR'
    simp only [o3_6, wO, ↓reduceIte, e9, k14]
    refine CallK_of (run5 hX ho) ?_
    rintro _ s7 ⟨rfl, hs7⟩
    have H8 := H7.keep hs7
    have hev : heavyB (set2 c w r ev ro k).ev (set2 c w r ev ro k).ro = heavyB ev ro := rfl
    rw [hev]
    obtain ⟨k14', -, j0, j1, j2, j3, -⟩ := lk H8 (by simp) (by simp)
    cases hh : heavyB ev ro with
    | true =>
      simp only [wO, ↓reduceIte, Nat.reduceEqDiff, e2, e3, e8, e9]
      intro fr e2 e3 e8 e9 e82
      exact hR' _ _ ⟨H8, e2, e3, e8, e9, _, e82, fun h => by cases h⟩
    | false =>
      simp only [wO, ↓reduceIte, Nat.reduceEqDiff, e9, k14']
      refine CallK_of (run6 hX ho (by show 4620693217682128896 < _; decide) (by show 0 < _; decide) hk rfl) ?_
      rintro _ s8 ⟨rfl, hs8⟩
      have H9 := H8.keep hs8
      clear j0 j1 j2 j3
      obtain ⟨-, -, j0, j1, j2, j3, -⟩ := lk H9 (by simp) (by simp)
      have fin : ∀ {fr : Fr}, geT fr 2 = .int .i64 ga → geT fr 3 = .pointer (some ⟨b3, 0, none⟩) → geT fr 8 = .int .i64 ((bkN k : Nat) : Int) → geT fr 9 = .pointer (some ⟨b9, 0, none⟩) → geT fr 82 = .bool true → R' fr s8 :=
        fun e2 e3 e8 e9 e82 => hR' _ _ ⟨H9, e2, e3, e8, e9, _, e82, fun h => by cases h⟩
      by_cases hch : chkE (set2 c w r ev ro k) = 0
      case neg =>
        simp only [wO, ↓reduceIte, Nat.reduceEqDiff, e2, e3, e8, e9, decide_eq_false hch]
        intro fr e2 e3 e8 e9 e82
        exact fin e2 e3 e8 e9 e82
      have dch : decide (chkE (set2 c w r ev ro k) = 0) = true := decide_eq_true hch
      by_cases hnq : ev ≤ ((bkN k : Nat) : Int)
      case pos =>
        simp only [wO, ↓reduceIte, Nat.reduceEqDiff, e2, e3, e8, e9, dch, decide_eq_true hnq, j3]
        intro fr e2 e3 e8 e9 e82
        exact fin e2 e3 e8 e9 e82
      have dnq : decide (ev ≤ ((bkN k : Nat) : Int)) = false := decide_eq_false hnq
      cases g0 : (ford .f64 c 4517110426252607488 == some .gt || ford .f64 c 4517110426252607488 == some .eq) with
      | false =>
        simp only [wO, ↓reduceIte, Nat.reduceEqDiff, e2, e3, e8, e9, dch, dnq, j3, j0, g0]
        intro fr e2 e3 e8 e9 e82
        exact fin e2 e3 e8 e9 e82
      | true =>
        cases g1 : (ford .f64 c 4697254411347427328 == some .lt || ford .f64 c 4697254411347427328 == some .eq) with
        | false =>
          simp only [wO, ↓reduceIte, Nat.reduceEqDiff, e2, e3, e8, e9, dch, dnq, j3, j0, g0, g1]
          intro fr e2 e3 e8 e9 e82
          exact fin e2 e3 e8 e9 e82
        | true =>
          cases g2 : (ford .f64 w 4517110426252607488 == some .gt || ford .f64 w 4517110426252607488 == some .eq) with
          | false =>
            simp only [wO, ↓reduceIte, Nat.reduceEqDiff, e2, e3, e8, e9, dch, dnq, j3, j0, j1, g0, g1, g2]
            intro fr e2 e3 e8 e9 e82
            exact fin e2 e3 e8 e9 e82
          | true =>
            cases g3 : (ford .f64 w 4697254411347427328 == some .lt || ford .f64 w 4697254411347427328 == some .eq) with
            | false =>
              simp only [wO, ↓reduceIte, Nat.reduceEqDiff, e2, e3, e8, e9, dch, dnq, j3, j0, j1, g0, g1, g2, g3]
              intro fr e2 e3 e8 e9 e82
              exact fin e2 e3 e8 e9 e82
            | true =>
              cases g4 : (ford .f64 r 4517110426252607488 == some .gt || ford .f64 r 4517110426252607488 == some .eq) with
              | false =>
                simp only [wO, ↓reduceIte, Nat.reduceEqDiff, e2, e3, e8, e9, dch, dnq, j3, j0, j1, j2, g0, g1, g2, g3, g4]
                intro fr e2 e3 e8 e9 e82
                exact fin e2 e3 e8 e9 e82
              | true =>
                cases g5 : (ford .f64 r 4697254411347427328 == some .lt || ford .f64 r 4697254411347427328 == some .eq) with
                | false =>
                  simp only [wO, ↓reduceIte, Nat.reduceEqDiff, e2, e3, e8, e9, dch, dnq, j3, j0, j1, j2, g0, g1, g2, g3, g4, g5]
                  intro fr e2 e3 e8 e9 e82
                  exact fin e2 e3 e8 e9 e82
                | true =>
                  simp only [wO, ↓reduceIte, Nat.reduceEqDiff, e2, e3, e8, e9, dch, dnq, j3, j0, j1, j2, g0, g1, g2, g3, g4, g5]
                  intro fr e2 e3 e8 e9 e82
                  exact hR' _ _ ⟨H9, e2, e3, e8, e9, _, e82, fun _ => ⟨hh, hch, by omega, by rw [inB, geB, leB, lowF, topF, g0, g1]; rfl, by rw [inB, geB, leB, lowF, topF, g2, g3]; rfl, by rw [inB, geB, leB, lowF, topF, g4, g5]; rfl⟩⟩
  clear k14 e2 e3 e8 e9 H7 fr s6
  rintro fr s6 ⟨H7, e2, e3, e8, e9, bad, e82, hgood⟩
  refine SeqK_n ?_
  refine W_seq (W_cond e82 (fun hb => ?_) (fun hb => W_skip (SeqK_n ?_)))
  · refine W_seq (W_ops [6] ?_)
    simp only [o3_7, wO]
    refine CallK_of (run7 _) ?_
    rintro _ _ ⟨rfl, rfl⟩
    simp only [wO, ↓reduceIte]
    clear e2 e3 e8 e9 e82
    intro fr e6
    refine SeqK_n ?_
    exact W_ret (SeqK_r (Ret1 e6 rfl))
  obtain ⟨hheavy, hch, hnq, hC, hW, hR⟩ := hgood hb
  have hbeat : beatE c w r ev ro = 0 := by
    have h := hch
    unfold chkE at h
    split at h
    · rename_i h1; exact absurd h h1
    · rename_i h1; exact Decidable.not_not.1 h1
  obtain ⟨z1, z2, z3, z4, z5⟩ := beat_zero hbeat
  obtain ⟨n, rfl⟩ : ∃ n : Nat, ev = (n : Nat) := ⟨ev.toNat, by omega⟩
  obtain ⟨m, rfl⟩ : ∃ m : Nat, ro = (m : Nat) := ⟨ro.toNat, by omega⟩
  have hev : ((n : Nat) : Int) * ((m : Nat) : Int) ≤ 4096 := by
    unfold heavyB at hheavy
    rw [if_neg (by omega)] at hheavy
    have := of_decide_eq_false hheavy
    omega
  have hmn : m * n ≤ 4096 := by
    have e : ((n : Nat) : Int) * ((m : Nat) : Int) = ((m * n : Nat) : Int) := by rw [Nat.mul_comm]; exact (Int.natCast_mul ..).symm
    omega
  have hn4 : n ≤ 4096 := Nat.le_trans (Nat.le_mul_of_pos_left n (by omega)) hmn
  exact run3b hX ho hwk hpl hk hch (by omega) (by omega) hmn (by omega) hC hW hR h64 H7 e2 e3 e8 e9

end Go.Proofs.YtmfaodenkghmkaaGreat

/- The law, walked, of any beat. -/
namespace Go.Proofs.YtmfaodenkghmkaaGreat
open Go Go.Vam

theorem concl {c w r : Nat} (m n k gt : Nat) (h : Good c w r m n k gt) : Concl c w r m n k gt := by
  obtain ⟨d, y, E, hy⟩ := ech h.hm h.hmn h.hn.2 h.hq h.h64 h.hC h.hW h.hR
  have hon := turn_on E.hy3 hy
  exact ⟨_, d, y, E, top_at h.hk h.hm h.hq hon, near_top h.hk h.hm h.hq hon⟩

theorem runLaw {X : Ctx} (hX : X.fns = fnsOf Tryz.prog) (ho : ∀ f args s, f ≠ 7 → X.orc f args s = none) (hwk : ∀ s, X.orc 7 [] s = some (.bool true, s))
    {s : Mm} {c w r : Nat} {ev ro ba ga : Int} (h64 : c < 18446744073709551616 ∧ w < 18446744073709551616 ∧ r < 18446744073709551616) :
    CallP X 3 [bV c w r ev ro, .int .i64 ba, .int .i64 ga] s (fun q _ => q = .bool true) := run3 hX ho h64 hwk concl

end Go.Proofs.YtmfaodenkghmkaaGreat
