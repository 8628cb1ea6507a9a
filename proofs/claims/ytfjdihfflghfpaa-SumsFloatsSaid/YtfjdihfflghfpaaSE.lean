/- SumsSorted: the plain law, and its walk. -/
import Derived.Test.YtfjdihfflghfpaaSD
namespace Go.Proofs.Ytfjdihfflghfpaa
open Go Go.Vam Go.Sort

theorem srt_mono {d : Array UInt64} {i j : Nat} {x y : Int} (hij : i < j) (hx : (srt d)[i]? = some x) (hy : (srt d)[j]? = some y) : x ≤ y := by
  have hp : (srt d).Pairwise (fun a b => (!ltInt b a) = true) := by
    unfold srt
    refine List.pairwise_mergeSort (fun a b c h1 h2 => ?_) (fun a b => ?_) _
    · unfold ltInt at *
      simp only [Bool.not_eq_true', decide_eq_false_iff_not] at *
      omega
    · unfold ltInt
      by_cases h : b < a
      · have : ¬ a < b := by omega
        simp [h, this]
      · simp [h]
  obtain ⟨h1, h2⟩ := List.getElem?_eq_some_iff.1 hx
  obtain ⟨h3, h4⟩ := List.getElem?_eq_some_iff.1 hy
  have := List.pairwise_iff_getElem.1 hp i j h1 h3 hij
  rw [h2, h4] at this
  unfold ltInt at this
  simp only [Bool.not_eq_true', decide_eq_false_iff_not] at this
  omega

theorem srt_perm (d : Array UInt64) : (srt d).Perm (d.toList.map fun x => kap x.toNat) := List.mergeSort_perm _ _

def pc (L : List Int) (c : Int) (k : Nat) : Int := ((L.take k).count c : Nat)
theorem pc_succ {L : List Int} {c x : Int} {k : Nat} (h : L[k]? = some x) : pc L c (k + 1) = pc L c k + (if x = c then 1 else 0) := by
  unfold pc
  rw [List.take_add_one, h, List.count_append]
  by_cases hx : x = c
  · subst hx; simp
  · simp [hx]
theorem pc_le (L : List Int) (c : Int) (k : Nat) : 0 ≤ pc L c k ∧ pc L c k ≤ k := by
  unfold pc
  have := List.count_le_length (a := c) (l := L.take k)
  rw [List.length_take] at this
  omega

theorem toList_get {d : Array UInt64} {i : Nat} (hi : i < d.size) : (d.toList.map fun x => kap x.toNat)[i]? = some (kap (d[i]!).toNat) := by
  rw [List.getElem?_map, Array.getElem?_toList, Array.getElem?_eq_getElem hi, Array.getElem!_eq_getD, Array.getD, dif_pos hi]; rfl

theorem flA_push (d : Array UInt64) (x : UInt64) : flA (d.push x) = flA d ++ [.float .f64 x.toNat] := by simp [flA]
theorem push_get {d : Array UInt64} {x : UInt64} {j : Nat} (hj : j < d.size + 1) : (d.push x)[j]! = if j < d.size then d[j]! else x := by
  rw [Array.getElem!_eq_getD, Array.getD, dif_pos (by simpa using hj)]
  simp only [Array.getInternal_eq_getElem]
  rw [Array.getElem_push]
  split
  · rename_i h; rw [Array.getElem!_eq_getD, Array.getD, dif_pos h]; rfl
  · rfl

theorem flA_take (d : Array UInt64) (h : Nat) : flA (d.toList.take h).toArray = (flA d).take h := by simp [flA, List.map_take]


set_option maxHeartbeats 4000000 in
theorem run5 {X : Ctx} (hX : X.fns = fnsOf Try.prog) (ho : ∀ f args, f ≠ 10 ∧ f ≠ 24 → X.orc f args = none) (hw : X.orc 24 [] = some (.bool true)) {s : Mm} {v : Value} {d0 : Array UInt64} (a0 : SlC s 1 v d0.size (flA d0)) :
    CallP X 5 [v] s (fun r _ => r = .bool true) := by
  obtain ⟨h, hh⟩ : ∃ h, h = min d0.size 300 := ⟨_, rfl⟩
  obtain ⟨d, hd⟩ : ∃ d, d = (d0.toList.take h).toArray := ⟨_, rfl⟩
  have hds : d.size = h := by rw [hd]; simp; omega
  have hmin : (if (300 : Int) < ((d0.size : Nat) : Int) then (300 : Int) else ((d0.size : Nat) : Int)) = ((h : Nat) : Int) := by split <;> omega
  have hsl := a0.sl0 (k2 := .i64) (j := ((h : Nat) : Int)) rfl (show h ≤ d0.size by omega)
  have a := a0.sub (l := 0) (h := h) (Nat.zero_le _) (by omega)
  rw [Nat.zero_mul, List.drop_zero, Nat.sub_zero, Nat.mul_one, ← flA_take, ← hd] at a
  generalize subS 1 v 0 h = w at hsl a
  rw [← hds] at a
  refine CallP_of (hX ▸ ir5_eq) (ho _ _ (by decide)) (Nat.le_of_ble_eq_true rfl) ?_
  refine W_seq (W_ops [0] ?_)
  simp only [o5_0, WO_move, WO_nil, geT_put, frame_nil, frame_cons, evO_const, keep_nil, keep_cons, keepK_eq, Nat.reduceEqDiff, ↓reduceIte, eq_self, Nat.zero_add]
  intro fr e0
  refine SeqK_n ?_
  refine W_seq (W_ops [0] ?_)
  simp only [o5_1, WO_bu, bu_min, WO_move, WO_slSl, WO_nil, PureK_some, geT_put, evO_tmp, evO_const, keep_nil, keep_cons, keepK_eq, List.map_cons, List.map_nil, Option.map_some, Option.map_none, Nat.reduceEqDiff, ↓reduceIte, eq_self, e0, a0.len, hmin, hsl]
  clear e0
  intro fr e0
  refine SeqK_n ?_
  refine W_seq (W_ops [0, 3] ?_)
  simp only [o5_2, WO_move, WO_nil, geT_put, evO_const, keep_nil, keep_cons, keepK_eq, Nat.reduceEqDiff, ↓reduceIte, eq_self, e0]
  clear e0
  intro fr e0 e3
  refine SeqK_n ?_
  refine W_assoc ?_
  refine W_seq (W_ops [0, 3, 4] ?_)
  simp only [o5_3, WO_move, WO_nil, geT_put, evO_const, keep_nil, keep_cons, keepK_eq, Nat.reduceEqDiff, ↓reduceIte, eq_self, e0, e3]
  clear e0 e3
  intro fr e0 e3 e4
  refine SeqK_n ?_
  refine W_seq (W_block (W_loop (fun m fr s1 => ∃ (k : Nat) (ov : Value) (out : Array UInt64), k + m = h ∧ out.size = k ∧ (∀ j, j < k → (srt d)[j]? = some (kap (out[j]!).toNat)) ∧ geT fr 0 = w ∧ geT fr 3 = ov ∧ geT fr 4 = .int .i64 (k : Nat) ∧
    Hold s s1 [HP.own 1 ov k (flA out)]) h ⟨0, _, #[], by omega, rfl, fun j hj => by omega, e0, e3, e4, (Hold.refl s).nil 1⟩ ?_))
  clear e0 e3 e4 fr
  rintro m fr s1 ⟨k, ov, out, hk, hos, hout, e0, e3, e4, H⟩
  have a1 := a.same H.same (fun _ _ h => h)
  refine W_assoc ?_
  refine W_seq (W_ops [0, 3, 4, 18] ?_)
  simp only [o5_5, WO_bin, WO_bu, WO_move, bin_lss, WO_nil, PureK_some, geT_put, evO_tmp, keep_nil, keep_cons, keepK_eq, List.map_cons, List.map_nil, Nat.reduceEqDiff, ↓reduceIte, eq_self, e0, e3, e4, a1.len]
  clear e0 e3 e4
  intro fr e0 e3 e4 e18
  refine SeqK_n ?_
  refine W_while e18 (fun hlt => ?_) (fun hlt => ?_)
  · have hkh : k < d.size := by omega
    refine W_seq (W_block ?_)
    refine W_seq (W_ops [0, 3, 4, 5, 6] ?_)
    simp only [o5_6, WO_call, WO_move, geT_put, evO_tmp, List.map_cons, List.map_nil, Nat.reduceEqDiff, ↓reduceIte, eq_self, e0, e4]
    refine CallK_of (run20 hX ho (i := k) H a1 hkh (by omega)) ?_
    rintro _ s2 ⟨x, rfl, hx, H2⟩
    simp only [WO_extract, ext_20, ext_21, WO_move, WO_nil, PureK_some, geT_put, evO_tmp, keep_nil, keep_cons, keepK_eq, Nat.reduceEqDiff, ↓reduceIte, eq_self, e0, e3, e4]
    clear e0 e3 e4 e18
    intro fr e0 e3 e4 e5 e6
    refine SeqK_n ?_
    refine W_assoc ?_
    refine W_seq (W_opsB [0, 3, 4, 5, 42] (fun fr1 s6 => s2 = s6 ∧ geT fr1 0 = w ∧ geT fr1 3 = ov ∧ geT fr1 4 = .int .i64 (k : Nat) ∧ geT fr1 5 = .float .f64 x.toNat ∧ geT fr1 42 = .bool false) ?_ ?_)
    · intro R' hR'
      by_cases hk0 : k = 0
      · skip
        simp only [o5_7, WO_bin, WO_move, WO_pick, pick_b, bin_gtr, bin_neq, WO_nil, PureK_some, WO_guard, want_v, wantB_t, wantB_f, geT_put, evO_tmp, evO_const, keep_nil, keep_cons, keepK_eq, Nat.reduceEqDiff, ↓reduceIte, Bool.not_true, Bool.not_false, decide_true, eq_self, Bool.false_eq_true, e0, e3, e4, e5, e6, decide_eq_false (show ¬ (0 : Int) < ((k : Nat) : Int) by omega)]
        intro fr e0 e3 e4 e5 e42
        exact hR' _ _ ⟨rfl, e0, e3, e4, e5, e42⟩
      · have k1 : ((k : Nat) : Int) - 1 = ((k - 1 : Nat) : Int) := by omega
        obtain ⟨A1, L1⟩ := own_ld H2 hos (i := k - 1) (by omega)
        have hle := srt_mono (show k - 1 < k by omega) (hout (k - 1) (by omega)) hx
        have hp : decide ((0 : Int) < (if kap (out[k - 1]!).toNat = kap x.toNat then (0 : Int) else if kap (out[k - 1]!).toNat < kap x.toNat then -1 else 1)) = false := by
          refine decide_eq_false ?_
          split
          · omega
          · split <;> omega
        simp only [o5_7, WO_addrSl, WO_bin, WO_call, WO_load, WO_move, bin_gtr, bin_neq, bin_sub, PureK_some, WO_guard, want_v, wantB_t, wantB_f, geT_put, evO_tmp, evO_const, List.map_cons, List.map_nil, Nat.reduceEqDiff, ↓reduceIte, Bool.not_true, Bool.not_false, decide_true, eq_self, e3, e4, e5, e6, decide_eq_true (show (0 : Int) < ((k : Nat) : Int) by omega), k1, wrap_i64 (n := ((k - 1 : Nat) : Int)) (by omega) (by omega), A1, L1]
        refine CallK_of (run25 hX ho (UInt64.toNat_lt _) (UInt64.toNat_lt x)) ?_
        rintro _ _ ⟨rfl, rfl⟩
        simp only [WO_bin, WO_pick, pick_b, bin_gtr, WO_nil, PureK_some, WO_guard, want_v, wantB_t, wantB_f, geT_put, evO_tmp, evO_const, keep_nil, keep_cons, keepK_eq, Nat.reduceEqDiff, ↓reduceIte, Bool.not_false, eq_self, Bool.false_eq_true, e0, e3, e4, e5, hp]
        intro fr e0 e3 e4 e5 e42
        exact hR' _ _ ⟨rfl, e0, e3, e4, e5, e42⟩
    clear e0 e3 e4 e5 e6 fr
    rintro fr _ ⟨rfl, e0, e3, e4, e5, e42⟩
    refine SeqK_n ?_
    refine W_seq (W_cond e42 (fun h => by cases h) (fun _ => W_skip (SeqK_n ?_)))
    have hbs : buildSlV s2 1 [.float .f64 0] 1 [(0, 1, .float .f64 x.toNat)] = some (.slice (some ⟨s2.nxt, 0, none⟩) 1 1, .cells [.float .f64 x.toNat] false) := rfl
    obtain ⟨ov', s3, ap, H3⟩ := H2.push (bytes := 8) (new := [.float .f64 x.toNat]) rfl rfl (by omega) (by decide) (by omega) (by omega) (by omega)
    rw [← flA_push] at H3
    refine W_ops [0, 3, 4] ?_
    simp only [o5_9, WO_append, WO_buildSlice, WO_move, WO_nil, MemK_some, NewK_some, geT_put, evO_tmp, keep_nil, keep_cons, keepK_eq, List.map_cons, List.map_nil, Nat.reduceEqDiff, ↓reduceIte, eq_self, Nat.mul_one, e0, e3, e4, e5, hbs, ap]
    clear e0 e3 e4 e5 e42
    intro fr e0 e3 e4
    refine BlkK_n (SeqK_n ?_)
    refine W_ops [0, 3, 4] ?_
    simp only [o5_10, WO_bin, WO_move, bin_add, WO_nil, PureK_some, geT_put, evO_tmp, evO_const, keep_nil, keep_cons, keepK_eq, Nat.reduceEqDiff, ↓reduceIte, eq_self, e0, e3, e4, wrap_i64 (n := (k : Int) + 1) (by omega) (by omega)]
    clear e0 e3 e4
    intro fr e0 e3 e4
    refine LoopK_n (m' := m - 1) (by omega) ⟨k + 1, ov', out.push x, by omega, by simp [hos], fun j hj => ?_, e0, e3, by rw [e4]; rfl, H3⟩
    rw [push_get (by omega)]
    by_cases hjk : j < k
    · rw [if_pos (by omega)]; exact hout j hjk
    · rw [if_neg (by omega)]
      have : j = k := by omega
      rw [this]; exact hx
  have hkh : k = h := by omega
  subst hkh
  refine LoopK_x (BlkK_e (SeqK_n ?_))
  refine W_assoc ?_
  refine W_seq (W_ops [0, 3, 7] ?_)
  simp only [o5_11, WO_move, WO_nil, geT_put, evO_const, keep_nil, keep_cons, keepK_eq, Nat.reduceEqDiff, ↓reduceIte, eq_self, e0, e3]
  clear e0 e3 e4 e18
  intro fr e0 e3 e7
  refine SeqK_n ?_
  refine W_seq (W_block (W_loop (fun m fr s1 => ∃ i : Nat, i + m = k ∧ geT fr 0 = w ∧ geT fr 3 = ov ∧ geT fr 7 = .int .i64 (i : Nat) ∧
    Hold s s1 [HP.own 1 ov k (flA out)]) k ⟨0, by omega, e0, e3, e7, H⟩ ?_))
  clear e0 e3 e7 fr H a1 hlt s1 m hk
  rintro m fr s1 ⟨i, hi, e0, e3, e7, H⟩
  have a1 := a.same H.same (fun _ _ h => h)
  refine W_assoc ?_
  refine W_seq (W_ops [0, 3, 7, 50] ?_)
  simp only [o5_13, WO_bin, WO_bu, WO_move, bin_lss, WO_nil, PureK_some, geT_put, evO_tmp, keep_nil, keep_cons, keepK_eq, List.map_cons, List.map_nil, Nat.reduceEqDiff, ↓reduceIte, eq_self, e0, e3, e7, a1.len]
  clear e0 e3 e7
  intro fr e0 e3 e7 e50
  refine SeqK_n ?_
  refine W_while e50 (fun hlt => ?_) (fun hlt => ?_)
  · have hik : i < d.size := by omega
    refine W_seq (W_block ?_)
    refine W_seq (W_ops [0, 3, 7, 8] ?_)
    simp only [o5_14, WO_move, WO_nil, geT_put, evO_const, keep_nil, keep_cons, keepK_eq, Nat.reduceEqDiff, ↓reduceIte, eq_self, e0, e3, e7]
    clear e0 e3 e7 e50
    intro fr e0 e3 e7 e8
    refine SeqK_n ?_
    refine W_assoc ?_
    refine W_seq (W_ops [0, 3, 7, 8, 9] ?_)
    simp only [o5_15, WO_move, WO_nil, geT_put, evO_const, keep_nil, keep_cons, keepK_eq, Nat.reduceEqDiff, ↓reduceIte, eq_self, e0, e3, e7, e8]
    clear e0 e3 e7 e8
    intro fr e0 e3 e7 e8 e9
    refine SeqK_n ?_
    obtain ⟨c, hcc⟩ : ∃ c, c = kap (d[i]!).toNat := ⟨_, rfl⟩
    obtain ⟨A, hA⟩ : ∃ A, A = d.toList.map fun x => kap x.toNat := ⟨_, rfl⟩
    have hlA : A.length = k := by rw [hA]; simp [hds]
    have hlB : (srt d).length = k := by rw [srt_len, hds]
    refine W_seq (W_block (W_loop (fun m fr s1 => ∃ j : Nat, j + m = k ∧ geT fr 0 = w ∧ geT fr 3 = ov ∧ geT fr 7 = .int .i64 (i : Nat) ∧ geT fr 8 = .int .i64 (pc A c j - pc (srt d) c j) ∧ geT fr 9 = .int .i64 (j : Nat) ∧
      Hold s s1 [HP.own 1 ov k (flA out)]) k ⟨0, by omega, e0, e3, e7, e8.trans (congrArg (Value.int .i64) (by simp [pc])), e9, H⟩ ?_))
    clear e0 e3 e7 e8 e9 fr H a1 s1 hlt
    rintro m' fr s1 ⟨j, hj, e0, e3, e7, e8, e9, H⟩
    have a1 := a.same H.same (fun _ _ h => h)
    refine W_assoc ?_
    refine W_seq (W_ops [0, 3, 7, 8, 9, 56] ?_)
    simp only [o5_17, WO_bin, WO_bu, WO_move, bin_lss, WO_nil, PureK_some, geT_put, evO_tmp, keep_nil, keep_cons, keepK_eq, List.map_cons, List.map_nil, Nat.reduceEqDiff, ↓reduceIte, eq_self, e0, e3, e7, e8, e9, a1.len]
    clear e0 e3 e7 e8 e9
    intro fr e0 e3 e7 e8 e9 e56
    refine SeqK_n ?_
    have b1 := pc_le A c j
    have b2 := pc_le (srt d) c j
    refine W_while e56 (fun hlt => ?_) (fun hlt => ?_)
    · have hjd : j < d.size := by omega
      have q1 := pc_succ (L := A) (c := c) (k := j) (x := kap (d[j]!).toNat) (by rw [hA]; exact toList_get hjd)
      have q2 := pc_succ (L := srt d) (c := c) (k := j) (hout j (by omega))
      have A1 := a1.addr (kk := .i64) (i := (j : Int)) rfl hjd
      have A2 := a1.addr (kk := .i64) (i := (i : Int)) rfl hik
      rw [Nat.mul_one] at A1 A2
      have L1 := a1.load (flA_get hjd)
      have L2 := a1.load (flA_get hik)
      obtain ⟨A3, L3⟩ := own_ld H hos (i := j) (by omega)
      refine W_seq (W_block ?_)
      refine W_assoc ?_
      refine W_seq (W_draw0 [0, 3, 7, 8, 9, 67] rfl ?_)
      simp only [d5_18, WD_addrSl, WD_call, WD_load, WD_move, DPureK_some, DReadK_some, pastR_nil, joinF_nil, setH_self, geT_put, evO_tmp, List.map_cons, List.map_nil, Nat.reduceEqDiff, Nat.reduceAdd, ↓reduceIte, eq_self, true_and, Nat.zero_add, e0, e7, e9, A1, A2, L1, L2]
      refine DCallK_of rfl (run14 hX ho (UInt64.toNat_lt _) (UInt64.toNat_lt _)) ?_
      rintro _ _ ⟨rfl, rfl⟩
      simp only [WD_nil, joinF_nil, joinAll_nil, setH_self, Nat.testBit, Nat.reduceShiftRight, Nat.reduceAnd, Nat.reduceBneDiff, List.all_nil, List.all_cons, List.filter_nil, List.filter_cons, geT_put, keep_nil, keep_cons, keepK_eq, Nat.reduceEqDiff, Nat.reduceAdd, ↓reduceIte, Bool.not_true, Bool.and_true, Bool.true_or, eq_self, Bool.false_eq_true, true_and, e0, e3, e7, e8, e9]
      clear e0 e3 e7 e8 e9 e56
      intro fr e0 e3 e7 e8 e9 e67
      refine SeqK_n ?_
      rw [← hcc] at e67
      refine W_seq (W_cutN (fun fr1 s6 => s1 = s6 ∧ geT fr1 0 = w ∧ geT fr1 3 = ov ∧ geT fr1 7 = .int .i64 (i : Nat) ∧ geT fr1 8 = .int .i64 (pc A c (j + 1) - pc (srt d) c j) ∧ geT fr1 9 = .int .i64 (j : Nat)) ?_ ?_)
      · intro R' hR'
        refine W_if e67 (fun hq => ?_) (fun hq => ?_)
        · rw [if_pos hq] at q1
          refine W_ops [0, 3, 7, 8, 9] ?_
          simp only [o5_19, WO_bin, WO_move, bin_add, WO_nil, PureK_some, geT_put, evO_tmp, evO_const, keep_nil, keep_cons, keepK_eq, Nat.reduceEqDiff, ↓reduceIte, eq_self, e0, e3, e7, e8, e9, wrap_i64 (n := pc A c j - pc (srt d) c j + 1) (by omega) (by omega)]
          clear e0 e3 e7 e8 e9 e67
          intro fr e0 e3 e7 e8 e9
          exact hR' _ _ ⟨rfl, e0, e3, e7, e8.trans (congrArg (Value.int .i64) (by omega)), e9⟩
        · rw [if_neg hq] at q1
          exact W_skip (hR' _ _ ⟨rfl, e0, e3, e7, e8.trans (congrArg (Value.int .i64) (by omega)), e9⟩)
      clear e0 e3 e7 e8 e9 e67 fr
      rintro fr _ ⟨rfl, e0, e3, e7, e8, e9⟩
      refine SeqK_n ?_
      have b3 := pc_le A c (j + 1)
      refine W_seq (W_draw0 [0, 3, 7, 8, 9, 78] rfl ?_)
      simp only [d5_20, WD_addrSl, WD_call, WD_load, WD_move, DPureK_some, DReadK_some, pastR_nil, joinF_nil, setH_self, geT_put, evO_tmp, List.map_cons, List.map_nil, Nat.reduceEqDiff, Nat.reduceAdd, ↓reduceIte, eq_self, true_and, Nat.zero_add, e0, e3, e7, e9, A3, L3, A2, L2]
      refine DCallK_of rfl (run14 hX ho (UInt64.toNat_lt _) (UInt64.toNat_lt _)) ?_
      rintro _ _ ⟨rfl, rfl⟩
      simp only [WD_nil, joinF_nil, joinAll_nil, setH_self, Nat.testBit, Nat.reduceShiftRight, Nat.reduceAnd, Nat.reduceBneDiff, List.all_nil, List.all_cons, List.filter_nil, List.filter_cons, geT_put, keep_nil, keep_cons, keepK_eq, Nat.reduceEqDiff, Nat.reduceAdd, ↓reduceIte, Bool.not_true, Bool.and_true, Bool.true_or, eq_self, Bool.false_eq_true, true_and, e0, e3, e7, e8, e9]
      clear e0 e3 e7 e8 e9
      intro fr e0 e3 e7 e8 e9 e78
      refine SeqK_n ?_
      rw [← hcc] at e78
      refine W_cutN (fun fr1 s6 => s1 = s6 ∧ geT fr1 0 = w ∧ geT fr1 3 = ov ∧ geT fr1 7 = .int .i64 (i : Nat) ∧ geT fr1 8 = .int .i64 (pc A c (j + 1) - pc (srt d) c (j + 1)) ∧ geT fr1 9 = .int .i64 (j : Nat)) ?_ ?_
      · intro R' hR'
        refine W_if e78 (fun hq => ?_) (fun hq => ?_)
        · rw [if_pos hq] at q2
          refine W_ops [0, 3, 7, 8, 9] ?_
          simp only [o5_21, WO_bin, WO_move, bin_sub, WO_nil, PureK_some, geT_put, evO_tmp, evO_const, keep_nil, keep_cons, keepK_eq, Nat.reduceEqDiff, ↓reduceIte, eq_self, e0, e3, e7, e8, e9, wrap_i64 (n := pc A c (j + 1) - pc (srt d) c j - 1) (by omega) (by omega)]
          clear e0 e3 e7 e8 e9 e78
          intro fr e0 e3 e7 e8 e9
          exact hR' _ _ ⟨rfl, e0, e3, e7, e8.trans (congrArg (Value.int .i64) (by omega)), e9⟩
        · rw [if_neg hq] at q2
          exact W_skip (hR' _ _ ⟨rfl, e0, e3, e7, e8.trans (congrArg (Value.int .i64) (by omega)), e9⟩)
      clear e0 e3 e7 e8 e9 e78 fr
      rintro fr _ ⟨rfl, e0, e3, e7, e8, e9⟩
      refine BlkK_n (SeqK_n ?_)
      refine W_ops [0, 3, 7, 8, 9] ?_
      simp only [o5_22, WO_bin, WO_move, bin_add, WO_nil, PureK_some, geT_put, evO_tmp, evO_const, keep_nil, keep_cons, keepK_eq, Nat.reduceEqDiff, ↓reduceIte, eq_self, e0, e3, e7, e8, e9, wrap_i64 (n := (j : Int) + 1) (by omega) (by omega)]
      clear e0 e3 e7 e8 e9
      intro fr e0 e3 e7 e8 e9
      exact LoopK_n (m' := m' - 1) (by omega) ⟨j + 1, by omega, e0, e3, e7, e8, by rw [e9]; rfl, H⟩
    · have hjk : j = k := by omega
      subst hjk
      have hz : pc A c j - pc (srt d) c j = 0 := by
        have p1 : A.take j = A := List.take_of_length_le (by omega)
        have p2 : (srt d).take j = srt d := List.take_of_length_le (by omega)
        unfold pc
        rw [p1, p2, (srt_perm d).count_eq c, ← hA]
        omega
      rw [hz] at e8
      refine LoopK_x (BlkK_e (SeqK_n ?_))
      refine W_seq (W_ops [0, 3, 7, 82] ?_)
      simp only [o5_23, WO_bin, WO_move, bin_neq, WO_nil, PureK_some, geT_put, evO_tmp, evO_const, keep_nil, keep_cons, keepK_eq, Nat.reduceEqDiff, ↓reduceIte, Bool.not_true, decide_true, eq_self, e0, e3, e7, e8]
      clear e0 e3 e7 e8 e9 e56
      intro fr e0 e3 e7 e82
      refine SeqK_n ?_
      refine W_cond e82 (fun h => by cases h) (fun _ => W_skip (BlkK_n (SeqK_n ?_)))
      refine W_ops [0, 3, 7] ?_
      simp only [o5_25, WO_bin, WO_move, bin_add, WO_nil, PureK_some, geT_put, evO_tmp, evO_const, keep_nil, keep_cons, keepK_eq, Nat.reduceEqDiff, ↓reduceIte, eq_self, e0, e3, e7, wrap_i64 (n := (i : Int) + 1) (by omega) (by omega)]
      clear e0 e3 e7 e82
      intro fr e0 e3 e7
      exact LoopK_n (m' := m - 1) (by omega) ⟨i + 1, by omega, e0, e3, by rw [e7]; rfl, H⟩
  refine LoopK_x (BlkK_e (SeqK_n ?_))
  refine W_seq (W_ops [2] ?_)
  simp only [o5_26, WO_call, List.map_nil]
  refine CallK_of (show CallP X 24 [] s1 (fun r s' => r = .bool true ∧ s1 = s') from ⟨_, _, Call_orc hw, rfl, rfl⟩) ?_
  rintro _ _ ⟨rfl, rfl⟩
  simp only [WO_move, WO_nil, geT_put, evO_tmp, keep_nil, keep_cons, keepK_eq, ↓reduceIte, eq_self]
  clear e0 e3 e7 e50
  intro fr e2
  refine SeqK_n ?_
  exact W_ret (Ret1 e2 rfl)

end Go.Proofs.Ytfjdihfflghfpaa

/- SumsSorted: its run at any argument. -/
namespace Go.Proofs.Ytfjdihfflghfpaa
open Go Go.Vam Go.Sort

theorem bulkAll_mem {H : Type} (l : List (DataW H)) : ∀ d ∈ l, Rows.uptoBulk d ≤ Rows.uptoBulkAll l := by
  induction l with
  | nil => simp
  | cons x r ih =>
    intro d hd
    rcases List.mem_cons.1 hd with rfl | hd
    · simp only [Rows.uptoBulkAll]; omega
    · have := ih d hd; simp only [Rows.uptoBulkAll]; omega

theorem bulk_one {H : Type} (d : DataW H) : 1 ≤ Rows.uptoBulk d := by
  cases d with
  | lit l => cases l <;> simp [Rows.uptoBulk]
  | nil => simp [Rows.uptoBulk]
  | ptr d => simp [Rows.uptoBulk]
  | slice elems spare => simp [Rows.uptoBulk]
  | agg parts => simp [Rows.uptoBulk]
  | iface t d => simp [Rows.uptoBulk]
  | map entries => simp [Rows.uptoBulk]
  | held h => simp [Rows.uptoBulk]

theorem bulk_len {H : Type} (l : List (DataW H)) : l.length ≤ Rows.uptoBulkAll l := by
  induction l with
  | nil => simp [Rows.uptoBulkAll]
  | cons x r ih => have := bulk_one x; simp only [Rows.uptoBulkAll, List.length_cons]; omega

theorem bulk {H : Type} : Bulk (Rows.uptoBulk (H := H)) :=
  ⟨bulk_one, fun ds rest d hd => by have := bulkAll_mem ds d hd; simp only [Rows.uptoBulk]; omega, fun ds rest => by have := bulk_len ds; simp only [Rows.uptoBulk]; omega,
    fun ds d hd => by have := bulkAll_mem ds d hd; simp only [Rows.uptoBulk]; omega⟩

theorem AbsL.cons {P : Program} {T : Type} {s : Mm} {t : TypeId} {ts : List TypeId} {vs : List Value} {ds : List (DataW T)} (h : AbsL P s (t :: ts) vs ds) : ∃ v vs' d ds', vs = v :: vs' ∧ ds = d :: ds' ∧ AbsV P s t v d ∧ AbsL P s ts vs' ds' := by
  cases vs with
  | nil => exact h.elim
  | cons v vs => cases ds with
    | nil => exact h.elim
    | cons d ds => exact ⟨v, vs, d, ds, rfl, rfl, h.1, h.2⟩

theorem AbsL.nil {P : Program} {T : Type} {s : Mm} {vs : List Value} {ds : List (DataW T)} (h : AbsL P s [] vs ds) : vs = [] ∧ ds = [] := by
  cases vs with
  | nil => cases ds with
    | nil => exact ⟨rfl, rfl⟩
    | cons d ds => exact h.elim
  | cons v vs => exact h.elim

theorem wfl (x : Nat) (hx : (Lit.float .f64 x).wf = true) : x < 18446744073709551616 := by simpa [Lit.wf] using hx

theorem c24 : Try.prog.cellsOf 24 = 1 := by decide +kernel

set_option maxRecDepth 100000 in
/-- Floats that are handed in. -/
theorem floats_open {T : Type} {s : Mm} (hs : Lt s) {v : Value} {d : DataW T} (h : AbsV Try.prog s 22 v d) : ∃ D : Array UInt64, SlC s 1 v D.size (flA D) ∧ D.size ≤ Rows.uptoBulk d := by
  unfold AbsV at h
  rw [Try.underlying22] at h
  obtain ⟨w, xs, h1, h2, h3, h4⟩ := Abs.onesB (f := Value.float .f64) (p := fun x => x < 18446744073709551616) bulk hs Try.underlying22 c24 h (fun l d hl => by
    obtain ⟨n, k, _, w⟩ := Abs.f Try.underlying24 hl
    exact ⟨n, k, wfl n w⟩)
  cases h1
  refine ⟨(xs.map UInt64.ofNat).toArray, ?_, by simpa using h3⟩
  have e : flA (xs.map UInt64.ofNat).toArray = xs.map (Value.float .f64) := by
    unfold flA
    simp only [List.map_map]
    refine List.map_congr_left fun x hx => ?_
    show Value.float .f64 (UInt64.ofNat x).toNat = _
    rw [UInt64.toNat_ofNat', Nat.mod_eq_of_lt (h4 x hx)]
  rw [e]
  simpa using h2

set_option maxRecDepth 100000 in
theorem runSumsSorted {T : Type} {s : Mm} {avs : List Value} {ds : List (DataW T)} (hs : Lt s) (h : AbsL Try.prog s [22] avs ds) : CallP ⟨orcW 24, fnsOf Try.prog⟩ 5 avs s (fun v _ => v = .bool true) := by
  obtain ⟨v0, vs, d0, ds, rfl, rfl, h0, h⟩ := AbsL.cons h
  obtain ⟨rfl, rfl⟩ := AbsL.nil h
  obtain ⟨D, g1, _⟩ := floats_open hs h0
  exact run5 (X := ⟨orcW 24, fnsOf Try.prog⟩) rfl (fun f args hf => orcW_other hf.2 args) (orcW_self 24) g1

end Go.Proofs.Ytfjdihfflghfpaa
