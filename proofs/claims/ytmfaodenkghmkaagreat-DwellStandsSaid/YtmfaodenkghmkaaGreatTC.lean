/- The slow transform, walked. -/
import Derived.Test.YtmfaodenkghmkaaGreatTB
import Derived.Test.YtmfaodenkghmkaaGreatScIr
namespace Go.Proofs.YtmfaodenkghmkaaGreat
open Go Go.Vam

/-- The first k numbers summed up. -/
def sumF (g : Nat → Cx) : Nat → Cx
  | 0 => (0, 0)
  | k + 1 => if k = 0 then g 0 else addC (sumF g k) (g k)
theorem sumF_fold (g : Nat → Cx) : ∀ m, (((List.range m).map fun i => g (i + 1)).foldl addC (g 0)) = sumF g (m + 1)
  | 0 => rfl
  | m + 1 => by rw [List.range_succ, List.map_append, List.foldl_append, sumF_fold g m]; rfl
theorem fV_cons (g : Nat → Cx) (m : Nat) : fV (m + 1) g = (g 0 :: (List.range m).map fun i => g (i + 1)).map cV := by
  rw [fV, List.range_succ_eq_map]; simp [Function.comp_def]
/-- The unit -m of n. -/
def uN (n m : Nat) : Cx := (uC (cenI (-(m : Nat)) n) n, uS (cenI (-(m : Nat)) n) n)
def slowF (n : Nat) (f : Nat → Cx) (j : Nat) : Cx := sumF (fun k => mulC (f k) (uN n (j * k % n))) n

/-- Slices made. -/
theorem mkV {s : Mm} {bytes n : Nat} (z : List Value) (hb : bytes ≤ 24) (hn : n ≤ 1048576) : makeSlV s bytes z (.int .i64 (n : Nat)) (.int .i64 (n : Nat)) = some (.slice (some ⟨s.nxt, 0, none⟩) n n, .cells (repZ z n) false) :=
  makeSl_eq rfl rfl (Nat.le_refl _) (by omega) (Nat.le_trans (Nat.mul_le_mul hb hn) (by decide))
theorem mkD {B bytes n : Nat} (z : List Value) (hb : bytes ≤ 24) (hn : n ≤ 1048576) : makeSlD B bytes z (.int .i64 (n : Nat)) (.int .i64 (n : Nat)) = some (.slice (some ⟨B, 0, none⟩) n n, .cells (repZ z n) false) := by
  simp only [makeSlD]
  rw [if_pos ⟨by omega, by omega, by omega, by simpa using Nat.le_trans (Nat.mul_le_mul hb hn) (by decide)⟩]
  simp


theorem run106f {X : Ctx} (hX : X.fns = fnsOf Tryz.prog) (ho : ∀ f args s, f ≠ 7 → X.orc f args s = none) {s : Mm} {v : Value} {n : Nat} {g : Nat → Cx} (a : SlC s 1 v n (fV n g)) (hl : 1 ≤ n ∧ n ≤ 1048576) :
    CallP X 106 [v] s (fun q s' => q = cV (sumF g n) ∧ s = s') := by
  obtain ⟨m, rfl⟩ : ∃ m, n = m + 1 := ⟨n - 1, by omega⟩
  have hm : ((List.range m).map fun i => g (i + 1)).length = m := by simp
  have := run106 hX ho (s := s) (v := v) (x := g 0) (r := (List.range m).map fun i => g (i + 1)) (by rw [hm, ← fV_cons]; exact a) (by rw [hm]; omega)
  rw [sumF_fold] at this
  exact this

theorem run105 {X : Ctx} (hX : X.fns = fnsOf Tryz.prog) (ho : ∀ f args s, f ≠ 7 → X.orc f args s = none) {s0 s : Mm} {l : List HP} (H0 : Hold s0 s l) :
    CallP X 105 [.bool false] s (fun r s' => ∃ B, r = .func (Fn.func 139) #[] #[.pointer (some ⟨B, 0, none⟩)] ∧ Hold s0 s' (HP.cell B [.int .i64 (-1)] :: l)) := by
  have H1 := H0.new [.int .i64 0]
  have H2 := H1.setc (cs' := [.int .i64 (-1)])
  have st : storeV (newAt s (.cells [.int .i64 0] false)) 1 (.pointer (some ⟨s.nxt, 0, none⟩)) (.int .i64 (-1)) = some (undefV, setBlk (newAt s (.cells [.int .i64 0] false)) s.nxt (.cells [.int .i64 (-1)] false)) :=
    store_g (H1.cell (List.mem_cons_self ..)) rfl (by decide)
  refine CallP_of (hX ▸ ir105_eq) (ho _ _ _ (by decide)) (Nat.le_of_ble_eq_true rfl) ?_
  refine W_seq (W_ops [0] ?_)
  simp only [o105_0, wO, ↓reduceIte, Nat.reduceEqDiff]
  intro fr e0
  refine SeqK_n ?_
  refine W_seq (W_ops [0, 3] ?_)
  simp only [o105_1, wO, ↓reduceIte, Nat.reduceEqDiff, e0, st]
  clear e0
  intro fr e0 e3
  refine SeqK_n ?_
  refine W_assoc ?_
  refine W_seq (W_ops [3, 4] ?_)
  simp only [o105_2, wO, ↓reduceIte, Nat.reduceEqDiff, e0, e3]
  clear e0 e3
  intro fr e3 e4
  refine SeqK_n ?_
  refine W_seq (W_cond e4 (fun h => by cases h) (fun _ => W_skip (SeqK_n ?_)))
  refine W_seq (W_ops [2] ?_)
  simp only [o105_4, wO, ↓reduceIte, e3]
  clear e3
  intro fr e2
  refine SeqK_n ?_
  exact W_ret (Ret1 e2 ⟨s.nxt, rfl, H2⟩)

theorem run139 {X : Ctx} (hX : X.fns = fnsOf Tryz.prog) (ho : ∀ f args s, f ≠ 7 → X.orc f args s = none) {s : Mm} {k n B : Nat} (hn : 1 ≤ n ∧ n ≤ 256) (hk : k < 1048576) (hB : Store.get s.h B = some (.cells [.int .i64 (-1)] false)) :
    CallP X 139 [.int .i64 (k : Nat), .int .i64 (n : Nat), .pointer (some ⟨B, 0, none⟩)] s (fun r s' => r = cV (uN n k) ∧ Same s s' (fun _ => False)) := by
  have l0 : loadV s none (.pointer (some ⟨B, 0, none⟩)) = some (.int .i64 (-1)) := load_g hB
  have em : (-1 : Int) * ((k : Nat) : Int) = -((k : Nat) : Int) := by omega
  refine CallP_of (hX ▸ ir139_eq) (ho _ _ _ (by decide)) (Nat.le_of_ble_eq_true rfl) ?_
  refine W_seq (W_ops [0, 1, 2] ?_)
  simp only [o139_0, wO, ↓reduceIte, Nat.reduceEqDiff, Nat.reduceAdd]
  intro fr e0 e1 e2
  refine SeqK_n ?_
  refine W_seq (W_ops [5] ?_)
  simp only [o139_1, wO, ↓reduceIte, Nat.reduceEqDiff, e0, e1, e2, l0, em, wrap_i64 (n := -((k : Nat) : Int)) (by omega) (by omega)]
  refine CallK_of (run36 hX ho (k := -((k : Nat) : Int)) (n := ((n : Nat) : Int)) (by omega)) ?_
  rintro _ s1 ⟨rfl, hs1⟩
  simp only [wO, ↓reduceIte]
  clear e0 e1 e2
  intro fr e5
  refine SeqK_n ?_
  exact W_ret (Ret1 e5 ⟨rfl, hs1⟩)

end Go.Proofs.YtmfaodenkghmkaaGreat

/- The slow transform, walked whole. -/
namespace Go.Proofs.YtmfaodenkghmkaaGreat
open Go Go.Vam


set_option maxHeartbeats 1000000 in
theorem run78b {X : Ctx} (hX : X.fns = fnsOf Tryz.prog) (ho : ∀ f args s, f ≠ 7 → X.orc f args s = none) {s0 s s2 : Mm} {l : List HP} {v uv ov tv : Value} {B n : Nat} {f : Nat → Cx} (H0 : Hold s0 s l) (a : SlC s 1 v n (fV n f)) (hn : 1 ≤ n ∧ n ≤ 256)
    (F3 : Hold s s2 [HP.own 1 ov n (List.replicate n (.complex .f64 0 0)), HP.own 1 tv n (List.replicate n (.complex .f64 0 0)), HP.own 1 uv n (fV n (uN n)), HP.cell B [.int .i64 (-1)]])
    {fr : Fr} (e0 : geT fr 0 = v) (e1 : geT fr 1 = .bool false) (e6 : geT fr 6 = .int .i64 (n : Nat)) (e8 : geT fr 8 = uv) (e10 : geT fr 10 = ov) (e11 : geT fr 11 = tv) :
    SeqK X (((ACode.ops o78_13).seq (ACode.block 2 b78_14.loop)).seq (((ACode.ops o78_25).seq (ACode.cond (Operand.tmp 72) ((ACode.ops o78_26).seq ACode.ret) ACode.skip)).seq ((ACode.ops o78_27).seq ACode.ret)))
      (RetK ir78.results fun r s' => ∃ o, r = Value.tuple #[o, Value.int IntKind.i64 0] ∧ Hold s0 s' (HP.own 1 o n (fV n (slowF n f)) :: l)) AExit.normal fr s2 := by
  refine SeqK_n ?_
  rw [fillV_zero n (slowF n f)] at F3
  refine W_assoc ?_
  refine W_seq (W_ops [0, 1, 6, 8, 10, 11, 41, 42] ?_)
  simp only [o78_13, wO, ↓reduceIte, Nat.reduceEqDiff, e0, e1, e6, e8, e10, e11, (F3.own (List.mem_cons_self ..)).slc.len]
  clear e0 e1 e6 e8 e10 e11
  intro fr e0 e1 e6 e8 e10 e11 e41 e42
  refine SeqK_n ?_
  refine W_seq (W_block (W_loop (fun mm fr s2 => ∃ (j : Nat) (cs : List Value), j + mm = n ∧ cs.length = n ∧ geT fr 0 = v ∧ geT fr 1 = .bool false ∧ geT fr 6 = .int .i64 (n : Nat) ∧ geT fr 8 = uv ∧ geT fr 10 = ov ∧ geT fr 11 = tv ∧ geT fr 41 = .int .i64 (n : Nat) ∧ geT fr 42 = .int .i64 (j : Nat) ∧ Hold s s2 [HP.own 1 ov n (fillV n j (slowF n f)), HP.own 1 tv n cs, HP.own 1 uv n (fV n (uN n)), HP.cell B [.int .i64 (-1)]]) n ⟨0, fillV n 0 (slowF n f), by omega, fillV_len _ _ _, e0, e1, e6, e8, e10, e11, e41, e42, F3⟩ ?_))
  clear e0 e1 e6 e8 e10 e11 e41 e42 fr F3 s2
  rintro mm fr s1 ⟨j, cs, hj, hcs, e0, e1, e6, e8, e10, e11, e41, e42, H⟩
  refine W_seq (W_ops [0, 1, 6, 8, 10, 11, 41, 42, 43] ?_)
  simp only [o78_15, wO, ↓reduceIte, Nat.reduceEqDiff, e0, e1, e6, e8, e10, e11, e41, e42]
  clear e0 e1 e6 e8 e10 e11 e41 e42
  intro fr e0 e1 e6 e8 e10 e11 e41 e42 e43
  refine SeqK_n ?_
  refine W_while e43 (fun hlt => ?_) (fun hlt => ?_)
  · have hj1 : j < n := by omega
    refine W_seq (W_block ?_)
    refine W_seq (W_ops [0, 1, 6, 8, 10, 11, 12, 41, 42] ?_)
    simp only [o78_16, wO, ↓reduceIte, Nat.reduceEqDiff, e0, e1, e6, e8, e10, e11, e41, e42]
    clear e0 e1 e6 e8 e10 e11 e41 e42 e43
    intro fr e0 e1 e6 e8 e10 e11 e12 e41 e42
    refine SeqK_n ?_
    refine W_assoc ?_
    refine W_seq (W_ops [0, 1, 6, 8, 10, 11, 12, 41, 42, 45, 46, 47] ?_)
    simp only [o78_17, wO, ↓reduceIte, Nat.reduceEqDiff, e0, e1, e6, e8, e10, e11, e12, e41, e42, (a.same H.same (fun _ _ h => h)).len]
    clear e0 e1 e6 e8 e10 e11 e12 e41 e42
    intro fr e0 e1 e6 e8 e10 e11 e12 e41 e42 e45 e46 e47
    refine SeqK_n ?_
    refine W_seq (W_block (W_loop (fun m2 fr s2 => ∃ (k : Nat) (cs : List Value), k + m2 = n ∧ cs.length = n ∧ (∀ i, i < k → cs[i]? = some (cV (mulC (f i) (uN n (j * i % n))))) ∧ geT fr 0 = v ∧ geT fr 1 = .bool false ∧ geT fr 6 = .int .i64 (n : Nat) ∧ geT fr 8 = uv ∧ geT fr 10 = ov ∧ geT fr 11 = tv ∧ geT fr 12 = .int .i64 (j : Nat) ∧ geT fr 41 = .int .i64 (n : Nat) ∧ geT fr 42 = .int .i64 (j : Nat) ∧ geT fr 45 = v ∧ geT fr 46 = .int .i64 (n : Nat) ∧ geT fr 47 = .int .i64 (k : Nat) ∧ Hold s s2 [HP.own 1 tv n cs, HP.own 1 ov n (fillV n j (slowF n f)), HP.own 1 uv n (fV n (uN n)), HP.cell B [.int .i64 (-1)]]) n ⟨0, cs, by omega, hcs, by omega, e0, e1, e6, e8, e10, e11, e12, e41, e42, e45, e46, e47, H.up1⟩ ?_))
    clear e0 e1 e6 e8 e10 e11 e12 e41 e42 e45 e46 e47 fr H s1 hcs cs
    rintro m2 fr s1 ⟨k, cs, hk, hcs, hcl, e0, e1, e6, e8, e10, e11, e12, e41, e42, e45, e46, e47, H⟩
    have a1 := a.same H.same (fun _ _ h => h)
    have so := (H.own (List.mem_cons_self ..)).slc
    have su := (H.own (sz := 1) (v := uv) (n := n) (cs := fV n (uN n)) (by simp)).slc
    refine W_seq (W_ops [0, 1, 6, 8, 10, 11, 12, 41, 42, 45, 46, 47, 48] ?_)
    simp only [o78_19, wO, ↓reduceIte, Nat.reduceEqDiff, e0, e1, e6, e8, e10, e11, e12, e41, e42, e45, e46, e47]
    clear e0 e1 e6 e8 e10 e11 e12 e41 e42 e45 e46 e47
    intro fr e0 e1 e6 e8 e10 e11 e12 e41 e42 e45 e46 e47 e48
    refine SeqK_n ?_
    refine W_while e48 (fun hlt => ?_) (fun hlt => ?_)
    · have hk1 : k < n := by omega
      have hp : j * k ≤ 256 * 256 := Nat.mul_le_mul (by omega) (by omega)
      have hm : j * k % n < n := Nat.mod_lt _ (by omega)
      have A1 := a1.addr (kk := .i64) (i := ((k : Nat) : Int)) rfl hk1
      have A2 := so.addr (kk := .i64) (i := ((k : Nat) : Int)) rfl hk1
      have A3 := su.addr (kk := .i64) (i := ((j * k % n : Nat) : Int)) rfl hm
      rw [Nat.mul_one] at A1 A2 A3
      have L1 := a1.load (fV_at f hk1)
      have L3 := su.load (fV_at (uN n) hm)
      have em : ((j : Nat) : Int) * ((k : Nat) : Int) = ((j * k : Nat) : Int) := (Int.natCast_mul ..).symm
      have er : ((j * k : Nat) : Int).tmod ((n : Nat) : Int) = ((j * k % n : Nat) : Int) := rfl
      have h0 : ¬ ((n : Nat) : Int) = 0 := by omega
      refine W_seq (W_block ?_)
      refine W_seq (W_ops [0, 1, 6, 8, 10, 11, 12, 13, 14, 41, 42, 45, 46, 47] ?_)
      simp only [o78_20, wO, ↓reduceIte, Nat.reduceEqDiff, e0, e1, e6, e8, e10, e11, e12, e41, e42, e45, e46, e47, A1, L1]
      clear e0 e1 e6 e8 e10 e11 e12 e41 e42 e45 e46 e47 e48
      intro fr e0 e1 e6 e8 e10 e11 e12 e13 e14 e41 e42 e45 e46 e47
      refine SeqK_n ?_
      refine W_ops [0, 1, 6, 8, 10, 11, 12, 41, 42, 45, 46, 47] ?_
      simp only [o78_21, wO, ↓reduceIte, Nat.reduceEqDiff, e6, e8, e11, e12, e13, e14, em, wrap_i64 (n := ((j * k : Nat) : Int)) (by omega) (by omega), if_neg h0, er, A3, L3]
      refine CallK_of (run71c hX ho) ?_
      rintro _ _ ⟨rfl, rfl⟩
      obtain ⟨s2, st, H2⟩ := H.store (k := k) (x := cV (mulC (f k) (uN n (j * k % n)))) (by omega) rfl
      simp only [wO, ↓reduceIte, Nat.reduceEqDiff, e0, e1, e6, e8, e10, e11, e12, e41, e42, e45, e46, e47, A2, st]
      clear e0 e1 e6 e8 e10 e11 e12 e13 e14 e41 e42 e45 e46 e47
      intro fr e0 e1 e6 e8 e10 e11 e12 e41 e42 e45 e46 e47
      refine BlkK_n (SeqK_n ?_)
      refine W_ops [0, 1, 6, 8, 10, 11, 12, 41, 42, 45, 46, 47] ?_
      simp only [o78_22, wO, ↓reduceIte, Nat.reduceEqDiff, e0, e1, e6, e8, e10, e11, e12, e41, e42, e45, e46, e47, wrap_i64 (n := (k : Int) + 1) (by omega) (by omega)]
      clear e0 e1 e6 e8 e10 e11 e12 e41 e42 e45 e46 e47
      intro fr e0 e1 e6 e8 e10 e11 e12 e41 e42 e45 e46 e47
      refine LoopK_n (m' := m2 - 1) (by omega) ⟨k + 1, _, by omega, by rw [List.length_set]; exact hcs, fun i hi => ?_, e0, e1, e6, e8, e10, e11, e12, e41, e42, e45, e46, by rw [e47]; rfl, H2⟩
      rw [List.getElem?_set]
      by_cases hik : k = i
      · subst hik; rw [if_pos rfl, if_pos (by omega)]
      · rw [if_neg hik]; exact hcl i (by omega)
    · have hkk : k = n := by omega
      subst hkk
      have hce : cs = fV k fun i => mulC (f i) (uN k (j * i % k)) := by
        refine List.ext_getElem? fun i => ?_
        by_cases hi : i < k
        · rw [hcl i hi, fV_at _ hi]
        · rw [List.getElem?_eq_none (by omega), List.getElem?_eq_none (by rw [fV_len]; omega)]
      rw [hce] at so
      have sv := (H.own (sz := 1) (v := ov) (n := k) (cs := fillV k j (slowF k f)) (by simp)).slc
      have A1 := sv.addr (kk := .i64) (i := ((j : Nat) : Int)) rfl hj1
      rw [Nat.mul_one] at A1
      obtain ⟨s2, st, H2⟩ := H.up1.store (k := j) (x := cV (slowF k f j)) (by rw [fillV_len]; exact hj1) rfl
      rw [fillV_set hj1] at H2
      refine LoopK_x (BlkK_e (SeqK_n ?_))
      refine W_ops [0, 1, 6, 8, 10, 11, 41, 42] ?_
      simp only [o78_23, wO, ↓reduceIte, Nat.reduceEqDiff, e10, e11, e12]
      refine CallK_of (run106f hX ho so (by omega)) ?_
      rintro _ _ ⟨rfl, rfl⟩
      have hc : cV (sumF (fun i => mulC (f i) (uN k (j * i % k))) k) = cV (slowF k f j) := rfl
      simp only [wO, ↓reduceIte, Nat.reduceEqDiff, e0, e1, e6, e8, e10, e11, e41, e42, hc, A1, st]
      clear e0 e1 e6 e8 e10 e11 e12 e41 e42 e45 e46 e47 e48
      intro fr e0 e1 e6 e8 e10 e11 e41 e42
      refine BlkK_n (SeqK_n ?_)
      refine W_ops [0, 1, 6, 8, 10, 11, 41, 42] ?_
      simp only [o78_24, wO, ↓reduceIte, Nat.reduceEqDiff, e0, e1, e6, e8, e10, e11, e41, e42, wrap_i64 (n := (j : Int) + 1) (by omega) (by omega)]
      clear e0 e1 e6 e8 e10 e11 e41 e42
      intro fr e0 e1 e6 e8 e10 e11 e41 e42
      exact LoopK_n (m' := mm - 1) (by omega) ⟨j + 1, cs, by omega, hcs, e0, e1, e6, e8, e10, e11, e41, by rw [e42]; rfl, H2⟩
  · have hjj : j = n := by omega
    subst hjj
    rw [fillV_all] at H
    refine LoopK_x (BlkK_e (SeqK_n ?_))
    refine W_assoc ?_
    refine W_seq (W_ops [10, 72] ?_)
    simp only [o78_25, wO, ↓reduceIte, Nat.reduceEqDiff, e1, e10]
    clear e0 e1 e6 e8 e10 e11 e41 e42 e43
    intro fr e10 e72
    refine SeqK_n ?_
    refine W_seq (W_cond e72 (fun h => by cases h) (fun _ => W_skip (SeqK_n ?_)))
    refine W_seq (W_ops [4, 5] ?_)
    simp only [o78_27, wO, ↓reduceIte, Nat.reduceEqDiff, e10]
    clear e10 e72
    intro fr e4 e5
    refine SeqK_n ?_
    exact W_ret (Ret2 e4 e5 ⟨_, rfl, H0.app (H.sub (.cons_cons _ (List.nil_sublist _)))⟩)

set_option maxHeartbeats 1000000 in
theorem run78 {X : Ctx} (hX : X.fns = fnsOf Tryz.prog) (ho : ∀ f args s, f ≠ 7 → X.orc f args s = none) {s0 s : Mm} {l : List HP} {v : Value} {n : Nat} {f : Nat → Cx} (H0 : Hold s0 s l) (a : SlC s 1 v n (fV n f)) (hn : 1 ≤ n ∧ n ≤ 256) :
    CallP X 78 [v, .bool false] s (fun r s' => ∃ o, r = .tuple #[o, .int .i64 0] ∧ Hold s0 s' (HP.own 1 o n (fV n (slowF n f)) :: l)) := by
  have d1 : decide ((1024 : Int) < (n : Nat)) = false := decide_eq_false (by omega)
  refine CallP_of (hX ▸ ir78_eq) (ho _ _ _ (by decide)) (Nat.le_of_ble_eq_true rfl) ?_
  refine W_seq (W_ops [0, 1] ?_)
  simp only [o78_0, wO, ↓reduceIte, Nat.reduceEqDiff, Nat.reduceAdd]
  intro fr e0 e1
  refine SeqK_n ?_
  refine W_seq (W_ops [0, 1, 6] ?_)
  simp only [o78_1, wO, ↓reduceIte, Nat.reduceEqDiff, e0, e1, a.len]
  clear e0 e1
  intro fr e0 e1 e6
  refine SeqK_n ?_
  refine W_assoc ?_
  refine W_seq (W_ops [0, 1, 6, 18] ?_)
  simp only [o78_2, wO, ↓reduceIte, Nat.reduceEqDiff, e0, e1, e6, d1]
  clear e0 e1 e6
  intro fr e0 e1 e6 e18
  refine SeqK_n ?_
  refine W_seq (W_cond e18 (fun h => by cases h) (fun _ => W_skip (SeqK_n ?_)))
  refine W_seq (W_ops [0, 1, 6, 7] ?_)
  simp only [o78_4, wO, ↓reduceIte, e1]
  refine CallK_of (run105 hX ho (Hold.refl s)) ?_
  rintro _ s1 ⟨B, rfl, H1⟩
  simp only [wO, ↓reduceIte, Nat.reduceEqDiff, e0, e1, e6]
  clear e0 e1 e6
  intro fr e0 e1 e6 e7
  refine SeqK_n ?_
  have hmk := mkV (s := s1) (n := n) [.complex .f64 0 0] (show 16 ≤ 24 by omega) (by omega)
  have H2 := H1.make (sz := 1) (c := n) (n := n) (z := [.complex .f64 0 0]) rfl (Nat.le_refl _) (by unfold OPEN; omega)
  rw [repZ_1, fillV_zero n (uN n)] at H2 hmk
  refine W_seq (W_ops [0, 1, 6, 7, 8] ?_)
  simp only [o78_5, wO, ↓reduceIte, Nat.reduceEqDiff, e0, e1, e6, e7, hmk]
  clear e0 e1 e6 e7
  intro fr e0 e1 e6 e7 e8
  refine SeqK_n ?_
  generalize newAt s1 (.cells (fillV n 0 (uN n)) false) = s2 at H2 ⊢
  generalize Value.slice (some ⟨s1.nxt, 0, none⟩) n n = uv at H2 e8
  clear hmk H1 s1
  refine W_assoc ?_
  refine W_seq (W_ops [0, 1, 6, 7, 8, 24, 25] ?_)
  simp only [o78_6, wO, ↓reduceIte, Nat.reduceEqDiff, e0, e1, e6, e7, e8, (H2.own (List.mem_cons_self ..)).slc.len]
  clear e0 e1 e6 e7 e8
  intro fr e0 e1 e6 e7 e8 e24 e25
  refine SeqK_n ?_
  refine W_seq (W_block (W_loop (fun mm fr s2 => ∃ k : Nat, k + mm = n ∧ geT fr 0 = v ∧ geT fr 1 = .bool false ∧ geT fr 6 = .int .i64 (n : Nat) ∧ geT fr 7 = .func (Fn.func 139) #[] #[.pointer (some ⟨B, 0, none⟩)] ∧ geT fr 8 = uv ∧ geT fr 24 = .int .i64 (n : Nat) ∧ geT fr 25 = .int .i64 (k : Nat) ∧ Hold s s2 [HP.own 1 uv n (fillV n k (uN n)), HP.cell B [.int .i64 (-1)]]) n ⟨0, by omega, e0, e1, e6, e7, e8, e24, e25, H2⟩ ?_))
  · clear e0 e1 e6 e7 e8 e24 e25 fr H2 s2
    rintro mm fr s1 ⟨k, hk, e0, e1, e6, e7, e8, e24, e25, H⟩
    refine W_seq (W_ops [0, 1, 6, 7, 8, 24, 25, 26] ?_)
    simp only [o78_8, wO, ↓reduceIte, Nat.reduceEqDiff, e0, e1, e6, e7, e8, e24, e25]
    clear e0 e1 e6 e7 e8 e24 e25
    intro fr e0 e1 e6 e7 e8 e24 e25 e26
    refine SeqK_n ?_
    refine W_while e26 (fun hlt => ?_) (fun hlt => ?_)
    · have hk1 : k < n := by omega
      have A2 := (H.own (List.mem_cons_self ..)).slc.addr (kk := .i64) (i := ((k : Nat) : Int)) rfl hk1
      rw [Nat.mul_one] at A2
      refine W_seq (W_block ?_)
      refine W_seq (W_ops [0, 1, 6, 7, 8, 9, 24, 25] ?_)
      simp only [o78_9, wO, ↓reduceIte, Nat.reduceEqDiff, e0, e1, e6, e7, e8, e24, e25]
      clear e0 e1 e6 e7 e8 e24 e25 e26
      intro fr e0 e1 e6 e7 e8 e9 e24 e25
      refine SeqK_n ?_
      refine W_ops [0, 1, 6, 7, 8, 24, 25] ?_
      simp only [o78_10, wO, ↓reduceIte, Nat.reduceEqDiff, e6, e7, e8, e9]
      refine WO_callT ?_
      simp only [wO, ↓reduceIte, Nat.reduceEqDiff, FunK_f]
      refine CallK_of (run139 hX ho (k := k) hn (by omega) (H.cell (by simp))) ?_
      rintro _ s2 ⟨rfl, hs⟩
      obtain ⟨s3, st, H2⟩ := (H.keep hs).store (k := k) (x := cV (uN n k)) (by rw [fillV_len]; exact hk1) rfl
      rw [fillV_set hk1] at H2
      simp only [wO, ↓reduceIte, Nat.reduceEqDiff, e0, e1, e6, e7, e8, e24, e25, A2, st]
      clear e0 e1 e6 e7 e8 e9 e24 e25
      intro fr e0 e1 e6 e7 e8 e24 e25
      refine BlkK_n (SeqK_n ?_)
      refine W_ops [0, 1, 6, 7, 8, 24, 25] ?_
      simp only [o78_11, wO, ↓reduceIte, Nat.reduceEqDiff, e0, e1, e6, e7, e8, e24, e25, wrap_i64 (n := (k : Int) + 1) (by omega) (by omega)]
      clear e0 e1 e6 e7 e8 e24 e25
      intro fr e0 e1 e6 e7 e8 e24 e25
      exact LoopK_n (m' := mm - 1) (by omega) ⟨k + 1, by omega, e0, e1, e6, e7, e8, e24, by rw [e25]; rfl, H2⟩
    · have hkk : k = n := by omega
      subst hkk
      rw [fillV_all] at H
      refine LoopK_x (BlkK_e (SeqK_n ?_))
      clear e24 e25 e7
      refine W_seq (W_drawM [0, 1, 6, 8, 10, 11] 2 rfl ?_)
      intro s' hh hn' hs'
      have HR := H.reserve hn' hs'
      have hmk := fun B => mkD (B := B) (n := k) [.complex .f64 0 0] (show 16 ≤ 24 by omega) (by omega)
      simp only [d78_12, WD_move, WD_makeSlice, WD_nil, DPureK_some, DNewK_some, joinAll_nil, joinAll_cons, geT_put, evO_tmp, keep_nil, keep_cons, keepK_eq, Nat.reduceEqDiff, Nat.reduceAdd, ↓reduceIte, eq_self, Nat.zero_add, e0, e1, e6, e8, hmk]
      clear e0 e1 e6 e8
      intro fr e0 e1 e6 e8 e10 e11
      refine SeqK_n ?_
      have F1 : Hold s (setH s' (Store.put s'.h s1.nxt (some (.cells (repZ [.complex .f64 0 0] k) false)))) (HP.cell s1.nxt (repZ [.complex .f64 0 0] k) :: HP.res (s1.nxt + 1) :: [HP.own 1 uv k (fV k (uN k)), HP.cell B [.int .i64 (-1)]]) := Hold.fill _ (l := HP.res (s1.nxt + 1) :: [HP.own 1 uv k (fV k (uN k)), HP.cell B [.int .i64 (-1)]]) HR
      have F2 : Hold s (setH s' (Store.put (Store.put s'.h s1.nxt (some (.cells (repZ [.complex .f64 0 0] k) false))) (s1.nxt + 1) (some (.cells (repZ [.complex .f64 0 0] k) false)))) (HP.cell (s1.nxt + 1) (repZ [.complex .f64 0 0] k) :: HP.cell s1.nxt (repZ [.complex .f64 0 0] k) :: [HP.own 1 uv k (fV k (uN k)), HP.cell B [.int .i64 (-1)]]) := Hold.fill _ F1.up1
      generalize setH s' (Store.put (Store.put s'.h s1.nxt (some (.cells (repZ [.complex .f64 0 0] k) false))) (s1.nxt + 1) (some (.cells (repZ [.complex .f64 0 0] k) false))) = s2 at F2 ⊢
      rw [repZ_1] at F2
      have F3 := (F2.cellOwn (sz := 1) (n := k) (by simp) (by unfold OPEN; omega)).up1.cellOwn (sz := 1) (n := k) (by simp) (by unfold OPEN; omega)
      generalize Value.slice (some ⟨s1.nxt, 0, none⟩) k k = ov at F3 e10
      generalize Value.slice (some ⟨s1.nxt + 1, 0, none⟩) k k = tv at F3 e11
      clear F2 F1 HR hn' hh hs' H hmk s' hlt hk mm
      exact run78b hX ho H0 a hn F3 e0 e1 e6 e8 e10 e11

end Go.Proofs.YtmfaodenkghmkaaGreat

/- Tables: their columns, and the matched filter row by row. -/
namespace Go.Proofs.YtmfaodenkghmkaaGreat
open Go Go.Vam

/-- m rows of n complex numbers that may be read. -/
def TabC (s : Mm) (v : Value) (m n : Nat) (f : Nat → Nat → Cx) : Prop :=
  ∃ cells, SlC s 1 v m cells ∧ ∀ i, i < m → ∃ c, cells[i]? = some c ∧ SlC s 1 c n (fV n (f i))
theorem TabC.same {s s' : Mm} {v : Value} {m n : Nat} {f : Nat → Nat → Cx} (h : TabC s v m n f) (hs : Same s s' (fun _ => False)) : TabC s' v m n f := by
  obtain ⟨c, a, b⟩ := h
  exact ⟨c, a.same hs (fun _ _ h => h), fun i hi => let ⟨x, y, z⟩ := b i hi; ⟨x, y, z.same hs (fun _ _ h => h)⟩⟩
theorem TabC.len {s : Mm} {v : Value} {m n : Nat} {f : Nat → Nat → Cx} (h : TabC s v m n f) : buV .len [v] = some (.int .i64 m) := by
  obtain ⟨c, a, b⟩ := h; exact a.len
theorem TabC.row {s : Mm} {v : Value} {m n : Nat} {f : Nat → Nat → Cx} (h : TabC s v m n f) {k : Nat} (hk : k < m) :
    ∃ c, addrSlV 1 v (.int .i64 (k : Nat)) = some (elP v k) ∧ loadV s none (elP v k) = some c ∧ SlC s 1 c n (fV n (f k)) := by
  obtain ⟨c, a, b⟩ := h
  obtain ⟨x, y, z⟩ := b k hk
  exact ⟨x, by have := a.addr (kk := .i64) (i := (k : Int)) rfl hk; rwa [Nat.mul_one] at this, a.load y, z⟩
/-- A row, as a list; rows. -/
def rowL (n : Nat) (f : Nat → Cx) : List Cx := (List.range n).map f
def rowsL (m n : Nat) (f : Nat → Nat → Cx) : List (List Cx) := (List.range m).map fun i => rowL n (f i)
def eC (x : Cx) : List Value := [cV x]
theorem rowL_flat (n : Nat) (f : Nat → Cx) : (rowL n f).flatMap eC = fV n f := by
  unfold rowL fV
  generalize List.range n = l
  induction l with
  | nil => rfl
  | cons a l ih => simp [eC, cV] at ih ⊢; exact ih
theorem rowL_len (n : Nat) (f : Nat → Cx) : (rowL n f).length = n := by simp [rowL]
theorem rowsL_len (m n : Nat) (f : Nat → Nat → Cx) : (rowsL m n f).length = m := by simp [rowsL]
theorem rowsL_succ (m n : Nat) (f : Nat → Nat → Cx) : rowsL (m + 1) n f = rowsL m n f ++ [rowL n (f m)] := by simp [rowsL, List.range_succ]
theorem TabC.of {s : Mm} {v : Value} {m n : Nat} {f : Nat → Nat → Cx} (h : TabE s 1 eC v (rowsL m n f)) : TabC s v m n f := by
  obtain ⟨c, a, b⟩ := h
  rw [rowsL_len] at a
  refine ⟨c, a, fun i hi => ?_⟩
  obtain ⟨x, y, z⟩ := b i (rowL n (f i)) (by simp [rowsL, hi])
  rw [rowL_len, rowL_flat] at z
  exact ⟨x, y, z⟩


set_option maxHeartbeats 1000000 in
theorem run76 {X : Ctx} (hX : X.fns = fnsOf Tryz.prog) (ho : ∀ f args s, f ≠ 7 → X.orc f args s = none) {s : Mm} {v : Value} {m n : Nat} {f : Nat → Nat → Cx} (a : TabC s v m n f) (hm : 1 ≤ m ∧ m ≤ 256) :
    CallP X 76 [v] s (fun r s' => r = .tuple #[.int .i64 (n : Nat), .bool true] ∧ s = s') := by
  refine CallP_of (hX ▸ ir76_eq) (ho _ _ _ (by decide)) (Nat.le_of_ble_eq_true rfl) ?_
  refine W_seq (W_ops [0] ?_)
  simp only [o76_0, wO, ↓reduceIte, Nat.reduceEqDiff]
  intro fr e0
  refine SeqK_n ?_
  refine W_seq (W_ops [0, 4] ?_)
  simp only [o76_1, wO, ↓reduceIte, Nat.reduceEqDiff, e0]
  clear e0
  intro fr e0 e4
  refine SeqK_n ?_
  refine W_assoc ?_
  refine W_seq (W_ops [4, 7, 8, 9] ?_)
  simp only [o76_2, wO, ↓reduceIte, Nat.reduceEqDiff, e0, e4, a.len]
  clear e0 e4
  intro fr e4 e7 e8 e9
  refine SeqK_n ?_
  refine W_seq (W_block (W_loop (fun mm fr s1 => ∃ k : Nat, k + mm = m ∧ s = s1 ∧ geT fr 4 = .int .i64 ((if k = 0 then 0 else n : Nat) : Nat) ∧ geT fr 7 = v ∧ geT fr 8 = .int .i64 (m : Nat) ∧ geT fr 9 = .int .i64 (k : Nat)) m ⟨0, by omega, rfl, e4, e7, e8, e9⟩ ?_))
  clear e4 e7 e8 e9 fr
  rintro mm fr _ ⟨k, hk, rfl, e4, e7, e8, e9⟩
  refine W_seq (W_ops [4, 7, 8, 9, 10] ?_)
  simp only [o76_4, wO, ↓reduceIte, Nat.reduceEqDiff, e4, e7, e8, e9]
  clear e4 e7 e8 e9
  intro fr e4 e7 e8 e9 e10
  refine SeqK_n ?_
  refine W_while e10 (fun hlt => ?_) (fun hlt => ?_)
  · obtain ⟨c, A1, L1, z⟩ := a.row (show k < m by omega)
    refine W_seq (W_block ?_)
    refine W_seq (W_ops [4, 5, 6, 7, 8, 9] ?_)
    simp only [o76_5, wO, ↓reduceIte, Nat.reduceEqDiff, e4, e7, e8, e9, A1, L1]
    clear e4 e7 e8 e9 e10
    intro fr e4 e5 e6 e7 e8 e9
    refine SeqK_n ?_
    by_cases h0 : k = 0
    · have d0 : decide (((k : Nat) : Int) = 0) = true := decide_eq_true (by omega)
      refine W_seq (W_ops [4, 6, 7, 8, 9, 15] ?_)
      simp only [o76_6, wO, ↓reduceIte, Nat.reduceEqDiff, e4, e5, e6, e7, e8, e9, d0]
      clear e4 e5 e6 e7 e8 e9
      intro fr e4 e6 e7 e8 e9 e15
      refine SeqK_n ?_
      refine W_cond e15 (fun _ => ?_) (fun h => by cases h)
      refine W_ops [4, 7, 8, 9] ?_
      simp only [o76_7, wO, ↓reduceIte, Nat.reduceEqDiff, e6, e7, e8, e9, z.len]
      clear e6 e7 e8 e9
      intro fr e4 e7 e8 e9
      refine BlkK_n (SeqK_n ?_)
      refine W_ops [4, 7, 8, 9] ?_
      simp only [o76_10, wO, ↓reduceIte, Nat.reduceEqDiff, e4, e7, e8, e9, wrap_i64 (n := (k : Int) + 1) (by omega) (by omega)]
      clear e4 e7 e8 e9
      intro fr e4 e7 e8 e9
      exact LoopK_n (m' := mm - 1) (by omega) ⟨k + 1, by omega, rfl, by rw [if_neg (by omega)]; exact e4, e7, e8, by rw [e9]; rfl⟩
    · have d0 : decide (((k : Nat) : Int) = 0) = false := decide_eq_false (by omega)
      rw [if_neg h0] at e4
      refine W_seq (W_ops [4, 6, 7, 8, 9, 15] ?_)
      simp only [o76_6, wO, ↓reduceIte, Nat.reduceEqDiff, e4, e5, e6, e7, e8, e9, d0]
      clear e4 e5 e6 e7 e8 e9
      intro fr e4 e6 e7 e8 e9 e15
      refine SeqK_n ?_
      refine W_cond e15 (fun h => by cases h) (fun _ => ?_)
      have d2 : decide (¬ ((n : Nat) : Int) = ((n : Nat) : Int)) = false := decide_eq_false (by simp)
      refine W_seq (W_ops [4, 7, 8, 9, 21] ?_)
      simp only [o76_8, wO, ↓reduceIte, Nat.reduceEqDiff, e4, e6, e7, e8, e9, z.len]
      clear e4 e6 e7 e8 e9
      intro fr e4 e7 e8 e9 e21
      refine SeqK_n ?_
      refine W_cond e21 (fun h => by cases h) (fun _ => W_skip (BlkK_n (SeqK_n ?_)))
      refine W_ops [4, 7, 8, 9] ?_
      simp only [o76_10, wO, ↓reduceIte, Nat.reduceEqDiff, e4, e7, e8, e9, wrap_i64 (n := (k : Int) + 1) (by omega) (by omega)]
      clear e4 e7 e8 e9
      intro fr e4 e7 e8 e9
      exact LoopK_n (m' := mm - 1) (by omega) ⟨k + 1, by omega, rfl, by rw [if_neg (by omega)]; exact e4, e7, e8, by rw [e9]; rfl⟩
  · rw [if_neg (by omega)] at e4
    refine LoopK_x (BlkK_e (SeqK_n ?_))
    refine W_seq (W_ops [2, 3] ?_)
    simp only [o76_11, wO, ↓reduceIte, Nat.reduceEqDiff, e4]
    clear e4 e7 e8 e9 e10
    intro fr e2 e3
    refine SeqK_n ?_
    exact W_ret (Ret2 e2 e3 ⟨rfl, rfl⟩)

set_option maxHeartbeats 1000000 in
theorem run73 {X : Ctx} (hX : X.fns = fnsOf Tryz.prog) (ho : ∀ f args s, f ≠ 7 → X.orc f args s = none) {s : Mm} {v : Value} {m n e : Nat} {f : Nat → Nat → Cx} (a : TabC s v m n f) (hm : 1 ≤ m ∧ m ≤ 256) (hn : n ≤ 4096) (hmn : m * n ≤ 4096) (he : e ≤ 256) :
    CallP X 73 [v, .int .i64 (e : Nat)] s (fun r s' => r = .int .i64 0 ∧ s = s') := by
  have d1 : decide ((256 : Int) < (m : Nat)) = false := decide_eq_false (by omega)
  have d2 : decide ((16384 : Int) < (n : Nat)) = false := decide_eq_false (by omega)
  have em : ((m : Nat) : Int) * ((n : Nat) : Int) = ((m * n : Nat) : Int) := (Int.natCast_mul ..).symm
  have d3 : decide ((262144 : Int) < ((m * n : Nat) : Int)) = false := decide_eq_false (by omega)
  have w := wrap_i64 (n := ((m * n : Nat) : Int)) (by omega) (by omega)
  refine CallP_of (hX ▸ ir73_eq) (ho _ _ _ (by decide)) (Nat.le_of_ble_eq_true rfl) ?_
  refine W_seq (W_ops [0, 1] ?_)
  simp only [o73_0, wO, ↓reduceIte, Nat.reduceEqDiff, Nat.reduceAdd]
  intro fr e0 e1
  refine SeqK_n ?_
  refine W_seq (W_ops [0, 1, 5, 6] ?_)
  simp only [o73_1, wO, ↓reduceIte, e0]
  refine CallK_of (run76 hX ho a hm) ?_
  rintro _ _ ⟨rfl, rfl⟩
  simp only [wO, ↓reduceIte, Nat.reduceEqDiff, e0, e1]
  clear e0 e1
  intro fr e0 e1 e5 e6
  refine SeqK_n ?_
  refine W_seq (W_block ?_)
  refine W_seq (W_ops [0, 1, 5, 12] ?_)
  simp only [o73_2, wO, ↓reduceIte, Nat.reduceEqDiff, e0, e1, e5, e6]
  clear e0 e1 e5 e6
  intro fr e0 e1 e5 e12
  refine SeqK_n ?_
  refine W_cond e12 (fun h => by cases h) (fun _ => ?_)
  by_cases h0 : e = 0
  · have d4 : decide ((0 : Int) < ((e : Nat) : Int)) = false := decide_eq_false (by omega)
    refine W_seq (W_ops [15] ?_)
    simp only [o73_4, wO, ↓reduceIte, Nat.reduceEqDiff, e0, e1, e5, a.len, d1, d2, em, w, d3, d4]
    clear e0 e1 e5
    intro fr e15
    refine SeqK_n ?_
    refine W_cond e15 (fun h => by cases h) (fun _ => W_skip (BlkK_n (SeqK_n ?_)))
    refine W_seq (W_ops [4] ?_)
    simp only [o73_6, wO, ↓reduceIte]
    intro fr e4
    refine SeqK_n ?_
    exact W_ret (Ret1 e4 ⟨rfl, rfl⟩)
  · have d4 : decide ((0 : Int) < ((e : Nat) : Int)) = true := decide_eq_true (by omega)
    have hz : ¬ ((e : Nat) : Int) = 0 := by omega
    have eq : (16777216 : Int).tdiv ((e : Nat) : Int) = ((16777216 / e : Nat) : Int) := rfl
    have hq : 65536 ≤ 16777216 / e := (Nat.le_div_iff_mul_le (by omega)).2 (Nat.le_trans (Nat.mul_le_mul_left 65536 he) (by decide))
    have hq2 : 16777216 / e ≤ 16777216 := Nat.div_le_self ..
    have d5 : decide (((16777216 / e : Nat) : Int) < ((m * n : Nat) : Int)) = false := decide_eq_false (by omega)
    have w2 := wrap_i64 (n := ((16777216 / e : Nat) : Int)) (by omega) (by omega)
    refine W_seq (W_ops [15] ?_)
    simp only [o73_4, wO, ↓reduceIte, Nat.reduceEqDiff, e0, e1, e5, a.len, d1, d2, em, w, d3, d4, if_neg hz, eq, w2, d5]
    clear e0 e1 e5
    intro fr e15
    refine SeqK_n ?_
    refine W_cond e15 (fun h => by cases h) (fun _ => W_skip (BlkK_n (SeqK_n ?_)))
    refine W_seq (W_ops [4] ?_)
    simp only [o73_6, wO, ↓reduceIte]
    intro fr e4
    refine SeqK_n ?_
    exact W_ret (Ret1 e4 ⟨rfl, rfl⟩)

/-- What a pulse makes of rows. -/
def compF (n q : Nat) (g : Nat → Cx) (f : Nat → Nat → Cx) (i : Nat) : Nat → Cx := matchF n q (f i) g

set_option maxHeartbeats 1000000 in
theorem run46 {X : Ctx} (hX : X.fns = fnsOf Tryz.prog) (ho : ∀ f args s, f ≠ 7 → X.orc f args s = none) {s0 s : Mm} {l : List HP} {v w : Value} {m n q : Nat} {f : Nat → Nat → Cx} {g : Nat → Cx} (H0 : Hold s0 s l) (a : TabC s v m n f) (b : SlC s 1 w q (fV q g)) (hm : 1 ≤ m ∧ m ≤ 256) (hn : n ≤ 4096) (hmn : m * n ≤ 4096) (hq : 1 ≤ q ∧ q ≤ 256) :
    CallP X 46 [v, w] s (fun r s' => ∃ o, r = .tuple #[o, .int .i64 0] ∧ Hold s0 s' (HP.tab 1 eC o (rowsL m n (compF n q g f)) [] :: l)) := by
  have hnq : n * q ≤ 4096 * 256 := Nat.mul_le_mul hn hq.2
  have d0 : decide (((q : Nat) : Int) = 0) = false := decide_eq_false (by omega)
  have d1 : decide ((16384 : Int) < ((q : Nat) : Int)) = false := decide_eq_false (by omega)
  refine CallP_of (hX ▸ ir46_eq) (ho _ _ _ (by decide)) (Nat.le_of_ble_eq_true rfl) ?_
  refine W_seq (W_ops [0, 1] ?_)
  simp only [o46_0, wO, ↓reduceIte, Nat.reduceEqDiff, Nat.reduceAdd]
  intro fr e0 e1
  refine SeqK_n ?_
  refine W_seq (W_ops [0, 1, 6] ?_)
  simp only [o46_1, wO, ↓reduceIte, Nat.reduceEqDiff, e0, e1]
  clear e0 e1
  intro fr e0 e1 e6
  refine SeqK_n ?_
  refine W_assoc ?_
  refine W_seq (W_ops [0, 1, 6, 7] ?_)
  simp only [o46_2, wO, e6]
  refine WO_callT ?_
  simp only [wO, ↓reduceIte, FunK_f]
  refine CallK_of (run73 hX ho (e := 0) a hm hn hmn (by omega)) ?_
  rintro _ _ ⟨rfl, rfl⟩
  simp only [wO, ↓reduceIte, Nat.reduceEqDiff, e0, e1, e6]
  clear e0 e1 e6
  intro fr e0 e1 e6 e7
  refine SeqK_n ?_
  refine W_assoc ?_
  refine W_seq (W_ops [0, 1, 6, 7, 17] ?_)
  simp only [o46_3, wO, ↓reduceIte, Nat.reduceEqDiff, Int.reduceEq, e0, e1, e6, e7]
  clear e0 e1 e6 e7
  intro fr e0 e1 e6 e7 e17
  refine SeqK_n ?_
  refine W_seq (W_cond e17 (fun h => by cases h) (fun _ => W_skip (SeqK_n ?_)))
  refine W_assoc ?_
  refine W_seq (W_ops [0, 1, 6, 21] ?_)
  simp only [o46_5, wO, ↓reduceIte, Nat.reduceEqDiff, e0, e1, e6, b.len, d0]
  clear e0 e1 e6
  intro fr e0 e1 e6 e21
  refine SeqK_n ?_
  refine W_seq (W_cond e21 (fun h => by cases h) (fun _ => W_skip (SeqK_n ?_)))
  refine W_assoc ?_
  refine W_seq (W_ops [0, 1, 8] ?_)
  simp only [o46_7, wO, ↓reduceIte, Nat.reduceEqDiff, e1, e6, b.len]
  refine WO_callT ?_
  simp only [wO, ↓reduceIte, Nat.reduceEqDiff, FunK_f]
  refine CallK_of (run73 hX ho (e := q) a hm hn hmn (by omega)) ?_
  rintro _ _ ⟨rfl, rfl⟩
  simp only [wO, ↓reduceIte, Nat.reduceEqDiff, e0, e1]
  clear e0 e1 e6
  intro fr e0 e1 e8
  refine SeqK_n ?_
  refine W_assoc ?_
  refine W_seq (W_ops [0, 1, 32] ?_)
  simp only [o46_8, wO, ↓reduceIte, Nat.reduceEqDiff, e0, e1, e8, b.len, d1]
  clear e0 e1 e8
  intro fr e0 e1 e32
  refine SeqK_n ?_
  refine W_seq (W_cond e32 (fun h => by cases h) (fun _ => W_skip (SeqK_n ?_)))
  have hmk := mkV (s := s) (n := m) [.slice none 0 0] (show 24 ≤ 24 by omega) (by omega)
  have H1 := (Hold.refl s).makeT (c := m) (z := .slice none 0 0) 1 eC (by unfold OPEN; omega)
  have e00 : ([] : List (List Cx)) = rowsL 0 n (compF n q g f) := rfl
  rw [e00] at H1
  refine W_seq (W_ops [0, 1, 9] ?_)
  simp only [o46_10, wO, ↓reduceIte, Nat.reduceEqDiff, e0, e1, a.len, hmk]
  clear e0 e1
  intro fr e0 e1 e9
  refine SeqK_n ?_
  generalize newAt s (.cells (repZ [.slice none 0 0] m) false) = s1 at H1 ⊢
  generalize Value.slice (some ⟨s.nxt, 0, none⟩) m m = ov at H1 e9
  refine W_assoc ?_
  refine W_seq (W_ops [1, 9, 36, 37, 38] ?_)
  simp only [o46_11, wO, ↓reduceIte, Nat.reduceEqDiff, e0, e1, e9, (a.same H1.same).len]
  clear e0 e1 e9
  intro fr e1 e9 e36 e37 e38
  refine SeqK_n ?_
  refine W_seq (W_block (W_loop (fun mm fr s2 => ∃ k : Nat, k + mm = m ∧ geT fr 1 = w ∧ geT fr 9 = ov ∧ geT fr 36 = v ∧ geT fr 37 = .int .i64 (m : Nat) ∧ geT fr 38 = .int .i64 (k : Nat) ∧ Hold s s2 [HP.tab 1 eC ov (rowsL k n (compF n q g f)) (List.replicate mm (.slice none 0 0))]) m ⟨0, by omega, e1, e9, e36, e37, e38, H1⟩ ?_))
  clear e1 e9 e36 e37 e38 fr H1 hmk s1
  rintro mm fr s1 ⟨k, hk, e1, e9, e36, e37, e38, H⟩
  refine W_seq (W_ops [1, 9, 36, 37, 38, 39] ?_)
  simp only [o46_13, wO, ↓reduceIte, Nat.reduceEqDiff, e1, e9, e36, e37, e38]
  clear e1 e9 e36 e37 e38
  intro fr e1 e9 e36 e37 e38 e39
  refine SeqK_n ?_
  refine W_while e39 (fun hlt => ?_) (fun hlt => ?_)
  · obtain ⟨c, A1, L1, z⟩ := (a.same H.same).row (show k < m by omega)
    refine W_seq (W_block ?_)
    refine W_seq (W_ops [1, 9, 10, 11, 36, 37, 38] ?_)
    simp only [o46_14, wO, ↓reduceIte, Nat.reduceEqDiff, e1, e9, e36, e37, e38, A1, L1]
    clear e1 e9 e36 e37 e38 e39
    intro fr e1 e9 e10 e11 e36 e37 e38
    refine SeqK_n ?_
    refine W_ops [1, 9, 36, 37, 38] ?_
    simp only [o46_15, wO, ↓reduceIte, Nat.reduceEqDiff, e1, e9, e10, e11]
    refine CallK_of (run74 hX ho H z (b.same H.same (fun _ _ h => h)) (by omega) (by omega) (by omega)) ?_
    rintro _ s2 ⟨o, rfl, H2⟩
    obtain ⟨mm, rfl⟩ : ∃ j, mm = j + 1 := ⟨mm - 1, by omega⟩
    rw [List.replicate_succ] at H2
    have hone : oneCell o = true := (H2.own (List.mem_cons_self ..)).one
    have A2 := (H2.up1.tabLoad (List.mem_cons_self ..)).1
    obtain ⟨s3, st, H3⟩ := H2.up1.tabStore (c := o) hone
    rw [rowsL_len] at A2 st
    have H4 := H3.up1
    rw [show fV n (matchF n q (f k) g) = (rowL n (compF n q g f k)).flatMap eC from (rowL_flat _ _).symm] at H4
    have H5 := H4.tabClose (rowL_len _ _).symm
    rw [← rowsL_succ] at H5
    simp only [wO, ↓reduceIte, Nat.reduceEqDiff, e1, e9, e36, e37, e38, A2, st]
    clear e1 e9 e10 e11 e36 e37 e38
    intro fr e1 e9 e36 e37 e38
    refine BlkK_n (SeqK_n ?_)
    refine W_ops [1, 9, 36, 37, 38] ?_
    simp only [o46_16, wO, ↓reduceIte, Nat.reduceEqDiff, e1, e9, e36, e37, e38, wrap_i64 (n := (k : Int) + 1) (by omega) (by omega)]
    clear e1 e9 e36 e37 e38
    intro fr e1 e9 e36 e37 e38
    exact LoopK_n (m' := mm) (by omega) ⟨k + 1, by omega, e1, e9, e36, e37, by rw [e38]; rfl, H5⟩
  · have hkk : k = m := by omega
    obtain rfl : mm = 0 := by omega
    subst hkk
    refine LoopK_x (BlkK_e (SeqK_n ?_))
    refine W_seq (W_ops [4, 5] ?_)
    simp only [o46_17, wO, ↓reduceIte, Nat.reduceEqDiff, e9]
    clear e1 e9 e36 e37 e38 e39
    intro fr e4 e5
    refine SeqK_n ?_
    exact W_ret (Ret2 e4 e5 ⟨_, rfl, H0.app H⟩)

end Go.Proofs.YtmfaodenkghmkaaGreat

/- Tables in one block. -/
namespace Go.Proofs.YtmfaodenkghmkaaGreat
open Go Go.Vam

/-- A row of a table that lies in one block. -/
def rowV (B n i : Nat) : Value := .slice (some ⟨B, i * n, none⟩) n n
def rowsV (B n m : Nat) : List Value := (List.range m).map (rowV B n)
theorem lt_grid {m n i k : Nat} (hi : i < m) (hk : k < n) : i * n + k < m * n := by
  have := Nat.mul_le_mul_right n (show i + 1 ≤ m from hi)
  rw [Nat.succ_mul] at this
  omega
theorem le_grid {m n i : Nat} (hi : i < m) : i * n + n ≤ m * n := by
  have := Nat.mul_le_mul_right n (show i + 1 ≤ m from hi)
  rwa [Nat.succ_mul] at this
theorem sl3 {B m n i : Nat} (hn : 1 ≤ n) (hi : i < m) (hmn : m * n ≤ 1048576) :
    slV 1 (.slice (some ⟨B, 0, none⟩) (m * n) (m * n)) (some (.int .i64 ((i * n : Nat) : Int))) (some (.int .i64 ((i * n + n : Nat) : Int))) (some (.int .i64 ((i * n + n : Nat) : Int))) = some (rowV B n i) := by
  have h1 := le_grid (n := n) hi
  have b1 := bnd_int (kk := .i64) (i := ((i * n + n : Nat) : Int)) rfl h1
  have b2 := bnd_int (kk := .i64) (i := ((i * n + n : Nat) : Int)) rfl (Nat.le_refl (i * n + n))
  have b3 := bnd_int (kk := .i64) (i := ((i * n : Nat) : Int)) rfl (show i * n ≤ i * n + n by omega)
  have hb : bounds (m * n) (m * n) (some (.int .i64 ((i * n : Nat) : Int))) (some (.int .i64 ((i * n + n : Nat) : Int))) (some (.int .i64 ((i * n + n : Nat) : Int))) = some (i * n, i * n + n, i * n + n) := by
    delta bounds
    simp only [b1, b2, b3]
  simp only [slV]
  rw [if_pos (show m * n < OPEN by unfold OPEN; omega), hb]
  simp only [if_neg (show ¬ i * n + n = i * n by omega), Option.map_some, add_none', Nat.zero_add, Nat.mul_one, Nat.add_sub_cancel_left, rowV]

def gridV (m n : Nat) (f : Nat → Nat → Cx) : List Value := fV (m * n) fun i => f (i / n) (i % n)
theorem gridV_len (m n : Nat) (f : Nat → Nat → Cx) : (gridV m n f).length = m * n := fV_len _ _
theorem grid_div {n i k : Nat} (hk : k < n) : (i * n + k) / n = i ∧ (i * n + k) % n = k := by
  rw [Nat.mul_comm, Nat.mul_add_div (by omega), Nat.mul_add_mod, Nat.div_eq_of_lt hk, Nat.mod_eq_of_lt hk]
  exact ⟨rfl, rfl⟩
theorem gridV_at {m n i k : Nat} (f : Nat → Nat → Cx) (hi : i < m) (hk : k < n) : (gridV m n f)[i * n + k]? = some (cV (f i k)) := by
  rw [gridV, fV_at _ (lt_grid hi hk), (grid_div hk).1, (grid_div hk).2]
theorem gridV_set {m n i k : Nat} {f f' : Nat → Nat → Cx} (hi : i < m) (hk : k < n) (h : ∀ a b, b < n → (a = i → b ≠ k) → f a b = f' a b) : (gridV m n f).set (i * n + k) (cV (f' i k)) = gridV m n f' := by
  refine List.ext_getElem? fun j => ?_
  rw [List.getElem?_set, gridV_len]
  by_cases e : i * n + k = j
  · subst e
    rw [if_pos rfl, if_pos (lt_grid hi hk), gridV_at _ hi hk]
  · rw [if_neg e]
    by_cases hj : j < m * n
    · rw [gridV, gridV, fV_at _ hj, fV_at _ hj, h]
      · exact Nat.mod_lt _ (by omega)
      · intro h1 h2
        apply e
        rw [← h1, ← h2, Nat.mul_comm]
        exact Nat.div_add_mod j n
    · rw [List.getElem?_eq_none (by rw [gridV_len]; omega), List.getElem?_eq_none (by rw [gridV_len]; omega)]
theorem row_grid {s : Mm} {B m n i : Nat} {f : Nat → Nat → Cx} (hg : Store.get s.h B = some (.cells (gridV m n f) false)) (hB : B < s.nxt) (hi : i < m) (hmn : m * n ≤ 1048576) : SlC s 1 (rowV B n i) n (fV n (f i)) := by
  have h1 := le_grid (n := n) hi
  refine .mk (blk_cells hg) hB ?_ (by rw [gridV_len]; omega) (.inl ⟨Nat.le_refl _, by unfold OPEN; omega⟩)
  refine List.ext_getElem? fun k => ?_
  rw [List.getElem?_take, Nat.mul_one]
  by_cases hk : k < n
  · rw [if_pos hk, List.getElem?_drop, gridV_at f hi hk, fV_at _ hk]
  · rw [if_neg hk, List.getElem?_eq_none (by rw [fV_len]; omega)]
theorem rowsV_at {B n m i : Nat} (h : i < m) : (rowsV B n m)[i]? = some (rowV B n i) := by simp [rowsV, h]
theorem _root_.Go.Vam.Hold.cellB {s0 s : Mm} {l : List HP} {B : Nat} {cs : List Value} (h : Hold s0 s l) (hm : HP.cell B cs ∈ l) : B < s.nxt := by
  obtain ⟨K, ⟨_, a, _⟩, _⟩ := h.mem hm; exact a
theorem TabC.grid {s0 s : Mm} {l : List HP} {ov : Value} {B m n : Nat} {f : Nat → Nat → Cx} (h : Hold s0 s l) (h1 : HP.own 1 ov m (rowsV B n m) ∈ l) (h2 : HP.cell B (gridV m n f) ∈ l) (hmn : m * n ≤ 1048576) : TabC s ov m n f :=
  ⟨_, (h.own h1).slc, fun i hi => ⟨_, rowsV_at hi, row_grid (h.cell h2) (h.cellB h2) hi hmn⟩⟩
/-- Rows that are set up to k. -/
def fillR (B n m k : Nat) : List Value := (List.range m).map fun i => if i < k then rowV B n i else .slice none 0 0
theorem fillR_len (B n m k : Nat) : (fillR B n m k).length = m := by simp [fillR]
theorem fillR_zero (B n m : Nat) : List.replicate m (Value.slice none 0 0) = fillR B n m 0 := by
  refine List.ext_getElem? fun i => ?_
  by_cases hi : i < m
  · simp [fillR, hi]
  · rw [List.getElem?_eq_none (by simp; omega), List.getElem?_eq_none (by rw [fillR_len]; omega)]
theorem fillR_all (B n m : Nat) : fillR B n m m = rowsV B n m := by
  unfold fillR rowsV
  refine List.map_congr_left fun i hi => ?_
  rw [if_pos (List.mem_range.1 hi)]
theorem fillR_set {B n m k : Nat} (h : k < m) : (fillR B n m k).set k (rowV B n k) = fillR B n m (k + 1) := by
  refine List.ext_getElem? fun i => ?_
  rw [List.getElem?_set, fillR_len]
  by_cases e : k = i
  · subst e
    rw [if_pos rfl, if_pos h]
    simp [fillR, h]
  · rw [if_neg e]
    by_cases hi : i < m
    · have : (i < k + 1) = (i < k) := by simp; omega
      simp [fillR, hi, this]
    · rw [List.getElem?_eq_none (by rw [fillR_len]; omega), List.getElem?_eq_none (by rw [fillR_len]; omega)]
theorem grid_zero (m n : Nat) : List.replicate (m * n) (Value.complex .f64 0 0) = gridV m n fun _ _ => (0, 0) := by
  rw [fillV_zero (m * n) fun _ => (0, 0)]
  unfold fillV gridV fV
  refine List.map_congr_left fun i hi => ?_
  rw [if_neg (by omega)]


set_option maxHeartbeats 1000000 in
theorem run77 {X : Ctx} (hX : X.fns = fnsOf Tryz.prog) (ho : ∀ f args s, f ≠ 7 → X.orc f args s = none) {s0 s : Mm} {l : List HP} {m n : Nat} (H0 : Hold s0 s l) (hm : 1 ≤ m ∧ m ≤ 256) (hn : 1 ≤ n ∧ n ≤ 4096) (hmn : m * n ≤ 4096) :
    CallP X 77 [.int .i64 (m : Nat), .int .i64 (n : Nat)] s (fun r s' => ∃ B, Hold s0 s' (HP.own 1 r m (rowsV B n m) :: HP.cell B (gridV m n fun _ _ => (0, 0)) :: l)) := by
  have em : ((m : Nat) : Int) * ((n : Nat) : Int) = ((m * n : Nat) : Int) := (Int.natCast_mul ..).symm
  have w := wrap_i64 (n := ((m * n : Nat) : Int)) (by omega) (by omega)
  refine CallP_of (hX ▸ ir77_eq) (ho _ _ _ (by decide)) (Nat.le_of_ble_eq_true rfl) ?_
  refine W_seq (W_ops [0, 1] ?_)
  simp only [o77_0, wO, ↓reduceIte, Nat.reduceEqDiff, Nat.reduceAdd]
  intro fr e0 e1
  refine SeqK_n ?_
  refine W_seq (W_drawM [0, 1, 5, 6] 2 rfl ?_)
  intro s' hh hn' hs'
  have HR := (Hold.refl s).reserve hn' hs'
  have hmk := fun B => mkD (B := B) (n := m * n) [.complex .f64 0 0] (show 16 ≤ 24 by omega) (by omega)
  have hmk2 := fun B => mkD (B := B) (n := m) [.slice none 0 0] (show 24 ≤ 24 by omega) (by omega)
  simp only [d77_1, WD_move, WD_bin, WD_makeSlice, WD_nil, DPureK_some, DNewK_some, joinAll_nil, joinAll_cons, geT_put, evO_tmp, keep_nil, keep_cons, keepK_eq, Nat.reduceEqDiff, Nat.reduceAdd, ↓reduceIte, bin_mul, eq_self, Nat.zero_add, e0, e1, em, w, hmk, hmk2]
  clear e0 e1
  intro fr e0 e1 e5 e6
  refine SeqK_n ?_
  have F1 : Hold s (setH s' (Store.put s'.h s.nxt (some (.cells (repZ [.complex .f64 0 0] (m * n)) false)))) (HP.cell s.nxt (repZ [.complex .f64 0 0] (m * n)) :: [HP.res (s.nxt + 1)]) := Hold.fill _ (l := [HP.res (s.nxt + 1)]) HR
  have F2 : Hold s (setH s' (Store.put (Store.put s'.h s.nxt (some (.cells (repZ [.complex .f64 0 0] (m * n)) false))) (s.nxt + 1) (some (.cells (repZ [.slice none 0 0] m) false)))) (HP.cell (s.nxt + 1) (repZ [.slice none 0 0] m) :: [HP.cell s.nxt (repZ [.complex .f64 0 0] (m * n))]) := Hold.fill _ F1.up1
  generalize setH s' (Store.put (Store.put s'.h s.nxt (some (.cells (repZ [.complex .f64 0 0] (m * n)) false))) (s.nxt + 1) (some (.cells (repZ [.slice none 0 0] m) false))) = s2 at F2 ⊢
  rw [repZ_1, repZ_1, grid_zero, fillR_zero s.nxt n m] at F2
  have F3 := F2.cellOwn (sz := 1) (n := m) (by rw [fillR_len, Nat.mul_one]) (by unfold OPEN; omega)
  generalize Value.slice (some ⟨s.nxt + 1, 0, none⟩) m m = ov at F3 e6
  clear F2 F1 HR hn' hh hs' hmk hmk2 s'
  generalize hB : s.nxt = B at F3 e5
  refine W_assoc ?_
  refine W_seq (W_ops [1, 5, 6, 14, 15] ?_)
  simp only [o77_2, wO, ↓reduceIte, Nat.reduceEqDiff, e0, e1, e5, e6]
  clear e0 e1 e5 e6
  intro fr e1 e5 e6 e14 e15
  refine SeqK_n ?_
  refine W_seq (W_block (W_loop (fun mm fr s2 => ∃ k : Nat, k + mm = m ∧ geT fr 1 = .int .i64 (n : Nat) ∧ geT fr 5 = .slice (some ⟨B, 0, none⟩) (m * n) (m * n) ∧ geT fr 6 = ov ∧ geT fr 14 = .int .i64 (m : Nat) ∧ geT fr 15 = .int .i64 (k : Nat) ∧ Hold s s2 [HP.own 1 ov m (fillR B n m k), HP.cell B (gridV m n fun _ _ => (0, 0))]) m ⟨0, by omega, e1, e5, e6, e14, e15, F3⟩ ?_))
  clear e1 e5 e6 e14 e15 fr F3 s2
  rintro mm fr s2 ⟨k, hk, e1, e5, e6, e14, e15, H⟩
  refine W_seq (W_ops [1, 5, 6, 14, 15, 16] ?_)
  simp only [o77_4, wO, ↓reduceIte, Nat.reduceEqDiff, e1, e5, e6, e14, e15]
  clear e1 e5 e6 e14 e15
  intro fr e1 e5 e6 e14 e15 e16
  refine SeqK_n ?_
  refine W_while e16 (fun hlt => ?_) (fun hlt => ?_)
  · have hk1 : k < m := by omega
    have so := (H.own (List.mem_cons_self ..)).slc
    have A1 := so.addr (kk := .i64) (i := ((k : Nat) : Int)) rfl hk1
    rw [Nat.mul_one] at A1
    have hg := le_grid (n := n) hk1
    have ek : ((k : Nat) : Int) * ((n : Nat) : Int) = ((k * n : Nat) : Int) := (Int.natCast_mul ..).symm
    have ea : ((k * n : Nat) : Int) + ((n : Nat) : Int) = ((k * n + n : Nat) : Int) := (Int.natCast_add ..).symm
    obtain ⟨s3, st, H2⟩ := H.store (k := k) (x := rowV B n k) (by rw [fillR_len]; exact hk1) rfl
    rw [fillR_set hk1] at H2
    refine W_seq (W_block ?_)
    refine W_seq (W_ops [1, 5, 6, 7, 14, 15] ?_)
    simp only [o77_5, wO, ↓reduceIte, Nat.reduceEqDiff, e1, e5, e6, e14, e15]
    clear e1 e5 e6 e14 e15 e16
    intro fr e1 e5 e6 e7 e14 e15
    refine SeqK_n ?_
    refine W_ops [1, 5, 6, 14, 15] ?_
    simp only [o77_6, wO, ↓reduceIte, Nat.reduceEqDiff, e1, e5, e6, e7, e14, e15, ek, wrap_i64 (n := ((k * n : Nat) : Int)) (by omega) (by omega), ea, wrap_i64 (n := ((k * n + n : Nat) : Int)) (by omega) (by omega), sl3 (B := B) hn.1 hk1 (by omega), A1, st]
    clear e1 e5 e6 e7 e14 e15
    intro fr e1 e5 e6 e14 e15
    refine BlkK_n (SeqK_n ?_)
    refine W_ops [1, 5, 6, 14, 15] ?_
    simp only [o77_7, wO, ↓reduceIte, Nat.reduceEqDiff, e1, e5, e6, e14, e15, wrap_i64 (n := (k : Int) + 1) (by omega) (by omega)]
    clear e1 e5 e6 e14 e15
    intro fr e1 e5 e6 e14 e15
    exact LoopK_n (m' := mm - 1) (by omega) ⟨k + 1, by omega, e1, e5, e6, e14, by rw [e15]; rfl, H2⟩
  · have hkk : k = m := by omega
    subst hkk
    rw [fillR_all] at H
    refine LoopK_x (BlkK_e (SeqK_n ?_))
    refine W_seq (W_ops [4] ?_)
    simp only [o77_8, wO, ↓reduceIte, e6]
    clear e1 e5 e6 e14 e15 e16
    intro fr e4
    refine SeqK_n ?_
    exact W_ret (Ret1 e4 ⟨B, H0.app H⟩)

end Go.Proofs.YtmfaodenkghmkaaGreat

/- The transform of columns, walked. -/
namespace Go.Proofs.YtmfaodenkghmkaaGreat
open Go Go.Vam

def scaC (a : Cx) (k : Nat) : Cx := (fmul .f64 a.1 k, fmul .f64 a.2 k)
def flV (m : Nat) (w : Nat → Nat) : List Value := (List.range m).map fun i => .float .f64 (w i)
theorem flV_at {m k : Nat} (w : Nat → Nat) (h : k < m) : (flV m w)[k]? = some (.float .f64 (w k)) := by simp [flV, h]
def dopF (m : Nat) (w : Nat → Nat) (f : Nat → Nat → Cx) (p g : Nat) : Cx := slowF m (fun i => scaC (f i g) (w i)) p
theorem gridV_congr {m n : Nat} {f f' : Nat → Nat → Cx} (h : ∀ a b, a < m → b < n → f a b = f' a b) : gridV m n f = gridV m n f' := by
  unfold gridV fV
  refine List.map_congr_left fun i hi => ?_
  have hi := List.mem_range.1 hi
  have hn : 0 < n := Nat.pos_of_ne_zero fun h0 => by subst h0; omega
  show cV (f (i / n) (i % n)) = cV (f' (i / n) (i % n))
  rw [h _ _ (Nat.div_lt_of_lt_mul (by rw [Nat.mul_comm]; exact hi)) (Nat.mod_lt _ hn)]
/-- A table that is set up to the column g, and in this column up to the row k. -/
def upF (F : Nat → Nat → Cx) (g k p c : Nat) : Cx := if c < g ∨ (c = g ∧ p < k) then F p c else (0, 0)
theorem addr_row {B n i k : Nat} (hk : k < n) : addrSlV 1 (rowV B n i) (.int .i64 (k : Nat)) = some (.pointer (some ⟨B, i * n + k, none⟩)) := by
  simp only [addrSlV, idxV, rowV]
  rw [if_pos ⟨by omega, by omega⟩]
  simp [add_none']


theorem run70c {X : Ctx} (hX : X.fns = fnsOf Tryz.prog) (ho : ∀ f args s, f ≠ 7 → X.orc f args s = none) {s : Mm} {a : Cx} {k : Nat} : CallP X 70 [cV a, .float .f64 k] s (fun r s' => r = cV (scaC a k) ∧ s = s') := run70 hX ho

set_option maxHeartbeats 2000000 in
theorem run50 {X : Ctx} (hX : X.fns = fnsOf Tryz.prog) (ho : ∀ f args s, f ≠ 7 → X.orc f args s = none) {s0 s : Mm} {l : List HP} {v wv : Value} {m n : Nat} {f : Nat → Nat → Cx} {w : Nat → Nat} (H0 : Hold s0 s l) (a : TabC s v m n f) (b : SlC s 1 wv m (flV m w)) (hm : 1 ≤ m ∧ m ≤ 256) (hn : 1 ≤ n ∧ n ≤ 4096) (hmn : m * n ≤ 4096) :
    CallP X 50 [v, wv] s (fun r s' => ∃ o B, r = .tuple #[o, .int .i64 0] ∧ Hold s0 s' (HP.own 1 o m (rowsV B n m) :: HP.cell B (gridV m n (dopF m w f)) :: l)) := by
  have d2 : decide (¬ ((m : Nat) : Int) = ((m : Nat) : Int)) = false := decide_eq_false (by simp)
  refine CallP_of (hX ▸ ir50_eq) (ho _ _ _ (by decide)) (Nat.le_of_ble_eq_true rfl) ?_
  refine W_seq (W_ops [0, 1] ?_)
  simp only [o50_0, wO, ↓reduceIte, Nat.reduceEqDiff, Nat.reduceAdd]
  intro fr e0 e1
  refine SeqK_n ?_
  refine W_seq (W_ops [0, 1, 6, 7] ?_)
  simp only [o50_1, wO, ↓reduceIte, e0]
  refine CallK_of (run76 hX ho a hm) ?_
  rintro _ _ ⟨rfl, rfl⟩
  simp only [wO, ↓reduceIte, Nat.reduceEqDiff, e0, e1]
  clear e0 e1
  intro fr e0 e1 e6 e7
  refine SeqK_n ?_
  refine W_assoc ?_
  refine W_seq (W_ops [0, 1, 6, 31] ?_)
  simp only [o50_2, wO, ↓reduceIte, Nat.reduceEqDiff, e0, e1, e6, e7, a.len, b.len]
  clear e0 e1 e6 e7
  intro fr e0 e1 e6 e31
  refine SeqK_n ?_
  refine W_seq (W_cond e31 (fun h => by cases h) (fun _ => W_skip (SeqK_n ?_)))
  refine W_assoc ?_
  refine W_seq (W_ops [0, 1, 6, 8] ?_)
  simp only [o50_4, wO, ↓reduceIte, Nat.reduceEqDiff, e0, a.len]
  refine CallK_of (run73 hX ho (e := m) a hm hn.2 hmn hm.2) ?_
  rintro _ _ ⟨rfl, rfl⟩
  simp only [wO, ↓reduceIte, Nat.reduceEqDiff, e0, e1, e6]
  clear e0 e1 e6
  intro fr e0 e1 e6 e8
  refine SeqK_n ?_
  refine W_assoc ?_
  refine W_seq (W_ops [0, 1, 6, 8, 37] ?_)
  simp only [o50_5, wO, ↓reduceIte, Nat.reduceEqDiff, e0, e1, e6, e8]
  clear e0 e1 e6 e8
  intro fr e0 e1 e6 e8 e37
  refine SeqK_n ?_
  refine W_seq (W_cond e37 (fun h => by cases h) (fun _ => W_skip (SeqK_n ?_)))
  refine W_seq (W_drawM [0, 1, 6, 9, 10] 1 rfl ?_)
  intro s' hh hn' hs'
  have HR := (Hold.refl s).reserve hn' hs'
  have hmk := fun B => mkD (B := B) (n := m) [.complex .f64 0 0] (show 16 ≤ 24 by omega) (by omega)
  simp only [d50_7, WD_move, WD_bu, WD_call, DPureK_some, joinF_nil, setH_self, geT_put, evO_tmp, List.map_cons, List.map_nil, Nat.reduceEqDiff, Nat.reduceAdd, ↓reduceIte, eq_self, Nat.zero_add, e0, e6, a.len]
  refine DCallK_of rfl (run77 hX ho HR hm hn hmn) ?_
  rintro ov s1 ⟨B, H1⟩
  simp only [wD, Nat.testBit, ↓reduceIte, Nat.reduceEqDiff, Nat.reduceAdd, e0, e1, e6, a.len, hmk]
  clear e0 e1 e6
  intro fr e0 e1 e6 e9 e10
  refine SeqK_n ?_
  have H2 : Hold s (setH s1 (Store.put s1.h s.nxt (some (.cells (repZ [.complex .f64 0 0] m) false)))) (HP.cell s.nxt (repZ [.complex .f64 0 0] m) :: HP.own 1 ov m (rowsV B n m) :: HP.cell B (gridV m n fun _ _ => (0, 0)) :: []) := Hold.fill _ (l := [HP.own 1 ov m (rowsV B n m), HP.cell B (gridV m n fun _ _ => (0, 0))]) H1.up2
  generalize setH s1 (Store.put s1.h s.nxt (some (.cells (repZ [.complex .f64 0 0] m) false))) = s2 at H2 ⊢
  rw [repZ_1] at H2
  have H3 := H2.cellOwn (sz := 1) (n := m) (by simp) (by unfold OPEN; omega)
  generalize Value.slice (some ⟨s.nxt, 0, none⟩) m m = xv at H3 e10
  clear H2 H1 HR hn' hh hs' hmk s' s1
  rw [gridV_congr (f' := upF (dopF m w f) 0 0) (fun p c _ _ => by rw [upF, if_neg (by omega)])] at H3
  refine W_assoc ?_
  refine W_seq (W_ops [0, 1, 9, 10, 46, 47] ?_)
  simp only [o50_8, wO, ↓reduceIte, Nat.reduceEqDiff, e0, e1, e6, e9, e10]
  clear e0 e1 e6 e9 e10
  intro fr e0 e1 e9 e10 e46 e47
  refine SeqK_n ?_
  refine W_seq (W_block (W_loop (fun mm fr s2 => ∃ (g : Nat) (cs : List Value), g + mm = n ∧ cs.length = m ∧ geT fr 0 = v ∧ geT fr 1 = wv ∧ geT fr 9 = ov ∧ geT fr 10 = xv ∧ geT fr 46 = .int .i64 (n : Nat) ∧ geT fr 47 = .int .i64 (g : Nat) ∧ Hold s s2 [HP.own 1 xv m cs, HP.own 1 ov m (rowsV B n m), HP.cell B (gridV m n (upF (dopF m w f) g 0))]) n ⟨0, _, by omega, List.length_replicate, e0, e1, e9, e10, e46, e47, H3⟩ ?_))
  clear e0 e1 e9 e10 e46 e47 fr H3 s2
  rintro mm fr s2 ⟨g, cs, hg, hcs, e0, e1, e9, e10, e46, e47, H⟩
  refine W_seq (W_ops [0, 1, 9, 10, 46, 47, 48] ?_)
  simp only [o50_10, wO, ↓reduceIte, Nat.reduceEqDiff, e0, e1, e9, e10, e46, e47]
  clear e0 e1 e9 e10 e46 e47
  intro fr e0 e1 e9 e10 e46 e47 e48
  refine SeqK_n ?_
  refine W_while e48 (fun hlt => ?_) (fun hlt => ?_)
  · have hg1 : g < n := by omega
    refine W_seq (W_block ?_)
    refine W_seq (W_ops [0, 1, 9, 10, 11, 46, 47] ?_)
    simp only [o50_11, wO, ↓reduceIte, Nat.reduceEqDiff, e0, e1, e9, e10, e46, e47]
    clear e0 e1 e9 e10 e46 e47 e48
    intro fr e0 e1 e9 e10 e11 e46 e47
    refine SeqK_n ?_
    refine W_assoc ?_
    refine W_seq (W_ops [0, 1, 9, 10, 11, 46, 47, 50, 51, 52] ?_)
    simp only [o50_12, wO, ↓reduceIte, Nat.reduceEqDiff, e0, e1, e9, e10, e11, e46, e47, (a.same H.same).len]
    clear e0 e1 e9 e10 e11 e46 e47
    intro fr e0 e1 e9 e10 e11 e46 e47 e50 e51 e52
    refine SeqK_n ?_
    refine W_seq (W_block (W_loop (fun m2 fr s2 => ∃ (k : Nat) (cs : List Value), k + m2 = m ∧ cs.length = m ∧ (∀ i, i < k → cs[i]? = some (cV (scaC (f i g) (w i)))) ∧ geT fr 0 = v ∧ geT fr 1 = wv ∧ geT fr 9 = ov ∧ geT fr 10 = xv ∧ geT fr 11 = .int .i64 (g : Nat) ∧ geT fr 46 = .int .i64 (n : Nat) ∧ geT fr 47 = .int .i64 (g : Nat) ∧ geT fr 50 = v ∧ geT fr 51 = .int .i64 (m : Nat) ∧ geT fr 52 = .int .i64 (k : Nat) ∧ Hold s s2 [HP.own 1 xv m cs, HP.own 1 ov m (rowsV B n m), HP.cell B (gridV m n (upF (dopF m w f) g 0))]) m ⟨0, cs, by omega, hcs, by omega, e0, e1, e9, e10, e11, e46, e47, e50, e51, e52, H⟩ ?_))
    clear e0 e1 e9 e10 e11 e46 e47 e50 e51 e52 fr H hcs cs s2
    rintro m2 fr s1 ⟨k, cs, hk, hcs, hcl, e0, e1, e9, e10, e11, e46, e47, e50, e51, e52, H⟩
    refine W_seq (W_ops [0, 1, 9, 10, 11, 46, 47, 50, 51, 52, 53] ?_)
    simp only [o50_14, wO, ↓reduceIte, Nat.reduceEqDiff, e0, e1, e9, e10, e11, e46, e47, e50, e51, e52]
    clear e0 e1 e9 e10 e11 e46 e47 e50 e51 e52
    intro fr e0 e1 e9 e10 e11 e46 e47 e50 e51 e52 e53
    refine SeqK_n ?_
    refine W_while e53 (fun hlt => ?_) (fun hlt => ?_)
    · have hk1 : k < m := by omega
      obtain ⟨c, A1, L1, z⟩ := (a.same H.same).row hk1
      have b1 := b.same H.same (fun _ _ h => h)
      have A2 := z.addr (kk := .i64) (i := ((g : Nat) : Int)) rfl hg1
      have L2 := z.load (fV_at (f k) hg1)
      have A3 := b1.addr (kk := .i64) (i := ((k : Nat) : Int)) rfl hk1
      have L3 := b1.load (flV_at w hk1)
      have A4 := (H.own (List.mem_cons_self ..)).slc.addr (kk := .i64) (i := ((k : Nat) : Int)) rfl hk1
      rw [Nat.mul_one] at A2 A3 A4
      obtain ⟨s3, st, H2⟩ := H.store (k := k) (x := cV (scaC (f k g) (w k))) (by omega) rfl
      refine W_seq (W_block ?_)
      refine W_seq (W_ops [0, 1, 9, 10, 11, 12, 13, 46, 47, 50, 51, 52] ?_)
      simp only [o50_15, wO, ↓reduceIte, Nat.reduceEqDiff, e0, e1, e9, e10, e11, e46, e47, e50, e51, e52, A1, L1]
      clear e0 e1 e9 e10 e11 e46 e47 e50 e51 e52 e53
      intro fr e0 e1 e9 e10 e11 e12 e13 e46 e47 e50 e51 e52
      refine SeqK_n ?_
      refine W_draw0 [0, 1, 9, 10, 11, 46, 47, 50, 51, 52] rfl ?_
      simp only [d50_16, wD, ↓reduceIte, Nat.reduceEqDiff, Nat.reduceAdd, e1, e10, e11, e12, e13, A2, L2, A3, L3]
      refine DCallK_of rfl (run70c hX ho) ?_
      rintro _ _ ⟨rfl, rfl⟩
      simp only [wD, Nat.testBit, Nat.reduceShiftRight, Nat.reduceAnd, Nat.reduceBneDiff, ↓reduceIte, Nat.reduceEqDiff, Nat.reduceAdd, e0, e1, e9, e10, e11, e46, e47, e50, e51, e52, A4, st]
      clear e0 e1 e9 e10 e11 e12 e13 e46 e47 e50 e51 e52
      intro fr e0 e1 e9 e10 e11 e46 e47 e50 e51 e52
      refine BlkK_n (SeqK_n ?_)
      refine W_ops [0, 1, 9, 10, 11, 46, 47, 50, 51, 52] ?_
      simp only [o50_17, wO, ↓reduceIte, Nat.reduceEqDiff, e0, e1, e9, e10, e11, e46, e47, e50, e51, e52, wrap_i64 (n := (k : Int) + 1) (by omega) (by omega)]
      clear e0 e1 e9 e10 e11 e46 e47 e50 e51 e52
      intro fr e0 e1 e9 e10 e11 e46 e47 e50 e51 e52
      refine LoopK_n (m' := m2 - 1) (by omega) ⟨k + 1, _, by omega, by rw [List.length_set]; exact hcs, fun i hi => ?_, e0, e1, e9, e10, e11, e46, e47, e50, e51, by rw [e52]; rfl, H2⟩
      rw [List.getElem?_set]
      by_cases hik : k = i
      · subst hik; rw [if_pos rfl, if_pos (by omega)]
      · rw [if_neg hik]; exact hcl i (by omega)
    · have hkk : k = m := by omega
      subst hkk
      have hce : cs = fV k fun i => scaC (f i g) (w i) := by
        refine List.ext_getElem? fun i => ?_
        by_cases hi : i < k
        · rw [hcl i hi, fV_at _ hi]
        · rw [List.getElem?_eq_none (by omega), List.getElem?_eq_none (by rw [fV_len]; omega)]
      have so := (H.own (List.mem_cons_self ..)).slc
      rw [hce] at so
      refine LoopK_x (BlkK_e (SeqK_n ?_))
      refine W_seq (W_ops [0, 1, 9, 10, 11, 14, 46, 47] ?_)
      simp only [o50_18, wO, ↓reduceIte, e10]
      refine CallK_of (run78 hX ho H so hm) ?_
      rintro _ s3 ⟨yv, rfl, H2⟩
      have hy : fV k (slowF k fun i => scaC (f i g) (w i)) = fV k fun p => dopF k w f p g := rfl
      rw [hy] at H2
      simp only [wO, ↓reduceIte, Nat.reduceEqDiff, e0, e1, e9, e10, e11, e46, e47]
      clear e0 e1 e9 e10 e11 e46 e47 e50 e51 e52 e53
      intro fr e0 e1 e9 e10 e11 e14 e46 e47
      refine SeqK_n ?_
      refine W_seq (W_ops [0, 1, 9, 10, 11, 46, 47, 75, 76, 77] ?_)
      simp only [o50_19, wO, ↓reduceIte, Nat.reduceEqDiff, e0, e1, e9, e10, e11, e14, e46, e47, (H2.own (List.mem_cons_self ..)).slc.len]
      clear e0 e1 e9 e10 e11 e14 e46 e47
      intro fr e0 e1 e9 e10 e11 e46 e47 e75 e76 e77
      refine SeqK_n ?_
      refine W_block (W_loop (fun m2 fr s2 => ∃ p : Nat, p + m2 = k ∧ geT fr 0 = v ∧ geT fr 1 = wv ∧ geT fr 9 = ov ∧ geT fr 10 = xv ∧ geT fr 11 = .int .i64 (g : Nat) ∧ geT fr 46 = .int .i64 (n : Nat) ∧ geT fr 47 = .int .i64 (g : Nat) ∧ geT fr 75 = yv ∧ geT fr 76 = .int .i64 (k : Nat) ∧ geT fr 77 = .int .i64 (p : Nat) ∧ Hold s s2 [HP.cell B (gridV k n (upF (dopF k w f) g p)), HP.own 1 yv k (fV k fun p => dopF k w f p g), HP.own 1 xv k cs, HP.own 1 ov k (rowsV B n k)]) k ⟨0, by omega, e0, e1, e9, e10, e11, e46, e47, e75, e76, e77, H2.up3⟩ ?_)
      clear e0 e1 e9 e10 e11 e46 e47 e75 e76 e77 fr H H2 so s1 s3
      rintro m2 fr s1 ⟨p, hp, e0, e1, e9, e10, e11, e46, e47, e75, e76, e77, H⟩
      refine W_seq (W_ops [0, 1, 9, 10, 11, 46, 47, 75, 76, 77, 78] ?_)
      simp only [o50_21, wO, ↓reduceIte, Nat.reduceEqDiff, e0, e1, e9, e10, e11, e46, e47, e75, e76, e77]
      clear e0 e1 e9 e10 e11 e46 e47 e75 e76 e77
      intro fr e0 e1 e9 e10 e11 e46 e47 e75 e76 e77 e78
      refine SeqK_n ?_
      refine W_while e78 (fun hlt => ?_) (fun hlt => ?_)
      · have hp1 : p < k := by omega
        have sy := (H.own (sz := 1) (v := yv) (n := k) (cs := fV k fun p => dopF k w f p g) (by simp)).slc
        have sv := (H.own (sz := 1) (v := ov) (n := k) (cs := rowsV B n k) (by simp)).slc
        have A1 := sy.addr (kk := .i64) (i := ((p : Nat) : Int)) rfl hp1
        have L1 := sy.load (fV_at (fun p => dopF k w f p g) hp1)
        have A2 := sv.addr (kk := .i64) (i := ((p : Nat) : Int)) rfl hp1
        have L2 := sv.load (rowsV_at hp1)
        rw [Nat.mul_one] at A1 A2
        have A3 := addr_row (B := B) (n := n) (i := p) hg1
        have st := store_g (s := s1) (x := cV (dopF k w f p g)) (H.cell (List.mem_cons_self ..)) rfl (show p * n + g < _ by rw [gridV_len]; exact lt_grid hp1 hg1)
        have hgs := gridV_set (f := upF (dopF k w f) g p) (f' := upF (dopF k w f) g (p + 1)) hp1 hg1 (fun x y _ hxy => by simp only [upF]; congr 1; exact propext ⟨fun h => by omega, fun h => by omega⟩)
        rw [show upF (dopF k w f) g (p + 1) p g = dopF k w f p g by rw [upF, if_pos (by omega)]] at hgs
        rw [hgs] at st
        have H2 := H.setc (cs' := gridV k n (upF (dopF k w f) g (p + 1)))
        refine W_seq (W_block ?_)
        refine W_seq (W_ops [0, 1, 9, 10, 11, 16, 17, 46, 47, 75, 76, 77] ?_)
        simp only [o50_22, wO, ↓reduceIte, Nat.reduceEqDiff, e0, e1, e9, e10, e11, e46, e47, e75, e76, e77, A1, L1]
        clear e0 e1 e9 e10 e11 e46 e47 e75 e76 e77 e78
        intro fr e0 e1 e9 e10 e11 e16 e17 e46 e47 e75 e76 e77
        refine SeqK_n ?_
        refine W_ops [0, 1, 9, 10, 11, 46, 47, 75, 76, 77] ?_
        simp only [o50_23, wO, ↓reduceIte, Nat.reduceEqDiff, e0, e1, e9, e10, e11, e16, e17, e46, e47, e75, e76, e77, A2, L2, A3, st]
        clear e0 e1 e9 e10 e11 e16 e17 e46 e47 e75 e76 e77
        intro fr e0 e1 e9 e10 e11 e46 e47 e75 e76 e77
        refine BlkK_n (SeqK_n ?_)
        refine W_ops [0, 1, 9, 10, 11, 46, 47, 75, 76, 77] ?_
        simp only [o50_24, wO, ↓reduceIte, Nat.reduceEqDiff, e0, e1, e9, e10, e11, e46, e47, e75, e76, e77, wrap_i64 (n := (p : Int) + 1) (by omega) (by omega)]
        clear e0 e1 e9 e10 e11 e46 e47 e75 e76 e77
        intro fr e0 e1 e9 e10 e11 e46 e47 e75 e76 e77
        exact LoopK_n (m' := m2 - 1) (by omega) ⟨p + 1, by omega, e0, e1, e9, e10, e11, e46, e47, e75, e76, by rw [e77]; rfl, H2⟩
      · have hpp : p = k := by omega
        subst hpp
        refine LoopK_x (BlkK_e (BlkK_n (SeqK_n ?_)))
        refine W_ops [0, 1, 9, 10, 46, 47] ?_
        simp only [o50_25, wO, ↓reduceIte, Nat.reduceEqDiff, e0, e1, e9, e10, e46, e47, wrap_i64 (n := (g : Int) + 1) (by omega) (by omega)]
        clear e0 e1 e9 e10 e11 e46 e47 e75 e76 e77 e78
        intro fr e0 e1 e9 e10 e46 e47
        have H3 := H.up1.tail.down2
        rw [gridV_congr (f' := upF (dopF p w f) (g + 1) 0) (fun x c hx _ => by simp only [upF]; congr 1; exact propext ⟨fun h => by omega, fun h => by omega⟩)] at H3
        exact LoopK_n (m' := mm - 1) (by omega) ⟨g + 1, cs, by omega, hcs, e0, e1, e9, e10, e46, by rw [e47]; rfl, H3⟩
  · have hgg : g = n := by omega
    subst hgg
    rw [gridV_congr (f' := dopF m w f) (fun p c _ hc => by rw [upF, if_pos (by omega)])] at H
    refine LoopK_x (BlkK_e (SeqK_n ?_))
    refine W_seq (W_ops [4, 5] ?_)
    simp only [o50_26, wO, ↓reduceIte, Nat.reduceEqDiff, e9]
    clear e0 e1 e9 e10 e46 e47 e48
    intro fr e4 e5
    refine SeqK_n ?_
    exact W_ret (Ret2 e4 e5 ⟨_, B, rfl, H0.app H.tail⟩)

end Go.Proofs.YtmfaodenkghmkaaGreat

/- The window, and the powers, walked. -/
namespace Go.Proofs.YtmfaodenkghmkaaGreat
open Go Go.Vam

/-- A row of a table, later. -/
theorem TabC.later {s s1 : Mm} {v : Value} {m n : Nat} {f : Nat → Nat → Cx} (h : TabC s v m n f) (hs : Same s s1 (fun _ => False)) {k : Nat} (hk : k < m) :
    ∃ c, addrSlV 1 v (.int .i64 (k : Nat)) = some (elP v k) ∧ loadV s1 none (elP v k) = some c ∧ SlC s 1 c n (fV n (f k)) := by
  obtain ⟨c, a, b⟩ := h
  obtain ⟨x, y, z⟩ := b k hk
  exact ⟨x, by have := a.addr (kk := .i64) (i := (k : Int)) rfl hk; rwa [Nat.mul_one] at this, (a.same hs (fun _ _ h => h)).load y, z⟩
/-- A row of floats that is set up to k. -/
def fillW (m k : Nat) (w : Nat → Nat) : List Value := (List.range m).map fun i => .float .f64 (if i < k then w i else 0)
theorem fillW_len (m k : Nat) (w : Nat → Nat) : (fillW m k w).length = m := by simp [fillW]
theorem fillW_zero (m : Nat) (w : Nat → Nat) : List.replicate m (Value.float .f64 0) = fillW m 0 w := by
  refine List.ext_getElem? fun i => ?_
  by_cases hi : i < m
  · simp [fillW, hi]
  · rw [List.getElem?_eq_none (by simp; omega), List.getElem?_eq_none (by rw [fillW_len]; omega)]
theorem fillW_all (m : Nat) (w : Nat → Nat) : fillW m m w = flV m w := by
  unfold fillW flV
  refine List.map_congr_left fun i hi => ?_
  rw [if_pos (List.mem_range.1 hi)]
theorem fillW_set {m k : Nat} {w : Nat → Nat} (h : k < m) : (fillW m k w).set k (.float .f64 (w k)) = fillW m (k + 1) w := by
  refine List.ext_getElem? fun i => ?_
  rw [List.getElem?_set, fillW_len]
  by_cases e : k = i
  · subst e
    rw [if_pos rfl, if_pos h]
    simp [fillW, h]
  · rw [if_neg e]
    by_cases hi : i < m
    · have : (i < k + 1) = (i < k) := by simp; omega
      simp [fillW, hi, this]
    · rw [List.getElem?_eq_none (by rw [fillW_len]; omega), List.getElem?_eq_none (by rw [fillW_len]; omega)]
/-- m rows of n floats that may be read. -/
def TabR (s : Mm) (v : Value) (m n : Nat) (f : Nat → Nat → Nat) : Prop :=
  ∃ cells, SlC s 1 v m cells ∧ ∀ i, i < m → ∃ c, cells[i]? = some c ∧ SlC s 1 c n (flV n (f i))
theorem TabR.same {s s' : Mm} {v : Value} {m n : Nat} {f : Nat → Nat → Nat} (h : TabR s v m n f) (hs : Same s s' (fun _ => False)) : TabR s' v m n f := by
  obtain ⟨c, a, b⟩ := h
  exact ⟨c, a.same hs (fun _ _ h => h), fun i hi => let ⟨x, y, z⟩ := b i hi; ⟨x, y, z.same hs (fun _ _ h => h)⟩⟩
theorem TabR.len {s : Mm} {v : Value} {m n : Nat} {f : Nat → Nat → Nat} (h : TabR s v m n f) : buV .len [v] = some (.int .i64 m) := by
  obtain ⟨c, a, b⟩ := h; exact a.len
theorem TabR.row {s : Mm} {v : Value} {m n : Nat} {f : Nat → Nat → Nat} (h : TabR s v m n f) {k : Nat} (hk : k < m) :
    ∃ c, addrSlV 1 v (.int .i64 (k : Nat)) = some (elP v k) ∧ loadV s none (elP v k) = some c ∧ SlC s 1 c n (flV n (f k)) := by
  obtain ⟨c, a, b⟩ := h
  obtain ⟨x, y, z⟩ := b k hk
  exact ⟨x, by have := a.addr (kk := .i64) (i := (k : Int)) rfl hk; rwa [Nat.mul_one] at this, a.load y, z⟩
def rowN (n : Nat) (f : Nat → Nat) : List Nat := (List.range n).map f
def rowsN (m n : Nat) (f : Nat → Nat → Nat) : List (List Nat) := (List.range m).map fun i => rowN n (f i)
def eR (x : Nat) : List Value := [.float .f64 x]
theorem rowN_flat (n : Nat) (f : Nat → Nat) : (rowN n f).flatMap eR = flV n f := by
  unfold rowN flV
  generalize List.range n = l
  induction l with
  | nil => rfl
  | cons a l ih => simp [eR] at ih ⊢; exact ih
theorem rowN_len (n : Nat) (f : Nat → Nat) : (rowN n f).length = n := by simp [rowN]
theorem rowsN_len (m n : Nat) (f : Nat → Nat → Nat) : (rowsN m n f).length = m := by simp [rowsN]
theorem rowsN_succ (m n : Nat) (f : Nat → Nat → Nat) : rowsN (m + 1) n f = rowsN m n f ++ [rowN n (f m)] := by simp [rowsN, List.range_succ]
theorem TabR.of {s : Mm} {v : Value} {m n : Nat} {f : Nat → Nat → Nat} (h : TabE s 1 eR v (rowsN m n f)) : TabR s v m n f := by
  obtain ⟨c, a, b⟩ := h
  rw [rowsN_len] at a
  refine ⟨c, a, fun i hi => ?_⟩
  obtain ⟨x, y, z⟩ := b i (rowN n (f i)) (by simp [rowsN, hi])
  rw [rowN_len, rowN_flat] at z
  exact ⟨x, y, z⟩

def oneF : Nat := 4607182418800017408
/-- The powers. -/
def powF (f : Nat → Nat → Cx) (i k : Nat) : Nat := abs2F (f i k).1 (f i k).2


set_option maxHeartbeats 1000000 in
theorem run51 {X : Ctx} (hX : X.fns = fnsOf Tryz.prog) (ho : ∀ f args s, f ≠ 7 → X.orc f args s = none) {s0 s : Mm} {l : List HP} {m : Nat} (H0 : Hold s0 s l) (hm : 1 ≤ m ∧ m ≤ 256) :
    CallP X 51 [.int .i8 0, .int .i64 (m : Nat)] s (fun r s' => Hold s0 s' (HP.own 1 r m (flV m fun _ => oneF) :: l)) := by
  have d1 : decide (((m : Nat) : Int) < 1) = false := decide_eq_false (by omega)
  have d2 : decide ((16384 : Int) < ((m : Nat) : Int)) = false := decide_eq_false (by omega)
  refine CallP_of (hX ▸ ir51_eq) (ho _ _ _ (by decide)) (Nat.le_of_ble_eq_true rfl) ?_
  refine W_seq (W_ops [0, 1] ?_)
  simp only [o51_0, wO, ↓reduceIte, Nat.reduceEqDiff, Nat.reduceAdd]
  intro fr e0 e1
  refine SeqK_n ?_
  refine W_assoc ?_
  refine W_seq (W_ops [0, 1, 13] ?_)
  simp only [o51_1, wO, ↓reduceIte, Nat.reduceEqDiff, e0, e1, d1, d2]
  clear e0 e1
  intro fr e0 e1 e13
  refine SeqK_n ?_
  refine W_seq (W_cond e13 (fun h => by cases h) (fun _ => W_skip (SeqK_n ?_)))
  have hmk := mkV (s := s) (n := m) [.float .f64 0] (show 8 ≤ 24 by omega) (by omega)
  have H1 := (Hold.refl s).make (sz := 1) (c := m) (n := m) (z := [.float .f64 0]) rfl (Nat.le_refl _) (by unfold OPEN; omega)
  rw [repZ_1, fillW_zero m fun _ => oneF] at H1 hmk
  refine W_seq (W_ops [0, 1, 5] ?_)
  simp only [o51_3, wO, ↓reduceIte, Nat.reduceEqDiff, e0, e1, hmk]
  clear e0 e1
  intro fr e0 e1 e5
  refine SeqK_n ?_
  generalize newAt s (.cells (fillW m 0 fun _ => oneF) false) = s1 at H1 ⊢
  generalize Value.slice (some ⟨s.nxt, 0, none⟩) m m = ov at H1 e5
  refine W_assoc ?_
  refine W_seq (W_ops [0, 1, 5, 17, 18] ?_)
  simp only [o51_4, wO, ↓reduceIte, Nat.reduceEqDiff, e0, e1, e5, (H1.own (List.mem_cons_self ..)).slc.len]
  clear e0 e1 e5
  intro fr e0 e1 e5 e17 e18
  refine SeqK_n ?_
  refine W_seq (W_block (W_loop (fun mm fr s2 => ∃ k : Nat, k + mm = m ∧ geT fr 0 = .int .i8 0 ∧ geT fr 1 = .int .i64 (m : Nat) ∧ geT fr 5 = ov ∧ geT fr 17 = .int .i64 (m : Nat) ∧ geT fr 18 = .int .i64 (k : Nat) ∧ Hold s s2 [HP.own 1 ov m (fillW m k fun _ => oneF)]) m ⟨0, by omega, e0, e1, e5, e17, e18, H1⟩ ?_))
  clear e0 e1 e5 e17 e18 fr H1 hmk s1
  rintro mm fr s1 ⟨k, hk, e0, e1, e5, e17, e18, H⟩
  refine W_seq (W_ops [0, 1, 5, 17, 18, 19] ?_)
  simp only [o51_6, wO, ↓reduceIte, Nat.reduceEqDiff, e0, e1, e5, e17, e18]
  clear e0 e1 e5 e17 e18
  intro fr e0 e1 e5 e17 e18 e19
  refine SeqK_n ?_
  refine W_while e19 (fun hlt => ?_) (fun hlt => ?_)
  · have hk1 : k < m := by omega
    have A1 := (H.own (List.mem_cons_self ..)).slc.addr (kk := .i64) (i := ((k : Nat) : Int)) rfl hk1
    rw [Nat.mul_one] at A1
    refine W_seq (W_block ?_)
    refine W_seq (W_ops [0, 1, 5, 6, 17, 18] ?_)
    simp only [o51_7, wO, ↓reduceIte, Nat.reduceEqDiff, e0, e1, e5, e17, e18]
    clear e0 e1 e5 e17 e18 e19
    intro fr e0 e1 e5 e6 e17 e18
    refine SeqK_n ?_
    refine W_seq (W_ops [0, 1, 5, 6, 7, 17, 18] ?_)
    simp only [o51_8, wO, ↓reduceIte, Nat.reduceEqDiff, e1, e6]
    refine CallK_of (run36 hX ho (k := ((k : Nat) : Int)) (n := ((m : Nat) : Int)) (by omega)) ?_
    rintro _ s2 ⟨rfl, hs⟩
    obtain ⟨s3, st, H2⟩ := (H.keep hs).store (k := k) (x := .float .f64 oneF) (by rw [fillW_len]; exact hk1) rfl
    rw [fillW_set (w := fun _ => oneF) hk1] at H2
    simp only [wO, ↓reduceIte, Nat.reduceEqDiff, e0, e1, e5, e6, e17, e18]
    clear e0 e1 e5 e6 e17 e18
    intro fr e0 e1 e5 e6 e7 e17 e18
    refine SeqK_n ?_
    refine W_seq (W_ops [0, 1, 5, 6, 7, 17, 18, 25] ?_)
    simp only [o51_9, wO, ↓reduceIte, Nat.reduceEqDiff, e0, e1, e5, e6, e7, e17, e18]
    clear e0 e1 e5 e6 e7 e17 e18
    intro fr e0 e1 e5 e6 e7 e17 e18 e25
    refine SeqK_n ?_
    refine W_block ?_
    refine W_seq (W_ops [0, 1, 5, 6, 7, 17, 18, 25, 29] ?_)
    simp only [o51_10, wO, ↓reduceIte, Nat.reduceEqDiff, Int.reduceEq, e0, e1, e5, e6, e7, e17, e18, e25]
    clear e0 e1 e5 e6 e7 e17 e18 e25
    intro fr e0 e1 e5 e6 e7 e17 e18 e25 e29
    refine SeqK_n ?_
    refine W_cond e29 (fun h => by cases h) (fun _ => ?_)
    refine W_seq (W_ops [0, 1, 5, 6, 7, 17, 18, 25, 37] ?_)
    simp only [o51_12, wO, ↓reduceIte, Nat.reduceEqDiff, Int.reduceEq, e0, e1, e5, e6, e7, e17, e18, e25]
    clear e0 e1 e5 e6 e7 e17 e18 e25
    intro fr e0 e1 e5 e6 e7 e17 e18 e25 e37
    refine SeqK_n ?_
    refine W_cond e37 (fun h => by cases h) (fun _ => ?_)
    refine W_seq (W_ops [0, 1, 5, 6, 17, 18, 45] ?_)
    simp only [o51_14, wO, ↓reduceIte, Nat.reduceEqDiff, Int.reduceEq, e0, e1, e5, e6, e17, e18, e25]
    clear e0 e1 e5 e6 e7 e17 e18 e25
    intro fr e0 e1 e5 e6 e17 e18 e45
    refine SeqK_n ?_
    refine W_cond e45 (fun h => by cases h) (fun _ => ?_)
    have h1 : (4607182418800017408 : Nat) = oneF := rfl
    refine W_ops [0, 1, 5, 17, 18] ?_
    simp only [o51_16, wO, ↓reduceIte, Nat.reduceEqDiff, e0, e1, e5, e6, e17, e18, h1, A1, st]
    clear e0 e1 e5 e6 e17 e18
    intro fr e0 e1 e5 e17 e18
    refine BlkK_n (BlkK_n (SeqK_n ?_))
    refine W_ops [0, 1, 5, 17, 18] ?_
    simp only [o51_17, wO, ↓reduceIte, Nat.reduceEqDiff, e0, e1, e5, e17, e18, wrap_i64 (n := (k : Int) + 1) (by omega) (by omega)]
    clear e0 e1 e5 e17 e18
    intro fr e0 e1 e5 e17 e18
    exact LoopK_n (m' := mm - 1) (by omega) ⟨k + 1, by omega, e0, e1, e5, e17, by rw [e18]; rfl, H2⟩
  · have hkk : k = m := by omega
    subst hkk
    rw [fillW_all] at H
    refine LoopK_x (BlkK_e (SeqK_n ?_))
    refine W_seq (W_ops [4] ?_)
    simp only [o51_18, wO, ↓reduceIte, e5]
    clear e0 e1 e5 e17 e18 e19
    intro fr e4
    refine SeqK_n ?_
    exact W_ret (Ret1 e4 (H0.app H))

theorem run52c {X : Ctx} (hX : X.fns = fnsOf Tryz.prog) (ho : ∀ f args s, f ≠ 7 → X.orc f args s = none) {s : Mm} {a : Cx} : CallP X 52 [cV a] s (fun r s' => r = .float .f64 (abs2F a.1 a.2) ∧ s = s') := run52 hX ho

set_option maxHeartbeats 1000000 in
theorem run23 {X : Ctx} (hX : X.fns = fnsOf Tryz.prog) (ho : ∀ f args s, f ≠ 7 → X.orc f args s = none) {s0 s : Mm} {l : List HP} {v : Value} {m n : Nat} {f : Nat → Nat → Cx} (H0 : Hold s0 s l) (a : TabC s v m n f) (hm : 1 ≤ m ∧ m ≤ 256) (hn : n ≤ 4096) :
    CallP X 23 [v] s (fun r s' => Hold s0 s' (HP.tab 1 eR r (rowsN m n (powF f)) [] :: l)) := by
  refine CallP_of (hX ▸ ir23_eq) (ho _ _ _ (by decide)) (Nat.le_of_ble_eq_true rfl) ?_
  refine W_seq (W_ops [0] ?_)
  simp only [o23_0, wO, ↓reduceIte, Nat.reduceEqDiff]
  intro fr e0
  refine SeqK_n ?_
  have hmk := mkV (s := s) (n := m) [.slice none 0 0] (show 24 ≤ 24 by omega) (by omega)
  have H1 := (Hold.refl s).makeT (c := m) (z := .slice none 0 0) 1 eR (by unfold OPEN; omega)
  have e00 : ([] : List (List Nat)) = rowsN 0 n (powF f) := rfl
  rw [e00] at H1
  refine W_seq (W_ops [0, 3] ?_)
  simp only [o23_1, wO, ↓reduceIte, Nat.reduceEqDiff, e0, a.len, hmk]
  clear e0
  intro fr e0 e3
  refine SeqK_n ?_
  generalize newAt s (.cells (repZ [.slice none 0 0] m) false) = s1 at H1 ⊢
  generalize Value.slice (some ⟨s.nxt, 0, none⟩) m m = ov at H1 e3
  refine W_assoc ?_
  refine W_seq (W_ops [3, 11, 12, 13] ?_)
  simp only [o23_2, wO, ↓reduceIte, Nat.reduceEqDiff, e0, e3, (a.same H1.same).len]
  clear e0 e3
  intro fr e3 e11 e12 e13
  refine SeqK_n ?_
  refine W_seq (W_block (W_loop (fun mm fr s2 => ∃ k : Nat, k + mm = m ∧ geT fr 3 = ov ∧ geT fr 11 = v ∧ geT fr 12 = .int .i64 (m : Nat) ∧ geT fr 13 = .int .i64 (k : Nat) ∧ Hold s s2 [HP.tab 1 eR ov (rowsN k n (powF f)) (List.replicate mm (.slice none 0 0))]) m ⟨0, by omega, e3, e11, e12, e13, H1⟩ ?_))
  clear e3 e11 e12 e13 fr H1 hmk s1
  rintro mm fr s1 ⟨k, hk, e3, e11, e12, e13, H⟩
  refine W_seq (W_ops [3, 11, 12, 13, 14] ?_)
  simp only [o23_4, wO, ↓reduceIte, Nat.reduceEqDiff, e3, e11, e12, e13]
  clear e3 e11 e12 e13
  intro fr e3 e11 e12 e13 e14
  refine SeqK_n ?_
  refine W_while e14 (fun hlt => ?_) (fun hlt => ?_)
  · obtain ⟨c, A1, L1, z⟩ := a.later H.same (show k < m by omega)
    obtain ⟨mm, rfl⟩ : ∃ j, mm = j + 1 := ⟨mm - 1, by omega⟩
    rw [List.replicate_succ] at H
    refine W_seq (W_block ?_)
    refine W_seq (W_ops [3, 4, 5, 11, 12, 13] ?_)
    simp only [o23_5, wO, ↓reduceIte, Nat.reduceEqDiff, e3, e11, e12, e13, A1, L1]
    clear e3 e11 e12 e13 e14
    intro fr e3 e4 e5 e11 e12 e13
    refine SeqK_n ?_
    have hmk := mkV (s := s1) (n := n) [.float .f64 0] (show 8 ≤ 24 by omega) (by omega)
    have H2 := H.make (sz := 1) (c := n) (n := n) (z := [.float .f64 0]) rfl (Nat.le_refl _) (by unfold OPEN; omega)
    rw [repZ_1, fillW_zero n (powF f k)] at H2 hmk
    have A2 := (H2.up1.tabLoad (List.mem_cons_self ..)).1
    obtain ⟨s3, st, H3⟩ := H2.up1.tabStore (c := .slice (some ⟨s1.nxt, 0, none⟩) n n) rfl
    rw [rowsN_len] at A2 st
    refine W_seq (W_ops [3, 4, 5, 11, 12, 13] ?_)
    simp only [o23_6, wO, ↓reduceIte, Nat.reduceEqDiff, e3, e4, e5, e11, e12, e13, (z.same H.same (fun _ _ h => h)).len, hmk, A2, st]
    clear e3 e4 e5 e11 e12 e13
    intro fr e3 e4 e5 e11 e12 e13
    refine SeqK_n ?_
    generalize s1.nxt = b at H3
    clear H2 st
    refine W_seq (W_ops [3, 4, 11, 12, 13, 24, 25, 26] ?_)
    simp only [o23_7, wO, ↓reduceIte, Nat.reduceEqDiff, e3, e4, e5, e11, e12, e13, (z.same H3.same (fun _ _ h => h)).len]
    clear e3 e4 e5 e11 e12 e13
    intro fr e3 e4 e11 e12 e13 e24 e25 e26
    refine SeqK_n ?_
    refine W_block (W_loop (fun m2 fr s2 => ∃ j : Nat, j + m2 = n ∧ geT fr 3 = ov ∧ geT fr 4 = .int .i64 (k : Nat) ∧ geT fr 11 = v ∧ geT fr 12 = .int .i64 (m : Nat) ∧ geT fr 13 = .int .i64 (k : Nat) ∧ geT fr 24 = c ∧ geT fr 25 = .int .i64 (n : Nat) ∧ geT fr 26 = .int .i64 (j : Nat) ∧ Hold s s2 [HP.own 1 (.slice (some ⟨b, 0, none⟩) n n) n (fillW n j (powF f k)), HP.tab 1 eR ov (rowsN k n (powF f)) (.slice (some ⟨b, 0, none⟩) n n :: List.replicate mm (.slice none 0 0))]) n ⟨0, by omega, e3, e4, e11, e12, e13, e24, e25, e26, H3.up1⟩ ?_)
    clear e3 e4 e11 e12 e13 e24 e25 e26 fr H H3 hmk A1 A2 L1 s1 s3
    rintro m2 fr s1 ⟨j, hj, e3, e4, e11, e12, e13, e24, e25, e26, H⟩
    refine W_seq (W_ops [3, 4, 11, 12, 13, 24, 25, 26, 27] ?_)
    simp only [o23_9, wO, ↓reduceIte, Nat.reduceEqDiff, e3, e4, e11, e12, e13, e24, e25, e26]
    clear e3 e4 e11 e12 e13 e24 e25 e26
    intro fr e3 e4 e11 e12 e13 e24 e25 e26 e27
    refine SeqK_n ?_
    refine W_while e27 (fun hlt2 => ?_) (fun hlt2 => ?_)
    · have hj1 : j < n := by omega
      have z1 := z.same H.same (fun _ _ h => h)
      have A1 := z1.addr (kk := .i64) (i := ((j : Nat) : Int)) rfl hj1
      have L1 := z1.load (fV_at (f k) hj1)
      obtain ⟨A2, L2⟩ := H.up1.tabLoad (List.mem_cons_self ..)
      rw [rowsN_len] at A2 L2
      have A3 := (H.own (List.mem_cons_self ..)).slc.addr (kk := .i64) (i := ((j : Nat) : Int)) rfl hj1
      rw [Nat.mul_one] at A1 A3
      obtain ⟨s3, st, H2⟩ := H.store (k := j) (x := .float .f64 (powF f k j)) (by rw [fillW_len]; exact hj1) rfl
      rw [fillW_set hj1] at H2
      refine W_seq (W_block ?_)
      refine W_seq (W_ops [3, 4, 6, 7, 11, 12, 13, 24, 25, 26] ?_)
      simp only [o23_10, wO, ↓reduceIte, Nat.reduceEqDiff, e3, e4, e11, e12, e13, e24, e25, e26, A1, L1]
      clear e3 e4 e11 e12 e13 e24 e25 e26 e27
      intro fr e3 e4 e6 e7 e11 e12 e13 e24 e25 e26
      refine SeqK_n ?_
      refine W_draw0 [3, 4, 11, 12, 13, 24, 25, 26] rfl ?_
      simp only [d23_11, wD, ↓reduceIte, Nat.reduceEqDiff, Nat.reduceAdd, e3, e4, e6, e7, A2, L2]
      refine DCallK_of rfl (run52c hX ho) ?_
      rintro _ _ ⟨rfl, rfl⟩
      have hc : abs2F (f k j).1 (f k j).2 = powF f k j := rfl
      simp only [wD, Nat.testBit, Nat.reduceShiftRight, Nat.reduceAnd, Nat.reduceBneDiff, ↓reduceIte, Nat.reduceEqDiff, Nat.reduceAdd, e3, e4, e11, e12, e13, e24, e25, e26, hc, L2, A3, st]
      clear e3 e4 e6 e7 e11 e12 e13 e24 e25 e26
      intro fr e3 e4 e11 e12 e13 e24 e25 e26
      refine BlkK_n (SeqK_n ?_)
      refine W_ops [3, 4, 11, 12, 13, 24, 25, 26] ?_
      simp only [o23_12, wO, ↓reduceIte, Nat.reduceEqDiff, e3, e4, e11, e12, e13, e24, e25, e26, wrap_i64 (n := (j : Int) + 1) (by omega) (by omega)]
      clear e3 e4 e11 e12 e13 e24 e25 e26
      intro fr e3 e4 e11 e12 e13 e24 e25 e26
      exact LoopK_n (m' := m2 - 1) (by omega) ⟨j + 1, by omega, e3, e4, e11, e12, e13, e24, e25, by rw [e26]; rfl, H2⟩
    · have hjj : j = n := by omega
      subst hjj
      rw [fillW_all, ← rowN_flat] at H
      have H5 := H.tabClose (rowN_len _ _).symm
      rw [← rowsN_succ] at H5
      refine LoopK_x (BlkK_e (BlkK_n (SeqK_n ?_)))
      refine W_ops [3, 11, 12, 13] ?_
      simp only [o23_13, wO, ↓reduceIte, Nat.reduceEqDiff, e3, e11, e12, e13, wrap_i64 (n := (k : Int) + 1) (by omega) (by omega)]
      clear e3 e4 e11 e12 e13 e24 e25 e26 e27
      intro fr e3 e11 e12 e13
      exact LoopK_n (m' := mm) (by omega) ⟨k + 1, by omega, e3, e11, e12, by rw [e13]; rfl, H5⟩
  · have hkk : k = m := by omega
    obtain rfl : mm = 0 := by omega
    subst hkk
    refine LoopK_x (BlkK_e (SeqK_n ?_))
    refine W_seq (W_ops [2] ?_)
    simp only [o23_14, wO, ↓reduceIte, e3]
    clear e3 e11 e12 e13 e14
    intro fr e2
    refine SeqK_n ?_
    exact W_ret (Ret1 e2 (H0.app H))

end Go.Proofs.YtmfaodenkghmkaaGreat

/- No differences: rows copied, walked. -/
namespace Go.Proofs.YtmfaodenkghmkaaGreat
open Go Go.Vam

theorem fV_one (n : Nat) (f : Nat → Cx) : (fV n f).all oneCell = true := by
  rw [List.all_eq_true]
  intro x hx
  obtain ⟨i, _, rfl⟩ := List.mem_map.1 hx
  rfl
theorem len_set {α : Type} {m : Nat} {c : List α} (hl : c.length = m) {p : α → Bool} (h : ∀ i, i < m → ∃ x, c[i]? = some x ∧ p x = true) : c.all p = true := by
  rw [List.all_eq_true]
  intro x hx
  obtain ⟨i, hi, rfl⟩ := List.getElem_of_mem hx
  obtain ⟨y, h1, h2⟩ := h i (by omega)
  rw [List.getElem?_eq_getElem hi] at h1
  cases h1
  exact h2


set_option maxHeartbeats 1000000 in
theorem run75 {X : Ctx} (hX : X.fns = fnsOf Tryz.prog) (ho : ∀ f args s, f ≠ 7 → X.orc f args s = none) {s : Mm} {v : Value} {m n : Nat} {f : Nat → Nat → Cx} (a : TabC s v m n f) (hm : 1 ≤ m ∧ m ≤ 256) (hn : n ≤ 4096) (hmn : m * n ≤ 4096) :
    CallP X 75 [v] s (fun r s' => r = .int .i64 0 ∧ s = s') := by
  have d1 : decide ((256 : Int) < ((m : Nat) : Int)) = false := decide_eq_false (by omega)
  have d2 : decide ((16384 : Int) < ((n : Nat) : Int)) = false := decide_eq_false (by omega)
  refine CallP_of (hX ▸ ir75_eq) (ho _ _ _ (by decide)) (Nat.le_of_ble_eq_true rfl) ?_
  refine W_seq (W_ops [0] ?_)
  simp only [o75_0, wO, ↓reduceIte, Nat.reduceEqDiff]
  intro fr e0
  refine SeqK_n ?_
  refine W_assoc ?_
  refine W_seq (W_ops [0, 10] ?_)
  simp only [o75_1, wO, ↓reduceIte, Nat.reduceEqDiff, e0, a.len, d1]
  clear e0
  intro fr e0 e10
  refine SeqK_n ?_
  refine W_seq (W_cond e10 (fun h => by cases h) (fun _ => W_skip (SeqK_n ?_)))
  refine W_seq (W_ops [0, 3] ?_)
  simp only [o75_3, wO, ↓reduceIte, Nat.reduceEqDiff, e0]
  clear e0
  intro fr e0 e3
  refine SeqK_n ?_
  refine W_assoc ?_
  refine W_seq (W_ops [0, 3, 11, 12, 13] ?_)
  simp only [o75_4, wO, ↓reduceIte, Nat.reduceEqDiff, e0, e3, a.len]
  clear e0 e3
  intro fr e0 e3 e11 e12 e13
  refine SeqK_n ?_
  refine W_seq (W_block (W_loop (fun mm fr s1 => ∃ k : Nat, k + mm = m ∧ s = s1 ∧ geT fr 0 = v ∧ geT fr 3 = .int .i64 ((k * n : Nat) : Int) ∧ geT fr 11 = v ∧ geT fr 12 = .int .i64 (m : Nat) ∧ geT fr 13 = .int .i64 (k : Nat)) m ⟨0, by omega, rfl, e0, by rw [e3, Nat.zero_mul]; rfl, e11, e12, e13⟩ ?_))
  clear e0 e3 e11 e12 e13 fr
  rintro mm fr _ ⟨k, hk, rfl, e0, e3, e11, e12, e13⟩
  refine W_seq (W_ops [0, 3, 11, 12, 13, 14] ?_)
  simp only [o75_6, wO, ↓reduceIte, Nat.reduceEqDiff, e0, e3, e11, e12, e13]
  clear e0 e3 e11 e12 e13
  intro fr e0 e3 e11 e12 e13 e14
  refine SeqK_n ?_
  refine W_while e14 (fun hlt => ?_) (fun hlt => ?_)
  · obtain ⟨c, A1, L1, z⟩ := a.row (show k < m by omega)
    have hb := le_grid (n := n) (show k < m by omega)
    have ea : ((k * n : Nat) : Int) + ((n : Nat) : Int) = ((k * n + n : Nat) : Int) := (Int.natCast_add ..).symm
    refine W_seq (W_block ?_)
    refine W_seq (W_ops [0, 3, 5, 11, 12, 13] ?_)
    simp only [o75_7, wO, ↓reduceIte, Nat.reduceEqDiff, e0, e3, e11, e12, e13, A1, L1]
    clear e0 e3 e11 e12 e13 e14
    intro fr e0 e3 e5 e11 e12 e13
    refine SeqK_n ?_
    refine W_assoc ?_
    refine W_seq (W_ops [0, 3, 5, 11, 12, 13, 19] ?_)
    simp only [o75_8, wO, ↓reduceIte, Nat.reduceEqDiff, e0, e3, e5, e11, e12, e13, z.len, d2]
    clear e0 e3 e5 e11 e12 e13
    intro fr e0 e3 e5 e11 e12 e13 e19
    refine SeqK_n ?_
    refine W_seq (W_cond e19 (fun h => by cases h) (fun _ => W_skip (SeqK_n ?_)))
    refine W_ops [0, 3, 11, 12, 13] ?_
    simp only [o75_10, wO, ↓reduceIte, Nat.reduceEqDiff, e0, e3, e5, e11, e12, e13, z.len, ea, wrap_i64 (n := ((k * n + n : Nat) : Int)) (by omega) (by omega)]
    clear e0 e3 e5 e11 e12 e13
    intro fr e0 e3 e11 e12 e13
    refine BlkK_n (SeqK_n ?_)
    refine W_ops [0, 3, 11, 12, 13] ?_
    simp only [o75_11, wO, ↓reduceIte, Nat.reduceEqDiff, e0, e3, e11, e12, e13, wrap_i64 (n := (k : Int) + 1) (by omega) (by omega)]
    clear e0 e3 e11 e12 e13
    intro fr e0 e3 e11 e12 e13
    exact LoopK_n (m' := mm - 1) (by omega) ⟨k + 1, by omega, rfl, e0, by rw [e3, Nat.succ_mul], e11, e12, by rw [e13]; rfl⟩
  · have hkk : k = m := by omega
    subst hkk
    have d3 : decide ((262144 : Int) < ((k * n : Nat) : Int)) = false := decide_eq_false (by omega)
    refine LoopK_x (BlkK_e (SeqK_n ?_))
    refine W_assoc ?_
    refine W_seq (W_ops [0, 26] ?_)
    simp only [o75_12, wO, ↓reduceIte, Nat.reduceEqDiff, e0, e3, d3]
    clear e0 e3 e11 e12 e13 e14
    intro fr e0 e26
    refine SeqK_n ?_
    refine W_seq (W_cond e26 (fun h => by cases h) (fun _ => W_skip (SeqK_n ?_)))
    refine W_assoc ?_
    refine W_seq (W_ops [0, 27, 28, 29] ?_)
    simp only [o75_14, wO, ↓reduceIte, Nat.reduceEqDiff, e0, a.len]
    clear e0
    intro fr e0 e27 e28 e29
    refine SeqK_n ?_
    refine W_seq (W_block (W_loop (fun mm fr s1 => ∃ j : Nat, j + mm = k ∧ s = s1 ∧ geT fr 0 = v ∧ geT fr 27 = v ∧ geT fr 28 = .int .i64 (k : Nat) ∧ geT fr 29 = .int .i64 (j : Nat)) k ⟨0, by omega, rfl, e0, e27, e28, e29⟩ ?_))
    clear e0 e27 e28 e29 fr
    rintro mm fr _ ⟨j, hj, rfl, e0, e27, e28, e29⟩
    refine W_seq (W_ops [0, 27, 28, 29, 30] ?_)
    simp only [o75_16, wO, ↓reduceIte, Nat.reduceEqDiff, e0, e27, e28, e29]
    clear e0 e27 e28 e29
    intro fr e0 e27 e28 e29 e30
    refine SeqK_n ?_
    refine W_while e30 (fun hlt => ?_) (fun hlt => ?_)
    · obtain ⟨c, A1, L1, z⟩ := a.row (show j < k by omega)
      obtain ⟨c0, A2, L2, z2⟩ := a.row (show 0 < k by omega)
      have A3 : addrSlV 1 v (.int .i64 0) = some (elP v 0) := A2
      have d4 : decide (¬ ((n : Nat) : Int) = ((n : Nat) : Int)) = false := decide_eq_false (by simp)
      refine W_seq (W_block ?_)
      refine W_seq (W_ops [0, 7, 27, 28, 29] ?_)
      simp only [o75_17, wO, ↓reduceIte, Nat.reduceEqDiff, e0, e27, e28, e29, A1, L1]
      clear e0 e27 e28 e29 e30
      intro fr e0 e7 e27 e28 e29
      refine SeqK_n ?_
      refine W_seq (W_ops [0, 27, 28, 29, 39] ?_)
      simp only [o75_18, wO, ↓reduceIte, Nat.reduceEqDiff, e0, e7, e27, e28, e29, z.len, A3, L2, z2.len]
      clear e0 e7 e27 e28 e29
      intro fr e0 e27 e28 e29 e39
      refine SeqK_n ?_
      refine W_cond e39 (fun h => by cases h) (fun _ => W_skip (BlkK_n (SeqK_n ?_)))
      refine W_ops [0, 27, 28, 29] ?_
      simp only [o75_20, wO, ↓reduceIte, Nat.reduceEqDiff, e0, e27, e28, e29, wrap_i64 (n := (j : Int) + 1) (by omega) (by omega)]
      clear e0 e27 e28 e29
      intro fr e0 e27 e28 e29
      exact LoopK_n (m' := mm - 1) (by omega) ⟨j + 1, by omega, rfl, e0, e27, e28, by rw [e29]; rfl⟩
    · refine LoopK_x (BlkK_e (SeqK_n ?_))
      refine W_seq (W_ops [2] ?_)
      simp only [o75_21, wO, ↓reduceIte]
      clear e0 e27 e28 e29 e30
      intro fr e2
      refine SeqK_n ?_
      exact W_ret (Ret1 e2 ⟨rfl, rfl⟩)

set_option maxHeartbeats 1000000 in
theorem run48 {X : Ctx} (hX : X.fns = fnsOf Tryz.prog) (ho : ∀ f args s, f ≠ 7 → X.orc f args s = none) {s : Mm} {v : Value} {m n : Nat} {f : Nat → Nat → Cx} (a : TabC s v m n f) (hm : 1 ≤ m ∧ m ≤ 256) (hn : n ≤ 4096) (hmn : m * n ≤ 4096) :
    CallP X 48 [v, .int .i64 0] s (fun r s' => ∃ o, r = .tuple #[o, .int .i64 0] ∧ TabC s' o m n f ∧ Same s s' (fun _ => False)) := by
  have d0 : decide (((m : Nat) : Int) ≤ 0) = false := decide_eq_false (by omega)
  refine CallP_of (hX ▸ ir48_eq) (ho _ _ _ (by decide)) (Nat.le_of_ble_eq_true rfl) ?_
  refine W_seq (W_ops [0, 1] ?_)
  simp only [o48_0, wO, ↓reduceIte, Nat.reduceEqDiff, Nat.reduceAdd]
  intro fr e0 e1
  refine SeqK_n ?_
  refine W_assoc ?_
  refine W_seq (W_ops [0, 1, 24] ?_)
  simp only [o48_1, wO, ↓reduceIte, Nat.reduceEqDiff, Int.reduceLT, e0, e1, a.len, d0]
  clear e0 e1
  intro fr e0 e1 e24
  refine SeqK_n ?_
  refine W_seq (W_cond e24 (fun h => by cases h) (fun _ => W_skip (SeqK_n ?_)))
  refine W_assoc ?_
  refine W_seq (W_ops [0, 1, 6] ?_)
  simp only [o48_3, wO, ↓reduceIte, e0]
  refine CallK_of (run75 hX ho a hm hn hmn) ?_
  rintro _ _ ⟨rfl, rfl⟩
  simp only [wO, ↓reduceIte, Nat.reduceEqDiff, e0, e1]
  clear e0 e1
  intro fr e0 e1 e6
  refine SeqK_n ?_
  refine W_assoc ?_
  refine W_seq (W_ops [0, 1, 6, 28] ?_)
  simp only [o48_4, wO, ↓reduceIte, Nat.reduceEqDiff, e0, e1, e6]
  clear e0 e1 e6
  intro fr e0 e1 e6 e28
  refine SeqK_n ?_
  refine W_seq (W_cond e28 (fun h => by cases h) (fun _ => W_skip (SeqK_n ?_)))
  have hmk := mkV (s := s) (n := m) [.slice none 0 0] (show 24 ≤ 24 by omega) (by omega)
  have H1 := (Hold.refl s).makeT (c := m) (z := .slice none 0 0) 1 eC (by unfold OPEN; omega)
  have e00 : ([] : List (List Cx)) = rowsL 0 n f := rfl
  rw [e00] at H1
  refine W_seq (W_ops [0, 1, 7] ?_)
  simp only [o48_6, wO, ↓reduceIte, Nat.reduceEqDiff, e0, e1, a.len, hmk]
  clear e0 e1
  intro fr e0 e1 e7
  refine SeqK_n ?_
  generalize newAt s (.cells (repZ [.slice none 0 0] m) false) = s1 at H1 ⊢
  generalize Value.slice (some ⟨s.nxt, 0, none⟩) m m = ov at H1 e7
  refine W_assoc ?_
  refine W_seq (W_ops [1, 7, 33, 34, 35] ?_)
  simp only [o48_7, wO, ↓reduceIte, Nat.reduceEqDiff, e0, e1, e7, (a.same H1.same).len]
  clear e0 e1 e7
  intro fr e1 e7 e33 e34 e35
  refine SeqK_n ?_
  refine W_seq (W_block (W_loop (fun mm fr s2 => ∃ k : Nat, k + mm = m ∧ geT fr 1 = .int .i64 0 ∧ geT fr 7 = ov ∧ geT fr 33 = v ∧ geT fr 34 = .int .i64 (m : Nat) ∧ geT fr 35 = .int .i64 (k : Nat) ∧ Hold s s2 [HP.tab 1 eC ov (rowsL k n f) (List.replicate mm (.slice none 0 0))]) m ⟨0, by omega, e1, e7, e33, e34, e35, H1⟩ ?_))
  clear e1 e7 e33 e34 e35 fr H1 hmk s1
  rintro mm fr s1 ⟨k, hk, e1, e7, e33, e34, e35, H⟩
  refine W_seq (W_ops [1, 7, 33, 34, 35, 36] ?_)
  simp only [o48_9, wO, ↓reduceIte, Nat.reduceEqDiff, e1, e7, e33, e34, e35]
  clear e1 e7 e33 e34 e35
  intro fr e1 e7 e33 e34 e35 e36
  refine SeqK_n ?_
  refine W_while e36 (fun hlt => ?_) (fun hlt => ?_)
  · obtain ⟨c, A1, L1, z⟩ := (a.same H.same).row (show k < m by omega)
    obtain ⟨mm, rfl⟩ : ∃ j, mm = j + 1 := ⟨mm - 1, by omega⟩
    rw [List.replicate_succ] at H
    obtain ⟨o, s2, ap, H2⟩ := (H.nil 1).append (bytes := 16) z.src (by rw [fV_len, Nat.mul_one]) (fV_one _ _) (by omega) (by decide) (by omega) (by omega) (by omega)
    rw [List.nil_append, Nat.zero_add, ← rowL_flat] at H2
    have hone : oneCell o = true := (H2.own (List.mem_cons_self ..)).one
    have A2 := (H2.up1.tabLoad (List.mem_cons_self ..)).1
    obtain ⟨s3, st, H3⟩ := H2.up1.tabStore (c := o) hone
    rw [rowsL_len] at A2 st
    have H5 := H3.up1.tabClose (rowL_len _ _).symm
    rw [← rowsL_succ] at H5
    refine W_seq (W_block ?_)
    refine W_seq (W_ops [1, 7, 8, 9, 33, 34, 35] ?_)
    simp only [o48_10, wO, ↓reduceIte, Nat.reduceEqDiff, e1, e7, e33, e34, e35, A1, L1]
    clear e1 e7 e33 e34 e35 e36
    intro fr e1 e7 e8 e9 e33 e34 e35
    refine SeqK_n ?_
    refine W_ops [1, 7, 33, 34, 35] ?_
    simp only [o48_11, wO, ↓reduceIte, Nat.reduceEqDiff, e1, e7, e8, e9, e33, e34, e35, ap, A2, st]
    clear e1 e7 e8 e9 e33 e34 e35
    intro fr e1 e7 e33 e34 e35
    refine BlkK_n (SeqK_n ?_)
    refine W_ops [1, 7, 33, 34, 35] ?_
    simp only [o48_12, wO, ↓reduceIte, Nat.reduceEqDiff, e1, e7, e33, e34, e35, wrap_i64 (n := (k : Int) + 1) (by omega) (by omega)]
    clear e1 e7 e33 e34 e35
    intro fr e1 e7 e33 e34 e35
    exact LoopK_n (m' := mm) (by omega) ⟨k + 1, by omega, e1, e7, e33, e34, by rw [e35]; rfl, H5⟩
  · have hkk : k = m := by omega
    obtain rfl : mm = 0 := by omega
    subst hkk
    refine LoopK_x (BlkK_e (SeqK_n ?_))
    refine W_assoc ?_
    refine W_seq (W_ops [7, 46, 47] ?_)
    simp only [o48_13, wO, ↓reduceIte, Nat.reduceEqDiff, e1, e7]
    clear e1 e7 e33 e34 e35 e36
    intro fr e7 e46 e47
    refine SeqK_n ?_
    refine W_seq (W_block (W_loop (fun mm fr s2 => s1 = s2 ∧ geT fr 7 = ov ∧ geT fr 46 = .int .i64 0 ∧ geT fr 47 = .int .i64 0) 0 ⟨rfl, e7, e46, e47⟩ ?_))
    clear e7 e46 e47 fr
    rintro mm fr _ ⟨rfl, e7, e46, e47⟩
    refine W_seq (W_ops [7, 46, 47, 48] ?_)
    simp only [o48_15, wO, ↓reduceIte, Nat.reduceEqDiff, Int.reduceLT, e7, e46, e47]
    clear e7 e46 e47
    intro fr e7 e46 e47 e48
    refine SeqK_n ?_
    refine W_while (p := False) (e48.trans (by simp)) (fun h => h.elim) (fun _ => ?_)
    refine LoopK_x (BlkK_e (SeqK_n ?_))
    obtain ⟨cells, q1, q2⟩ := TabC.of (H.tab (List.mem_cons_self ..))
    obtain ⟨o, s2, ap, H2⟩ := ((Hold.refl s1).nil 1).append (bytes := 24) q1.src (by rw [q1.length]) (len_set (by rw [q1.length, Nat.mul_one]) fun i hi => let ⟨x, h1, h2⟩ := q2 i hi; ⟨x, h1, h2.one⟩) (by omega) (by decide) (by omega) (by omega) (by omega)
    rw [List.nil_append, Nat.zero_add] at H2
    refine W_seq (W_ops [4, 5] ?_)
    simp only [o48_30, wO, ↓reduceIte, Nat.reduceEqDiff, e7, ap]
    clear e7
    intro fr e4 e5
    refine SeqK_n ?_
    refine W_ret (Ret2 e4 e5 ⟨_, rfl, ⟨cells, (H2.own (List.mem_cons_self ..)).slc, fun i hi => let ⟨x, h1, h2⟩ := q2 i hi; ⟨x, h1, h2.same H2.same (fun _ _ h => h)⟩⟩, (H.keep H2.same).same⟩)

end Go.Proofs.YtmfaodenkghmkaaGreat
