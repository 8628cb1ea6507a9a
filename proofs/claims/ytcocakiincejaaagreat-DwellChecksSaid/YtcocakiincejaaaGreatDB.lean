/- The small checks, walked: finite floats, a stretch, a beat. -/
import Derived.Test.YtcocakiincejaaaGreatDA
import Derived.Test.YtcocakiincejaaaGreatDwIr
import Derived.Test.YtcocakiincejaaaGreatIrA
import Derived.Test.YtcocakiincejaaaGreatIrB
namespace Go.Proofs.YtcocakiincejaaaGreat
open Go Go.Vam

def gt0 (x : Nat) : Bool := ford .f64 x 0 == some .gt
def okF (x : Nat) : Bool := gt0 x && finT x
def bC (c w r : Nat) (ev ro : Int) : List Value := [.float .f64 c, .float .f64 w, .float .f64 r, .int .i64 ev, .int .i64 ro]
def bV (c w r : Nat) (ev ro : Int) : Value := .agg #[.float .f64 c, .float .f64 w, .float .f64 r, .int .i64 ev, .int .i64 ro]
def aV (c w r : Nat) : Value := .agg #[.float .f64 c, .float .f64 w, .float .f64 r]
def x3 (c w r : Nat) : Nat → Nat
  | 0 => c
  | 1 => w
  | _ => r
theorem idx3 {c w r i : Nat} (h : i < 3) : idxArrV 3 1 false (aV c w r) (.int .i64 (i : Nat)) = some (.float .f64 (x3 c w r i)) := by
  match i, h with
  | 0, _ => rfl
  | 1, _ => rfl
  | 2, _ => rfl

/-- What a beat's check tells. -/
def beatE (c w r : Nat) (ev ro : Int) : Int :=
  if ¬ (okF c = true ∧ okF w = true ∧ okF r = true) then 80
  else if ev < 1 ∨ 16384 < ev ∨ ro < 1 ∨ 256 < ro then 80
  else if 262144 < ev * ro then 3 else 0

theorem beat_bad {c w r i : Nat} {ev ro : Int} (hi : i < 3) (h : okF (x3 c w r i) = false) : beatE c w r ev ro = 80 := by
  unfold beatE
  rw [if_pos]
  rintro ⟨h1, h2, h3⟩
  match i, hi with
  | 0, _ => exact Bool.noConfusion (h1.symm.trans h)
  | 1, _ => exact Bool.noConfusion (h2.symm.trans h)
  | 2, _ => exact Bool.noConfusion (h3.symm.trans h)
theorem beat_ok {c w r : Nat} {ev ro : Int} (h : ∀ j, j < 3 → okF (x3 c w r j) = true) : beatE c w r ev ro = if ev < 1 ∨ 16384 < ev ∨ ro < 1 ∨ 256 < ro then 80 else if 262144 < ev * ro then 3 else 0 := by
  unfold beatE
  rw [if_neg]
  exact fun hn => hn ⟨h 0 (by decide), h 1 (by decide), h 2 (by decide)⟩


theorem run18 {X : Ctx} (hX : X.fns = fnsOf Tryz.prog) (ho : ∀ f args s, f ≠ 6 ∧ f ≠ 8 ∧ f ≠ 12 → X.orc f args s = none) {s : Mm} {t : Nat} : CallP X 18 [.float .f64 t] s (fun r s' => r = .bool (finT t) ∧ s = s') := by
  have hf : (ford .f64 (fsub .f64 t t) 0 == some .eq) = finT t := rfl
  refine CallP_of (hX ▸ ir18_eq) (ho _ _ _ (by decide)) (Nat.le_of_ble_eq_true rfl) ?_
  refine W_seq (W_ops [0] ?_)
  simp only [o18_0, WO_move, WO_nil, geT_put, frame_nil, frame_cons, evO_const, keep_nil, keep_cons, keepK_eq, Nat.reduceEqDiff, ↓reduceIte, eq_self, Nat.zero_add]
  intro fr e0
  refine SeqK_n ?_
  refine W_seq (W_ops [2] ?_)
  simp only [o18_1, WO_bin, WO_move, binf_eql, binf_sub, WO_nil, PureK_some, geT_put, evO_tmp, evO_const, keep_nil, keep_cons, keepK_eq, Nat.reduceEqDiff, ↓reduceIte, eq_self, e0, hf]
  clear e0
  intro fr e2
  refine SeqK_n ?_
  exact W_ret (Ret1 e2 ⟨rfl, rfl⟩)

theorem run9 {X : Ctx} (hX : X.fns = fnsOf Tryz.prog) (ho : ∀ f args s, f ≠ 6 ∧ f ≠ 8 ∧ f ≠ 12 → X.orc f args s = none) {s : Mm} {n a b : Int} : CallP X 9 [.int .i64 n, .int .i64 a, .int .i64 b] s (fun r s' => r = .bool (decide (a ≤ n ∧ n ≤ b)) ∧ s = s') := by
  refine CallP_of (hX ▸ ir9_eq) (ho _ _ _ (by decide)) (Nat.le_of_ble_eq_true rfl) ?_
  refine W_seq (W_ops [0, 1, 2] ?_)
  simp only [o9_0, WO_move, WO_nil, geT_put, frame_nil, frame_cons, evO_const, keep_nil, keep_cons, keepK_eq, Nat.reduceEqDiff, Nat.reduceAdd, ↓reduceIte, eq_self, Nat.zero_add]
  intro fr e0 e1 e2
  refine SeqK_n ?_
  by_cases h : a ≤ n
  · refine W_seq (W_ops [6] ?_)
    simp only [o9_1, WO_bin, WO_move, WO_pick, pick_b, bin_geq, bin_leq, WO_nil, PureK_some, WO_guard, want_v, wantB_t, geT_put, evO_tmp, evO_const, keep_nil, keep_cons, keepK_eq, Nat.reduceEqDiff, ↓reduceIte, eq_self, e0, e1, e2, decide_eq_true h]
    clear e0 e1 e2
    intro fr e6
    refine SeqK_n ?_
    exact W_ret (Ret1 e6 ⟨congrArg Value.bool (decide_eq_decide.2 ⟨fun q => ⟨h, q⟩, fun q => q.2⟩), rfl⟩)
  · skip
    refine W_seq (W_ops [6] ?_)
    simp only [o9_1, WO_bin, WO_move, WO_pick, pick_b, bin_geq, WO_nil, PureK_some, WO_guard, want_v, wantB_t, geT_put, evO_tmp, evO_const, keep_nil, keep_cons, keepK_eq, Nat.reduceEqDiff, ↓reduceIte, eq_self, Bool.false_eq_true, e0, e1, decide_eq_false h]
    clear e0 e1 e2
    intro fr e6
    refine SeqK_n ?_
    exact W_ret (Ret1 e6 ⟨congrArg Value.bool (decide_eq_false (fun q => h q.1)).symm, rfl⟩)

theorem run23 {X : Ctx} (hX : X.fns = fnsOf Tryz.prog) (ho : ∀ f args s, f ≠ 6 ∧ f ≠ 8 ∧ f ≠ 12 → X.orc f args s = none) {s : Mm} {t : Nat} : CallP X 23 [.float .f64 t] s (fun r s' => r = .bool (!(ford .f64 t t == some .eq)) ∧ s = s') := by
  refine CallP_of (hX ▸ ir23_eq) (ho _ _ _ (by decide)) (Nat.le_of_ble_eq_true rfl) ?_
  refine W_seq (W_ops [0] ?_)
  simp only [o23_0, WO_move, WO_nil, geT_put, frame_nil, frame_cons, evO_const, keep_nil, keep_cons, keepK_eq, Nat.reduceEqDiff, ↓reduceIte, eq_self, Nat.zero_add]
  intro fr e0
  refine SeqK_n ?_
  refine W_seq (W_ops [2] ?_)
  simp only [o23_1, WO_bin, WO_move, binf_neq, WO_nil, PureK_some, geT_put, evO_tmp, keep_nil, keep_cons, keepK_eq, Nat.reduceEqDiff, ↓reduceIte, eq_self, e0]
  clear e0
  intro fr e2
  refine SeqK_n ?_
  exact W_ret (Ret1 e2 ⟨rfl, rfl⟩)

theorem run24 {X : Ctx} (hX : X.fns = fnsOf Tryz.prog) (ho : ∀ f args s, f ≠ 6 ∧ f ≠ 8 ∧ f ≠ 12 → X.orc f args s = none) {s : Mm} {t : Nat} : CallP X 24 [.float .f64 t, .int .i64 0] s (fun r s' => r = .bool (ford .f64 (fabs t) 9218868437227405311 == some .gt) ∧ s = s') := by
  refine CallP_of (hX ▸ ir24_eq) (ho _ _ _ (by decide)) (Nat.le_of_ble_eq_true rfl) ?_
  refine W_seq (W_ops [0, 1] ?_)
  simp only [o24_0, WO_move, WO_nil, geT_put, frame_nil, frame_cons, evO_const, keep_nil, keep_cons, keepK_eq, Nat.reduceEqDiff, Nat.reduceAdd, ↓reduceIte, eq_self, Nat.zero_add]
  intro fr e0 e1
  refine SeqK_n ?_
  refine W_assoc ?_
  refine W_seq (W_ops [0, 1, 6] ?_)
  simp only [o24_1, WO_bin, WO_move, bin_eql, WO_nil, PureK_some, geT_put, evO_tmp, evO_const, keep_nil, keep_cons, keepK_eq, Nat.reduceEqDiff, ↓reduceIte, decide_true, eq_self, e0, e1]
  clear e0 e1
  intro fr e0 e1 e6
  refine SeqK_n ?_
  refine W_seq (W_cond e6 (fun _ => ?_) (fun h => absurd h (by decide)))
  refine W_ops [0] ?_
  simp only [o24_2, WO_ext, WO_move, WO_nil, PureK_some, geT_put, evO_tmp, keep_nil, keep_cons, keepK_eq, List.map_cons, List.map_nil, ↓reduceIte, eq_self, e0, ext_abs]
  clear e0 e1 e6
  intro fr e0
  refine SeqK_n ?_
  refine W_seq (W_ops [4] ?_)
  simp only [o24_5, WO_bin, WO_move, binf_gtr, WO_nil, PureK_some, geT_put, evO_tmp, evO_const, keep_nil, keep_cons, keepK_eq, ↓reduceIte, eq_self, e0]
  clear e0
  intro fr e4
  refine SeqK_n ?_
  exact W_ret (Ret1 e4 ⟨rfl, rfl⟩)

theorem run10 {X : Ctx} (hX : X.fns = fnsOf Tryz.prog) (ho : ∀ f args s, f ≠ 6 ∧ f ≠ 8 ∧ f ≠ 12 → X.orc f args s = none) {s : Mm} {t : Nat} (ht : t < 18446744073709551616) : CallP X 10 [.float .f64 t] s (fun r s' => r = .bool (finT t) ∧ s = s') := by
  have hf := fin_abs ht
  refine CallP_of (hX ▸ ir10_eq) (ho _ _ _ (by decide)) (Nat.le_of_ble_eq_true rfl) ?_
  refine W_seq (W_ops [0] ?_)
  simp only [o10_0, WO_move, WO_nil, geT_put, frame_nil, frame_cons, evO_const, keep_nil, keep_cons, keepK_eq, Nat.reduceEqDiff, ↓reduceIte, eq_self, Nat.zero_add]
  intro fr e0
  refine SeqK_n ?_
  refine W_seq (W_ops [2] ?_)
  simp only [o10_1, WO_call, WO_move, geT_put, evO_tmp, List.map_cons, List.map_nil, ↓reduceIte, eq_self, e0]
  refine CallK_of (run23 hX ho) ?_
  rintro _ _ ⟨rfl, rfl⟩
  cases h1 : (ford .f64 t t == some .eq) with
  | false =>
    simp only [WO_move, WO_pick, pick_b, WO_un, un_not, WO_nil, PureK_some, WO_guard, want_v, wantB_t, geT_put, evO_tmp, evO_const, keep_nil, keep_cons, keepK_eq, Nat.reduceEqDiff, ↓reduceIte, Bool.not_true, Bool.not_false, eq_self, Bool.false_eq_true]
    clear e0
    intro fr e2
    refine SeqK_n ?_
    exact W_ret (Ret1 e2 ⟨by rw [← hf]; show _ = Value.bool (!(!(ford .f64 t t == some .eq)) && _); rw [h1]; rfl, rfl⟩)
  | true =>
    simp only [WO_call, WO_move, WO_un, un_not, PureK_some, WO_guard, want_v, wantB_t, geT_put, evO_tmp, evO_const, List.map_cons, List.map_nil, Nat.reduceEqDiff, ↓reduceIte, Bool.not_true, Bool.not_false, eq_self, e0]
    refine CallK_of (run24 hX ho) ?_
    rintro _ _ ⟨rfl, rfl⟩
    simp only [WO_move, WO_pick, pick_b, WO_un, un_not, WO_nil, PureK_some, WO_guard, want_v, wantB_t, geT_put, evO_tmp, evO_const, keep_nil, keep_cons, keepK_eq, Nat.reduceEqDiff, ↓reduceIte, eq_self]
    clear e0
    intro fr e2
    refine SeqK_n ?_
    exact W_ret (Ret1 e2 ⟨by rw [← hf]; show _ = Value.bool (!(!(ford .f64 t t == some .eq)) && _); rw [h1]; rfl, rfl⟩)

theorem run13 {X : Ctx} (hX : X.fns = fnsOf Tryz.prog) (ho : ∀ f args s, f ≠ 6 ∧ f ≠ 8 ∧ f ≠ 12 → X.orc f args s = none) {s : Mm} {t : Nat} (ht : t < 18446744073709551616) : CallP X 13 [.float .f64 t] s (fun r s' => r = .bool (finT t) ∧ s = s') := by
  have hf := fin_two ht
  refine CallP_of (hX ▸ ir13_eq) (ho _ _ _ (by decide)) (Nat.le_of_ble_eq_true rfl) ?_
  refine W_seq (W_ops [0] ?_)
  simp only [o13_0, WO_move, WO_nil, geT_put, frame_nil, frame_cons, evO_const, keep_nil, keep_cons, keepK_eq, Nat.reduceEqDiff, ↓reduceIte, eq_self, Nat.zero_add]
  intro fr e0
  refine SeqK_n ?_
  cases h1 : (ford .f64 t t == some .eq) with
  | false =>
    refine W_seq (W_ops [2] ?_)
    simp only [o13_1, WO_bin, WO_move, WO_pick, pick_b, binf_eql, WO_nil, PureK_some, WO_guard, want_v, wantB_t, geT_put, evO_tmp, evO_const, keep_nil, keep_cons, keepK_eq, Nat.reduceEqDiff, ↓reduceIte, eq_self, Bool.false_eq_true, e0, h1]
    clear e0
    intro fr e2
    refine SeqK_n ?_
    exact W_ret (Ret1 e2 ⟨by rw [← hf, fin2, h1]; rfl, rfl⟩)
  | true =>
    cases h2 : (ford .f64 t 9218868437227405311 == some .lt || ford .f64 t 9218868437227405311 == some .eq) with
    | false =>
      refine W_seq (W_ops [2] ?_)
      simp only [o13_1, WO_bin, WO_move, WO_pick, pick_b, binf_eql, binf_leq, WO_nil, PureK_some, WO_guard, want_v, wantB_t, geT_put, evO_tmp, evO_const, keep_nil, keep_cons, keepK_eq, Nat.reduceEqDiff, ↓reduceIte, eq_self, Bool.false_eq_true, e0, h1, h2]
      clear e0
      intro fr e2
      refine SeqK_n ?_
      exact W_ret (Ret1 e2 ⟨by rw [← hf, fin2, h1, h2]; rfl, rfl⟩)
    | true =>
      refine W_seq (W_ops [2] ?_)
      simp only [o13_1, WO_bin, WO_move, WO_pick, pick_b, binf_eql, binf_geq, binf_leq, WO_nil, PureK_some, WO_guard, want_v, wantB_t, geT_put, evO_tmp, evO_const, keep_nil, keep_cons, keepK_eq, Nat.reduceEqDiff, ↓reduceIte, eq_self, e0, h1, h2]
      clear e0
      intro fr e2
      refine SeqK_n ?_
      exact W_ret (Ret1 e2 ⟨by rw [← hf, fin2, h1, h2]; rfl, rfl⟩)

set_option maxHeartbeats 1000000 in
theorem run7 {X : Ctx} (hX : X.fns = fnsOf Tryz.prog) (ho : ∀ f args s, f ≠ 6 ∧ f ≠ 8 ∧ f ≠ 12 → X.orc f args s = none) {s : Mm} {c w r : Nat} {ev ro : Int} : CallP X 7 [bV c w r ev ro] s (fun v s' => v = .int .i64 (beatE c w r ev ro) ∧ Same s s' (fun _ => False)) := by
  have hbx : (bV c w r ev ro).cells.toList = bC c w r ev ro := rfl
  have H1 := (Hold.refl s).new (bC c w r ev ro)
  have m0 : loadV (newAt s (.cells (bC c w r ev ro) false)) none (.pointer (some ⟨s.nxt, 0, none⟩)) = some (.float .f64 c) := load_g (o := 0) (H1.cell (List.mem_cons_self ..))
  have m1 : loadV (newAt s (.cells (bC c w r ev ro) false)) none (.pointer (some ⟨s.nxt, 1, none⟩)) = some (.float .f64 w) := load_g (o := 1) (H1.cell (List.mem_cons_self ..))
  have m2 : loadV (newAt s (.cells (bC c w r ev ro) false)) none (.pointer (some ⟨s.nxt, 2, none⟩)) = some (.float .f64 r) := load_g (o := 2) (H1.cell (List.mem_cons_self ..))
  have m3 : loadV (newAt s (.cells (bC c w r ev ro) false)) none (.pointer (some ⟨s.nxt, 3, none⟩)) = some (.int .i64 ev) := load_g (o := 3) (H1.cell (List.mem_cons_self ..))
  have m4 : loadV (newAt s (.cells (bC c w r ev ro) false)) none (.pointer (some ⟨s.nxt, 4, none⟩)) = some (.int .i64 ro) := load_g (o := 4) (H1.cell (List.mem_cons_self ..))
  have hS := H1.same
  clear H1
  have hbu : buildV [.float .f64 0, .float .f64 0, .float .f64 0] [(0, 1, .float .f64 c), (1, 1, .float .f64 w), (2, 1, .float .f64 r)] = some (aV c w r) := rfl
  refine CallP_of (hX ▸ ir7_eq) (ho _ _ _ (by decide)) (Nat.le_of_ble_eq_true rfl) ?_
  refine W_seq (W_ops [1] ?_)
  simp only [o7_0, WO_box, WO_move, WO_nil, geT_put, frame_nil, frame_cons, evO_tmp, evO_const, keep_nil, keep_cons, keepK_eq, Nat.reduceEqDiff, ↓reduceIte, eq_self, Nat.zero_add, hbx]
  intro fr e1
  refine SeqK_n ?_
  generalize newAt s (.cells (bC c w r ev ro) false) = s1 at m0 m1 m2 m3 m4 hS ⊢
  generalize s.nxt = Bk at m0 m1 m2 m3 m4 e1
  refine W_assoc ?_
  refine W_seq (W_ops [1, 11, 12] ?_)
  simp only [o7_1, WO_build, WO_fieldAddr, fieldAddr_p, WO_load, WO_move, WO_nil, PureK_some, geT_put, evO_tmp, evO_const, keep_nil, keep_cons, keepK_eq, List.map_cons, List.map_nil, Nat.reduceEqDiff, ↓reduceIte, eq_self, Nat.zero_add, Nat.add_zero, e1, m0, m1, m2, hbu]
  clear e1
  intro fr e1 e11 e12
  refine SeqK_n ?_
  refine W_seq (W_block (W_loop (fun m fr s2 => ∃ i : Nat, i + m = 3 ∧ s1 = s2 ∧ (∀ j, j < i → okF (x3 c w r j) = true) ∧ geT fr 1 = .pointer (some ⟨Bk, 0, none⟩) ∧ geT fr 11 = aV c w r ∧ geT fr 12 = .int .i64 (i : Nat)) 3 ⟨0, rfl, rfl, fun j hj => by omega, e1, e11, e12⟩ ?_))
  clear e1 e11 e12 fr
  rintro m fr _ ⟨i, hi, rfl, hok, e1, e11, e12⟩
  refine W_seq (W_ops [1, 11, 12, 13] ?_)
  simp only [o7_3, WO_bin, bin_lss, WO_nil, PureK_some, geT_put, evO_tmp, evO_const, keep_nil, keep_cons, keepK_eq, Nat.reduceEqDiff, ↓reduceIte, eq_self, e1, e11, e12]
  clear e1 e11 e12
  intro fr e1 e11 e12 e13
  refine SeqK_n ?_
  refine W_while e13 (fun hlt => ?_) (fun hlt => ?_)
  · have hi3 : i < 3 := by omega
    refine W_seq (W_block ?_)
    refine W_seq (W_ops [1, 4, 11, 12] ?_)
    simp only [o7_4, WO_idxArr, WO_move, WO_nil, PureK_some, geT_put, evO_tmp, keep_nil, keep_cons, keepK_eq, Nat.reduceEqDiff, ↓reduceIte, eq_self, e1, e11, e12, idx3 hi3]
    clear e1 e11 e12 e13
    intro fr e1 e4 e11 e12
    refine SeqK_n ?_
    have hgd : gt0 (x3 c w r i) = (ford .f64 (x3 c w r i) 0 == some .gt) := rfl
    cases hg : (ford .f64 (x3 c w r i) 0 == some .gt) with
    | false =>
      refine W_seq (W_ops [1, 11, 12, 22] ?_)
      simp only [o7_5, WO_bin, WO_move, WO_pick, pick_b, WO_un, un_not, binf_gtr, WO_nil, PureK_some, WO_guard, want_v, wantB_f, geT_put, evO_tmp, evO_const, keep_nil, keep_cons, keepK_eq, Nat.reduceEqDiff, ↓reduceIte, Bool.not_true, Bool.not_false, eq_self, Bool.false_eq_true, e1, e4, e11, e12, hg]
      clear e1 e4 e11 e12
      intro fr e1 e11 e12 e22
      refine SeqK_n ?_
      refine W_cond e22 (fun _ => ?_) (fun h => absurd h (by decide))
      refine W_seq (W_ops [2] ?_)
      simp only [o7_6, WO_move, WO_nil, geT_put, evO_const, keep_nil, keep_cons, keepK_eq, ↓reduceIte, eq_self]
      clear e1 e11 e12 e22
      intro fr e2
      refine SeqK_n ?_
      refine W_ret ?_
      repeat (first | refine SeqK_r ?_ | refine BlkK_r ?_ | refine LoopK_r ?_)
      exact Ret1 e2 ⟨by rw [beat_bad hi3 (by unfold okF; rw [hgd, hg]; rfl)], hS⟩
    | true =>
      refine W_seq (W_ops [1, 11, 12, 22] ?_)
      simp only [o7_5, WO_bin, WO_call, WO_move, WO_un, un_not, binf_gtr, PureK_some, WO_guard, want_v, wantB_f, geT_put, evO_tmp, evO_const, List.map_cons, List.map_nil, Nat.reduceEqDiff, ↓reduceIte, Bool.not_true, Bool.not_false, eq_self, e4, hg]
      refine CallK_of (run18 hX ho) ?_
      rintro _ _ ⟨rfl, rfl⟩
      simp only [WO_pick, pick_b, WO_un, un_not, WO_nil, PureK_some, WO_guard, want_v, wantB_f, geT_put, evO_tmp, evO_const, keep_nil, keep_cons, keepK_eq, Nat.reduceEqDiff, ↓reduceIte, Bool.not_false, eq_self, Bool.false_eq_true, e1, e11, e12]
      clear e1 e4 e11 e12
      intro fr e1 e11 e12 e22
      refine SeqK_n ?_
      cases hf : finT (x3 c w r i) with
      | false =>
        rw [hf] at e22
        refine W_cond e22 (fun _ => ?_) (fun h => absurd h (by decide))
        refine W_seq (W_ops [2] ?_)
        simp only [o7_6, WO_move, WO_nil, geT_put, evO_const, keep_nil, keep_cons, keepK_eq, ↓reduceIte, eq_self]
        clear e1 e11 e12 e22
        intro fr e2
        refine SeqK_n ?_
        refine W_ret ?_
        repeat (first | refine SeqK_r ?_ | refine BlkK_r ?_ | refine LoopK_r ?_)
        exact Ret1 e2 ⟨by rw [beat_bad hi3 (by unfold okF; rw [hgd, hg, hf]; rfl)], hS⟩
      | true =>
        rw [hf] at e22
        refine W_cond e22 (fun h => absurd h (by decide)) (fun _ => W_skip (BlkK_n (SeqK_n ?_)))
        refine W_ops [1, 11, 12] ?_
        simp only [o7_7, WO_bin, WO_move, bin_add, WO_nil, PureK_some, geT_put, evO_tmp, evO_const, keep_nil, keep_cons, keepK_eq, Nat.reduceEqDiff, ↓reduceIte, eq_self, e1, e11, e12, wrap_i64 (n := (i : Int) + 1) (by omega) (by omega)]
        clear e1 e11 e12 e22
        intro fr e1 e11 e12
        refine LoopK_n (m' := m - 1) (by omega) ⟨i + 1, by omega, rfl, fun j hj => ?_, e1, e11, by rw [e12]; rfl⟩
        by_cases hji : j = i
        · subst hji; unfold okF; rw [hgd, hg, hf]; rfl
        · exact hok j (by omega)
  · have hi3 : i = 3 := by omega
    subst hi3
    have hB := beat_ok (ev := ev) (ro := ro) hok
    refine LoopK_x (BlkK_e (SeqK_n ?_))
    refine W_seq (W_block (W_seq (W_cutN (fun fr s' => s1 = s' ∧ geT fr 1 = .pointer (some ⟨Bk, 0, none⟩) ∧ geT fr 24 = .bool (decide (ev < 1 ∨ 16384 < ev ∨ ro < 1 ∨ 256 < ro))) ?_ ?_)))
    · intro R' hR'
      refine W_seq (W_ops [1, 24] ?_)
      simp only [o7_8, WO_bin, WO_fieldAddr, fieldAddr_p, WO_load, WO_move, bin_lss, WO_nil, PureK_some, geT_put, evO_tmp, evO_const, keep_nil, keep_cons, keepK_eq, Nat.reduceEqDiff, ↓reduceIte, eq_self, Nat.zero_add, e1, m3]
      clear e1 e11 e12 e13
      intro fr e1 e24
      refine SeqK_n ?_
      refine W_if e24 (fun h1 => W_skip (hR' _ _ ⟨rfl, e1, by rw [e24]; exact congrArg Value.bool (decide_eq_decide.2 ⟨fun _ => .inl h1, fun _ => h1⟩)⟩)) (fun h1 => ?_)
      refine W_seq (W_ops [1, 24] ?_)
      simp only [o7_9, WO_bin, WO_fieldAddr, fieldAddr_p, WO_load, WO_move, bin_gtr, WO_nil, PureK_some, geT_put, evO_tmp, evO_const, keep_nil, keep_cons, keepK_eq, Nat.reduceEqDiff, ↓reduceIte, eq_self, Nat.zero_add, e1, m3]
      clear e1 e24
      intro fr e1 e24
      refine SeqK_n ?_
      refine W_if e24 (fun h2 => W_skip (hR' _ _ ⟨rfl, e1, by rw [e24]; exact congrArg Value.bool (decide_eq_decide.2 ⟨fun _ => .inr (.inl h2), fun _ => h2⟩)⟩)) (fun h2 => ?_)
      refine W_seq (W_ops [1, 24] ?_)
      simp only [o7_10, WO_bin, WO_fieldAddr, fieldAddr_p, WO_load, WO_move, bin_lss, WO_nil, PureK_some, geT_put, evO_tmp, evO_const, keep_nil, keep_cons, keepK_eq, Nat.reduceEqDiff, ↓reduceIte, eq_self, Nat.zero_add, e1, m4]
      clear e1 e24
      intro fr e1 e24
      refine SeqK_n ?_
      refine W_if e24 (fun h3 => W_skip (hR' _ _ ⟨rfl, e1, by rw [e24]; exact congrArg Value.bool (decide_eq_decide.2 ⟨fun _ => .inr (.inr (.inl h3)), fun _ => h3⟩)⟩)) (fun h3 => ?_)
      refine W_ops [1, 24] ?_
      simp only [o7_11, WO_bin, WO_fieldAddr, fieldAddr_p, WO_load, WO_move, bin_gtr, WO_nil, PureK_some, geT_put, evO_tmp, evO_const, keep_nil, keep_cons, keepK_eq, Nat.reduceEqDiff, ↓reduceIte, eq_self, Nat.zero_add, e1, m4]
      clear e1 e24
      intro fr e1 e24
      exact hR' _ _ ⟨rfl, e1, by rw [e24]; exact congrArg Value.bool (decide_eq_decide.2 ⟨fun q => .inr (.inr (.inr q)), fun q => q.elim (fun a => absurd a h1) fun q => q.elim (fun a => absurd a h2) fun q => q.elim (fun a => absurd a h3) id⟩)⟩
    clear e1 e11 e12 e13 fr
    rintro fr _ ⟨rfl, e1, e24⟩
    refine SeqK_n ?_
    refine W_if e24 (fun h1 => ?_) (fun h1 => ?_)
    · skip
      refine W_seq (W_ops [2] ?_)
      simp only [o7_12, WO_move, WO_nil, geT_put, evO_const, keep_nil, keep_cons, keepK_eq, ↓reduceIte, eq_self]
      clear e1 e24
      intro fr e2
      refine SeqK_n ?_
      refine W_ret ?_
      repeat (first | refine SeqK_r ?_ | refine BlkK_r ?_ | refine LoopK_r ?_)
      exact Ret1 e2 ⟨by rw [hB, if_pos h1], hS⟩
    · have hw : wrapK .i64 (ev * ro) = ev * ro := by
        have h5 : 0 ≤ ev * ro := Int.mul_nonneg (by omega) (by omega)
        have h6 : ev * ro ≤ 16384 * 256 := Int.mul_le_mul (by omega) (by omega) (by omega) (by omega)
        exact wrap_i64 (by omega) (by omega)
      refine W_seq (W_ops [37] ?_)
      simp only [o7_13, WO_bin, WO_fieldAddr, fieldAddr_p, WO_load, WO_move, bin_gtr, bin_mul, WO_nil, PureK_some, geT_put, evO_tmp, evO_const, keep_nil, keep_cons, keepK_eq, Nat.reduceEqDiff, ↓reduceIte, eq_self, Nat.zero_add, e1, m3, m4, hw]
      clear e1 e24
      intro fr e37
      refine SeqK_n ?_
      refine W_if e37 (fun h2 => ?_) (fun h2 => W_skip (BlkK_n (SeqK_n ?_)))
      · refine W_seq (W_ops [2] ?_)
        simp only [o7_14, WO_move, WO_nil, geT_put, evO_const, keep_nil, keep_cons, keepK_eq, ↓reduceIte, eq_self]
        clear e37
        intro fr e2
        refine SeqK_n ?_
        refine W_ret ?_
        repeat (first | refine SeqK_r ?_ | refine BlkK_r ?_ | refine LoopK_r ?_)
        exact Ret1 e2 ⟨by rw [hB, if_neg h1, if_pos h2], hS⟩
      · skip
        refine W_seq (W_ops [2] ?_)
        simp only [o7_15, WO_move, WO_nil, geT_put, evO_const, keep_nil, keep_cons, keepK_eq, ↓reduceIte, eq_self]
        clear e37
        intro fr e2
        refine SeqK_n ?_
        exact W_ret (Ret1 e2 ⟨by rw [hB, if_neg h1, if_neg h2], hS⟩)

set_option maxHeartbeats 1000000 in
theorem run11 {X : Ctx} (hX : X.fns = fnsOf Tryz.prog) (ho : ∀ f args s, f ≠ 6 ∧ f ≠ 8 ∧ f ≠ 12 → X.orc f args s = none) {s : Mm} {c w r : Nat} {ev ro : Int} (hc : c < 18446744073709551616) (hw : w < 18446744073709551616) (hr : r < 18446744073709551616) : CallP X 11 [bV c w r ev ro] s (fun v s' => v = .int .i64 (beatE c w r ev ro) ∧ Same s s' (fun _ => False)) := by
  have hbx : (bV c w r ev ro).cells.toList = bC c w r ev ro := rfl
  have H1 := (Hold.refl s).new (bC c w r ev ro)
  have hx : ∀ i, i < 3 → x3 c w r i < 18446744073709551616 := fun i hi => by
    match i, hi with
    | 0, _ => exact hc
    | 1, _ => exact hw
    | 2, _ => exact hr
  have hbu : buildV [.float .f64 0, .float .f64 0, .float .f64 0] [(0, 1, .float .f64 c), (1, 1, .float .f64 w), (2, 1, .float .f64 r)] = some (aV c w r) := rfl
  refine CallP_of (hX ▸ ir11_eq) (ho _ _ _ (by decide)) (Nat.le_of_ble_eq_true rfl) ?_
  refine W_seq (W_ops [1] ?_)
  simp only [o11_0, WO_box, WO_move, WO_nil, geT_put, frame_nil, frame_cons, evO_tmp, evO_const, keep_nil, keep_cons, keepK_eq, Nat.reduceEqDiff, ↓reduceIte, eq_self, Nat.zero_add, hbx]
  intro fr e1
  refine SeqK_n ?_
  generalize newAt s (.cells (bC c w r ev ro) false) = s1 at H1 ⊢
  generalize s.nxt = Bk at H1 e1
  have lk : ∀ {s'} {l : List HP}, Hold s s' l → HP.cell Bk (bC c w r ev ro) ∈ l → loadV s' none (.pointer (some ⟨Bk, 0, none⟩)) = some (.float .f64 c) ∧ loadV s' none (.pointer (some ⟨Bk, 1, none⟩)) = some (.float .f64 w) ∧ loadV s' none (.pointer (some ⟨Bk, 2, none⟩)) = some (.float .f64 r) ∧ loadV s' none (.pointer (some ⟨Bk, 3, none⟩)) = some (.int .i64 ev) ∧ loadV s' none (.pointer (some ⟨Bk, 4, none⟩)) = some (.int .i64 ro) := fun h hm =>
    ⟨load_g (o := 0) (h.cell hm), load_g (o := 1) (h.cell hm), load_g (o := 2) (h.cell hm), load_g (o := 3) (h.cell hm), load_g (o := 4) (h.cell hm)⟩
  obtain ⟨m0, m1, m2, q3, q4⟩ := lk H1 (List.mem_cons_self ..)
  have H2 := H1.new [.float .f64 0, .float .f64 0, .float .f64 0]
  have st : storeV (newAt s1 (.cells [.float .f64 0, .float .f64 0, .float .f64 0] false)) 3 (.pointer (some ⟨s1.nxt, 0, none⟩)) (aV c w r) = some (undefV, setBlk (newAt s1 (.cells [.float .f64 0, .float .f64 0, .float .f64 0] false)) s1.nxt (.cells [.float .f64 c, .float .f64 w, .float .f64 r] false)) :=
    store_all (vs := [.float .f64 c, .float .f64 w, .float .f64 r]) (H2.cell (List.mem_cons_self ..)) rfl rfl rfl
  have H3 := H2.setc (cs' := [.float .f64 c, .float .f64 w, .float .f64 r])
  refine W_seq (W_ops [1, 3] ?_)
  simp only [o11_1, WO_alloc, WO_build, WO_fieldAddr, fieldAddr_p, WO_load, WO_store, WO_nil, PureK_some, MemK_some, geT_put, puT_none, evO_tmp, keep_nil, keep_cons, keepK_eq, List.map_cons, List.map_nil, Nat.reduceEqDiff, ↓reduceIte, eq_self, Nat.zero_add, Nat.add_zero, e1, m0, m1, m2, hbu, st]
  clear e1
  intro fr e1 e3
  refine SeqK_n ?_
  clear m0 m1 m2 q3 q4 st H2
  generalize setBlk (newAt s1 (.cells [.float .f64 0, .float .f64 0, .float .f64 0] false)) s1.nxt (.cells [.float .f64 c, .float .f64 w, .float .f64 r] false) = s2 at H3 ⊢
  generalize s1.nxt = Ba at H3 e3
  obtain ⟨m0, m1, m2, m3, m4⟩ := lk H3 (by simp)
  have hS := H3.same
  have ar : ∀ i, i < 3 → addrArrV 3 1 (.pointer (some ⟨Ba, 0, none⟩)) (.int .i64 (i : Nat)) = some (.pointer (some ⟨Ba, i, none⟩)) := fun i hi => by
    match i, hi with
    | 0, _ => rfl
    | 1, _ => rfl
    | 2, _ => rfl
  have ld : ∀ i, i < 3 → loadV s2 none (.pointer (some ⟨Ba, i, none⟩)) = some (.float .f64 (x3 c w r i)) := fun i hi => by
    rw [load_g (o := i) (H3.cell (List.mem_cons_self ..))]
    match i, hi with
    | 0, _ => rfl
    | 1, _ => rfl
    | 2, _ => rfl
  clear lk H1 H3 hbu hbx s1
  refine W_assoc ?_
  refine W_seq (W_ops [1, 3, 4] ?_)
  simp only [o11_2, WO_move, WO_nil, geT_put, evO_const, keep_nil, keep_cons, keepK_eq, Nat.reduceEqDiff, ↓reduceIte, eq_self, e1, e3]
  clear e1 e3
  intro fr e1 e3 e4
  refine SeqK_n ?_
  refine W_seq (W_block (W_loop (fun m fr s3 => ∃ i : Nat, i + m = 3 ∧ s2 = s3 ∧ (∀ j, j < i → okF (x3 c w r j) = true) ∧ geT fr 1 = .pointer (some ⟨Bk, 0, none⟩) ∧ geT fr 3 = .pointer (some ⟨Ba, 0, none⟩) ∧ geT fr 4 = .int .i64 (i : Nat)) 3 ⟨0, rfl, rfl, fun j hj => by omega, e1, e3, e4⟩ ?_))
  clear e1 e3 e4 fr
  rintro m fr _ ⟨i, hi, rfl, hok, e1, e3, e4⟩
  refine W_assoc ?_
  refine W_seq (W_ops [1, 3, 4, 13] ?_)
  simp only [o11_4, WO_bin, WO_move, bin_lss, WO_nil, PureK_some, geT_put, evO_tmp, evO_const, keep_nil, keep_cons, keepK_eq, Nat.reduceEqDiff, ↓reduceIte, eq_self, e1, e3, e4]
  clear e1 e3 e4
  intro fr e1 e3 e4 e13
  refine SeqK_n ?_
  refine W_while e13 (fun hlt => ?_) (fun hlt => ?_)
  · have hi3 : i < 3 := by omega
    have A := ar i hi3
    have L := ld i hi3
    have hgd : gt0 (x3 c w r i) = (ford .f64 (x3 c w r i) 0 == some .gt) := rfl
    refine W_seq (W_block ?_)
    refine W_seq (W_ops [1, 3, 4, 27] ?_)
    simp only [o11_5, WO_addrArr, WO_call, WO_load, WO_move, PureK_some, geT_put, evO_tmp, List.map_cons, List.map_nil, Nat.reduceEqDiff, ↓reduceIte, eq_self, e3, e4, A, L]
    refine CallK_of (run13 hX ho (hx i hi3)) ?_
    rintro _ _ ⟨rfl, rfl⟩
    cases hf : finT (x3 c w r i) with
    | false =>
      simp only [WO_move, WO_pick, pick_b, WO_un, un_not, WO_nil, PureK_some, WO_guard, want_v, wantB_f, geT_put, evO_tmp, evO_const, keep_nil, keep_cons, keepK_eq, Nat.reduceEqDiff, ↓reduceIte, Bool.not_true, Bool.not_false, eq_self, Bool.false_eq_true, e1, e3, e4]
      clear e1 e3 e4 e13
      intro fr e1 e3 e4 e27
      refine SeqK_n ?_
      refine W_cond e27 (fun _ => ?_) (fun h => absurd h (by decide))
      refine W_seq (W_ops [2] ?_)
      simp only [o11_6, WO_move, WO_nil, geT_put, evO_const, keep_nil, keep_cons, keepK_eq, ↓reduceIte, eq_self]
      clear e1 e3 e4 e27
      intro fr e2
      refine SeqK_n ?_
      refine W_ret ?_
      repeat (first | refine SeqK_r ?_ | refine BlkK_r ?_ | refine LoopK_r ?_)
      exact Ret1 e2 ⟨by rw [beat_bad hi3 (by unfold okF; rw [hf, Bool.and_false])], hS⟩
    | true =>
      cases hg : (ford .f64 (x3 c w r i) 0 == some .gt) with
      | false =>
        simp only [WO_addrArr, WO_bin, WO_load, WO_move, WO_pick, pick_b, WO_un, un_not, binf_gtr, WO_nil, PureK_some, WO_guard, want_v, wantB_f, geT_put, evO_tmp, evO_const, keep_nil, keep_cons, keepK_eq, Nat.reduceEqDiff, ↓reduceIte, Bool.not_true, Bool.not_false, eq_self, Bool.false_eq_true, e1, e3, e4, A, L, hg]
        clear e1 e3 e4 e13
        intro fr e1 e3 e4 e27
        refine SeqK_n ?_
        refine W_cond e27 (fun _ => ?_) (fun h => absurd h (by decide))
        refine W_seq (W_ops [2] ?_)
        simp only [o11_6, WO_move, WO_nil, geT_put, evO_const, keep_nil, keep_cons, keepK_eq, ↓reduceIte, eq_self]
        clear e1 e3 e4 e27
        intro fr e2
        refine SeqK_n ?_
        refine W_ret ?_
        repeat (first | refine SeqK_r ?_ | refine BlkK_r ?_ | refine LoopK_r ?_)
        exact Ret1 e2 ⟨by rw [beat_bad hi3 (by unfold okF; rw [hgd, hg]; rfl)], hS⟩
      | true =>
        simp only [WO_addrArr, WO_bin, WO_load, WO_move, WO_pick, pick_b, WO_un, un_not, binf_gtr, WO_nil, PureK_some, WO_guard, want_v, wantB_f, geT_put, evO_tmp, evO_const, keep_nil, keep_cons, keepK_eq, Nat.reduceEqDiff, ↓reduceIte, Bool.not_true, Bool.not_false, eq_self, Bool.false_eq_true, e1, e3, e4, A, L, hg]
        clear e1 e3 e4 e13
        intro fr e1 e3 e4 e27
        refine SeqK_n ?_
        refine W_cond e27 (fun h => absurd h (by decide)) (fun _ => W_skip (BlkK_n (SeqK_n ?_)))
        refine W_ops [1, 3, 4] ?_
        simp only [o11_7, WO_bin, WO_move, bin_add, WO_nil, PureK_some, geT_put, evO_tmp, evO_const, keep_nil, keep_cons, keepK_eq, Nat.reduceEqDiff, ↓reduceIte, eq_self, e1, e3, e4, wrap_i64 (n := (i : Int) + 1) (by omega) (by omega)]
        clear e1 e3 e4 e27
        intro fr e1 e3 e4
        refine LoopK_n (m' := m - 1) (by omega) ⟨i + 1, by omega, rfl, fun j hj => ?_, e1, e3, by rw [e4]; rfl⟩
        by_cases hji : j = i
        · subst hji; unfold okF; rw [hgd, hg, hf]; rfl
        · exact hok j (by omega)
  · have hi3 : i = 3 := by omega
    subst hi3
    have hB := beat_ok (ev := ev) (ro := ro) hok
    refine LoopK_x (BlkK_e (SeqK_n ?_))
    have ret80 : (ev < 1 ∨ 16384 < ev ∨ ro < 1 ∨ 256 < ro) → ∀ {fr : Fr}, geT fr 2 = .int .i64 80 → RetK [.tmp 2] (fun v s' => v = .int .i64 (beatE c w r ev ro) ∧ Same s s' (fun _ => False)) .ret fr s2 :=
      fun h1 _ h2 => Ret1 h2 ⟨by rw [hB, if_pos h1], hS⟩
    refine W_assoc ?_
    refine W_seq (W_opsB [1, 45] (fun fr s' => s2 = s' ∧ geT fr 1 = .pointer (some ⟨Bk, 0, none⟩) ∧ geT fr 45 = .bool (decide (ev < 1 ∨ 16384 < ev ∨ ro < 1 ∨ 256 < ro))) ?_ ?_)
    · intro R' hR'
      by_cases h1 : ev < 1
      · simp only [o11_8, WO_bin, WO_fieldAddr, fieldAddr_p, WO_load, WO_move, WO_pick, pick_b, bin_lss, WO_nil, PureK_some, WO_guard, want_v, wantB_f, geT_put, evO_tmp, evO_const, keep_nil, keep_cons, keepK_eq, Nat.reduceEqDiff, ↓reduceIte, Bool.not_true, eq_self, Bool.false_eq_true, Nat.zero_add, e1, m3, decide_eq_true h1]
        intro fr e1 e45
        exact hR' _ _ ⟨rfl, e1, by rw [e45]; exact congrArg Value.bool (decide_eq_true (.inl h1)).symm⟩
      · by_cases h2 : 16384 < ev
        · simp only [o11_8, WO_bin, WO_fieldAddr, fieldAddr_p, WO_load, WO_move, WO_pick, pick_b, bin_gtr, bin_lss, WO_nil, PureK_some, WO_guard, want_v, wantB_f, geT_put, evO_tmp, evO_const, keep_nil, keep_cons, keepK_eq, Nat.reduceEqDiff, ↓reduceIte, Bool.not_true, Bool.not_false, eq_self, Bool.false_eq_true, Nat.zero_add, e1, m3, decide_eq_false h1, decide_eq_true h2]
          intro fr e1 e45
          exact hR' _ _ ⟨rfl, e1, by rw [e45]; exact congrArg Value.bool (decide_eq_true (.inr (.inl h2))).symm⟩
        · by_cases h3 : ro < 1
          · simp only [o11_8, WO_bin, WO_fieldAddr, fieldAddr_p, WO_load, WO_move, WO_pick, pick_b, bin_gtr, bin_lss, WO_nil, PureK_some, WO_guard, want_v, wantB_f, geT_put, evO_tmp, evO_const, keep_nil, keep_cons, keepK_eq, Nat.reduceEqDiff, ↓reduceIte, Bool.not_true, Bool.not_false, eq_self, Bool.false_eq_true, Nat.zero_add, e1, m3, m4, decide_eq_false h1, decide_eq_false h2, decide_eq_true h3]
            intro fr e1 e45
            exact hR' _ _ ⟨rfl, e1, by rw [e45]; exact congrArg Value.bool (decide_eq_true (.inr (.inr (.inl h3)))).symm⟩
          · simp only [o11_8, WO_bin, WO_fieldAddr, fieldAddr_p, WO_load, WO_move, WO_pick, pick_b, bin_gtr, bin_lss, WO_nil, PureK_some, WO_guard, want_v, wantB_f, geT_put, evO_tmp, evO_const, keep_nil, keep_cons, keepK_eq, Nat.reduceEqDiff, ↓reduceIte, Bool.not_false, eq_self, Bool.false_eq_true, Nat.zero_add, e1, m3, m4, decide_eq_false h1, decide_eq_false h2, decide_eq_false h3]
            intro fr e1 e45
            exact hR' _ _ ⟨rfl, e1, by rw [e45]; exact congrArg Value.bool (decide_eq_decide.2 ⟨fun q => .inr (.inr (.inr q)), fun q => q.elim (fun a => absurd a h1) fun q => q.elim (fun a => absurd a h2) fun q => q.elim (fun a => absurd a h3) id⟩)⟩
    clear e1 e3 e4 e13 fr
    rintro fr _ ⟨rfl, e1, e45⟩
    refine SeqK_n ?_
    refine W_seq (W_if e45 (fun h1 => ?_) (fun h1 => W_skip (SeqK_n ?_)))
    · skip
      refine W_seq (W_ops [2] ?_)
      simp only [o11_9, WO_move, WO_nil, geT_put, evO_const, keep_nil, keep_cons, keepK_eq, ↓reduceIte, eq_self]
      clear e1 e45
      intro fr e2
      refine SeqK_n ?_
      exact W_ret (SeqK_r (ret80 h1 e2))
    · have hw : wrapK .i64 (ev * ro) = ev * ro := by
        have h5 : 0 ≤ ev * ro := Int.mul_nonneg (by omega) (by omega)
        have h6 : ev * ro ≤ 16384 * 256 := Int.mul_le_mul (by omega) (by omega) (by omega) (by omega)
        exact wrap_i64 (by omega) (by omega)
      refine W_assoc ?_
      refine W_seq (W_ops [51] ?_)
      simp only [o11_10, WO_bin, WO_fieldAddr, fieldAddr_p, WO_load, bin_gtr, bin_mul, WO_nil, PureK_some, geT_put, evO_tmp, evO_const, keep_nil, keep_cons, keepK_eq, Nat.reduceEqDiff, ↓reduceIte, eq_self, Nat.zero_add, e1, m3, m4, hw]
      clear e1 e45
      intro fr e51
      refine SeqK_n ?_
      refine W_seq (W_if e51 (fun h2 => ?_) (fun h2 => W_skip (SeqK_n ?_)))
      · refine W_seq (W_ops [2] ?_)
        simp only [o11_11, WO_move, WO_nil, geT_put, evO_const, keep_nil, keep_cons, keepK_eq, ↓reduceIte, eq_self]
        clear e51
        intro fr e2
        refine SeqK_n ?_
        exact W_ret (SeqK_r (Ret1 e2 ⟨by rw [hB, if_neg h1, if_pos h2], hS⟩))
      · skip
        refine W_seq (W_ops [2] ?_)
        simp only [o11_12, WO_move, WO_nil, geT_put, evO_const, keep_nil, keep_cons, keepK_eq, ↓reduceIte, eq_self]
        clear e51
        intro fr e2
        refine SeqK_n ?_
        exact W_ret (Ret1 e2 ⟨by rw [hB, if_neg h1, if_neg h2], hS⟩)

end Go.Proofs.YtcocakiincejaaaGreat
