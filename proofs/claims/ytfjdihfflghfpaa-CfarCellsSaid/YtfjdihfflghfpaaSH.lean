/- Cfar: the program's levels and lines, walked. -/
import Derived.Test.YtfjdihfflghfpaaSG
namespace Go.Proofs.Ytfjdihfflghfpaa
open Go Go.Vam Go.Sort

def lookRC (n : Nat) (way g t nth : Int) : List Value := if lkE n g t nth = 0 then lookC way g t nth else look0C
theorem lookR_is (n : Nat) (way g t nth : Int) : lookR n way g t nth = .agg (lookRC n way g t nth).toArray ∧ (lookRC n way g t nth).length = 4 ∧ (lookRC n way g t nth).all oneCell = true := by
  unfold lookR lookRC
  split <;> exact ⟨rfl, rfl, rfl⟩

/-- What Level tells. -/
def LvR (L : List UInt64) (at_ way g t nth : Int) (x : Nat) (e : Int) : Prop :=
  if lkE L.length g t nth ≠ 0 then x = 0 ∧ e = lkE L.length g t nth
  else if at_ < 0 ∨ (L.length : Int) ≤ at_ then x = 0 ∧ e = 2
  else LV L at_ way g t nth x ∧ e = 0

def finT (t : Nat) : Bool := ford .f64 (fsub .f64 t t) 0 == some .eq
/-- What Line tells. -/
def LnR (L : List UInt64) (way g t nth : Int) (times : Nat) (bs : List Bool) (e : Int) : Prop :=
  if lkE L.length g t nth ≠ 0 then bs = [] ∧ e = lkE L.length g t nth
  else if finT times = false then bs = [] ∧ e = 6
  else e = 0 ∧ bs.length = L.length ∧ ∀ i (hi : i < L.length), ∃ x, LV L (i : Nat) way g t nth x ∧ bs[i]? = some (gtB (L[i]).toNat (fmul .f64 x times))

def blT (bs : List Bool) : List Value := bs.map Value.bool


set_option maxHeartbeats 2000000 in
theorem run12 {X : Ctx} (hX : X.fns = fnsOf Try.prog) (ho : ∀ f args, f ≠ 10 ∧ f ≠ 24 → X.orc f args = none) {s0 s : Mm} {l : List HP} {v : Value} {L : List UInt64} {at_ way g t nth : Int} (H : Hold s0 s l) (a : SlC s 1 v L.length (flT L)) (hw : -128 ≤ way ∧ way ≤ 127) :
    CallP X 12 [v, .int .i64 at_, .int .i8 way, .int .i64 g, .int .i64 t, .int .i64 nth] s (fun r s' => ∃ x e, r = .tuple #[.float .f64 x, .int .i64 e] ∧ LvR L at_ way g t nth x e ∧ Hold s0 s' l) := by
  obtain ⟨hr1, hr2, hr3⟩ := lookR_is L.length way g t nth
  refine CallP_of (hX ▸ ir12_eq) (ho _ _ (by decide)) (Nat.le_of_ble_eq_true rfl) ?_
  refine W_seq (W_ops [0, 1, 2, 3, 4, 5] ?_)
  simp only [o12_0, WO_move, WO_nil, geT_put, frame_nil, frame_cons, evO_const, keep_nil, keep_cons, keepK_eq, Nat.reduceEqDiff, Nat.reduceAdd, ↓reduceIte, eq_self, Nat.zero_add]
  intro fr e0 e1 e2 e3 e4 e5
  refine SeqK_n ?_
  refine W_seq (W_ops [0, 1, 14, 15] ?_)
  simp only [o12_1, WO_call, WO_move, geT_put, evO_tmp, List.map_cons, List.map_nil, Nat.reduceEqDiff, ↓reduceIte, eq_self, e0, e2, e3, e4, e5]
  refine CallK_of (run36 hX ho (Hold.refl s) a hw) ?_
  rintro _ s2 ⟨rfl, G2⟩
  have H2 := H.keep G2.same
  have a2 := a.same G2.same (fun _ _ h => h)
  have H3 := H2.new look0C
  have st : storeV (newAt s2 (.cells look0C false)) 4 (.pointer (some ⟨s2.nxt, 0, none⟩)) (lookR L.length way g t nth) = some (undefV, setBlk (newAt s2 (.cells look0C false)) s2.nxt (.cells (lookRC L.length way g t nth) false)) := by
    rw [hr1]; exact store_all (vs := lookRC L.length way g t nth) (H3.cell (List.mem_cons_self ..)) hr2 rfl hr3
  have H4 := H3.setc (cs' := lookRC L.length way g t nth)
  have hz : newAt s2 (.cells [.nilFunc, .int .i64 0, .int .i64 0, .int .i64 0] false) = newAt s2 (.cells look0C false) := rfl
  have G4 : Same s2 (setBlk (newAt s2 (.cells look0C false)) s2.nxt (.cells (lookRC L.length way g t nth) false)) (fun _ => False) := (((Hold.refl s2).new look0C).setc (cs' := lookRC L.length way g t nth)).same
  simp only [WO_alloc, WO_extract, ext_20, ext_21, WO_move, WO_store, WO_nil, PureK_some, MemK_some, geT_put, puT_none, evO_tmp, keep_nil, keep_cons, keepK_eq, Nat.reduceEqDiff, ↓reduceIte, eq_self, e0, e1, hz, st]
  clear e0 e1 e2 e3 e4 e5
  intro fr e0 e1 e14 e15
  refine SeqK_n ?_
  have a4 := a2.same G4 (fun _ _ h => h)
  clear H3 st hz G4
  generalize setBlk (newAt s2 (.cells look0C false)) s2.nxt (.cells (lookRC L.length way g t nth) false) = s4 at H4 a4 ⊢
  generalize s2.nxt = Bk at H4 e14
  refine W_assoc ?_
  refine W_seq (W_ops [0, 1, 14, 15, 26] ?_)
  simp only [o12_2, WO_bin, WO_move, bin_neq, WO_nil, PureK_some, geT_put, evO_tmp, evO_const, keep_nil, keep_cons, keepK_eq, Nat.reduceEqDiff, ↓reduceIte, eq_self, e0, e1, e14, e15]
  clear e0 e1 e14 e15
  intro fr e0 e1 e14 e15 e26
  refine SeqK_n ?_
  by_cases hE : lkE L.length g t nth = 0
  · rw [hE] at e26
    refine W_seq (W_cond e26 (fun h => absurd h (by decide)) (fun _ => W_skip (SeqK_n ?_)))
    have hC : lookRC L.length way g t nth = lookC way g t nth := by rw [lookRC, if_pos hE]
    rw [hC] at H4
    have lk : loadV s4 (some 4) (.pointer (some ⟨Bk, 0, none⟩)) = some (lookV way g t nth) := loadn_all (H4.cell (List.mem_cons_self ..)) rfl
    have hnb : ¬ badN g t nth ∧ L.length ≤ 16384 := by
      unfold lkE at hE
      split at hE
      · omega
      · rename_i h1
        split at hE
        · omega
        · rename_i h2; exact ⟨h2, by omega⟩
    refine W_assoc ?_
    refine W_seq (W_opsB [0, 1, 14, 35] (fun fr1 s6 => s4 = s6 ∧ geT fr1 0 = v ∧ geT fr1 1 = .int .i64 at_ ∧ geT fr1 14 = .pointer (some ⟨Bk, 0, none⟩) ∧ geT fr1 35 = .bool (decide (at_ < 0 ∨ (L.length : Int) ≤ at_))) ?_ ?_)
    · intro R' hR'
      by_cases h : at_ < 0
      · skip
        simp only [o12_4, WO_bin, WO_move, WO_pick, pick_b, bin_lss, WO_nil, PureK_some, WO_guard, want_v, wantB_f, geT_put, evO_tmp, evO_const, keep_nil, keep_cons, keepK_eq, Nat.reduceEqDiff, ↓reduceIte, Bool.not_true, eq_self, Bool.false_eq_true, e0, e1, e14, decide_eq_true h]
        intro fr e0 e1 e14 e35
        exact hR' _ _ ⟨rfl, e0, e1, e14, by rw [e35]; exact congrArg Value.bool (decide_eq_true (.inl h)).symm⟩
      · skip
        simp only [o12_4, WO_bin, WO_bu, WO_move, WO_pick, pick_b, bin_geq, bin_lss, WO_nil, PureK_some, WO_guard, want_v, wantB_f, geT_put, evO_tmp, evO_const, keep_nil, keep_cons, keepK_eq, List.map_cons, List.map_nil, Nat.reduceEqDiff, ↓reduceIte, Bool.not_false, eq_self, Bool.false_eq_true, e0, e1, e14, decide_eq_false h, a4.len]
        intro fr e0 e1 e14 e35
        exact hR' _ _ ⟨rfl, e0, e1, e14, by rw [e35]; exact congrArg Value.bool (decide_eq_decide.2 ⟨fun q => .inr q, fun q => by omega⟩)⟩
    clear e0 e1 e14 e15 e26 fr
    rintro fr _ ⟨rfl, e0, e1, e14, e35⟩
    refine SeqK_n ?_
    refine W_seq (W_if e35 (fun h => ?_) (fun h => W_skip (SeqK_n ?_)))
    · skip
      refine W_seq (W_ops [12, 13] ?_)
      simp only [o12_5, WO_move, WO_nil, geT_put, evO_const, keep_nil, keep_cons, keepK_eq, Nat.reduceEqDiff, ↓reduceIte, eq_self]
      clear e0 e1 e14 e35
      intro fr e12 e13
      refine SeqK_n ?_
      exact W_ret (SeqK_r (Ret2 e12 e13 ⟨0, 2, rfl, by rw [LvR, if_neg (by rw [hE]; simp), if_pos h]; exact ⟨rfl, rfl⟩, H4.tail⟩))
    · skip
      refine W_seq (W_ops [12, 13] ?_)
      simp only [o12_6, WO_call, WO_load, WO_move, PureK_some, geT_put, evO_tmp, List.map_cons, List.map_nil, Nat.reduceEqDiff, ↓reduceIte, eq_self, e0, e1, e14, lk]
      refine CallK_of (run37 hX ho H4 a4 hnb.2 hnb.1 (by omega)) ?_
      rintro _ s5 ⟨x, rfl, hx, H5⟩
      simp only [WO_move, WO_nil, geT_put, evO_tmp, evO_const, keep_nil, keep_cons, keepK_eq, Nat.reduceEqDiff, ↓reduceIte, eq_self]
      clear e0 e1 e14 e35
      intro fr e12 e13
      refine SeqK_n ?_
      exact W_ret (Ret2 e12 e13 ⟨x, 0, rfl, by rw [LvR, if_neg (by rw [hE]; simp), if_neg h]; exact ⟨hx, rfl⟩, H5.tail⟩)
  · have hd : (!decide (lkE L.length g t nth = 0)) = true := by rw [decide_eq_false hE]; rfl
    rw [hd] at e26
    refine W_seq (W_cond e26 (fun _ => ?_) (fun h => by cases h))
    refine W_seq (W_ops [12, 13] ?_)
    simp only [o12_3, WO_move, WO_nil, geT_put, evO_tmp, evO_const, keep_nil, keep_cons, keepK_eq, Nat.reduceEqDiff, ↓reduceIte, eq_self, e15]
    clear e0 e1 e14 e15 e26
    intro fr e12 e13
    refine SeqK_n ?_
    exact W_ret (SeqK_r (Ret2 e12 e13 ⟨0, _, rfl, by rw [LvR, if_pos hE]; exact ⟨rfl, rfl⟩, H4.tail⟩))

set_option maxHeartbeats 4000000 in
theorem run16 {X : Ctx} (hX : X.fns = fnsOf Try.prog) (ho : ∀ f args, f ≠ 10 ∧ f ≠ 24 → X.orc f args = none) {s0 s : Mm} {l : List HP} {v : Value} {L : List UInt64} {way g t nth : Int} {times : Nat} (H : Hold s0 s l) (a : SlC s 1 v L.length (flT L)) (hw : -128 ≤ way ∧ way ≤ 127) :
    CallP X 16 [v, .int .i8 way, .int .i64 g, .int .i64 t, .int .i64 nth, .float .f64 times] s (fun r s' => ∃ bv bs e, r = .tuple #[bv, .int .i64 e] ∧ LnR L way g t nth times bs e ∧ Hold s0 s' (HP.own 1 bv bs.length (blT bs) :: l)) := by
  obtain ⟨hr1, hr2, hr3⟩ := lookR_is L.length way g t nth
  refine CallP_of (hX ▸ ir16_eq) (ho _ _ (by decide)) (Nat.le_of_ble_eq_true rfl) ?_
  refine W_seq (W_ops [0, 1, 2, 3, 4, 5] ?_)
  simp only [o16_0, WO_move, WO_nil, geT_put, frame_nil, frame_cons, evO_const, keep_nil, keep_cons, keepK_eq, Nat.reduceEqDiff, Nat.reduceAdd, ↓reduceIte, eq_self, Nat.zero_add]
  intro fr e0 e1 e2 e3 e4 e5
  refine SeqK_n ?_
  refine W_seq (W_ops [0, 5, 14, 15] ?_)
  simp only [o16_1, WO_call, WO_move, geT_put, evO_tmp, List.map_cons, List.map_nil, Nat.reduceEqDiff, ↓reduceIte, eq_self, e0, e1, e2, e3, e4]
  refine CallK_of (run36 hX ho (Hold.refl s) a hw) ?_
  rintro _ s2 ⟨rfl, G2⟩
  have H2 := G2
  have a2 := a.same G2.same (fun _ _ h => h)
  have H3 := H2.new look0C
  have st : storeV (newAt s2 (.cells look0C false)) 4 (.pointer (some ⟨s2.nxt, 0, none⟩)) (lookR L.length way g t nth) = some (undefV, setBlk (newAt s2 (.cells look0C false)) s2.nxt (.cells (lookRC L.length way g t nth) false)) := by
    rw [hr1]; exact store_all (vs := lookRC L.length way g t nth) (H3.cell (List.mem_cons_self ..)) hr2 rfl hr3
  have H4 := H3.setc (cs' := lookRC L.length way g t nth)
  have hz : newAt s2 (.cells [.nilFunc, .int .i64 0, .int .i64 0, .int .i64 0] false) = newAt s2 (.cells look0C false) := rfl
  have G4 : Same s2 (setBlk (newAt s2 (.cells look0C false)) s2.nxt (.cells (lookRC L.length way g t nth) false)) (fun _ => False) := (((Hold.refl s2).new look0C).setc (cs' := lookRC L.length way g t nth)).same
  simp only [WO_alloc, WO_extract, ext_20, ext_21, WO_move, WO_store, WO_nil, PureK_some, MemK_some, geT_put, puT_none, evO_tmp, keep_nil, keep_cons, keepK_eq, Nat.reduceEqDiff, ↓reduceIte, eq_self, e0, e5, hz, st]
  clear e0 e1 e2 e3 e4 e5
  intro fr e0 e5 e14 e15
  refine SeqK_n ?_
  have a4 := a2.same G4 (fun _ _ h => h)
  clear H3 st hz G4 G2 H2 a2
  generalize setBlk (newAt s2 (.cells look0C false)) s2.nxt (.cells (lookRC L.length way g t nth) false) = s4 at H4 a4 ⊢
  generalize s2.nxt = Bk at H4 e14
  refine W_assoc ?_
  refine W_seq (W_ops [0, 5, 14, 15, 29] ?_)
  simp only [o16_2, WO_bin, WO_move, bin_neq, WO_nil, PureK_some, geT_put, evO_tmp, evO_const, keep_nil, keep_cons, keepK_eq, Nat.reduceEqDiff, ↓reduceIte, eq_self, e0, e5, e14, e15]
  clear e0 e5 e14 e15
  intro fr e0 e5 e14 e15 e29
  refine SeqK_n ?_
  by_cases hE : lkE L.length g t nth = 0
  · rw [hE] at e29
    refine W_seq (W_cond e29 (fun h => absurd h (by decide)) (fun _ => W_skip (SeqK_n ?_)))
    have hC : lookRC L.length way g t nth = lookC way g t nth := by rw [lookRC, if_pos hE]
    rw [hC] at H4
    have hnb : ¬ badN g t nth ∧ L.length ≤ 16384 := by
      unfold lkE at hE
      split at hE
      · omega
      · rename_i h1
        split at hE
        · omega
        · rename_i h2; exact ⟨h2, by omega⟩
    refine W_assoc ?_
    refine W_seq (W_ops [0, 5, 14, 34] ?_)
    simp only [o16_4, WO_bin, WO_move, binf_neq, binf_sub, WO_nil, PureK_some, geT_put, evO_tmp, evO_const, keep_nil, keep_cons, keepK_eq, Nat.reduceEqDiff, ↓reduceIte, eq_self, e0, e5, e14, binf_neq]
    clear e0 e5 e14 e15 e29
    intro fr e0 e5 e14 e34
    refine SeqK_n ?_
    have hfd : (ford .f64 (fsub .f64 times times) 0 == some .eq) = finT times := rfl
    rw [hfd] at e34
    cases hf : finT times with
    | false =>
      rw [hf] at e34
      refine W_seq (W_cond e34 (fun _ => ?_) (fun h => absurd h (by decide)))
      refine W_seq (W_ops [12, 13] ?_)
      simp only [o16_5, WO_move, WO_nil, geT_put, evO_const, keep_nil, keep_cons, keepK_eq, Nat.reduceEqDiff, ↓reduceIte, eq_self]
      clear e0 e5 e14 e34
      intro fr e12 e13
      refine SeqK_n ?_
      exact W_ret (SeqK_r (Ret2 e12 e13 ⟨_, [], 6, rfl, by rw [LnR, if_neg (by rw [hE]; simp), if_pos hf]; exact ⟨rfl, rfl⟩, (H.app H4.tail).nil 1⟩))
    | true =>
      rw [hf] at e34
      refine W_seq (W_cond e34 (fun h => absurd h (by decide)) (fun _ => W_skip (SeqK_n ?_)))
      have mk := makeSl_eq (s := s4) (bytes := 1) (l := L.length) (c := L.length) (z := [.bool false]) (k := .i64) (k' := .i64) (i := ((L.length : Nat) : Int)) (j := ((L.length : Nat) : Int)) rfl rfl (Nat.le_refl _) (by omega) (by omega)
      have H5 := H4.make (sz := 1) (c := L.length) (n := L.length) (z := [.bool false]) rfl (Nat.le_refl _) (by unfold OPEN; omega)
      have G5 : Same s4 (newAt s4 (.cells (repZ [.bool false] L.length) false)) (fun _ => False) := Same.new
      refine W_seq (W_ops [0, 5, 14, 16] ?_)
      simp only [o16_6, WO_bu, WO_makeSlice, WO_move, WO_nil, PureK_some, NewK_some, geT_put, evO_tmp, keep_nil, keep_cons, keepK_eq, List.map_cons, List.map_nil, Nat.reduceEqDiff, ↓reduceIte, eq_self, e0, e5, e14, a4.len, mk]
      clear e0 e5 e14 e34
      intro fr e0 e5 e14 e16
      refine SeqK_n ?_
      obtain ⟨bv, hbv⟩ : ∃ b, b = (Value.slice (some ⟨s4.nxt, 0, none⟩) L.length L.length) := ⟨_, rfl⟩
      rw [← hbv] at H5 e16
      rw [repZ_1] at H5
      have hre : List.replicate L.length (Value.bool false) = blT (List.replicate L.length false) := by simp [blT]
      rw [hre] at H5
      rw [repZ_1, hre]
      generalize newAt s4 (.cells (blT (List.replicate L.length false)) false) = s5 at H5 ⊢
      clear hbv mk H4 G5 hre a4
      have a5 := a.same H5.same (fun _ _ h => h)
      refine W_assoc ?_
      refine W_seq (W_ops [0, 5, 14, 16, 38, 39, 40] ?_)
      simp only [o16_7, WO_bu, WO_move, WO_nil, PureK_some, geT_put, evO_tmp, evO_const, keep_nil, keep_cons, keepK_eq, List.map_cons, List.map_nil, Nat.reduceEqDiff, ↓reduceIte, eq_self, e0, e5, e14, e16, a5.len]
      clear e0 e5 e14 e16
      intro fr e0 e5 e14 e16 e38 e39 e40
      refine SeqK_n ?_
      refine W_seq (W_block (W_loop (fun m fr s1 => ∃ (i : Nat) (bs : List Bool), i + m = L.length ∧ bs.length = L.length ∧ (∀ j, j < i → ∀ hj : j < L.length, ∃ x, LV L (j : Nat) way g t nth x ∧ bs[j]? = some (gtB (L[j]).toNat (fmul .f64 x times))) ∧
        geT fr 0 = v ∧ geT fr 5 = .float .f64 times ∧ geT fr 14 = .pointer (some ⟨Bk, 0, none⟩) ∧ geT fr 16 = bv ∧ geT fr 38 = v ∧ geT fr 39 = .int .i64 (L.length : Nat) ∧ geT fr 40 = .int .i64 (i : Nat) ∧
        Hold s s1 [HP.own 1 bv L.length (blT bs), HP.cell Bk (lookC way g t nth)]) L.length ⟨0, _, by omega, by simp, fun j hj => by omega, e0, e5, e14, e16, e38, e39, e40, H5⟩ ?_))
      clear e0 e5 e14 e16 e38 e39 e40 fr H5 a5 s5 s4
      rintro m fr s1 ⟨i, bs, hi, hbl, hok, e0, e5, e14, e16, e38, e39, e40, H1⟩
      have a1 := a.same H1.same (fun _ _ h => h)
      refine W_seq (W_ops [0, 5, 14, 16, 38, 39, 40, 41] ?_)
      simp only [o16_9, WO_bin, bin_lss, WO_nil, PureK_some, geT_put, evO_tmp, keep_nil, keep_cons, keepK_eq, Nat.reduceEqDiff, ↓reduceIte, eq_self, e0, e5, e14, e16, e38, e39, e40]
      clear e0 e5 e14 e16 e38 e39 e40
      intro fr e0 e5 e14 e16 e38 e39 e40 e41
      refine SeqK_n ?_
      refine W_while e41 (fun hlt => ?_) (fun hlt => ?_)
      · have hiL : i < L.length := by omega
        have A1 := a1.addr (kk := .i64) (i := (i : Int)) rfl hiL
        rw [Nat.mul_one] at A1
        have L1 : loadV s1 none (elP v i) = some (.float .f64 (L[i]).toNat) := a1.load (flT_get hiL)
        have lk : loadV s1 (some 4) (.pointer (some ⟨Bk, 0, none⟩)) = some (lookV way g t nth) := loadn_all (H1.up1.cell (List.mem_cons_self ..)) rfl
        refine W_seq (W_block ?_)
        refine W_seq (W_ops [0, 5, 14, 16, 17, 18, 38, 39, 40] ?_)
        simp only [o16_10, WO_addrSl, WO_load, WO_move, WO_nil, PureK_some, geT_put, evO_tmp, keep_nil, keep_cons, keepK_eq, Nat.reduceEqDiff, ↓reduceIte, eq_self, e0, e5, e14, e16, e38, e39, e40, A1, L1]
        clear e0 e5 e14 e16 e38 e39 e40 e41
        intro fr e0 e5 e14 e16 e17 e18 e38 e39 e40
        refine SeqK_n ?_
        refine W_ops [0, 5, 14, 16, 38, 39, 40] ?_
        simp only [o16_11, WO_call, WO_load, WO_move, PureK_some, geT_put, evO_tmp, List.map_cons, List.map_nil, Nat.reduceEqDiff, ↓reduceIte, eq_self, e0, e14, e16, e17, e18, lk]
        refine CallK_of (run37 hX ho H1 a1 hnb.2 hnb.1 (show 0 ≤ ((i : Nat) : Int) ∧ ((i : Nat) : Int) < (L.length : Int) by omega)) ?_
        rintro _ s2 ⟨x, rfl, hx, H2⟩
        have sb := (H2.own (List.mem_cons_self ..)).slc
        have A2 := sb.addr (kk := .i64) (i := (i : Int)) rfl hiL
        rw [Nat.mul_one] at A2
        obtain ⟨s3, st3, H3⟩ := H2.store (k := i) (x := .bool (gtB (L[i]).toNat (fmul .f64 x times))) (by simp [blT, hbl, hiL]) rfl
        have hset : (blT bs).set i (.bool (gtB (L[i]).toNat (fmul .f64 x times))) = blT (bs.set i (gtB (L[i]).toNat (fmul .f64 x times))) := by unfold blT; rw [List.map_set]
        rw [hset] at H3
        have hgt : (ford .f64 (L[i]).toNat (fmul .f64 x times) == some .gt) = gtB (L[i]).toNat (fmul .f64 x times) := rfl
        simp only [WO_addrSl, WO_bin, WO_move, WO_store, binf_gtr, binf_mul, WO_nil, PureK_some, MemK_some, geT_put, puT_none, evO_tmp, keep_nil, keep_cons, keepK_eq, Nat.reduceEqDiff, ↓reduceIte, eq_self, e0, e5, e14, e16, e38, e39, e40, hgt, A2, st3]
        clear e0 e5 e14 e16 e17 e18 e38 e39 e40
        intro fr e0 e5 e14 e16 e38 e39 e40
        refine BlkK_n (SeqK_n ?_)
        refine W_ops [0, 5, 14, 16, 38, 39, 40] ?_
        simp only [o16_12, WO_bin, WO_move, bin_add, WO_nil, PureK_some, geT_put, evO_tmp, evO_const, keep_nil, keep_cons, keepK_eq, Nat.reduceEqDiff, ↓reduceIte, eq_self, e0, e5, e14, e16, e38, e39, e40, wrap_i64 (n := (i : Int) + 1) (by omega) (by omega)]
        clear e0 e5 e14 e16 e38 e39 e40
        intro fr e0 e5 e14 e16 e38 e39 e40
        refine LoopK_n (m' := m - 1) (by omega) ⟨i + 1, _, by omega, by rw [List.length_set]; exact hbl, fun j hj hjL => ?_, e0, e5, e14, e16, e38, e39, by rw [e40]; rfl, H3⟩
        by_cases hji : j = i
        · subst hji
          exact ⟨x, hx, by rw [List.getElem?_set_self (by omega)]⟩
        · obtain ⟨y, hy1, hy2⟩ := hok j (by omega) hjL
          exact ⟨y, hy1, by rw [List.getElem?_set_ne (fun h => hji h.symm)]; exact hy2⟩
      · have hiL : i = L.length := by omega
        subst hiL
        refine LoopK_x (BlkK_e (SeqK_n ?_))
        refine W_seq (W_ops [12, 13] ?_)
        simp only [o16_13, WO_move, WO_nil, geT_put, evO_tmp, evO_const, keep_nil, keep_cons, keepK_eq, Nat.reduceEqDiff, ↓reduceIte, eq_self, e16]
        clear e16 e41
        intro fr e12 e13
        refine SeqK_n ?_
        have HF := H.app H1.up1.tail
        simp only [List.cons_append, List.nil_append] at HF
        refine W_ret (Ret2 e12 e13 ⟨bv, bs, 0, rfl, ?_, by rw [hbl]; exact HF⟩)
        rw [LnR, if_neg (by rw [hE]; simp), if_neg (by rw [hf]; simp)]
        exact ⟨rfl, hbl, fun j hj => hok j hj hj⟩
  · have hd : (!decide (lkE L.length g t nth = 0)) = true := by rw [decide_eq_false hE]; rfl
    rw [hd] at e29
    refine W_seq (W_cond e29 (fun _ => ?_) (fun h => by cases h))
    refine W_seq (W_ops [12, 13] ?_)
    simp only [o16_3, WO_move, WO_nil, geT_put, evO_tmp, evO_const, keep_nil, keep_cons, keepK_eq, Nat.reduceEqDiff, ↓reduceIte, eq_self, e15]
    clear e0 e5 e14 e15 e29
    intro fr e12 e13
    refine SeqK_n ?_
    exact W_ret (SeqK_r (Ret2 e12 e13 ⟨_, [], _, rfl, by rw [LnR, if_pos hE]; exact ⟨rfl, rfl⟩, (H.app H4.tail).nil 1⟩))

end Go.Proofs.Ytfjdihfflghfpaa
