/- Cfar: the program's levels and lines, walked. -/
import Derived.Test.YtfjdihfflghfpaaSG
namespace Go.Proofs.Ytfjdihfflghfpaa
open Go Go.Vam Go.Sort

def lookRC (n : Nat) (way g t nth : Int) : List Value := if lkE n g t nth = 0 then lookC way g t nth else look0C
theorem lookR_is (n : Nat) (way g t nth : Int) : lookR n way g t nth = .agg (lookRC n way g t nth).toArray ∧ (lookRC n way g t nth).length = 4 ∧ (lookRC n way g t nth).all oneCell = true := by
  unfold lookR lookRC
  split <;> exact ⟨rfl, rfl, rfl⟩

/-- What Level tells. -/
def LvR (L : List UInt64) (at_ way g t nth : Int) (x : Nat) (e : Int) : Prop :=
  if lkE L.length g t nth ≠ 0 then x = 0 ∧ e = lkE L.length g t nth
  else if at_ < 0 ∨ (L.length : Int) ≤ at_ then x = 0 ∧ e = 2
  else LV L at_ way g t nth x ∧ e = 0

def finT (t : Nat) : Bool := ford .f64 (fsub .f64 t t) 0 == some .eq
/-- What Line tells. -/
def LnR (L : List UInt64) (way g t nth : Int) (times : Nat) (bs : List Bool) (e : Int) : Prop :=
  if lkE L.length g t nth ≠ 0 then bs = [] ∧ e = lkE L.length g t nth
  else if finT times = false then bs = [] ∧ e = 6
  else e = 0 ∧ bs.length = L.length ∧ ∀ i (hi : i < L.length), ∃ x, LV L (i : Nat) way g t nth x ∧ bs[i]? = some (gtB (L[i]).toNat (fmul .f64 x times))

def blT (bs : List Bool) : List Value := bs.map Value.bool


set_option maxHeartbeats 2000000 in
theorem run12 {X : Ctx} (hX : X.fns = fnsOf Try.prog) (ho : ∀ f args, f ≠ 10 ∧ f ≠ 24 → X.orc f args = none) {s0 s : Mm} {l : List HP} {v : Value} {L : List UInt64} {at_ way g t nth : Int} (H : Hold s0 s l) (a : SlC s 1 v L.length (flT L)) (hw : -128 ≤ way ∧ way ≤ 127) :
    CallP X 12 [v, .int .i64 at_, .int .i8 way, .int .i64 g, .int .i64 t, .int .i64 nth] s (fun r s' => ∃ x e, r = .tuple #[.float .f64 x, .int .i64 e] ∧ LvR L at_ way g t nth x e ∧ Hold s0 s' l) := by
  obtain ⟨hr1, hr2, hr3⟩ := lookR_is L.length way g t nth
  refine CallP_of (hX ▸ ir12_eq) (ho _ _ (by decide)) (Nat.le_of_ble_eq_true rfl) ?_
  refine W_seq (W_ops [0, 1, 2, 3, 4, 5] ?_)
  simp only [o12_0, WO_move, WO_nil, geT_put, frame_nil, frame_cons, evO_const, keep_nil, keep_cons, keepK_eq, Nat.reduceEqDiff, Nat.reduceAdd, ↓reduceIte, eq_self, Nat.zero_add]
  intro fr e0 e1 e2 e3 e4 e5
  refine SeqK_n ?_
  refine W_seq (W_ops [0, 1, 14, 15] ?_)
  simp only [o12_1, WO_call, WO_move, geT_put, evO_tmp, List.map_cons, List.map_nil, Nat.reduceEqDiff, ↓reduceIte, eq_self, e0, e2, e3, e4, e5]
  refine CallK_of (run36 hX ho (Hold.refl s) a hw) ?_
  rintro _ s2 ⟨rfl, G2⟩
  have H2 := H.keep G2.same
  have a2 := a.same G2.same (fun _ _ h => h)
  have H3 := H2.new look0C
  have st : storeV (newAt s2 (.cells look0C false)) 4 (.pointer (some ⟨s2.nxt, 0, none⟩)) (lookR L.length way g t nth) = some (undefV, setBlk (newAt s2 (.cells look0C false)) s2.nxt (.cells (lookRC L.length way g t nth) false)) := by
    rw [hr1]; exact store_all (vs := lookRC L.length way g t nth) (H3.cell (List.mem_cons_self ..)) hr2 rfl hr3
  have H4 := H3.setc (cs' := lookRC L.length way g t nth)
  have hz : newAt s2 (.cells [.nilFunc, .int .i64 0, .int .i64 0, .int .i64 0] false) = newAt s2 (.cells look0C false) := rfl
  have G4 : Same s2 (setBlk (newAt s2 (.cells look0C false)) s2.nxt (.cells (lookRC L.length way g t nth) false)) (fun _ => False) := (((Hold.refl s2).new look0C).setc (cs' := lookRC L.length way g t nth)).same
  simp only [WO_alloc, WO_extract, ext_20, ext_21, WO_move, WO_store, WO_nil, PureK_some, MemK_some, geT_put, puT_none, evO_tmp, keep_nil, keep_cons, keepK_eq, Nat.reduceEqDiff, ↓reduceIte, eq_self, e0, e1, hz, st]
  clear e0 e1 e2 e3 e4 e5
  intro fr e0 e1 e14 e15
  refine SeqK_n ?_
  have a4 := a2.same G4 (fun _ _ h => h)
  clear H3 st hz G4
  generalize setBlk (newAt s2 (.cells look0C false)) s2.nxt (.cells (lookRC L.length way g t nth) false) = s4 at H4 a4 ⊢
  generalize s2.nxt = Bk at H4 e14
  refine W_assoc ?_
  refine W_seq (W_ops [0, 1, 14, 15, 26] ?_)
  simp only [o12_2, WO_bin, WO_move, bin_neq, WO_nil, PureK_some, geT_put, evO_tmp, evO_const, keep_nil, keep_cons, keepK_eq, Nat.reduceEqDiff, ↓reduceIte, eq_self, e0, e1, e14, e15]
  clear e0 e1 e14 e15
  intro fr e0 e1 e14 e15 e26
  refine SeqK_n ?_
  by_cases hE : lkE L.length g t nth = 0
  · rw [hE] at e26
    refine W_seq (W_cond e26 (fun h => absurd h (by decide)) (fun _ => W_skip (SeqK_n ?_)))
    have hC : lookRC L.length way g t nth = lookC way g t nth := by rw [lookRC, if_pos hE]
    rw [hC] at H4
    have lk : loadV s4 (some 4) (.pointer (some ⟨Bk, 0, none⟩)) = some (lookV way g t nth) := loadn_all (H4.cell (List.mem_cons_self ..)) rfl
    have hnb : ¬ badN g t nth ∧ L.length ≤ 16384 := by
      unfold lkE at hE
      split at hE
      · omega
      · rename_i h1
        split at hE
        · omega
        · rename_i h2; exact ⟨h2, by omega⟩
    refine W_assoc ?_
    refine W_seq (W_opsB [0, 1, 14, 35] (fun fr1 s6 => s4 = s6 ∧ geT fr1 0 = v ∧ geT fr1 1 = .int .i64 at_ ∧ geT fr1 14 = .pointer (some ⟨Bk, 0, none⟩) ∧ geT fr1 35 = .bool (decide (at_ < 0 ∨ (L.length : Int) ≤ at_))) ?_ ?_)
    · intro R' hR'
      by_cases h : at_ < 0
      · skip
        simp only [o12_4, WO_bin, WO_move, WO_pick, pick_b, bin_lss, WO_nil, PureK_some, WO_guard, want_v, wantB_f, geT_put, evO_tmp, evO_const, keep_nil, keep_cons, keepK_eq, Nat.reduceEqDiff, ↓reduceIte, Bool.not_true, eq_self, Bool.false_eq_true, e0, e1, e14, decide_eq_true h]
        intro fr e0 e1 e14 e35
        exact hR' _ _ ⟨rfl, e0, e1, e14, by rw [e35]; exact congrArg Value.bool (decide_eq_true (.inl h)).symm⟩
      · skip
        simp only [o12_4, WO_bin, WO_bu, WO_move, WO_pick, pick_b, bin_geq, bin_lss, WO_nil, PureK_some, WO_guard, want_v, wantB_f, geT_put, evO_tmp, evO_const, keep_nil, keep_cons, keepK_eq, List.map_cons, List.map_nil, Nat.reduceEqDiff, ↓reduceIte, Bool.not_false, eq_self, Bool.false_eq_true, e0, e1, e14, decide_eq_false h, a4.len]
        intro fr e0 e1 e14 e35
        exact hR' _ _ ⟨rfl, e0, e1, e14, by rw [e35]; exact congrArg Value.bool (decide_eq_decide.2 ⟨fun q => .inr q, fun q => by omega⟩)⟩
    clear e0 e1 e14 e15 e26 fr
    rintro fr _ ⟨rfl, e0, e1, e14, e35⟩
    refine SeqK_n ?_
    refine W_seq (W_if e35 (fun h => ?_) (fun h => W_skip (SeqK_n ?_)))
    · skip
      refine W_seq (W_ops [12, 13] ?_)
      simp only [o12_5, WO_move, WO_nil, geT_put, evO_const, keep_nil, keep_cons, keepK_eq, Nat.reduceEqDiff, ↓reduceIte, eq_self]
      clear e0 e1 e14 e35
      intro fr e12 e13
      refine SeqK_n ?_
      exact W_ret (SeqK_r (Ret2 e12 e13 ⟨0, 2, rfl, by rw [LvR, if_neg (by rw [hE]; simp), if_pos h]; exact ⟨rfl, rfl⟩, H4.tail⟩))
    · skip
      refine W_seq (W_ops [12, 13] ?_)
      simp only [o12_6, WO_call, WO_load, WO_move, PureK_some, geT_put, evO_tmp, List.map_cons, List.map_nil, Nat.reduceEqDiff, ↓reduceIte, eq_self, e0, e1, e14, lk]
      refine CallK_of (run37 hX ho H4 a4 hnb.2 hnb.1 (by omega)) ?_
      rintro _ s5 ⟨x, rfl, hx, H5⟩
      simp only [WO_move, WO_nil, geT_put, evO_tmp, evO_const, keep_nil, keep_cons, keepK_eq, Nat.reduceEqDiff, ↓reduceIte, eq_self]
      clear e0 e1 e14 e35
      intro fr e12 e13
      refine SeqK_n ?_
      exact W_ret (Ret2 e12 e13 ⟨x, 0, rfl, by rw [LvR, if_neg (by rw [hE]; simp), if_neg h]; exact ⟨hx, rfl⟩, H5.tail⟩)
  · have hd : (!decide (lkE L.length g t nth = 0)) = true := by rw [decide_eq_false hE]; rfl
    rw [hd] at e26
    refine W_seq (W_cond e26 (fun _ => ?_) (fun h => by cases h))
    refine W_seq (W_ops [12, 13] ?_)
    simp only [o12_3, WO_move, WO_nil, geT_put, evO_tmp, evO_const, keep_nil, keep_cons, keepK_eq, Nat.reduceEqDiff, ↓reduceIte, eq_self, e15]
    clear e0 e1 e14 e15 e26
    intro fr e12 e13
    refine SeqK_n ?_
    exact W_ret (SeqK_r (Ret2 e12 e13 ⟨0, _, rfl, by rw [LvR, if_pos hE]; exact ⟨rfl, rfl⟩, H4.tail⟩))

set_option maxHeartbeats 4000000 in
theorem run16 {X : Ctx} (hX : X.fns = fnsOf Try.prog) (ho : ∀ f args, f ≠ 10 ∧ f ≠ 24 → X.orc f args = none) {s0 s : Mm} {l : List HP} {v : Value} {L : List UInt64} {way g t nth : Int} {times : Nat} (H : Hold s0 s l) (a : SlC s 1 v L.length (flT L)) (hw : -128 ≤ way ∧ way ≤ 127) :
    CallP X 16 [v, .int .i8 way, .int .i64 g, .int .i64 t, .int .i64 nth, .float .f64 times] s (fun r s' => ∃ bv bs e, r = .tuple #[bv, .int .i64 e] ∧ LnR L way g t nth times bs e ∧ Hold s0 s' (HP.own 1 bv bs.length (blT bs) :: l)) := by
  obtain ⟨hr1, hr2, hr3⟩ := lookR_is L.length way g t nth
  refine CallP_of (hX ▸ ir16_eq) (ho _ _ (by decide)) (Nat.le_of_ble_eq_true rfl) ?_
  refine W_seq (W_ops [0, 1, 2, 3, 4, 5] ?_)
  simp only [o16_0, WO_move, WO_nil, geT_put, frame_nil, frame_cons, evO_const, keep_nil, keep_cons, keepK_eq, Nat.reduceEqDiff, Nat.reduceAdd, ↓reduceIte, eq_self, Nat.zero_add]
  intro fr e0 e1 e2 e3 e4 e5
  refine SeqK_n ?_
  refine W_seq (W_ops [0, 5, 14, 15] ?_)
  simp only [o16_1, WO_call, WO_move, geT_put, evO_tmp, List.map_cons, List.map_nil, Nat.reduceEqDiff, ↓reduceIte, eq_self, e0, e1, e2, e3, e4]
  refine CallK_of (run36 hX ho (Hold.refl s) a hw) ?_
  rintro _ s2 ⟨rfl, G2⟩
  have H2 := G2
  have a2 := a.same G2.same (fun _ _ h => h)
  have H3 := H2.new look0C
  have st : storeV (newAt s2 (.cells look0C false)) 4 (.pointer (some ⟨s2.nxt, 0, none⟩)) (lookR L.length way g t nth) = some (undefV, setBlk (newAt s2 (.cells look0C false)) s2.nxt (.cells (lookRC L.length way g t nth) false)) := by
    rw [hr1]; exact store_all (vs := lookRC L.length way g t nth) (H3.cell (List.mem_cons_self ..)) hr2 rfl hr3
  have H4 := H3.setc (cs' := lookRC L.length way g t nth)
  have hz : newAt s2 (.cells [.nilFunc, .int .i64 0, .int .i64 0, .int .i64 0] false) = newAt s2 (.cells look0C false) := rfl
  have G4 : Same s2 (setBlk (newAt s2 (.cells look0C false)) s2.nxt (.cells (lookRC L.length way g t nth) false)) (fun _ => False) := (((Hold.refl s2).new look0C).setc (cs' := lookRC L.length way g t nth)).same
  simp only [WO_alloc, WO_extract, ext_20, ext_21, WO_move, WO_store, WO_nil, PureK_some, MemK_some, geT_put, puT_none, evO_tmp, keep_nil, keep_cons, keepK_eq, Nat.reduceEqDiff, ↓reduceIte, eq_self, e0, e5, hz, st]
  clear e0 e1 e2 e3 e4 e5
  intro fr e0 e5 e14 e15
  refine SeqK_n ?_
  have a4 := a2.same G4 (fun _ _ h => h)
  clear H3 st hz G4 G2 H2 a2
  generalize setBlk (newAt s2 (.cells look0C false)) s2.nxt (.cells (lookRC L.length way g t nth) false) = s4 at H4 a4 ⊢
  generalize s2.nxt = Bk at H4 e14
  refine W_assoc ?_
  refine W_seq (W_ops [0, 5, 14, 15, 29] ?_)
  simp only [o16_2, WO_bin, WO_move, bin_neq, WO_nil, PureK_some, geT_put, evO_tmp, evO_const, keep_nil, keep_cons, keepK_eq, Nat.reduceEqDiff, ↓reduceIte, eq_self, e0, e5, e14, e15]
  clear e0 e5 e14 e15
  intro fr e0 e5 e14 e15 e29
  refine SeqK_n ?_
  by_cases hE : lkE L.length g t nth = 0
  · rw [hE] at e29
    refine W_seq (W_cond e29 (fun h => absurd h (by decide)) (fun _ => W_skip (SeqK_n ?_)))
    have hC : lookRC L.length way g t nth = lookC way g t nth := by rw [lookRC, if_pos hE]
    rw [hC] at H4
    have hnb : ¬ badN g t nth ∧ L.length ≤ 16384 := by
      unfold lkE at hE
      split at hE
      · omega
      · rename_i h1
        split at hE
        · omega
        · rename_i h2; exact ⟨h2, by omega⟩
    refine W_assoc ?_
    refine W_seq (W_ops [0, 5, 14, 34] ?_)
    simp only [o16_4, WO_bin, WO_move, binf_neq, binf_sub, WO_nil, PureK_some, geT_put, evO_tmp, evO_const, keep_nil, keep_cons, keepK_eq, Nat.reduceEqDiff, ↓reduceIte, eq_self, e0, e5, e14, binf_neq]
    clear e0 e5 e14 e15 e29
    intro fr e0 e5 e14 e34
    refine SeqK_n ?_
    have hfd : (ford .f64 (fsub .f64 times times) 0 == some .eq) = finT times := rfl
    rw [hfd] at e34
    cases hf : finT times with
    | false =>
      rw [hf] at e34
      refine W_seq (W_cond e34 (fun _ => ?_) (fun h => absurd h (by decide)))
      refine W_seq (W_ops [12, 13] ?_)
      simp only [o16_5, WO_move, WO_nil, geT_put, evO_const, keep_nil, keep_cons, keepK_eq, Nat.reduceEqDiff, ↓reduceIte, eq_self]
      clear e0 e5 e14 e34
      intro fr e12 e13
      refine SeqK_n ?_
      exact W_ret (SeqK_r (Ret2 e12 e13 ⟨_, [], 6, rfl, by rw [LnR, if_neg (by rw [hE]; simp), if_pos hf]; exact ⟨rfl, rfl⟩, (H.app H4.tail).nil 1⟩))
    | true =>
      rw [hf] at e34
      refine W_seq (W_cond e34 (fun h => absurd h (by decide)) (fun _ => W_skip (SeqK_n ?_)))
      have mk := makeSl_eq (s := s4) (bytes := 1) (l := L.length) (c := L.length) (z := [.bool false]) (k := .i64) (k' := .i64) (i := ((L.length : Nat) : Int)) (j := ((L.length : Nat) : Int)) rfl rfl (Nat.le_refl _) (by omega) (by omega)
      have H5 := H4.make (sz := 1) (c := L.length) (n := L.length) (z := [.bool false]) rfl (Nat.le_refl _) (by unfold OPEN; omega)
      have G5 : Same s4 (newAt s4 (.cells (repZ [.bool false] L.length) false)) (fun _ => False) := Same.new
      refine W_seq (W_ops [0, 5, 14, 16] ?_)
      simp only [o16_6, WO_bu, WO_makeSlice, WO_move, WO_nil, PureK_some, NewK_some, geT_put, evO_tmp, keep_nil, keep_cons, keepK_eq, List.map_cons, List.map_nil, Nat.reduceEqDiff, ↓reduceIte, eq_self, e0, e5, e14, a4.len, mk]
      clear e0 e5 e14 e34
      intro fr e0 e5 e14 e16
      refine SeqK_n ?_
      obtain ⟨bv, hbv⟩ : ∃ b, b = (Value.slice (some ⟨s4.nxt, 0, none⟩) L.length L.length) := ⟨_, rfl⟩
      rw [← hbv] at H5 e16
      rw [repZ_1] at H5
      have hre : List.replicate L.length (Value.bool false) = blT (List.replicate L.length false) := by simp [blT]
      rw [hre] at H5
      rw [repZ_1, hre]
      generalize newAt s4 (.cells (blT (List.replicate L.length false)) false) = s5 at H5 ⊢
      clear hbv mk H4 G5 hre a4
      have a5 := a.same H5.same (fun _ _ h => h)
      refine W_assoc ?_
      refine W_seq (W_ops [0, 5, 14, 16, 38, 39, 40] ?_)
      simp only [o16_7, WO_bu, WO_move, WO_nil, PureK_some, geT_put, evO_tmp, evO_const, keep_nil, keep_cons, keepK_eq, List.map_cons, List.map_nil, Nat.reduceEqDiff, ↓reduceIte, eq_self, e0, e5, e14, e16, a5.len]
      clear e0 e5 e14 e16
      intro fr e0 e5 e14 e16 e38 e39 e40
      refine SeqK_n ?_
      refine W_seq (W_block (W_loop (fun m fr s1 => ∃ (i : Nat) (bs : List Bool), i + m = L.length ∧ bs.length = L.length ∧ (∀ j, j < i → ∀ hj : j < L.length, ∃ x, LV L (j : Nat) way g t nth x ∧ bs[j]? = some (gtB (L[j]).toNat (fmul .f64 x times))) ∧
        geT fr 0 = v ∧ geT fr 5 = .float .f64 times ∧ geT fr 14 = .pointer (some ⟨Bk, 0, none⟩) ∧ geT fr 16 = bv ∧ geT fr 38 = v ∧ geT fr 39 = .int .i64 (L.length : Nat) ∧ geT fr 40 = .int .i64 (i : Nat) ∧
        Hold s s1 [HP.own 1 bv L.length (blT bs), HP.cell Bk (lookC way g t nth)]) L.length ⟨0, _, by omega, by simp, fun j hj => by omega, e0, e5, e14, e16, e38, e39, e40, H5⟩ ?_))
      clear e0 e5 e14 e16 e38 e39 e40 fr H5 a5 s5 s4
      rintro m fr s1 ⟨i, bs, hi, hbl, hok, e0, e5, e14, e16, e38, e39, e40, H1⟩
      have a1 := a.same H1.same (fun _ _ h => h)
      refine W_seq (W_ops [0, 5, 14, 16, 38, 39, 40, 41] ?_)
      simp only [o16_9, WO_bin, bin_lss, WO_nil, PureK_some, geT_put, evO_tmp, keep_nil, keep_cons, keepK_eq, Nat.reduceEqDiff, ↓reduceIte, eq_self, e0, e5, e14, e16, e38, e39, e40]
      clear e0 e5 e14 e16 e38 e39 e40
      intro fr e0 e5 e14 e16 e38 e39 e40 e41
      refine SeqK_n ?_
      refine W_while e41 (fun hlt => ?_) (fun hlt => ?_)
      · have hiL : i < L.length := by omega
        have A1 := a1.addr (kk := .i64) (i := (i : Int)) rfl hiL
        rw [Nat.mul_one] at A1
        have L1 : loadV s1 none (elP v i) = some (.float .f64 (L[i]).toNat) := a1.load (flT_get hiL)
        have lk : loadV s1 (some 4) (.pointer (some ⟨Bk, 0, none⟩)) = some (lookV way g t nth) := loadn_all (H1.up1.cell (List.mem_cons_self ..)) rfl
        refine W_seq (W_block ?_)
        refine W_seq (W_ops [0, 5, 14, 16, 17, 18, 38, 39, 40] ?_)
        simp only [o16_10, WO_addrSl, WO_load, WO_move, WO_nil, PureK_some, geT_put, evO_tmp, keep_nil, keep_cons, keepK_eq, Nat.reduceEqDiff, ↓reduceIte, eq_self, e0, e5, e14, e16, e38, e39, e40, A1, L1]
        clear e0 e5 e14 e16 e38 e39 e40 e41
        intro fr e0 e5 e14 e16 e17 e18 e38 e39 e40
        refine SeqK_n ?_
        refine W_ops [0, 5, 14, 16, 38, 39, 40] ?_
        simp only [o16_11, WO_call, WO_load, WO_move, PureK_some, geT_put, evO_tmp, List.map_cons, List.map_nil, Nat.reduceEqDiff, ↓reduceIte, eq_self, e0, e14, e16, e17, e18, lk]
        refine CallK_of (run37 hX ho H1 a1 hnb.2 hnb.1 (show 0 ≤ ((i : Nat) : Int) ∧ ((i : Nat) : Int) < (L.length : Int) by omega)) ?_
        rintro _ s2 ⟨x, rfl, hx, H2⟩
        have sb := (H2.own (List.mem_cons_self ..)).slc
        have A2 := sb.addr (kk := .i64) (i := (i : Int)) rfl hiL
        rw [Nat.mul_one] at A2
        obtain ⟨s3, st3, H3⟩ := H2.store (k := i) (x := .bool (gtB (L[i]).toNat (fmul .f64 x times))) (by simp [blT, hbl, hiL]) rfl
        have hset : (blT bs).set i (.bool (gtB (L[i]).toNat (fmul .f64 x times))) = blT (bs.set i (gtB (L[i]).toNat (fmul .f64 x times))) := by unfold blT; rw [List.map_set]
        rw [hset] at H3
        have hgt : (ford .f64 (L[i]).toNat (fmul .f64 x times) == some .gt) = gtB (L[i]).toNat (fmul .f64 x times) := rfl
        simp only [WO_addrSl, WO_bin, WO_move, WO_store, binf_gtr, binf_mul, WO_nil, PureK_some, MemK_some, geT_put, puT_none, evO_tmp, keep_nil, keep_cons, keepK_eq, Nat.reduceEqDiff, ↓reduceIte, eq_self, e0, e5, e14, e16, e38, e39, e40, hgt, A2, st3]
        clear e0 e5 e14 e16 e17 e18 e38 e39 e40
        intro fr e0 e5 e14 e16 e38 e39 e40
        refine BlkK_n (SeqK_n ?_)
        refine W_ops [0, 5, 14, 16, 38, 39, 40] ?_
        simp only [o16_12, WO_bin, WO_move, bin_add, WO_nil, PureK_some, geT_put, evO_tmp, evO_const, keep_nil, keep_cons, keepK_eq, Nat.reduceEqDiff, ↓reduceIte, eq_self, e0, e5, e14, e16, e38, e39, e40, wrap_i64 (n := (i : Int) + 1) (by omega) (by omega)]
        clear e0 e5 e14 e16 e38 e39 e40
        intro fr e0 e5 e14 e16 e38 e39 e40
        refine LoopK_n (m' := m - 1) (by omega) ⟨i + 1, _, by omega, by rw [List.length_set]; exact hbl, fun j hj hjL => ?_, e0, e5, e14, e16, e38, e39, by rw [e40]; rfl, H3⟩
        by_cases hji : j = i
        · subst hji
          exact ⟨x, hx, by rw [List.getElem?_set_self (by omega)]⟩
        · obtain ⟨y, hy1, hy2⟩ := hok j (by omega) hjL
          exact ⟨y, hy1, by rw [List.getElem?_set_ne (fun h => hji h.symm)]; exact hy2⟩
      · have hiL : i = L.length := by omega
        subst hiL
        refine LoopK_x (BlkK_e (SeqK_n ?_))
        refine W_seq (W_ops [12, 13] ?_)
        simp only [o16_13, WO_move, WO_nil, geT_put, evO_tmp, evO_const, keep_nil, keep_cons, keepK_eq, Nat.reduceEqDiff, ↓reduceIte, eq_self, e16]
        clear e16 e41
        intro fr e12 e13
        refine SeqK_n ?_
        have HF := H.app H1.up1.tail
        simp only [List.cons_append, List.nil_append] at HF
        refine W_ret (Ret2 e12 e13 ⟨bv, bs, 0, rfl, ?_, by rw [hbl]; exact HF⟩)
        rw [LnR, if_neg (by rw [hE]; simp), if_neg (by rw [hf]; simp)]
        exact ⟨rfl, hbl, fun j hj => hok j hj hj⟩
  · have hd : (!decide (lkE L.length g t nth = 0)) = true := by rw [decide_eq_false hE]; rfl
    rw [hd] at e29
    refine W_seq (W_cond e29 (fun _ => ?_) (fun h => by cases h))
    refine W_seq (W_ops [12, 13] ?_)
    simp only [o16_3, WO_move, WO_nil, geT_put, evO_tmp, evO_const, keep_nil, keep_cons, keepK_eq, Nat.reduceEqDiff, ↓reduceIte, eq_self, e15]
    clear e0 e5 e14 e15 e29
    intro fr e12 e13
    refine SeqK_n ?_
    exact W_ret (SeqK_r (Ret2 e12 e13 ⟨_, [], _, rfl, by rw [LnR, if_pos hE]; exact ⟨rfl, rfl⟩, (H.app H4.tail).nil 1⟩))

end Go.Proofs.Ytfjdihfflghfpaa

/- Cfar: the document's levels, walked. -/
namespace Go.Proofs.Ytfjdihfflghfpaa
open Go Go.Vam Go.Sort


set_option maxHeartbeats 2000000 in
theorem run60 {X : Ctx} (hX : X.fns = fnsOf Try.prog) (ho : ∀ f args, f ≠ 10 ∧ f ≠ 24 → X.orc f args = none) {s0 s : Mm} {l : List HP} {v : Value} {L : List UInt64} {lo hi : Int} (H : Hold s0 s l) (a : SlC s 1 v L.length (flT L)) (hl : L.length ≤ 16384) :
    CallP X 60 [v, .int .i64 lo, .int .i64 hi] s (fun r s' => Hold s0 s' (HP.own 1 r (sg L lo (hi + 1)).length (flT (sg L lo (hi + 1))) :: l)) := by
  have e1' : (if lo > (0 : Int) then lo else 0) = (((max lo 0).toNat : Nat) : Int) := by split <;> omega
  obtain ⟨f, hf⟩ : ∃ f, f = (max lo 0).toNat := ⟨_, rfl⟩
  rw [← hf] at e1'
  have hsg : sg L lo (hi + 1) = (L.drop f).take (min (hi + 1) ((L.length : Nat) : Int) - (f : Int)).toNat := by
    unfold sg
    rw [hf]
    congr 1
    omega
  refine CallP_of (hX ▸ ir60_eq) (ho _ _ (by decide)) (Nat.le_of_ble_eq_true rfl) ?_
  refine W_seq (W_ops [0, 1, 2] ?_)
  simp only [o60_0, WO_move, WO_nil, geT_put, frame_nil, frame_cons, evO_const, keep_nil, keep_cons, keepK_eq, Nat.reduceEqDiff, Nat.reduceAdd, ↓reduceIte, eq_self, Nat.zero_add]
  intro fr e0 e1 e2
  refine SeqK_n ?_
  refine W_seq (W_ops [0, 1, 2, 7] ?_)
  simp only [o60_1, WO_move, WO_nil, geT_put, evO_const, keep_nil, keep_cons, keepK_eq, Nat.reduceEqDiff, ↓reduceIte, eq_self, e0, e1, e2]
  clear e0 e1 e2
  intro fr e0 e1 e2 e7
  refine SeqK_n ?_
  refine W_assoc ?_
  refine W_seq (W_ops [0, 2, 7, 8] ?_)
  simp only [o60_2, WO_bu, bu_max, WO_move, WO_nil, PureK_some, geT_put, evO_tmp, evO_const, keep_nil, keep_cons, keepK_eq, List.map_cons, List.map_nil, Nat.reduceEqDiff, ↓reduceIte, eq_self, e0, e1, e2, e7, e1']
  clear e0 e1 e2 e7
  intro fr e0 e2 e7 e8
  refine SeqK_n ?_
  have cyc : ∀ (i : Nat) (O : List UInt64) (ov : Value) (fr : Fr) (s1 : Mm), f ≤ i → True → True := fun _ _ _ _ _ _ h => h
  clear cyc
  refine W_seq (W_block (W_loop (fun m fr s1 => ∃ (i : Nat) (ov : Value), L.length - i ≤ m ∧ f ≤ i ∧ (i = f ∨ ((i : Int) ≤ hi + 1 ∧ i ≤ L.length)) ∧ geT fr 0 = v ∧ geT fr 2 = .int .i64 hi ∧ geT fr 7 = ov ∧ geT fr 8 = .int .i64 (i : Nat) ∧
    Hold s s1 [HP.own 1 ov ((L.drop f).take (i - f)).length (flT ((L.drop f).take (i - f)))]) L.length ⟨f, _, by omega, by omega, .inl rfl, e0, e2, e7, e8, by rw [Nat.sub_self, List.take_zero]; exact (Hold.refl s).nil 1⟩ ?_))
  clear e0 e2 e7 e8 fr
  rintro m fr s1 ⟨i, ov, hm, hfi, hii, e0, e2, e7, e8, H1⟩
  have a1 := a.same H1.same (fun _ _ h => h)
  refine W_assoc ?_
  refine W_seq (W_opsB [0, 2, 7, 8, 19] (fun fr1 s6 => s1 = s6 ∧ geT fr1 0 = v ∧ geT fr1 2 = .int .i64 hi ∧ geT fr1 7 = ov ∧ geT fr1 8 = .int .i64 (i : Nat) ∧ geT fr1 19 = .bool (decide ((i : Int) ≤ hi ∧ i < L.length))) ?_ ?_)
  · intro R' hR'
    by_cases h : (i : Int) ≤ hi
    · skip
      simp only [o60_4, WO_bin, WO_bu, WO_move, WO_pick, pick_b, bin_leq, bin_lss, WO_nil, PureK_some, WO_guard, want_v, wantB_t, geT_put, evO_tmp, evO_const, keep_nil, keep_cons, keepK_eq, List.map_cons, List.map_nil, Nat.reduceEqDiff, ↓reduceIte, eq_self, e0, e2, e7, e8, decide_eq_true h, a1.len]
      intro fr e0 e2 e7 e8 e19
      exact hR' _ _ ⟨rfl, e0, e2, e7, e8, by rw [e19]; exact congrArg Value.bool (decide_eq_decide.2 ⟨fun q => ⟨h, by omega⟩, fun q => by omega⟩)⟩
    · skip
      simp only [o60_4, WO_bin, WO_move, WO_pick, pick_b, bin_leq, WO_nil, PureK_some, WO_guard, want_v, wantB_t, geT_put, evO_tmp, evO_const, keep_nil, keep_cons, keepK_eq, Nat.reduceEqDiff, ↓reduceIte, eq_self, Bool.false_eq_true, e0, e2, e7, e8, decide_eq_false h]
      intro fr e0 e2 e7 e8 e19
      exact hR' _ _ ⟨rfl, e0, e2, e7, e8, by rw [e19]; exact congrArg Value.bool (decide_eq_false (fun q => h q.1)).symm⟩
  clear e0 e2 e7 e8 fr
  rintro fr _ ⟨rfl, e0, e2, e7, e8, e19⟩
  refine SeqK_n ?_
  refine W_while e19 (fun hlt => ?_) (fun hlt => ?_)
  · obtain ⟨h1, h2⟩ := hlt
    have A1 := a1.addr (kk := .i64) (i := (i : Int)) rfl h2
    rw [Nat.mul_one] at A1
    have L1 : loadV s1 none (elP v i) = some (.float .f64 (L[i]).toNat) := a1.load (flT_get h2)
    have hbs : buildSlV s1 1 [.float .f64 0] 1 [(0, 1, .float .f64 (L[i]).toNat)] = some (.slice (some ⟨s1.nxt, 0, none⟩) 1 1, .cells [.float .f64 (L[i]).toNat] false) := rfl
    have hle : ((L.drop f).take (i - f)).length ≤ L.length := by rw [List.length_take, List.length_drop]; omega
    obtain ⟨ov', s2, ap, H2⟩ := H1.push (bytes := 8) (new := [.float .f64 (L[i]).toNat]) rfl rfl (by omega) (by decide) (by omega) (by omega) (by omega)
    have hnx : (L.drop f).take (i - f) ++ [L[i]] = (L.drop f).take (i + 1 - f) := by
      have e : i + 1 - f = i - f + 1 := by omega
      rw [e, List.take_add_one, List.getElem?_drop, show f + (i - f) = i by omega, List.getElem?_eq_getElem h2]; rfl
    have hfl : ((L.drop f).take (i - f)).length + 1 = ((L.drop f).take (i - f) ++ [L[i]]).length := by simp
    rw [fl_push, hfl, hnx] at H2
    refine W_seq (W_block ?_)
    refine W_ops [0, 2, 7, 8] ?_
    simp only [o60_5, WO_addrSl, WO_append, WO_buildSlice, WO_load, WO_move, WO_nil, PureK_some, MemK_some, NewK_some, geT_put, evO_tmp, keep_nil, keep_cons, keepK_eq, List.map_cons, List.map_nil, Nat.reduceEqDiff, ↓reduceIte, eq_self, Nat.mul_one, e0, e2, e7, e8, A1, L1, hbs, ap]
    clear e0 e2 e7 e8
    intro fr e0 e2 e7 e8
    refine BlkK_n (SeqK_n ?_)
    refine W_ops [0, 2, 7, 8] ?_
    simp only [o60_6, WO_bin, WO_move, bin_add, WO_nil, PureK_some, geT_put, evO_tmp, evO_const, keep_nil, keep_cons, keepK_eq, Nat.reduceEqDiff, ↓reduceIte, eq_self, e0, e2, e7, e8, wrap_i64 (n := (i : Int) + 1) (by omega) (by omega)]
    clear e0 e2 e7 e8
    intro fr e0 e2 e7 e8
    exact LoopK_n (m' := m - 1) (by omega) ⟨i + 1, ov', by omega, by omega, .inr ⟨by omega, by omega⟩, e0, e2, e7, by rw [e8]; rfl, H2⟩
  · refine LoopK_x (BlkK_e (SeqK_n ?_))
    refine W_seq (W_ops [6] ?_)
    simp only [o60_7, WO_move, WO_nil, geT_put, evO_tmp, keep_nil, keep_cons, keepK_eq, ↓reduceIte, eq_self, e7]
    clear e0 e2 e7 e8 e19
    intro fr e6
    refine SeqK_n ?_
    have hfin : (L.drop f).take (i - f) = sg L lo (hi + 1) := by
      rw [hsg]
      rcases hii with h | ⟨h3, h4⟩
      · subst h
        rw [Nat.sub_self, List.take_zero]
        by_cases hz : L.length ≤ i
        · rw [List.drop_eq_nil_of_le hz, List.take_nil]
        · rw [show (min (hi + 1) ((L.length : Nat) : Int) - (i : Int)).toNat = 0 by omega, List.take_zero]
      · congr 1
        omega
    have HF := H.app H1
    rw [hfin] at HF
    simp only [List.cons_append, List.nil_append] at HF
    exact W_ret (Ret1 e6 HF)

theorem run38 {X : Ctx} (hX : X.fns = fnsOf Try.prog) (ho : ∀ f args, f ≠ 10 ∧ f ≠ 24 → X.orc f args = none) {s : Mm} {g t nth : Int} : CallP X 38 [.int .i64 g, .int .i64 t, .int .i64 nth] s (fun r s' => r = .bool (!decide (badN g t nth)) ∧ s = s') := by
  have key : ∀ b : Bool, (b = true ↔ ¬ badN g t nth) → b = !decide (badN g t nth) := fun b h => by
    rw [Bool.eq_iff_iff, h]; simp
  refine CallP_of (hX ▸ ir38_eq) (ho _ _ (by decide)) (Nat.le_of_ble_eq_true rfl) ?_
  refine W_seq (W_ops [0, 1, 2] ?_)
  simp only [o38_0, WO_move, WO_nil, geT_put, frame_nil, frame_cons, evO_const, keep_nil, keep_cons, keepK_eq, Nat.reduceEqDiff, Nat.reduceAdd, ↓reduceIte, eq_self, Nat.zero_add]
  intro fr e0 e1 e2
  refine SeqK_n ?_
  by_cases h1 : 0 ≤ g
  · by_cases h2 : g ≤ 16384
    · by_cases h3 : 1 ≤ t
      · by_cases h4 : t ≤ 16384
        · by_cases h5 : 0 ≤ nth
          · skip
            refine W_seq (W_ops [6] ?_)
            simp only [o38_1, WO_bin, WO_move, WO_pick, pick_b, bin_geq, bin_leq, WO_nil, PureK_some, WO_guard, want_v, wantB_t, geT_put, evO_tmp, evO_const, keep_nil, keep_cons, keepK_eq, Nat.reduceEqDiff, ↓reduceIte, eq_self, e0, e1, e2, decide_eq_true h1, decide_eq_true h2, decide_eq_true h3, decide_eq_true h4, decide_eq_true h5]
            clear e0 e1 e2
            intro fr e6
            refine SeqK_n ?_
            exact W_ret (Ret1 e6 ⟨congrArg Value.bool (key _ (by rw [decide_eq_true_eq]; unfold badN; omega)), rfl⟩)
          · skip
            refine W_seq (W_ops [6] ?_)
            simp only [o38_1, WO_bin, WO_move, WO_pick, pick_b, bin_geq, bin_leq, WO_nil, PureK_some, WO_guard, want_v, wantB_t, geT_put, evO_tmp, evO_const, keep_nil, keep_cons, keepK_eq, Nat.reduceEqDiff, ↓reduceIte, eq_self, Bool.false_eq_true, e0, e1, e2, decide_eq_true h1, decide_eq_true h2, decide_eq_true h3, decide_eq_true h4, decide_eq_false h5]
            clear e0 e1 e2
            intro fr e6
            refine SeqK_n ?_
            exact W_ret (Ret1 e6 ⟨congrArg Value.bool (key _ (by simp; unfold badN; omega)), rfl⟩)
        · skip
          refine W_seq (W_ops [6] ?_)
          simp only [o38_1, WO_bin, WO_move, WO_pick, pick_b, bin_geq, bin_leq, WO_nil, PureK_some, WO_guard, want_v, wantB_t, geT_put, evO_tmp, evO_const, keep_nil, keep_cons, keepK_eq, Nat.reduceEqDiff, ↓reduceIte, eq_self, Bool.false_eq_true, e0, e1, decide_eq_true h1, decide_eq_true h2, decide_eq_true h3, decide_eq_false h4]
          clear e0 e1 e2
          intro fr e6
          refine SeqK_n ?_
          exact W_ret (Ret1 e6 ⟨congrArg Value.bool (key _ (by simp; unfold badN; omega)), rfl⟩)
      · skip
        refine W_seq (W_ops [6] ?_)
        simp only [o38_1, WO_bin, WO_move, WO_pick, pick_b, bin_geq, bin_leq, WO_nil, PureK_some, WO_guard, want_v, wantB_t, geT_put, evO_tmp, evO_const, keep_nil, keep_cons, keepK_eq, Nat.reduceEqDiff, ↓reduceIte, eq_self, Bool.false_eq_true, e0, e1, decide_eq_true h1, decide_eq_true h2, decide_eq_false h3]
        clear e0 e1 e2
        intro fr e6
        refine SeqK_n ?_
        exact W_ret (Ret1 e6 ⟨congrArg Value.bool (key _ (by simp; unfold badN; omega)), rfl⟩)
    · skip
      refine W_seq (W_ops [6] ?_)
      simp only [o38_1, WO_bin, WO_move, WO_pick, pick_b, bin_geq, bin_leq, WO_nil, PureK_some, WO_guard, want_v, wantB_t, geT_put, evO_tmp, evO_const, keep_nil, keep_cons, keepK_eq, Nat.reduceEqDiff, ↓reduceIte, eq_self, Bool.false_eq_true, e0, decide_eq_true h1, decide_eq_false h2]
      clear e0 e1 e2
      intro fr e6
      refine SeqK_n ?_
      exact W_ret (Ret1 e6 ⟨congrArg Value.bool (key _ (by simp; unfold badN; omega)), rfl⟩)
  · skip
    refine W_seq (W_ops [6] ?_)
    simp only [o38_1, WO_bin, WO_move, WO_pick, pick_b, bin_geq, WO_nil, PureK_some, WO_guard, want_v, wantB_t, geT_put, evO_tmp, evO_const, keep_nil, keep_cons, keepK_eq, Nat.reduceEqDiff, ↓reduceIte, eq_self, Bool.false_eq_true, e0, decide_eq_false h1]
    clear e0 e1 e2
    intro fr e6
    refine SeqK_n ?_
    exact W_ret (Ret1 e6 ⟨congrArg Value.bool (key _ (by simp; unfold badN; omega)), rfl⟩)

end Go.Proofs.Ytfjdihfflghfpaa

/- Cfar: the document's level, walked. -/
namespace Go.Proofs.Ytfjdihfflghfpaa
open Go Go.Vam Go.Sort


set_option maxHeartbeats 8000000 in
theorem run39 {X : Ctx} (hX : X.fns = fnsOf Try.prog) (ho : ∀ f args, f ≠ 10 ∧ f ≠ 24 → X.orc f args = none) {s0 s : Mm} {l : List HP} {v : Value} {L : List UInt64} {way g t nth at_ : Int} (H : Hold s0 s l) (a : SlC s 1 v L.length (flT L)) (hl : L.length ≤ 16384) (hb : ¬ badN g t nth) (hat : 0 ≤ at_ ∧ at_ < (L.length : Int)) :
    CallP X 39 [v, .int .i64 at_, .int .i8 way, .int .i64 g, .int .i64 t, .int .i64 nth] s (fun r s' => ∃ x, r = .float .f64 x ∧ LV L at_ way g t nth x ∧ Hold s0 s' l) := by
  unfold badN at hb
  obtain ⟨A, hA⟩ : ∃ A, A = sg L (at_ - g - t) (at_ - g) := ⟨_, rfl⟩
  obtain ⟨B, hB⟩ : ∃ B, B = sg L (at_ + g + 1) (at_ + g + t + 1) := ⟨_, rfl⟩
  have lA : A.length ≤ 16384 := by rw [hA]; have := sg_len L (at_ - g - t) (at_ - g); omega
  have lB : B.length ≤ 16384 := by rw [hB]; have := sg_len L (at_ + g + 1) (at_ + g + t + 1); omega
  have hLV : ∀ x, LV L at_ way g t nth x = (if A ++ B = [] then x = 9218868437227405312 else RV way A B nth x) := fun x => by rw [hA, hB]; rfl
  have w1 := wrap_i64 (n := at_ - g) (by omega) (by omega)
  have w2 := wrap_i64 (n := at_ - g - t) (by omega) (by omega)
  have w2' := wrap_i64 (n := at_ - g - 1) (by omega) (by omega)
  have w3 := wrap_i64 (n := at_ + g) (by omega) (by omega)
  have w4 := wrap_i64 (n := at_ + g + 1) (by omega) (by omega)
  have w5 := wrap_i64 (n := at_ + g + t) (by omega) (by omega)
  have eA : sg L (at_ - g - t) (at_ - g - 1 + 1) = A := by rw [hA]; congr 1; omega
  refine CallP_of (hX ▸ ir39_eq) (ho _ _ (by decide)) (Nat.le_of_ble_eq_true rfl) ?_
  refine W_seq (W_ops [0, 1, 2, 3, 4, 5] ?_)
  simp only [o39_0, WO_move, WO_nil, geT_put, frame_nil, frame_cons, evO_const, keep_nil, keep_cons, keepK_eq, Nat.reduceEqDiff, Nat.reduceAdd, ↓reduceIte, eq_self, Nat.zero_add]
  intro fr e0 e1 e2 e3 e4 e5
  refine SeqK_n ?_
  refine W_seq (W_ops [0, 1, 2, 3, 4, 5, 13] ?_)
  simp only [o39_1, WO_bin, WO_call, WO_move, bin_sub, PureK_some, geT_put, evO_tmp, evO_const, List.map_cons, List.map_nil, Nat.reduceEqDiff, ↓reduceIte, eq_self, e0, e1, e3, e4, w1, w2, w2']
  refine CallK_of (run60 hX ho (lo := at_ - g - t) (hi := at_ - g - 1) (Hold.refl s) a hl) ?_
  rintro av s1 H1
  rw [eA] at H1
  simp only [WO_move, WO_nil, geT_put, evO_tmp, keep_nil, keep_cons, keepK_eq, Nat.reduceEqDiff, ↓reduceIte, eq_self, e0, e1, e2, e3, e4, e5]
  clear e0 e1 e2 e3 e4 e5
  intro fr e0 e1 e2 e3 e4 e5 e13
  refine SeqK_n ?_
  refine W_seq (W_ops [2, 5, 13, 14] ?_)
  simp only [o39_2, WO_bin, WO_call, WO_move, bin_add, PureK_some, geT_put, evO_tmp, evO_const, List.map_cons, List.map_nil, Nat.reduceEqDiff, ↓reduceIte, eq_self, e0, e1, e3, e4, w3, w4, w5]
  refine CallK_of (run60 hX ho (lo := at_ + g + 1) (hi := at_ + g + t) H1 (a.same H1.same (fun _ _ h => h)) hl) ?_
  rintro bv s2 H2
  rw [← hB] at H2
  simp only [WO_move, WO_nil, geT_put, evO_tmp, keep_nil, keep_cons, keepK_eq, Nat.reduceEqDiff, ↓reduceIte, eq_self, e2, e5, e13]
  clear e0 e1 e2 e3 e4 e5 e13
  intro fr e2 e5 e13 e14
  refine SeqK_n ?_
  clear w1 w2 w2' w3 w4 w5 eA H1 s1
  refine W_seq (W_ops [2, 5, 13, 14, 15] ?_)
  simp only [o39_3, WO_move, WO_nil, geT_put, evO_const, keep_nil, keep_cons, keepK_eq, Nat.reduceEqDiff, ↓reduceIte, eq_self, e2, e5, e13, e14]
  clear e2 e5 e13 e14
  intro fr e2 e5 e13 e14 e15
  refine SeqK_n ?_
  refine W_assoc ?_
  refine W_seq (W_ops [2, 5, 13, 14, 15, 16] ?_)
  simp only [o39_4, WO_move, WO_nil, geT_put, evO_const, keep_nil, keep_cons, keepK_eq, Nat.reduceEqDiff, ↓reduceIte, eq_self, e2, e5, e13, e14, e15]
  clear e2 e5 e13 e14 e15
  intro fr e2 e5 e13 e14 e15 e16
  refine SeqK_n ?_
  have H3 := H2.nil 1
  refine W_seq (W_cutN (fun fr1 s6 => ∃ cv : Value, geT fr1 2 = .int .i8 way ∧ geT fr1 5 = .int .i64 nth ∧ geT fr1 13 = av ∧ geT fr1 14 = bv ∧ geT fr1 15 = cv ∧ Hold s s6 [HP.own 1 cv A.length (flT A), HP.own 1 bv B.length (flT B), HP.own 1 av A.length (flT A)]) ?_ ?_)
  · intro R' hR'
    refine W_block (W_loop (fun m fr s1 => ∃ (i : Nat) (cv : Value), i + m = A.length ∧ geT fr 2 = .int .i8 way ∧ geT fr 5 = .int .i64 nth ∧ geT fr 13 = av ∧ geT fr 14 = bv ∧ geT fr 15 = cv ∧ geT fr 16 = .int .i64 (i : Nat) ∧
      Hold s s1 [HP.own 1 cv (A.take i).length (flT (A.take i)), HP.own 1 bv B.length (flT B), HP.own 1 av A.length (flT A)]) A.length ⟨0, _, by omega, e2, e5, e13, e14, e15, e16, H3⟩ ?_)
    clear e2 e5 e13 e14 e15 e16 fr H3 H2 s2
    rintro m fr s1 ⟨i, cv, hi, e2, e5, e13, e14, e15, e16, H⟩
    have al := (H.up2.own (List.mem_cons_self ..)).slc
    refine W_assoc ?_
    refine W_seq (W_ops [2, 5, 13, 14, 15, 16, 47] ?_)
    simp only [o39_6, WO_bin, WO_bu, WO_move, bin_lss, WO_nil, PureK_some, geT_put, evO_tmp, keep_nil, keep_cons, keepK_eq, List.map_cons, List.map_nil, Nat.reduceEqDiff, ↓reduceIte, eq_self, e2, e5, e13, e14, e15, e16, al.len]
    clear e2 e5 e13 e14 e15 e16
    intro fr e2 e5 e13 e14 e15 e16 e47
    refine SeqK_n ?_
    refine W_while e47 (fun hlt => ?_) (fun hlt => ?_)
    · have hiA : i < A.length := by omega
      have A1 := al.addr (kk := .i64) (i := (i : Int)) rfl hiA
      rw [Nat.mul_one] at A1
      have L1 : loadV s1 none (elP av i) = some (.float .f64 (A[i]).toNat) := al.load (flT_get hiA)
      have hbs : buildSlV s1 1 [.float .f64 0] 1 [(0, 1, .float .f64 (A[i]).toNat)] = some (.slice (some ⟨s1.nxt, 0, none⟩) 1 1, .cells [.float .f64 (A[i]).toNat] false) := rfl
      have hle : (A.take i).length ≤ A.length := by rw [List.length_take]; omega
      obtain ⟨cv', s3, ap, H4⟩ := H.push (bytes := 8) (new := [.float .f64 (A[i]).toNat]) rfl rfl (by omega) (by decide) (by omega) (by omega) (by omega)
      have hnx : A.take i ++ [A[i]] = A.take (i + 1) := by rw [List.take_add_one, List.getElem?_eq_getElem hiA]; rfl
      have hfl : (A.take i).length + 1 = (A.take i ++ [A[i]]).length := by rw [List.length_append]; rfl
      rw [fl_push, hfl, hnx] at H4
      refine W_seq (W_block ?_)
      refine W_ops [2, 5, 13, 14, 15, 16] ?_
      simp only [o39_7, WO_addrSl, WO_append, WO_buildSlice, WO_load, WO_move, WO_nil, PureK_some, MemK_some, NewK_some, geT_put, evO_tmp, keep_nil, keep_cons, keepK_eq, List.map_cons, List.map_nil, Nat.reduceEqDiff, ↓reduceIte, eq_self, Nat.mul_one, e2, e5, e13, e14, e15, e16, A1, L1, hbs, ap]
      clear e2 e5 e13 e14 e15 e16 e47
      intro fr e2 e5 e13 e14 e15 e16
      refine BlkK_n (SeqK_n ?_)
      refine W_ops [2, 5, 13, 14, 15, 16] ?_
      simp only [o39_8, WO_bin, WO_move, bin_add, WO_nil, PureK_some, geT_put, evO_tmp, evO_const, keep_nil, keep_cons, keepK_eq, Nat.reduceEqDiff, ↓reduceIte, eq_self, e2, e5, e13, e14, e15, e16, wrap_i64 (n := (i : Int) + 1) (by omega) (by omega)]
      clear e2 e5 e13 e14 e15 e16
      intro fr e2 e5 e13 e14 e15 e16
      exact LoopK_n (m' := m - 1) (by omega) ⟨i + 1, cv', by omega, e2, e5, e13, e14, e15, by rw [e16]; rfl, H4⟩
    · have hiA : i = A.length := by omega
      subst hiA
      rw [List.take_length] at H
      exact LoopK_x (BlkK_e (hR' _ _ ⟨cv, e2, e5, e13, e14, e15, H⟩))
  clear e2 e5 e13 e14 e15 e16 fr H3 H2 s2
  rintro fr s2 ⟨cv, e2, e5, e13, e14, e15, H2⟩
  refine SeqK_n ?_
  refine W_assoc ?_
  refine W_seq (W_ops [2, 5, 13, 14, 15, 17] ?_)
  simp only [o39_9, WO_move, WO_nil, geT_put, evO_const, keep_nil, keep_cons, keepK_eq, Nat.reduceEqDiff, ↓reduceIte, eq_self, e2, e5, e13, e14, e15]
  clear e2 e5 e13 e14 e15
  intro fr e2 e5 e13 e14 e15 e17
  refine SeqK_n ?_
  have e0' : A ++ B.take 0 = A := by simp
  refine W_seq (W_cutN (fun fr1 s6 => ∃ cv : Value, geT fr1 2 = .int .i8 way ∧ geT fr1 5 = .int .i64 nth ∧ geT fr1 13 = av ∧ geT fr1 14 = bv ∧ geT fr1 15 = cv ∧ Hold s s6 [HP.own 1 cv (A ++ B).length (flT (A ++ B)), HP.own 1 bv B.length (flT B), HP.own 1 av A.length (flT A)]) ?_ ?_)
  · intro R' hR'
    refine W_block (W_loop (fun m fr s1 => ∃ (i : Nat) (cv : Value), i + m = B.length ∧ geT fr 2 = .int .i8 way ∧ geT fr 5 = .int .i64 nth ∧ geT fr 13 = av ∧ geT fr 14 = bv ∧ geT fr 15 = cv ∧ geT fr 17 = .int .i64 (i : Nat) ∧
      Hold s s1 [HP.own 1 cv (A ++ B.take i).length (flT (A ++ B.take i)), HP.own 1 bv B.length (flT B), HP.own 1 av A.length (flT A)]) B.length ⟨0, cv, by omega, e2, e5, e13, e14, e15, e17, by rw [e0']; exact H2⟩ ?_)
    clear e2 e5 e13 e14 e15 e17 fr H2 s2 cv
    rintro m fr s1 ⟨i, cv, hi, e2, e5, e13, e14, e15, e17, H⟩
    have bl := (H.up1.own (List.mem_cons_self ..)).slc
    refine W_assoc ?_
    refine W_seq (W_ops [2, 5, 13, 14, 15, 17, 60] ?_)
    simp only [o39_11, WO_bin, WO_bu, WO_move, bin_lss, WO_nil, PureK_some, geT_put, evO_tmp, keep_nil, keep_cons, keepK_eq, List.map_cons, List.map_nil, Nat.reduceEqDiff, ↓reduceIte, eq_self, e2, e5, e13, e14, e15, e17, bl.len]
    clear e2 e5 e13 e14 e15 e17
    intro fr e2 e5 e13 e14 e15 e17 e60
    refine SeqK_n ?_
    refine W_while e60 (fun hlt => ?_) (fun hlt => ?_)
    · have hiB : i < B.length := by omega
      have A1 := bl.addr (kk := .i64) (i := (i : Int)) rfl hiB
      rw [Nat.mul_one] at A1
      have L1 : loadV s1 none (elP bv i) = some (.float .f64 (B[i]).toNat) := bl.load (flT_get hiB)
      have hbs : buildSlV s1 1 [.float .f64 0] 1 [(0, 1, .float .f64 (B[i]).toNat)] = some (.slice (some ⟨s1.nxt, 0, none⟩) 1 1, .cells [.float .f64 (B[i]).toNat] false) := rfl
      have hle : (A ++ B.take i).length ≤ 32768 := by rw [List.length_append, List.length_take]; omega
      obtain ⟨cv', s3, ap, H4⟩ := H.push (bytes := 8) (new := [.float .f64 (B[i]).toNat]) rfl rfl (by omega) (by decide) (by omega) (by omega) (by omega)
      have hnx : A ++ B.take i ++ [B[i]] = A ++ B.take (i + 1) := by rw [List.take_add_one, List.getElem?_eq_getElem hiB, List.append_assoc]; rfl
      have hfl : (A ++ B.take i).length + 1 = (A ++ B.take i ++ [B[i]]).length := by rw [List.length_append (bs := [B[i]])]; rfl
      rw [fl_push, hfl, hnx] at H4
      refine W_seq (W_block ?_)
      refine W_ops [2, 5, 13, 14, 15, 17] ?_
      simp only [o39_12, WO_addrSl, WO_append, WO_buildSlice, WO_load, WO_move, WO_nil, PureK_some, MemK_some, NewK_some, geT_put, evO_tmp, keep_nil, keep_cons, keepK_eq, List.map_cons, List.map_nil, Nat.reduceEqDiff, ↓reduceIte, eq_self, Nat.mul_one, e2, e5, e13, e14, e15, e17, A1, L1, hbs, ap]
      clear e2 e5 e13 e14 e15 e17 e60
      intro fr e2 e5 e13 e14 e15 e17
      refine BlkK_n (SeqK_n ?_)
      refine W_ops [2, 5, 13, 14, 15, 17] ?_
      simp only [o39_13, WO_bin, WO_move, bin_add, WO_nil, PureK_some, geT_put, evO_tmp, evO_const, keep_nil, keep_cons, keepK_eq, Nat.reduceEqDiff, ↓reduceIte, eq_self, e2, e5, e13, e14, e15, e17, wrap_i64 (n := (i : Int) + 1) (by omega) (by omega)]
      clear e2 e5 e13 e14 e15 e17
      intro fr e2 e5 e13 e14 e15 e17
      exact LoopK_n (m' := m - 1) (by omega) ⟨i + 1, cv', by omega, e2, e5, e13, e14, e15, by rw [e17]; rfl, H4⟩
    · have hiB : i = B.length := by omega
      subst hiB
      rw [List.take_length] at H
      exact LoopK_x (BlkK_e (hR' _ _ ⟨cv, e2, e5, e13, e14, e15, H⟩))
  clear e2 e5 e13 e14 e15 e17 fr H2 s2 cv
  rintro fr s2 ⟨cv, e2, e5, e13, e14, e15, H2⟩
  refine SeqK_n ?_
  have cl := (H2.own (List.mem_cons_self ..)).slc
  have bl := (H2.up1.own (List.mem_cons_self ..)).slc
  have al := (H2.up2.own (List.mem_cons_self ..)).slc
  have hlen2 : (A ++ B).length ≤ 32768 := by rw [List.length_append]; omega
  have HF := H.keep H2.same
  refine W_assoc ?_
  refine W_seq (W_ops [2, 5, 13, 14, 15, 72] ?_)
  simp only [o39_14, WO_bin, WO_bu, WO_move, bin_eql, WO_nil, PureK_some, geT_put, evO_tmp, evO_const, keep_nil, keep_cons, keepK_eq, List.map_cons, List.map_nil, Nat.reduceEqDiff, ↓reduceIte, eq_self, e2, e5, e13, e14, e15, cl.len, len0 (A ++ B)]
  clear e2 e5 e13 e14 e15
  intro fr e2 e5 e13 e14 e15 e72
  refine SeqK_n ?_
  refine W_seq (W_if e72 (fun h0 => ?_) (fun h0 => W_skip (SeqK_n ?_)))
  · refine W_seq (W_ops [12] ?_)
    simp only [o39_15, WO_call, evO_const, List.map_cons, List.map_nil]
    refine CallK_of (run59 hX ho) ?_
    rintro _ _ ⟨rfl, rfl⟩
    simp only [WO_move, WO_nil, geT_put, evO_tmp, keep_nil, keep_cons, keepK_eq, ↓reduceIte, eq_self]
    clear e2 e5 e13 e14 e15 e72
    intro fr e12
    refine SeqK_n ?_
    exact W_ret (SeqK_r (Ret1 e12 ⟨_, rfl, by rw [hLV, if_pos h0], HF⟩))
  have hlen : 1 ≤ (A ++ B).length := by
    cases h : A ++ B with
    | nil => exact absurd h h0
    | cons _ _ => simp
  refine W_assoc ?_
  refine W_seq (W_ops [2, 5, 13, 14, 15, 75] ?_)
  simp only [o39_16, WO_bin, WO_move, bin_eql, WO_nil, PureK_some, geT_put, evO_tmp, evO_const, keep_nil, keep_cons, keepK_eq, Nat.reduceEqDiff, ↓reduceIte, eq_self, e2, e5, e13, e14, e15]
  clear e2 e5 e13 e14 e15 e72
  intro fr e2 e5 e13 e14 e15 e75
  refine SeqK_n ?_
  refine W_seq (W_if e75 (fun h3 => ?_) (fun h3 => W_skip (SeqK_n ?_)))
  · have hmin : (if (((A ++ B).length : Nat) : Int) - 1 < nth then (((A ++ B).length : Nat) : Int) - 1 else nth) = min nth ((((A ++ B).length : Nat) : Int) - 1) := by omega
    refine W_seq (W_ops [18] ?_)
    simp only [o39_17, WO_bin, WO_bu, bu_min, WO_call, WO_move, bin_sub, PureK_some, geT_put, evO_tmp, evO_const, List.map_cons, List.map_nil, Nat.reduceEqDiff, ↓reduceIte, eq_self, e5, e15, cl.len, wrap_i64 (n := (((A ++ B).length : Nat) : Int) - 1) (by omega) (by omega), hmin]
    refine CallK_of (nth_ref hX ho (d := (A ++ B).toArray) HF (slA cl) (by show (A ++ B).length ≤ _; omega)) ?_
    rintro _ s3 ⟨x, e, rfl, hx, hv, H3⟩
    simp only [WO_extract, ext_20, ext_21, WO_move, WO_nil, PureK_some, geT_put, evO_tmp, keep_nil, keep_cons, keepK_eq, Nat.reduceEqDiff, ↓reduceIte, eq_self]
    clear e2 e5 e13 e14 e15 e75
    intro fr e18
    refine SeqK_n ?_
    refine W_seq (W_ops [12] ?_)
    simp only [o39_18, WO_move, WO_nil, geT_put, evO_tmp, keep_nil, keep_cons, keepK_eq, ↓reduceIte, eq_self, e18]
    clear e18
    intro fr e12
    refine SeqK_n ?_
    have he : e = 0 := by
      have hs : (A ++ B).toArray.size = (A ++ B).length := rfl
      rcases hv with ⟨_, _, h, _⟩ | ⟨h, _, _⟩
      · exact h
      · rw [hs] at h; omega
    subst he
    exact W_ret (SeqK_r (Ret1 e12 ⟨x, rfl, by rw [hLV, if_neg h0, RV, if_pos h3]; exact ⟨hx, hv⟩, H3⟩))
  refine W_assoc ?_
  refine W_seq (W_opsB [2, 13, 14, 15, 92] (fun fr1 s6 => s2 = s6 ∧ geT fr1 2 = .int .i8 way ∧ geT fr1 13 = av ∧ geT fr1 14 = bv ∧ geT fr1 15 = cv ∧ geT fr1 92 = .bool (decide (way ≠ 1 ∧ way ≠ 2))) ?_ ?_)
  · intro R' hR'
    by_cases h : way = 1
    · skip
      simp only [o39_19, WO_bin, WO_move, WO_pick, pick_b, bin_neq, WO_nil, PureK_some, WO_guard, want_v, wantB_t, geT_put, evO_tmp, evO_const, keep_nil, keep_cons, keepK_eq, Nat.reduceEqDiff, ↓reduceIte, Bool.not_true, eq_self, Bool.false_eq_true, e2, e13, e14, e15, decide_eq_true h]
      intro fr e2 e13 e14 e15 e92
      exact hR' _ _ ⟨rfl, e2, e13, e14, e15, by rw [e92]; exact congrArg Value.bool (decide_eq_false (fun q => q.1 h)).symm⟩
    · skip
      simp only [o39_19, WO_bin, WO_move, WO_pick, pick_b, bin_neq, WO_nil, PureK_some, WO_guard, want_v, wantB_t, geT_put, evO_tmp, evO_const, keep_nil, keep_cons, keepK_eq, Nat.reduceEqDiff, ↓reduceIte, Bool.not_false, eq_self, e2, e13, e14, e15, decide_eq_false h]
      intro fr e2 e13 e14 e15 e92
      refine hR' _ _ ⟨rfl, e2, e13, e14, e15, ?_⟩
      rw [e92]
      refine congrArg Value.bool ?_
      rw [Bool.eq_iff_iff]
      simp [h]
  clear e2 e5 e13 e14 e15 e75 fr
  rintro fr _ ⟨rfl, e2, e13, e14, e15, e92⟩
  refine SeqK_n ?_
  refine W_seq (W_if e92 (fun hn => ?_) (fun hn => W_skip (SeqK_n ?_)))
  · skip
    refine W_seq (W_ops [12] ?_)
    simp only [o39_20, WO_call, WO_move, geT_put, evO_tmp, List.map_cons, List.map_nil, ↓reduceIte, eq_self, e15]
    refine CallK_of (run61 hX ho cl (by omega)) ?_
    rintro _ _ ⟨rfl, rfl⟩
    simp only [WO_move, WO_nil, geT_put, evO_tmp, keep_nil, keep_cons, keepK_eq, ↓reduceIte, eq_self]
    clear e2 e13 e14 e15 e92
    intro fr e12
    refine SeqK_n ?_
    exact W_ret (SeqK_r (Ret1 e12 ⟨_, rfl, by rw [hLV, if_neg h0, RV, if_neg h3, if_neg hn.1, if_neg hn.2], HF⟩))
  have hRV : ∀ x, RV way A B nth x = (x = if way = 1 then ofF gtB A B else ofF ltB A B) := fun x => by
    rw [RV, if_neg h3]
    by_cases h : way = 1
    · rw [if_pos h, if_pos h]
    · have h2 : way = 2 := by omega
      rw [if_neg h, if_neg h, if_pos h2]
  refine W_assoc ?_
  refine W_seq (W_ops [2, 13, 14, 97] ?_)
  simp only [o39_21, WO_bin, WO_bu, WO_move, bin_eql, WO_nil, PureK_some, geT_put, evO_tmp, evO_const, keep_nil, keep_cons, keepK_eq, List.map_cons, List.map_nil, Nat.reduceEqDiff, ↓reduceIte, eq_self, e2, e13, e14, al.len, len0 A]
  clear e2 e13 e14 e15 e92
  intro fr e2 e13 e14 e97
  refine SeqK_n ?_
  refine W_seq (W_if e97 (fun hA0 => ?_) (fun hA0 => W_skip (SeqK_n ?_)))
  · refine W_seq (W_ops [12] ?_)
    simp only [o39_22, WO_call, WO_move, geT_put, evO_tmp, List.map_cons, List.map_nil, ↓reduceIte, eq_self, e14]
    refine CallK_of (run61 hX ho bl (by omega)) ?_
    rintro _ _ ⟨rfl, rfl⟩
    simp only [WO_move, WO_nil, geT_put, evO_tmp, keep_nil, keep_cons, keepK_eq, ↓reduceIte, eq_self]
    clear e2 e13 e14 e97
    intro fr e12
    refine SeqK_n ?_
    refine W_ret (SeqK_r (Ret1 e12 ⟨_, rfl, ?_, HF⟩))
    rw [hLV, if_neg h0, hRV, ofF, ofF, if_pos hA0, if_pos hA0]
    split <;> rfl
  refine W_seq (W_ops [2, 14, 20] ?_)
  simp only [o39_23, WO_call, WO_move, geT_put, evO_tmp, List.map_cons, List.map_nil, ↓reduceIte, eq_self, e13]
  refine CallK_of (run61 hX ho al (by omega)) ?_
  rintro _ _ ⟨rfl, rfl⟩
  simp only [WO_move, WO_nil, geT_put, evO_tmp, keep_nil, keep_cons, keepK_eq, Nat.reduceEqDiff, ↓reduceIte, eq_self, e2, e14]
  clear e2 e13 e14 e97
  intro fr e2 e14 e20
  refine SeqK_n ?_
  refine W_assoc ?_
  refine W_seq (W_ops [2, 14, 20, 104] ?_)
  simp only [o39_24, WO_bin, WO_bu, WO_move, bin_eql, WO_nil, PureK_some, geT_put, evO_tmp, evO_const, keep_nil, keep_cons, keepK_eq, List.map_cons, List.map_nil, Nat.reduceEqDiff, ↓reduceIte, eq_self, e2, e14, e20, bl.len, len0 B]
  clear e2 e14 e20
  intro fr e2 e14 e20 e104
  refine SeqK_n ?_
  refine W_seq (W_if e104 (fun hB0 => ?_) (fun hB0 => W_skip (SeqK_n ?_)))
  · refine W_seq (W_ops [12] ?_)
    simp only [o39_25, WO_move, WO_nil, geT_put, evO_tmp, keep_nil, keep_cons, keepK_eq, ↓reduceIte, eq_self, e20]
    clear e2 e14 e20 e104
    intro fr e12
    refine SeqK_n ?_
    refine W_ret (SeqK_r (Ret1 e12 ⟨_, rfl, ?_, HF⟩))
    rw [hLV, if_neg h0, hRV, ofF, ofF, if_neg hA0, if_neg hA0, if_pos hB0, if_pos hB0]
    split <;> rfl
  refine W_seq (W_ops [2, 20, 21] ?_)
  simp only [o39_26, WO_call, WO_move, geT_put, evO_tmp, List.map_cons, List.map_nil, ↓reduceIte, eq_self, e14]
  refine CallK_of (run61 hX ho bl (by omega)) ?_
  rintro _ _ ⟨rfl, rfl⟩
  simp only [WO_move, WO_nil, geT_put, evO_tmp, keep_nil, keep_cons, keepK_eq, Nat.reduceEqDiff, ↓reduceIte, eq_self, e2, e20]
  clear e2 e14 e20 e104
  intro fr e2 e20 e21
  refine SeqK_n ?_
  refine W_assoc ?_
  refine W_seq (W_opsB [20, 21, 123] (fun fr1 s6 => s2 = s6 ∧ geT fr1 20 = .float .f64 (meanL A) ∧ geT fr1 21 = .float .f64 (meanL B) ∧ geT fr1 123 = .bool (if way = 1 then gtB (meanL B) (meanL A) else ltB (meanL B) (meanL A))) ?_ ?_)
  · intro R' hR'
    by_cases h : way = 1
    · have h2 : ¬ way = 2 := by omega
      rw [if_pos h] at hR'
      cases hg : (ford .f64 (meanL B) (meanL A) == some .gt) with
      | true =>
        simp only [o39_27, WO_bin, WO_move, WO_pick, pick_b, bin_eql, binf_gtr, binf_lss, WO_nil, PureK_some, WO_guard, want_v, wantB_t, wantB_f, geT_put, evO_tmp, evO_const, keep_nil, keep_cons, keepK_eq, Nat.reduceEqDiff, ↓reduceIte, Bool.not_true, eq_self, Bool.false_eq_true, e2, e20, e21, decide_eq_true h, hg]
        intro fr e20 e21 e123
        exact hR' _ _ ⟨rfl, e20, e21, by rw [e123, gtB, hg]⟩
      | false =>
        simp only [o39_27, WO_bin, WO_move, WO_pick, pick_b, bin_eql, binf_gtr, WO_nil, PureK_some, WO_guard, want_v, wantB_t, wantB_f, geT_put, evO_tmp, evO_const, keep_nil, keep_cons, keepK_eq, Nat.reduceEqDiff, ↓reduceIte, Bool.not_false, eq_self, Bool.false_eq_true, e2, e20, e21, decide_eq_true h, hg, decide_eq_false h2]
        intro fr e20 e21 e123
        exact hR' _ _ ⟨rfl, e20, e21, by rw [e123, gtB, hg]⟩
    · have h2 : way = 2 := by omega
      rw [if_neg h] at hR'
      simp only [o39_27, WO_bin, WO_move, WO_pick, pick_b, bin_eql, binf_lss, WO_nil, PureK_some, WO_guard, want_v, wantB_t, wantB_f, geT_put, evO_tmp, evO_const, keep_nil, keep_cons, keepK_eq, Nat.reduceEqDiff, ↓reduceIte, Bool.not_false, eq_self, Bool.false_eq_true, e2, e20, e21, decide_eq_false h, decide_eq_true h2]
      intro fr e20 e21 e123
      exact hR' _ _ ⟨rfl, e20, e21, e123⟩
  clear e2 e20 e21 fr
  rintro fr _ ⟨rfl, e20, e21, e123⟩
  refine SeqK_n ?_
  have hres : ∀ x, LV L at_ way g t nth x = (x = if (if way = 1 then gtB (meanL B) (meanL A) else ltB (meanL B) (meanL A)) = true then meanL B else meanL A) := fun x => by
    rw [hLV, if_neg h0, hRV, ofF, ofF, if_neg hA0, if_neg hA0, if_neg hB0, if_neg hB0]
    by_cases h : way = 1
    · rw [if_pos h, if_pos h]
    · rw [if_neg h, if_neg h]
  generalize (if way = 1 then gtB (meanL B) (meanL A) else ltB (meanL B) (meanL A)) = bb at e123 hres
  cases bb with
  | true =>
    refine W_seq (W_cond e123 (fun _ => ?_) (fun h => by cases h))
    refine W_seq (W_ops [12] ?_)
    simp only [o39_28, WO_move, WO_nil, geT_put, evO_tmp, keep_nil, keep_cons, keepK_eq, ↓reduceIte, eq_self, e21]
    clear e20 e21 e123
    intro fr e12
    refine SeqK_n ?_
    exact W_ret (SeqK_r (Ret1 e12 ⟨_, rfl, by rw [hres, if_pos rfl], HF⟩))
  | false =>
    refine W_seq (W_cond e123 (fun h => by cases h) (fun _ => W_skip (SeqK_n ?_)))
    refine W_seq (W_ops [12] ?_)
    simp only [o39_29, WO_move, WO_nil, geT_put, evO_tmp, keep_nil, keep_cons, keepK_eq, ↓reduceIte, eq_self, e20]
    clear e20 e21 e123
    intro fr e12
    refine SeqK_n ?_
    exact W_ret (Ret1 e12 ⟨_, rfl, by rw [hres, if_neg (by simp)], HF⟩)

end Go.Proofs.Ytfjdihfflghfpaa
