/- Cfar: the document's Level and Line, walked; what both tell is the same. -/
import Derived.Test.YtfjdihfflghfpaaSH
namespace Go.Proofs.Ytfjdihfflghfpaa
open Go Go.Vam Go.Sort

/-- The same float, as far as can be seen. -/
def FE (x y : Nat) : Prop := x = y ∨ (x < 18446744073709551616 ∧ y < 18446744073709551616 ∧ kap x = kap y)

theorem NV.words {d : Array UInt64} {z : Int} {x y : Nat} {e f : Int} (h1 : NV d z x e) (h2 : NV d z y f) : kap x = kap y := (h1.same h2).2

theorem LV.same {L : List UInt64} {at_ way g t nth : Int} {x y : Nat} (h1 : LV L at_ way g t nth x) (h2 : LV L at_ way g t nth y) : FE x y := by
  unfold LV at h1 h2
  split at h1
  · rename_i h
    rw [if_pos h] at h2
    exact .inl (by rw [h1, h2])
  · rename_i h
    rw [if_neg h] at h2
    unfold RV at h1 h2
    split at h1
    · rename_i h3
      rw [if_pos h3] at h2
      exact .inr ⟨h1.1, h2.1, h1.2.words h2.2⟩
    · rename_i h3
      rw [if_neg h3] at h2
      exact .inl (by rw [h1, h2])

theorem nan_fmul {x t : Nat} (h : nanW x = true) : fmul .f64 x t = nanF .f64 := by
  unfold nanW at h
  obtain ⟨s, f, hr⟩ := nanRead (of_decide_eq_true h)
  show fres .f64 (((Ieee.double.read x).product (Ieee.double.read t)).map Ieee.double.write) = _
  rw [hr]
  cases Ieee.double.read t <;> rfl
theorem nan_fsub {x : Nat} (h : nanW x = true) : fsub .f64 x x = nanF .f64 := by
  unfold nanW at h
  obtain ⟨s, f, hr⟩ := nanRead (of_decide_eq_true h)
  show fres .f64 (((Ieee.double.read x).sum (Ieee.double.read x).opposite).map Ieee.double.write) = _
  rw [hr]
  rfl

theorem FE.gt {x y w t : Nat} (h : FE x y) : gtB w (fmul .f64 x t) = gtB w (fmul .f64 y t) := by
  rcases h with rfl | ⟨hx, hy, hk⟩
  · rfl
  · cases nx : nanW x with
    | true =>
      cases ny : nanW y with
      | true => rw [nan_fmul nx, nan_fmul ny]
      | false => have := kap_lt ny; rw [kap_nan nx] at hk; omega
    | false =>
      cases ny : nanW y with
      | true => have := kap_lt nx; rw [kap_nan ny] at hk; omega
      | false => rw [kap_inj hx hy nx ny hk]

theorem LvR.same {L : List UInt64} {at_ way g t nth : Int} {x y : Nat} {e f : Int} (h1 : LvR L at_ way g t nth x e) (h2 : LvR L at_ way g t nth y f) : e = f ∧ FE x y := by
  unfold LvR at h1 h2
  split at h1
  · rename_i h
    rw [if_pos h] at h2
    exact ⟨by rw [h1.2, h2.2], .inl (by rw [h1.1, h2.1])⟩
  · rename_i h
    rw [if_neg h] at h2
    split at h1
    · rename_i h3
      rw [if_pos h3] at h2
      exact ⟨by rw [h1.2, h2.2], .inl (by rw [h1.1, h2.1])⟩
    · rename_i h3
      rw [if_neg h3] at h2
      exact ⟨by rw [h1.2, h2.2], h1.1.same h2.1⟩

theorem LnR.same {L : List UInt64} {way g t nth : Int} {times : Nat} {bs cs : List Bool} {e f : Int} (h1 : LnR L way g t nth times bs e) (h2 : LnR L way g t nth times cs f) : e = f ∧ bs = cs := by
  unfold LnR at h1 h2
  split at h1
  · rename_i h
    rw [if_pos h] at h2
    exact ⟨by rw [h1.2, h2.2], by rw [h1.1, h2.1]⟩
  · rename_i h
    rw [if_neg h] at h2
    split at h1
    · rename_i h3
      rw [if_pos h3] at h2
      exact ⟨by rw [h1.2, h2.2], by rw [h1.1, h2.1]⟩
    · rename_i h3
      rw [if_neg h3] at h2
      obtain ⟨a1, a2, a3⟩ := h1
      obtain ⟨b1, b2, b3⟩ := h2
      refine ⟨by rw [a1, b1], List.ext_getElem? fun i => ?_⟩
      by_cases hi : i < L.length
      · obtain ⟨x, hx, gx⟩ := a3 i hi
        obtain ⟨y, hy, gy⟩ := b3 i hi
        rw [gx, gy, (hx.same hy).gt]
      · rw [List.getElem?_eq_none (by omega), List.getElem?_eq_none (by omega)]

def fin2 (t : Nat) : Bool := (ford .f64 t t == some .eq) && ((ford .f64 t 9218868437227405311 == some .lt || ford .f64 t 9218868437227405311 == some .eq) && (ford .f64 t 18442240474082181119 == some .gt || ford .f64 t 18442240474082181119 == some .eq))

theorem fle_of {x y : Nat} {a b : Int} (hx : x < 18446744073709551616) (hy : y < 18446744073709551616) (h1 : fkey x = some a) (h2 : fkey y = some b) (h : a ≤ b) : (ford .f64 x y == some .lt || ford .f64 x y == some .eq) = true := by
  rw [Bool.or_eq_true]
  by_cases he : a = b
  · exact .inr ((feq_iff hx hy).2 ⟨a, h1, by rw [h2, he]⟩)
  · exact .inl ((flt_iffW hx hy).2 ⟨a, b, h1, h2, by omega⟩)
theorem fge_of {x y : Nat} {a b : Int} (hx : x < 18446744073709551616) (hy : y < 18446744073709551616) (h1 : fkey x = some a) (h2 : fkey y = some b) (h : b ≤ a) : (ford .f64 x y == some .gt || ford .f64 x y == some .eq) = true := by
  rw [Bool.or_eq_true]
  by_cases he : a = b
  · exact .inr ((feq_iff hx hy).2 ⟨a, h1, by rw [h2, he]⟩)
  · exact .inl ((fgt_iff hx hy).2 ⟨a, b, h1, h2, by omega⟩)

theorem fin_two {t : Nat} (ht : t < 18446744073709551616) : fin2 t = finT t := by
  cases nt : nanW t with
  | true =>
    unfold fin2 finT
    have h0 : (ford .f64 (nanF .f64) 0 == some .eq) = false := by decide
    rw [eq_self_is ht, nt, nan_fsub nt, h0]
    rfl
  | false =>
    have hr : t % 9223372036854775808 ≤ infR := by
      unfold nanW at nt
      have := of_decide_eq_false nt
      omega
    by_cases hi : t % 9223372036854775808 = infR
    · have hI : infR = 9218868437227405312 := rfl
      have hc : t = 9218868437227405312 ∨ t = 18442240474082181120 := by omega
      rcases hc with rfl | rfl
      · decide +kernel
      · decide +kernel
    · have hlt : t % 9223372036854775808 < infR := by omega
      have hw := wordOf ht
      have hf : finT t = true := by
        unfold finT
        obtain ⟨z, h1, h2⟩ := sub_rn hlt hlt (decide (9223372036854775808 ≤ t)) (decide (9223372036854775808 ≤ t))
        rw [← hw] at h1
        rw [Int.sub_self] at h1 h2
        have hz : z = 0 := Nat.le_zero.1 (h2.le 0 (by decide))
        rw [h1, hz, if_pos rfl]
        cases decide (9223372036854775808 ≤ t) <;> decide
      rw [hf]
      have k0 := fkey_num nt
      have hs := sv_le (r := t % 9223372036854775808) (q := infR - 1) (by omega)
      have k1 : fkey 9218868437227405311 = some ((sv (infR - 1) : Nat) : Int) := by
        unfold fkey
        rw [if_pos (by decide)]; rfl
      have k2 : fkey 18442240474082181119 = some (-((sv (infR - 1) : Nat) : Int)) := by
        unfold fkey
        rw [if_pos (by decide)]; rfl
      unfold fin2
      rw [eq_self_is ht, nt, fle_of ht (by decide) k0 k1 (by unfold sw; generalize sv (infR - 1) = b at *; generalize sv (t % 9223372036854775808) = c at *; split <;> omega),
        fge_of ht (by decide) k0 k2 (by unfold sw; generalize sv (infR - 1) = b at *; generalize sv (t % 9223372036854775808) = c at *; split <;> omega)]
      rfl


theorem run40 {X : Ctx} (hX : X.fns = fnsOf Try.prog) (ho : ∀ f args, f ≠ 10 ∧ f ≠ 24 → X.orc f args = none) {s : Mm} {t : Nat} (ht : t < 18446744073709551616) : CallP X 40 [.float .f64 t] s (fun r s' => r = .bool (finT t) ∧ s = s') := by
  have hf := fin_two ht
  refine CallP_of (hX ▸ ir40_eq) (ho _ _ (by decide)) (Nat.le_of_ble_eq_true rfl) ?_
  refine W_seq (W_ops [0] ?_)
  simp only [o40_0, WO_move, WO_nil, geT_put, frame_nil, frame_cons, evO_const, keep_nil, keep_cons, keepK_eq, Nat.reduceEqDiff, ↓reduceIte, eq_self, Nat.zero_add]
  intro fr e0
  refine SeqK_n ?_
  cases h1 : (ford .f64 t t == some .eq) with
  | false =>
    refine W_seq (W_ops [2] ?_)
    simp only [o40_1, WO_bin, WO_move, WO_pick, pick_b, binf_eql, WO_nil, PureK_some, WO_guard, want_v, wantB_t, geT_put, evO_tmp, evO_const, keep_nil, keep_cons, keepK_eq, Nat.reduceEqDiff, ↓reduceIte, eq_self, Bool.false_eq_true, e0, h1]
    clear e0
    intro fr e2
    refine SeqK_n ?_
    exact W_ret (Ret1 e2 ⟨by rw [← hf, fin2, h1]; rfl, rfl⟩)
  | true =>
    cases h2 : (ford .f64 t 9218868437227405311 == some .lt || ford .f64 t 9218868437227405311 == some .eq) with
    | false =>
      refine W_seq (W_ops [2] ?_)
      simp only [o40_1, WO_bin, WO_move, WO_pick, pick_b, binf_eql, binf_leq, WO_nil, PureK_some, WO_guard, want_v, wantB_t, geT_put, evO_tmp, evO_const, keep_nil, keep_cons, keepK_eq, Nat.reduceEqDiff, ↓reduceIte, eq_self, Bool.false_eq_true, e0, h1, h2]
      clear e0
      intro fr e2
      refine SeqK_n ?_
      exact W_ret (Ret1 e2 ⟨by rw [← hf, fin2, h1, h2]; rfl, rfl⟩)
    | true =>
      refine W_seq (W_ops [2] ?_)
      simp only [o40_1, WO_bin, WO_move, WO_pick, pick_b, binf_eql, binf_geq, binf_leq, WO_nil, PureK_some, WO_guard, want_v, wantB_t, geT_put, evO_tmp, evO_const, keep_nil, keep_cons, keepK_eq, Nat.reduceEqDiff, ↓reduceIte, eq_self, e0, h1, h2]
      clear e0
      intro fr e2
      refine SeqK_n ?_
      exact W_ret (Ret1 e2 ⟨by rw [← hf, fin2, h1, h2]; rfl, rfl⟩)

theorem run13 {X : Ctx} (hX : X.fns = fnsOf Try.prog) (ho : ∀ f args, f ≠ 10 ∧ f ≠ 24 → X.orc f args = none) {s0 s : Mm} {l : List HP} {v : Value} {L : List UInt64} {at_ way g t nth : Int} (H : Hold s0 s l) (a : SlC s 1 v L.length (flT L)) :
    CallP X 13 [v, .int .i64 at_, .int .i8 way, .int .i64 g, .int .i64 t, .int .i64 nth] s (fun r s' => ∃ x e, r = .tuple #[.float .f64 x, .int .i64 e] ∧ LvR L at_ way g t nth x e ∧ Hold s0 s' l) := by
  refine CallP_of (hX ▸ ir13_eq) (ho _ _ (by decide)) (Nat.le_of_ble_eq_true rfl) ?_
  refine W_seq (W_ops [0, 1, 2, 3, 4, 5] ?_)
  simp only [o13_0, WO_move, WO_nil, geT_put, frame_nil, frame_cons, evO_const, keep_nil, keep_cons, keepK_eq, Nat.reduceEqDiff, Nat.reduceAdd, ↓reduceIte, eq_self, Nat.zero_add]
  intro fr e0 e1 e2 e3 e4 e5
  refine SeqK_n ?_
  refine W_assoc ?_
  refine W_seq (W_ops [0, 1, 2, 3, 4, 5, 16] ?_)
  simp only [o13_1, WO_bin, WO_bu, WO_move, bin_gtr, WO_nil, PureK_some, geT_put, evO_tmp, evO_const, keep_nil, keep_cons, keepK_eq, List.map_cons, List.map_nil, Nat.reduceEqDiff, ↓reduceIte, eq_self, e0, e1, e2, e3, e4, e5, a.len]
  clear e0 e1 e2 e3 e4 e5
  intro fr e0 e1 e2 e3 e4 e5 e16
  refine SeqK_n ?_
  refine W_seq (W_if e16 (fun h => ?_) (fun h => W_skip (SeqK_n ?_)))
  · refine W_seq (W_ops [12, 13] ?_)
    simp only [o13_2, WO_move, WO_nil, geT_put, evO_const, keep_nil, keep_cons, keepK_eq, Nat.reduceEqDiff, ↓reduceIte, eq_self]
    clear e0 e1 e2 e3 e4 e5 e16
    intro fr e12 e13
    refine SeqK_n ?_
    have hE : lkE L.length g t nth = 3 := by rw [lkE, if_pos (by omega)]
    exact W_ret (SeqK_r (Ret2 e12 e13 ⟨0, 3, rfl, by rw [LvR, if_pos (by rw [hE]; decide), hE]; exact ⟨rfl, rfl⟩, H⟩))
  refine W_assoc ?_
  refine W_seq (W_opsB [0, 1, 2, 3, 4, 5, 31] (fun fr1 s6 => s = s6 ∧ geT fr1 0 = v ∧ geT fr1 1 = .int .i64 at_ ∧ geT fr1 2 = .int .i8 way ∧ geT fr1 3 = .int .i64 g ∧ geT fr1 4 = .int .i64 t ∧ geT fr1 5 = .int .i64 nth ∧ geT fr1 31 = .bool (decide (badN g t nth ∨ at_ < 0 ∨ (L.length : Int) ≤ at_))) ?_ ?_)
  · intro R' hR'
    simp only [o13_3, WO_move, WO_call, geT_put, evO_tmp, List.map_cons, List.map_nil, Nat.reduceEqDiff, ↓reduceIte, eq_self, e3, e4, e5]
    refine CallK_of (run38 hX ho) ?_
    rintro _ _ ⟨rfl, rfl⟩
    by_cases hb : badN g t nth
    · simp only [WO_move, WO_pick, pick_b, WO_un, un_not, WO_nil, PureK_some, WO_guard, want_v, wantB_f, geT_put, evO_tmp, evO_const, keep_nil, keep_cons, keepK_eq, Nat.reduceEqDiff, ↓reduceIte, Bool.not_true, Bool.not_false, eq_self, Bool.false_eq_true, e0, e1, e2, e3, e4, e5, decide_eq_true hb]
      intro fr e0 e1 e2 e3 e4 e5 e31
      exact hR' _ _ ⟨rfl, e0, e1, e2, e3, e4, e5, by rw [e31]; exact congrArg Value.bool (decide_eq_true (.inl hb)).symm⟩
    · by_cases h0 : at_ < 0
      · simp only [WO_bin, WO_move, WO_pick, pick_b, WO_un, un_not, bin_lss, WO_nil, PureK_some, WO_guard, want_v, wantB_f, geT_put, evO_tmp, evO_const, keep_nil, keep_cons, keepK_eq, Nat.reduceEqDiff, ↓reduceIte, Bool.not_true, Bool.not_false, eq_self, Bool.false_eq_true, e0, e1, e2, e3, e4, e5, decide_eq_false hb, decide_eq_true h0]
        intro fr e0 e1 e2 e3 e4 e5 e31
        exact hR' _ _ ⟨rfl, e0, e1, e2, e3, e4, e5, by rw [e31]; exact congrArg Value.bool (decide_eq_true (.inr (.inl h0))).symm⟩
      · simp only [WO_bin, WO_bu, WO_move, WO_pick, pick_b, WO_un, un_not, bin_geq, bin_lss, WO_nil, PureK_some, WO_guard, want_v, wantB_f, geT_put, evO_tmp, evO_const, keep_nil, keep_cons, keepK_eq, List.map_cons, List.map_nil, Nat.reduceEqDiff, ↓reduceIte, Bool.not_true, Bool.not_false, eq_self, Bool.false_eq_true, e0, e1, e2, e3, e4, e5, decide_eq_false hb, decide_eq_false h0, a.len]
        intro fr e0 e1 e2 e3 e4 e5 e31
        exact hR' _ _ ⟨rfl, e0, e1, e2, e3, e4, e5, by rw [e31]; exact congrArg Value.bool (decide_eq_decide.2 ⟨fun q => .inr (.inr q), fun q => by
          rcases q with q | q | q
          · exact absurd q hb
          · exact absurd q h0
          · exact q⟩)⟩
  clear e0 e1 e2 e3 e4 e5 e16 fr
  rintro fr _ ⟨rfl, e0, e1, e2, e3, e4, e5, e31⟩
  refine SeqK_n ?_
  refine W_seq (W_if e31 (fun h1 => ?_) (fun h1 => W_skip (SeqK_n ?_)))
  · skip
    refine W_seq (W_ops [12, 13] ?_)
    simp only [o13_4, WO_move, WO_nil, geT_put, evO_const, keep_nil, keep_cons, keepK_eq, Nat.reduceEqDiff, ↓reduceIte, eq_self]
    clear e0 e1 e2 e3 e4 e5 e31
    intro fr e12 e13
    refine SeqK_n ?_
    refine W_ret (SeqK_r (Ret2 e12 e13 ⟨0, 2, rfl, ?_, H⟩))
    by_cases hb : badN g t nth
    · have hE : lkE L.length g t nth = 2 := by rw [lkE, if_neg (by omega), if_pos hb]
      rw [LvR, if_pos (by rw [hE]; decide), hE]; exact ⟨rfl, rfl⟩
    · have hE : lkE L.length g t nth = 0 := by rw [lkE, if_neg (by omega), if_neg hb]
      rw [LvR, if_neg (by rw [hE]; simp), if_pos (by rcases h1 with q | q; exact absurd q hb; exact q)]; exact ⟨rfl, rfl⟩
  have hb : ¬ badN g t nth := fun q => h1 (.inl q)
  have h2 : ¬ (at_ < 0 ∨ (L.length : Int) ≤ at_) := fun q => h1 (.inr q)
  have hE : lkE L.length g t nth = 0 := by rw [lkE, if_neg (by omega), if_neg hb]
  refine W_seq (W_ops [12, 13] ?_)
  simp only [o13_5, WO_call, WO_move, geT_put, evO_tmp, List.map_cons, List.map_nil, Nat.reduceEqDiff, ↓reduceIte, eq_self, e0, e1, e2, e3, e4, e5]
  refine CallK_of (run39 hX ho H a (by omega) hb (by omega)) ?_
  rintro _ s5 ⟨x, rfl, hx, H5⟩
  simp only [WO_move, WO_nil, geT_put, evO_tmp, evO_const, keep_nil, keep_cons, keepK_eq, Nat.reduceEqDiff, ↓reduceIte, eq_self]
  clear e0 e1 e2 e3 e4 e5 e31
  intro fr e12 e13
  refine SeqK_n ?_
  exact W_ret (Ret2 e12 e13 ⟨x, 0, rfl, by rw [LvR, if_neg (by rw [hE]; simp), if_neg h2]; exact ⟨hx, rfl⟩, H5⟩)

set_option maxHeartbeats 4000000 in
theorem run17 {X : Ctx} (hX : X.fns = fnsOf Try.prog) (ho : ∀ f args, f ≠ 10 ∧ f ≠ 24 → X.orc f args = none) {s0 s : Mm} {l : List HP} {v : Value} {L : List UInt64} {way g t nth : Int} {times : Nat} (H : Hold s0 s l) (a : SlC s 1 v L.length (flT L)) (ht : times < 18446744073709551616) :
    CallP X 17 [v, .int .i8 way, .int .i64 g, .int .i64 t, .int .i64 nth, .float .f64 times] s (fun r s' => ∃ bv bs e, r = .tuple #[bv, .int .i64 e] ∧ LnR L way g t nth times bs e ∧ Hold s0 s' (HP.own 1 bv bs.length (blT bs) :: l)) := by
  refine CallP_of (hX ▸ ir17_eq) (ho _ _ (by decide)) (Nat.le_of_ble_eq_true rfl) ?_
  refine W_seq (W_ops [0, 1, 2, 3, 4, 5] ?_)
  simp only [o17_0, WO_move, WO_nil, geT_put, frame_nil, frame_cons, evO_const, keep_nil, keep_cons, keepK_eq, Nat.reduceEqDiff, Nat.reduceAdd, ↓reduceIte, eq_self, Nat.zero_add]
  intro fr e0 e1 e2 e3 e4 e5
  refine SeqK_n ?_
  refine W_assoc ?_
  refine W_seq (W_ops [0, 1, 2, 3, 4, 5, 20] ?_)
  simp only [o17_1, WO_bin, WO_bu, WO_move, bin_gtr, WO_nil, PureK_some, geT_put, evO_tmp, evO_const, keep_nil, keep_cons, keepK_eq, List.map_cons, List.map_nil, Nat.reduceEqDiff, ↓reduceIte, eq_self, e0, e1, e2, e3, e4, e5, a.len]
  clear e0 e1 e2 e3 e4 e5
  intro fr e0 e1 e2 e3 e4 e5 e20
  refine SeqK_n ?_
  refine W_seq (W_if e20 (fun h => ?_) (fun h => W_skip (SeqK_n ?_)))
  · refine W_seq (W_ops [12, 13] ?_)
    simp only [o17_2, WO_move, WO_nil, geT_put, evO_const, keep_nil, keep_cons, keepK_eq, Nat.reduceEqDiff, ↓reduceIte, eq_self]
    clear e0 e1 e2 e3 e4 e5 e20
    intro fr e12 e13
    refine SeqK_n ?_
    have hE : lkE L.length g t nth = 3 := by rw [lkE, if_pos (by omega)]
    exact W_ret (SeqK_r (Ret2 e12 e13 ⟨_, [], 3, rfl, by rw [LnR, if_pos (by rw [hE]; decide), hE]; exact ⟨rfl, rfl⟩, H.nil 1⟩))
  refine W_assoc ?_
  refine W_seq (W_ops [0, 1, 2, 3, 4, 5, 25] ?_)
  simp only [o17_3, WO_call, WO_move, geT_put, evO_tmp, List.map_cons, List.map_nil, Nat.reduceEqDiff, ↓reduceIte, eq_self, e2, e3, e4]
  refine CallK_of (run38 hX ho) ?_
  rintro _ _ ⟨rfl, rfl⟩
  simp only [WO_un, un_not, WO_nil, PureK_some, geT_put, evO_tmp, keep_nil, keep_cons, keepK_eq, Nat.reduceEqDiff, ↓reduceIte, Bool.not_not, eq_self, e0, e1, e2, e3, e4, e5]
  clear e0 e1 e2 e3 e4 e5 e20
  intro fr e0 e1 e2 e3 e4 e5 e25
  refine SeqK_n ?_
  by_cases hb : badN g t nth
  · have hd : (!!decide (badN g t nth)) = true := by rw [decide_eq_true hb]; rfl
    first | rw [hd] at e25 | rw [Bool.not_not, decide_eq_true hb] at e25 | rw [decide_eq_true hb] at e25
    refine W_seq (W_cond e25 (fun _ => ?_) (fun h => by cases h))
    refine W_seq (W_ops [12, 13] ?_)
    simp only [o17_4, WO_move, WO_nil, geT_put, evO_const, keep_nil, keep_cons, keepK_eq, Nat.reduceEqDiff, ↓reduceIte, eq_self]
    clear e0 e1 e2 e3 e4 e5 e25
    intro fr e12 e13
    refine SeqK_n ?_
    have hE : lkE L.length g t nth = 2 := by rw [lkE, if_neg (by omega), if_pos hb]
    exact W_ret (SeqK_r (Ret2 e12 e13 ⟨_, [], 2, rfl, by rw [LnR, if_pos (by rw [hE]; decide), hE]; exact ⟨rfl, rfl⟩, H.nil 1⟩))
  have hE : lkE L.length g t nth = 0 := by rw [lkE, if_neg (by omega), if_neg hb]
  first | rw [Bool.not_not, decide_eq_false hb] at e25 | rw [decide_eq_false hb] at e25
  refine W_seq (W_cond e25 (fun h => by cases h) (fun _ => W_skip (SeqK_n ?_)))
  refine W_assoc ?_
  refine W_seq (W_ops [0, 1, 2, 3, 4, 5, 28] ?_)
  simp only [o17_5, WO_call, WO_move, geT_put, evO_tmp, List.map_cons, List.map_nil, ↓reduceIte, eq_self, e5]
  refine CallK_of (run40 hX ho ht) ?_
  rintro _ _ ⟨rfl, rfl⟩
  simp only [WO_un, un_not, WO_nil, PureK_some, geT_put, evO_tmp, keep_nil, keep_cons, keepK_eq, Nat.reduceEqDiff, ↓reduceIte, eq_self, e0, e1, e2, e3, e4, e5]
  clear e0 e1 e2 e3 e4 e5 e25
  intro fr e0 e1 e2 e3 e4 e5 e28
  refine SeqK_n ?_
  cases hf : finT times with
  | false =>
    rw [hf] at e28
    refine W_seq (W_cond e28 (fun _ => ?_) (fun h => absurd h (by decide)))
    refine W_seq (W_ops [12, 13] ?_)
    simp only [o17_6, WO_move, WO_nil, geT_put, evO_const, keep_nil, keep_cons, keepK_eq, Nat.reduceEqDiff, ↓reduceIte, eq_self]
    clear e0 e1 e2 e3 e4 e5 e28
    intro fr e12 e13
    refine SeqK_n ?_
    exact W_ret (SeqK_r (Ret2 e12 e13 ⟨_, [], 6, rfl, by rw [LnR, if_neg (by rw [hE]; simp), if_pos hf]; exact ⟨rfl, rfl⟩, H.nil 1⟩))
  | true =>
    rw [hf] at e28
    refine W_seq (W_cond e28 (fun h => absurd h (by decide)) (fun _ => W_skip (SeqK_n ?_)))
    refine W_seq (W_ops [0, 1, 2, 3, 4, 5, 14] ?_)
    simp only [o17_7, WO_move, WO_nil, geT_put, evO_const, keep_nil, keep_cons, keepK_eq, Nat.reduceEqDiff, ↓reduceIte, eq_self, e0, e1, e2, e3, e4, e5]
    clear e0 e1 e2 e3 e4 e5 e28
    intro fr e0 e1 e2 e3 e4 e5 e14
    refine SeqK_n ?_
    refine W_assoc ?_
    refine W_seq (W_ops [0, 1, 2, 3, 4, 5, 14, 15] ?_)
    simp only [o17_8, WO_move, WO_nil, geT_put, evO_const, keep_nil, keep_cons, keepK_eq, Nat.reduceEqDiff, ↓reduceIte, eq_self, e0, e1, e2, e3, e4, e5, e14]
    clear e0 e1 e2 e3 e4 e5 e14
    intro fr e0 e1 e2 e3 e4 e5 e14 e15
    refine SeqK_n ?_
    refine W_seq (W_block (W_loop (fun m fr s1 => ∃ (i : Nat) (ov : Value) (bs : List Bool), i + m = L.length ∧ bs.length = i ∧ (∀ j, j < i → ∀ hj : j < L.length, ∃ x, LV L (j : Nat) way g t nth x ∧ bs[j]? = some (gtB (L[j]).toNat (fmul .f64 x times))) ∧
      geT fr 0 = v ∧ geT fr 1 = .int .i8 way ∧ geT fr 2 = .int .i64 g ∧ geT fr 3 = .int .i64 t ∧ geT fr 4 = .int .i64 nth ∧ geT fr 5 = .float .f64 times ∧ geT fr 14 = ov ∧ geT fr 15 = .int .i64 (i : Nat) ∧
      Hold s s1 [HP.own 1 ov bs.length (blT bs)]) L.length ⟨0, _, [], by omega, rfl, fun j hj => by omega, e0, e1, e2, e3, e4, e5, e14, e15, (Hold.refl s).nil 1⟩ ?_))
    clear e0 e1 e2 e3 e4 e5 e14 e15 fr
    rintro m fr s1 ⟨i, ov, bs, hi, hbl, hok, e0, e1, e2, e3, e4, e5, e14, e15, H1⟩
    have a1 := a.same H1.same (fun _ _ h => h)
    refine W_assoc ?_
    refine W_seq (W_ops [0, 1, 2, 3, 4, 5, 14, 15, 32] ?_)
    simp only [o17_10, WO_bin, WO_bu, WO_move, bin_lss, WO_nil, PureK_some, geT_put, evO_tmp, keep_nil, keep_cons, keepK_eq, List.map_cons, List.map_nil, Nat.reduceEqDiff, ↓reduceIte, eq_self, e0, e1, e2, e3, e4, e5, e14, e15, a1.len]
    clear e0 e1 e2 e3 e4 e5 e14 e15
    intro fr e0 e1 e2 e3 e4 e5 e14 e15 e32
    refine SeqK_n ?_
    refine W_while e32 (fun hlt => ?_) (fun hlt => ?_)
    · have hiL : i < L.length := by omega
      have A1 := a1.addr (kk := .i64) (i := (i : Int)) rfl hiL
      rw [Nat.mul_one] at A1
      refine W_seq (W_block ?_)
      refine W_seq (W_ops [0, 1, 2, 3, 4, 5, 14, 15, 16] ?_)
      simp only [o17_11, WO_call, WO_move, geT_put, evO_tmp, List.map_cons, List.map_nil, Nat.reduceEqDiff, ↓reduceIte, eq_self, e0, e1, e2, e3, e4, e15]
      refine CallK_of (run39 hX ho H1 a1 (by omega) hb (show 0 ≤ ((i : Nat) : Int) ∧ ((i : Nat) : Int) < (L.length : Int) by omega)) ?_
      rintro _ s2 ⟨x, rfl, hx, H2⟩
      simp only [WO_move, WO_nil, geT_put, evO_tmp, keep_nil, keep_cons, keepK_eq, Nat.reduceEqDiff, ↓reduceIte, eq_self, e0, e1, e2, e3, e4, e5, e14, e15]
      clear e0 e1 e2 e3 e4 e5 e14 e15 e32
      intro fr e0 e1 e2 e3 e4 e5 e14 e15 e16
      refine SeqK_n ?_
      refine W_seq (W_ops [0, 1, 2, 3, 4, 5, 14, 15, 17] ?_)
      simp only [o17_12, WO_bin, WO_move, binf_mul, WO_nil, PureK_some, geT_put, evO_tmp, keep_nil, keep_cons, keepK_eq, Nat.reduceEqDiff, ↓reduceIte, eq_self, e0, e1, e2, e3, e4, e5, e14, e15, e16]
      clear e0 e1 e2 e3 e4 e5 e14 e15 e16
      intro fr e0 e1 e2 e3 e4 e5 e14 e15 e17
      refine SeqK_n ?_
      have a2 := a.same H2.same (fun _ _ h => h)
      have L2 : loadV s2 none (elP v i) = some (.float .f64 (L[i]).toNat) := a2.load (flT_get hiL)
      have hgt : (ford .f64 (L[i]).toNat (fmul .f64 x times) == some .gt) = gtB (L[i]).toNat (fmul .f64 x times) := rfl
      have hbs : buildSlV s2 1 [.bool false] 1 [(0, 1, .bool (gtB (L[i]).toNat (fmul .f64 x times)))] = some (.slice (some ⟨s2.nxt, 0, none⟩) 1 1, .cells [.bool (gtB (L[i]).toNat (fmul .f64 x times))] false) := rfl
      obtain ⟨ov', s3, ap, H3⟩ := H2.push (bytes := 1) (new := [.bool (gtB (L[i]).toNat (fmul .f64 x times))]) rfl rfl (by omega) (by decide) (by omega) (by omega) (by omega)
      have hpu : blT bs ++ [.bool (gtB (L[i]).toNat (fmul .f64 x times))] = blT (bs ++ [gtB (L[i]).toNat (fmul .f64 x times)]) := by simp [blT]
      have hfl : bs.length + 1 = (bs ++ [gtB (L[i]).toNat (fmul .f64 x times)]).length := by simp
      rw [hpu, hfl] at H3
      refine W_ops [0, 1, 2, 3, 4, 5, 14, 15] ?_
      simp only [o17_13, WO_addrSl, WO_append, WO_bin, WO_buildSlice, WO_load, WO_move, binf_gtr, WO_nil, PureK_some, MemK_some, NewK_some, geT_put, evO_tmp, keep_nil, keep_cons, keepK_eq, List.map_cons, List.map_nil, Nat.reduceEqDiff, ↓reduceIte, eq_self, Nat.mul_one, e0, e1, e2, e3, e4, e5, e14, e15, e17, A1, L2, hgt, hbs, ap]
      clear e0 e1 e2 e3 e4 e5 e14 e15 e17
      intro fr e0 e1 e2 e3 e4 e5 e14 e15
      refine BlkK_n (SeqK_n ?_)
      refine W_ops [0, 1, 2, 3, 4, 5, 14, 15] ?_
      simp only [o17_14, WO_bin, WO_move, bin_add, WO_nil, PureK_some, geT_put, evO_tmp, evO_const, keep_nil, keep_cons, keepK_eq, Nat.reduceEqDiff, ↓reduceIte, eq_self, e0, e1, e2, e3, e4, e5, e14, e15, wrap_i64 (n := (i : Int) + 1) (by omega) (by omega)]
      clear e0 e1 e2 e3 e4 e5 e14 e15
      intro fr e0 e1 e2 e3 e4 e5 e14 e15
      refine LoopK_n (m' := m - 1) (by omega) ⟨i + 1, ov', _, by omega, by simp [hbl], fun j hj hjL => ?_, e0, e1, e2, e3, e4, e5, e14, by rw [e15]; rfl, H3⟩
      by_cases hji : j = i
      · subst hji
        exact ⟨x, hx, by rw [List.getElem?_append_right (by omega), hbl, Nat.sub_self]; rfl⟩
      · obtain ⟨y, hy1, hy2⟩ := hok j (by omega) hjL
        exact ⟨y, hy1, by rw [List.getElem?_append_left (by omega)]; exact hy2⟩
    · have hiL : i = L.length := by omega
      subst hiL
      refine LoopK_x (BlkK_e (SeqK_n ?_))
      refine W_seq (W_ops [12, 13] ?_)
      simp only [o17_15, WO_move, WO_nil, geT_put, evO_tmp, evO_const, keep_nil, keep_cons, keepK_eq, Nat.reduceEqDiff, ↓reduceIte, eq_self, e14]
      clear e0 e1 e2 e3 e4 e5 e14 e15 e32
      intro fr e12 e13
      refine SeqK_n ?_
      have HF := H.app H1
      simp only [List.cons_append, List.nil_append] at HF
      refine W_ret (Ret2 e12 e13 ⟨ov, bs, 0, rfl, ?_, HF⟩)
      rw [LnR, if_neg (by rw [hE]; simp), if_neg (by rw [hf]; simp)]
      exact ⟨rfl, hbl, fun j hj => hok j hj hj⟩

end Go.Proofs.Ytfjdihfflghfpaa

/- CfarLines, walked. -/
namespace Go.Proofs.Ytfjdihfflghfpaa
open Go Go.Vam Go.Sort

def mk2 : List Value := [.float .f64 4619567317775286272, .float .f64 4620693217682128896]
def kV (way g t nth : Int) (times : Nat) : Value := .agg #[.int .i8 way, .int .i64 g, .int .i64 t, .int .i64 nth, .float .f64 times]
def kC (way g t nth : Int) (times : Nat) : List Value := [.int .i8 way, .int .i64 g, .int .i64 t, .int .i64 nth, .float .f64 times]
theorem kC_is (way g t nth : Int) (times : Nat) : (kV way g t nth times).cells.toList = kC way g t nth times := rfl

/-- The view of a copy: its first cells. -/
theorem view_slc {s : Mm} {room : Value} {L : List UInt64} (o : Own s 1 room (L.length + 2) (flT L ++ mk2)) : SlC s 1 (subS 1 room 0 L.length) L.length (flT L) := by
  have := o.slc.sub (l := 0) (h := L.length) (Nat.zero_le _) (by omega)
  rw [Nat.zero_mul, List.drop_zero, Nat.sub_zero, Nat.mul_one, List.take_append_of_le_length (by rw [flT_len]; omega), List.take_of_length_le (by rw [flT_len]; omega)] at this
  exact this

theorem LnR.len {L : List UInt64} {way g t nth : Int} {times : Nat} {bs : List Bool} {e : Int} (h : LnR L way g t nth times bs e) : bs.length ≤ L.length := by
  unfold LnR at h
  split at h
  · rw [h.1]; exact Nat.zero_le _
  · split at h
    · rw [h.1]; exact Nat.zero_le _
    · rw [h.2.1]; exact Nat.le_refl _

theorem eqb_self (b : Bool) : eqBV true .bool (.bool b) (.bool b) = some (.bool false) := by cases b <;> rfl


/-- Where the law goes on, the list is of no great length. -/
theorem run9 {X : Ctx} (hX : X.fns = fnsOf Try.prog) (ho : ∀ f args, f ≠ 10 ∧ f ≠ 24 → X.orc f args = none) {s : Mm} {n : Nat} {way g t nth : Int} {times : Nat} : CallP X 9 [.int .i64 (n : Nat), kV way g t nth times] s (fun r s' => ∃ b, r = .bool b ∧ (b = false → n ≤ 65536) ∧ Same s s' (fun _ => False)) := by
  have hbx := kC_is way g t nth times
  have H1 := (Hold.refl s).new (kC way g t nth times)
  have lt' : loadV (newAt s (.cells (kC way g t nth times) false)) none (.pointer (some ⟨s.nxt, 2, none⟩)) = some (.int .i64 t) := load_g (o := 2) (H1.cell (List.mem_cons_self ..))
  refine CallP_of (hX ▸ ir9_eq) (ho _ _ (by decide)) (Nat.le_of_ble_eq_true rfl) ?_
  refine W_seq (W_ops [0, 3] ?_)
  simp only [o9_0, WO_box, WO_move, WO_nil, geT_put, frame_nil, frame_cons, evO_tmp, evO_const, keep_nil, keep_cons, keepK_eq, Nat.reduceEqDiff, Nat.reduceAdd, ↓reduceIte, eq_self, Nat.zero_add, hbx]
  intro fr e0 e3
  refine SeqK_n ?_
  by_cases h1 : (65536 : Int) < ((n : Nat) : Int)
  · refine W_seq (W_draw0 [4] rfl ?_)
    simp only [d9_1, WD_bin, WD_move, WD_pick, pick_b, bin_gtr, want_v, wantB_f, WD_nil, DPureK_some, joinAll_nil, setH_self, geT_put, evO_tmp, evO_const, keep_nil, keep_cons, keepK_eq, Nat.reduceEqDiff, Nat.reduceAdd, ↓reduceIte, Bool.not_true, eq_self, Nat.zero_add, e0, decide_eq_true h1, WD_no_move, WD_no_bin, WD_no_pick, WD_no_fieldAddr, WD_no_load, wantB_u]
    clear e0 e3
    intro fr e4
    refine SeqK_n ?_
    exact W_ret (Ret1 e4 ⟨_, rfl, fun h => (by cases h), H1.same⟩)
  · by_cases h2 : (0 : Int) < ((n : Nat) : Int)
    · have h3 : ¬ ((n : Nat) : Int) = 0 := by omega
      have hq : wrapK .i64 ((4194304 : Int).tdiv ((n : Nat) : Int)) = (4194304 : Int).tdiv ((n : Nat) : Int) := by
        have h5 : (4194304 : Int).tdiv ((n : Nat) : Int) = (4194304 : Int) / ((n : Nat) : Int) := Int.tdiv_eq_ediv_of_nonneg (by omega)
        have h6 : 0 ≤ (4194304 : Int) / ((n : Nat) : Int) := Int.ediv_nonneg (by omega) (by omega)
        have h7 : (4194304 : Int) / ((n : Nat) : Int) ≤ 4194304 := Int.ediv_le_self _ (by omega)
        rw [h5]; exact wrap_i64 (by omega) (by omega)
      by_cases h4 : (4194304 : Int).tdiv ((n : Nat) : Int) < t
      · skip
        refine W_seq (W_draw0 [4] rfl ?_)
        simp only [d9_1, WD_bin, WD_fieldAddr, fieldAddr_p, WD_load, WD_move, WD_pick, pick_b, bin_gtr, bin_leq, bin_quo, want_v, wantB_t, wantB_f, WD_nil, DPureK_some, DReadK_some, pastR_nil, joinAll_nil, setH_self, geT_put, evO_tmp, evO_const, keep_nil, keep_cons, keepK_eq, Nat.reduceEqDiff, Nat.reduceAdd, ↓reduceIte, Bool.not_false, eq_self, Bool.false_eq_true, true_and, Nat.zero_add, e0, e3, decide_eq_false h1, WD_yes, decide_eq_true h2, lt', h3, hq, decide_eq_true h4]
        clear e0 e3
        intro fr e4
        refine SeqK_n ?_
        exact W_ret (Ret1 e4 ⟨_, rfl, fun _ => by omega, H1.same⟩)
      · skip
        refine W_seq (W_draw0 [4] rfl ?_)
        simp only [d9_1, WD_bin, WD_fieldAddr, fieldAddr_p, WD_load, WD_move, WD_pick, pick_b, bin_gtr, bin_quo, want_v, wantB_t, wantB_f, WD_nil, DPureK_some, DReadK_some, pastR_nil, joinAll_nil, setH_self, geT_put, evO_tmp, evO_const, keep_nil, keep_cons, keepK_eq, Nat.reduceEqDiff, Nat.reduceAdd, ↓reduceIte, Bool.not_false, eq_self, Bool.false_eq_true, true_and, Nat.zero_add, e0, e3, decide_eq_false h1, WD_yes, decide_eq_true h2, lt', h3, hq, decide_eq_false h4, WD_no_move, WD_no_bin]
        clear e0 e3
        intro fr e4
        refine SeqK_n ?_
        exact W_ret (Ret1 e4 ⟨_, rfl, fun _ => by omega, H1.same⟩)
    · skip
      refine W_seq (W_draw0 [4] rfl ?_)
      simp only [d9_1, WD_bin, WD_move, WD_pick, pick_b, bin_gtr, want_v, wantB_t, wantB_f, WD_nil, DPureK_some, joinAll_nil, setH_self, geT_put, evO_tmp, evO_const, keep_nil, keep_cons, keepK_eq, Nat.reduceEqDiff, Nat.reduceAdd, ↓reduceIte, Bool.not_false, eq_self, Bool.false_eq_true, Nat.zero_add, e0, decide_eq_false h1, WD_yes, decide_eq_false h2, WD_no_move, WD_no_bin, WD_no_fieldAddr, WD_no_load]
      clear e0 e3
      intro fr e4
      refine SeqK_n ?_
      exact W_ret (Ret1 e4 ⟨_, rfl, fun _ => by omega, H1.same⟩)

theorem run11 {X : Ctx} (hX : X.fns = fnsOf Try.prog) (ho : ∀ f args, f ≠ 10 ∧ f ≠ 24 → X.orc f args = none) {s0 s : Mm} {l : List HP} {v : Value} {L : List UInt64} (H : Hold s0 s l) (a : SlC s 1 v L.length (flT L)) (hl : L.length ≤ 1048576) :
    CallP X 11 [v] s (fun r s' => ∃ room, r = subS 1 room 0 L.length ∧ Hold s0 s' (HP.own 1 room (L.length + 2) (flT L ++ mk2) :: l)) := by
  have H1 := H.nil 1
  obtain ⟨v1, s2, ap1, H2⟩ := H1.append (bytes := 8) a.src (by rw [flT_len, Nat.mul_one]) (flT_one L) (by omega) (by decide) (by omega) (by omega) (by omega)
  simp only [Nat.zero_add, List.nil_append] at H2
  have hb1 : buildSlV s2 1 [.float .f64 0] 2 [(0, 1, .float .f64 4619567317775286272), (1, 1, .float .f64 4620693217682128896)] = some (.slice (some ⟨s2.nxt, 0, none⟩) 2 2, .cells mk2 false) := rfl
  have H3 := (H2.new mk2).up1
  have sm : SlC (newAt s2 (.cells mk2 false)) 1 (.slice (some ⟨s2.nxt, 0, none⟩) 2 2) 2 mk2 := ((((Hold.refl s2).new mk2).cellOwn (sz := 1) (n := 2) rfl (by decide)).own (List.mem_cons_self ..)).slc
  obtain ⟨rv, s3, ap2, H4⟩ := H3.append (bytes := 8) sm.src rfl rfl (by omega) (by decide) (by omega) (by omega) (by omega)
  have hsl := (H4.own (List.mem_cons_self ..)).slc.sl0 (k2 := .i64) (j := ((L.length : Nat) : Int)) rfl (by omega)
  refine CallP_of (hX ▸ ir11_eq) (ho _ _ (by decide)) (Nat.le_of_ble_eq_true rfl) ?_
  refine W_seq (W_ops [0] ?_)
  simp only [o11_0, WO_move, WO_nil, geT_put, frame_nil, frame_cons, evO_const, keep_nil, keep_cons, keepK_eq, Nat.reduceEqDiff, ↓reduceIte, eq_self, Nat.zero_add]
  intro fr e0
  refine SeqK_n ?_
  refine W_seq (W_ops [0, 3] ?_)
  simp only [o11_1, WO_append, WO_move, WO_nil, MemK_some, geT_put, evO_tmp, evO_const, keep_nil, keep_cons, keepK_eq, Nat.reduceEqDiff, ↓reduceIte, eq_self, e0, ap1]
  clear e0
  intro fr e0 e3
  refine SeqK_n ?_
  refine W_seq (W_ops [0, 3] ?_)
  simp only [o11_2, WO_append, WO_buildSlice, WO_move, WO_nil, MemK_some, NewK_some, geT_put, evO_tmp, evO_const, keep_nil, keep_cons, keepK_eq, List.map_cons, List.map_nil, Nat.reduceEqDiff, ↓reduceIte, eq_self, Nat.mul_one, e0, e3, hb1, ap2]
  clear e0 e3
  intro fr e0 e3
  refine SeqK_n ?_
  refine W_seq (W_ops [2] ?_)
  simp only [o11_3, WO_bu, WO_move, WO_slSl, WO_nil, PureK_some, geT_put, evO_tmp, keep_nil, keep_cons, keepK_eq, List.map_cons, List.map_nil, Option.map_some, Option.map_none, Nat.reduceEqDiff, ↓reduceIte, eq_self, e0, e3, a.len, hsl]
  clear e0 e3
  intro fr e2
  refine SeqK_n ?_
  exact W_ret (Ret1 e2 ⟨rv, rfl, H4.up1.tail⟩)

theorem run15 {X : Ctx} (hX : X.fns = fnsOf Try.prog) (ho : ∀ f args, f ≠ 10 ∧ f ≠ 24 → X.orc f args = none) {s : Mm} {v room : Value} {L : List UInt64} (o : Own s 1 room (L.length + 2) (flT L ++ mk2)) (a : SlC s 1 v L.length (flT L)) (hl : L.length ≤ 1048576) :
    CallP X 15 [subS 1 room 0 L.length, v] s (fun r s' => r = .bool true ∧ s = s') := by
  have hx := o.lent (n := L.length) (by omega) (k := .i64) (i := ((L.length : Nat) : Int) + 2) (by omega)
  have c := view_slc o
  have sr := o.slc
  have A7 := sr.addr (kk := .i64) (i := ((L.length : Nat) : Int)) rfl (by omega)
  have A8 := sr.addr (kk := .i64) (i := ((L.length : Nat) : Int) + 1) (k := L.length + 1) (by omega) (by omega)
  rw [Nat.mul_one] at A7 A8
  have L7 : loadV s none (elP room L.length) = some (.float .f64 4619567317775286272) := sr.load (by rw [List.getElem?_append_right (by rw [flT_len]; omega), flT_len, Nat.sub_self]; rfl)
  have L8 : loadV s none (elP room (L.length + 1)) = some (.float .f64 4620693217682128896) := sr.load (by rw [List.getElem?_append_right (by rw [flT_len]; omega), flT_len, Nat.add_sub_cancel_left]; rfl)
  have q7 : (ford .f64 4619567317775286272 4619567317775286272 == some .eq) = true := by decide
  have q8 : (ford .f64 4620693217682128896 4620693217682128896 == some .eq) = true := by decide
  generalize subS 1 room 0 L.length = cv at hx c ⊢
  refine CallP_of (hX ▸ ir15_eq) (ho _ _ (by decide)) (Nat.le_of_ble_eq_true rfl) ?_
  refine W_seq (W_ops [0, 1] ?_)
  simp only [o15_0, WO_move, WO_nil, geT_put, frame_nil, frame_cons, evO_const, keep_nil, keep_cons, keepK_eq, Nat.reduceEqDiff, Nat.reduceAdd, ↓reduceIte, eq_self, Nat.zero_add]
  intro fr e0 e1
  refine SeqK_n ?_
  refine W_seq (W_ops [0, 1, 5] ?_)
  simp only [o15_1, WO_bin, WO_bu, WO_move, WO_slSl, bin_add, WO_nil, PureK_some, geT_put, evO_tmp, evO_const, keep_nil, keep_cons, keepK_eq, List.map_cons, List.map_nil, Option.map_some, Option.map_none, Nat.reduceEqDiff, ↓reduceIte, eq_self, e0, e1, a.len, wrap_i64 (n := ((L.length : Nat) : Int) + 2) (by omega) (by omega), hx]
  clear e0 e1
  intro fr e0 e1 e5
  refine SeqK_n ?_
  refine W_seq (W_ops [4] ?_)
  simp only [o15_2, WO_call, WO_move, geT_put, evO_tmp, List.map_cons, List.map_nil, Nat.reduceEqDiff, ↓reduceIte, eq_self, e0, e1]
  refine CallK_of (run22 hX ho (d := L.toArray) c a (by show L.length ≤ _; omega)) ?_
  rintro _ _ ⟨rfl, rfl⟩
  simp only [WO_addrSl, WO_bin, WO_bu, WO_load, WO_move, WO_pick, pick_b, bin_add, binf_eql, WO_nil, PureK_some, WO_guard, want_v, wantB_t, geT_put, evO_tmp, evO_const, keep_nil, keep_cons, keepK_eq, List.map_cons, List.map_nil, Nat.reduceEqDiff, ↓reduceIte, eq_self, e1, e5, a.len, A7, L7, q7, wrap_i64 (n := ((L.length : Nat) : Int) + 1) (by omega) (by omega), A8, L8, q8]
  clear e0 e1 e5
  intro fr e4
  refine SeqK_n ?_
  exact W_ret (Ret1 e4 ⟨rfl, rfl⟩)

theorem same_fe {X : Ctx} (hX : X.fns = fnsOf Try.prog) (ho : ∀ f args, f ≠ 10 ∧ f ≠ 24 → X.orc f args = none) {s : Mm} {x y : Nat} (h : FE x y) : CallP X 14 [.float .f64 x, .float .f64 y] s (fun r s' => r = .bool true ∧ s = s') := by
  rcases h with rfl | ⟨hx, hy, hk⟩
  · exact same_self hX ho
  · obtain ⟨r, s', h1, h2, h3⟩ := run14 hX ho (s := s) hx hy
    exact ⟨r, s', h1, by rw [h2, decide_eq_true hk], h3⟩

end Go.Proofs.Ytfjdihfflghfpaa

/- CfarLines: its run at any arguments. -/
namespace Go.Proofs.Ytfjdihfflghfpaa
open Go Go.Vam Go.Sort

theorem c3 : Try.prog.cellsOf 3 = 1 := by decide +kernel
theorem c23 : Try.prog.cellsOf 23 = 1 := by decide +kernel
theorem c26 : Try.prog.cellsOf 26 = 5 := by decide +kernel
theorem five {α : Type} {l : List α} (h : l.length = 5) : ∃ a b c d e, l = [a, b, c, d, e] := by
  match l, h with
  | [a, b, c, d, e], _ => exact ⟨a, b, c, d, e, rfl⟩

set_option maxRecDepth 100000 in
/-- A look that is handed in. -/
theorem look_open {T : Type} {s : Mm} {v : Value} {d : DataW T} (h : AbsV Try.prog s 26 v d) : ∃ way g t nth times, v = kV way g t nth times ∧ (-128 ≤ way ∧ way ≤ 127) ∧ times < 18446744073709551616 := by
  unfold AbsV at h
  rw [Try.underlying26] at h
  obtain ⟨cs, rfl, h⟩ := h
  obtain ⟨ds, _, h1, h2, h3⟩ := Abs.st Try.underlying26 h
  rw [c26] at h1
  obtain ⟨a0, a1, a2, a3, a4, habc⟩ := five h1
  obtain ⟨d0, d1, d2, d3, d4, rfl⟩ := five h2
  have g0 := h3 0 _ d0 rfl rfl
  have g1 := h3 1 _ d1 rfl rfl
  have g2 := h3 2 _ d2 rfl rfl
  have g3 := h3 3 _ d3 rfl rfl
  have g4 := h3 4 _ d4 rfl rfl
  simp only [c3, c23, c24, habc] at g0 g1 g2 g3 g4
  obtain ⟨n0, k0, _, w0⟩ := Abs.i Try.underlying23 g0
  obtain ⟨n1, k1, _⟩ := Abs.i Try.underlying3 g1
  obtain ⟨n2, k2, _⟩ := Abs.i Try.underlying3 g2
  obtain ⟨n3, k3, _⟩ := Abs.i Try.underlying3 g3
  obtain ⟨n4, k4, _, w4⟩ := Abs.f Try.underlying24 g4
  simp only [List.drop_zero, List.drop_succ_cons, List.take_succ_cons, List.take_zero, List.cons.injEq, and_true] at k0 k1 k2 k3 k4
  subst k0 k1 k2 k3 k4
  obtain ⟨l⟩ := cs
  simp only at habc
  subst habc
  refine ⟨n0, n1, n2, n3, n4, rfl, ?_, wfl n4 w4⟩
  simp only [Lit.wf, IntKind.min, IntKind.max, IntKind.bits, IntKind.signed] at w0
  simpa using w0

end Go.Proofs.Ytfjdihfflghfpaa
