/- The document's check, its put, its bytes of a frame. -/
import Derived.Test.YtkfcejhebepdkaaTF
import Derived.Test.YtkfcejhebepdkaaWpB
namespace Go.Proofs.Ytkfcejhebepdkaa
open Go Go.Vam


theorem run53 {X : Ctx} (hX : X.fns = fnsOf Try.prog) (ho : ∀ f args, f ≠ 9 → X.orc f args = none) {s : Mm} {r n : Nat} : CallP X 53 [.int .i64 (r : Nat), .int .i64 (n : Nat)] s (fun v s' => v = .bool (largeB r n) ∧ s = s') := by
  refine CallP_of (hX ▸ ir53_eq) (ho _ _ (by decide)) (Nat.le_of_ble_eq_true rfl) ?_
  refine W_seq (W_ops [0, 1] ?_)
  simp only [o53_0, WO_move, WO_nil, geT_put, frame_nil, frame_cons, evO_const, keep_nil, keep_cons, keepK_eq, Nat.reduceEqDiff, Nat.reduceAdd, ↓reduceIte, eq_self, Nat.zero_add]
  intro fr e0 e1
  refine SeqK_n ?_
  have d1 : decide ((256 : Int) < (r : Nat)) = decide (256 < r) := decide_eq_decide.2 (by omega)
  have d2 : decide ((16384 : Int) < (n : Nat)) = decide (16384 < n) := decide_eq_decide.2 (by omega)
  cases h1 : decide (256 < r) with
  | true =>
    refine W_seq (W_ops [4] ?_)
    simp only [o53_1, WO_bin, WO_move, WO_pick, pick_b, bin_gtr, WO_nil, PureK_some, WO_guard, want_v, wantB_f, geT_put, evO_tmp, evO_const, keep_nil, keep_cons, keepK_eq, Nat.reduceEqDiff, ↓reduceIte, Bool.not_true, eq_self, Bool.false_eq_true, e0, d1, h1]
    clear e0 e1
    intro fr e4
    refine SeqK_n ?_
    exact W_ret (Ret1 e4 ⟨by simp only [largeB, h1, Bool.true_or], rfl⟩)
  | false =>
    cases h2 : decide (16384 < n) with
    | true =>
      refine W_seq (W_ops [4] ?_)
      simp only [o53_1, WO_bin, WO_move, WO_pick, pick_b, bin_gtr, WO_nil, PureK_some, WO_guard, want_v, wantB_f, geT_put, evO_tmp, evO_const, keep_nil, keep_cons, keepK_eq, Nat.reduceEqDiff, ↓reduceIte, Bool.not_true, Bool.not_false, eq_self, Bool.false_eq_true, e0, e1, d1, h1, d2, h2]
      clear e0 e1
      intro fr e4
      refine SeqK_n ?_
      exact W_ret (Ret1 e4 ⟨by simp only [largeB, h1, h2, Bool.true_or, Bool.false_or], rfl⟩)
    | false =>
      have hr : r ≤ 256 := by simpa using h1
      have hn : n ≤ 16384 := by simpa using h2
      have hm : r * n ≤ 256 * 16384 := Nat.mul_le_mul hr hn
      have d3 : decide ((262144 : Int) < ((r * n : Nat) : Int)) = decide (262144 < r * n) := decide_eq_decide.2 (by omega)
      refine W_seq (W_ops [4] ?_)
      simp only [o53_1, WO_bin, WO_move, WO_pick, pick_b, bin_gtr, bin_mul, WO_nil, PureK_some, WO_guard, want_v, wantB_f, geT_put, evO_tmp, evO_const, keep_nil, keep_cons, keepK_eq, Nat.reduceEqDiff, ↓reduceIte, Bool.not_false, eq_self, Bool.false_eq_true, e0, e1, d1, h1, d2, h2, ← Int.natCast_mul, wrap_i64 (n := ((r * n : Nat) : Int)) (by omega) (by omega), d3]
      clear e0 e1
      intro fr e4
      refine SeqK_n ?_
      exact W_ret (Ret1 e4 ⟨by simp only [largeB, h1, h2, Bool.false_or], rfl⟩)

set_option maxHeartbeats 1000000 in
theorem run39 {X : Ctx} (hX : X.fns = fnsOf Try.prog) (ho : ∀ f args, f ≠ 9 → X.orc f args = none) {s : Mm} {rv iv : Value} {T U : Nat} {re im : List (List Int)} (hr : TabC s rv re) (hi : TabC s iv im) (hlr : re.length ≤ 9223372036854775807) :
    CallP X 39 [.agg #[.float .f64 T, .float .f64 U, rv, iv]] s (fun r s' => r = .tuple #[.int .i64 ((if okB re im = true then colsN re else 0 : Nat) : Nat), .bool (okB re im)] ∧ Same s s' (fun _ => False)) := by
  obtain ⟨cr, hr1, hr2⟩ := hr
  obtain ⟨ci, hi1, hi2⟩ := hi
  refine CallP_of (hX ▸ ir39_eq) (ho _ _ (by decide)) (Nat.le_of_ble_eq_true rfl) ?_
  have hbx : (Value.agg #[.float .f64 T, .float .f64 U, rv, iv]).cells.toList = [.float .f64 T, .float .f64 U, rv, iv] := rfl
  refine W_seq (W_ops [1] ?_)
  simp only [o39_0, WO_box, WO_move, WO_nil, geT_put, frame_nil, frame_cons, evO_tmp, evO_const, keep_nil, keep_cons, keepK_eq, Nat.reduceEqDiff, ↓reduceIte, eq_self, Nat.zero_add, hbx]
  intro fr e1
  refine SeqK_n ?_
  have hg : Store.get (newAt s (.cells [.float .f64 T, .float .f64 U, rv, iv] false)).h s.nxt = some (.cells [.float .f64 T, .float .f64 U, rv, iv] false) := by rw [get_new, if_pos rfl]
  have hs1 : Same s (newAt s (.cells [.float .f64 T, .float .f64 U, rv, iv] false)) (fun _ => False) := .new
  generalize newAt s (.cells [.float .f64 T, .float .f64 U, rv, iv] false) = s1 at hg hs1 ⊢
  replace hr1 := hr1.same hs1 (fun _ _ h => h)
  replace hi1 := hi1.same hs1 (fun _ _ h => h)
  replace hr2 : ∀ (i : Nat) (r : List Int), re[i]? = some r → ∃ c, cr[i]? = some c ∧ SlC s1 1 c r.length (r.map (.int .i16)) := fun i r h => let ⟨c, a, b⟩ := hr2 i r h; ⟨c, a, b.same hs1 (fun _ _ h => h)⟩
  replace hi2 : ∀ (i : Nat) (r : List Int), im[i]? = some r → ∃ c, ci[i]? = some c ∧ SlC s1 1 c r.length (r.map (.int .i16)) := fun i r h => let ⟨c, a, b⟩ := hi2 i r h; ⟨c, a, b.same hs1 (fun _ _ h => h)⟩
  have L2 := load_g (o := 2) hg
  have L3 := load_g (o := 3) hg
  simp only [List.getElem?_cons_zero, List.getElem?_cons_succ] at L2 L3
  refine W_assoc ?_
  have hdl : decide (((re.length : Nat) : Int) = (im.length : Nat)) = decide (re.length = im.length) := decide_eq_decide.2 (by omega)
  cases hll : decide (re.length = im.length) with
  | false =>
    have hno : okB re im = false := by unfold okB okUp; rw [hll, Bool.false_and]
    refine W_seq (W_ops [1, 12] ?_)
    simp only [o39_1, WO_bin, WO_bu, WO_fieldAddr, fieldAddr_p, WO_load, bin_neq, WO_nil, PureK_some, geT_put, evO_tmp, keep_nil, keep_cons, keepK_eq, List.map_cons, List.map_nil, Nat.reduceEqDiff, ↓reduceIte, Bool.not_false, eq_self, Nat.zero_add, e1, L2, L3, hr1.len, hi1.len, hdl, hll]
    clear e1
    intro fr e1 e12
    refine SeqK_n ?_
    refine W_seq (W_cond e12 (fun _ => ?_) (fun h => by cases h))
    refine W_seq (W_ops [2, 3] ?_)
    simp only [o39_2, WO_move, WO_nil, geT_put, evO_const, keep_nil, keep_cons, keepK_eq, Nat.reduceEqDiff, ↓reduceIte, eq_self]
    clear e1 e12
    intro fr e2 e3
    refine SeqK_n ?_
    exact W_ret (SeqK_r (Ret2 e2 e3 ⟨by rw [hno]; rfl, hs1⟩))
  | true =>
    have hl : re.length = im.length := of_decide_eq_true hll
    refine W_seq (W_ops [1, 12] ?_)
    simp only [o39_1, WO_bin, WO_bu, WO_fieldAddr, fieldAddr_p, WO_load, bin_neq, WO_nil, PureK_some, geT_put, evO_tmp, keep_nil, keep_cons, keepK_eq, List.map_cons, List.map_nil, Nat.reduceEqDiff, ↓reduceIte, Bool.not_true, eq_self, Nat.zero_add, e1, L2, L3, hr1.len, hi1.len, hdl, hll]
    clear e1
    intro fr e1 e12
    refine SeqK_n ?_
    refine W_seq (W_cond e12 (fun h => by cases h) (fun _ => W_skip (SeqK_n ?_)))
    refine W_assoc ?_
    have hd0 : decide (((re.length : Nat) : Int) = 0) = decide (re.length = 0) := decide_eq_decide.2 (by omega)
    cases h0 : decide (re.length = 0) with
    | true =>
      have hz : re = [] := List.eq_nil_of_length_eq_zero (of_decide_eq_true h0)
      have hz2 : im = [] := List.eq_nil_of_length_eq_zero (by rw [← hl]; exact of_decide_eq_true h0)
      refine W_seq (W_ops [1, 16] ?_)
      simp only [o39_3, WO_bin, WO_bu, WO_fieldAddr, fieldAddr_p, WO_load, bin_eql, WO_nil, PureK_some, geT_put, evO_tmp, evO_const, keep_nil, keep_cons, keepK_eq, List.map_cons, List.map_nil, Nat.reduceEqDiff, ↓reduceIte, eq_self, Nat.zero_add, e1, L2, hr1.len, hd0, h0]
      clear e1
      intro fr e1 e16
      refine SeqK_n ?_
      refine W_seq (W_cond e16 (fun _ => ?_) (fun h => by cases h))
      refine W_seq (W_ops [2, 3] ?_)
      simp only [o39_4, WO_move, WO_nil, geT_put, evO_const, keep_nil, keep_cons, keepK_eq, Nat.reduceEqDiff, ↓reduceIte, eq_self]
      clear e1 e16
      intro fr e2 e3
      refine SeqK_n ?_
      exact W_ret (SeqK_r (Ret2 e2 e3 ⟨by subst hz hz2; rfl, hs1⟩))
    | false =>
      have hp : 0 < re.length := by have := of_decide_eq_false h0; omega
      refine W_seq (W_ops [1, 16] ?_)
      simp only [o39_3, WO_bin, WO_bu, WO_fieldAddr, fieldAddr_p, WO_load, bin_eql, WO_nil, PureK_some, geT_put, evO_tmp, evO_const, keep_nil, keep_cons, keepK_eq, List.map_cons, List.map_nil, Nat.reduceEqDiff, ↓reduceIte, eq_self, Nat.zero_add, e1, L2, hr1.len, hd0, h0]
      clear e1
      intro fr e1 e16
      refine SeqK_n ?_
      refine W_seq (W_cond e16 (fun h => by cases h) (fun _ => W_skip (SeqK_n ?_)))
      obtain ⟨c, hc1, hc2⟩ := hr2 0 re[0] (by simp)
      have hcn : re[0].length = colsN re := by
        unfold colsN
        cases re with
        | nil => simp at hp
        | cons a l => rfl
      refine W_seq (W_ops [1, 4] ?_)
      simp only [o39_5, WO_addrSl, WO_bu, WO_fieldAddr, fieldAddr_p, WO_load, WO_move, WO_nil, PureK_some, geT_put, evO_tmp, evO_const, keep_nil, keep_cons, keepK_eq, List.map_cons, List.map_nil, Nat.reduceEqDiff, ↓reduceIte, eq_self, Nat.zero_add, Nat.mul_one, e1, L2, hr1.addr (i := 0) (k := 0) rfl hp, hr1.load (j := 0) hc1, hc2.len, hcn]
      clear e1
      intro fr e1 e4
      refine SeqK_n ?_
      refine W_assoc ?_
      refine W_seq (W_ops [1, 4, 5] ?_)
      simp only [o39_6, WO_move, WO_nil, geT_put, evO_const, keep_nil, keep_cons, keepK_eq, Nat.reduceEqDiff, ↓reduceIte, eq_self, e1, e4]
      clear e1 e4
      intro fr e1 e4 e5
      refine SeqK_n ?_
      refine W_seq (W_block (W_loop (fun m fr s3 => ∃ k, k + m = re.length ∧ s1 = s3 ∧ geT fr 1 = .pointer (some ⟨s.nxt, 0, none⟩) ∧ geT fr 4 = .int .i64 (colsN re : Nat) ∧ geT fr 5 = .int .i64 (k : Nat) ∧ okUp re im k = true) re.length ⟨0, by omega, rfl, e1, e4, e5, by simp [okUp, hll]⟩ ?_))
      clear e1 e4 e5 fr
      rintro m fr _ ⟨k, hk, rfl, e1, e4, e5, hok⟩
      refine W_assoc ?_
      refine W_seq (W_ops [1, 4, 5, 26] ?_)
      simp only [o39_8, WO_bin, WO_bu, WO_fieldAddr, fieldAddr_p, WO_load, WO_move, bin_lss, WO_nil, PureK_some, geT_put, evO_tmp, keep_nil, keep_cons, keepK_eq, List.map_cons, List.map_nil, Nat.reduceEqDiff, ↓reduceIte, eq_self, Nat.zero_add, e1, e4, e5, L2, hr1.len]
      clear e1 e4 e5
      intro fr e1 e4 e5 e26
      refine SeqK_n ?_
      refine W_while e26 (fun hlt => ?_) (fun hlt => ?_)
      · have hk1 : k < re.length := by omega
        have hk2 : k < im.length := by omega
        obtain ⟨c, hc1, hc2⟩ := hr2 k re[k] (by simp [hk1])
        obtain ⟨c', hc1', hc2'⟩ := hi2 k im[k] (by simp [hk2])
        have hnx := okUp_succ (by simp [hk1] : re[k]? = some re[k]) (by simp [hk2] : im[k]? = some im[k]) hok
        have hd1 : decide (((re[k].length : Nat) : Int) = (colsN re : Nat)) = decide (re[k].length = colsN re) := decide_eq_decide.2 (by omega)
        have hd2 : decide (((im[k].length : Nat) : Int) = (colsN re : Nat)) = decide (im[k].length = colsN re) := decide_eq_decide.2 (by omega)
        refine W_seq (W_block ?_)
        refine W_seq (W_opsB [1, 4, 5, 46] (fun fr1 s3 => s1 = s3 ∧ geT fr1 1 = .pointer (some ⟨s.nxt, 0, none⟩) ∧ geT fr1 4 = .int .i64 (colsN re : Nat) ∧ geT fr1 5 = .int .i64 (k : Nat) ∧ geT fr1 46 = .bool (!(okUp re im (k + 1)))) ?_ ?_)
        · intro R' hR'
          rw [hnx] at hR'
          cases hd : decide (re[k].length = colsN re) with
          | false =>
            simp only [o39_9, WO_nil, WO_move, WO_pick, WO_bin, WO_fieldAddr, WO_addrSl, WO_bu, WO_load, WO_guard, PureK_some, geT_put, evO_tmp, evO_const, want_v, wantB_f, keep_nil, keep_cons, keepK_eq, List.map_cons, List.map_nil, Nat.reduceEqDiff, ↓reduceIte, pick_b, fieldAddr_p, bin_neq, Bool.not_true, Bool.not_false, eq_self, Bool.false_eq_true, Nat.zero_add, Nat.mul_one, e1, e4, e5, L2, hr1.addr (i := (k : Int)) (k := k) rfl hk1, hr1.load (j := k) hc1, hc2.len, hd1, hd]
            intro fr e1 e4 e5 e46
            exact hR' _ _ ⟨rfl, e1, e4, e5, by rw [e46, hd]; rfl⟩
          | true =>
            simp only [o39_9, WO_nil, WO_move, WO_pick, WO_bin, WO_fieldAddr, WO_addrSl, WO_bu, WO_load, WO_guard, PureK_some, geT_put, evO_tmp, evO_const, want_v, wantB_f, keep_nil, keep_cons, keepK_eq, List.map_cons, List.map_nil, Nat.reduceEqDiff, ↓reduceIte, pick_b, fieldAddr_p, bin_neq, Bool.not_true, Bool.not_false, eq_self, Bool.false_eq_true, Nat.zero_add, Nat.mul_one, e1, e4, e5, L2, L3, hr1.addr (i := (k : Int)) (k := k) rfl hk1, hr1.load (j := k) hc1, hc2.len, hd1, hd, hi1.addr (i := (k : Int)) (k := k) rfl hk2, hi1.load (j := k) hc1', hc2'.len, hd2]
            intro fr e1 e4 e5 e46
            exact hR' _ _ ⟨rfl, e1, e4, e5, by rw [e46, hd, Bool.true_and]⟩
        clear e1 e4 e5 e26 fr
        rintro fr _ ⟨rfl, e1, e4, e5, e46⟩
        refine SeqK_n (W_cond e46 (fun hc => ?_) (fun hc => W_skip (BlkK_n (SeqK_n ?_))))
        · have hno : okB re im = false := okUp_mono (show k + 1 ≤ re.length by omega) (by simpa using hc)
          refine W_seq (W_ops [2, 3] ?_)
          simp only [o39_10, WO_move, WO_nil, geT_put, evO_const, keep_nil, keep_cons, keepK_eq, Nat.reduceEqDiff, ↓reduceIte, eq_self]
          clear e1 e4 e5 e46
          intro fr e2 e3
          refine SeqK_n ?_
          exact W_ret (BlkK_r (SeqK_r (LoopK_r (BlkK_r (SeqK_r (Ret2 e2 e3 ⟨by rw [hno]; rfl, hs1⟩))))))
        · skip
          refine W_ops [1, 4, 5] ?_
          simp only [o39_11, WO_bin, WO_move, bin_add, WO_nil, PureK_some, geT_put, evO_tmp, evO_const, keep_nil, keep_cons, keepK_eq, Nat.reduceEqDiff, ↓reduceIte, eq_self, e1, e4, e5, wrap_i64 (n := (k : Int) + 1) (by omega) (by omega)]
          clear e1 e4 e5 e46
          intro fr e1 e4 e5
          exact LoopK_n (m' := m - 1) (by omega) ⟨k + 1, by omega, rfl, e1, e4, by rw [e5]; rfl, by simpa using hc⟩
      · have : k = re.length := by omega
        subst this
        refine LoopK_x (BlkK_e (SeqK_n ?_))
        have hyes : okB re im = true := hok
        refine W_seq (W_ops [2, 3] ?_)
        simp only [o39_12, WO_move, WO_nil, geT_put, evO_tmp, evO_const, keep_nil, keep_cons, keepK_eq, Nat.reduceEqDiff, ↓reduceIte, eq_self, e4]
        clear e1 e4 e5 e26
        intro fr e2 e3
        refine SeqK_n ?_
        exact W_ret (Ret2 e2 e3 ⟨by rw [hyes]; rfl, hs1⟩)

end Go.Proofs.Ytkfcejhebepdkaa

/- The document's check, its put, its bytes of a frame: all of it. -/
namespace Go.Proofs.Ytkfcejhebepdkaa
open Go Go.Vam

theorem chkE_lt {T U : Nat} {re im : List (List Int)} : chkE T U re im ≤ 6 := by
  unfold chkE
  split
  · omega
  · split
    · omega
    · split <;> omega


theorem run38 {X : Ctx} (hX : X.fns = fnsOf Try.prog) (ho : ∀ f args, f ≠ 9 → X.orc f args = none) {s : Mm} {rv iv : Value} {T U : Nat} {re im : List (List Int)} (hr : TabC s rv re) (hi : TabC s iv im) (hlr : re.length ≤ 9223372036854775807) (hT : T < 18446744073709551616) (hU : U < 18446744073709551616) :
    CallP X 38 [.agg #[.float .f64 T, .float .f64 U, rv, iv]] s (fun r s' => r = .int .i64 (chkE T U re im : Nat) ∧ Same s s' (fun _ => False)) := by
  refine CallP_of (hX ▸ ir38_eq) (ho _ _ (by decide)) (Nat.le_of_ble_eq_true rfl) ?_
  have hbx : (Value.agg #[.float .f64 T, .float .f64 U, rv, iv]).cells.toList = [.float .f64 T, .float .f64 U, rv, iv] := rfl
  refine W_seq (W_ops [1] ?_)
  simp only [o38_0, WO_box, WO_move, WO_nil, geT_put, frame_nil, frame_cons, evO_tmp, evO_const, keep_nil, keep_cons, keepK_eq, Nat.reduceEqDiff, ↓reduceIte, eq_self, Nat.zero_add, hbx]
  intro fr e1
  refine SeqK_n ?_
  have hg : Store.get (newAt s (.cells [.float .f64 T, .float .f64 U, rv, iv] false)).h s.nxt = some (.cells [.float .f64 T, .float .f64 U, rv, iv] false) := by rw [get_new, if_pos rfl]
  have hs1 : Same s (newAt s (.cells [.float .f64 T, .float .f64 U, rv, iv] false)) (fun _ => False) := .new
  have hn1 : s.nxt < (newAt s (.cells [.float .f64 T, .float .f64 U, rv, iv] false)).nxt := by rw [nxt_new]; omega
  generalize newAt s (.cells [.float .f64 T, .float .f64 U, rv, iv] false) = s1 at hg hs1 hn1 ⊢
  have hr1 := hr.same hs1
  have hi1 := hi.same hs1
  have L0 := load_g (o := 0) hg
  have L1 := load_g (o := 1) hg
  simp only [List.getElem?_cons_zero, List.getElem?_cons_succ] at L0 L1
  refine W_assoc ?_
  refine W_seq (W_opsB [1, 14] (fun fr1 s3 => s1 = s3 ∧ geT fr1 1 = .pointer (some ⟨s.nxt, 0, none⟩) ∧ geT fr1 14 = .bool (!(finB T && okU U))) ?_ ?_)
  · intro R' hR'
    simp only [o38_1, WO_fieldAddr, WO_load, WO_call, PureK_some, geT_put, evO_tmp, List.map_cons, List.map_nil, ↓reduceIte, fieldAddr_p, eq_self, Nat.add_zero, e1, L0]
    refine CallK_of (run51 hX ho hT) ?_
    rintro _ _ ⟨rfl, rfl⟩
    cases hx : finB T with
    | false =>
      simp only [WO_nil, WO_move, WO_pick, WO_un, WO_guard, PureK_some, geT_put, evO_tmp, evO_const, want_v, wantB_f, keep_nil, keep_cons, keepK_eq, Nat.reduceEqDiff, ↓reduceIte, pick_b, un_not, Bool.not_true, Bool.not_false, eq_self, Bool.false_eq_true, e1]
      intro fr e1 e14
      exact hR' _ _ ⟨rfl, e1, by rw [e14, hx]; rfl⟩
    | true =>
      simp only [WO_move, WO_un, WO_fieldAddr, WO_load, WO_call, WO_guard, PureK_some, geT_put, evO_tmp, want_v, wantB_f, List.map_cons, List.map_nil, Nat.reduceEqDiff, ↓reduceIte, fieldAddr_p, un_not, Bool.not_true, Bool.not_false, eq_self, Nat.zero_add, e1, L1]
      refine CallK_of (run52 hX ho hU) ?_
      rintro _ _ ⟨rfl, rfl⟩
      simp only [WO_nil, WO_pick, WO_un, WO_guard, PureK_some, geT_put, evO_tmp, evO_const, want_v, wantB_f, keep_nil, keep_cons, keepK_eq, Nat.reduceEqDiff, ↓reduceIte, pick_b, un_not, Bool.not_false, eq_self, Bool.false_eq_true, e1]
      intro fr e1 e14
      exact hR' _ _ ⟨rfl, e1, by rw [e14, hx]; simp [okU]⟩
  clear e1 fr
  rintro fr _ ⟨rfl, e1, e14⟩
  refine SeqK_n (W_seq (W_cond e14 (fun hc => ?_) (fun hc => W_skip (SeqK_n ?_))))
  · have he : chkE T U re im = 6 := by unfold chkE; rw [if_pos (by rw [Bool.not_eq_true'] at hc; exact hc)]
    refine W_seq (W_ops [2] ?_)
    simp only [o38_2, WO_move, WO_nil, geT_put, evO_const, keep_nil, keep_cons, keepK_eq, ↓reduceIte, eq_self]
    clear e1 e14
    intro fr e2
    refine SeqK_n ?_
    exact W_ret (SeqK_r (Ret1 e2 ⟨by rw [he]; rfl, hs1⟩))
  have he0 : chkE T U re im = if okB re im = false then 5 else if largeB re.length (colsN re) = true then 3 else 0 := by
    unfold chkE
    rw [if_neg (by rw [Bool.not_eq_false'] at hc; rw [hc]; simp)]
  refine W_seq (W_ops [1, 3, 4] ?_)
  simp only [o38_3, WO_call, WO_load, PureK_some, geT_put, evO_tmp, List.map_cons, List.map_nil, ↓reduceIte, eq_self, e1, loadn_all (n := 4) hg rfl]
  refine CallK_of (run39 hX ho hr1 hi1 hlr) ?_
  rintro _ s2 ⟨rfl, hs2⟩
  simp only [WO_extract, ext_20, ext_21, WO_move, WO_nil, PureK_some, geT_put, evO_tmp, keep_nil, keep_cons, keepK_eq, Nat.reduceEqDiff, ↓reduceIte, eq_self, e1]
  clear e1 e14
  intro fr e1 e3 e4
  refine SeqK_n ?_
  have hg2 : Store.get s2.h s.nxt = some (.cells [.float .f64 T, .float .f64 U, rv, iv] false) := by rw [hs2.get _ hn1 (fun h => h)]; exact hg
  have L2 := load_g (o := 2) hg2
  simp only [List.getElem?_cons_zero, List.getElem?_cons_succ] at L2
  obtain ⟨cr, hr2, _⟩ := hr1.same hs2
  refine W_assoc ?_
  refine W_seq (W_ops [1, 3, 21] ?_)
  simp only [o38_4, WO_move, WO_un, un_not, WO_nil, PureK_some, geT_put, evO_tmp, keep_nil, keep_cons, keepK_eq, Nat.reduceEqDiff, ↓reduceIte, eq_self, e1, e3, e4]
  clear e1 e3 e4
  intro fr e1 e3 e21
  refine SeqK_n ?_
  cases hok : okB re im with
  | false =>
    rw [hok] at e21 he0
    refine W_seq (W_cond e21 (fun _ => ?_) (fun h => by cases h))
    refine W_seq (W_ops [2] ?_)
    simp only [o38_5, WO_move, WO_nil, geT_put, evO_const, keep_nil, keep_cons, keepK_eq, ↓reduceIte, eq_self]
    clear e1 e3 e21
    intro fr e2
    refine SeqK_n ?_
    exact W_ret (SeqK_r (Ret1 e2 ⟨by rw [he0]; rfl, hs1.trans hs2 (fun _ _ h => h) (fun _ _ h => h)⟩))
  | true =>
    rw [hok] at e21 he0 e3
    simp only [if_true] at e3
    refine W_seq (W_cond e21 (fun h => by cases h) (fun _ => W_skip (SeqK_n ?_)))
    refine W_assoc ?_
    refine W_seq (W_ops [26] ?_)
    simp only [o38_6, WO_bu, WO_call, WO_fieldAddr, fieldAddr_p, WO_load, WO_move, PureK_some, geT_put, evO_tmp, List.map_cons, List.map_nil, Nat.reduceEqDiff, ↓reduceIte, eq_self, Nat.zero_add, e1, e3, L2, hr2.len]
    refine CallK_of (run53 hX ho) ?_
    rintro _ _ ⟨rfl, rfl⟩
    simp only [WO_nil, geT_put, keep_nil, keep_cons, keepK_eq, ↓reduceIte, eq_self]
    clear e1 e3 e21
    intro fr e26
    refine SeqK_n ?_
    cases hL : largeB re.length (colsN re) with
    | true =>
      rw [hL] at e26 he0
      refine W_seq (W_cond e26 (fun _ => ?_) (fun h => by cases h))
      refine W_seq (W_ops [2] ?_)
      simp only [o38_7, WO_move, WO_nil, geT_put, evO_const, keep_nil, keep_cons, keepK_eq, ↓reduceIte, eq_self]
      clear e26
      intro fr e2
      refine SeqK_n ?_
      exact W_ret (SeqK_r (Ret1 e2 ⟨by rw [he0]; rfl, hs1.trans hs2 (fun _ _ h => h) (fun _ _ h => h)⟩))
    | false =>
      rw [hL] at e26 he0
      refine W_seq (W_cond e26 (fun h => by cases h) (fun _ => W_skip (SeqK_n ?_)))
      refine W_seq (W_ops [2] ?_)
      simp only [o38_8, WO_move, WO_nil, geT_put, evO_const, keep_nil, keep_cons, keepK_eq, ↓reduceIte, eq_self]
      clear e26
      intro fr e2
      refine SeqK_n ?_
      exact W_ret (Ret1 e2 ⟨by rw [he0]; rfl, hs1.trans hs2 (fun _ _ h => h) (fun _ _ h => h)⟩)

theorem run40 {X : Ctx} (hX : X.fns = fnsOf Try.prog) (ho : ∀ f args, f ≠ 9 → X.orc f args = none) {s0 s : Mm} {l : List HP} {v : Value} {n : Nat} {b : List UInt8} (h : Hold s0 s (HP.own 1 v n (bsV b) :: l)) {N k : Nat} (hk8 : k ≤ 8) (hn : b.length + k ≤ 70368744177664) :
    CallP X 40 [v, .int .u64 (N : Nat), .int .i64 (k : Nat)] s (fun r s' => Hold s0 s' (HP.own 1 r (b.length + k) (bsV (b ++ beN N k)) :: l)) := by
  have hnb : n = b.length := by have := (h.own (List.mem_cons_self ..)).length; rw [bsV_length] at this; omega
  subst hnb
  refine CallP_of (hX ▸ ir40_eq) (ho _ _ (by decide)) (Nat.le_of_ble_eq_true rfl) ?_
  refine W_seq (W_ops [0, 1, 2] ?_)
  simp only [o40_0, WO_move, WO_nil, geT_put, frame_nil, frame_cons, evO_const, keep_nil, keep_cons, keepK_eq, Nat.reduceEqDiff, Nat.reduceAdd, ↓reduceIte, eq_self, Nat.zero_add]
  intro fr e0 e1 e2
  refine SeqK_n ?_
  refine W_assoc ?_
  refine W_seq (W_ops [0, 1, 7] ?_)
  simp only [o40_1, WO_bin, WO_move, bin_sub, WO_nil, PureK_some, geT_put, evO_tmp, evO_const, keep_nil, keep_cons, keepK_eq, Nat.reduceEqDiff, ↓reduceIte, eq_self, e0, e1, e2, wrap_i64 (n := (k : Int) - 1) (by omega) (by omega)]
  clear e0 e1 e2
  intro fr e0 e1 e7
  refine SeqK_n ?_
  refine W_seq (W_block (W_loop (fun m fr s1 => ∃ v1 dn, dn ++ beN N m = beN N k ∧ m ≤ k ∧ geT fr 0 = v1 ∧ geT fr 1 = .int .u64 (N : Nat) ∧ geT fr 7 = .int .i64 ((m : Int) - 1) ∧ Hold s0 s1 (HP.own 1 v1 (b.length + dn.length) (bsV (b ++ dn)) :: l)) k
    ⟨v, [], rfl, Nat.le_refl _, e0, e1, e7, by simpa using h⟩ ?_))
  clear e0 e1 e7 fr
  rintro m fr s1 ⟨v1, dn, hdn, hm, e0, e1, e7, h1⟩
  have hl : dn.length + m = k := by have := congrArg List.length hdn; simpa [beN_length] using this
  refine W_assoc ?_
  refine W_seq (W_ops [0, 1, 7, 11] ?_)
  simp only [o40_3, WO_bin, WO_move, bin_geq, WO_nil, PureK_some, geT_put, evO_tmp, evO_const, keep_nil, keep_cons, keepK_eq, Nat.reduceEqDiff, ↓reduceIte, eq_self, e0, e1, e7]
  clear e0 e1 e7
  intro fr e0 e1 e7 e11
  refine SeqK_n ?_
  refine W_while e11 (fun hlt => ?_) (fun hlt => ?_)
  · obtain ⟨m, rfl⟩ : ∃ j, m = j + 1 := ⟨m - 1, by omega⟩
    have e7' : geT fr 7 = .int .i64 (m : Nat) := by rw [e7]; congr 1; omega
    clear e7
    have e7 := e7'
    clear e7'
    obtain ⟨v2, s2, ap, h2⟩ := h1.push (bytes := 1) (new := [byteV (UInt8.ofNat (N / 256 ^ m))]) rfl rfl (by omega) (by omega) (by omega) (by omega)
    refine W_seq (W_block ?_)
    refine W_ops [0, 1, 7] ?_
    simp only [o40_4, WO_bin, WO_move, bin_mul, bin_shr, PureK_some, geT_put, evO_tmp, evO_const, Nat.reduceEqDiff, ↓reduceIte, eq_self, e0, e1, e7, wrap_i64 (n := (8 : Int) * (m : Int)) (by omega) (by omega)]
    rw [show (8 : Int) * (m : Int) = ((8 * m : Nat) : Int) by omega, shr_u64 (by omega : m ≤ 7)]
    simp only [WO_append, WO_buildSlice, WO_conv, conv_int, PureK_some, NewK_some, geT_put, evO_tmp, List.map_cons, List.map_nil, Option.map_some, Nat.reduceEqDiff, ↓reduceIte, eq_self, Nat.mul_one, wrap_byte, buildSl_1]
    simp only [byteV] at ap
    simp only [WO_move, WO_nil, MemK_some, geT_put, evO_tmp, keep_nil, keep_cons, keepK_eq, Nat.reduceEqDiff, ↓reduceIte, eq_self, e1, e7, ap]
    clear e0 e1 e7 e11
    intro fr e0 e1 e7
    refine BlkK_n (SeqK_n ?_)
    refine W_ops [0, 1, 7] ?_
    simp only [o40_5, WO_bin, WO_move, bin_sub, WO_nil, PureK_some, geT_put, evO_tmp, evO_const, keep_nil, keep_cons, keepK_eq, Nat.reduceEqDiff, ↓reduceIte, eq_self, e0, e1, e7, wrap_i64 (n := ((m : Nat) : Int) - 1) (by omega) (by omega)]
    clear e0 e1 e7
    intro fr e0 e1 e7
    refine LoopK_n (m' := m) (by omega) ⟨v2, dn ++ [UInt8.ofNat (N / 256 ^ m)], ?_, by omega, e0, e1, e7, ?_⟩
    · rw [← hdn]; simp [beN]
    · rw [← List.append_assoc, bsV_app]
      have e : bsV [UInt8.ofNat (N / 256 ^ m)] = [byteV (UInt8.ofNat (N / 256 ^ m))] := rfl
      rw [e]
      simpa [Nat.add_assoc] using h2
  · have : m = 0 := by omega
    subst this
    refine LoopK_x (BlkK_e (SeqK_n ?_))
    refine W_seq (W_ops [6] ?_)
    simp only [o40_6, WO_move, WO_nil, geT_put, evO_tmp, keep_nil, keep_cons, keepK_eq, ↓reduceIte, eq_self, e0]
    clear e0 e1 e7 e11
    intro fr e6
    refine SeqK_n ?_
    have hd : dn = beN N k := by simpa [beN] using hdn
    subst hd
    exact W_ret (Ret1 e6 (by rw [beN_length] at h1; exact h1))

set_option maxHeartbeats 2000000 in
theorem run22 {X : Ctx} (hX : X.fns = fnsOf Try.prog) (ho : ∀ f args, f ≠ 9 → X.orc f args = none) {s : Mm} {rv iv : Value} {T U : Nat} {re im : List (List Int)} (hr : TabC s rv re) (hi : TabC s iv im) (hlr : re.length ≤ 9223372036854775807) (hT : T < 18446744073709551616) (hU : U < 18446744073709551616) :
    CallP X 22 [.agg #[.float .f64 T, .float .f64 U, rv, iv]] s (fun r s' => Same s s' (fun _ => False) ∧ ((chkE T U re im ≠ 0 ∧ r = .tuple #[.slice none 0 0, .int .i64 (chkE T U re im : Nat)]) ∨
      (chkE T U re im = 0 ∧ ∃ v n, r = .tuple #[v, .int .i64 0] ∧ Hold s s' [HP.own 1 v n (bsV (encF T U re im))]))) := by
  refine CallP_of (hX ▸ ir22_eq) (ho _ _ (by decide)) (Nat.le_of_ble_eq_true rfl) ?_
  have hbx : (Value.agg #[.float .f64 T, .float .f64 U, rv, iv]).cells.toList = [.float .f64 T, .float .f64 U, rv, iv] := rfl
  refine W_seq (W_ops [1] ?_)
  simp only [o22_0, WO_box, WO_move, WO_nil, geT_put, frame_nil, frame_cons, evO_tmp, evO_const, keep_nil, keep_cons, keepK_eq, Nat.reduceEqDiff, ↓reduceIte, eq_self, Nat.zero_add, hbx]
  intro fr e1
  refine SeqK_n ?_
  have H1 := (Hold.refl s).new [.float .f64 T, .float .f64 U, rv, iv]
  generalize newAt s (.cells [.float .f64 T, .float .f64 U, rv, iv] false) = s1 at H1 ⊢
  refine W_seq (W_ops [1, 4] ?_)
  simp only [o22_1, WO_call, WO_load, PureK_some, geT_put, evO_tmp, List.map_cons, List.map_nil, ↓reduceIte, eq_self, e1, loadn_all (n := 4) (H1.cell (List.mem_cons_self ..)) rfl]
  refine CallK_of (run38 hX ho (hr.same H1.same) (hi.same H1.same) hlr hT hU) ?_
  rintro _ s2 ⟨rfl, hs2⟩
  have H2 := H1.keep hs2
  clear H1 hs2
  simp only [WO_move, WO_nil, geT_put, evO_tmp, keep_nil, keep_cons, keepK_eq, Nat.reduceEqDiff, ↓reduceIte, eq_self, e1]
  clear e1
  intro fr e1 e4
  refine SeqK_n ?_
  refine W_assoc ?_
  refine W_seq (W_ops [1, 4, 13] ?_)
  simp only [o22_2, WO_bin, WO_move, bin_neq, WO_nil, PureK_some, geT_put, evO_tmp, evO_const, keep_nil, keep_cons, keepK_eq, Nat.reduceEqDiff, ↓reduceIte, eq_self, e1, e4]
  clear e1 e4
  intro fr e1 e4 e13
  refine SeqK_n ?_
  refine W_seq (W_ifn e13 (fun hc => ?_) (fun hc => W_skip (SeqK_n ?_)))
  · refine W_seq (W_ops [2, 3] ?_)
    simp only [o22_3, WO_move, WO_nil, geT_put, evO_tmp, evO_const, keep_nil, keep_cons, keepK_eq, Nat.reduceEqDiff, ↓reduceIte, eq_self, e4]
    clear e1 e4 e13
    intro fr e2 e3
    refine SeqK_n ?_
    refine W_ret (SeqK_r (Ret2 e2 e3 ⟨H2.same, .inl ⟨by omega, rfl⟩⟩))
  have hc0 : chkE T U re im = 0 := by omega
  obtain ⟨hfT, hfU, hok, hlg⟩ := chk_spec hc0
  have hfU' : finB U = true := by unfold okU at hfU; simp only [Bool.and_eq_true] at hfU; exact hfU.1
  obtain ⟨hl, hcr, hci⟩ := okB_spec hok
  obtain ⟨hR, hN, hRN⟩ := large_spec hlg
  refine W_seq (W_ops [1, 5] ?_)
  simp only [o22_4, WO_call, WO_load, PureK_some, geT_put, evO_tmp, List.map_cons, List.map_nil, ↓reduceIte, eq_self, e1, loadn_all (n := 4) (H2.cell (List.mem_cons_self ..)) rfl]
  refine CallK_of (run39 hX ho (hr.same H2.same) (hi.same H2.same) hlr) ?_
  rintro _ s3 ⟨rfl, hs3⟩
  have H3 := H2.keep hs3
  clear H2 hs3
  simp only [WO_extract, ext_20, ext_21, WO_move, WO_nil, PureK_some, geT_put, evO_tmp, keep_nil, keep_cons, keepK_eq, Nat.reduceEqDiff, ↓reduceIte, eq_self, e1, hok]
  clear e1 e4 e13
  intro fr e1 e5
  refine SeqK_n ?_
  have LD : ∀ {s' l}, Hold s s' l → HP.cell s.nxt [.float .f64 T, .float .f64 U, rv, iv] ∈ l → loadV s' none (.pointer (some ⟨s.nxt, 0, none⟩)) = some (.float .f64 T) ∧ loadV s' none (.pointer (some ⟨s.nxt, 1, none⟩)) = some (.float .f64 U) ∧ loadV s' none (.pointer (some ⟨s.nxt, 2, none⟩)) = some rv ∧ loadV s' none (.pointer (some ⟨s.nxt, 3, none⟩)) = some iv :=
    fun h hm => ⟨load_g (o := 0) (h.cell hm), load_g (o := 1) (h.cell hm), load_g (o := 2) (h.cell hm), load_g (o := 3) (h.cell hm)⟩
  have m1 : ∀ {P : HP}, HP.cell s.nxt [.float .f64 T, .float .f64 U, rv, iv] ∈ [P, HP.cell s.nxt [.float .f64 T, .float .f64 U, rv, iv]] := fun {P} => List.mem_cons_of_mem _ (List.mem_cons_self ..)
  obtain ⟨cr, hr1, hr2⟩ := hr
  obtain ⟨ci, hi1, hi2⟩ := hi
  have hrl := hr1.len
  have hil := hi1.len
  obtain ⟨M, hM⟩ : ∃ M, M = 4 * re.length * colsN re := ⟨_, rfl⟩
  have hMb : M ≤ 1048576 := by rw [hM, Nat.mul_assoc]; omega
  have hMc : (4 : Int) * (re.length : Nat) * (colsN re : Nat) = (M : Nat) := by rw [hM, Int.natCast_mul, Int.natCast_mul]; rfl
  have w4 := wrap_i64 (n := (4 : Int) * (re.length : Nat)) (by omega) (by omega)
  have wM := wrap_i64 (n := ((M : Nat) : Int)) (by omega) (by omega)
  have w20 := wrap_i64 (n := ((20 + M : Nat) : Int)) (by omega) (by omega)
  have w20' := wrap_u64 (n := ((20 + M : Nat) : Int)) (by omega) (by omega)
  have c20 : (20 : Int) + (M : Nat) = ((20 + M : Nat) : Int) := by omega
  have hbs : buildSlV s3 1 [.int .u8 0] 3 [(0, 1, .int .u8 76), (1, 1, .int .u8 75), (2, 1, .int .u8 49)] = some (.slice (some ⟨s3.nxt, 0, none⟩) 3 3, .cells (bsV hdr) false) := rfl
  refine W_seq (W_ops [1, 5, 7] ?_)
  simp only [o22_5, WO_buildSlice, WO_move, WO_nil, NewK_some, geT_put, evO_tmp, evO_const, keep_nil, keep_cons, keepK_eq, List.map_cons, List.map_nil, Nat.reduceEqDiff, ↓reduceIte, eq_self, Nat.mul_one, e1, e5, hbs]
  clear e1 e5
  intro fr e1 e5 e7
  refine SeqK_n ?_
  have H4 : Hold s (newAt s3 (.cells (bsV hdr) false)) [HP.own 1 (.slice (some ⟨s3.nxt, 0, none⟩) 3 3) 3 (bsV hdr), HP.cell s.nxt [.float .f64 T, .float .f64 U, rv, iv]] :=
    H3.add .new (K' := footV (.slice (some ⟨s3.nxt, 0, none⟩) 3 3)) ⟨.cap (rest := []) (by rw [get_new, if_pos rfl, List.append_nil]) (by rw [nxt_new]; omega) rfl rfl (Nat.le_refl _) (by unfold OPEN; omega), rfl⟩ (fun B hB => by simp only [footV] at hB; rw [nxt_new]; omega)
  generalize newAt s3 (.cells (bsV hdr) false) = s4 at H4 ⊢
  obtain ⟨_, _, L2, _⟩ := LD H4 m1
  refine W_seq (W_ops [1, 5, 7] ?_)
  simp only [o22_6, WO_bin, WO_bu, WO_call, WO_conv, conv_int, WO_fieldAddr, fieldAddr_p, WO_load, WO_move, bin_add, bin_mul, PureK_some, geT_put, evO_tmp, evO_const, List.map_cons, List.map_nil, Nat.reduceEqDiff, ↓reduceIte, eq_self, Nat.zero_add, e1, e5, e7, L2, hrl, w4, hMc, wM, w20, w20', c20]
  refine CallK_of (run40 hX ho H4 (N := 20 + M) (k := 4) (by omega) (by simp [hdr])) ?_
  clear H4 H3
  rintro v5 s5 H5
  simp only [WO_move, WO_nil, geT_put, evO_tmp, keep_nil, keep_cons, keepK_eq, Nat.reduceEqDiff, ↓reduceIte, eq_self, e1, e5]
  clear e1 e5 e7
  intro fr e1 e5 e7
  refine SeqK_n ?_
  obtain ⟨L0, _, _, _⟩ := LD H5 m1
  refine W_seq (W_ops [1, 5, 7] ?_)
  simp only [o22_7, WO_call, WO_ext, WO_fieldAddr, fieldAddr_p, WO_load, WO_move, PureK_some, geT_put, evO_tmp, evO_const, List.map_cons, List.map_nil, Nat.reduceEqDiff, ↓reduceIte, eq_self, Nat.add_zero, e1, e7, L0, bits_eq hfT]
  refine CallK_of (run40 hX ho H5 (N := T) (k := 8) (by omega) (by simp [hdr, beN_length])) ?_
  clear H5
  rintro v6 s6 H6
  simp only [WO_move, WO_nil, geT_put, evO_tmp, keep_nil, keep_cons, keepK_eq, Nat.reduceEqDiff, ↓reduceIte, eq_self, e1, e5]
  clear e1 e5 e7
  intro fr e1 e5 e7
  refine SeqK_n ?_
  obtain ⟨_, L1, _, _⟩ := LD H6 m1
  refine W_seq (W_ops [1, 5, 7] ?_)
  simp only [o22_8, WO_call, WO_ext, WO_fieldAddr, fieldAddr_p, WO_load, WO_move, PureK_some, geT_put, evO_tmp, evO_const, List.map_cons, List.map_nil, Nat.reduceEqDiff, ↓reduceIte, eq_self, Nat.zero_add, e1, e7, L1, bits_eq hfU']
  refine CallK_of (run40 hX ho H6 (N := U) (k := 8) (by omega) (by simp [hdr, beN_length])) ?_
  clear H6
  rintro v7 s7 H7
  simp only [WO_move, WO_nil, geT_put, evO_tmp, keep_nil, keep_cons, keepK_eq, Nat.reduceEqDiff, ↓reduceIte, eq_self, e1, e5]
  clear e1 e5 e7
  intro fr e1 e5 e7
  refine SeqK_n ?_
  obtain ⟨_, _, L2, _⟩ := LD H7 m1
  refine W_seq (W_ops [1, 5, 7] ?_)
  simp only [o22_9, WO_bu, WO_call, WO_conv, conv_int, WO_fieldAddr, fieldAddr_p, WO_load, WO_move, PureK_some, geT_put, evO_tmp, evO_const, List.map_cons, List.map_nil, Nat.reduceEqDiff, ↓reduceIte, eq_self, Nat.zero_add, e1, e7, L2, hrl, wrap_u64 (n := ((re.length : Nat) : Int)) (by omega) (by omega)]
  refine CallK_of (run40 hX ho H7 (N := re.length) (k := 2) (by omega) (by simp [hdr, beN_length])) ?_
  clear H7
  rintro v8 s8 H8
  simp only [WO_move, WO_nil, geT_put, evO_tmp, keep_nil, keep_cons, keepK_eq, Nat.reduceEqDiff, ↓reduceIte, eq_self, e1, e5]
  clear e1 e5 e7
  intro fr e1 e5 e7
  refine SeqK_n ?_
  refine W_seq (W_ops [1, 5, 7] ?_)
  simp only [o22_10, WO_call, WO_conv, conv_int, WO_move, PureK_some, geT_put, evO_tmp, evO_const, List.map_cons, List.map_nil, Nat.reduceEqDiff, ↓reduceIte, eq_self, e5, e7, wrap_u64 (n := ((colsN re : Nat) : Int)) (by omega) (by omega)]
  refine CallK_of (run40 hX ho H8 (N := colsN re) (k := 2) (by omega) (by simp [hdr, beN_length])) ?_
  clear H8
  rintro v9 s9 H9
  simp only [WO_move, WO_nil, geT_put, evO_tmp, keep_nil, keep_cons, keepK_eq, Nat.reduceEqDiff, ↓reduceIte, eq_self, e1, e5]
  clear e1 e5 e7
  intro fr e1 e5 e7
  refine SeqK_n ?_
  have hhead : hdr ++ beN (20 + M) 4 ++ beN T 8 ++ beN U 8 ++ beN re.length 2 ++ beN (colsN re) 2 = encHead T U re.length (colsN re) := by rw [hM]; rfl
  rw [hhead] at H9
  refine W_assoc ?_
  refine W_seq (W_ops [1, 5, 7, 8] ?_)
  simp only [o22_11, WO_move, WO_nil, geT_put, evO_const, keep_nil, keep_cons, keepK_eq, Nat.reduceEqDiff, ↓reduceIte, eq_self, e1, e5, e7]
  clear e1 e5 e7
  intro fr e1 e5 e7 e8
  refine SeqK_n ?_
  have hhl : (encHead T U re.length (colsN re)).length = 27 := by simp [encHead, hdr, beN_length]
  refine W_seq (W_block (W_loop (fun m fr s3 => ∃ k v n, k + m = re.length ∧ geT fr 1 = .pointer (some ⟨s.nxt, 0, none⟩) ∧ geT fr 5 = .int .i64 (colsN re : Nat) ∧ geT fr 7 = v ∧ geT fr 8 = .int .i64 (k : Nat) ∧
    Hold s s3 [HP.own 1 v n (bsV (encHead T U re.length (colsN re) ++ encRows (re.take k) (im.take k))), HP.cell s.nxt [.float .f64 T, .float .f64 U, rv, iv]]) re.length ⟨0, v9, _, by omega, e1, e5, e7, e8, by simpa [encRows] using H9⟩ ?_))
  clear e1 e5 e7 e8 fr H9
  rintro m fr sa ⟨k, va, na, hk, e1, e5, e7, e8, H9⟩
  obtain ⟨_, _, L2, _⟩ := LD H9 m1
  refine W_assoc ?_
  refine W_seq (W_ops [1, 5, 7, 8, 55] ?_)
  simp only [o22_13, WO_bin, WO_bu, WO_fieldAddr, fieldAddr_p, WO_load, WO_move, bin_lss, WO_nil, PureK_some, geT_put, evO_tmp, keep_nil, keep_cons, keepK_eq, List.map_cons, List.map_nil, Nat.reduceEqDiff, ↓reduceIte, eq_self, Nat.zero_add, e1, e5, e7, e8, L2, hrl]
  clear e1 e5 e7 e8
  intro fr e1 e5 e7 e8 e55
  refine SeqK_n ?_
  refine W_while e55 (fun hlt => ?_) (fun hlt => ?_)
  · have hk1 : k < re.length := by omega
    have hk2 : k < im.length := by omega
    obtain ⟨c, hc1, hc2⟩ := hr2 k re[k] (by simp [hk1])
    obtain ⟨c', hc1', hc2'⟩ := hi2 k im[k] (by simp [hk2])
    have hlk : re[k].length = colsN re := hcr _ (by simp)
    have hlk' : im[k].length = colsN re := hci _ (by simp)
    refine W_seq (W_block ?_)
    have hbl : (encHead T U re.length (colsN re) ++ encRows (re.take k) (im.take k)).length + 4 * colsN re ≤ 2000000 := by
      have := encRows_length (n := colsN re) (re.take k) (im.take k) (by simp [hl]) (fun r h => hcr r (List.mem_of_mem_take h)) (fun r h => hci r (List.mem_of_mem_take h))
      rw [List.length_append, hhl, this, List.length_take]
      have h2 : (min k re.length) * colsN re ≤ re.length * colsN re := Nat.mul_le_mul_right _ (by omega)
      omega
    refine W_seq (W_ops [1, 5, 7, 8, 9] ?_)
    simp only [o22_14, WO_move, WO_nil, geT_put, evO_const, keep_nil, keep_cons, keepK_eq, Nat.reduceEqDiff, ↓reduceIte, eq_self, e1, e5, e7, e8]
    clear e1 e5 e7 e8 e55
    intro fr e1 e5 e7 e8 e9
    refine SeqK_n ?_
    refine W_block (W_loop (fun m fr s3 => ∃ g v n, g + m = colsN re ∧ geT fr 1 = .pointer (some ⟨s.nxt, 0, none⟩) ∧ geT fr 5 = .int .i64 (colsN re : Nat) ∧ geT fr 7 = v ∧ geT fr 8 = .int .i64 (k : Nat) ∧ geT fr 9 = .int .i64 (g : Nat) ∧
      Hold s s3 [HP.own 1 v n (bsV (encHead T U re.length (colsN re) ++ encRows (re.take k) (im.take k) ++ encRow (re[k].take g) (im[k].take g))), HP.cell s.nxt [.float .f64 T, .float .f64 U, rv, iv]]) (colsN re) ⟨0, va, _, by omega, e1, e5, e7, e8, e9, by simpa [encRow] using H9⟩ ?_)
    clear e1 e5 e7 e8 e9 fr H9
    rintro m2 fr sb ⟨g, vb, nb, hg2, e1, e5, e7, e8, e9, H9⟩
    obtain ⟨_, _, L2, _⟩ := LD H9 m1
    refine W_assoc ?_
    refine W_seq (W_ops [1, 5, 7, 8, 9, 60] ?_)
    simp only [o22_16, WO_bin, WO_move, bin_lss, WO_nil, PureK_some, geT_put, evO_tmp, keep_nil, keep_cons, keepK_eq, Nat.reduceEqDiff, ↓reduceIte, eq_self, e1, e5, e7, e8, e9]
    clear e1 e5 e7 e8 e9
    intro fr e1 e5 e7 e8 e9 e60
    refine SeqK_n ?_
    refine W_while e60 (fun hlt2 => ?_) (fun hlt2 => ?_)
    · have hg1 : g < colsN re := by omega
      have hg3 : g < re[k].length := by omega
      have hg4 : g < im[k].length := by omega
      refine W_seq (W_block ?_)
      have hla : (encHead T U re.length (colsN re) ++ encRows (re.take k) (im.take k) ++ encRow (re[k].take g) (im[k].take g)).length + 4 ≤ 2000000 := by
        have := encRow_length (re[k].take g) (im[k].take g) (by simp [hlk, hlk'])
        rw [List.length_append, this, List.length_take]
        omega
      have A1 := (hr1.same H9.same (fun _ _ h => h)).load hc1
      have A2 : loadV sb none (elP c g) = some (.int .i16 (re[k]'hk1)[g]) := (hc2.same H9.same (fun _ _ h => h)).load (by simp [hg3])
      have B1 := hr1.addr (kk := .i64) (i := (k : Int)) rfl hk1
      have B2 := hc2.addr (kk := .i64) (i := (g : Int)) rfl hg3
      have B3 := hi1.addr (kk := .i64) (i := (k : Int)) rfl hk2
      have B4 := hc2'.addr (kk := .i64) (i := (g : Int)) rfl hg4
      have u1 : u16 (re[k]'hk1)[g] < 65536 := by unfold u16; omega
      have u2 : u16 (im[k]'hk2)[g] < 65536 := by unfold u16; omega
      have W1 := wrap_u64 (n := ((u16 (re[k]'hk1)[g] : Nat) : Int)) (by omega) (by omega)
      have W2 := wrap_u64 (n := ((u16 (im[k]'hk2)[g] : Nat) : Int)) (by omega) (by omega)
      refine W_seq (W_ops [1, 5, 7, 8, 9] ?_)
      simp only [o22_17, WO_addrSl, WO_call, WO_conv, conv_int, WO_fieldAddr, fieldAddr_p, WO_load, WO_move, PureK_some, geT_put, evO_tmp, evO_const, List.map_cons, List.map_nil, Nat.reduceEqDiff, ↓reduceIte, eq_self, Nat.zero_add, Nat.mul_one, e1, e7, e8, e9, L2, B1, A1, B2, A2, conv_u16, W1]
      refine CallK_of (run40 hX ho H9 (N := u16 (re[k]'hk1)[g]) (k := 2) (by omega) (by omega)) ?_
      clear H9 A1 A2
      rintro vc sc H10
      simp only [WO_move, WO_nil, geT_put, evO_tmp, keep_nil, keep_cons, keepK_eq, Nat.reduceEqDiff, ↓reduceIte, eq_self, e1, e5, e8, e9]
      clear e1 e5 e7 e8 e9 e60
      intro fr e1 e5 e7 e8 e9
      refine SeqK_n ?_
      obtain ⟨_, _, _, L3⟩ := LD H10 m1
      have A3 := (hi1.same H10.same (fun _ _ h => h)).load hc1'
      have A4 : loadV sc none (elP c' g) = some (.int .i16 (im[k]'hk2)[g]) := (hc2'.same H10.same (fun _ _ h => h)).load (by simp [hg4])
      refine W_ops [1, 5, 7, 8, 9] ?_
      simp only [o22_18, WO_addrSl, WO_call, WO_conv, conv_int, WO_fieldAddr, fieldAddr_p, WO_load, WO_move, PureK_some, geT_put, evO_tmp, evO_const, List.map_cons, List.map_nil, Nat.reduceEqDiff, ↓reduceIte, eq_self, Nat.zero_add, Nat.mul_one, e1, e7, e8, e9, L3, B3, A3, B4, A4, conv_u16, W2]
      refine CallK_of (run40 hX ho H10 (N := u16 (im[k]'hk2)[g]) (k := 2) (by omega) (by simp only [List.length_append, beN_length] at hla ⊢; omega)) ?_
      rintro vd sd H11
      simp only [WO_move, WO_nil, geT_put, evO_tmp, keep_nil, keep_cons, keepK_eq, Nat.reduceEqDiff, ↓reduceIte, eq_self, e1, e5, e8, e9]
      clear e1 e5 e7 e8 e9
      intro fr e1 e5 e7 e8 e9
      refine BlkK_n (SeqK_n ?_)
      refine W_ops [1, 5, 7, 8, 9] ?_
      simp only [o22_19, WO_bin, WO_move, bin_add, WO_nil, PureK_some, geT_put, evO_tmp, evO_const, keep_nil, keep_cons, keepK_eq, Nat.reduceEqDiff, ↓reduceIte, eq_self, e1, e5, e7, e8, e9, wrap_i64 (n := (g : Int) + 1) (by omega) (by omega)]
      clear e1 e5 e7 e8 e9
      intro fr e1 e5 e7 e8 e9
      have ecs : encHead T U re.length (colsN re) ++ encRows (re.take k) (im.take k) ++ encRow (re[k].take g) (im[k].take g) ++ beN (u16 (re[k]'hk1)[g]) 2 ++ beN (u16 (im[k]'hk2)[g]) 2 = encHead T U re.length (colsN re) ++ encRows (re.take k) (im.take k) ++ encRow (re[k].take (g + 1)) (im[k].take (g + 1)) := by
        rw [encRow_take (by omega) hg3]
        simp only [List.append_assoc]
      rw [ecs] at H11
      exact LoopK_n (m' := m2 - 1) (by omega) ⟨g + 1, vd, _, by omega, e1, e5, e7, e8, by rw [e9]; rfl, H11⟩
    · have : g = colsN re := by omega
      subst this
      refine LoopK_x (BlkK_e (BlkK_n (SeqK_n ?_)))
      refine W_ops [1, 5, 7, 8] ?_
      simp only [o22_20, WO_bin, WO_move, bin_add, WO_nil, PureK_some, geT_put, evO_tmp, evO_const, keep_nil, keep_cons, keepK_eq, Nat.reduceEqDiff, ↓reduceIte, eq_self, e1, e5, e7, e8, wrap_i64 (n := (k : Int) + 1) (by omega) (by omega)]
      clear e1 e5 e7 e8 e9 e60
      intro fr e1 e5 e7 e8
      rw [List.take_of_length_le (l := re[k]) (by omega), List.take_of_length_le (l := im[k]) (by omega), List.append_assoc, ← encRows_take hl hk1] at H9
      exact LoopK_n (m' := m - 1) (by omega) ⟨k + 1, vb, _, by omega, e1, e5, e7, by rw [e8]; rfl, H9⟩
  · have : k = re.length := by omega
    subst this
    refine LoopK_x (BlkK_e (SeqK_n ?_))
    rw [List.take_length, hl, List.take_length] at H9
    have hbody : encHead T U im.length (colsN re) ++ encRows re im = encBody T U re im := by unfold encBody; rw [hl]
    rw [hbody] at H9
    have hel : (encBody T U re im).length = 27 + M := by
      rw [encBody, List.length_append, hhl, encRows_length (n := colsN re) re im hl hcr hci, hM, Nat.mul_assoc]
    have hbs9 : Bs sa va (encBody T U re im) := Bs.of (H9.own (List.mem_cons_self ..)).slc
    have hfv := fnvF_lt (s := 2166136261) (by omega) (encBody T U re im)
    refine W_seq (W_ops [2, 3] ?_)
    simp only [o22_21, WO_call, WO_move, geT_put, evO_tmp, List.map_cons, List.map_nil, Nat.reduceEqDiff, ↓reduceIte, eq_self, e7]
    refine CallK_of (run31 hX ho hbs9 (by omega)) ?_
    rintro _ _ ⟨rfl, rfl⟩
    simp only [WO_call, WO_conv, conv_int, PureK_some, geT_put, evO_tmp, evO_const, List.map_cons, List.map_nil, Nat.reduceEqDiff, ↓reduceIte, eq_self, wrap_u64 (n := ((fnvF 2166136261 (encBody T U re im) : Nat) : Int)) (by omega) (by omega)]
    refine CallK_of (run40 hX ho H9 (N := fnvF 2166136261 (encBody T U re im)) (k := 4) (by omega) (by omega)) ?_
    rintro vz sz H10
    simp only [WO_move, WO_nil, geT_put, evO_tmp, evO_const, keep_nil, keep_cons, keepK_eq, Nat.reduceEqDiff, ↓reduceIte, eq_self]
    clear e1 e5 e7 e8 e55
    intro fr e2 e3
    refine SeqK_n ?_
    exact W_ret (Ret2 e2 e3 ⟨H10.same, .inr ⟨hc0, vz, _, rfl, H10.up1.tail⟩⟩)

end Go.Proofs.Ytkfcejhebepdkaa

/- A frame's rows as numbers: the program's, the document's. -/
namespace Go.Proofs.Ytkfcejhebepdkaa
open Go Go.Vam

def cellX (U : Nat) (a b : Int) : Nat × Nat := (fmul .f64 (FloatKind.f64.nearest a) U, fmul .f64 (FloatKind.f64.nearest b) U)
def rowX (U : Nat) (r i : List Int) : List (Nat × Nat) := List.zipWith (cellX U) r i
def rowsX (U : Nat) (re im : List (List Int)) : List (List (Nat × Nat)) := List.zipWith (rowX U) re im
def cX (p : Nat × Nat) : Value := .complex .f64 p.1 p.2
def eX (p : Nat × Nat) : List Value := [cX p]
def eC (p : Nat × Nat) : List Value := [.float .f64 p.1, .float .f64 p.2]

theorem rowX_len {U : Nat} {r i : List Int} {n : Nat} (h : r.length = n) (h' : i.length = n) : (rowX U r i).length = n := by simp [rowX, h, h']
theorem rowsX_len {U : Nat} {r i : List (List Int)} {n : Nat} (h : r.length = n) (h' : i.length = n) : (rowsX U r i).length = n := by simp [rowsX, h, h']
theorem flat_eX (l : List (Nat × Nat)) : l.flatMap eX = l.map cX := flatMap_one cX l
theorem flat_eC_length (l : List (Nat × Nat)) : (l.flatMap eC).length = 2 * l.length := by
  induction l with
  | nil => rfl
  | cons x l ih => simp only [List.flatMap_cons, List.length_append, ih, List.length_cons]; simp [eC]; omega

theorem take_snoc {α : Type} {l : List α} {k : Nat} (h : k < l.length) : l.take (k + 1) = l.take k ++ [l[k]] := by
  rw [List.take_add_one, List.getElem?_eq_getElem h]; rfl


set_option maxHeartbeats 2000000 in
theorem run20 {X : Ctx} (hX : X.fns = fnsOf Try.prog) (ho : ∀ f args, f ≠ 9 → X.orc f args = none) {s : Mm} {rv iv : Value} {T U : Nat} {re im : List (List Int)} (hr : TabC s rv re) (hi : TabC s iv im) (hlr : re.length ≤ 9223372036854775807) :
    CallP X 20 [.agg #[.float .f64 T, .float .f64 U, rv, iv]] s (fun r s' => Same s s' (fun _ => False) ∧ ((chkE T U re im ≠ 0 ∧ r = .tuple #[.slice none 0 0, .int .i64 (chkE T U re im : Nat)]) ∨
      (chkE T U re im = 0 ∧ ∃ v, r = .tuple #[v, .int .i64 0] ∧ Hold s s' [HP.tab 1 eX v (rowsX U re im) []]))) := by
  refine CallP_of (hX ▸ ir20_eq) (ho _ _ (by decide)) (Nat.le_of_ble_eq_true rfl) ?_
  have hbx : (Value.agg #[.float .f64 T, .float .f64 U, rv, iv]).cells.toList = [.float .f64 T, .float .f64 U, rv, iv] := rfl
  refine W_seq (W_ops [1] ?_)
  simp only [o20_0, WO_box, WO_move, WO_nil, geT_put, frame_nil, frame_cons, evO_tmp, evO_const, keep_nil, keep_cons, keepK_eq, Nat.reduceEqDiff, ↓reduceIte, eq_self, Nat.zero_add, hbx]
  intro fr e1
  refine SeqK_n ?_
  have H1 := (Hold.refl s).new [.float .f64 T, .float .f64 U, rv, iv]
  generalize newAt s (.cells [.float .f64 T, .float .f64 U, rv, iv] false) = s1 at H1 ⊢
  refine W_seq (W_ops [1, 4, 5] ?_)
  simp only [o20_1, WO_call, WO_load, PureK_some, geT_put, evO_tmp, List.map_cons, List.map_nil, ↓reduceIte, eq_self, e1, loadn_all (n := 4) (H1.cell (List.mem_cons_self ..)) rfl]
  refine CallK_of (run34 hX ho (hr.same H1.same) (hi.same H1.same) hlr) ?_
  rintro _ s2 ⟨rfl, hs2⟩
  have H2 := H1.keep hs2
  clear H1 hs2
  simp only [WO_extract, ext_20, ext_21, WO_move, WO_nil, PureK_some, geT_put, evO_tmp, keep_nil, keep_cons, keepK_eq, Nat.reduceEqDiff, ↓reduceIte, eq_self, e1]
  clear e1
  intro fr e1 e4 e5
  refine SeqK_n ?_
  refine W_assoc ?_
  refine W_seq (W_ops [1, 4, 5, 15] ?_)
  simp only [o20_2, WO_bin, WO_move, bin_neq, WO_nil, PureK_some, geT_put, evO_tmp, evO_const, keep_nil, keep_cons, keepK_eq, Nat.reduceEqDiff, ↓reduceIte, eq_self, e1, e4, e5]
  clear e1 e4 e5
  intro fr e1 e4 e5 e15
  refine SeqK_n ?_
  refine W_seq (W_ifn e15 (fun hc => ?_) (fun hc => W_skip (SeqK_n ?_)))
  · refine W_seq (W_ops [2, 3] ?_)
    simp only [o20_3, WO_move, WO_nil, geT_put, evO_tmp, evO_const, keep_nil, keep_cons, keepK_eq, Nat.reduceEqDiff, ↓reduceIte, eq_self, e5]
    clear e1 e4 e5 e15
    intro fr e2 e3
    refine SeqK_n ?_
    exact W_ret (SeqK_r (Ret2 e2 e3 ⟨H2.same, .inl ⟨by omega, rfl⟩⟩))
  have hc0 : chkE T U re im = 0 := by omega
  obtain ⟨hfT, hfU, hok, hlg⟩ := chk_spec hc0
  obtain ⟨hl, hcr, hci⟩ := okB_spec hok
  obtain ⟨hR, hN, hRN⟩ := large_spec hlg
  have hn0 : chkN T U re im = colsN re := by unfold chkN; rw [if_pos hc0]
  rw [hn0] at e4
  obtain ⟨cr, hr1, hr2⟩ := hr
  obtain ⟨ci, hi1, hi2⟩ := hi
  have hrl := hr1.len
  have L2 := load_g (o := 2) (H2.cell (List.mem_cons_self ..))
  simp only [List.getElem?_cons_zero, List.getElem?_cons_succ] at L2
  refine W_seq (W_ops [1, 4, 6] ?_)
  simp only [o20_4, WO_bu, WO_fieldAddr, fieldAddr_p, WO_load, WO_makeSlice, WO_move, WO_nil, PureK_some, NewK_some, geT_put, evO_tmp, keep_nil, keep_cons, keepK_eq, List.map_cons, List.map_nil, Nat.reduceEqDiff, ↓reduceIte, eq_self, Nat.zero_add, e1, e4, L2, hrl, makeSl_eq (s := s2) (bytes := 24) (l := re.length) (c := re.length) (z := [.slice none 0 0]) (k := .i64) (k' := .i64) rfl rfl (Nat.le_refl _) (by omega) (by omega)]
  clear e1 e4 e15
  intro fr e1 e4 e6
  refine SeqK_n ?_
  have H3 := H2.makeT (c := re.length) (z := .slice none 0 0) 1 eX (by unfold OPEN; omega)
  clear H2 L2
  generalize newAt s2 (.cells (repZ [.slice none 0 0] re.length) false) = s3 at H3 ⊢
  generalize Value.slice (some ⟨s2.nxt, 0, none⟩) re.length re.length = ov at H3 e6
  have hol : buV .len [ov] = some (.int .i64 re.length) := by
    obtain ⟨K, ⟨rc, a, o, _⟩, _⟩ := H3.mem (List.mem_cons_self ..)
    have := a.slc.len
    simpa using this
  have hxl : (rowsX U re im).length = re.length := rowsX_len rfl hl.symm
  refine W_assoc ?_
  refine W_seq (W_ops [1, 4, 6, 22, 23] ?_)
  simp only [o20_5, WO_bu, WO_move, WO_nil, PureK_some, geT_put, evO_tmp, evO_const, keep_nil, keep_cons, keepK_eq, List.map_cons, List.map_nil, Nat.reduceEqDiff, ↓reduceIte, eq_self, e1, e4, e6, hol]
  clear e1 e4 e6
  intro fr e1 e4 e6 e22 e23
  refine SeqK_n ?_
  refine W_seq (W_block (W_loop (fun m fr s4 => ∃ p, p + m = re.length ∧ geT fr 1 = .pointer (some ⟨s.nxt, 0, none⟩) ∧ geT fr 4 = .int .i64 (colsN re : Nat) ∧ geT fr 6 = ov ∧ geT fr 22 = .int .i64 (re.length : Nat) ∧ geT fr 23 = .int .i64 (p : Nat) ∧
    Hold s s4 [HP.tab 1 eX ov ((rowsX U re im).take p) (List.replicate (re.length - p) (.slice none 0 0)), HP.cell s.nxt [.float .f64 T, .float .f64 U, rv, iv]]) re.length ⟨0, by omega, e1, e4, e6, e22, e23, by simpa using H3⟩ ?_))
  clear e1 e4 e6 e22 e23 fr H3 s3
  rintro m fr s3 ⟨p, hm, e1, e4, e6, e22, e23, H3⟩
  refine W_seq (W_ops [1, 4, 6, 22, 23, 24] ?_)
  simp only [o20_7, WO_bin, bin_lss, WO_nil, PureK_some, geT_put, evO_tmp, keep_nil, keep_cons, keepK_eq, Nat.reduceEqDiff, ↓reduceIte, eq_self, e1, e4, e6, e22, e23]
  clear e1 e4 e6 e22 e23
  intro fr e1 e4 e6 e22 e23 e24
  refine SeqK_n ?_
  refine W_while e24 (fun hlt => ?_) (fun hlt => ?_)
  · have hp : p < re.length := by omega
    have hp2 : p < im.length := by omega
    obtain ⟨c, hc1, hc2⟩ := hr2 p re[p] (by simp [hp])
    obtain ⟨c', hc1', hc2'⟩ := hi2 p im[p] (by simp [hp2])
    have hlk : re[p].length = colsN re := hcr _ (by simp)
    have hlk' : im[p].length = colsN re := hci _ (by simp)
    obtain ⟨row, hrow⟩ : ∃ row, row = rowX U re[p] im[p] := ⟨_, rfl⟩
    have hrw : (rowsX U re im)[p]'(by omega) = row := by rw [hrow]; simp [rowsX]
    have hrwl : row.length = colsN re := by rw [hrow]; exact rowX_len hlk hlk'
    have htl : List.replicate (re.length - p) (Value.slice none 0 0) = .slice none 0 0 :: List.replicate (re.length - (p + 1)) (.slice none 0 0) := by
      rw [show re.length - p = (re.length - (p + 1)) + 1 by omega, List.replicate_succ]
    rw [htl] at H3
    have htk : ((rowsX U re im).take p).length = p := by rw [List.length_take]; omega
    refine W_seq (W_block ?_)
    refine W_seq (W_ops [1, 4, 6, 7, 22, 23] ?_)
    simp only [o20_8, WO_move, WO_nil, geT_put, evO_tmp, keep_nil, keep_cons, keepK_eq, Nat.reduceEqDiff, ↓reduceIte, eq_self, e1, e4, e6, e22, e23]
    clear e1 e4 e6 e22 e23 e24
    intro fr e1 e4 e6 e7 e22 e23
    refine SeqK_n ?_
    have H4 := (H3.make (sz := 1) (c := colsN re) (n := colsN re) (z := [.complex .f64 0 0]) rfl (Nat.le_refl _) (by unfold OPEN; omega)).up1
    have mk := makeSl_eq (s := s3) (bytes := 16) (l := colsN re) (c := colsN re) (z := [.complex .f64 0 0]) (k := .i64) (k' := .i64) rfl rfl (Nat.le_refl _) (by omega) (by omega)
    rw [repZ_1] at H4 mk
    have z0 : List.replicate (colsN re) (Value.complex .f64 0 0) = fillV cX (.complex .f64 0 0) row 0 := by rw [fillV_zero, hrwl]
    rw [z0] at H4 mk
    obtain ⟨rs, hrs⟩ : ∃ rs, rs = Value.slice (some ⟨s3.nxt, 0, none⟩) (colsN re) (colsN re) := ⟨_, rfl⟩
    rw [← hrs] at H4 mk
    obtain ⟨s4, st4, H5⟩ := H4.tabStore (c := rs) (by rw [hrs]; rfl)
    have ad := (H4.tabLoad (List.mem_cons_self ..)).1
    rw [htk] at st4 ad
    refine W_seq (W_ops [1, 4, 6, 7, 22, 23] ?_)
    simp only [o20_9, WO_addrSl, WO_makeSlice, WO_move, WO_store, WO_nil, PureK_some, MemK_some, NewK_some, geT_put, puT_none, evO_tmp, keep_nil, keep_cons, keepK_eq, Nat.reduceEqDiff, ↓reduceIte, eq_self, e1, e4, e6, e7, e22, e23, mk, ad, st4]
    clear e1 e4 e6 e7 e22 e23
    intro fr e1 e4 e6 e7 e22 e23
    refine SeqK_n ?_
    clear H3 H4 mk st4 z0
    refine W_seq (W_ops [1, 4, 6, 7, 22, 23, 31, 32] ?_)
    simp only [o20_10, WO_move, WO_nil, geT_put, evO_tmp, evO_const, keep_nil, keep_cons, keepK_eq, Nat.reduceEqDiff, ↓reduceIte, eq_self, e1, e4, e6, e7, e22, e23]
    clear e1 e4 e6 e7 e22 e23
    intro fr e1 e4 e6 e7 e22 e23 e31 e32
    refine SeqK_n ?_
    have H6 := H5.up1
    clear H5
    refine W_block (W_loop (fun m2 fr s5 => ∃ g, g + m2 = colsN re ∧ geT fr 1 = .pointer (some ⟨s.nxt, 0, none⟩) ∧ geT fr 4 = .int .i64 (colsN re : Nat) ∧ geT fr 6 = ov ∧ geT fr 7 = .int .i64 (p : Nat) ∧ geT fr 22 = .int .i64 (re.length : Nat) ∧ geT fr 23 = .int .i64 (p : Nat) ∧ geT fr 31 = .int .i64 (colsN re : Nat) ∧ geT fr 32 = .int .i64 (g : Nat) ∧
      Hold s s5 [HP.own 1 rs (colsN re) (fillV cX (.complex .f64 0 0) row g), HP.tab 1 eX ov ((rowsX U re im).take p) (rs :: List.replicate (re.length - (p + 1)) (.slice none 0 0)), HP.cell s.nxt [.float .f64 T, .float .f64 U, rv, iv]]) (colsN re) ⟨0, by omega, e1, e4, e6, e7, e22, e23, e31, e32, H6⟩ ?_)
    clear e1 e4 e6 e7 e22 e23 e31 e32 fr H6 s4
    rintro m2 fr s4 ⟨g, hm2, e1, e4, e6, e7, e22, e23, e31, e32, H6⟩
    refine W_seq (W_ops [1, 4, 6, 7, 22, 23, 31, 32, 33] ?_)
    simp only [o20_12, WO_bin, bin_lss, WO_nil, PureK_some, geT_put, evO_tmp, keep_nil, keep_cons, keepK_eq, Nat.reduceEqDiff, ↓reduceIte, eq_self, e1, e4, e6, e7, e22, e23, e31, e32]
    clear e1 e4 e6 e7 e22 e23 e31 e32
    intro fr e1 e4 e6 e7 e22 e23 e31 e32 e33
    refine SeqK_n ?_
    refine W_while e33 (fun hlt2 => ?_) (fun hlt2 => ?_)
    · have hg : g < colsN re := by omega
      have hg3 : g < re[p].length := by omega
      have hg4 : g < im[p].length := by omega
      have hg5 : g < row.length := by omega
      refine W_seq (W_block ?_)
      refine W_seq (W_ops [1, 4, 6, 7, 8, 22, 23, 31, 32] ?_)
      simp only [o20_13, WO_move, WO_nil, geT_put, evO_tmp, keep_nil, keep_cons, keepK_eq, Nat.reduceEqDiff, ↓reduceIte, eq_self, e1, e4, e6, e7, e22, e23, e31, e32]
      clear e1 e4 e6 e7 e22 e23 e31 e32 e33
      intro fr e1 e4 e6 e7 e8 e22 e23 e31 e32
      refine SeqK_n ?_
      have hrg : row[g] = (fmul .f64 (FloatKind.f64.nearest re[p][g]) U, fmul .f64 (FloatKind.f64.nearest im[p][g]) U) := by
        have : row[g]? = (rowX U re[p] im[p])[g]? := by rw [hrow]
        rw [List.getElem?_eq_getElem hg5] at this
        rw [rowX, List.getElem?_zipWith, List.getElem?_eq_getElem hg3, List.getElem?_eq_getElem hg4] at this
        exact Option.some.inj this
      obtain ⟨s5, st5, H7⟩ := H6.store (k := g) (x := cX row[g]) (by rw [fillV_length (by omega)]; omega) rfl
      rw [fillV_set hg5] at H7
      have ad1 := (H6.tabLoad (List.mem_cons_of_mem _ (List.mem_cons_self ..))).1
      have ld1 := (H6.tabLoad (List.mem_cons_of_mem _ (List.mem_cons_self ..))).2
      rw [htk] at ad1 ld1
      have ad2 := (H6.own (List.mem_cons_self ..)).slc.addr (kk := .i64) (i := (g : Int)) rfl hg
      have cl := H6.cell (List.mem_cons_of_mem _ (List.mem_cons_of_mem _ (List.mem_cons_self ..)))
      have L1 := load_g (o := 1) cl
      have L2 := load_g (o := 2) cl
      have L3 := load_g (o := 3) cl
      simp only [List.getElem?_cons_zero, List.getElem?_cons_succ] at L1 L2 L3
      have A1 := (hr1.same H6.same (fun _ _ h => h)).load hc1
      have A2 : loadV s4 none (elP c g) = some (.int .i16 (re[p]'hp)[g]) := (hc2.same H6.same (fun _ _ h => h)).load (by simp [hg3])
      have A3 := (hi1.same H6.same (fun _ _ h => h)).load hc1'
      have A4 : loadV s4 none (elP c' g) = some (.int .i16 (im[p]'hp2)[g]) := (hc2'.same H6.same (fun _ _ h => h)).load (by simp [hg4])
      have B1 := hr1.addr (kk := .i64) (i := (p : Int)) rfl hp
      have B2 := hc2.addr (kk := .i64) (i := (g : Int)) rfl hg3
      have B3 := hi1.addr (kk := .i64) (i := (p : Int)) rfl hp2
      have B4 := hc2'.addr (kk := .i64) (i := (g : Int)) rfl hg4
      rw [Nat.mul_one] at ad2 B1 B2 B3 B4
      rw [hrg, cX] at st5
      refine W_draw0 [1, 4, 6, 7, 22, 23, 31, 32] rfl ?_
      simp only [d20_14, WD_addrSl, WD_bin, WD_bu, bu_complex, WD_conv, conv_float, WD_fieldAddr, fieldAddr_p, WD_load, WD_move, WD_store, binf_mul, WD_nil, DPureK_some, DReadK_some, DActK_some, pastR_nil, preHead_nil, joinF_nil, joinAll_nil, setH_self, Nat.testBit, Nat.reduceShiftRight, Nat.reduceAnd, Nat.reduceBneDiff, List.all_nil, List.all_cons, List.filter_nil, List.filter_cons, geT_put, puT_none, evO_tmp, keep_nil, keep_cons, keepK_eq, List.map_cons, List.map_nil, Nat.reduceEqDiff, Nat.reduceAdd, ↓reduceIte, Bool.not_true, Bool.and_true, Bool.true_or, eq_self, Bool.false_eq_true, true_and, Nat.zero_add, e1, e4, e6, e7, e8, e22, e23, e31, e32, ad1, ld1, L1, L2, L3, B1, A1, B2, A2, B3, A3, B4, A4, ad2, st5]
      clear e1 e4 e6 e7 e8 e22 e23 e31 e32
      intro fr e1 e4 e6 e7 e22 e23 e31 e32
      refine BlkK_n (SeqK_n ?_)
      refine W_ops [1, 4, 6, 7, 22, 23, 31, 32] ?_
      simp only [o20_15, WO_bin, WO_move, bin_add, WO_nil, PureK_some, geT_put, evO_tmp, evO_const, keep_nil, keep_cons, keepK_eq, Nat.reduceEqDiff, ↓reduceIte, eq_self, e1, e4, e6, e7, e22, e23, e31, e32, wrap_i64 (n := (g : Int) + 1) (by omega) (by omega)]
      clear e1 e4 e6 e7 e22 e23 e31 e32
      intro fr e1 e4 e6 e7 e22 e23 e31 e32
      exact LoopK_n (m' := m2 - 1) (by omega) ⟨g + 1, by omega, e1, e4, e6, e7, e22, e23, e31, by rw [e32]; rfl, H7⟩
    · have : g = row.length := by omega
      subst this
      refine LoopK_x (BlkK_e (BlkK_n (SeqK_n ?_)))
      refine W_ops [1, 4, 6, 22, 23] ?_
      simp only [o20_16, WO_bin, WO_move, bin_add, WO_nil, PureK_some, geT_put, evO_tmp, evO_const, keep_nil, keep_cons, keepK_eq, Nat.reduceEqDiff, ↓reduceIte, eq_self, e1, e4, e6, e22, e23, wrap_i64 (n := (p : Int) + 1) (by omega) (by omega)]
      clear e1 e4 e6 e7 e22 e23 e31 e32 e33
      intro fr e1 e4 e6 e22 e23
      rw [fillV_all, ← flat_eX] at H6
      have H8 := H6.tabClose hrwl.symm
      rw [← hrw, ← take_snoc] at H8
      exact LoopK_n (m' := m - 1) (by omega) ⟨p + 1, by omega, e1, e4, e6, e22, by rw [e23]; rfl, H8⟩
  · have : p = re.length := by omega
    subst this
    refine LoopK_x (BlkK_e (SeqK_n ?_))
    refine W_seq (W_ops [2, 3] ?_)
    simp only [o20_17, WO_move, WO_nil, geT_put, evO_tmp, evO_const, keep_nil, keep_cons, keepK_eq, Nat.reduceEqDiff, ↓reduceIte, eq_self, e6]
    clear e1 e4 e6 e22 e23 e24
    intro fr e2 e3
    refine SeqK_n ?_
    rw [← hxl, List.take_length, Nat.sub_self] at H3
    exact W_ret (Ret2 e2 e3 ⟨H3.same, .inr ⟨hc0, ov, rfl, H3.up1.tail⟩⟩)

end Go.Proofs.Ytkfcejhebepdkaa

/- The document's rows; numbers laid another way; tables that are the same. -/
namespace Go.Proofs.Ytkfcejhebepdkaa
open Go Go.Vam

theorem buildSlD_C {nid a b : Nat} : buildSlD nid 2 [.float .f64 0, .float .f64 0] 1 [(0, 2, .agg #[.float .f64 a, .float .f64 b])] = some (.slice (some ⟨nid, 0, none⟩) 1 1, .cells [.float .f64 a, .float .f64 b] false) := rfl
theorem build_C {a b : Nat} : buildV [.float .f64 0, .float .f64 0] [(0, 1, .float .f64 a), (1, 1, .float .f64 b)] = some (.agg #[.float .f64 a, .float .f64 b]) := rfl


set_option maxHeartbeats 2000000 in
theorem run21 {X : Ctx} (hX : X.fns = fnsOf Try.prog) (ho : ∀ f args, f ≠ 9 → X.orc f args = none) {s : Mm} {rv iv : Value} {T U : Nat} {re im : List (List Int)} (hr : TabC s rv re) (hi : TabC s iv im) (hlr : re.length ≤ 9223372036854775807) (hT : T < 18446744073709551616) (hU : U < 18446744073709551616) :
    CallP X 21 [.agg #[.float .f64 T, .float .f64 U, rv, iv]] s (fun r s' => Same s s' (fun _ => False) ∧ ((chkE T U re im ≠ 0 ∧ r = .tuple #[.slice none 0 0, .int .i64 (chkE T U re im : Nat)]) ∨
      (chkE T U re im = 0 ∧ ∃ v, r = .tuple #[v, .int .i64 0] ∧ Hold s s' [HP.tab 2 eC v (rowsX U re im) []]))) := by
  refine CallP_of (hX ▸ ir21_eq) (ho _ _ (by decide)) (Nat.le_of_ble_eq_true rfl) ?_
  have hbx : (Value.agg #[.float .f64 T, .float .f64 U, rv, iv]).cells.toList = [.float .f64 T, .float .f64 U, rv, iv] := rfl
  refine W_seq (W_ops [1] ?_)
  simp only [o21_0, WO_box, WO_move, WO_nil, geT_put, frame_nil, frame_cons, evO_tmp, evO_const, keep_nil, keep_cons, keepK_eq, Nat.reduceEqDiff, ↓reduceIte, eq_self, Nat.zero_add, hbx]
  intro fr e1
  refine SeqK_n ?_
  have H1 := (Hold.refl s).new [.float .f64 T, .float .f64 U, rv, iv]
  generalize newAt s (.cells [.float .f64 T, .float .f64 U, rv, iv] false) = s1 at H1 ⊢
  refine W_seq (W_ops [1, 4] ?_)
  simp only [o21_1, WO_call, WO_load, PureK_some, geT_put, evO_tmp, List.map_cons, List.map_nil, ↓reduceIte, eq_self, e1, loadn_all (n := 4) (H1.cell (List.mem_cons_self ..)) rfl]
  refine CallK_of (run38 hX ho (hr.same H1.same) (hi.same H1.same) hlr hT hU) ?_
  rintro _ s2 ⟨rfl, hs2⟩
  have H2 := H1.keep hs2
  clear H1 hs2
  simp only [WO_move, WO_nil, geT_put, evO_tmp, keep_nil, keep_cons, keepK_eq, Nat.reduceEqDiff, ↓reduceIte, eq_self, e1]
  clear e1
  intro fr e1 e4
  refine SeqK_n ?_
  refine W_assoc ?_
  refine W_seq (W_ops [1, 4, 12] ?_)
  simp only [o21_2, WO_bin, WO_move, bin_neq, WO_nil, PureK_some, geT_put, evO_tmp, evO_const, keep_nil, keep_cons, keepK_eq, Nat.reduceEqDiff, ↓reduceIte, eq_self, e1, e4]
  clear e1 e4
  intro fr e1 e4 e12
  refine SeqK_n ?_
  refine W_seq (W_ifn e12 (fun hc => ?_) (fun hc => W_skip (SeqK_n ?_)))
  · refine W_seq (W_ops [2, 3] ?_)
    simp only [o21_3, WO_move, WO_nil, geT_put, evO_tmp, evO_const, keep_nil, keep_cons, keepK_eq, Nat.reduceEqDiff, ↓reduceIte, eq_self, e4]
    clear e1 e4 e12
    intro fr e2 e3
    refine SeqK_n ?_
    exact W_ret (SeqK_r (Ret2 e2 e3 ⟨H2.same, .inl ⟨by omega, rfl⟩⟩))
  have hc0 : chkE T U re im = 0 := by omega
  obtain ⟨hfT, hfU, hok, hlg⟩ := chk_spec hc0
  obtain ⟨hl, hcr, hci⟩ := okB_spec hok
  obtain ⟨hR, hN, hRN⟩ := large_spec hlg
  obtain ⟨cr, hr1, hr2⟩ := hr
  obtain ⟨ci, hi1, hi2⟩ := hi
  have hrl := hr1.len
  have hxl : (rowsX U re im).length = re.length := rowsX_len rfl hl.symm
  refine W_seq (W_ops [1, 5] ?_)
  simp only [o21_4, WO_move, WO_nil, geT_put, evO_const, keep_nil, keep_cons, keepK_eq, Nat.reduceEqDiff, ↓reduceIte, eq_self, e1]
  clear e1 e4 e12
  intro fr e1 e5
  refine SeqK_n ?_
  refine W_assoc ?_
  refine W_seq (W_ops [1, 5, 6] ?_)
  simp only [o21_5, WO_move, WO_nil, geT_put, evO_const, keep_nil, keep_cons, keepK_eq, Nat.reduceEqDiff, ↓reduceIte, eq_self, e1, e5]
  clear e1 e5
  intro fr e1 e5 e6
  refine SeqK_n ?_
  refine W_seq (W_block (W_loop (fun m fr s4 => ∃ p ov, p + m = re.length ∧ geT fr 1 = .pointer (some ⟨s.nxt, 0, none⟩) ∧ geT fr 5 = ov ∧ geT fr 6 = .int .i64 (p : Nat) ∧
    Hold s s4 [HP.tab 2 eC ov ((rowsX U re im).take p) [], HP.cell s.nxt [.float .f64 T, .float .f64 U, rv, iv]]) re.length ⟨0, _, by omega, e1, e5, e6, by simpa using H2.nilT 2 eC⟩ ?_))
  clear e1 e5 e6 fr H2 s2
  rintro m fr s3 ⟨p, ov, hm, e1, e5, e6, H3⟩
  have L2 := load_g (o := 2) (H3.cell (List.mem_cons_of_mem _ (List.mem_cons_self ..)))
  simp only [List.getElem?_cons_zero, List.getElem?_cons_succ] at L2
  refine W_assoc ?_
  refine W_seq (W_ops [1, 5, 6, 18] ?_)
  simp only [o21_7, WO_bin, WO_bu, WO_fieldAddr, fieldAddr_p, WO_load, WO_move, bin_lss, WO_nil, PureK_some, geT_put, evO_tmp, keep_nil, keep_cons, keepK_eq, List.map_cons, List.map_nil, Nat.reduceEqDiff, ↓reduceIte, eq_self, Nat.zero_add, e1, e5, e6, L2, hrl]
  clear e1 e5 e6
  intro fr e1 e5 e6 e18
  refine SeqK_n ?_
  refine W_while e18 (fun hlt => ?_) (fun hlt => ?_)
  · have hp : p < re.length := by omega
    have hp2 : p < im.length := by omega
    obtain ⟨c, hc1, hc2⟩ := hr2 p re[p] (by simp [hp])
    obtain ⟨c', hc1', hc2'⟩ := hi2 p im[p] (by simp [hp2])
    have hlk : re[p].length = colsN re := hcr _ (by simp)
    have hlk' : im[p].length = colsN re := hci _ (by simp)
    obtain ⟨row, hrow⟩ : ∃ row, row = rowX U re[p] im[p] := ⟨_, rfl⟩
    have hrw : (rowsX U re im)[p]'(by omega) = row := by rw [hrow]; simp [rowsX]
    have hrwl : row.length = colsN re := by rw [hrow]; exact rowX_len hlk hlk'
    have htk : ((rowsX U re im).take p).length = p := by rw [List.length_take]; omega
    have B1 := hr1.addr (kk := .i64) (i := (p : Int)) rfl hp
    have B3 := hi1.addr (kk := .i64) (i := (p : Int)) rfl hp2
    rw [Nat.mul_one] at B1 B3
    refine W_seq (W_block ?_)
    refine W_seq (W_ops [1, 5, 6, 7] ?_)
    simp only [o21_8, WO_move, WO_nil, geT_put, evO_const, keep_nil, keep_cons, keepK_eq, Nat.reduceEqDiff, ↓reduceIte, eq_self, e1, e5, e6]
    clear e1 e5 e6 e18
    intro fr e1 e5 e6 e7
    refine SeqK_n ?_
    refine W_assoc ?_
    refine W_seq (W_ops [1, 5, 6, 7, 8] ?_)
    simp only [o21_9, WO_move, WO_nil, geT_put, evO_const, keep_nil, keep_cons, keepK_eq, Nat.reduceEqDiff, ↓reduceIte, eq_self, e1, e5, e6, e7]
    clear e1 e5 e6 e7
    intro fr e1 e5 e6 e7 e8
    refine SeqK_n ?_
    refine W_seq (W_block (W_loop (fun m2 fr s5 => ∃ g n v, g + m2 = colsN re ∧ geT fr 1 = .pointer (some ⟨s.nxt, 0, none⟩) ∧ geT fr 5 = ov ∧ geT fr 6 = .int .i64 (p : Nat) ∧ geT fr 7 = v ∧ geT fr 8 = .int .i64 (g : Nat) ∧ g = n ∧
      Hold s s5 [HP.own 2 v n ((row.take g).flatMap eC), HP.tab 2 eC ov ((rowsX U re im).take p) [], HP.cell s.nxt [.float .f64 T, .float .f64 U, rv, iv]]) (colsN re) ⟨0, 0, _, by omega, e1, e5, e6, e7, e8, rfl, by simpa using H3.nil 2⟩ ?_))
    clear e1 e5 e6 e7 e8 fr H3 s3 L2
    rintro m2 fr s4 ⟨g, _, v, hm2, e1, e5, e6, e7, e8, rfl, H6⟩
    have cl := H6.cell (List.mem_cons_of_mem _ (List.mem_cons_of_mem _ (List.mem_cons_self ..)))
    have L2 := load_g (o := 2) cl
    simp only [List.getElem?_cons_zero, List.getElem?_cons_succ] at L2
    have A1 := (hr1.same H6.same (fun _ _ h => h)).load hc1
    refine W_assoc ?_
    refine W_seq (W_ops [1, 5, 6, 7, 8, 28] ?_)
    simp only [o21_11, WO_addrSl, WO_bin, WO_bu, WO_fieldAddr, fieldAddr_p, WO_load, WO_move, bin_lss, WO_nil, PureK_some, geT_put, evO_tmp, keep_nil, keep_cons, keepK_eq, List.map_cons, List.map_nil, Nat.reduceEqDiff, ↓reduceIte, eq_self, Nat.zero_add, e1, e5, e6, e7, e8, L2, B1, A1, hc2.len, hlk]
    clear e1 e5 e6 e7 e8
    intro fr e1 e5 e6 e7 e8 e28
    refine SeqK_n ?_
    refine W_while e28 (fun hlt2 => ?_) (fun hlt2 => ?_)
    · have hg : g < colsN re := by omega
      have hg3 : g < re[p].length := by omega
      have hg4 : g < im[p].length := by omega
      have hg5 : g < row.length := by omega
      have hrg : row[g] = (fmul .f64 (FloatKind.f64.nearest re[p][g]) U, fmul .f64 (FloatKind.f64.nearest im[p][g]) U) := by
        have : row[g]? = (rowX U re[p] im[p])[g]? := by rw [hrow]
        rw [List.getElem?_eq_getElem hg5] at this
        rw [rowX, List.getElem?_zipWith, List.getElem?_eq_getElem hg3, List.getElem?_eq_getElem hg4] at this
        exact Option.some.inj this
      have B2 := hc2.addr (kk := .i64) (i := (g : Int)) rfl hg3
      have B4 := hc2'.addr (kk := .i64) (i := (g : Int)) rfl hg4
      rw [Nat.mul_one] at B2 B4
      obtain ⟨v', s5, ap, H7⟩ := H6.push (bytes := 16) (new := eC row[g]) rfl rfl (by omega) (by omega) (by omega) (by omega)
      rw [hrg, eC] at ap
      simp only at ap
      have e1row : (row.take g).flatMap eC ++ eC row[g] = (row.take (g + 1)).flatMap eC := by
        rw [take_snoc hg5, List.flatMap_append]; simp
      rw [e1row] at H7
      refine W_seq (W_block (W_drawM [1, 5, 6, 7, 8] 1 rfl ?_))
      intro s' hh hn hs'
      have H6' := H6.keep hs'
      have cl := H6'.cell (List.mem_cons_of_mem _ (List.mem_cons_of_mem _ (List.mem_cons_self ..)))
      have L1 := load_g (o := 1) cl
      have L2 := load_g (o := 2) cl
      have L3 := load_g (o := 3) cl
      simp only [List.getElem?_cons_zero, List.getElem?_cons_succ] at L1 L2 L3
      have A1 := (hr1.same H6'.same (fun _ _ h => h)).load hc1
      have A2 : loadV s' none (elP c g) = some (.int .i16 (re[p]'hp)[g]) := (hc2.same H6'.same (fun _ _ h => h)).load (by simp [hg3])
      have A3 := (hi1.same H6'.same (fun _ _ h => h)).load hc1'
      have A4 : loadV s' none (elP c' g) = some (.int .i16 (im[p]'hp2)[g]) := (hc2'.same H6'.same (fun _ _ h => h)).load (by simp [hg4])
      have sn := setH_new (b := .cells [.float .f64 (fmul .f64 (FloatKind.f64.nearest re[p][g]) U), .float .f64 (fmul .f64 (FloatKind.f64.nearest im[p][g]) U)] false) hh hn
      simp only [d21_12, WD_move, WD_bin, WD_conv, WD_fieldAddr, WD_addrSl, WD_build, WD_load, WD_buildSlice, WD_append, WD_nil, DPureK_some, DReadK_some, DActK_some, DNewK_some, pastR_nil, preHead_nil, joinF_nil, joinF_cons, joinAll_nil, setH_self, Nat.testBit, Nat.reduceShiftRight, Nat.reduceAnd, Nat.reduceBneDiff, List.all_nil, List.all_cons, List.filter_nil, List.filter_cons, geT_put, evO_tmp, keep_nil, keep_cons, keepK_eq, List.map_cons, List.map_nil, Nat.reduceEqDiff, Nat.reduceAdd, ↓reduceIte, fieldAddr_p, binf_mul, conv_float, Bool.not_true, Bool.and_true, Bool.true_or, eq_self, Bool.false_eq_true, true_and, Nat.zero_add, Nat.zero_mul, e1, e5, e6, e7, e8, L1, L2, L3, B1, A1, B2, A2, B3, A3, B4, A4, build_C, buildSlD_C, sn, ap]
      clear e1 e5 e6 e7 e8
      intro fr e1 e5 e6 e7 e8
      refine BlkK_n (SeqK_n ?_)
      refine W_ops [1, 5, 6, 7, 8] ?_
      simp only [o21_13, WO_bin, WO_move, bin_add, WO_nil, PureK_some, geT_put, evO_tmp, evO_const, keep_nil, keep_cons, keepK_eq, Nat.reduceEqDiff, ↓reduceIte, eq_self, e1, e5, e6, e7, e8, wrap_i64 (n := (g : Int) + 1) (by omega) (by omega)]
      clear e1 e5 e6 e7 e8
      intro fr e1 e5 e6 e7 e8
      exact LoopK_n (m' := m2 - 1) (by omega) ⟨g + 1, _, v', by omega, e1, e5, e6, e7, by rw [e8]; rfl, rfl, H7⟩
    · have : g = row.length := by omega
      subst this
      refine LoopK_x (BlkK_e (SeqK_n ?_))
      rw [List.take_length] at H6
      obtain ⟨ov', s5, ap, H7⟩ := H6.pushRow (bytes := 24) rfl (by omega) (by omega) (by rw [htk]; omega)
      have hb1 := buildSl_sl (s := s4) (H6.own (List.mem_cons_self ..)).one
      refine W_ops [1, 5, 6] ?_
      simp only [o21_14, WO_append, WO_buildSlice, WO_move, WO_nil, MemK_some, NewK_some, geT_put, evO_tmp, keep_nil, keep_cons, keepK_eq, List.map_cons, List.map_nil, Nat.reduceEqDiff, ↓reduceIte, eq_self, Nat.mul_one, e1, e5, e6, e7, hb1, ap]
      clear e1 e5 e6 e7 e8 e28
      intro fr e1 e5 e6
      refine BlkK_n (SeqK_n ?_)
      refine W_ops [1, 5, 6] ?_
      simp only [o21_15, WO_bin, WO_move, bin_add, WO_nil, PureK_some, geT_put, evO_tmp, evO_const, keep_nil, keep_cons, keepK_eq, Nat.reduceEqDiff, ↓reduceIte, eq_self, e1, e5, e6, wrap_i64 (n := (p : Int) + 1) (by omega) (by omega)]
      clear e1 e5 e6
      intro fr e1 e5 e6
      rw [← hrw, ← take_snoc] at H7
      exact LoopK_n (m' := m - 1) (by omega) ⟨p + 1, ov', by omega, e1, e5, by rw [e6]; rfl, H7⟩
  · have : p = re.length := by omega
    subst this
    refine LoopK_x (BlkK_e (SeqK_n ?_))
    refine W_seq (W_ops [2, 3] ?_)
    simp only [o21_16, WO_move, WO_nil, geT_put, evO_tmp, evO_const, keep_nil, keep_cons, keepK_eq, Nat.reduceEqDiff, ↓reduceIte, eq_self, e5]
    clear e1 e5 e6 e18
    intro fr e2 e3
    refine SeqK_n ?_
    rw [← hxl, List.take_length] at H3
    exact W_ret (Ret2 e2 e3 ⟨H3.same, .inr ⟨hc0, ov, rfl, H3.up1.tail⟩⟩)

/-- Numbers laid as pairs. -/
theorem run42 {X : Ctx} (hX : X.fns = fnsOf Try.prog) (ho : ∀ f args, f ≠ 9 → X.orc f args = none) {s0 s : Mm} {l : List HP} {v : Value} {row : List (Nat × Nat)} (H : Hold s0 s l) (h : SlC s 1 v row.length (row.flatMap eX)) (hn : row.length ≤ 1099511627776) :
    CallP X 42 [v] s (fun r s' => Hold s0 s' (HP.own 2 r row.length (row.flatMap eC) :: l) ∧ Same s s' (fun _ => False)) := by
  refine CallP_of (hX ▸ ir42_eq) (ho _ _ (by decide)) (Nat.le_of_ble_eq_true rfl) ?_
  refine W_seq (W_ops [0] ?_)
  simp only [o42_0, WO_move, WO_nil, geT_put, frame_nil, frame_cons, evO_const, keep_nil, keep_cons, keepK_eq, Nat.reduceEqDiff, ↓reduceIte, eq_self, Nat.zero_add]
  intro fr e0
  refine SeqK_n ?_
  refine W_seq (W_ops [0, 3] ?_)
  simp only [o42_1, WO_move, WO_nil, geT_put, evO_const, keep_nil, keep_cons, keepK_eq, Nat.reduceEqDiff, ↓reduceIte, eq_self, e0]
  clear e0
  intro fr e0 e3
  refine SeqK_n ?_
  refine W_assoc ?_
  refine W_seq (W_ops [0, 3, 4] ?_)
  simp only [o42_2, WO_move, WO_nil, geT_put, evO_const, keep_nil, keep_cons, keepK_eq, Nat.reduceEqDiff, ↓reduceIte, eq_self, e0, e3]
  clear e0 e3
  intro fr e0 e3 e4
  refine SeqK_n ?_
  have h0 : Hold s s [] := .refl s
  refine W_seq (W_block (W_loop (fun m fr s1 => ∃ g n w, g + m = row.length ∧ g = n ∧ geT fr 0 = v ∧ geT fr 3 = w ∧ geT fr 4 = .int .i64 (g : Nat) ∧ Hold s s1 [HP.own 2 w n ((row.take g).flatMap eC)]) row.length ⟨0, 0, _, by omega, rfl, e0, e3, e4, by simpa using h0.nil 2⟩ ?_))
  clear e0 e3 e4 fr
  rintro m fr s1 ⟨g, _, w, hm, rfl, e0, e3, e4, H6⟩
  refine W_assoc ?_
  refine W_seq (W_ops [0, 3, 4, 8] ?_)
  simp only [o42_4, WO_bin, WO_bu, WO_move, bin_lss, WO_nil, PureK_some, geT_put, evO_tmp, keep_nil, keep_cons, keepK_eq, List.map_cons, List.map_nil, Nat.reduceEqDiff, ↓reduceIte, eq_self, e0, e3, e4, h.len]
  clear e0 e3 e4
  intro fr e0 e3 e4 e8
  refine SeqK_n ?_
  refine W_while e8 (fun hlt => ?_) (fun hlt => ?_)
  · have hg : g < row.length := by omega
    obtain ⟨v', s5, ap, H7⟩ := H6.push (bytes := 16) (new := eC row[g]) rfl rfl (by omega) (by omega) (by omega) (by omega)
    rw [eC] at ap
    have e1row : (row.take g).flatMap eC ++ eC row[g] = (row.take (g + 1)).flatMap eC := by
      rw [take_snoc hg, List.flatMap_append]; simp
    rw [e1row] at H7
    refine W_seq (W_block (W_drawM [0, 3, 4] 1 rfl ?_))
    intro s' hh hn hs'
    have B1 := h.addr (kk := .i64) (i := (g : Int)) rfl hg
    rw [Nat.mul_one] at B1
    have A1 : loadV s' none (elP v g) = some (.complex .f64 row[g].1 row[g].2) := ((h.same H6.same (fun _ _ h => h)).same hs' (fun _ _ h => h)).load (by rw [flat_eX]; simp [hg, cX])
    have sn := setH_new (b := .cells [.float .f64 row[g].1, .float .f64 row[g].2] false) hh hn
    simp only [d42_5, WD_move, WD_addrSl, WD_build, WD_bu, WD_load, WD_buildSlice, WD_append, WD_nil, DPureK_some, DReadK_some, DActK_some, DNewK_some, pastR_nil, preHead_nil, joinF_nil, joinF_cons, joinAll_nil, setH_self, Nat.testBit, Nat.reduceShiftRight, Nat.reduceAnd, Nat.reduceBneDiff, List.all_nil, List.all_cons, List.filter_nil, List.filter_cons, geT_put, evO_tmp, keep_nil, keep_cons, keepK_eq, List.map_cons, List.map_nil, Nat.reduceEqDiff, Nat.reduceAdd, ↓reduceIte, bu_real, bu_imag, Bool.not_true, Bool.and_true, Bool.true_or, eq_self, Bool.false_eq_true, true_and, Nat.zero_add, Nat.zero_mul, e0, e3, e4, B1, A1, build_C, buildSlD_C, sn, ap]
    clear e0 e3 e4
    intro fr e0 e3 e4
    refine BlkK_n (SeqK_n ?_)
    refine W_ops [0, 3, 4] ?_
    simp only [o42_6, WO_bin, WO_move, bin_add, WO_nil, PureK_some, geT_put, evO_tmp, evO_const, keep_nil, keep_cons, keepK_eq, Nat.reduceEqDiff, ↓reduceIte, eq_self, e0, e3, e4, wrap_i64 (n := (g : Int) + 1) (by omega) (by omega)]
    clear e0 e3 e4
    intro fr e0 e3 e4
    exact LoopK_n (m' := m - 1) (by omega) ⟨g + 1, _, v', by omega, rfl, e0, e3, by rw [e4]; rfl, H7⟩
  · have : g = row.length := by omega
    subst this
    refine LoopK_x (BlkK_e (SeqK_n ?_))
    refine W_seq (W_ops [2] ?_)
    simp only [o42_7, WO_move, WO_nil, geT_put, evO_tmp, keep_nil, keep_cons, keepK_eq, ↓reduceIte, eq_self, e3]
    clear e0 e3 e4 e8
    intro fr e2
    refine SeqK_n ?_
    rw [List.take_length] at H6
    exact W_ret (Ret1 e2 ⟨H.app H6, H6.same⟩)

/-- A table of numbers laid as pairs. -/
theorem run24 {X : Ctx} (hX : X.fns = fnsOf Try.prog) (ho : ∀ f args, f ≠ 9 → X.orc f args = none) {s0 s : Mm} {l : List HP} {v : Value} {rows : List (List (Nat × Nat))} (H : Hold s0 s l) (h : TabE s 1 eX v rows) (hl : rows.length ≤ 1099511627776) (hn : ∀ r ∈ rows, r.length ≤ 1099511627776) :
    CallP X 24 [v] s (fun r s' => Hold s0 s' (HP.tab 2 eC r rows [] :: l)) := by
  refine CallP_of (hX ▸ ir24_eq) (ho _ _ (by decide)) (Nat.le_of_ble_eq_true rfl) ?_
  refine W_seq (W_ops [0] ?_)
  simp only [o24_0, WO_move, WO_nil, geT_put, frame_nil, frame_cons, evO_const, keep_nil, keep_cons, keepK_eq, Nat.reduceEqDiff, ↓reduceIte, eq_self, Nat.zero_add]
  intro fr e0
  refine SeqK_n ?_
  refine W_seq (W_ops [0, 3] ?_)
  simp only [o24_1, WO_move, WO_nil, geT_put, evO_const, keep_nil, keep_cons, keepK_eq, Nat.reduceEqDiff, ↓reduceIte, eq_self, e0]
  clear e0
  intro fr e0 e3
  refine SeqK_n ?_
  refine W_assoc ?_
  refine W_seq (W_ops [0, 3, 4] ?_)
  simp only [o24_2, WO_move, WO_nil, geT_put, evO_const, keep_nil, keep_cons, keepK_eq, Nat.reduceEqDiff, ↓reduceIte, eq_self, e0, e3]
  clear e0 e3
  intro fr e0 e3 e4
  refine SeqK_n ?_
  refine W_seq (W_block (W_loop (fun m fr s1 => ∃ g w, g + m = rows.length ∧ geT fr 0 = v ∧ geT fr 3 = w ∧ geT fr 4 = .int .i64 (g : Nat) ∧ Hold s s1 [HP.tab 2 eC w (rows.take g) []]) rows.length ⟨0, _, by omega, e0, e3, e4, by simpa using (Hold.refl s).nilT 2 eC⟩ ?_))
  clear e0 e3 e4 fr
  rintro m fr s1 ⟨g, w, hm, e0, e3, e4, H6⟩
  refine W_assoc ?_
  refine W_seq (W_ops [0, 3, 4, 9] ?_)
  simp only [o24_4, WO_bin, WO_bu, WO_move, bin_lss, WO_nil, PureK_some, geT_put, evO_tmp, keep_nil, keep_cons, keepK_eq, List.map_cons, List.map_nil, Nat.reduceEqDiff, ↓reduceIte, eq_self, e0, e3, e4, h.len]
  clear e0 e3 e4
  intro fr e0 e3 e4 e9
  refine SeqK_n ?_
  refine W_while e9 (fun hlt => ?_) (fun hlt => ?_)
  · have hg : g < rows.length := by omega
    obtain ⟨c, B1, A1, h1⟩ := (h.same H6.same).row hg
    refine W_seq (W_block ?_)
    refine W_seq (W_ops [0, 3, 4, 5] ?_)
    simp only [o24_5, WO_addrSl, WO_call, WO_load, WO_move, PureK_some, geT_put, evO_tmp, List.map_cons, List.map_nil, Nat.reduceEqDiff, ↓reduceIte, eq_self, e0, e4, B1, A1]
    refine CallK_of (run42 hX ho H6 h1 (hn _ (by simp))) ?_
    rintro c' s2 ⟨H7, -⟩
    simp only [WO_move, WO_nil, geT_put, evO_tmp, keep_nil, keep_cons, keepK_eq, Nat.reduceEqDiff, ↓reduceIte, eq_self, e0, e3, e4]
    clear e0 e3 e4 e9
    intro fr e0 e3 e4 e5
    refine SeqK_n ?_
    obtain ⟨w', s3, ap, H8⟩ := H7.pushRow (bytes := 24) rfl (by omega) (by omega) (by rw [List.length_take]; omega)
    have hb1 := buildSl_sl (s := s2) (H7.own (List.mem_cons_self ..)).one
    refine W_ops [0, 3, 4] ?_
    simp only [o24_6, WO_append, WO_buildSlice, WO_move, WO_nil, MemK_some, NewK_some, geT_put, evO_tmp, keep_nil, keep_cons, keepK_eq, List.map_cons, List.map_nil, Nat.reduceEqDiff, ↓reduceIte, eq_self, Nat.mul_one, e0, e3, e4, e5, hb1, ap]
    clear e0 e3 e4 e5
    intro fr e0 e3 e4
    refine BlkK_n (SeqK_n ?_)
    refine W_ops [0, 3, 4] ?_
    simp only [o24_7, WO_bin, WO_move, bin_add, WO_nil, PureK_some, geT_put, evO_tmp, evO_const, keep_nil, keep_cons, keepK_eq, Nat.reduceEqDiff, ↓reduceIte, eq_self, e0, e3, e4, wrap_i64 (n := (g : Int) + 1) (by omega) (by omega)]
    clear e0 e3 e4
    intro fr e0 e3 e4
    rw [← take_snoc] at H8
    exact LoopK_n (m' := m - 1) (by omega) ⟨g + 1, w', by omega, e0, e3, by rw [e4]; rfl, H8⟩
  · have : g = rows.length := by omega
    subst this
    refine LoopK_x (BlkK_e (SeqK_n ?_))
    refine W_seq (W_ops [2] ?_)
    simp only [o24_8, WO_move, WO_nil, geT_put, evO_tmp, keep_nil, keep_cons, keepK_eq, ↓reduceIte, eq_self, e3]
    clear e0 e3 e4 e9
    intro fr e2
    refine SeqK_n ?_
    rw [List.take_length] at H6
    exact W_ret (Ret1 e2 (H.app H6))

theorem run54 {X : Ctx} (hX : X.fns = fnsOf Try.prog) (ho : ∀ f args, f ≠ 9 → X.orc f args = none) {s : Mm} {a b : Nat} : CallP X 54 [.agg #[.float .f64 a, .float .f64 b], .agg #[.float .f64 a, .float .f64 b]] s (fun r s' => r = .bool true ∧ Same s s' (fun _ => False)) := by
  refine CallP_of (hX ▸ ir54_eq) (ho _ _ (by decide)) (Nat.le_of_ble_eq_true rfl) ?_
  have hbx : (Value.agg #[.float .f64 a, .float .f64 b]).cells.toList = [.float .f64 a, .float .f64 b] := rfl
  refine W_seq (W_ops [2, 3] ?_)
  simp only [o54_0, WO_box, nxt_new, WO_move, WO_nil, geT_put, frame_nil, frame_cons, evO_tmp, evO_const, keep_nil, keep_cons, keepK_eq, Nat.reduceEqDiff, Nat.reduceAdd, ↓reduceIte, eq_self, Nat.zero_add, hbx]
  intro fr e2 e3
  refine SeqK_n ?_
  have H := ((Hold.refl s).new [.float .f64 a, .float .f64 b]).new [.float .f64 a, .float .f64 b]
  have hx : (newAt s (.cells [.float .f64 a, .float .f64 b] false)).nxt = s.nxt + 1 := rfl
  rw [hx] at H
  generalize newAt (newAt s (.cells [.float .f64 a, .float .f64 b] false)) (.cells [.float .f64 a, .float .f64 b] false) = s1 at H ⊢
  have c1 := H.cell (List.mem_cons_self ..)
  have c2 := H.cell (List.mem_cons_of_mem _ (List.mem_cons_self ..))
  have L0 := load_g (o := 0) c1
  have L1 := load_g (o := 1) c1
  have L0' := load_g (o := 0) c2
  have L1' := load_g (o := 1) c2
  simp only [List.getElem?_cons_zero, List.getElem?_cons_succ] at L0 L1 L0' L1'
  refine W_seq (W_ops [4] ?_)
  simp only [o54_1, WO_call, WO_fieldAddr, fieldAddr_p, WO_load, PureK_some, geT_put, evO_tmp, List.map_cons, List.map_nil, Nat.reduceEqDiff, ↓reduceIte, eq_self, Nat.add_zero, e2, e3, L0, L0']
  refine CallK_of (run43_self hX ho) ?_
  rintro _ _ ⟨rfl, rfl⟩
  simp only [WO_call, WO_fieldAddr, fieldAddr_p, WO_load, WO_move, PureK_some, WO_guard, want_v, wantB_t, geT_put, evO_tmp, List.map_cons, List.map_nil, Nat.reduceEqDiff, ↓reduceIte, eq_self, Nat.zero_add, e2, e3, L1, L1']
  refine CallK_of (run43_self hX ho) ?_
  rintro _ _ ⟨rfl, rfl⟩
  simp only [WO_move, WO_pick, pick_b, WO_nil, PureK_some, geT_put, evO_tmp, evO_const, keep_nil, keep_cons, keepK_eq, Nat.reduceEqDiff, ↓reduceIte, eq_self]
  clear e2 e3
  intro fr e4
  refine SeqK_n ?_
  exact W_ret (Ret1 e4 ⟨rfl, H.same⟩)

end Go.Proofs.Ytkfcejhebepdkaa
