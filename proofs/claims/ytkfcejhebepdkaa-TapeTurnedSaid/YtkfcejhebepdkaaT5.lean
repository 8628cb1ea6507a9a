/- The check of a frame. -/
import Derived.Test.YtkfcejhebepdkaaT2
namespace Go.Proofs.Ytkfcejhebepdkaa
open Go Go.Vam

def okU (x : Nat) : Bool := finB x && ford .f64 x 0 == some .gt

/-- The columns of a table. -/
def colsN (re : List (List Int)) : Nat := (re.headD []).length
def okUp (re im : List (List Int)) (i : Nat) : Bool := decide (re.length = im.length) && ((re.take i).all (fun r => decide (r.length = colsN re)) && (im.take i).all (fun r => decide (r.length = colsN re)))
def okB (re im : List (List Int)) : Bool := okUp re im re.length
def chkE (T U : Nat) (re im : List (List Int)) : Nat :=
  if (finB T && okU U) = false then 6 else if okB re im = false then 5 else if largeB re.length (colsN re) = true then 3 else 0
def chkN (T U : Nat) (re im : List (List Int)) : Nat := if chkE T U re im = 0 then colsN re else 0

theorem okUp_mono {re im : List (List Int)} {i j : Nat} (hij : i ≤ j) (h : okUp re im i = false) : okUp re im j = false := by
  unfold okUp at *
  rw [Bool.and_eq_false_iff] at *
  rcases h with h | h
  · exact .inl h
  · right
    rw [Bool.and_eq_false_iff] at *
    rcases h with h | h
    · left
      rw [List.all_eq_false] at *
      obtain ⟨x, hx, h⟩ := h
      exact ⟨x, List.take_subset_take_left _ hij hx, h⟩
    · right
      rw [List.all_eq_false] at *
      obtain ⟨x, hx, h⟩ := h
      exact ⟨x, List.take_subset_take_left _ hij hx, h⟩

theorem okUp_succ {re im : List (List Int)} {i : Nat} {a b : List Int} (ha : re[i]? = some a) (hb : im[i]? = some b) (h : okUp re im i = true) : okUp re im (i + 1) = (decide (a.length = colsN re) && decide (b.length = colsN re)) := by
  unfold okUp at *
  simp only [Bool.and_eq_true] at h
  obtain ⟨h1, h2, h3⟩ := h
  rw [List.take_add_one, List.take_add_one, ha, hb, h1]
  simp only [Option.toList_some, List.all_append, h2, h3, List.all_cons, List.all_nil, Bool.true_and, Bool.and_true]

theorem TabC.row {s : Mm} {v : Value} {rows : List (List Int)} (h : TabC s v rows) : ∃ cells, SlC s 1 v rows.length cells ∧ ∀ (i : Nat) (r : List Int), rows[i]? = some r → ∃ c, cells[i]? = some c ∧ SlC s 1 c r.length (r.map (.int .i16)) := h

theorem TabC.one {s : Mm} {v : Value} {rows : List (List Int)} (h : TabC s v rows) : oneCell v = true := by obtain ⟨c, h1, _⟩ := h; exact h1.one


/-- All that a table names lies below. -/
theorem run34 {X : Ctx} (hX : X.fns = fnsOf Try.prog) (ho : ∀ f args, f ≠ 9 → X.orc f args = none) {s : Mm} {rv iv : Value} {T U : Nat} {re im : List (List Int)} (hr : TabC s rv re) (hi : TabC s iv im) (hlr : re.length ≤ 9223372036854775807) :
    CallP X 34 [.agg #[.float .f64 T, .float .f64 U, rv, iv]] s (fun r s' => r = .tuple #[.int .i64 (chkN T U re im : Nat), .int .i64 (chkE T U re im : Nat)] ∧ Same s s' (fun _ => False)) := by
  obtain ⟨cr, hr1, hr2⟩ := hr
  obtain ⟨ci, hi1, hi2⟩ := hi
  refine CallP_of (hX ▸ ir34_eq) (ho _ _ (by decide)) (Nat.le_of_ble_eq_true rfl) ?_
  have hbx : (Value.agg #[.float .f64 T, .float .f64 U, rv, iv]).cells.toList = [.float .f64 T, .float .f64 U, rv, iv] := rfl
  refine W_seq (W_ops [1] ?_)
  simp only [o34_0, WO_box, WO_move, WO_nil, geT_put, frame_nil, frame_cons, evO_tmp, evO_const, keep_nil, keep_cons, keepK_eq, Nat.reduceEqDiff, reduceIte, eq_self, Nat.zero_add, hbx]
  intro fr e1
  refine SeqK_n ?_
  have hg : Store.get (newAt s (.cells [.float .f64 T, .float .f64 U, rv, iv] false)).h s.nxt = some (.cells [.float .f64 T, .float .f64 U, rv, iv] false) := by rw [get_new, if_pos rfl]
  have hs1 : Same s (newAt s (.cells [.float .f64 T, .float .f64 U, rv, iv] false)) (fun _ => False) := .new
  generalize newAt s (.cells [.float .f64 T, .float .f64 U, rv, iv] false) = s1 at hg hs1 ⊢
  replace hr1 := hr1.same hs1 (fun _ _ h => h)
  replace hi1 := hi1.same hs1 (fun _ _ h => h)
  have hr2' : ∀ (i : Nat) (r : List Int), re[i]? = some r → ∃ c, cr[i]? = some c ∧ SlC s1 1 c r.length (r.map (.int .i16)) := fun i r h => let ⟨c, a, b⟩ := hr2 i r h; ⟨c, a, b.same hs1 (fun _ _ h => h)⟩
  have hi2' : ∀ (i : Nat) (r : List Int), im[i]? = some r → ∃ c, ci[i]? = some c ∧ SlC s1 1 c r.length (r.map (.int .i16)) := fun i r h => let ⟨c, a, b⟩ := hi2 i r h; ⟨c, a, b.same hs1 (fun _ _ h => h)⟩
  clear hr2 hi2
  have hr2 := hr2'
  have hi2 := hi2'
  clear hr2' hi2'
  have L0 := load_g (o := 0) hg
  have L1 := load_g (o := 1) hg
  have L2 := load_g (o := 2) hg
  have L3 := load_g (o := 3) hg
  simp only [List.getElem?_cons_zero, List.getElem?_cons_succ] at L0 L1 L2 L3
  refine W_assoc ?_
  refine W_seq (W_opsB [1, 22] (fun fr1 s3 => s1 = s3 ∧ geT fr1 1 = .pointer (some ⟨s.nxt, 0, none⟩) ∧ geT fr1 22 = .bool (!(finB T && okU U))) ?_ ?_)
  · intro R' hR'
    simp only [o34_1, WO_fieldAddr, WO_load, WO_call, PureK_some, geT_put, evO_tmp, List.map_cons, List.map_nil, Nat.reduceEqDiff, reduceIte, fieldAddr_p, eq_self, Nat.add_zero, e1, L0]
    refine CallK_of (run45 hX ho) ?_
    rintro _ _ ⟨rfl, rfl⟩
    simp only [WO_bin, WO_call, WO_fieldAddr, fieldAddr_p, WO_load, WO_move, WO_pick, pick_b, WO_un, un_not, binf_gtr, PureK_some, WO_guard, want_v, wantB_f, geT_put, evO_tmp, evO_const, List.map_cons, List.map_nil, Nat.reduceEqDiff, reduceIte, Bool.not_not, eq_self, Nat.zero_add, e1, L1]
    cases hx : finB T with
    | false =>
      simp only [WO_nil, PureK_some, geT_put, wantB_f, keep_nil, keep_cons, keepK_eq, Nat.reduceEqDiff, reduceIte, pick_b, Bool.not_true, Bool.not_false, eq_self, Bool.false_eq_true, e1]
      intro fr e1 e22
      exact hR' _ _ ⟨rfl, e1, by rw [e22, hx]; rfl⟩
    | true =>
      simp only [reduceIte, Bool.not_true, eq_self, Bool.false_eq_true]
      refine CallK_of (run45 hX ho) ?_
      rintro _ _ ⟨rfl, rfl⟩
      simp only [WO_bin, WO_fieldAddr, fieldAddr_p, WO_load, WO_move, WO_pick, pick_b, WO_un, un_not, binf_gtr, WO_nil, PureK_some, WO_guard, want_v, wantB_f, geT_put, evO_tmp, evO_const, keep_nil, keep_cons, keepK_eq, Nat.reduceEqDiff, reduceIte, Bool.not_false, Bool.not_not, eq_self, Bool.false_eq_true, Nat.zero_add, e1, L1]
      cases hy : finB U with
      | false =>
        simp only [reduceIte, Bool.not_false, eq_self, Bool.false_eq_true]
        intro fr e1 e22
        exact hR' _ _ ⟨rfl, e1, by rw [e22, hx]; simp [okU, hy]⟩
      | true =>
        simp only [reduceIte, Bool.not_true, eq_self, Bool.false_eq_true]
        intro fr e1 e22
        exact hR' _ _ ⟨rfl, e1, by rw [e22, hx]; simp [okU, hy]⟩
  clear e1 fr
  rintro fr _ ⟨rfl, e1, e22⟩
  refine SeqK_n (W_seq (W_cond e22 (fun hc => ?_) (fun hc => W_skip (SeqK_n ?_))))
  · have he : chkE T U re im = 6 := by unfold chkE; rw [if_pos (by rw [Bool.not_eq_true'] at hc; exact hc)]
    refine W_seq (W_ops [2, 3] ?_)
    simp only [o34_2, WO_move, WO_nil, geT_put, evO_const, keep_nil, keep_cons, keepK_eq, Nat.reduceEqDiff, reduceIte, eq_self]
    clear e1 e22
    intro fr e2 e3
    refine SeqK_n ?_
    exact W_ret (SeqK_r (Ret2 e2 e3 ⟨by rw [chkN, he]; rfl, hs1⟩))
  have he0 : chkE T U re im = if okB re im = false then 5 else if largeB re.length (colsN re) = true then 3 else 0 := by
    unfold chkE
    rw [if_neg (by rw [Bool.not_eq_false'] at hc; rw [hc]; simp)]
  refine W_seq (W_ops [1, 4] ?_)
  simp only [o34_3, WO_move, WO_nil, geT_put, evO_const, keep_nil, keep_cons, keepK_eq, Nat.reduceEqDiff, reduceIte, eq_self, e1]
  clear e1 e22
  intro fr e1 e4
  refine SeqK_n ?_
  refine W_assoc ?_
  refine W_seq (W_ops [1, 4, 26] ?_)
  simp only [o34_4, WO_bin, WO_bu, WO_fieldAddr, fieldAddr_p, WO_load, bin_gtr, WO_nil, PureK_some, geT_put, evO_tmp, evO_const, keep_nil, keep_cons, keepK_eq, List.map_cons, List.map_nil, Nat.reduceEqDiff, reduceIte, eq_self, Nat.zero_add, e1, e4, L2, hr1.len]
  clear e1 e4
  intro fr e1 e4 e26
  refine SeqK_n ?_
  refine W_seq (W_cutN (fun fr1 s3 => s1 = s3 ∧ geT fr1 1 = .pointer (some ⟨s.nxt, 0, none⟩) ∧ geT fr1 4 = .int .i64 (colsN re : Nat)) ?_ ?_)
  · intro R' hR'
    refine W_if e26 (fun hc => ?_) (fun hc => W_skip (hR' _ _ ⟨rfl, e1, ?_⟩))
    · have hl : 0 < re.length := by omega
      obtain ⟨c, hc1, hc2⟩ := hr2 0 re[0] (by simp)
      refine W_ops [1, 4] ?_
      simp only [o34_5, WO_addrSl, WO_bu, WO_fieldAddr, fieldAddr_p, WO_load, WO_move, WO_nil, PureK_some, geT_put, evO_tmp, evO_const, keep_nil, keep_cons, keepK_eq, List.map_cons, List.map_nil, Nat.reduceEqDiff, reduceIte, eq_self, Nat.zero_add, Nat.mul_one, e1, e4, L2, hr1.addr (i := 0) (k := 0) rfl hl, hr1.load (j := 0) hc1, hc2.len]
      clear e1 e4 e26
      intro fr e1 e4
      refine hR' _ _ ⟨rfl, e1, ?_⟩
      rw [e4, colsN]
      cases re with
      | nil => simp at hl
      | cons a l => rfl
    · have hl : re.length = 0 := by omega
      rw [e4, colsN]
      cases re with
      | nil => rfl
      | cons a l => simp at hl
  clear e1 e4 e26 fr
  rintro fr _ ⟨rfl, e1, e4⟩
  have hdl : decide (((re.length : Nat) : Int) = (im.length : Nat)) = okUp re im 0 := by
    have : decide (((re.length : Nat) : Int) = (im.length : Nat)) = decide (re.length = im.length) := decide_eq_decide.2 (by omega)
    rw [this]; simp [okUp]
  refine SeqK_n ?_
  refine W_seq (W_ops [1, 4, 5] ?_)
  simp only [o34_6, WO_bin, WO_bu, WO_fieldAddr, fieldAddr_p, WO_load, WO_move, bin_eql, WO_nil, PureK_some, geT_put, evO_tmp, keep_nil, keep_cons, keepK_eq, List.map_cons, List.map_nil, Nat.reduceEqDiff, reduceIte, eq_self, Nat.zero_add, e1, e4, L2, L3, hr1.len, hi1.len, hdl]
  clear e1 e4
  intro fr e1 e4 e5
  refine SeqK_n ?_
  refine W_assoc ?_
  refine W_seq (W_ops [1, 4, 5, 6] ?_)
  simp only [o34_7, WO_move, WO_nil, geT_put, evO_const, keep_nil, keep_cons, keepK_eq, Nat.reduceEqDiff, reduceIte, eq_self, e1, e4, e5]
  clear e1 e4 e5
  intro fr e1 e4 e5 e6
  refine SeqK_n ?_
  have hloop : W X (.block 0 (.loop b34_8)) fr s1 (fun e fr1 s3 => e = .normal ∧ s1 = s3 ∧ geT fr1 1 = .pointer (some ⟨s.nxt, 0, none⟩) ∧ geT fr1 4 = .int .i64 (colsN re : Nat) ∧ geT fr1 5 = .bool (okB re im)) := by
    refine W_block (W_loop (fun m fr s3 => ∃ k, k + m = re.length ∧ s1 = s3 ∧ geT fr 1 = .pointer (some ⟨s.nxt, 0, none⟩) ∧ geT fr 4 = .int .i64 (colsN re : Nat) ∧ geT fr 5 = .bool (okUp re im k) ∧ geT fr 6 = .int .i64 (k : Nat)) re.length ⟨0, by omega, rfl, e1, e4, e5, e6⟩ ?_)
    clear e1 e4 e5 e6 fr
    rintro m fr _ ⟨k, hk, rfl, e1, e4, e5, e6⟩
    refine W_assoc ?_
    cases hok : okUp re im k with
    | false =>
      rw [hok] at e5
      refine W_seq (W_ops [1, 4, 5, 6, 46] ?_)
      simp only [o34_9, WO_bin, WO_bu, WO_fieldAddr, fieldAddr_p, WO_load, WO_move, WO_pick, pick_b, WO_nil, PureK_some, WO_guard, want_v, wantB_t, geT_put, evO_tmp, evO_const, keep_nil, keep_cons, keepK_eq, List.map_cons, List.map_nil, Nat.reduceEqDiff, reduceIte, eq_self, Bool.false_eq_true, Nat.zero_add, e1, e4, e5, e6]
      clear e1 e4 e5 e6
      intro fr e1 e4 e5 e6 e46
      refine SeqK_n ?_
      refine W_seq (W_cond e46 (fun h => by cases h) (fun _ => W_exit (SeqK_x (LoopK_x (BlkK_e ⟨rfl, rfl, e1, e4, ?_⟩)))))
      rw [e5, okB, okUp_mono (by omega) hok]
    | true =>
      rw [hok] at e5
      refine W_seq (W_ops [1, 4, 5, 6, 46] ?_)
      simp only [o34_9, WO_bin, WO_bu, WO_fieldAddr, fieldAddr_p, WO_load, WO_move, WO_pick, pick_b, bin_lss, WO_nil, PureK_some, WO_guard, want_v, wantB_t, geT_put, evO_tmp, evO_const, keep_nil, keep_cons, keepK_eq, List.map_cons, List.map_nil, Nat.reduceEqDiff, reduceIte, eq_self, Nat.zero_add, e1, e4, e5, e6, L2, hr1.len]
      clear e1 e4 e5 e6
      intro fr e1 e4 e5 e6 e46
      refine SeqK_n ?_
      refine W_while e46 (fun hlt => ?_) (fun hlt => LoopK_x (BlkK_e ⟨rfl, rfl, e1, e4, ?_⟩))
      · have hk1 : k < re.length := by omega
        have hll : re.length = im.length := by
          unfold okUp at hok
          simp only [Bool.and_eq_true, decide_eq_true_eq] at hok
          exact hok.1
        have hk2 : k < im.length := by omega
        obtain ⟨c, hc1, hc2⟩ := hr2 k re[k] (by simp [hk1])
        obtain ⟨c', hc1', hc2'⟩ := hi2 k im[k] (by simp [hk2])
        have hnx := okUp_succ (by simp [hk1] : re[k]? = some re[k]) (by simp [hk2] : im[k]? = some im[k]) hok
        have hd1 : decide (((re[k].length : Nat) : Int) = (colsN re : Nat)) = decide (re[k].length = colsN re) := decide_eq_decide.2 (by omega)
        have hd2 : decide (((im[k].length : Nat) : Int) = (colsN re : Nat)) = decide (im[k].length = colsN re) := decide_eq_decide.2 (by omega)
        refine W_seq (W_cutN (fun fr1 s3 => s1 = s3 ∧ geT fr1 1 = .pointer (some ⟨s.nxt, 0, none⟩) ∧ geT fr1 4 = .int .i64 (colsN re : Nat) ∧ geT fr1 5 = .bool (okUp re im (k + 1)) ∧ geT fr1 6 = .int .i64 (k : Nat)) ?_ ?_)
        · intro R' hR'
          refine W_block ?_
          rw [hnx] at hR'
          cases hd : decide (re[k].length = colsN re) with
          | false =>
            refine W_ops [1, 4, 5, 6] ?_
            simp only [o34_10, WO_addrSl, WO_bin, WO_bu, WO_fieldAddr, fieldAddr_p, WO_load, WO_move, WO_pick, pick_b, bin_eql, WO_nil, PureK_some, WO_guard, want_v, wantB_t, geT_put, evO_tmp, evO_const, keep_nil, keep_cons, keepK_eq, List.map_cons, List.map_nil, Nat.reduceEqDiff, reduceIte, eq_self, Bool.false_eq_true, Nat.zero_add, Nat.mul_one, e1, e4, e5, e6, L2, L3, hr1.addr (i := (k : Int)) (k := k) rfl hk1, hr1.load (j := k) hc1, hc2.len, hd1, hd]
            clear e1 e4 e5 e6 e46
            intro fr e1 e4 e5 e6
            exact BlkK_n (hR' _ _ ⟨rfl, e1, e4, by rw [e5, hd]; rfl, e6⟩)
          | true =>
            refine W_ops [1, 4, 5, 6] ?_
            simp only [o34_10, WO_addrSl, WO_bin, WO_bu, WO_fieldAddr, fieldAddr_p, WO_load, WO_move, WO_pick, pick_b, bin_eql, WO_nil, PureK_some, WO_guard, want_v, wantB_t, geT_put, evO_tmp, evO_const, keep_nil, keep_cons, keepK_eq, List.map_cons, List.map_nil, Nat.reduceEqDiff, reduceIte, eq_self, Nat.zero_add, Nat.mul_one, e1, e4, e5, e6, L2, L3, hr1.addr (i := (k : Int)) (k := k) rfl hk1, hr1.load (j := k) hc1, hc2.len, hd1, hd, hi1.addr (i := (k : Int)) (k := k) rfl hk2, hi1.load (j := k) hc1', hc2'.len, hd2]
            clear e1 e4 e5 e6 e46
            intro fr e1 e4 e5 e6
            exact BlkK_n (hR' _ _ ⟨rfl, e1, e4, by rw [e5, hd, Bool.true_and], e6⟩)
        clear e1 e4 e5 e6 e46 fr
        rintro fr _ ⟨rfl, e1, e4, e5, e6⟩
        refine SeqK_n ?_
        refine W_ops [1, 4, 5, 6] ?_
        simp only [o34_11, WO_bin, WO_move, bin_add, WO_nil, PureK_some, geT_put, evO_tmp, evO_const, keep_nil, keep_cons, keepK_eq, Nat.reduceEqDiff, reduceIte, eq_self, e1, e4, e5, e6, wrap_i64 (n := (k : Int) + 1) (by omega) (by omega)]
        clear e1 e4 e5 e6
        intro fr e1 e4 e5 e6
        exact LoopK_n (m' := m - 1) (by omega) ⟨k + 1, by omega, rfl, e1, e4, e5, e6⟩
      · have : k = re.length := by omega
        subst this
        rw [e5, okB, hok]
  refine W_seq (hloop.mono ?_)
  clear e1 e4 e5 e6 fr hloop
  rintro _ fr _ ⟨rfl, rfl, e1, e4, e5⟩
  refine SeqK_n ?_
  refine W_seq (W_block ?_)
  refine W_seq (W_ops [1, 4, 67] ?_)
  simp only [o34_12, WO_move, WO_un, un_not, WO_nil, PureK_some, geT_put, evO_tmp, keep_nil, keep_cons, keepK_eq, Nat.reduceEqDiff, reduceIte, eq_self, e1, e4, e5]
  clear e1 e4 e5
  intro fr e1 e4 e67
  refine SeqK_n ?_
  cases hok : okB re im with
  | false =>
    rw [hok] at e67 he0
    refine W_cond e67 (fun _ => ?_) (fun h => by cases h)
    refine W_seq (W_ops [2, 3] ?_)
    simp only [o34_13, WO_move, WO_nil, geT_put, evO_const, keep_nil, keep_cons, keepK_eq, Nat.reduceEqDiff, reduceIte, eq_self]
    clear e1 e4 e67
    intro fr e2 e3
    refine SeqK_n ?_
    exact W_ret (BlkK_r (SeqK_r (Ret2 e2 e3 ⟨by rw [chkN, he0]; rfl, hs1⟩)))
  | true =>
    rw [hok] at e67 he0
    refine W_cond e67 (fun h => by cases h) (fun _ => ?_)
    refine W_seq (W_ops [4, 70] ?_)
    simp only [o34_14, WO_bu, WO_call, WO_fieldAddr, fieldAddr_p, WO_load, WO_move, PureK_some, geT_put, evO_tmp, List.map_cons, List.map_nil, Nat.reduceEqDiff, reduceIte, eq_self, Nat.zero_add, e1, e4, L2, hr1.len]
    refine CallK_of (run46 hX ho) ?_
    rintro _ _ ⟨rfl, rfl⟩
    simp only [WO_move, WO_nil, geT_put, evO_tmp, keep_nil, keep_cons, keepK_eq, Nat.reduceEqDiff, reduceIte, eq_self, e4]
    clear e1 e4 e67
    intro fr e4 e70
    refine SeqK_n ?_
    cases hL : largeB re.length (colsN re) with
    | true =>
      rw [hL] at e70 he0
      refine W_cond e70 (fun _ => ?_) (fun h => by cases h)
      refine W_seq (W_ops [2, 3] ?_)
      simp only [o34_15, WO_move, WO_nil, geT_put, evO_const, keep_nil, keep_cons, keepK_eq, Nat.reduceEqDiff, reduceIte, eq_self]
      clear e4 e70
      intro fr e2 e3
      refine SeqK_n ?_
      exact W_ret (BlkK_r (SeqK_r (Ret2 e2 e3 ⟨by rw [chkN, he0]; rfl, hs1⟩)))
    | false =>
      rw [hL] at e70 he0
      refine W_cond e70 (fun h => by cases h) (fun _ => W_skip (BlkK_n (SeqK_n ?_)))
      refine W_seq (W_ops [2, 3] ?_)
      simp only [o34_16, WO_move, WO_nil, geT_put, evO_tmp, evO_const, keep_nil, keep_cons, keepK_eq, Nat.reduceEqDiff, reduceIte, eq_self, e4]
      clear e4 e70
      intro fr e2 e3
      refine SeqK_n ?_
      exact W_ret (Ret2 e2 e3 ⟨by rw [chkN, he0]; rfl, hs1⟩)

end Go.Proofs.Ytkfcejhebepdkaa
