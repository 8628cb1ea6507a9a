/- The law of one byte turned: its run. -/
import Derived.Test.YtkfcejhebepdkaaT4
import Derived.Test.YtkfcejhebepdkaaT7
import Derived.Test.YtkfcejhebepdkaaWp6
namespace Go.Proofs.Ytkfcejhebepdkaa
open Go Go.Vam

theorem xor_u8 {a b : Nat} (ha : a < 256) (hb : b < 256) : intBitsV .xor .u8 (a : Int) (b : Int) = some ((a ^^^ b : Nat) : Int) := by
  have h : (a ^^^ b) < 2 ^ 8 := Nat.xor_lt_two_pow (by omega) (by omega)
  have e : (BitVec.ofInt 8 (a : Int) ^^^ BitVec.ofInt 8 (b : Int)).toNat = a ^^^ b := by
    rw [BitVec.toNat_xor, BitVec.ofInt_natCast, BitVec.ofInt_natCast, BitVec.toNat_ofNat, BitVec.toNat_ofNat, Nat.mod_eq_of_lt ha, Nat.mod_eq_of_lt hb]
  show some (wrapK .u8 ((BitVec.ofInt 8 (a : Int) ^^^ BitVec.ofInt 8 (b : Int)).toNat : Nat)) = _
  rw [e, wrap_u8 (by omega) (by omega)]

theorem bsV_set (l : List UInt8) (k : Nat) (x : UInt8) : (bsV l).set k (byteV x) = bsV (l.set k x) := by simp [bsV, List.map_set]


theorem wakes_to {X : Ctx} (hX : X.fns = fnsOf Try.prog) (ho : ∀ f args, f ≠ 9 → X.orc f args = none) (hw : X.orc 9 [] = some (.bool true)) {s : Mm} : CallP X 9 [] s (fun r s' => r = .bool true ∧ s = s') := ⟨_, s, Call_orc hw, rfl, rfl⟩

set_option maxHeartbeats 1000000 in
theorem run5 {X : Ctx} (hX : X.fns = fnsOf Try.prog) (ho : ∀ f args, f ≠ 9 → X.orc f args = none) (hw : X.orc 9 [] = some (.bool true)) {s : Mm} {rv iv : Value} {T U : Nat} {re im : List (List Int)} (hr : TabC s rv re) (hi : TabC s iv im) (hlr : re.length ≤ 9223372036854775807) {a : Int} {y : UInt8} (ha : -9223372036854775808 ≤ a ∧ a ≤ 9223372036854775807) :
    CallP X 5 [.agg #[.float .f64 T, .float .f64 U, rv, iv], .int .i64 a, .int .u8 y.toNat] s (fun r _ => r = .bool true) := by
  refine CallP_of (hX ▸ ir5_eq) (ho _ _ (by decide)) (Nat.le_of_ble_eq_true rfl) ?_
  have hbx : (Value.agg #[.float .f64 T, .float .f64 U, rv, iv]).cells.toList = [.float .f64 T, .float .f64 U, rv, iv] := rfl
  refine W_seq (W_ops [1, 2, 3] ?_)
  simp only [o5_0, WO_box, WO_move, WO_nil, geT_put, frame_nil, frame_cons, evO_tmp, evO_const, keep_nil, keep_cons, keepK_eq, Nat.reduceEqDiff, Nat.reduceAdd, reduceIte, eq_self, Nat.zero_add, hbx]
  intro fr e1 e2 e3
  refine SeqK_n ?_
  have hg : Store.get (newAt s (.cells [.float .f64 T, .float .f64 U, rv, iv] false)).h s.nxt = some (.cells [.float .f64 T, .float .f64 U, rv, iv] false) := by rw [get_new, if_pos rfl]
  have hs1 : Same s (newAt s (.cells [.float .f64 T, .float .f64 U, rv, iv] false)) (fun _ => False) := .new
  generalize newAt s (.cells [.float .f64 T, .float .f64 U, rv, iv] false) = s1 at hg hs1 ⊢
  have tabs : ∀ {s'} {v} {rows}, Same s s' (fun _ => False) → TabC s v rows → TabC s' v rows := fun hs ⟨c, a, b⟩ => ⟨c, a.same hs (fun _ _ h => h), fun i r h => let ⟨x, y, z⟩ := b i r h; ⟨x, y, z.same hs (fun _ _ h => h)⟩⟩
  refine W_seq (W_ops [1, 2, 7, 8] ?_)
  simp only [o5_1, WO_call, WO_load, PureK_some, geT_put, evO_tmp, List.map_cons, List.map_nil, reduceIte, eq_self, e3, loadn_all (n := 4) hg rfl]
  refine CallK_of (run18 hX ho (tabs hs1 hr) (tabs hs1 hi) hlr) ?_
  rintro _ s2 ⟨hs2, ⟨hc, rfl⟩ | ⟨hc, v, n, rfl, hown, hfoot⟩⟩
  · simp only [WO_extract, ext_20, ext_21, WO_move, WO_nil, PureK_some, geT_put, evO_tmp, keep_nil, keep_cons, keepK_eq, Nat.reduceEqDiff, reduceIte, eq_self, e1, e2]
    clear e1 e2 e3
    intro fr e1 e2 e7 e8
    refine SeqK_n ?_
    have hc' : ¬ ((chkE T U re im : Nat) : Int) = 0 := by omega
    refine W_assoc ?_
    refine W_seq (W_ops [1, 2, 7, 23] ?_)
    simp only [o5_2, WO_bin, WO_bu, bu_len, WO_move, WO_pick, pick_b, bin_gtr, bin_neq, WO_nil, PureK_some, WO_guard, want_v, wantB_f, geT_put, evO_tmp, evO_const, keep_nil, keep_cons, keepK_eq, List.map_cons, List.map_nil, Nat.reduceEqDiff, reduceIte, Bool.not_true, Bool.not_false, decide_false, eq_self, Bool.false_eq_true, e1, e2, e7, e8, hc']
    clear e1 e2 e7 e8
    intro fr e1 e2 e7 e23
    refine SeqK_n ?_
    refine W_seq (W_cond e23 (fun _ => ?_) (fun h => by cases h))
    refine W_seq (W_ops [6] ?_)
    simp only [o5_3, WO_call, List.map_nil]
    refine CallK_of (wakes_to hX ho hw) ?_
    rintro _ _ ⟨rfl, rfl⟩
    simp only [WO_move, WO_nil, geT_put, evO_tmp, keep_nil, keep_cons, keepK_eq, Nat.reduceEqDiff, reduceIte, eq_self]
    clear e1 e2 e7 e23
    intro fr e6
    refine SeqK_n ?_
    exact W_ret (SeqK_r (Ret1 e6 rfl))
  · skip
    simp only [WO_extract, ext_20, ext_21, WO_move, WO_nil, PureK_some, geT_put, evO_tmp, keep_nil, keep_cons, keepK_eq, Nat.reduceEqDiff, reduceIte, eq_self, e1, e2]
    clear e1 e2 e3
    intro fr e1 e2 e7 e8
    refine SeqK_n ?_
    refine W_assoc ?_
    have hlen := hown.slc.len
    have hnl : n = (encF T U re im).length := by have := hown.length; rw [bsV_length] at this; omega
    subst hnl
    by_cases hbig : 262144 < (encF T U re im).length
    · have hbig' : (262144 : Int) < ((encF T U re im).length : Nat) := by omega
      refine W_seq (W_ops [1, 2, 7, 23] ?_)
      simp only [o5_2, WO_bin, WO_bu, WO_move, WO_pick, pick_b, bin_gtr, bin_neq, WO_nil, PureK_some, WO_guard, want_v, wantB_f, geT_put, evO_tmp, evO_const, keep_nil, keep_cons, keepK_eq, List.map_cons, List.map_nil, Nat.reduceEqDiff, reduceIte, Bool.not_true, Bool.not_false, decide_true, eq_self, Bool.false_eq_true, e1, e2, e7, e8, hlen, hbig']
      clear e1 e2 e7 e8
      intro fr e1 e2 e7 e23
      refine SeqK_n ?_
      refine W_seq (W_cond e23 (fun _ => ?_) (fun h => by cases h))
      refine W_seq (W_ops [6] ?_)
      simp only [o5_3, WO_call, List.map_nil]
      refine CallK_of (wakes_to hX ho hw) ?_
      rintro _ _ ⟨rfl, rfl⟩
      simp only [WO_move, WO_nil, geT_put, evO_tmp, keep_nil, keep_cons, keepK_eq, Nat.reduceEqDiff, reduceIte, eq_self]
      clear e1 e2 e7 e23
      intro fr e6
      refine SeqK_n ?_
      exact W_ret (SeqK_r (Ret1 e6 rfl))
    · have hbig' : ¬ (262144 : Int) < ((encF T U re im).length : Nat) := by omega
      refine W_seq (W_ops [1, 2, 7, 23] ?_)
      simp only [o5_2, WO_bin, WO_bu, WO_move, WO_pick, pick_b, bin_gtr, bin_neq, WO_nil, PureK_some, WO_guard, want_v, wantB_f, geT_put, evO_tmp, evO_const, keep_nil, keep_cons, keepK_eq, List.map_cons, List.map_nil, Nat.reduceEqDiff, reduceIte, Bool.not_true, Bool.not_false, decide_true, decide_false, eq_self, Bool.false_eq_true, e1, e2, e7, e8, hlen, hbig']
      clear e1 e2 e7 e8
      intro fr e1 e2 e7 e23
      refine SeqK_n ?_
      refine W_seq (W_cond e23 (fun h => by cases h) (fun _ => W_skip (SeqK_n ?_)))
      refine W_assoc ?_
      have hpos : 27 ≤ (encF T U re im).length := by
        simp only [encF, encBody, encHead, List.length_append, beN_length, hdr, List.length_cons, List.length_nil]; omega
      obtain ⟨L, hL⟩ : ∃ L, L = (encF T U re im).length := ⟨_, rfl⟩
      rw [← hL] at hlen hpos hbig
      have hz : ¬ ((L : Nat) : Int) = 0 := by omega
      refine W_seq (W_ops [1, 2, 7, 27] ?_)
      simp only [o5_4, WO_bin, WO_bu, WO_move, bin_eql, WO_nil, PureK_some, geT_put, evO_tmp, evO_const, keep_nil, keep_cons, keepK_eq, List.map_cons, List.map_nil, Nat.reduceEqDiff, reduceIte, eq_self, e1, e2, e7, hlen]
      clear e1 e2 e7 e23
      intro fr e1 e2 e7 e27
      refine SeqK_n ?_
      refine W_seq (W_if e27 (fun h => absurd h hz) (fun _ => W_skip (SeqK_n ?_)))
      have t1 := Int.tmod_lt_of_pos a (b := (L : Int)) (by omega)
      have t2 := Int.lt_tmod_of_pos a (b := (L : Int)) (by omega)
      have t3 := Int.tmod_lt_of_pos (a.tmod L + L) (b := (L : Int)) (by omega)
      have t4 := Int.tmod_nonneg (a := a.tmod L + L) (L : Int) (by omega)
      refine W_seq (W_ops [1, 2, 7] ?_)
      simp only [o5_6, WO_bin, WO_bu, WO_move, bin_add, bin_rem, WO_nil, PureK_some, geT_put, evO_tmp, keep_nil, keep_cons, keepK_eq, List.map_cons, List.map_nil, Nat.reduceEqDiff, reduceIte, eq_self, e1, e2, e7, hlen, hz, wrap_i64 (n := a.tmod L + L) (by omega) (by omega)]
      clear e1 e2 e7 e27
      intro fr e1 e2 e7
      refine SeqK_n ?_
      obtain ⟨k, hk⟩ : ∃ k : Nat, (a.tmod L + L).tmod L = k := ⟨((a.tmod L + L).tmod L).toNat, by omega⟩
      rw [hk] at e1
      have hkL : k < (encF T U re im).length := by omega
      have hm : (if (1 : Int) > (y.toNat : Nat) then (1 : Int) else (y.toNat : Nat)) = (((if y = 0 then 1 else y : UInt8).toNat : Nat) : Int) := by
        by_cases h0 : y = 0
        · subst h0; rfl
        · rw [if_neg h0, if_neg]
          have : y.toNat ≠ 0 := fun h => h0 (UInt8.toNat_inj.1 (by rw [h]; rfl))
          omega
      obtain ⟨z, hzd⟩ : ∃ z : UInt8, z = if y = 0 then 1 else y := ⟨_, rfl⟩
      rw [← hzd] at hm
      have hz0 : z ≠ 0 := by
        rw [hzd]; split
        · decide
        · assumption
      have hld : loadV s2 none (elP v k) = some (.int .u8 ((encF T U re im)[k].toNat : Nat)) := hown.slc.load (by simp [bsV, byteV, hkL])
      obtain ⟨s3, hst, hown3, hs3⟩ := hown.store (k := k) (x := byteV ((encF T U re im)[k] ^^^ z)) (by rw [bsV_length]; exact hkL) rfl
      have hbv : byteV ((encF T U re im)[k] ^^^ z) = .int .u8 (((encF T U re im)[k].toNat ^^^ z.toNat : Nat) : Int) := by unfold byteV; rw [UInt8.toNat_xor]
      rw [hbv] at hst
      rw [bsV_set] at hown3
      refine W_seq (W_ops [7] ?_)
      simp only [o5_7, WO_addrSl, WO_bin, WO_bu, bu_max, WO_load, WO_move, WO_store, bin_xor, WO_nil, PureK_some, MemK_some, geT_put, puT_none, evO_tmp, evO_const, keep_nil, keep_cons, keepK_eq, List.map_cons, List.map_nil, Option.map_some, Nat.reduceEqDiff, reduceIte, eq_self, Nat.mul_one, e1, e2, e7, hown.slc.addr (kk := .i64) (i := (k : Int)) rfl hkL, hld, hm, xor_u8 (a := (encF T U re im)[k].toNat) (b := z.toNat) (UInt8.toNat_lt _) (UInt8.toNat_lt _), hst]
      clear e1 e2 e7
      intro fr e7
      refine SeqK_n ?_
      have hne : (encF T U re im)[k] ^^^ z ≠ (encF T U re im)[k] := by
        intro h
        have h2 := congrArg UInt8.toNat h
        rw [UInt8.toNat_xor] at h2
        have h3 : (encF T U re im)[k].toNat ^^^ z.toNat = (encF T U re im)[k].toNat ^^^ 0 := by rw [h2, Nat.xor_zero]
        exact hz0 (UInt8.toNat_inj.1 (xor_inj h3))
      have hno := turned hc hkL hne
      have hbs3 : Bs s3 v ((encF T U re im).set k ((encF T U re im)[k] ^^^ z)) := Bs.of hown3.slc
      generalize hB : (encF T U re im).set k ((encF T U re im)[k] ^^^ z) = b at hno hbs3
      have hbl : b.length = L := by rw [← hB, List.length_set, hL]
      refine W_seq (W_ops [7, 9] ?_)
      simp only [o5_8, WO_call, List.map_nil]
      refine CallK_of (run10 hX ho) ?_
      rintro _ _ ⟨rfl, rfl⟩
      simp only [WO_move, WO_nil, geT_put, evO_tmp, keep_nil, keep_cons, keepK_eq, Nat.reduceEqDiff, reduceIte, eq_self, e7]
      clear e7
      intro fr e7 e9
      refine SeqK_n ?_
      have hgr : Store.get (newAt s3 (.cells [.slice none 0 0, .bool false] false)).h s3.nxt = some (.cells [.slice none 0 0, .bool false] false) := by rw [get_new, if_pos rfl]
      have hbs4 : Bs (newAt s3 (.cells [.slice none 0 0, .bool false] false)) v b := hbs3.same (F := fun _ => False) .new (fun _ _ h => h)
      refine W_assoc ?_
      refine W_seq (W_ops [7, 9, 50] ?_)
      simp only [o5_9, WO_eq, ptr_some, WO_move, WO_nil, PureK_some, geT_put, evO_tmp, evO_const, keep_nil, keep_cons, keepK_eq, Nat.reduceEqDiff, reduceIte, eq_self, Bool.false_eq_true, e7, e9]
      clear e7 e9
      intro fr e7 e9 e50
      refine SeqK_n ?_
      refine W_seq (W_cond e50 (fun h => by cases h) (fun _ => W_skip (SeqK_n ?_)))
      refine W_seq (W_ops [7, 9, 10, 11] ?_)
      simp only [o5_11, WO_call, WO_move, geT_put, evO_tmp, List.map_cons, List.map_nil, Nat.reduceEqDiff, reduceIte, eq_self, e7, e9]
      refine CallK_of (run12_new hX ho hgr (by rw [nxt_new]; omega) hbs4 (by omega) hno) ?_
      rintro _ s5 (⟨hf, rfl, hg5⟩ | ⟨hf, rfl, v5, hg5, hb5⟩)
      · simp only [WO_extract, ext_20, ext_21, WO_move, WO_nil, PureK_some, geT_put, evO_tmp, keep_nil, keep_cons, keepK_eq, Nat.reduceEqDiff, reduceIte, eq_self, e7, e9]
        clear e7 e9 e50
        intro fr e7 e9 e10 e11
        refine SeqK_n ?_
        refine W_seq (W_ops [6] ?_)
        simp only [o5_12, WO_bin, WO_bu, bu_len, WO_call, WO_move, WO_pick, pick_b, bin_eql, PureK_some, WO_guard, want_v, wantB_t, geT_put, evO_tmp, evO_const, List.map_cons, List.map_nil, Nat.reduceEqDiff, reduceIte, decide_true, decide_false, Int.reduceEq, eq_self, Bool.false_eq_true, e7, e9, e10, e11, nat_0]
        refine CallK_of (run16 hX ho hg5 .nil) ?_
        rintro _ _ ⟨rfl, rfl⟩
        simp only [WO_bin, WO_bu, WO_call, WO_move, WO_pick, pick_b, bin_eql, WO_nil, PureK_some, WO_guard, want_v, wantB_t, wantB_f, geT_put, evO_tmp, evO_const, keep_nil, keep_cons, keepK_eq, List.map_cons, List.map_nil, Nat.reduceEqDiff, reduceIte, Bool.not_true, decide_true, decide_false, Int.reduceEq, eq_self, Bool.false_eq_true, e7, e9, e11, nat_0]
        refine CallK_of (wakes_to hX ho hw) ?_
        rintro _ _ ⟨rfl, rfl⟩
        simp only [WO_move, WO_pick, pick_b, WO_nil, PureK_some, geT_put, evO_tmp, evO_const, keep_nil, keep_cons, keepK_eq, Nat.reduceEqDiff, reduceIte, eq_self]
        clear e7 e9 e10 e11
        intro fr e6
        refine SeqK_n ?_
        exact W_ret (Ret1 e6 rfl)
      · skip
        simp only [WO_extract, ext_20, ext_21, WO_move, WO_nil, PureK_some, geT_put, evO_tmp, keep_nil, keep_cons, keepK_eq, Nat.reduceEqDiff, reduceIte, eq_self, e7, e9]
        clear e7 e9 e50
        intro fr e7 e9 e10 e11
        refine SeqK_n ?_
        refine W_seq (W_ops [6] ?_)
        simp only [o5_12, WO_bin, WO_bu, bu_len, WO_call, WO_move, WO_pick, pick_b, bin_eql, PureK_some, WO_guard, want_v, wantB_t, wantB_f, geT_put, evO_tmp, evO_const, List.map_cons, List.map_nil, Nat.reduceEqDiff, reduceIte, Bool.not_false, decide_true, decide_false, Int.reduceEq, eq_self, Bool.false_eq_true, e7, e9, e10, e11, nat_0]
        refine CallK_of (run16 hX ho hg5 hb5) ?_
        rintro _ _ ⟨rfl, rfl⟩
        simp only [WO_bin, WO_bu, WO_call, WO_move, WO_pick, pick_b, bin_eql, WO_nil, PureK_some, WO_guard, want_v, wantB_t, wantB_f, geT_put, evO_tmp, evO_const, keep_nil, keep_cons, keepK_eq, List.map_cons, List.map_nil, Nat.reduceEqDiff, reduceIte, Bool.not_false, decide_true, eq_self, Bool.false_eq_true, e7, hlen, hbl]
        refine CallK_of (wakes_to hX ho hw) ?_
        rintro _ _ ⟨rfl, rfl⟩
        simp only [WO_move, WO_pick, pick_b, WO_nil, PureK_some, geT_put, evO_tmp, evO_const, keep_nil, keep_cons, keepK_eq, Nat.reduceEqDiff, reduceIte, eq_self]
        clear e7 e9 e10 e11
        intro fr e6
        refine SeqK_n ?_
        exact W_ret (Ret1 e6 rfl)

end Go.Proofs.Ytkfcejhebepdkaa
