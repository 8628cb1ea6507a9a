/- CfarMore: what it asks of its arguments, walked. -/
import Derived.Test.YtfjdihfflghfpaaNA
import Derived.Test.YtfjdihfflghfpaaSI
import Derived.Test.YtfjdihfflghfpaaIRD
namespace Go.Proofs.Ytfjdihfflghfpaa
open Go Go.Vam Go.Sort

theorem sv_1 : sv 4607182418800017408 = oneU := by
  have h : sv (1022 * 4503599627370496 + 4503599627370496) = twoP (52 + 1022) := sv_one
  have e : 52 + 1022 = 1074 := rfl
  rw [show 4607182418800017408 = 1022 * 4503599627370496 + 4503599627370496 from rfl, h, e, oneU]

theorem key_w {x : Nat} (h : x ≤ infR) : fkey x = some (sv x : Int) := by
  have hI : infR = 9218868437227405312 := rfl
  unfold fkey
  rw [Nat.mod_eq_of_lt (by omega), if_pos h, decide_eq_false (by omega)]
  rfl

theorem eq_rung {x y r q : Nat} (h : Rg x r) (h' : Rg y q) (he : (ford .f64 x y == some .eq) = true) : r = q := by
  obtain ⟨a, h1, h2⟩ := (feq_iff h.lt h'.lt).1 he
  rw [h.key] at h1; rw [h'.key] at h2
  have := Option.some.inj h1
  have := Option.some.inj h2
  exact sv_inj (by omega)

set_option maxHeartbeats 4000000 in
theorem run28 {X : Ctx} (hX : X.fns = fnsOf Try.prog) (ho : ∀ f args, f ≠ 10 ∧ f ≠ 24 → X.orc f args = none) {s : Mm} {v : Value} {L : List UInt64} {way g t nth : Int} {times : Nat} (a : SlC s 1 v L.length (flT L)) : CallP X 28 [v, kV way g t nth times] s (fun r s' => ∃ b, r = .bool b ∧ (b = true → L.length ≤ 16384 ∧ ¬ badN g t nth ∧ finT times = true) ∧ Same s s' (fun _ => False)) := by
  have hbx := kC_is way g t nth times
  have H1 := (Hold.refl s).new (kC way g t nth times)
  refine CallP_of (hX ▸ ir28_eq) (ho _ _ (by decide)) (Nat.le_of_ble_eq_true rfl) ?_
  refine W_seq (W_ops [0, 3] ?_)
  simp only [o28_0, WO_box, WO_move, WO_nil, geT_put, frame_nil, frame_cons, evO_tmp, evO_const, keep_nil, keep_cons, keepK_eq, Nat.reduceEqDiff, Nat.reduceAdd, ↓reduceIte, eq_self, Nat.zero_add, hbx]
  intro fr e0 e3
  refine SeqK_n ?_
  have lw : loadV (newAt s (.cells (kC way g t nth times) false)) (some 5) (.pointer (some ⟨s.nxt, 0, none⟩)) = some (kV way g t nth times) := loadn_all (H1.cell (List.mem_cons_self ..)) rfl
  generalize newAt s (.cells (kC way g t nth times) false) = s1 at H1 lw ⊢
  generalize s.nxt = Bk at H1 lw e3
  have hfd : (ford .f64 (fsub .f64 times times) 0 == some .eq) = finT times := rfl
  refine W_seq (W_ops [4] ?_)
  simp only [o28_1, WO_bu, WO_call, WO_load, WO_move, PureK_some, geT_put, evO_tmp, List.map_cons, List.map_nil, Nat.reduceEqDiff, ↓reduceIte, eq_self, e0, e3, (a.same H1.same (fun _ _ h => h)).len, lw]
  refine CallK_of (run9 hX ho) ?_
  rintro _ s2 ⟨b, rfl, _, hs2⟩
  have H2 := H1.keep hs2
  have a2 := a.same H2.same (fun _ _ h => h)
  have k1 : loadV s2 none (.pointer (some ⟨Bk, 1, none⟩)) = some (.int .i64 g) := load_g (o := 1) (H2.cell (List.mem_cons_self ..))
  have k2 : loadV s2 none (.pointer (some ⟨Bk, 2, none⟩)) = some (.int .i64 t) := load_g (o := 2) (H2.cell (List.mem_cons_self ..))
  have k3 : loadV s2 none (.pointer (some ⟨Bk, 3, none⟩)) = some (.int .i64 nth) := load_g (o := 3) (H2.cell (List.mem_cons_self ..))
  have k4 : loadV s2 none (.pointer (some ⟨Bk, 4, none⟩)) = some (.float .f64 times) := load_g (o := 4) (H2.cell (List.mem_cons_self ..))
  clear lw H1
  cases b with
  | true =>
    simp only [WO_move, WO_pick, pick_b, WO_un, un_not, WO_nil, PureK_some, WO_guard, want_v, wantB_t, geT_put, evO_tmp, evO_const, keep_nil, keep_cons, keepK_eq, Nat.reduceEqDiff, ↓reduceIte, Bool.not_true, eq_self, Bool.false_eq_true]
    clear e0 e3
    intro fr e4
    refine SeqK_n ?_
    exact W_ret (Ret1 e4 ⟨false, rfl, fun h => (by cases h), H2.same⟩)
  | false =>
    by_cases h1 : ¬ ((L.length : Nat) : Int) ≤ 16384
    · skip
      simp only [WO_bin, WO_bu, WO_move, WO_pick, pick_b, WO_un, un_not, bin_leq, WO_nil, PureK_some, WO_guard, want_v, wantB_t, geT_put, evO_tmp, evO_const, keep_nil, keep_cons, keepK_eq, List.map_cons, List.map_nil, Nat.reduceEqDiff, ↓reduceIte, Bool.not_false, eq_self, Bool.false_eq_true, e0, a2.len, decide_eq_false h1]
      clear e0 e3
      intro fr e4
      refine SeqK_n ?_
      exact W_ret (Ret1 e4 ⟨false, rfl, fun h => (by cases h), H2.same⟩)
    replace h1 := Decidable.not_not.1 h1
    by_cases h2 : ¬ (0 : Int) ≤ g
    · skip
      simp only [WO_bin, WO_bu, WO_fieldAddr, fieldAddr_p, WO_load, WO_move, WO_pick, pick_b, WO_un, un_not, bin_geq, bin_leq, WO_nil, PureK_some, WO_guard, want_v, wantB_t, geT_put, evO_tmp, evO_const, keep_nil, keep_cons, keepK_eq, List.map_cons, List.map_nil, Nat.reduceEqDiff, ↓reduceIte, Bool.not_false, eq_self, Bool.false_eq_true, Nat.zero_add, e0, e3, a2.len, k1, decide_eq_true h1, decide_eq_false h2]
      clear e0 e3
      intro fr e4
      refine SeqK_n ?_
      exact W_ret (Ret1 e4 ⟨false, rfl, fun h => (by cases h), H2.same⟩)
    replace h2 := Decidable.not_not.1 h2
    by_cases h3 : ¬ g ≤ 16384
    · skip
      simp only [WO_bin, WO_bu, WO_fieldAddr, fieldAddr_p, WO_load, WO_move, WO_pick, pick_b, WO_un, un_not, bin_geq, bin_leq, WO_nil, PureK_some, WO_guard, want_v, wantB_t, geT_put, evO_tmp, evO_const, keep_nil, keep_cons, keepK_eq, List.map_cons, List.map_nil, Nat.reduceEqDiff, ↓reduceIte, Bool.not_false, eq_self, Bool.false_eq_true, Nat.zero_add, e0, e3, a2.len, k1, decide_eq_true h1, decide_eq_true h2, decide_eq_false h3]
      clear e0 e3
      intro fr e4
      refine SeqK_n ?_
      exact W_ret (Ret1 e4 ⟨false, rfl, fun h => (by cases h), H2.same⟩)
    replace h3 := Decidable.not_not.1 h3
    by_cases h4 : ¬ (1 : Int) ≤ t
    · skip
      simp only [WO_bin, WO_bu, WO_fieldAddr, fieldAddr_p, WO_load, WO_move, WO_pick, pick_b, WO_un, un_not, bin_geq, bin_leq, WO_nil, PureK_some, WO_guard, want_v, wantB_t, geT_put, evO_tmp, evO_const, keep_nil, keep_cons, keepK_eq, List.map_cons, List.map_nil, Nat.reduceEqDiff, ↓reduceIte, Bool.not_false, eq_self, Bool.false_eq_true, Nat.zero_add, e0, e3, a2.len, k1, k2, decide_eq_true h1, decide_eq_true h2, decide_eq_true h3, decide_eq_false h4]
      clear e0 e3
      intro fr e4
      refine SeqK_n ?_
      exact W_ret (Ret1 e4 ⟨false, rfl, fun h => (by cases h), H2.same⟩)
    replace h4 := Decidable.not_not.1 h4
    by_cases h5 : ¬ t ≤ 16384
    · skip
      simp only [WO_bin, WO_bu, WO_fieldAddr, fieldAddr_p, WO_load, WO_move, WO_pick, pick_b, WO_un, un_not, bin_geq, bin_leq, WO_nil, PureK_some, WO_guard, want_v, wantB_t, geT_put, evO_tmp, evO_const, keep_nil, keep_cons, keepK_eq, List.map_cons, List.map_nil, Nat.reduceEqDiff, ↓reduceIte, Bool.not_false, eq_self, Bool.false_eq_true, Nat.zero_add, e0, e3, a2.len, k1, k2, decide_eq_true h1, decide_eq_true h2, decide_eq_true h3, decide_eq_true h4, decide_eq_false h5]
      clear e0 e3
      intro fr e4
      refine SeqK_n ?_
      exact W_ret (Ret1 e4 ⟨false, rfl, fun h => (by cases h), H2.same⟩)
    replace h5 := Decidable.not_not.1 h5
    by_cases h6 : ¬ (0 : Int) ≤ nth
    · skip
      simp only [WO_bin, WO_bu, WO_fieldAddr, fieldAddr_p, WO_load, WO_move, WO_pick, pick_b, WO_un, un_not, bin_geq, bin_leq, WO_nil, PureK_some, WO_guard, want_v, wantB_t, geT_put, evO_tmp, evO_const, keep_nil, keep_cons, keepK_eq, List.map_cons, List.map_nil, Nat.reduceEqDiff, ↓reduceIte, Bool.not_false, eq_self, Bool.false_eq_true, Nat.zero_add, e0, e3, a2.len, k1, k2, k3, decide_eq_true h1, decide_eq_true h2, decide_eq_true h3, decide_eq_true h4, decide_eq_true h5, decide_eq_false h6]
      clear e0 e3
      intro fr e4
      refine SeqK_n ?_
      exact W_ret (Ret1 e4 ⟨false, rfl, fun h => (by cases h), H2.same⟩)
    replace h6 := Decidable.not_not.1 h6
    by_cases h7 : ¬ nth ≤ 32768
    · skip
      simp only [WO_bin, WO_bu, WO_fieldAddr, fieldAddr_p, WO_load, WO_move, WO_pick, pick_b, WO_un, un_not, bin_geq, bin_leq, WO_nil, PureK_some, WO_guard, want_v, wantB_t, geT_put, evO_tmp, evO_const, keep_nil, keep_cons, keepK_eq, List.map_cons, List.map_nil, Nat.reduceEqDiff, ↓reduceIte, Bool.not_false, eq_self, Bool.false_eq_true, Nat.zero_add, e0, e3, a2.len, k1, k2, k3, decide_eq_true h1, decide_eq_true h2, decide_eq_true h3, decide_eq_true h4, decide_eq_true h5, decide_eq_true h6, decide_eq_false h7]
      clear e0 e3
      intro fr e4
      refine SeqK_n ?_
      exact W_ret (Ret1 e4 ⟨false, rfl, fun h => (by cases h), H2.same⟩)
    replace h7 := Decidable.not_not.1 h7
    simp only [WO_bin, WO_bu, WO_fieldAddr, fieldAddr_p, WO_load, WO_move, WO_pick, pick_b, WO_un, un_not, binf_eql, bin_geq, bin_leq, binf_sub, WO_nil, PureK_some, WO_guard, want_v, wantB_t, geT_put, evO_tmp, evO_const, keep_nil, keep_cons, keepK_eq, List.map_cons, List.map_nil, Nat.reduceEqDiff, ↓reduceIte, Bool.not_false, eq_self, Nat.zero_add, e0, e3, a2.len, k1, k2, k3, k4, hfd, decide_eq_true h1, decide_eq_true h2, decide_eq_true h3, decide_eq_true h4, decide_eq_true h5, decide_eq_true h6, decide_eq_true h7]
    clear e0 e3
    intro fr e4
    refine SeqK_n ?_
    exact W_ret (Ret1 e4 ⟨finT times, rfl, fun h => ⟨by omega, by unfold badN; omega, h⟩, H2.same⟩)

end Go.Proofs.Ytfjdihfflghfpaa

/- CfarCells: what it calls, walked. -/
namespace Go.Proofs.Ytfjdihfflghfpaa
open Go Go.Vam Go.Sort

theorem bin_andNot {k : IntKind} {a b : Int} : binV .andNot (.int k a) (.int k b) = (intBitsV .andNot k a b).map (.int k) := by simp [binV]

theorem flT_set {L : List UInt64} {n : Nat} {x : UInt64} : (flT L).set n (.float .f64 x.toNat) = flT (L.set n x) := by unfold flT; rw [List.map_set]

theorem ext_abs {x : Nat} : extV 5 [.float .f64 x] = some (.float .f64 (fabs x)) := rfl

/-- A number that is tame, as the law asks. -/
theorem tame_tm {x : Nat} (hx : x < 18446744073709551616) (h : (ford .f64 x 0 == some .eq) = true ∨ ((ford .f64 (fabs x) 3256102530588868608 == some .gt || ford .f64 (fabs x) 3256102530588868608 == some .eq) = true ∧ (ford .f64 (fabs x) 5958262307011166208 == some .lt || ford .f64 (fabs x) 5958262307011166208 == some .eq) = true)) : TM x := by
  have hI : infR = 9218868437227405312 := rfl
  rcases h with h | ⟨h1, h2⟩
  · obtain ⟨a, k1, k2⟩ := (feq_iff hx (by decide)).1 h
    rw [fkey_zero] at k2
    have ha : a = 0 := (Option.some.inj k2).symm
    obtain ⟨⟨r1, s, r2, r3⟩, r4⟩ := rg_of hx k1 (by omega)
    generalize x % 9223372036854775808 = r at r1 r2 r3 r4
    have hr : r = 0 := by
      rcases Nat.eq_zero_or_pos r with h0 | h0
      · exact h0
      · have := sv_pos h0; omega
    subst hr
    exact ⟨s, 0, r2, by decide, .inl rfl⟩
  · by_cases hn : x % 9223372036854775808 ≤ infR
    · have hw := wordOf hx
      generalize decide (9223372036854775808 ≤ x) = s at hw
      generalize x % 9223372036854775808 = r at hn hw
      have hf : fabs x = r := by rw [hw]; exact fabs_word s r (by rw [d_ir]; exact hn)
      rw [hf] at h1 h2
      have hr : Rg r r := ⟨hn, false, by
        unfold Ieee.Format.word
        rw [d_sw]
        simp only [Bool.false_eq_true, if_false], fun h => by cases h⟩
      have w1 : Rg 3256102530588868608 3256102530588868608 := ⟨by decide, false, by decide, fun h => by cases h⟩
      have w2 : Rg 5958262307011166208 5958262307011166208 := ⟨by decide, false, by decide, fun h => by cases h⟩
      have e1 : sv 3256102530588868608 = twoP 774 := by
        have := pow_sv (k := 723) (by decide)
        exact this
      have e2 : sv 5958262307011166208 = twoP 1374 := by
        have := pow_sv (k := 1323) (by decide)
        exact this
      have l1 : twoP 774 ≤ sv r := by
        rw [← e1]
        refine sv_le ?_
        rw [Bool.or_eq_true] at h1
        rcases h1 with h1 | h1
        · have := hr.gt w1
          unfold gtB at this
          rw [h1] at this
          have := of_decide_eq_true this.symm
          omega
        · have := eq_rung hr w1 h1; omega
      have l2 : sv r ≤ twoP 1374 := by
        rw [← e2]
        refine sv_le ?_
        rw [Bool.or_eq_true] at h2
        rcases h2 with h2 | h2
        · have := hr.ltB w2
          unfold Go.Proofs.Ytfjdihfflghfpaa.ltB at this
          rw [h2] at this
          have := of_decide_eq_true this.symm
          omega
        · have := eq_rung hr w2 h2; omega
      refine ⟨s, r, hw, ?_, .inr ⟨l1, l2⟩⟩
      have := sv_le_inv (r := r) (q := 5958262307011166208) (by rw [e2]; exact l2)
      omega
    · have hnan : fabs x = nanF .f64 := by
        unfold fabs
        rw [if_pos]
        obtain ⟨s, f, hr⟩ := nanRead (Nat.lt_of_not_le hn)
        show (match Ieee.double.read x with | .nan _ _ => true | _ => false) = true
        rw [hr]
      rw [hnan] at h1
      have hz : (ford .f64 (nanF .f64) 3256102530588868608 == some .gt || ford .f64 (nanF .f64) 3256102530588868608 == some .eq) = false := by decide
      rw [hz] at h1; cases h1

theorem fe_nan {x y : Nat} (h : FE x y) (hx : (ford .f64 x x == some .eq) = false) : (ford .f64 y y == some .eq) = false := by
  rcases h with rfl | ⟨h1, h2, hk⟩
  · exact hx
  · rw [eq_self_is h1] at hx
    rw [eq_self_is h2]
    have nx : nanW x = true := by simpa using hx
    cases ny : nanW y with
    | true => rfl
    | false => have := kap_lt ny; rw [kap_nan nx] at hk; omega
theorem fe_num {x y : Nat} (h : FE x y) (hx : (ford .f64 x x == some .eq) = true) : y = x := by
  rcases h with rfl | ⟨h1, h2, hk⟩
  · rfl
  · rw [eq_self_is h1] at hx
    have nx : nanW x = false := by simpa using hx
    exact kap_word_eq h2 h1 nx hk

theorem one_mul {q : Nat} (hq : q < infR) : fmul .f64 4607182418800017408 q = q := by
  have hI : infR = 9218868437227405312 := rfl
  have w : ∀ r, r ≤ infR → Ieee.double.word false r = r := fun r hr => by
    unfold Ieee.Format.word
    simp only [Bool.false_eq_true, if_false]
  have h1 : (4607182418800017408 : Nat) < infR := by decide
  have := mul_exact (s := false) h1 hq hq (by rw [sv_1, Nat.mul_comm])
  rw [w _ (Nat.le_of_lt h1), w _ (Nat.le_of_lt hq)] at this
  exact this


theorem run34 {X : Ctx} (hX : X.fns = fnsOf Try.prog) (ho : ∀ f args, f ≠ 10 ∧ f ≠ 24 → X.orc f args = none) {s : Mm} {x : Nat} (hx : x < 18446744073709551616) : CallP X 34 [.float .f64 x] s (fun r s' => ∃ b, r = .bool b ∧ (b = true → TM x) ∧ s = s') := by
  have htm := tame_tm hx
  refine CallP_of (hX ▸ ir34_eq) (ho _ _ (by decide)) (Nat.le_of_ble_eq_true rfl) ?_
  refine W_seq (W_ops [0] ?_)
  simp only [o34_0, WO_move, WO_nil, geT_put, frame_nil, frame_cons, evO_const, keep_nil, keep_cons, keepK_eq, Nat.reduceEqDiff, ↓reduceIte, eq_self, Nat.zero_add]
  intro fr e0
  refine SeqK_n ?_
  refine W_seq (W_ops [0, 3] ?_)
  simp only [o34_1, WO_ext, WO_move, WO_nil, PureK_some, geT_put, evO_tmp, keep_nil, keep_cons, keepK_eq, List.map_cons, List.map_nil, Nat.reduceEqDiff, ↓reduceIte, eq_self, e0, ext_abs]
  clear e0
  intro fr e0 e3
  refine SeqK_n ?_
  cases h1 : (ford .f64 x 0 == some .eq) with
  | true =>
    refine W_seq (W_ops [2] ?_)
    simp only [o34_2, WO_bin, WO_move, WO_pick, pick_b, binf_eql, binf_leq, WO_nil, PureK_some, WO_guard, want_v, wantB_f, geT_put, evO_tmp, evO_const, keep_nil, keep_cons, keepK_eq, Nat.reduceEqDiff, ↓reduceIte, Bool.not_true, eq_self, Bool.false_eq_true, e0, e3, h1]
    clear e0 e3
    intro fr e2
    refine SeqK_n ?_
    exact W_ret (Ret1 e2 ⟨true, rfl, fun _ => htm (.inl h1), rfl⟩)
  | false =>
    cases h2 : (ford .f64 (fabs x) 3256102530588868608 == some .gt || ford .f64 (fabs x) 3256102530588868608 == some .eq) with
    | false =>
      refine W_seq (W_ops [2] ?_)
      simp only [o34_2, WO_bin, WO_move, WO_pick, pick_b, binf_eql, binf_geq, WO_nil, PureK_some, WO_guard, want_v, wantB_t, wantB_f, geT_put, evO_tmp, evO_const, keep_nil, keep_cons, keepK_eq, Nat.reduceEqDiff, ↓reduceIte, Bool.not_false, eq_self, Bool.false_eq_true, e0, e3, h1, h2]
      clear e0 e3
      intro fr e2
      refine SeqK_n ?_
      exact W_ret (Ret1 e2 ⟨false, rfl, fun h => (by cases h), rfl⟩)
    | true =>
      refine W_seq (W_ops [2] ?_)
      simp only [o34_2, WO_bin, WO_move, WO_pick, pick_b, binf_eql, binf_geq, binf_leq, WO_nil, PureK_some, WO_guard, want_v, wantB_t, wantB_f, geT_put, evO_tmp, evO_const, keep_nil, keep_cons, keepK_eq, Nat.reduceEqDiff, ↓reduceIte, Bool.not_false, eq_self, Bool.false_eq_true, e0, e3, h1, h2]
      clear e0 e3
      intro fr e2
      refine SeqK_n ?_
      exact W_ret (Ret1 e2 ⟨_, rfl, fun h => htm (.inr ⟨h2, h⟩), rfl⟩)

theorem run31t {X : Ctx} (hX : X.fns = fnsOf Try.prog) (ho : ∀ f args, f ≠ 10 ∧ f ≠ 24 → X.orc f args = none) {s : Mm} {v : Value} {L : List UInt64} (a : SlC s 1 v L.length (flT L)) (hl : L.length ≤ 1048576) : CallP X 31 [v, cmpV 34] s (fun r s' => ∃ b, r = .bool b ∧ (b = true → ∀ x ∈ L, TM x.toNat) ∧ s = s') := by
  refine CallP_of (hX ▸ ir31_eq) (ho _ _ (by decide)) (Nat.le_of_ble_eq_true rfl) ?_
  refine W_seq (W_ops [0, 1] ?_)
  simp only [o31_0, WO_move, WO_nil, geT_put, frame_nil, frame_cons, evO_const, keep_nil, keep_cons, keepK_eq, Nat.reduceEqDiff, Nat.reduceAdd, ↓reduceIte, eq_self, Nat.zero_add]
  intro fr e0 e1
  refine SeqK_n ?_
  refine W_assoc ?_
  refine W_seq (W_ops [1, 7, 8, 9] ?_)
  simp only [o31_1, WO_bu, WO_move, WO_nil, PureK_some, geT_put, evO_tmp, evO_const, keep_nil, keep_cons, keepK_eq, List.map_cons, List.map_nil, Nat.reduceEqDiff, ↓reduceIte, eq_self, e0, e1, a.len]
  clear e0 e1
  intro fr e1 e7 e8 e9
  refine SeqK_n ?_
  refine W_seq (W_block (W_loop (fun m fr s1 => ∃ i, i + m = L.length ∧ s = s1 ∧ (∀ j (hj : j < L.length), j < i → TM (L[j]).toNat) ∧ geT fr 1 = cmpV 34 ∧ geT fr 7 = v ∧ geT fr 8 = .int .i64 (L.length : Nat) ∧ geT fr 9 = .int .i64 (i : Nat)) L.length ⟨0, by omega, rfl, fun j hj h => by omega, e1, e7, e8, e9⟩ ?_))
  clear e1 e7 e8 e9 fr
  rintro m fr _ ⟨i, hi, rfl, hok, e1, e7, e8, e9⟩
  refine W_seq (W_ops [1, 7, 8, 9, 10] ?_)
  simp only [o31_3, WO_bin, bin_lss, WO_nil, PureK_some, geT_put, evO_tmp, keep_nil, keep_cons, keepK_eq, Nat.reduceEqDiff, ↓reduceIte, eq_self, e1, e7, e8, e9]
  clear e1 e7 e8 e9
  intro fr e1 e7 e8 e9 e10
  refine SeqK_n ?_
  refine W_while e10 (fun hlt => ?_) (fun hlt => ?_)
  · have hiL : i < L.length := by omega
    have A1 := a.addr (kk := .i64) (i := (i : Int)) rfl hiL
    rw [Nat.mul_one] at A1
    have L1 : loadV s none (elP v i) = some (.float .f64 (L[i]).toNat) := a.load (flT_get hiL)
    refine W_seq (W_block ?_)
    refine W_seq (W_ops [1, 6, 7, 8, 9] ?_)
    simp only [o31_4, WO_addrSl, WO_load, WO_move, WO_nil, PureK_some, geT_put, evO_tmp, keep_nil, keep_cons, keepK_eq, Nat.reduceEqDiff, ↓reduceIte, eq_self, e1, e7, e8, e9, A1, L1]
    clear e1 e7 e8 e9 e10
    intro fr e1 e6 e7 e8 e9
    refine SeqK_n ?_
    refine W_seq (W_ops [1, 7, 8, 9, 16] ?_)
    simp only [o31_5, WO_move, geT_put, evO_tmp, Nat.reduceEqDiff, ↓reduceIte, e1, e6]
    refine WO_callT ?_
    simp only [geT_put, evO_tmp, List.map_cons, List.map_nil, Nat.reduceEqDiff, ↓reduceIte, eq_self, FunK_0, cmpV]
    refine CallK_of (run34 hX ho (UInt64.toNat_lt (L[i]))) ?_
    rintro _ _ ⟨b, rfl, hb, rfl⟩
    simp only [WO_un, un_not, WO_nil, PureK_some, geT_put, evO_tmp, keep_nil, keep_cons, keepK_eq, Nat.reduceEqDiff, ↓reduceIte, eq_self, e1, e7, e8, e9]
    clear e1 e6 e7 e8 e9
    intro fr e1 e7 e8 e9 e16
    refine SeqK_n ?_
    cases b with
    | false =>
      refine W_cond e16 (fun _ => ?_) (fun h => by cases h)
      refine W_seq (W_ops [4] ?_)
      simp only [o31_6, WO_move, WO_nil, geT_put, evO_const, keep_nil, keep_cons, keepK_eq, ↓reduceIte, eq_self]
      clear e1 e7 e8 e9 e16
      intro fr e4
      refine SeqK_n ?_
      exact W_ret (BlkK_r (SeqK_r (LoopK_r (BlkK_r (SeqK_r (Ret1 e4 ⟨false, rfl, fun h => (by cases h), rfl⟩))))))
    | true =>
      refine W_cond e16 (fun h => by cases h) (fun _ => W_skip (BlkK_n (SeqK_n ?_)))
      refine W_ops [1, 7, 8, 9] ?_
      simp only [o31_7, WO_bin, WO_move, bin_add, WO_nil, PureK_some, geT_put, evO_tmp, evO_const, keep_nil, keep_cons, keepK_eq, Nat.reduceEqDiff, ↓reduceIte, eq_self, e1, e7, e8, e9, wrap_i64 (n := (i : Int) + 1) (by omega) (by omega)]
      clear e1 e7 e8 e9 e16
      intro fr e1 e7 e8 e9
      refine LoopK_n (m' := m - 1) (by omega) ⟨i + 1, by omega, rfl, fun j hj h => ?_, e1, e7, e8, by rw [e9]; rfl⟩
      by_cases hji : j = i
      · subst hji; exact hb rfl
      · exact hok j hj (by omega)
  · obtain rfl : i = L.length := by omega
    refine LoopK_x (BlkK_e (SeqK_n ?_))
    refine W_seq (W_ops [4] ?_)
    simp only [o31_8, WO_move, WO_nil, geT_put, evO_const, keep_nil, keep_cons, keepK_eq, ↓reduceIte, eq_self]
    clear e1 e7 e8 e9 e10
    intro fr e4
    refine SeqK_n ?_
    refine W_ret (Ret1 e4 ⟨true, rfl, fun _ x hx => ?_, rfl⟩)
    obtain ⟨j, hj, rfl⟩ := List.mem_iff_getElem.1 hx
    exact hok j hj hj

theorem run33 {X : Ctx} (hX : X.fns = fnsOf Try.prog) (ho : ∀ f args, f ≠ 10 ∧ f ≠ 24 → X.orc f args = none) {s : Mm} {x y : Nat} (h : FE x y) : CallP X 33 [.float .f64 x, .float .f64 y] s (fun r s' => r = .bool true ∧ s = s') := by
  refine CallP_of (hX ▸ ir33_eq) (ho _ _ (by decide)) (Nat.le_of_ble_eq_true rfl) ?_
  refine W_seq (W_ops [0, 1] ?_)
  simp only [o33_0, WO_move, WO_nil, geT_put, frame_nil, frame_cons, evO_const, keep_nil, keep_cons, keepK_eq, Nat.reduceEqDiff, Nat.reduceAdd, ↓reduceIte, eq_self, Nat.zero_add]
  intro fr e0 e1
  refine SeqK_n ?_
  cases h1 : (ford .f64 x x == some .eq) with
  | false =>
    have h2 := fe_nan h h1
    refine W_seq (W_ops [4] ?_)
    simp only [o33_1, WO_bin, WO_move, WO_pick, pick_b, binf_neq, WO_nil, PureK_some, WO_guard, want_v, wantB_t, wantB_f, geT_put, evO_tmp, evO_const, keep_nil, keep_cons, keepK_eq, Nat.reduceEqDiff, ↓reduceIte, Bool.not_true, Bool.not_false, eq_self, Bool.false_eq_true, e0, e1, h1, h2]
    clear e0 e1
    intro fr e4
    refine SeqK_n ?_
    exact W_ret (Ret1 e4 ⟨rfl, rfl⟩)
  | true =>
    obtain rfl := fe_num h h1
    have hb := bits_nn2 h1
    refine W_seq (W_ops [4] ?_)
    simp only [o33_1, WO_bin, WO_ext, WO_move, WO_pick, pick_b, bin_eql, binf_neq, WO_nil, PureK_some, WO_guard, want_v, wantB_t, wantB_f, geT_put, evO_tmp, evO_const, keep_nil, keep_cons, keepK_eq, List.map_cons, List.map_nil, Nat.reduceEqDiff, ↓reduceIte, Bool.not_true, Bool.not_false, decide_true, eq_self, Bool.false_eq_true, e0, e1, h1, hb]
    clear e0 e1
    intro fr e4
    refine SeqK_n ?_
    exact W_ret (Ret1 e4 ⟨rfl, rfl⟩)

theorem run64a {X : Ctx} (hX : X.fns = fnsOf Try.prog) (ho : ∀ f args, f ≠ 10 ∧ f ≠ 24 → X.orc f args = none) {s : Mm} : CallP X 64 [.float .f64 4607182418800017408] s (fun r s' => r = .bool false ∧ s = s') := by
  have h : nanW 4607182418800017408 = false := by decide
  have := run64 hX ho (s := s) (x := 4607182418800017408) (by decide)
  rw [h] at this
  exact this

theorem run67 {X : Ctx} (hX : X.fns = fnsOf Try.prog) (ho : ∀ f args, f ≠ 10 ∧ f ≠ 24 → X.orc f args = none) {s : Mm} : CallP X 67 [.float .f64 4607182418800017408, .int .i64 0] s (fun r s' => r = .bool false ∧ s = s') := by
  have h : (ford .f64 4607182418800017408 9218868437227405311 == some .gt) = false := by decide
  have hf : extV 5 [.float .f64 4607182418800017408] = some (.float .f64 4607182418800017408) := by
    have h : fabs 4607182418800017408 = 4607182418800017408 := by decide
    rw [ext_abs, h]
  refine CallP_of (hX ▸ ir67_eq) (ho _ _ (by decide)) (Nat.le_of_ble_eq_true rfl) ?_
  refine W_seq (W_ops [0, 1] ?_)
  simp only [o67_0, WO_move, WO_nil, geT_put, frame_nil, frame_cons, evO_const, keep_nil, keep_cons, keepK_eq, Nat.reduceEqDiff, Nat.reduceAdd, ↓reduceIte, eq_self, Nat.zero_add]
  intro fr e0 e1
  refine SeqK_n ?_
  refine W_assoc ?_
  refine W_seq (W_ops [0, 1, 6] ?_)
  simp only [o67_1, WO_bin, WO_move, bin_eql, WO_nil, PureK_some, geT_put, evO_tmp, evO_const, keep_nil, keep_cons, keepK_eq, Nat.reduceEqDiff, ↓reduceIte, decide_true, eq_self, e0, e1]
  clear e0 e1
  intro fr e0 e1 e6
  refine SeqK_n ?_
  refine W_seq (W_cond e6 (fun _ => ?_) (fun h => by cases h))
  refine W_ops [0] ?_
  simp only [o67_2, WO_ext, WO_move, WO_nil, PureK_some, geT_put, evO_tmp, keep_nil, keep_cons, keepK_eq, List.map_cons, List.map_nil, ↓reduceIte, eq_self, e0, hf]
  clear e0 e1 e6
  intro fr e0
  refine SeqK_n ?_
  refine W_seq (W_ops [4] ?_)
  simp only [o67_5, WO_bin, WO_move, binf_gtr, WO_nil, PureK_some, geT_put, evO_tmp, evO_const, keep_nil, keep_cons, keepK_eq, ↓reduceIte, eq_self, e0, h]
  clear e0
  intro fr e4
  refine SeqK_n ?_
  exact W_ret (Ret1 e4 ⟨rfl, rfl⟩)

theorem run75 {X : Ctx} (hX : X.fns = fnsOf Try.prog) (ho : ∀ f args, f ≠ 10 ∧ f ≠ 24 → X.orc f args = none) {s : Mm} : CallP X 75 [.float .f64 4607182418800017408] s (fun r s' => r = .tuple #[.float .f64 4607182418800017408, .int .i64 0] ∧ s = s') := by
  have h : (ford .f64 4607182418800017408 4503599627370496 == some .lt) = false := by decide
  have hf : extV 5 [.float .f64 4607182418800017408] = some (.float .f64 4607182418800017408) := by
    have h : fabs 4607182418800017408 = 4607182418800017408 := by decide
    rw [ext_abs, h]
  refine CallP_of (hX ▸ ir75_eq) (ho _ _ (by decide)) (Nat.le_of_ble_eq_true rfl) ?_
  refine W_seq (W_ops [0] ?_)
  simp only [o75_0, WO_move, WO_nil, geT_put, frame_nil, frame_cons, evO_const, keep_nil, keep_cons, keepK_eq, Nat.reduceEqDiff, ↓reduceIte, eq_self, Nat.zero_add]
  intro fr e0
  refine SeqK_n ?_
  refine W_assoc ?_
  refine W_seq (W_ops [0, 6] ?_)
  simp only [o75_1, WO_bin, WO_ext, WO_move, binf_lss, WO_nil, PureK_some, geT_put, evO_tmp, evO_const, keep_nil, keep_cons, keepK_eq, List.map_cons, List.map_nil, Nat.reduceEqDiff, ↓reduceIte, eq_self, e0, hf, h]
  clear e0
  intro fr e0 e6
  refine SeqK_n ?_
  refine W_seq (W_cond e6 (fun h => by cases h) (fun _ => W_skip (SeqK_n ?_)))
  refine W_seq (W_ops [2, 3] ?_)
  simp only [o75_3, WO_move, WO_nil, geT_put, evO_tmp, evO_const, keep_nil, keep_cons, keepK_eq, Nat.reduceEqDiff, ↓reduceIte, eq_self, e0]
  clear e0 e6
  intro fr e2 e3
  refine SeqK_n ?_
  exact W_ret (Ret2 e2 e3 ⟨rfl, rfl⟩)

/-- math.Ldexp of one: the power of two. -/
theorem run56 {X : Ctx} (hX : X.fns = fnsOf Try.prog) (ho : ∀ f args, f ≠ 10 ∧ f ≠ 24 → X.orc f args = none) {s : Mm} {P : Int} (h1 : -100 ≤ P) (h2 : P ≤ 100) : CallP X 56 [.float .f64 4607182418800017408, .int .i64 P] s (fun r s' => ∃ S, r = .float .f64 S ∧ Pow2 P S ∧ s = s') := by
  have hI : infR = 9218868437227405312 := rfl
  have z1 : (ford .f64 4607182418800017408 0 == some .eq) = false := by decide
  have z2 : extV 0 [.float .f64 4607182418800017408] = some (.int .u64 4607182418800017408) := bits_nn2 (by decide)
  have z3 : shiftV .shr .u64 4607182418800017408 52 = some 1023 := by decide
  have z4 : wrapK .i64 1023 = 1023 := by decide
  have z5 : intBitsV .and .i64 1023 2047 = some 1023 := by decide
  have z6 : wrapK .i64 (1023 - 1023) = 0 := by decide
  have z7 : wrapK .i64 (P + 0) = P := by rw [Int.add_zero]; exact wrap_i64 (by omega) (by omega)
  have z8 : intBitsV .andNot .u64 4607182418800017408 9218868437227405312 = some 0 := by decide
  have z9 : wrapK .i64 (P + 1023) = P + 1023 := wrap_i64 (by omega) (by omega)
  have y1 : wrapK .u64 (P + 1023) = P + 1023 := wrap_u64 (by omega) (by omega)
  have y2 : shiftV .shl .u64 (P + 1023) 52 = some ((P + 1023) * 4503599627370496) := by
    have e : wrapK .u64 ((P + 1023) * 4503599627370496) = (P + 1023) * 4503599627370496 := wrap_u64 (by omega) (by omega)
    show some (wrapK .u64 ((P + 1023) * 4503599627370496)) = _
    rw [e]
  have y3 : intBitsV .or .u64 0 ((P + 1023) * 4503599627370496) = some ((P + 1023) * 4503599627370496) := by
    obtain ⟨n, hn⟩ : ∃ n : Nat, (P + 1023) * 4503599627370496 = (n : Nat) := ⟨((P + 1023) * 4503599627370496).toNat, by omega⟩
    have hnb : n < 18446744073709551616 := by omega
    rw [hn]
    show some (wrapK .u64 ((BitVec.ofInt 64 0 ||| BitVec.ofInt 64 (n : Int)).toNat : Nat)) = _
    have e0 : BitVec.ofInt 64 0 = 0#64 := rfl
    have e1 : BitVec.ofInt 64 (n : Int) = BitVec.ofNat 64 n := BitVec.ofInt_natCast ..
    rw [e0, BitVec.zero_or, e1, BitVec.toNat_ofNat, Nat.mod_eq_of_lt hnb]
    congr 1
    exact wrap_u64 (by omega) (by omega)
  have hq : (P + 1023).toNat * 4503599627370496 < infR := by omega
  have y4 : extV 1 [.int .u64 ((P + 1023) * 4503599627370496)] = some (.float .f64 ((P + 1023).toNat * 4503599627370496)) := by
    show (if 0 ≤ (P + 1023) * 4503599627370496 ∧ (P + 1023) * 4503599627370496 < 18446744073709551616 then some (Value.float .f64 ((P + 1023) * 4503599627370496).toNat) else none) = _
    rw [if_pos (by omega)]
    congr 2
    omega
  have y5 := one_mul hq
  have hw : Ieee.double.word false ((P + 1023).toNat * 4503599627370496) = (P + 1023).toNat * 4503599627370496 := by
    unfold Ieee.Format.word
    simp only [Bool.false_eq_true, if_false]
  refine CallP_of (hX ▸ ir56_eq) (ho _ _ (by decide)) (Nat.le_of_ble_eq_true rfl) ?_
  refine W_seq (W_ops [0, 1] ?_)
  simp only [o56_0, WO_move, WO_nil, geT_put, frame_nil, frame_cons, evO_const, keep_nil, keep_cons, keepK_eq, Nat.reduceEqDiff, Nat.reduceAdd, ↓reduceIte, eq_self, Nat.zero_add]
  intro fr e0 e1
  refine SeqK_n ?_
  refine W_seq (W_block ?_)
  refine W_seq (W_ops [0, 1, 8] ?_)
  simp only [o56_1, WO_bin, WO_move, binf_eql, WO_nil, PureK_some, geT_put, evO_tmp, evO_const, keep_nil, keep_cons, keepK_eq, Nat.reduceEqDiff, ↓reduceIte, eq_self, e0, e1, z1]
  clear e0 e1
  intro fr e0 e1 e8
  refine SeqK_n ?_
  refine W_cond e8 (fun h => by cases h) (fun _ => ?_)
  refine W_seq (W_ops [0, 1, 12] ?_)
  simp only [o56_3, WO_call, WO_move, geT_put, evO_tmp, evO_const, List.map_cons, List.map_nil, ↓reduceIte, eq_self, e0]
  refine CallK_of (run67 hX ho) ?_
  rintro _ _ ⟨rfl, rfl⟩
  simp only [WO_call, WO_move, WO_guard, want_v, wantB_f, geT_put, evO_tmp, List.map_cons, List.map_nil, Nat.reduceEqDiff, ↓reduceIte, Bool.not_false, eq_self, e0]
  refine CallK_of (run64a hX ho) ?_
  rintro _ _ ⟨rfl, rfl⟩
  simp only [WO_move, WO_pick, pick_b, WO_nil, PureK_some, geT_put, evO_tmp, evO_const, keep_nil, keep_cons, keepK_eq, Nat.reduceEqDiff, ↓reduceIte, eq_self, Bool.false_eq_true, e0, e1]
  clear e0 e1 e8
  intro fr e0 e1 e12
  refine SeqK_n ?_
  refine W_cond e12 (fun h => by cases h) (fun _ => W_skip (BlkK_n (SeqK_n ?_)))
  refine W_seq (W_ops [0, 1, 5] ?_)
  simp only [o56_5, WO_call, WO_move, geT_put, evO_tmp, List.map_cons, List.map_nil, ↓reduceIte, eq_self, e0]
  refine CallK_of (run75 hX ho) ?_
  rintro _ _ ⟨rfl, rfl⟩
  simp only [WO_extract, ext_20, ext_21, WO_move, WO_nil, PureK_some, geT_put, evO_tmp, keep_nil, keep_cons, keepK_eq, Nat.reduceEqDiff, ↓reduceIte, eq_self, e1]
  clear e0 e1 e12
  intro fr e0 e1 e5
  refine SeqK_n ?_
  refine W_seq (W_ops [0, 1] ?_)
  simp only [o56_6, WO_bin, WO_move, bin_add, WO_nil, PureK_some, geT_put, evO_tmp, keep_nil, keep_cons, keepK_eq, Nat.reduceEqDiff, ↓reduceIte, eq_self, e0, e1, e5, z7]
  clear e0 e1 e5
  intro fr e0 e1
  refine SeqK_n ?_
  refine W_seq (W_ops [0, 1, 6] ?_)
  simp only [o56_7, WO_ext, WO_move, WO_nil, PureK_some, geT_put, evO_tmp, keep_nil, keep_cons, keepK_eq, List.map_cons, List.map_nil, Nat.reduceEqDiff, ↓reduceIte, eq_self, e0, e1, z2]
  clear e0 e1
  intro fr e0 e1 e6
  refine SeqK_n ?_
  refine W_seq (W_ops [0, 1, 6] ?_)
  simp only [o56_8, WO_bin, WO_conv, conv_int, WO_move, bin_add, bin_and, bin_shr, bin_sub, WO_nil, PureK_some, geT_put, evO_tmp, evO_const, keep_nil, keep_cons, keepK_eq, Option.map_some, Nat.reduceEqDiff, ↓reduceIte, eq_self, e0, e1, e6, z3, z4, z5, z6, z7]
  clear e0 e1 e6
  intro fr e0 e1 e6
  refine SeqK_n ?_
  refine W_assoc ?_
  refine W_seq (W_ops [0, 1, 6, 38] ?_)
  simp only [o56_9, WO_bin, WO_move, bin_lss, WO_nil, PureK_some, geT_put, evO_tmp, evO_const, keep_nil, keep_cons, keepK_eq, Nat.reduceEqDiff, ↓reduceIte, eq_self, e0, e1, e6]
  clear e0 e1 e6
  intro fr e0 e1 e6 e38
  refine SeqK_n ?_
  refine W_seq (W_if e38 (fun h => by omega) (fun _ => W_skip (SeqK_n ?_)))
  refine W_assoc ?_
  refine W_seq (W_ops [0, 1, 6, 42] ?_)
  simp only [o56_11, WO_bin, WO_move, bin_gtr, WO_nil, PureK_some, geT_put, evO_tmp, evO_const, keep_nil, keep_cons, keepK_eq, Nat.reduceEqDiff, ↓reduceIte, eq_self, e0, e1, e6]
  clear e0 e1 e6 e38
  intro fr e0 e1 e6 e42
  refine SeqK_n ?_
  refine W_seq (W_if e42 (fun h => by omega) (fun _ => W_skip (SeqK_n ?_)))
  refine W_seq (W_ops [1, 6, 7] ?_)
  simp only [o56_15, WO_move, WO_nil, geT_put, evO_const, keep_nil, keep_cons, keepK_eq, Nat.reduceEqDiff, ↓reduceIte, eq_self, e1, e6]
  clear e0 e1 e6 e42
  intro fr e1 e6 e7
  refine SeqK_n ?_
  refine W_assoc ?_
  refine W_seq (W_ops [1, 6, 7, 48] ?_)
  simp only [o56_16, WO_bin, WO_move, bin_lss, WO_nil, PureK_some, geT_put, evO_tmp, evO_const, keep_nil, keep_cons, keepK_eq, Nat.reduceEqDiff, ↓reduceIte, eq_self, e1, e6, e7]
  clear e1 e6 e7
  intro fr e1 e6 e7 e48
  refine SeqK_n ?_
  refine W_seq (W_if e48 (fun h => by omega) (fun _ => W_skip (SeqK_n ?_)))
  refine W_seq (W_ops [1, 6, 7] ?_)
  simp only [o56_19, WO_bin, WO_move, bin_andNot, WO_nil, PureK_some, geT_put, evO_tmp, evO_const, keep_nil, keep_cons, keepK_eq, Option.map_some, Nat.reduceEqDiff, ↓reduceIte, eq_self, e1, e6, e7, z8]
  clear e1 e6 e7 e48
  intro fr e1 e6 e7
  refine SeqK_n ?_
  refine W_seq (W_ops [6, 7] ?_)
  simp only [o56_20, WO_bin, WO_conv, conv_int, WO_move, bin_add, bin_or, bin_shl, WO_nil, PureK_some, geT_put, evO_tmp, evO_const, keep_nil, keep_cons, keepK_eq, Option.map_some, Nat.reduceEqDiff, ↓reduceIte, eq_self, e1, e6, e7, z9, y1, y2, y3]
  clear e1 e6 e7
  intro fr e6 e7
  refine SeqK_n ?_
  refine W_seq (W_ops [4] ?_)
  simp only [o56_21, WO_bin, WO_ext, WO_move, binf_mul, WO_nil, PureK_some, geT_put, evO_tmp, keep_nil, keep_cons, keepK_eq, List.map_cons, List.map_nil, Nat.reduceEqDiff, ↓reduceIte, eq_self, e6, e7, y4, y5]
  clear e6 e7
  intro fr e4
  refine SeqK_n ?_
  exact W_ret (Ret1 e4 ⟨_, rfl, ⟨h1, h2, hw.symm⟩, rfl⟩)

theorem run35 {X : Ctx} (hX : X.fns = fnsOf Try.prog) (ho : ∀ f args, f ≠ 10 ∧ f ≠ 24 → X.orc f args = none) {s : Mm} {P : Int} (h1 : -100 ≤ P) (h2 : P ≤ 100) : CallP X 35 [.float .f64 4607182418800017408, .int .i64 P] s (fun r s' => ∃ S, r = .float .f64 S ∧ Pow2 P S ∧ s = s') := by
  refine CallP_of (hX ▸ ir35_eq) (ho _ _ (by decide)) (Nat.le_of_ble_eq_true rfl) ?_
  refine W_seq (W_ops [0, 1] ?_)
  simp only [o35_0, WO_move, WO_nil, geT_put, frame_nil, frame_cons, evO_const, keep_nil, keep_cons, keepK_eq, Nat.reduceEqDiff, Nat.reduceAdd, ↓reduceIte, eq_self, Nat.zero_add]
  intro fr e0 e1
  refine SeqK_n ?_
  refine W_seq (W_cond (b := false) rfl (fun h => by cases h) (fun _ => W_skip (SeqK_n ?_)))
  refine W_seq (W_ops [4] ?_)
  simp only [o35_2, WO_call, WO_move, geT_put, evO_tmp, List.map_cons, List.map_nil, Nat.reduceEqDiff, ↓reduceIte, eq_self, e0, e1]
  refine CallK_of (run56 hX ho h1 h2) ?_
  rintro _ _ ⟨S, rfl, hS, rfl⟩
  simp only [WO_move, WO_nil, geT_put, evO_tmp, keep_nil, keep_cons, keepK_eq, ↓reduceIte, eq_self]
  clear e0 e1
  intro fr e4
  refine SeqK_n ?_
  exact W_ret (Ret1 e4 ⟨S, rfl, hS, rfl⟩)

set_option maxHeartbeats 4000000 in
theorem run32 {X : Ctx} (hX : X.fns = fnsOf Try.prog) (ho : ∀ f args, f ≠ 10 ∧ f ≠ 24 → X.orc f args = none) {s0 s : Mm} {l : List HP} {v ov : Value} {L M : List UInt64} {way g t nth at_ : Int} {times : Nat} (H : Hold s0 s l) (a : SlC s 1 v L.length (flT L)) (o : SlC s 1 ov M.length (flT M)) (hl : L.length ≤ 16384) (hat : 0 ≤ at_ ∧ at_ < (L.length : Int)) (hb : ¬ badN g t nth) :
    CallP X 32 [v, ov, .int .i64 at_, kV way g t nth times] s (fun r s' => ∃ C : List UInt64, C.length = L.length ∧ (∀ j : Nat, cellP at_ g t j → C[j]? = L[j]?) ∧ Hold s0 s' (HP.own 1 r L.length (flT C) :: l)) := by
  have hbx := kC_is way g t nth times
  have hbn : 0 ≤ g ∧ g ≤ 16384 ∧ 1 ≤ t ∧ t ≤ 16384 := by unfold badN at hb; omega
  have H1 := (Hold.refl s).new (kC way g t nth times)
  refine CallP_of (hX ▸ ir32_eq) (ho _ _ (by decide)) (Nat.le_of_ble_eq_true rfl) ?_
  refine W_seq (W_ops [0, 1, 2, 7] ?_)
  simp only [o32_0, WO_box, WO_move, WO_nil, geT_put, frame_nil, frame_cons, evO_tmp, evO_const, keep_nil, keep_cons, keepK_eq, Nat.reduceEqDiff, Nat.reduceAdd, ↓reduceIte, eq_self, Nat.zero_add, hbx]
  intro fr e0 e1 e2 e7
  refine SeqK_n ?_
  generalize newAt s (.cells (kC way g t nth times) false) = s1 at H1 ⊢
  generalize s.nxt = Bk at H1 e7
  have a1 := a.same H1.same (fun _ _ h => h)
  obtain ⟨v1, s2, ap1, H2⟩ := (H1.nil 1).append (bytes := 8) a1.src (by rw [flT_len, Nat.mul_one]) (flT_one L) (by omega) (by decide) (by omega) (by omega) (by omega)
  simp only [Nat.zero_add, List.nil_append] at H2
  refine W_seq (W_ops [1, 2, 7, 9] ?_)
  simp only [o32_1, WO_append, WO_move, WO_nil, MemK_some, geT_put, evO_tmp, evO_const, keep_nil, keep_cons, keepK_eq, Nat.reduceEqDiff, ↓reduceIte, eq_self, e0, e1, e2, e7, ap1]
  clear e0 e1 e2 e7
  intro fr e1 e2 e7 e9
  refine SeqK_n ?_
  refine W_assoc ?_
  refine W_seq (W_ops [1, 2, 7, 9, 15, 16] ?_)
  simp only [o32_2, WO_bu, WO_move, WO_nil, PureK_some, geT_put, evO_tmp, evO_const, keep_nil, keep_cons, keepK_eq, List.map_cons, List.map_nil, Nat.reduceEqDiff, ↓reduceIte, eq_self, e1, e2, e7, e9, (H2.own (List.mem_cons_self ..)).slc.len]
  clear e1 e2 e7 e9
  intro fr e1 e2 e7 e9 e15 e16
  refine SeqK_n ?_
  refine W_seq (W_block (W_loop (fun m fr s1 => ∃ (i : Nat) (C : List UInt64), i + m = L.length ∧ C.length = L.length ∧ (∀ j : Nat, cellP at_ g t j → C[j]? = L[j]?) ∧ geT fr 1 = ov ∧ geT fr 2 = .int .i64 at_ ∧ geT fr 7 = .pointer (some ⟨Bk, 0, none⟩) ∧ geT fr 9 = v1 ∧ geT fr 15 = .int .i64 (L.length : Nat) ∧ geT fr 16 = .int .i64 (i : Nat) ∧
    Hold s s1 [HP.own 1 v1 L.length (flT C), HP.cell Bk (kC way g t nth times)]) L.length ⟨0, L, by omega, rfl, fun _ _ => rfl, e1, e2, e7, e9, e15, e16, H2⟩ ?_))
  clear e1 e2 e7 e9 e15 e16 fr H1 H2 a1 ap1 s1 s2
  rintro m fr s1 ⟨i, C, hi, hC, hok, e1, e2, e7, e9, e15, e16, H1⟩
  refine W_seq (W_ops [1, 2, 7, 9, 15, 16, 17] ?_)
  simp only [o32_4, WO_bin, bin_lss, WO_nil, PureK_some, geT_put, evO_tmp, keep_nil, keep_cons, keepK_eq, Nat.reduceEqDiff, ↓reduceIte, eq_self, e1, e2, e7, e9, e15, e16]
  clear e1 e2 e7 e9 e15 e16
  intro fr e1 e2 e7 e9 e15 e16 e17
  refine SeqK_n ?_
  refine W_while e17 (fun hlt => ?_) (fun hlt => ?_)
  · have hiL : i < L.length := by omega
    obtain ⟨D, hD⟩ : ∃ D : Int, D = if at_ - (i : Int) > (i : Int) - at_ then at_ - (i : Int) else (i : Int) - at_ := ⟨_, rfl⟩
    have k1 : loadV s1 none (.pointer (some ⟨Bk, 1, none⟩)) = some (.int .i64 g) := load_g (o := 1) (H1.up1.cell (List.mem_cons_self ..))
    have k2 : loadV s1 none (.pointer (some ⟨Bk, 2, none⟩)) = some (.int .i64 t) := load_g (o := 2) (H1.up1.cell (List.mem_cons_self ..))
    have o1 := o.same H1.same (fun _ _ h => h)
    refine W_seq (W_block ?_)
    refine W_seq (W_ops [1, 2, 7, 9, 10, 15, 16] ?_)
    simp only [o32_5, WO_move, WO_nil, geT_put, evO_tmp, keep_nil, keep_cons, keepK_eq, Nat.reduceEqDiff, ↓reduceIte, eq_self, e1, e2, e7, e9, e15, e16]
    clear e1 e2 e7 e9 e15 e16 e17
    intro fr e1 e2 e7 e9 e10 e15 e16
    refine SeqK_n ?_
    refine W_seq (W_ops [1, 2, 7, 9, 10, 11, 15, 16] ?_)
    simp only [o32_6, WO_bin, WO_bu, bu_max, WO_move, bin_sub, WO_nil, PureK_some, geT_put, evO_tmp, keep_nil, keep_cons, keepK_eq, List.map_cons, List.map_nil, Nat.reduceEqDiff, ↓reduceIte, eq_self, e1, e2, e7, e9, e10, e15, e16, wrap_i64 (n := (i : Int) - at_) (by omega) (by omega), wrap_i64 (n := at_ - (i : Int)) (by omega) (by omega)]
    clear e1 e2 e7 e9 e10 e15 e16
    intro fr e1 e2 e7 e9 e10 e11 e15 e16
    refine SeqK_n ?_
    rw [← hD] at e11
    refine W_seq (W_opsB [1, 2, 7, 9, 10, 15, 16, 44] (fun fr' s' => ∃ b, s1 = s' ∧ geT fr' 1 = ov ∧ geT fr' 2 = .int .i64 at_ ∧ geT fr' 7 = .pointer (some ⟨Bk, 0, none⟩) ∧ geT fr' 9 = v1 ∧ geT fr' 10 = .int .i64 (i : Nat) ∧ geT fr' 15 = .int .i64 (L.length : Nat) ∧ geT fr' 16 = .int .i64 (i : Nat) ∧ geT fr' 44 = .bool b ∧ (b = true → (D ≤ g ∨ g + t < D) ∧ i < M.length)) ?_ ?_)
    · intro R' hR'
      by_cases h1 : D ≤ g
      · simp only [o32_7, WO_bin, WO_bu, WO_fieldAddr, fieldAddr_p, WO_load, WO_move, WO_pick, pick_b, bin_leq, bin_lss, WO_nil, PureK_some, WO_guard, want_v, wantB_t, wantB_f, geT_put, evO_tmp, evO_const, keep_nil, keep_cons, keepK_eq, List.map_cons, List.map_nil, Nat.reduceEqDiff, ↓reduceIte, Bool.not_true, eq_self, Bool.false_eq_true, Nat.zero_add, e1, e2, e7, e9, e10, e11, e15, e16, k1, decide_eq_true h1, o1.len]
        intro fr e1 e2 e7 e9 e10 e15 e16 e44
        exact hR' _ _ ⟨_, rfl, e1, e2, e7, e9, e10, e15, e16, e44, fun h => ⟨.inl h1, by have := of_decide_eq_true h; omega⟩⟩
      · by_cases h2 : g + t < D
        · skip
          simp only [o32_7, WO_bin, WO_bu, WO_fieldAddr, fieldAddr_p, WO_load, WO_move, WO_pick, pick_b, bin_add, bin_gtr, bin_leq, bin_lss, WO_nil, PureK_some, WO_guard, want_v, wantB_t, wantB_f, geT_put, evO_tmp, evO_const, keep_nil, keep_cons, keepK_eq, List.map_cons, List.map_nil, Nat.reduceEqDiff, ↓reduceIte, Bool.not_false, eq_self, Bool.false_eq_true, Nat.zero_add, e1, e2, e7, e9, e10, e11, e15, e16, k1, k2, decide_eq_false h1, wrap_i64 (n := g + t) (by omega) (by omega), decide_eq_true h2, o1.len]
          intro fr e1 e2 e7 e9 e10 e15 e16 e44
          exact hR' _ _ ⟨_, rfl, e1, e2, e7, e9, e10, e15, e16, e44, fun h => ⟨.inr h2, by have := of_decide_eq_true h; omega⟩⟩
        · skip
          simp only [o32_7, WO_bin, WO_fieldAddr, fieldAddr_p, WO_load, WO_move, WO_pick, pick_b, bin_add, bin_gtr, bin_leq, WO_nil, PureK_some, WO_guard, want_v, wantB_t, wantB_f, geT_put, evO_tmp, evO_const, keep_nil, keep_cons, keepK_eq, Nat.reduceEqDiff, ↓reduceIte, Bool.not_false, eq_self, Bool.false_eq_true, Nat.zero_add, e1, e2, e7, e9, e10, e11, e15, e16, k1, k2, decide_eq_false h1, wrap_i64 (n := g + t) (by omega) (by omega), decide_eq_false h2]
          intro fr e1 e2 e7 e9 e10 e15 e16 e44
          exact hR' _ _ ⟨false, rfl, e1, e2, e7, e9, e10, e15, e16, e44, fun h => (by cases h)⟩
    clear e1 e2 e7 e9 e10 e11 e15 e16 fr
    rintro fr _ ⟨b, rfl, e1, e2, e7, e9, e10, e15, e16, e44, hbb⟩
    refine SeqK_n ?_
    cases b with
    | false =>
      refine W_cond e44 (fun h => by cases h) (fun _ => W_skip (BlkK_n (SeqK_n ?_)))
      refine W_ops [1, 2, 7, 9, 15, 16] ?_
      simp only [o32_9, WO_bin, WO_move, bin_add, WO_nil, PureK_some, geT_put, evO_tmp, evO_const, keep_nil, keep_cons, keepK_eq, Nat.reduceEqDiff, ↓reduceIte, eq_self, e1, e2, e7, e9, e15, e16, wrap_i64 (n := (i : Int) + 1) (by omega) (by omega)]
      clear e1 e2 e7 e9 e10 e15 e16 e44
      intro fr e1 e2 e7 e9 e15 e16
      exact LoopK_n (m' := m - 1) (by omega) ⟨i + 1, C, by omega, hC, hok, e1, e2, e7, e9, e15, by rw [e16]; rfl, H1⟩
    | true =>
      obtain ⟨hd, hiM⟩ := hbb rfl
      refine W_cond e44 (fun _ => ?_) (fun h => by cases h)
      have oc := (H1.own (List.mem_cons_self ..)).slc
      have A1 := oc.addr (kk := .i64) (i := (i : Int)) rfl hiL
      have A2 := o1.addr (kk := .i64) (i := (i : Int)) rfl hiM
      rw [Nat.mul_one] at A1 A2
      have L2 : loadV s1 none (elP ov i) = some (.float .f64 (M[i]).toNat) := o1.load (flT_get hiM)
      obtain ⟨s3, st3, H3⟩ := H1.store (k := i) (x := .float .f64 (M[i]).toNat) (by rw [flT_len]; omega) rfl
      rw [flT_set] at H3
      refine W_ops [1, 2, 7, 9, 15, 16] ?_
      simp only [o32_8, WO_addrSl, WO_load, WO_move, WO_store, WO_nil, PureK_some, MemK_some, geT_put, puT_none, evO_tmp, keep_nil, keep_cons, keepK_eq, Nat.reduceEqDiff, ↓reduceIte, eq_self, e1, e2, e7, e9, e10, e15, e16, A1, A2, L2, st3]
      clear e1 e2 e7 e9 e10 e15 e16 e44
      intro fr e1 e2 e7 e9 e15 e16
      refine BlkK_n (SeqK_n ?_)
      refine W_ops [1, 2, 7, 9, 15, 16] ?_
      simp only [o32_9, WO_bin, WO_move, bin_add, WO_nil, PureK_some, geT_put, evO_tmp, evO_const, keep_nil, keep_cons, keepK_eq, Nat.reduceEqDiff, ↓reduceIte, eq_self, e1, e2, e7, e9, e15, e16, wrap_i64 (n := (i : Int) + 1) (by omega) (by omega)]
      clear e1 e2 e7 e9 e15 e16
      intro fr e1 e2 e7 e9 e15 e16
      refine LoopK_n (m' := m - 1) (by omega) ⟨i + 1, C.set i M[i], by omega, by rw [List.length_set]; exact hC, fun j hj => ?_, e1, e2, e7, e9, e15, by rw [e16]; rfl, H3⟩
      have hne : i ≠ j := by
        rintro rfl
        unfold cellP at hj
        split at hD <;> omega
      rw [List.getElem?_set_ne hne]
      exact hok j hj
  · refine LoopK_x (BlkK_e (SeqK_n ?_))
    refine W_seq (W_ops [8] ?_)
    simp only [o32_10, WO_move, WO_nil, geT_put, evO_tmp, keep_nil, keep_cons, keepK_eq, ↓reduceIte, eq_self, e9]
    clear e1 e2 e7 e9 e15 e16 e17
    intro fr e8
    refine SeqK_n ?_
    have HF := H.app H1.up1.tail
    simp only [List.cons_append, List.nil_append] at HF
    exact W_ret (Ret1 e8 ⟨C, hC, hok, HF⟩)

end Go.Proofs.Ytfjdihfflghfpaa

/- CfarCells, walked. -/
namespace Go.Proofs.Ytfjdihfflghfpaa
open Go Go.Vam Go.Sort

theorem LvR.ok {L : List UInt64} {at_ way g t nth : Int} {x : Nat} {e : Int} (h : LvR L at_ way g t nth x e) (h1 : L.length ≤ 16384) (h2 : ¬ badN g t nth) (hat : 0 ≤ at_ ∧ at_ < (L.length : Int)) : LV L at_ way g t nth x ∧ e = 0 := by
  unfold LvR at h
  have h4 : lkE L.length g t nth = 0 := by unfold lkE; rw [if_neg (by omega), if_neg h2]
  rw [if_neg (by rw [h4]; simp), if_neg (by omega)] at h
  exact h

theorem and_in (a : Int) : ∃ A, intBitsV .and .i64 a 65535 = some A ∧ 0 ≤ A ∧ A ≤ 65535 := by
  have h : (BitVec.ofInt 64 a &&& BitVec.ofInt 64 65535).toNat ≤ 65535 := by
    rw [BitVec.toNat_and]
    exact Nat.le_trans Nat.and_le_right (by decide)
  refine ⟨((BitVec.ofInt 64 a &&& BitVec.ofInt 64 65535).toNat : Nat), ?_, by omega, by omega⟩
  show some (wrapK .i64 ((BitVec.ofInt 64 a &&& BitVec.ofInt 64 65535).toNat : Nat)) = _
  rw [wrap_i64 (by omega) (by omega)]

theorem tmod_in {A t : Int} (hA : 0 ≤ A) (ht : 1 ≤ t) : 0 ≤ A.tmod t ∧ A.tmod t < t := ⟨Int.tmod_nonneg _ hA, Int.tmod_lt_of_pos _ (by omega)⟩

theorem phi_is {P : Int} {S : Nat} (hS : Pow2 P S) {u : UInt64} (hu : TM u.toNat) : (phi S u).toNat = fmul .f64 u.toNat S := by
  have hlo := hS.lo
  have hhi := hS.hi
  obtain ⟨_, _, _, ex, _⟩ := pow2_sc hS (L := [u]) (fun w hw => by rw [List.mem_singleton.1 hw]; exact hu)
  have key : ∀ s r', r' < infR → fmul .f64 u.toNat S = Ieee.double.word s r' → (phi S u).toNat = fmul .f64 u.toNat S := fun s r' h1 h2 => by rw [phi_word h2 h1, h2]
  have hI : infR = 2047 * 4503599627370496 := rfl
  obtain ⟨v, v1, v2⟩ := pow_rung (k := 774) (by decide)
  have hv : v = 722 * 4503599627370496 + 4503599627370496 := sv_inj (by rw [v1, sv_one])
  obtain ⟨w, w1, w2⟩ := pow_rung (k := 1374) (by decide)
  have hw : w = 1322 * 4503599627370496 + 4503599627370496 := sv_inj (by rw [w1, sv_one])
  obtain ⟨s, r, h1, h2, h3⟩ := hu
  rw [h1] at key ⊢
  rcases h3 with rfl | ⟨h3, h4⟩
  · exact key s 0 h2 (ex s 0 0 h2 h2 (fun _ => by rw [sv_zero, Nat.zero_mul]) (fun _ => by rw [sv_zero, Nat.zero_mul]))
  · have hr : v ≤ r := sv_le_inv (by rw [v1]; exact h3)
    have hrw : r ≤ w := sv_le_inv (by rw [w1]; exact h4)
    by_cases h0 : 0 ≤ P
    · have hr' : r + P.toNat * 4503599627370496 < infR := by omega
      exact key s _ hr' (ex s r _ h2 hr' (fun _ => sv_shift (by omega)) (fun h => by omega))
    · obtain ⟨r', hr'⟩ : ∃ r', r = r' + (-P).toNat * 4503599627370496 := ⟨r - (-P).toNat * 4503599627370496, by omega⟩
      have hs : sv r = sv r' * twoP (-P).toNat := by rw [hr']; exact sv_shift (by omega)
      exact key s r' (by omega) (ex s r r' h2 (by omega) (fun h => by omega) (fun _ => hs))

theorem blT_get {bs : List Bool} {i : Nat} {b : Bool} (h : bs[i]? = some b) : (blT bs)[i]? = some (.bool b) := by unfold blT; rw [List.getElem?_map, h]; rfl


set_option maxHeartbeats 8000000 in
theorem run8 {X : Ctx} (hX : X.fns = fnsOf Try.prog) (ho : ∀ f args, f ≠ 10 ∧ f ≠ 24 → X.orc f args = none) (hw : X.orc 10 [] = some (.bool true)) {s : Mm} {v ov : Value} {L M : List UInt64} {way g t nth at_ P a_ b_ : Int} {times : Nat} (a : SlC s 1 v L.length (flT L)) (o : SlC s 1 ov M.length (flT M)) (hwy : -128 ≤ way ∧ way ≤ 127) (ht : times < 18446744073709551616) :
    CallP X 8 [v, kV way g t nth times, .int .i64 at_, ov, .int .i64 P, .int .i64 a_, .int .i64 b_] s (fun r _ => r = .bool true) := by
  have hbx := kC_is way g t nth times
  have H1 := (Hold.refl s).new (kC way g t nth times)
  refine CallP_of (hX ▸ ir8_eq) (ho _ _ (by decide)) (Nat.le_of_ble_eq_true rfl) ?_
  refine W_seq (W_ops [0, 2, 3, 4, 5, 6, 8] ?_)
  simp only [o8_0, WO_box, WO_move, WO_nil, geT_put, frame_nil, frame_cons, evO_tmp, evO_const, keep_nil, keep_cons, keepK_eq, Nat.reduceEqDiff, Nat.reduceAdd, ↓reduceIte, eq_self, Nat.zero_add, hbx]
  intro fr e0 e2 e3 e4 e5 e6 e8
  refine SeqK_n ?_
  generalize newAt s (.cells (kC way g t nth times) false) = s1 at H1 ⊢
  generalize s.nxt = Bk at H1 e8
  have lk : ∀ {s'} {l : List HP}, Hold s s' l → HP.cell Bk (kC way g t nth times) ∈ l → loadV s' none (.pointer (some ⟨Bk, 0, none⟩)) = some (.int .i8 way) ∧ loadV s' none (.pointer (some ⟨Bk, 1, none⟩)) = some (.int .i64 g) ∧ loadV s' none (.pointer (some ⟨Bk, 2, none⟩)) = some (.int .i64 t) ∧ loadV s' none (.pointer (some ⟨Bk, 3, none⟩)) = some (.int .i64 nth) ∧ loadV s' none (.pointer (some ⟨Bk, 4, none⟩)) = some (.float .f64 times) := fun h hm =>
    ⟨load_g (o := 0) (h.cell hm), load_g (o := 1) (h.cell hm), load_g (o := 2) (h.cell hm), load_g (o := 3) (h.cell hm), load_g (o := 4) (h.cell hm)⟩
  have lw : ∀ {s'} {l : List HP}, Hold s s' l → HP.cell Bk (kC way g t nth times) ∈ l → loadV s' (some 5) (.pointer (some ⟨Bk, 0, none⟩)) = some (kV way g t nth times) := fun h hm => loadn_all (h.cell hm) rfl
  have works : ∀ {s1 : Mm}, CallP X 10 [] s1 (fun r s' => r = .bool true ∧ s1 = s') := fun {s1} => ⟨_, _, Call_orc hw, rfl, rfl⟩
  refine W_assoc ?_
  -- is it let in?
  refine W_seq (W_opsB [0, 2, 3, 4, 5, 6, 8, 48] (fun fr' s' => ∃ b, geT fr' 0 = v ∧ geT fr' 2 = .int .i64 at_ ∧ geT fr' 3 = ov ∧ geT fr' 4 = .int .i64 P ∧ geT fr' 5 = .int .i64 a_ ∧ geT fr' 6 = .int .i64 b_ ∧ geT fr' 8 = .pointer (some ⟨Bk, 0, none⟩) ∧ geT fr' 48 = .bool b ∧
    (b = false → (L.length ≤ 16384 ∧ ¬ badN g t nth ∧ finT times = true) ∧ 0 ≤ at_ ∧ at_ < (L.length : Int)) ∧ Hold s s' [HP.cell Bk (kC way g t nth times)]) ?_ ?_)
  · intro R' hR'
    simp only [o8_1, WO_call, List.map_nil]
    refine CallK_of works ?_
    rintro _ _ ⟨rfl, rfl⟩
    simp only [WO_call, WO_load, WO_move, WO_un, un_not, PureK_some, WO_guard, want_v, wantB_f, geT_put, evO_tmp, List.map_cons, List.map_nil, Nat.reduceEqDiff, ↓reduceIte, Bool.not_true, Bool.not_false, eq_self, e0, e8, lw H1 (by simp)]
    refine CallK_of (run28 hX ho (a.same H1.same (fun _ _ h => h))) ?_
    rintro _ s2 ⟨b, rfl, hfit, hs2⟩
    have H2 := H1.keep hs2
    cases b with
    | false =>
      simp only [WO_move, WO_pick, pick_b, WO_un, un_not, WO_nil, PureK_some, WO_guard, want_v, wantB_f, geT_put, evO_tmp, evO_const, keep_nil, keep_cons, keepK_eq, Nat.reduceEqDiff, ↓reduceIte, Bool.not_true, Bool.not_false, eq_self, Bool.false_eq_true, e0, e2, e3, e4, e5, e6, e8]
      intro fr e0 e2 e3 e4 e5 e6 e8 e48
      exact hR' _ _ ⟨true, e0, e2, e3, e4, e5, e6, e8, e48, fun h => (by cases h), H2⟩
    | true =>
      by_cases h1 : at_ < 0
      · simp only [WO_bin, WO_move, WO_pick, pick_b, WO_un, un_not, bin_lss, WO_nil, PureK_some, WO_guard, want_v, wantB_f, geT_put, evO_tmp, evO_const, keep_nil, keep_cons, keepK_eq, Nat.reduceEqDiff, ↓reduceIte, Bool.not_true, Bool.not_false, eq_self, Bool.false_eq_true, e0, e2, e3, e4, e5, e6, e8, decide_eq_true h1]
        intro fr e0 e2 e3 e4 e5 e6 e8 e48
        exact hR' _ _ ⟨true, e0, e2, e3, e4, e5, e6, e8, e48, fun h => (by cases h), H2⟩
      · skip
        simp only [WO_bin, WO_bu, WO_move, WO_pick, pick_b, WO_un, un_not, bin_geq, bin_lss, WO_nil, PureK_some, WO_guard, want_v, wantB_f, geT_put, evO_tmp, evO_const, keep_nil, keep_cons, keepK_eq, List.map_cons, List.map_nil, Nat.reduceEqDiff, ↓reduceIte, Bool.not_true, Bool.not_false, eq_self, Bool.false_eq_true, e0, e2, e3, e4, e5, e6, e8, decide_eq_false h1, (a.same H2.same (fun _ _ h => h)).len]
        intro fr e0 e2 e3 e4 e5 e6 e8 e48
        exact hR' _ _ ⟨_, e0, e2, e3, e4, e5, e6, e8, e48, fun h => ⟨hfit rfl, by omega, by have := of_decide_eq_false h; omega⟩, H2⟩
  clear e0 e2 e3 e4 e5 e6 e8 fr H1 s1
  rintro fr s2 ⟨b, e0, e2, e3, e4, e5, e6, e8, e48, hb, H2⟩
  refine SeqK_n ?_
  cases b with
  | true =>
    refine W_seq (W_cond e48 (fun _ => ?_) (fun h => by cases h))
    refine W_seq (W_ops [14] ?_)
    simp only [o8_2, WO_call, List.map_nil]
    refine CallK_of works ?_
    rintro _ _ ⟨rfl, rfl⟩
    simp only [WO_move, WO_nil, geT_put, evO_tmp, keep_nil, keep_cons, keepK_eq, ↓reduceIte, eq_self]
    clear e0 e2 e3 e4 e5 e6 e8 e48
    intro fr e14
    refine SeqK_n ?_
    exact W_ret (SeqK_r (Ret1 e14 rfl))
  | false =>
    obtain ⟨⟨hl, hnb, hfin⟩, hat⟩ := hb rfl
    have hbn : 0 ≤ g ∧ g ≤ 16384 ∧ 1 ≤ t ∧ t ≤ 16384 ∧ 0 ≤ nth := by unfold badN at hnb; omega
    refine W_seq (W_cond e48 (fun h => by cases h) (fun _ => W_skip (SeqK_n ?_)))
    obtain ⟨k0, k1, k2, k3, k4⟩ := lk H2 (by simp)
    refine W_seq (W_ops [0, 2, 3, 4, 5, 6, 8, 15, 16] ?_)
    simp only [o8_3, WO_call, WO_fieldAddr, fieldAddr_p, WO_load, WO_move, PureK_some, geT_put, evO_tmp, List.map_cons, List.map_nil, Nat.reduceEqDiff, ↓reduceIte, eq_self, Nat.zero_add, Nat.add_zero, e0, e2, e8, k0, k1, k2, k3]
    refine CallK_of (run12 hX ho H2 (a.same H2.same (fun _ _ h => h)) hwy) ?_
    rintro _ s3 ⟨x, e, rfl, hx, H3⟩
    simp only [WO_extract, ext_20, ext_21, WO_move, WO_nil, PureK_some, geT_put, evO_tmp, keep_nil, keep_cons, keepK_eq, Nat.reduceEqDiff, ↓reduceIte, eq_self, e0, e2, e3, e4, e5, e6, e8]
    clear e0 e2 e3 e4 e5 e6 e8 e48
    intro fr e0 e2 e3 e4 e5 e6 e8 e15 e16
    refine SeqK_n ?_
    obtain ⟨hxl, rfl⟩ := hx.ok hl hnb hat
    clear k0 k1 k2 k3 k4 H2 s2
    -- other numbers at other places
    obtain ⟨k0, k1, k2, k3, k4⟩ := lk H3 (by simp)
    refine W_seq (W_draw0 [0, 2, 4, 5, 6, 8, 15, 16, 17, 18] rfl ?_)
    simp only [d8_4, WD_call, WD_load, WD_move, DPureK_some, DReadK_some, pastR_nil, joinF_nil, setH_self, geT_put, evO_tmp, List.map_cons, List.map_nil, Nat.reduceEqDiff, Nat.reduceAdd, ↓reduceIte, eq_self, true_and, Nat.zero_add, e0, e2, e3, e8, lw H3 (by simp)]
    refine DCallK_of rfl (run32 hX ho H3 (a.same H3.same (fun _ _ h => h)) (o.same H3.same (fun _ _ h => h)) hl hat hnb) ?_
    rintro cv s4 ⟨C, hC, hcells, H4⟩
    obtain ⟨j0, j1, j2, j3, j4⟩ := lk H4 (by simp)
    simp only [WD_call, WD_fieldAddr, fieldAddr_p, WD_load, WD_move, DPureK_some, DReadK_some, pastR_nil, pastR_cons, joinF_nil, setH_self, Nat.testBit, Nat.reduceShiftRight, Nat.reduceAnd, Nat.reduceBneDiff, List.all_nil, List.all_cons, List.filter_nil, List.filter_cons, sameO_int, bne_self_eq_false, geT_put, evO_tmp, List.map_cons, List.map_nil, Nat.reduceEqDiff, Nat.reduceAdd, ↓reduceIte, Bool.not_true, Bool.and_true, Bool.true_or, eq_self, Bool.false_eq_true, true_and, Nat.zero_add, Nat.add_zero, e2, e8, k0, k1, k2, k3, j0, j1, j2, j3]
    refine DCallK_of rfl (run12 hX ho (L := C) (at_ := at_) (way := way) (g := g) (t := t) (nth := nth) H4 ((H4.own (List.mem_cons_self ..)).slc.inj hC.symm) hwy) ?_
    rintro _ s5 ⟨y, f, rfl, hy, H5⟩
    simp only [WD_extract, ext_20, ext_21, WD_move, WD_nil, DPureK_some, joinF_nil, joinAll_nil, setH_self, Nat.testBit, Nat.reduceShiftRight, Nat.reduceAnd, Nat.reduceBneDiff, List.all_nil, List.all_cons, List.filter_nil, List.filter_cons, geT_put, evO_tmp, keep_nil, keep_cons, keepK_eq, Nat.reduceEqDiff, Nat.reduceAdd, ↓reduceIte, Bool.not_true, Bool.and_true, Bool.true_or, eq_self, Bool.false_eq_true, true_and, e0, e2, e4, e5, e6, e8, e15, e16]
    clear e0 e2 e3 e4 e5 e6 e8 e15 e16
    intro fr e0 e2 e4 e5 e6 e8 e15 e16 e17 e18
    refine SeqK_n ?_
    obtain ⟨hyl, rfl⟩ := hy.ok (by omega) hnb (by omega)
    have hxy : FE x y := LV.same hxl (LV_cells hC hcells hyl)
    clear k0 k1 k2 k3 k4 j0 j1 j2 j3 j4 H3 H4 s3 s4
    replace H5 := H5.tail
    refine W_assoc ?_
    refine W_seq (W_ops [0, 2, 4, 5, 6, 8, 15, 93] ?_)
    simp only [o8_5, WO_bin, WO_call, WO_move, WO_pick, pick_b, bin_neq, PureK_some, WO_guard, want_v, wantB_f, geT_put, evO_tmp, evO_const, List.map_cons, List.map_nil, Nat.reduceEqDiff, ↓reduceIte, Bool.not_true, Bool.not_false, decide_true, eq_self, Bool.false_eq_true, e15, e16, e17, e18]
    refine CallK_of (run33 hX ho hxy) ?_
    rintro _ _ ⟨rfl, rfl⟩
    simp only [WO_pick, pick_b, WO_un, un_not, WO_nil, PureK_some, WO_guard, want_v, wantB_f, geT_put, evO_tmp, evO_const, keep_nil, keep_cons, keepK_eq, Nat.reduceEqDiff, ↓reduceIte, Bool.not_true, Bool.not_false, eq_self, Bool.false_eq_true, e0, e2, e4, e5, e6, e8, e15]
    clear e0 e2 e4 e5 e6 e8 e15 e16 e17 e18
    intro fr e0 e2 e4 e5 e6 e8 e15 e93
    refine SeqK_n ?_
    refine W_seq (W_cond e93 (fun h => absurd h (by decide)) (fun _ => W_skip (SeqK_n ?_)))
    clear hy hyl hxy
    -- two cells swapped
    refine W_seq (W_cutN (fun fr' s' => geT fr' 0 = v ∧ geT fr' 2 = .int .i64 at_ ∧ geT fr' 4 = .int .i64 P ∧ geT fr' 8 = .pointer (some ⟨Bk, 0, none⟩) ∧ geT fr' 15 = .float .f64 x ∧ Hold s s' [HP.cell Bk (kC way g t nth times)]) ?_ ?_)
    · intro R' hR'
      obtain ⟨k0, k1, k2, k3, k4⟩ := lk H5 (by simp)
      refine W_seq (W_ops [0, 2, 4, 5, 6, 8, 15, 96] ?_)
      simp only [o8_7, WO_bin, WO_fieldAddr, fieldAddr_p, WO_load, bin_eql, WO_nil, PureK_some, geT_put, evO_tmp, evO_const, keep_nil, keep_cons, keepK_eq, Nat.reduceEqDiff, ↓reduceIte, eq_self, Nat.add_zero, e0, e2, e4, e5, e6, e8, e15, k0]
      clear e0 e2 e4 e5 e6 e8 e15 e93
      intro fr e0 e2 e4 e5 e6 e8 e15 e96
      refine SeqK_n ?_
      refine W_if e96 (fun h3 => ?_) (fun _ => W_skip (hR' _ _ ⟨e0, e2, e4, e8, e15, H5⟩))
      subst h3
      obtain ⟨v1, s6, ap1, H6⟩ := (H5.nil 1).append (bytes := 8) (a.same H5.same (fun _ _ h => h)).src (by rw [flT_len, Nat.mul_one]) (flT_one L) (by omega) (by decide) (by omega) (by omega) (by omega)
      simp only [Nat.zero_add, List.nil_append] at H6
      refine W_seq (W_ops [0, 2, 4, 5, 6, 8, 15, 19] ?_)
      simp only [o8_8, WO_append, WO_move, WO_nil, MemK_some, geT_put, evO_tmp, evO_const, keep_nil, keep_cons, keepK_eq, Nat.reduceEqDiff, ↓reduceIte, eq_self, e0, e2, e4, e5, e6, e8, e15, ap1]
      clear e0 e2 e4 e5 e6 e8 e15 e96
      intro fr e0 e2 e4 e5 e6 e8 e15 e19
      refine SeqK_n ?_
      clear k0 k1 k2 k3 k4
      obtain ⟨k0, k1, k2, k3, k4⟩ := lk H6 (by simp)
      obtain ⟨A, hA, hA0, hA1⟩ := and_in a_
      obtain ⟨B, hB, hB0, hB1⟩ := and_in b_
      obtain ⟨hA2, hA3⟩ := tmod_in (t := t) hA0 (by omega)
      obtain ⟨hB2, hB3⟩ := tmod_in (t := t) hB0 (by omega)
      have ht0 : ¬ t = 0 := by omega
      obtain ⟨A', hA'⟩ : ∃ A', A' = A.tmod t := ⟨_, rfl⟩
      obtain ⟨B', hB'⟩ : ∃ B', B' = B.tmod t := ⟨_, rfl⟩
      rw [← hA'] at hA2 hA3
      rw [← hB'] at hB2 hB3
      refine W_seq (W_draw0 [0, 2, 4, 8, 15, 19, 20, 21] rfl ?_)
      simp only [d8_9, WD_bin, WD_fieldAddr, fieldAddr_p, WD_load, WD_move, bin_add, bin_and, bin_rem, bin_sub, WD_nil, DPureK_some, DReadK_some, pastR_nil, joinAll_nil, setH_self, geT_put, evO_tmp, evO_const, keep_nil, keep_cons, keepK_eq, Option.map_some, Nat.reduceEqDiff, Nat.reduceAdd, ↓reduceIte, eq_self, true_and, Nat.zero_add, e0, e2, e4, e5, e6, e8, e15, e19, k1, k2, hA, hB, ht0, ← hA', ← hB', wrap_i64 (n := at_ + g) (by omega) (by omega), wrap_i64 (n := at_ + g + 1) (by omega) (by omega), wrap_i64 (n := at_ + g + 1 + A') (by omega) (by omega), wrap_i64 (n := at_ - g) (by omega) (by omega), wrap_i64 (n := at_ - g - 1) (by omega) (by omega), wrap_i64 (n := at_ - g - 1 - B') (by omega) (by omega)]
      clear e0 e2 e4 e5 e6 e8 e15 e19
      intro fr e0 e2 e4 e8 e15 e19 e20 e21
      refine SeqK_n ?_
      have so := (H6.own (List.mem_cons_self ..)).slc
      by_cases h1 : ¬ at_ + g + 1 + A' < (L.length : Int)
      · refine W_seq (W_ops [0, 2, 4, 8, 15, 19, 20, 21, 128] ?_)
        simp only [o8_10, WO_bin, WO_bu, WO_move, WO_pick, pick_b, bin_lss, WO_nil, PureK_some, WO_guard, want_v, wantB_t, geT_put, evO_tmp, evO_const, keep_nil, keep_cons, keepK_eq, List.map_cons, List.map_nil, Nat.reduceEqDiff, ↓reduceIte, eq_self, Bool.false_eq_true, e0, e2, e4, e8, e15, e19, e20, e21, so.len, decide_eq_false h1]
        clear e0 e2 e4 e8 e15 e19 e20 e21
        intro fr e0 e2 e4 e8 e15 e19 e20 e21 e128
        refine SeqK_n ?_
        refine W_cond e128 (fun h => by cases h) (fun _ => W_skip (hR' _ _ ⟨e0, e2, e4, e8, e15, H6.tail⟩))
      replace h1 := Decidable.not_not.1 h1
      by_cases h2 : ¬ 0 ≤ at_ - g - 1 - B'
      · skip
        refine W_seq (W_ops [0, 2, 4, 8, 15, 19, 20, 21, 128] ?_)
        simp only [o8_10, WO_bin, WO_bu, WO_move, WO_pick, pick_b, bin_geq, bin_lss, WO_nil, PureK_some, WO_guard, want_v, wantB_t, geT_put, evO_tmp, evO_const, keep_nil, keep_cons, keepK_eq, List.map_cons, List.map_nil, Nat.reduceEqDiff, ↓reduceIte, eq_self, e0, e2, e4, e8, e15, e19, e20, e21, so.len, decide_eq_true h1, decide_eq_false h2]
        clear e0 e2 e4 e8 e15 e19 e20 e21
        intro fr e0 e2 e4 e8 e15 e19 e20 e21 e128
        refine SeqK_n ?_
        refine W_cond e128 (fun h => by cases h) (fun _ => W_skip (hR' _ _ ⟨e0, e2, e4, e8, e15, H6.tail⟩))
      replace h2 := Decidable.not_not.1 h2
      refine W_seq (W_ops [0, 2, 4, 8, 15, 19, 20, 21, 128] ?_)
      simp only [o8_10, WO_bin, WO_bu, WO_move, WO_pick, pick_b, bin_geq, bin_lss, WO_nil, PureK_some, WO_guard, want_v, wantB_t, geT_put, evO_tmp, evO_const, keep_nil, keep_cons, keepK_eq, List.map_cons, List.map_nil, Nat.reduceEqDiff, ↓reduceIte, eq_self, e0, e2, e4, e8, e15, e19, e20, e21, so.len, decide_eq_true h1, decide_eq_true h2]
      clear e0 e2 e4 e8 e15 e19 e20 e21
      intro fr e0 e2 e4 e8 e15 e19 e20 e21 e128
      refine SeqK_n ?_
      refine W_cond e128 (fun _ => ?_) (fun h => by cases h)
      obtain ⟨i, hi⟩ : ∃ i : Nat, at_ + g + 1 + A' = (i : Nat) := ⟨(at_ + g + 1 + A').toNat, by omega⟩
      obtain ⟨j, hj⟩ : ∃ j : Nat, at_ - g - 1 - B' = (j : Nat) := ⟨(at_ - g - 1 - B').toNat, by omega⟩
      have hiL : i < L.length := by omega
      have hjL : j < L.length := by omega
      have Ai := so.addr (kk := .i64) (i := at_ + g + 1 + A') hi hiL
      have Aj := so.addr (kk := .i64) (i := at_ - g - 1 - B') hj hjL
      rw [Nat.mul_one] at Ai Aj
      have Li : loadV s6 none (elP v1 i) = some (.float .f64 (L[i]).toNat) := so.load (flT_get hiL)
      have Lj : loadV s6 none (elP v1 j) = some (.float .f64 (L[j]).toNat) := so.load (flT_get hjL)
      obtain ⟨s7, st7, H7⟩ := H6.store (k := i) (x := .float .f64 (L[j]).toNat) (by rw [flT_len]; exact hiL) rfl
      rw [flT_set] at H7
      obtain ⟨s8, st8, H8⟩ := H7.store (k := j) (x := .float .f64 (L[i]).toNat) (by rw [flT_len, List.length_set]; exact hjL) rfl
      rw [flT_set] at H8
      refine W_seq (W_draw0 [0, 2, 4, 8, 15, 19] rfl ?_)
      simp only [d8_11, WD_addrSl, WD_load, WD_move, WD_store, WD_nil, DPureK_some, DReadK_some, DActK_some, pastR_nil, preHead_nil, preHead_cons, joinF_nil, joinAll_nil, setH_self, Nat.testBit, Nat.reduceShiftRight, Nat.reduceAnd, Nat.reduceBneDiff, List.all_nil, List.all_cons, List.filter_nil, List.filter_cons, geT_put, puT_none, evO_tmp, keep_nil, keep_cons, keepK_eq, Nat.reduceEqDiff, Nat.reduceAdd, ↓reduceIte, Bool.not_true, Bool.and_true, Bool.true_or, eq_self, Bool.false_eq_true, true_and, Nat.zero_add, e0, e2, e4, e8, e15, e19, e20, e21, Ai, Aj, Li, Lj, st7, st8]
      clear e0 e2 e4 e8 e15 e19 e20 e21 e128
      intro fr e0 e2 e4 e8 e15 e19
      refine SeqK_n ?_
      obtain ⟨j0, j1, j2, j3, j4⟩ := lk H8 (by simp)
      have hlen : ((L.set i L[j]).set j L[i]).length = L.length := by rw [List.length_set, List.length_set]
      refine W_seq (W_ops [0, 2, 4, 8, 15, 17, 18] ?_)
      simp only [o8_12, WO_call, WO_fieldAddr, fieldAddr_p, WO_load, WO_move, PureK_some, geT_put, evO_tmp, List.map_cons, List.map_nil, Nat.reduceEqDiff, ↓reduceIte, eq_self, Nat.zero_add, Nat.add_zero, e2, e8, e19, j0, j1, j2, j3]
      refine CallK_of (run12 hX ho (L := (L.set i L[j]).set j L[i]) H8 ((H8.own (List.mem_cons_self ..)).slc.inj hlen.symm) hwy) ?_
      rintro _ s9 ⟨y, f, rfl, hy, H9⟩
      simp only [WO_extract, ext_20, ext_21, WO_move, WO_nil, PureK_some, geT_put, evO_tmp, keep_nil, keep_cons, keepK_eq, Nat.reduceEqDiff, ↓reduceIte, eq_self, e0, e2, e4, e8, e15]
      clear e0 e2 e4 e8 e15 e19
      intro fr e0 e2 e4 e8 e15 e17 e18
      refine SeqK_n ?_
      obtain ⟨hyl, rfl⟩ := hy.ok (by omega) hnb (by omega)
      have hxy : FE x y := swap_level hbn.1 hbn.2.2.2.2 (by omega) (by omega) hiL hjL hat.1 hxl hyl
      refine W_seq (W_ops [0, 2, 4, 8, 15, 164] ?_)
      simp only [o8_13, WO_bin, WO_call, WO_move, bin_neq, PureK_some, WO_guard, want_v, wantB_f, geT_put, evO_tmp, evO_const, List.map_cons, List.map_nil, Nat.reduceEqDiff, ↓reduceIte, Bool.not_true, Bool.not_false, decide_true, eq_self, e15, e17, e18]
      refine CallK_of (run33 hX ho hxy) ?_
      rintro _ _ ⟨rfl, rfl⟩
      simp only [WO_pick, pick_b, WO_un, un_not, WO_nil, PureK_some, WO_guard, want_v, wantB_f, geT_put, evO_tmp, evO_const, keep_nil, keep_cons, keepK_eq, Nat.reduceEqDiff, ↓reduceIte, Bool.not_true, Bool.not_false, eq_self, Bool.false_eq_true, e0, e2, e4, e8, e15]
      clear e0 e2 e4 e8 e15 e17 e18
      intro fr e0 e2 e4 e8 e15 e164
      refine SeqK_n ?_
      refine W_cond e164 (fun h => absurd h (by decide)) (fun _ => W_skip (hR' _ _ ⟨e0, e2, e4, e8, e15, H9.tail⟩))
    clear e0 e2 e4 e5 e6 e8 e15 e93 fr H5 s5
    rintro fr s5 ⟨e0, e2, e4, e8, e15, H5⟩
    refine SeqK_n ?_
    -- tame numbers, a power of two
    have a5 := a.same H5.same (fun _ _ h => h)
    have k4 := (lk H5 (by simp)).2.2.2.2
    refine W_assoc ?_
    refine W_seq (W_opsB [0, 2, 4, 8, 15, 181] (fun fr' s' => ∃ b, s5 = s' ∧ geT fr' 0 = v ∧ geT fr' 2 = .int .i64 at_ ∧ geT fr' 4 = .int .i64 P ∧ geT fr' 8 = .pointer (some ⟨Bk, 0, none⟩) ∧ geT fr' 15 = .float .f64 x ∧ geT fr' 181 = .bool b ∧ (b = false → (∀ u ∈ L, TM u.toNat) ∧ TM times ∧ -100 ≤ P ∧ P ≤ 100)) ?_ ?_)
    · intro R' hR'
      simp only [o8_15, WO_call, WO_move, geT_put, evO_tmp, List.map_cons, List.map_nil, ↓reduceIte, eq_self, e0]
      refine CallK_of (run31t hX ho a5 (by omega)) ?_
      rintro _ _ ⟨b, rfl, hb, rfl⟩
      cases b with
      | false =>
        simp only [WO_move, WO_pick, pick_b, WO_un, un_not, WO_nil, PureK_some, WO_guard, want_v, wantB_f, geT_put, evO_tmp, evO_const, keep_nil, keep_cons, keepK_eq, Nat.reduceEqDiff, ↓reduceIte, Bool.not_true, Bool.not_false, eq_self, Bool.false_eq_true, e0, e2, e4, e8, e15]
        intro fr e0 e2 e4 e8 e15 e181
        exact hR' _ _ ⟨true, rfl, e0, e2, e4, e8, e15, e181, fun h => (by cases h)⟩
      | true =>
        simp only [WO_call, WO_fieldAddr, fieldAddr_p, WO_load, WO_move, WO_un, un_not, PureK_some, WO_guard, want_v, wantB_f, geT_put, evO_tmp, List.map_cons, List.map_nil, Nat.reduceEqDiff, ↓reduceIte, Bool.not_true, Bool.not_false, eq_self, Nat.zero_add, e8, k4]
        refine CallK_of (run34 hX ho ht) ?_
        rintro _ _ ⟨b2, rfl, hb2, rfl⟩
        cases b2 with
        | false =>
          simp only [WO_move, WO_pick, pick_b, WO_un, un_not, WO_nil, PureK_some, WO_guard, want_v, wantB_f, geT_put, evO_tmp, evO_const, keep_nil, keep_cons, keepK_eq, Nat.reduceEqDiff, ↓reduceIte, Bool.not_true, Bool.not_false, eq_self, Bool.false_eq_true, e0, e2, e4, e8, e15]
          intro fr e0 e2 e4 e8 e15 e181
          exact hR' _ _ ⟨true, rfl, e0, e2, e4, e8, e15, e181, fun h => (by cases h)⟩
        | true =>
          by_cases h1 : P < -100
          · simp only [WO_bin, WO_move, WO_pick, pick_b, WO_un, un_not, bin_lss, WO_nil, PureK_some, WO_guard, want_v, wantB_f, geT_put, evO_tmp, evO_const, keep_nil, keep_cons, keepK_eq, Nat.reduceEqDiff, ↓reduceIte, Bool.not_true, Bool.not_false, eq_self, Bool.false_eq_true, e0, e2, e4, e8, e15, decide_eq_true h1]
            intro fr e0 e2 e4 e8 e15 e181
            exact hR' _ _ ⟨true, rfl, e0, e2, e4, e8, e15, e181, fun h => (by cases h)⟩
          · skip
            simp only [WO_bin, WO_move, WO_pick, pick_b, WO_un, un_not, bin_gtr, bin_lss, WO_nil, PureK_some, WO_guard, want_v, wantB_f, geT_put, evO_tmp, evO_const, keep_nil, keep_cons, keepK_eq, Nat.reduceEqDiff, ↓reduceIte, Bool.not_true, Bool.not_false, eq_self, Bool.false_eq_true, e0, e2, e4, e8, e15, decide_eq_false h1]
            intro fr e0 e2 e4 e8 e15 e181
            exact hR' _ _ ⟨_, rfl, e0, e2, e4, e8, e15, e181, fun h => ⟨hb rfl, hb2 rfl, by omega, by have := of_decide_eq_false h; omega⟩⟩
    clear e0 e2 e4 e8 e15 fr k4
    rintro fr _ ⟨b, rfl, e0, e2, e4, e8, e15, e181, hb⟩
    refine SeqK_n ?_
    cases b with
    | true =>
      refine W_seq (W_cond e181 (fun _ => ?_) (fun h => by cases h))
      refine W_seq (W_ops [14] ?_)
      simp only [o8_16, WO_move, WO_nil, geT_put, evO_const, keep_nil, keep_cons, keepK_eq, ↓reduceIte, eq_self]
      clear e0 e2 e4 e8 e15 e181
      intro fr e14
      refine SeqK_n ?_
      exact W_ret (SeqK_r (Ret1 e14 rfl))
    | false =>
      obtain ⟨hL, hT, hP1, hP2⟩ := hb rfl
      refine W_seq (W_cond e181 (fun h => by cases h) (fun _ => W_skip (SeqK_n ?_)))
      refine W_seq (W_ops [0, 2, 8, 15, 22] ?_)
      simp only [o8_17, WO_call, WO_move, geT_put, evO_tmp, evO_const, List.map_cons, List.map_nil, ↓reduceIte, eq_self, e4]
      refine CallK_of (run35 hX ho hP1 hP2) ?_
      rintro _ _ ⟨S, rfl, hS, rfl⟩
      simp only [WO_move, WO_nil, geT_put, evO_tmp, keep_nil, keep_cons, keepK_eq, Nat.reduceEqDiff, ↓reduceIte, eq_self, e0, e2, e8, e15]
      clear e0 e2 e4 e8 e15 e181
      intro fr e0 e2 e8 e15 e22
      refine SeqK_n ?_
      refine W_seq (W_ops [0, 2, 8, 15, 22, 23] ?_)
      simp only [o8_18, WO_move, WO_nil, geT_put, evO_const, keep_nil, keep_cons, keepK_eq, Nat.reduceEqDiff, ↓reduceIte, eq_self, e0, e2, e8, e15, e22]
      clear e0 e2 e8 e15 e22
      intro fr e0 e2 e8 e15 e22 e23
      refine SeqK_n ?_
      refine W_assoc ?_
      refine W_seq (W_ops [0, 2, 8, 15, 22, 23, 184, 185, 186] ?_)
      simp only [o8_19, WO_bu, WO_move, WO_nil, PureK_some, geT_put, evO_tmp, evO_const, keep_nil, keep_cons, keepK_eq, List.map_cons, List.map_nil, Nat.reduceEqDiff, ↓reduceIte, eq_self, e0, e2, e8, e15, e22, e23, a5.len]
      clear e0 e2 e8 e15 e22 e23
      intro fr e0 e2 e8 e15 e22 e23 e184 e185 e186
      refine SeqK_n ?_
      have hG0 := H5.nil 1
      refine W_seq (W_block (W_loop (fun m fr s1 => ∃ i mv, i + m = L.length ∧ geT fr 0 = v ∧ geT fr 2 = .int .i64 at_ ∧ geT fr 8 = .pointer (some ⟨Bk, 0, none⟩) ∧ geT fr 15 = .float .f64 x ∧ geT fr 22 = .float .f64 S ∧ geT fr 23 = mv ∧ geT fr 184 = v ∧ geT fr 185 = .int .i64 (L.length : Nat) ∧ geT fr 186 = .int .i64 (i : Nat) ∧
        Hold s s1 [HP.own 1 mv i (flT ((L.take i).map (phi S))), HP.cell Bk (kC way g t nth times)]) L.length ⟨0, _, by omega, e0, e2, e8, e15, e22, e23, e184, e185, e186, by simpa [flT] using hG0⟩ ?_))
      clear e0 e2 e8 e15 e22 e23 e184 e185 e186 fr H5 hG0 a5 s5
      rintro m fr s1 ⟨i, mv, hi, e0, e2, e8, e15, e22, e23, e184, e185, e186, H1⟩
      refine W_seq (W_ops [0, 2, 8, 15, 22, 23, 184, 185, 186, 187] ?_)
      simp only [o8_21, WO_bin, bin_lss, WO_nil, PureK_some, geT_put, evO_tmp, keep_nil, keep_cons, keepK_eq, Nat.reduceEqDiff, ↓reduceIte, eq_self, e0, e2, e8, e15, e22, e23, e184, e185, e186]
      clear e0 e2 e8 e15 e22 e23 e184 e185 e186
      intro fr e0 e2 e8 e15 e22 e23 e184 e185 e186 e187
      refine SeqK_n ?_
      refine W_while e187 (fun hlt => ?_) (fun hlt => ?_)
      · have hiL : i < L.length := by omega
        have a1 := a.same H1.same (fun _ _ h => h)
        have A1 := a1.addr (kk := .i64) (i := (i : Int)) rfl hiL
        rw [Nat.mul_one] at A1
        have L1 : loadV s1 none (elP v i) = some (.float .f64 (L[i]).toNat) := a1.load (flT_get hiL)
        have hbs : buildSlV s1 1 [.float .f64 0] 1 [(0, 1, .float .f64 (fmul .f64 (L[i]).toNat S))] = some (.slice (some ⟨s1.nxt, 0, none⟩) 1 1, .cells [.float .f64 (fmul .f64 (L[i]).toNat S)] false) := rfl
        obtain ⟨mv', s3, ap, H3⟩ := H1.push (bytes := 8) (new := [.float .f64 (fmul .f64 (L[i]).toNat S)]) rfl rfl (by omega) (by decide) (by omega) (by omega) (by omega)
        have hnew : flT ((L.take i).map (phi S)) ++ [.float .f64 (fmul .f64 (L[i]).toNat S)] = flT ((L.take (i + 1)).map (phi S)) := by
          rw [← phi_is hS (hL L[i] (List.getElem_mem hiL)), fl_push, List.take_add_one, List.getElem?_eq_getElem hiL, List.map_append]
          rfl
        rw [hnew] at H3
        refine W_seq (W_block ?_)
        refine W_seq (W_ops [0, 2, 8, 15, 22, 23, 25, 184, 185, 186] ?_)
        simp only [o8_22, WO_addrSl, WO_load, WO_move, WO_nil, PureK_some, geT_put, evO_tmp, keep_nil, keep_cons, keepK_eq, Nat.reduceEqDiff, ↓reduceIte, eq_self, e0, e2, e8, e15, e22, e23, e184, e185, e186, A1, L1]
        clear e0 e2 e8 e15 e22 e23 e184 e185 e186 e187
        intro fr e0 e2 e8 e15 e22 e23 e25 e184 e185 e186
        refine SeqK_n ?_
        refine W_ops [0, 2, 8, 15, 22, 23, 184, 185, 186] ?_
        simp only [o8_23, WO_append, WO_bin, WO_buildSlice, WO_move, binf_mul, WO_nil, PureK_some, MemK_some, NewK_some, geT_put, evO_tmp, keep_nil, keep_cons, keepK_eq, List.map_cons, List.map_nil, Nat.reduceEqDiff, ↓reduceIte, eq_self, Nat.mul_one, e0, e2, e8, e15, e22, e23, e25, e184, e185, e186, hbs, ap]
        clear e0 e2 e8 e15 e22 e23 e25 e184 e185 e186
        intro fr e0 e2 e8 e15 e22 e23 e184 e185 e186
        refine BlkK_n (SeqK_n ?_)
        refine W_ops [0, 2, 8, 15, 22, 23, 184, 185, 186] ?_
        simp only [o8_24, WO_bin, WO_move, bin_add, WO_nil, PureK_some, geT_put, evO_tmp, evO_const, keep_nil, keep_cons, keepK_eq, Nat.reduceEqDiff, ↓reduceIte, eq_self, e0, e2, e8, e15, e22, e23, e184, e185, e186, wrap_i64 (n := (i : Int) + 1) (by omega) (by omega)]
        clear e0 e2 e8 e15 e22 e23 e184 e185 e186
        intro fr e0 e2 e8 e15 e22 e23 e184 e185 e186
        exact LoopK_n (m' := m - 1) (by omega) ⟨i + 1, mv', by omega, e0, e2, e8, e15, e22, e23, e184, e185, by rw [e186]; rfl, H3⟩
      · obtain rfl : i = L.length := by omega
        rw [List.take_length] at H1
        refine LoopK_x (BlkK_e (SeqK_n ?_))
        obtain ⟨k0, k1, k2, k3, k4⟩ := lk H1 (by simp)
        refine W_seq (W_ops [0, 8, 15, 17, 18, 22, 23] ?_)
        simp only [o8_25, WO_call, WO_fieldAddr, fieldAddr_p, WO_load, WO_move, PureK_some, geT_put, evO_tmp, List.map_cons, List.map_nil, Nat.reduceEqDiff, ↓reduceIte, eq_self, Nat.zero_add, Nat.add_zero, e2, e8, e23, k0, k1, k2, k3]
        refine CallK_of (run12 hX ho (L := L.map (phi S)) H1 ((H1.own (List.mem_cons_self ..)).slc.inj (List.length_map ..).symm) hwy) ?_
        rintro _ s2 ⟨y, f, rfl, hy, H2⟩
        simp only [WO_extract, ext_20, ext_21, WO_move, WO_nil, PureK_some, geT_put, evO_tmp, keep_nil, keep_cons, keepK_eq, Nat.reduceEqDiff, ↓reduceIte, eq_self, e0, e8, e15, e22, e23]
        clear e0 e2 e8 e15 e22 e23 e184 e185 e186 e187
        intro fr e0 e8 e15 e17 e18 e22 e23
        refine SeqK_n ?_
        obtain ⟨hyl, rfl⟩ := hy.ok (by rw [List.length_map]; exact hl) hnb (by rw [List.length_map]; exact hat)
        have hyx := pow2_level hS hL hl hbn.2.2.2.2 hxl hyl
        subst hyx
        refine W_assoc ?_
        refine W_seq (W_ops [0, 8, 23, 220] ?_)
        simp only [o8_26, WO_bin, WO_call, WO_move, binf_mul, bin_neq, PureK_some, WO_guard, want_v, wantB_f, geT_put, evO_tmp, evO_const, List.map_cons, List.map_nil, Nat.reduceEqDiff, ↓reduceIte, Bool.not_true, Bool.not_false, decide_true, eq_self, e15, e17, e18, e22]
        refine CallK_of (run33 hX ho (.inl rfl)) ?_
        rintro _ _ ⟨rfl, rfl⟩
        simp only [WO_pick, pick_b, WO_un, un_not, WO_nil, PureK_some, WO_guard, want_v, wantB_f, geT_put, evO_tmp, evO_const, keep_nil, keep_cons, keepK_eq, Nat.reduceEqDiff, ↓reduceIte, Bool.not_true, Bool.not_false, eq_self, Bool.false_eq_true, e0, e8, e23]
        clear e0 e8 e15 e17 e18 e22 e23
        intro fr e0 e8 e23 e220
        refine SeqK_n ?_
        refine W_seq (W_cond e220 (fun h => absurd h (by decide)) (fun _ => W_skip (SeqK_n ?_)))
        clear k0 k1 k2 k3 k4 H1 s1
        obtain ⟨k0, k1, k2, k3, k4⟩ := lk H2 (by simp)
        refine W_seq (W_ops [0, 8, 23, 26, 27] ?_)
        simp only [o8_28, WO_call, WO_fieldAddr, fieldAddr_p, WO_load, WO_move, PureK_some, geT_put, evO_tmp, List.map_cons, List.map_nil, Nat.reduceEqDiff, ↓reduceIte, eq_self, Nat.zero_add, Nat.add_zero, e0, e8, k0, k1, k2, k3, k4]
        refine CallK_of (run16 hX ho (times := times) H2 (a.same H2.same (fun _ _ h => h)) hwy) ?_
        rintro _ s3 ⟨cv, bs, e1', rfl, hbs, H3⟩
        simp only [WO_extract, ext_20, ext_21, WO_move, WO_nil, PureK_some, geT_put, evO_tmp, keep_nil, keep_cons, keepK_eq, Nat.reduceEqDiff, ↓reduceIte, eq_self, e0, e8, e23]
        clear e0 e8 e23 e220
        intro fr e0 e8 e23 e26 e27
        refine SeqK_n ?_
        clear k0 k1 k2 k3 k4
        obtain ⟨rfl, hbl, -⟩ := hbs.ok hl hnb hfin
        obtain ⟨k0, k1, k2, k3, k4⟩ := lk H3 (by simp)
        refine W_seq (W_ops [0, 26, 27, 28, 29] ?_)
        simp only [o8_29, WO_call, WO_fieldAddr, fieldAddr_p, WO_load, WO_move, PureK_some, geT_put, evO_tmp, List.map_cons, List.map_nil, Nat.reduceEqDiff, ↓reduceIte, eq_self, Nat.zero_add, Nat.add_zero, e8, e23, k0, k1, k2, k3, k4]
        refine CallK_of (run16 hX ho (L := L.map (phi S)) (times := times) H3 ((H3.up1.own (List.mem_cons_self ..)).slc.inj (List.length_map ..).symm) hwy) ?_
        rintro _ s4 ⟨dv, cs, e2', rfl, hcs, H4⟩
        simp only [WO_extract, ext_20, ext_21, WO_move, WO_nil, PureK_some, geT_put, evO_tmp, keep_nil, keep_cons, keepK_eq, Nat.reduceEqDiff, ↓reduceIte, eq_self, e0, e26, e27]
        clear e0 e8 e23 e26 e27
        intro fr e0 e26 e27 e28 e29
        refine SeqK_n ?_
        clear k0 k1 k2 k3 k4
        obtain ⟨rfl, hcl, -⟩ := hcs.ok (by rw [List.length_map]; exact hl) hnb hfin
        have hbc := pow2_line hS hL hl hnb hfin hT hbs hcs
        subst hbc
        rw [hbl] at H4
        have sd := (H4.own (List.mem_cons_self ..)).slc
        have sc := (H4.up1.own (List.mem_cons_self ..)).slc
        have a4 := a.same H4.same (fun _ _ h => h)
        refine W_assoc ?_
        refine W_seq (W_ops [26, 28, 270] ?_)
        simp only [o8_30, WO_bin, WO_bu, WO_move, WO_pick, pick_b, bin_neq, WO_nil, PureK_some, WO_guard, want_v, wantB_f, geT_put, evO_tmp, evO_const, keep_nil, keep_cons, keepK_eq, List.map_cons, List.map_nil, Nat.reduceEqDiff, ↓reduceIte, Bool.not_true, Bool.not_false, decide_true, eq_self, Bool.false_eq_true, e0, e26, e27, e28, e29, sc.len, sd.len, a4.len]
        clear e0 e26 e27 e28 e29
        intro fr e26 e28 e270
        refine SeqK_n ?_
        refine W_seq (W_cond e270 (fun h => absurd h (by decide)) (fun _ => W_skip (SeqK_n ?_)))
        refine W_assoc ?_
        refine W_seq (W_ops [26, 28, 272, 273] ?_)
        simp only [o8_32, WO_bu, WO_move, WO_nil, PureK_some, geT_put, evO_tmp, evO_const, keep_nil, keep_cons, keepK_eq, List.map_cons, List.map_nil, Nat.reduceEqDiff, ↓reduceIte, eq_self, e26, e28, sc.len]
        clear e26 e28 e270
        intro fr e26 e28 e272 e273
        refine SeqK_n ?_
        refine W_seq (W_block (W_loop (fun m fr s1 => ∃ i, i + m = L.length ∧ s4 = s1 ∧ geT fr 26 = cv ∧ geT fr 28 = dv ∧ geT fr 272 = .int .i64 (L.length : Nat) ∧ geT fr 273 = .int .i64 (i : Nat)) L.length ⟨0, by omega, rfl, e26, e28, e272, e273⟩ ?_))
        clear e26 e28 e272 e273 fr hlt hi m
        rintro m fr _ ⟨i, hi, rfl, e26, e28, e272, e273⟩
        refine W_seq (W_ops [26, 28, 272, 273, 274] ?_)
        simp only [o8_34, WO_bin, bin_lss, WO_nil, PureK_some, geT_put, evO_tmp, keep_nil, keep_cons, keepK_eq, Nat.reduceEqDiff, ↓reduceIte, eq_self, e26, e28, e272, e273]
        clear e26 e28 e272 e273
        intro fr e26 e28 e272 e273 e274
        refine SeqK_n ?_
        refine W_while e274 (fun hlt => ?_) (fun hlt => ?_)
        · have hiL : i < L.length := by omega
          have hib : i < bs.length := by omega
          have A1 := sc.addr (kk := .i64) (i := (i : Int)) rfl hiL
          have A2 := sd.addr (kk := .i64) (i := (i : Int)) rfl hiL
          rw [Nat.mul_one] at A1 A2
          have L1 := sc.load (blT_get (List.getElem?_eq_getElem hib))
          have L2 := sd.load (blT_get (List.getElem?_eq_getElem hib))
          have hee := eqb_self bs[i]
          refine W_seq (W_block ?_)
          refine W_seq (W_ops [26, 28, 30, 272, 273] ?_)
          simp only [o8_35, WO_move, WO_nil, geT_put, evO_tmp, keep_nil, keep_cons, keepK_eq, Nat.reduceEqDiff, ↓reduceIte, eq_self, e26, e28, e272, e273]
          clear e26 e28 e272 e273 e274
          intro fr e26 e28 e30 e272 e273
          refine SeqK_n ?_
          refine W_seq (W_draw0 [26, 28, 272, 273, 284] rfl ?_)
          simp only [d8_36, WD_addrSl, WD_eq, WD_load, WD_move, WD_nil, DPureK_some, DReadK_some, pastR_nil, joinAll_nil, setH_self, geT_put, evO_tmp, keep_nil, keep_cons, keepK_eq, Nat.reduceEqDiff, Nat.reduceAdd, ↓reduceIte, eq_self, true_and, Nat.zero_add, e26, e28, e30, e272, e273, A1, A2, L1, L2, hee]
          clear e26 e28 e30 e272 e273
          intro fr e26 e28 e272 e273 e284
          refine SeqK_n ?_
          refine W_cond e284 (fun h => by cases h) (fun _ => W_skip (BlkK_n (SeqK_n ?_)))
          refine W_ops [26, 28, 272, 273] ?_
          simp only [o8_38, WO_bin, WO_move, bin_add, WO_nil, PureK_some, geT_put, evO_tmp, evO_const, keep_nil, keep_cons, keepK_eq, Nat.reduceEqDiff, ↓reduceIte, eq_self, e26, e28, e272, e273, wrap_i64 (n := (i : Int) + 1) (by omega) (by omega)]
          clear e26 e28 e272 e273 e284
          intro fr e26 e28 e272 e273
          exact LoopK_n (m' := m - 1) (by omega) ⟨i + 1, by omega, rfl, e26, e28, e272, by rw [e273]; rfl⟩
        · refine LoopK_x (BlkK_e (SeqK_n ?_))
          refine W_seq (W_ops [14] ?_)
          simp only [o8_39, WO_move, WO_nil, geT_put, evO_const, keep_nil, keep_cons, keepK_eq, ↓reduceIte, eq_self]
          clear e26 e28 e272 e273 e274
          intro fr e14
          refine SeqK_n ?_
          exact W_ret (Ret1 e14 rfl)

end Go.Proofs.Ytfjdihfflghfpaa

/- CfarCells: its run at any arguments. -/
namespace Go.Proofs.Ytfjdihfflghfpaa
open Go Go.Vam Go.Sort

set_option maxRecDepth 100000 in
theorem runCfarCells {T : Type} {s : Mm} {avs : List Value} {ds : List (DataW T)} (hs : Lt s) (h : AbsL Try.prog s [22, 26, 3, 22, 3, 3, 3] avs ds) : CallP ⟨orcW 10, fnsOf Try.prog⟩ 8 avs s (fun v _ => v = .bool true) := by
  obtain ⟨v0, vs, d0, ds, rfl, rfl, h0, h⟩ := AbsL.cons h
  obtain ⟨v1, vs, d1, ds, rfl, rfl, h1, h⟩ := AbsL.cons h
  obtain ⟨v2, vs, d2, ds, rfl, rfl, h2, h⟩ := AbsL.cons h
  obtain ⟨v3, vs, d3, ds, rfl, rfl, h3, h⟩ := AbsL.cons h
  obtain ⟨v4, vs, d4, ds, rfl, rfl, h4, h⟩ := AbsL.cons h
  obtain ⟨v5, vs, d5, ds, rfl, rfl, h5, h⟩ := AbsL.cons h
  obtain ⟨v6, vs, d6, ds, rfl, rfl, h6, h⟩ := AbsL.cons h
  obtain ⟨rfl, rfl⟩ := AbsL.nil h
  obtain ⟨D, g1, _⟩ := floats_open hs h0
  obtain ⟨E, g3, _⟩ := floats_open hs h3
  obtain ⟨way, g, t, nth, times, rfl, hw, ht⟩ := look_open h1
  unfold AbsV at h2 h4 h5 h6
  rw [Try.underlying3] at h2 h4 h5 h6
  obtain ⟨n2, k, _⟩ := Abs.i Try.underlying3 h2
  cases k
  obtain ⟨n4, k, _⟩ := Abs.i Try.underlying3 h4
  cases k
  obtain ⟨n5, k, _⟩ := Abs.i Try.underlying3 h5
  cases k
  obtain ⟨n6, k, _⟩ := Abs.i Try.underlying3 h6
  cases k
  have hlen : D.toList.length = D.size := by simp
  have hlen2 : E.toList.length = E.size := by simp
  exact run8 (X := ⟨orcW 10, fnsOf Try.prog⟩) rfl (fun f args hf => orcW_other hf.1 args) (orcW_self 10) (L := D.toList) (M := E.toList) (by rw [hlen]; exact g1) (by rw [hlen2]; exact g3) hw ht

end Go.Proofs.Ytfjdihfflghfpaa
