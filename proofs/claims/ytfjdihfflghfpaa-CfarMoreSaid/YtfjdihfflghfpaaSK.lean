/- CfarMore: what it asks of its arguments, walked. -/
import Derived.Test.YtfjdihfflghfpaaNA
import Derived.Test.YtfjdihfflghfpaaSI
import Derived.Test.YtfjdihfflghfpaaCfDIr
namespace Go.Proofs.Ytfjdihfflghfpaa
open Go Go.Vam Go.Sort

theorem sv_2p30 : sv 4742290407621132288 = 1073741824 * oneU := by
  have h : sv (1052 * 4503599627370496 + 4503599627370496) = twoP (52 + 1052) := sv_one
  rw [show 4742290407621132288 = 1052 * 4503599627370496 + 4503599627370496 from rfl, h]
  have e : twoP 30 * twoP 1074 = twoP 1104 := twoP_join (by decide)
  have e2 : twoP 30 = 1073741824 := by decide
  rw [← e, e2, oneU]
theorem sv_1 : sv 4607182418800017408 = oneU := by
  have h : sv (1022 * 4503599627370496 + 4503599627370496) = twoP (52 + 1022) := sv_one
  have e : 52 + 1022 = 1074 := rfl
  rw [show 4607182418800017408 = 1022 * 4503599627370496 + 4503599627370496 from rfl, h, e, oneU]

theorem key_w {x : Nat} (h : x ≤ infR) : fkey x = some (sv x : Int) := by
  have hI : infR = 9218868437227405312 := rfl
  unfold fkey
  rw [Nat.mod_eq_of_lt (by omega), if_pos h, decide_eq_false (by omega)]
  rfl

theorem times_rg {t : Nat} (ht : t < 18446744073709551616) (h : finT t = true) (h2 : (ford .f64 t 0 == some .lt) = false) : ∃ q, Rg t q ∧ q < infR := by
  rw [← fin_two ht] at h
  unfold fin2 at h
  rw [Bool.and_eq_true, Bool.and_eq_true, feq_iff ht ht, Bool.or_eq_true, flt_iffW ht (by decide), feq_iff ht (by decide)] at h
  obtain ⟨⟨a, h1, _⟩, h3, _⟩ := h
  have ha : 0 ≤ a := by
    refine Int.not_lt.1 fun hlt => ?_
    have : (ford .f64 t 0 == some .lt) = true := (flt_iffW ht (by decide)).2 ⟨a, 0, h1, fkey_zero, hlt⟩
    rw [this] at h2; cases h2
  obtain ⟨hr, hsv⟩ := rg_of ht h1 ha
  refine ⟨_, hr, ?_⟩
  have hk : fkey 9218868437227405311 = some (sv 9218868437227405311 : Int) := key_w (by decide)
  have hle : a ≤ (sv 9218868437227405311 : Int) := by
    rcases h3 with ⟨c, d, g1, g2, g3⟩ | ⟨c, g1, g2⟩
    · rw [h1] at g1; rw [hk] at g2; cases g1; cases g2; omega
    · rw [h1] at g1; rw [hk] at g2; cases g1; cases g2; exact Int.le_refl _
  rw [hsv] at hle
  have : t % 9223372036854775808 ≤ 9218868437227405311 := sv_le_inv (by omega)
  have hI : infR = 9218868437227405312 := rfl
  omega

theorem one_le {t q : Nat} (h : Rg t q) (hge : (ford .f64 t 4607182418800017408 == some .gt || ford .f64 t 4607182418800017408 == some .eq) = true) : oneU ≤ sv q := by
  have hk : fkey 4607182418800017408 = some (sv 4607182418800017408 : Int) := key_w (by decide)
  rw [sv_1] at hk
  rw [Bool.or_eq_true, fgt_iff h.lt (by decide), feq_iff h.lt (by decide)] at hge
  have h1 := h.key
  rcases hge with ⟨c, d, g1, g2, g3⟩ | ⟨c, g1, g2⟩
  · rw [h1] at g1; rw [hk] at g2; cases g1; cases g2; omega
  · rw [h1] at g1; rw [hk] at g2
    have := Option.some.inj g1
    have := Option.some.inj g2
    omega

theorem eq_rung {x y r q : Nat} (h : Rg x r) (h' : Rg y q) (he : (ford .f64 x y == some .eq) = true) : r = q := by
  obtain ⟨a, h1, h2⟩ := (feq_iff h.lt h'.lt).1 he
  rw [h.key] at h1; rw [h'.key] at h2
  have := Option.some.inj h1
  have := Option.some.inj h2
  exact sv_inj (by omega)

/-- A number that is whole, as the law asks. -/
theorem whole_wh {x : Nat} (hx : x < 18446744073709551616) (h1 : (ford .f64 x 0 == some .gt || ford .f64 x 0 == some .eq) = true) (h2 : (ford .f64 x 4742290407621132288 == some .lt || ford .f64 x 4742290407621132288 == some .eq) = true) :
    ∃ y, extV 2 [.float .f64 x] = some (.float .f64 y) ∧ ((ford .f64 x y == some .eq) = true → ∃ n, WH x n) := by
  rw [Bool.or_eq_true, fgt_iff hx (by decide), feq_iff hx (by decide)] at h1
  have hk : ∃ a, fkey x = some a ∧ 0 ≤ a := by
    rcases h1 with ⟨c, d, g1, g2, g3⟩ | ⟨c, g1, g2⟩
    · rw [fkey_zero] at g2; cases g2; exact ⟨c, g1, by omega⟩
    · rw [fkey_zero] at g2; cases g2; exact ⟨0, g1, Int.le_refl _⟩
  obtain ⟨a, ha, ha0⟩ := hk
  obtain ⟨hr, hsv⟩ := rg_of hx ha ha0
  have hk2 : fkey 4742290407621132288 = some (sv 4742290407621132288 : Int) := key_w (by decide)
  rw [sv_2p30] at hk2
  rw [Bool.or_eq_true, flt_iffW hx (by decide), feq_iff hx (by decide)] at h2
  generalize x % 9223372036854775808 = r at hr hsv
  have hle : sv r ≤ 1073741824 * oneU := by
    rcases h2 with ⟨c, d, g1, g2, g3⟩ | ⟨c, g1, g2⟩
    · rw [ha] at g1; rw [hk2] at g2
      have := Option.some.inj g1
      have := Option.some.inj g2
      omega
    · rw [ha] at g1; rw [hk2] at g2
      have := Option.some.inj g1
      have := Option.some.inj g2
      omega
  obtain ⟨v, hv⟩ := repr_n (n := 1073741824) (by decide)
  have hvi := few_lt (by decide) hv
  have hri : r < infR := by
    have : r ≤ v := sv_le_inv (by rw [hv]; exact hle)
    omega
  obtain ⟨hri2, s, hw, hs⟩ := hr
  obtain ⟨F, f1, f2, f3⟩ := floor_word hri s
  rw [← hw] at f1
  refine ⟨_, f1, fun he => ?_⟩
  cases s with
  | true =>
    have h0 := hs rfl
    exact ⟨0, by decide, r, ⟨hri2, true, hw, fun _ => h0⟩, by rw [h0, sv_zero, Nat.zero_mul]⟩
  | false =>
    have hF : F ≤ 1073741824 := by
      simp only [Bool.false_eq_true, if_false, sw] at f2
      have h5 : F * oneU ≤ 1073741824 * oneU := by
        have : ((F * oneU : Nat) : Int) ≤ (sv r : Nat) := by rw [Int.natCast_mul]; exact f2
        omega
      exact Nat.le_of_mul_le_mul_right h5 oneU_pos
    obtain ⟨i1, i2⟩ := rungN_int (F := F) (by omega)
    have := eq_rung (⟨hri2, false, hw, fun h => by cases h⟩ : Rg x r) (⟨Nat.le_of_lt i1, false, rfl, fun h => by cases h⟩ : Rg (Ieee.double.word false (rungN F 0)) (rungN F 0)) he
    exact ⟨F, hF, r, ⟨hri2, false, hw, fun h => by cases h⟩, by rw [this]; exact i2⟩


theorem run30 {X : Ctx} (hX : X.fns = fnsOf Try.prog) (ho : ∀ f args, f ≠ 10 ∧ f ≠ 24 → X.orc f args = none) {s : Mm} {x y : Nat} (h : extV 2 [.float .f64 x] = some (.float .f64 y)) : CallP X 30 [.float .f64 x] s (fun r s' => r = .float .f64 y ∧ s = s') := by
  refine CallP_of (hX ▸ ir30_eq) (ho _ _ (by decide)) (Nat.le_of_ble_eq_true rfl) ?_
  refine W_seq (W_ops [0] ?_)
  simp only [o30_0, WO_move, WO_nil, geT_put, frame_nil, frame_cons, evO_const, keep_nil, keep_cons, keepK_eq, Nat.reduceEqDiff, ↓reduceIte, eq_self, Nat.zero_add]
  intro fr e0
  refine SeqK_n ?_
  refine W_seq (W_cond (b := true) rfl (fun _ => ?_) (fun h => by cases h))
  refine W_seq (W_ops [2] ?_)
  simp only [o30_1, WO_ext, WO_move, WO_nil, PureK_some, geT_put, evO_tmp, keep_nil, keep_cons, keepK_eq, List.map_cons, List.map_nil, ↓reduceIte, eq_self, e0, h]
  clear e0
  intro fr e2
  refine SeqK_n ?_
  exact W_ret (SeqK_r (Ret1 e2 ⟨rfl, rfl⟩))

theorem run29 {X : Ctx} (hX : X.fns = fnsOf Try.prog) (ho : ∀ f args, f ≠ 10 ∧ f ≠ 24 → X.orc f args = none) {s : Mm} {x : Nat} (hx : x < 18446744073709551616) : CallP X 29 [.float .f64 x] s (fun r s' => ∃ b, r = .bool b ∧ (b = true → ∃ n, WH x n) ∧ s = s') := by
  refine CallP_of (hX ▸ ir29_eq) (ho _ _ (by decide)) (Nat.le_of_ble_eq_true rfl) ?_
  refine W_seq (W_ops [0] ?_)
  simp only [o29_0, WO_move, WO_nil, geT_put, frame_nil, frame_cons, evO_const, keep_nil, keep_cons, keepK_eq, Nat.reduceEqDiff, ↓reduceIte, eq_self, Nat.zero_add]
  intro fr e0
  refine SeqK_n ?_
  cases h1 : (ford .f64 x 0 == some .gt || ford .f64 x 0 == some .eq) with
  | false =>
    refine W_seq (W_ops [2] ?_)
    simp only [o29_1, WO_bin, WO_move, WO_pick, pick_b, binf_geq, WO_nil, PureK_some, WO_guard, want_v, wantB_t, geT_put, evO_tmp, evO_const, keep_nil, keep_cons, keepK_eq, Nat.reduceEqDiff, ↓reduceIte, eq_self, Bool.false_eq_true, e0, h1]
    clear e0
    intro fr e2
    refine SeqK_n ?_
    exact W_ret (Ret1 e2 ⟨false, rfl, fun h => (by cases h), rfl⟩)
  | true =>
    cases h2 : (ford .f64 x 4742290407621132288 == some .lt || ford .f64 x 4742290407621132288 == some .eq) with
    | false =>
      refine W_seq (W_ops [2] ?_)
      simp only [o29_1, WO_bin, WO_move, WO_pick, pick_b, binf_geq, binf_leq, WO_nil, PureK_some, WO_guard, want_v, wantB_t, geT_put, evO_tmp, evO_const, keep_nil, keep_cons, keepK_eq, Nat.reduceEqDiff, ↓reduceIte, eq_self, Bool.false_eq_true, e0, h1, h2]
      clear e0
      intro fr e2
      refine SeqK_n ?_
      exact W_ret (Ret1 e2 ⟨false, rfl, fun h => (by cases h), rfl⟩)
    | true =>
      obtain ⟨y, hy, hwh⟩ := whole_wh hx h1 h2
      refine W_seq (W_ops [2] ?_)
      simp only [o29_1, WO_bin, WO_call, WO_move, WO_pick, pick_b, binf_geq, binf_leq, PureK_some, WO_guard, want_v, wantB_t, geT_put, evO_tmp, evO_const, List.map_cons, List.map_nil, Nat.reduceEqDiff, ↓reduceIte, eq_self, e0, h1, h2]
      refine CallK_of (run30 hX ho hy) ?_
      rintro _ _ ⟨rfl, rfl⟩
      simp only [WO_bin, WO_move, WO_pick, pick_b, binf_eql, WO_nil, PureK_some, WO_guard, want_v, wantB_t, geT_put, evO_tmp, evO_const, keep_nil, keep_cons, keepK_eq, Nat.reduceEqDiff, ↓reduceIte, eq_self]
      clear e0
      intro fr e2
      refine SeqK_n ?_
      exact W_ret (Ret1 e2 ⟨_, rfl, hwh, rfl⟩)

theorem run31 {X : Ctx} (hX : X.fns = fnsOf Try.prog) (ho : ∀ f args, f ≠ 10 ∧ f ≠ 24 → X.orc f args = none) {s : Mm} {v : Value} {L : List UInt64} (a : SlC s 1 v L.length (flT L)) (hl : L.length ≤ 1048576) : CallP X 31 [v, cmpV 29] s (fun r s' => ∃ b, r = .bool b ∧ (b = true → ∀ x ∈ L, ∃ n, WH x.toNat n) ∧ s = s') := by
  refine CallP_of (hX ▸ ir31_eq) (ho _ _ (by decide)) (Nat.le_of_ble_eq_true rfl) ?_
  refine W_seq (W_ops [0, 1] ?_)
  simp only [o31_0, WO_move, WO_nil, geT_put, frame_nil, frame_cons, evO_const, keep_nil, keep_cons, keepK_eq, Nat.reduceEqDiff, Nat.reduceAdd, ↓reduceIte, eq_self, Nat.zero_add]
  intro fr e0 e1
  refine SeqK_n ?_
  refine W_assoc ?_
  refine W_seq (W_ops [1, 7, 8, 9] ?_)
  simp only [o31_1, WO_bu, WO_move, WO_nil, PureK_some, geT_put, evO_tmp, evO_const, keep_nil, keep_cons, keepK_eq, List.map_cons, List.map_nil, Nat.reduceEqDiff, ↓reduceIte, eq_self, e0, e1, a.len]
  clear e0 e1
  intro fr e1 e7 e8 e9
  refine SeqK_n ?_
  refine W_seq (W_block (W_loop (fun m fr s1 => ∃ i, i + m = L.length ∧ s = s1 ∧ (∀ j (hj : j < L.length), j < i → ∃ n, WH (L[j]).toNat n) ∧ geT fr 1 = cmpV 29 ∧ geT fr 7 = v ∧ geT fr 8 = .int .i64 (L.length : Nat) ∧ geT fr 9 = .int .i64 (i : Nat)) L.length ⟨0, by omega, rfl, fun j hj h => by omega, e1, e7, e8, e9⟩ ?_))
  clear e1 e7 e8 e9 fr
  rintro m fr _ ⟨i, hi, rfl, hok, e1, e7, e8, e9⟩
  refine W_seq (W_ops [1, 7, 8, 9, 10] ?_)
  simp only [o31_3, WO_bin, bin_lss, WO_nil, PureK_some, geT_put, evO_tmp, keep_nil, keep_cons, keepK_eq, Nat.reduceEqDiff, ↓reduceIte, eq_self, e1, e7, e8, e9]
  clear e1 e7 e8 e9
  intro fr e1 e7 e8 e9 e10
  refine SeqK_n ?_
  refine W_while e10 (fun hlt => ?_) (fun hlt => ?_)
  · have hiL : i < L.length := by omega
    have A1 := a.addr (kk := .i64) (i := (i : Int)) rfl hiL
    rw [Nat.mul_one] at A1
    have L1 : loadV s none (elP v i) = some (.float .f64 (L[i]).toNat) := a.load (flT_get hiL)
    refine W_seq (W_block ?_)
    refine W_seq (W_ops [1, 6, 7, 8, 9] ?_)
    simp only [o31_4, WO_addrSl, WO_load, WO_move, WO_nil, PureK_some, geT_put, evO_tmp, keep_nil, keep_cons, keepK_eq, Nat.reduceEqDiff, ↓reduceIte, eq_self, e1, e7, e8, e9, A1, L1]
    clear e1 e7 e8 e9 e10
    intro fr e1 e6 e7 e8 e9
    refine SeqK_n ?_
    refine W_seq (W_ops [1, 7, 8, 9, 16] ?_)
    simp only [o31_5, WO_move, geT_put, evO_tmp, Nat.reduceEqDiff, ↓reduceIte, e1, e6]
    refine WO_callT ?_
    simp only [geT_put, evO_tmp, List.map_cons, List.map_nil, Nat.reduceEqDiff, ↓reduceIte, eq_self, FunK_0, cmpV]
    refine CallK_of (run29 hX ho (UInt64.toNat_lt (L[i]))) ?_
    rintro _ _ ⟨b, rfl, hb, rfl⟩
    simp only [WO_un, un_not, WO_nil, PureK_some, geT_put, evO_tmp, keep_nil, keep_cons, keepK_eq, Nat.reduceEqDiff, ↓reduceIte, eq_self, e1, e7, e8, e9]
    clear e1 e6 e7 e8 e9
    intro fr e1 e7 e8 e9 e16
    refine SeqK_n ?_
    cases b with
    | false =>
      refine W_cond e16 (fun _ => ?_) (fun h => by cases h)
      refine W_seq (W_ops [4] ?_)
      simp only [o31_6, WO_move, WO_nil, geT_put, evO_const, keep_nil, keep_cons, keepK_eq, ↓reduceIte, eq_self]
      clear e1 e7 e8 e9 e16
      intro fr e4
      refine SeqK_n ?_
      exact W_ret (BlkK_r (SeqK_r (LoopK_r (BlkK_r (SeqK_r (Ret1 e4 ⟨false, rfl, fun h => (by cases h), rfl⟩))))))
    | true =>
      refine W_cond e16 (fun h => by cases h) (fun _ => W_skip (BlkK_n (SeqK_n ?_)))
      refine W_ops [1, 7, 8, 9] ?_
      simp only [o31_7, WO_bin, WO_move, bin_add, WO_nil, PureK_some, geT_put, evO_tmp, evO_const, keep_nil, keep_cons, keepK_eq, Nat.reduceEqDiff, ↓reduceIte, eq_self, e1, e7, e8, e9, wrap_i64 (n := (i : Int) + 1) (by omega) (by omega)]
      clear e1 e7 e8 e9 e16
      intro fr e1 e7 e8 e9
      refine LoopK_n (m' := m - 1) (by omega) ⟨i + 1, by omega, rfl, fun j hj h => ?_, e1, e7, e8, by rw [e9]; rfl⟩
      by_cases hji : j = i
      · subst hji; exact hb rfl
      · exact hok j hj (by omega)
  · obtain rfl : i = L.length := by omega
    refine LoopK_x (BlkK_e (SeqK_n ?_))
    refine W_seq (W_ops [4] ?_)
    simp only [o31_8, WO_move, WO_nil, geT_put, evO_const, keep_nil, keep_cons, keepK_eq, ↓reduceIte, eq_self]
    clear e1 e7 e8 e9 e10
    intro fr e4
    refine SeqK_n ?_
    refine W_ret (Ret1 e4 ⟨true, rfl, fun _ x hx => ?_, rfl⟩)
    obtain ⟨j, hj, rfl⟩ := List.mem_iff_getElem.1 hx
    exact hok j hj hj

set_option maxHeartbeats 4000000 in
theorem run28 {X : Ctx} (hX : X.fns = fnsOf Try.prog) (ho : ∀ f args, f ≠ 10 ∧ f ≠ 24 → X.orc f args = none) {s : Mm} {v : Value} {L : List UInt64} {way g t nth : Int} {times : Nat} (a : SlC s 1 v L.length (flT L)) : CallP X 28 [v, kV way g t nth times] s (fun r s' => ∃ b, r = .bool b ∧ (b = true → L.length ≤ 16384 ∧ ¬ badN g t nth ∧ finT times = true) ∧ Same s s' (fun _ => False)) := by
  have hbx := kC_is way g t nth times
  have H1 := (Hold.refl s).new (kC way g t nth times)
  refine CallP_of (hX ▸ ir28_eq) (ho _ _ (by decide)) (Nat.le_of_ble_eq_true rfl) ?_
  refine W_seq (W_ops [0, 3] ?_)
  simp only [o28_0, WO_box, WO_move, WO_nil, geT_put, frame_nil, frame_cons, evO_tmp, evO_const, keep_nil, keep_cons, keepK_eq, Nat.reduceEqDiff, Nat.reduceAdd, ↓reduceIte, eq_self, Nat.zero_add, hbx]
  intro fr e0 e3
  refine SeqK_n ?_
  have lw : loadV (newAt s (.cells (kC way g t nth times) false)) (some 5) (.pointer (some ⟨s.nxt, 0, none⟩)) = some (kV way g t nth times) := loadn_all (H1.cell (List.mem_cons_self ..)) rfl
  generalize newAt s (.cells (kC way g t nth times) false) = s1 at H1 lw ⊢
  generalize s.nxt = Bk at H1 lw e3
  have hfd : (ford .f64 (fsub .f64 times times) 0 == some .eq) = finT times := rfl
  refine W_seq (W_ops [4] ?_)
  simp only [o28_1, WO_bu, WO_call, WO_load, WO_move, PureK_some, geT_put, evO_tmp, List.map_cons, List.map_nil, Nat.reduceEqDiff, ↓reduceIte, eq_self, e0, e3, (a.same H1.same (fun _ _ h => h)).len, lw]
  refine CallK_of (run9 hX ho) ?_
  rintro _ s2 ⟨b, rfl, _, hs2⟩
  have H2 := H1.keep hs2
  have a2 := a.same H2.same (fun _ _ h => h)
  have k1 : loadV s2 none (.pointer (some ⟨Bk, 1, none⟩)) = some (.int .i64 g) := load_g (o := 1) (H2.cell (List.mem_cons_self ..))
  have k2 : loadV s2 none (.pointer (some ⟨Bk, 2, none⟩)) = some (.int .i64 t) := load_g (o := 2) (H2.cell (List.mem_cons_self ..))
  have k3 : loadV s2 none (.pointer (some ⟨Bk, 3, none⟩)) = some (.int .i64 nth) := load_g (o := 3) (H2.cell (List.mem_cons_self ..))
  have k4 : loadV s2 none (.pointer (some ⟨Bk, 4, none⟩)) = some (.float .f64 times) := load_g (o := 4) (H2.cell (List.mem_cons_self ..))
  clear lw H1
  cases b with
  | true =>
    simp only [WO_move, WO_pick, pick_b, WO_un, un_not, WO_nil, PureK_some, WO_guard, want_v, wantB_t, geT_put, evO_tmp, evO_const, keep_nil, keep_cons, keepK_eq, Nat.reduceEqDiff, ↓reduceIte, Bool.not_true, eq_self, Bool.false_eq_true]
    clear e0 e3
    intro fr e4
    refine SeqK_n ?_
    exact W_ret (Ret1 e4 ⟨false, rfl, fun h => (by cases h), H2.same⟩)
  | false =>
    by_cases h1 : ¬ ((L.length : Nat) : Int) ≤ 16384
    · skip
      simp only [WO_bin, WO_bu, WO_move, WO_pick, pick_b, WO_un, un_not, bin_leq, WO_nil, PureK_some, WO_guard, want_v, wantB_t, geT_put, evO_tmp, evO_const, keep_nil, keep_cons, keepK_eq, List.map_cons, List.map_nil, Nat.reduceEqDiff, ↓reduceIte, Bool.not_false, eq_self, Bool.false_eq_true, e0, a2.len, decide_eq_false h1]
      clear e0 e3
      intro fr e4
      refine SeqK_n ?_
      exact W_ret (Ret1 e4 ⟨false, rfl, fun h => (by cases h), H2.same⟩)
    replace h1 := Decidable.not_not.1 h1
    by_cases h2 : ¬ (0 : Int) ≤ g
    · skip
      simp only [WO_bin, WO_bu, WO_fieldAddr, fieldAddr_p, WO_load, WO_move, WO_pick, pick_b, WO_un, un_not, bin_geq, bin_leq, WO_nil, PureK_some, WO_guard, want_v, wantB_t, geT_put, evO_tmp, evO_const, keep_nil, keep_cons, keepK_eq, List.map_cons, List.map_nil, Nat.reduceEqDiff, ↓reduceIte, Bool.not_false, eq_self, Bool.false_eq_true, Nat.zero_add, e0, e3, a2.len, k1, decide_eq_true h1, decide_eq_false h2]
      clear e0 e3
      intro fr e4
      refine SeqK_n ?_
      exact W_ret (Ret1 e4 ⟨false, rfl, fun h => (by cases h), H2.same⟩)
    replace h2 := Decidable.not_not.1 h2
    by_cases h3 : ¬ g ≤ 16384
    · skip
      simp only [WO_bin, WO_bu, WO_fieldAddr, fieldAddr_p, WO_load, WO_move, WO_pick, pick_b, WO_un, un_not, bin_geq, bin_leq, WO_nil, PureK_some, WO_guard, want_v, wantB_t, geT_put, evO_tmp, evO_const, keep_nil, keep_cons, keepK_eq, List.map_cons, List.map_nil, Nat.reduceEqDiff, ↓reduceIte, Bool.not_false, eq_self, Bool.false_eq_true, Nat.zero_add, e0, e3, a2.len, k1, decide_eq_true h1, decide_eq_true h2, decide_eq_false h3]
      clear e0 e3
      intro fr e4
      refine SeqK_n ?_
      exact W_ret (Ret1 e4 ⟨false, rfl, fun h => (by cases h), H2.same⟩)
    replace h3 := Decidable.not_not.1 h3
    by_cases h4 : ¬ (1 : Int) ≤ t
    · skip
      simp only [WO_bin, WO_bu, WO_fieldAddr, fieldAddr_p, WO_load, WO_move, WO_pick, pick_b, WO_un, un_not, bin_geq, bin_leq, WO_nil, PureK_some, WO_guard, want_v, wantB_t, geT_put, evO_tmp, evO_const, keep_nil, keep_cons, keepK_eq, List.map_cons, List.map_nil, Nat.reduceEqDiff, ↓reduceIte, Bool.not_false, eq_self, Bool.false_eq_true, Nat.zero_add, e0, e3, a2.len, k1, k2, decide_eq_true h1, decide_eq_true h2, decide_eq_true h3, decide_eq_false h4]
      clear e0 e3
      intro fr e4
      refine SeqK_n ?_
      exact W_ret (Ret1 e4 ⟨false, rfl, fun h => (by cases h), H2.same⟩)
    replace h4 := Decidable.not_not.1 h4
    by_cases h5 : ¬ t ≤ 16384
    · skip
      simp only [WO_bin, WO_bu, WO_fieldAddr, fieldAddr_p, WO_load, WO_move, WO_pick, pick_b, WO_un, un_not, bin_geq, bin_leq, WO_nil, PureK_some, WO_guard, want_v, wantB_t, geT_put, evO_tmp, evO_const, keep_nil, keep_cons, keepK_eq, List.map_cons, List.map_nil, Nat.reduceEqDiff, ↓reduceIte, Bool.not_false, eq_self, Bool.false_eq_true, Nat.zero_add, e0, e3, a2.len, k1, k2, decide_eq_true h1, decide_eq_true h2, decide_eq_true h3, decide_eq_true h4, decide_eq_false h5]
      clear e0 e3
      intro fr e4
      refine SeqK_n ?_
      exact W_ret (Ret1 e4 ⟨false, rfl, fun h => (by cases h), H2.same⟩)
    replace h5 := Decidable.not_not.1 h5
    by_cases h6 : ¬ (0 : Int) ≤ nth
    · skip
      simp only [WO_bin, WO_bu, WO_fieldAddr, fieldAddr_p, WO_load, WO_move, WO_pick, pick_b, WO_un, un_not, bin_geq, bin_leq, WO_nil, PureK_some, WO_guard, want_v, wantB_t, geT_put, evO_tmp, evO_const, keep_nil, keep_cons, keepK_eq, List.map_cons, List.map_nil, Nat.reduceEqDiff, ↓reduceIte, Bool.not_false, eq_self, Bool.false_eq_true, Nat.zero_add, e0, e3, a2.len, k1, k2, k3, decide_eq_true h1, decide_eq_true h2, decide_eq_true h3, decide_eq_true h4, decide_eq_true h5, decide_eq_false h6]
      clear e0 e3
      intro fr e4
      refine SeqK_n ?_
      exact W_ret (Ret1 e4 ⟨false, rfl, fun h => (by cases h), H2.same⟩)
    replace h6 := Decidable.not_not.1 h6
    by_cases h7 : ¬ nth ≤ 32768
    · skip
      simp only [WO_bin, WO_bu, WO_fieldAddr, fieldAddr_p, WO_load, WO_move, WO_pick, pick_b, WO_un, un_not, bin_geq, bin_leq, WO_nil, PureK_some, WO_guard, want_v, wantB_t, geT_put, evO_tmp, evO_const, keep_nil, keep_cons, keepK_eq, List.map_cons, List.map_nil, Nat.reduceEqDiff, ↓reduceIte, Bool.not_false, eq_self, Bool.false_eq_true, Nat.zero_add, e0, e3, a2.len, k1, k2, k3, decide_eq_true h1, decide_eq_true h2, decide_eq_true h3, decide_eq_true h4, decide_eq_true h5, decide_eq_true h6, decide_eq_false h7]
      clear e0 e3
      intro fr e4
      refine SeqK_n ?_
      exact W_ret (Ret1 e4 ⟨false, rfl, fun h => (by cases h), H2.same⟩)
    replace h7 := Decidable.not_not.1 h7
    simp only [WO_bin, WO_bu, WO_fieldAddr, fieldAddr_p, WO_load, WO_move, WO_pick, pick_b, WO_un, un_not, binf_eql, bin_geq, bin_leq, binf_sub, WO_nil, PureK_some, WO_guard, want_v, wantB_t, geT_put, evO_tmp, evO_const, keep_nil, keep_cons, keepK_eq, List.map_cons, List.map_nil, Nat.reduceEqDiff, ↓reduceIte, Bool.not_false, eq_self, Nat.zero_add, e0, e3, a2.len, k1, k2, k3, k4, hfd, decide_eq_true h1, decide_eq_true h2, decide_eq_true h3, decide_eq_true h4, decide_eq_true h5, decide_eq_true h6, decide_eq_true h7]
    clear e0 e3
    intro fr e4
    refine SeqK_n ?_
    exact W_ret (Ret1 e4 ⟨finT times, rfl, fun h => ⟨by omega, by unfold badN; omega, h⟩, H2.same⟩)

end Go.Proofs.Ytfjdihfflghfpaa

/- CfarMore, walked. -/
namespace Go.Proofs.Ytfjdihfflghfpaa
open Go Go.Vam Go.Sort

open Classical in
/-- The numbers of a list of whole numbers. -/
theorem WL_of {L : List UInt64} (h : ∀ x ∈ L, ∃ n, WH x.toNat n) : ∃ ns, WL L ns :=
  ⟨fun x => if hx : ∃ n, WH x.toNat n then hx.choose else 0, fun x hx => by
    show WH x.toNat (if hx : ∃ n, WH x.toNat n then hx.choose else 0)
    rw [dif_pos (h x hx)]
    exact (h x hx).choose_spec⟩

theorem flT_set {L : List UInt64} {n : Nat} {x : UInt64} : (flT L).set n (.float .f64 x.toNat) = flT (L.set n x) := by unfold flT; rw [List.map_set]

theorem blT_get {bs : List Bool} {i : Nat} {b : Bool} (h : bs[i]? = some b) : (blT bs)[i]? = some (.bool b) := by unfold blT; rw [List.getElem?_map, h]; rfl


set_option maxHeartbeats 8000000 in
theorem run7 {X : Ctx} (hX : X.fns = fnsOf Try.prog) (ho : ∀ f args, f ≠ 10 ∧ f ≠ 24 → X.orc f args = none) (hw : X.orc 10 [] = some (.bool true)) {s : Mm} {v : Value} {L : List UInt64} {way g t nth at_ : Int} {times : Nat} {more : UInt64} (a : SlC s 1 v L.length (flT L)) (hwy : -128 ≤ way ∧ way ≤ 127) (ht : times < 18446744073709551616) :
    CallP X 7 [v, kV way g t nth times, .int .i64 at_, .float .f64 more.toNat] s (fun r _ => r = .bool true) := by
  have hbx := kC_is way g t nth times
  have H1 := (Hold.refl s).new (kC way g t nth times)
  refine CallP_of (hX ▸ ir7_eq) (ho _ _ (by decide)) (Nat.le_of_ble_eq_true rfl) ?_
  refine W_seq (W_ops [0, 2, 3, 5] ?_)
  simp only [o7_0, WO_box, WO_move, WO_nil, geT_put, frame_nil, frame_cons, evO_tmp, evO_const, keep_nil, keep_cons, keepK_eq, Nat.reduceEqDiff, Nat.reduceAdd, ↓reduceIte, eq_self, Nat.zero_add, hbx]
  intro fr e0 e2 e3 e5
  refine SeqK_n ?_
  generalize newAt s (.cells (kC way g t nth times) false) = s1 at H1 ⊢
  generalize s.nxt = Bk at H1 e5
  have lk : ∀ {s'} {l : List HP}, Hold s s' l → HP.cell Bk (kC way g t nth times) ∈ l → loadV s' none (.pointer (some ⟨Bk, 0, none⟩)) = some (.int .i8 way) ∧ loadV s' none (.pointer (some ⟨Bk, 1, none⟩)) = some (.int .i64 g) ∧ loadV s' none (.pointer (some ⟨Bk, 2, none⟩)) = some (.int .i64 t) ∧ loadV s' none (.pointer (some ⟨Bk, 3, none⟩)) = some (.int .i64 nth) ∧ loadV s' none (.pointer (some ⟨Bk, 4, none⟩)) = some (.float .f64 times) := fun h hm =>
    ⟨load_g (o := 0) (h.cell hm), load_g (o := 1) (h.cell hm), load_g (o := 2) (h.cell hm), load_g (o := 3) (h.cell hm), load_g (o := 4) (h.cell hm)⟩
  have lw : loadV s1 (some 5) (.pointer (some ⟨Bk, 0, none⟩)) = some (kV way g t nth times) := loadn_all (H1.cell (List.mem_cons_self ..)) rfl
  have works : ∀ {s1 : Mm}, CallP X 10 [] s1 (fun r s' => r = .bool true ∧ s1 = s') := fun {s1} => ⟨_, _, Call_orc hw, rfl, rfl⟩
  refine W_assoc ?_
  refine W_seq (W_ops [0, 2, 3, 5, 31] ?_)
  simp only [o7_1, WO_call, List.map_nil]
  refine CallK_of works ?_
  rintro _ _ ⟨rfl, rfl⟩
  simp only [WO_call, WO_load, WO_move, WO_un, un_not, PureK_some, WO_guard, want_v, wantB_f, geT_put, evO_tmp, List.map_cons, List.map_nil, Nat.reduceEqDiff, ↓reduceIte, Bool.not_true, Bool.not_false, eq_self, e0, e5, lw]
  refine CallK_of (run28 hX ho (a.same H1.same (fun _ _ h => h))) ?_
  rintro _ s2 ⟨b, rfl, hfit, hs2⟩
  have H2 := H1.keep hs2
  simp only [WO_pick, pick_b, WO_un, un_not, WO_nil, PureK_some, WO_guard, want_v, wantB_f, geT_put, evO_tmp, evO_const, keep_nil, keep_cons, keepK_eq, Nat.reduceEqDiff, ↓reduceIte, Bool.not_false, eq_self, Bool.false_eq_true, e0, e2, e3, e5]
  clear e0 e2 e3 e5
  intro fr e0 e2 e3 e5 e31
  refine SeqK_n ?_
  clear lw
  cases b with
  | false =>
    refine W_seq (W_cond e31 (fun _ => ?_) (fun h => by cases h))
    refine W_seq (W_ops [8] ?_)
    simp only [o7_2, WO_call, List.map_nil]
    refine CallK_of works ?_
    rintro _ _ ⟨rfl, rfl⟩
    simp only [WO_move, WO_nil, geT_put, evO_tmp, keep_nil, keep_cons, keepK_eq, ↓reduceIte, eq_self]
    clear e0 e2 e3 e5 e31
    intro fr e8
    refine SeqK_n ?_
    exact W_ret (SeqK_r (Ret1 e8 rfl))
  | true =>
    obtain ⟨hl, hnb, hfin⟩ := hfit rfl
    refine W_seq (W_cond e31 (fun h => by cases h) (fun _ => W_skip (SeqK_n ?_)))
    clear hs2 H1 s1
    obtain ⟨k0, k1, k2, k3, k4⟩ := lk H2 (by simp)
    refine W_seq (W_ops [0, 2, 3, 5, 9, 10] ?_)
    simp only [o7_3, WO_call, WO_fieldAddr, fieldAddr_p, WO_load, WO_move, PureK_some, geT_put, evO_tmp, List.map_cons, List.map_nil, Nat.reduceEqDiff, ↓reduceIte, eq_self, Nat.zero_add, Nat.add_zero, e0, e5, k0, k1, k2, k3, k4]
    refine CallK_of (run16 hX ho (times := times) H2 (a.same H2.same (fun _ _ h => h)) hwy) ?_
    rintro _ s3 ⟨av, bs, e', rfl, hbs, H3⟩
    simp only [WO_extract, ext_20, ext_21, WO_move, WO_nil, PureK_some, geT_put, evO_tmp, keep_nil, keep_cons, keepK_eq, Nat.reduceEqDiff, ↓reduceIte, eq_self, e0, e2, e3, e5]
    clear e0 e2 e3 e5 e31
    intro fr e0 e2 e3 e5 e9 e10
    refine SeqK_n ?_
    obtain ⟨rfl, hbl, -⟩ := hbs.ok hl hnb hfin
    clear k0 k1 k2 k3 k4 H2 s2
    rw [hbl] at H3
    have a3 := a.same H3.same (fun _ _ h => h)
    have sa := (H3.own (List.mem_cons_self ..)).slc
    refine W_assoc ?_
    refine W_seq (W_ops [0, 2, 3, 5, 9, 56] ?_)
    simp only [o7_4, WO_bin, WO_bu, WO_move, WO_pick, pick_b, bin_neq, WO_nil, PureK_some, WO_guard, want_v, wantB_f, geT_put, evO_tmp, evO_const, keep_nil, keep_cons, keepK_eq, List.map_cons, List.map_nil, Nat.reduceEqDiff, ↓reduceIte, Bool.not_true, Bool.not_false, decide_true, eq_self, Bool.false_eq_true, e0, e2, e3, e5, e9, e10, sa.len, a3.len]
    clear e0 e2 e3 e5 e9 e10
    intro fr e0 e2 e3 e5 e9 e56
    refine SeqK_n ?_
    refine W_seq (W_cond e56 (fun h => absurd h (by decide)) (fun _ => W_skip (SeqK_n ?_)))
    -- more at its place
    refine W_seq (W_cutN (fun fr' s' => geT fr' 0 = v ∧ geT fr' 5 = .pointer (some ⟨Bk, 0, none⟩) ∧ geT fr' 9 = av ∧ Hold s s' [HP.own 1 av L.length (blT bs), HP.cell Bk (kC way g t nth times)]) ?_ ?_)
    · intro R' hR'
      by_cases h1 : ¬ (0 : Int) ≤ at_
      · refine W_seq (W_ops [0, 2, 3, 5, 9, 78] ?_)
        simp only [o7_6, WO_bin, WO_move, WO_pick, pick_b, bin_geq, WO_nil, PureK_some, WO_guard, want_v, wantB_t, geT_put, evO_tmp, evO_const, keep_nil, keep_cons, keepK_eq, Nat.reduceEqDiff, ↓reduceIte, eq_self, Bool.false_eq_true, e0, e2, e3, e5, e9, decide_eq_false h1]
        clear e0 e2 e3 e5 e9 e56
        intro fr e0 e2 e3 e5 e9 e78
        refine SeqK_n ?_
        refine W_cond e78 (fun h => by cases h) (fun _ => W_skip (hR' _ _ ⟨e0, e5, e9, H3⟩))
      replace h1 := Decidable.not_not.1 h1
      by_cases h2 : ¬ at_ < ((L.length : Nat) : Int)
      · skip
        refine W_seq (W_ops [0, 2, 3, 5, 9, 78] ?_)
        simp only [o7_6, WO_bin, WO_bu, WO_move, WO_pick, pick_b, bin_geq, bin_lss, WO_nil, PureK_some, WO_guard, want_v, wantB_t, geT_put, evO_tmp, evO_const, keep_nil, keep_cons, keepK_eq, List.map_cons, List.map_nil, Nat.reduceEqDiff, ↓reduceIte, eq_self, Bool.false_eq_true, e0, e2, e3, e5, e9, decide_eq_true h1, a3.len, decide_eq_false h2]
        clear e0 e2 e3 e5 e9 e56
        intro fr e0 e2 e3 e5 e9 e78
        refine SeqK_n ?_
        refine W_cond e78 (fun h => by cases h) (fun _ => W_skip (hR' _ _ ⟨e0, e5, e9, H3⟩))
      replace h2 := Decidable.not_not.1 h2
      obtain ⟨n, hn⟩ : ∃ n : Nat, at_ = (n : Nat) := ⟨at_.toNat, by omega⟩
      have hnl : n < L.length := by omega
      have A1 := sa.addr (kk := .i64) (i := at_) hn hnl
      rw [Nat.mul_one] at A1
      have hnb' : n < bs.length := by omega
      have L1 : loadV s3 none (elP av n) = some (.bool bs[n]) := sa.load (blT_get (List.getElem?_eq_getElem hnb'))
      cases hb : bs[n] with
      | false =>
        rw [hb] at L1
        refine W_seq (W_ops [0, 2, 3, 5, 9, 78] ?_)
        simp only [o7_6, WO_addrSl, WO_bin, WO_bu, WO_load, WO_move, WO_pick, pick_b, bin_geq, bin_lss, WO_nil, PureK_some, WO_guard, want_v, wantB_t, geT_put, evO_tmp, evO_const, keep_nil, keep_cons, keepK_eq, List.map_cons, List.map_nil, Nat.reduceEqDiff, ↓reduceIte, eq_self, Bool.false_eq_true, e0, e2, e3, e5, e9, decide_eq_true h1, a3.len, decide_eq_true h2, A1, L1]
        clear e0 e2 e3 e5 e9 e56
        intro fr e0 e2 e3 e5 e9 e78
        refine SeqK_n ?_
        refine W_cond e78 (fun h => by cases h) (fun _ => W_skip (hR' _ _ ⟨e0, e5, e9, H3⟩))
      | true =>
        rw [hb] at L1
        have A2 := a3.addr (kk := .i64) (i := at_) hn hnl
        rw [Nat.mul_one] at A2
        have L2 : loadV s3 none (elP v n) = some (.float .f64 (L[n]).toNat) := a3.load (flT_get hnl)
        cases hge : (ford .f64 more.toNat (L[n]).toNat == some .gt || ford .f64 more.toNat (L[n]).toNat == some .eq) with
        | false =>
          refine W_seq (W_ops [0, 2, 3, 5, 9, 78] ?_)
          simp only [o7_6, WO_addrSl, WO_bin, WO_bu, WO_load, WO_move, WO_pick, pick_b, bin_geq, binf_geq, bin_lss, WO_nil, PureK_some, WO_guard, want_v, wantB_t, geT_put, evO_tmp, evO_const, keep_nil, keep_cons, keepK_eq, List.map_cons, List.map_nil, Nat.reduceEqDiff, ↓reduceIte, eq_self, e0, e2, e3, e5, e9, decide_eq_true h1, a3.len, decide_eq_true h2, A1, L1, A2, L2, hge]
          clear e0 e2 e3 e5 e9 e56
          intro fr e0 e2 e3 e5 e9 e78
          refine SeqK_n ?_
          refine W_cond e78 (fun h => by cases h) (fun _ => W_skip (hR' _ _ ⟨e0, e5, e9, H3⟩))
        | true =>
          refine W_seq (W_ops [0, 2, 3, 5, 9, 78] ?_)
          simp only [o7_6, WO_addrSl, WO_bin, WO_bu, WO_load, WO_move, WO_pick, pick_b, bin_geq, binf_geq, bin_lss, WO_nil, PureK_some, WO_guard, want_v, wantB_t, geT_put, evO_tmp, evO_const, keep_nil, keep_cons, keepK_eq, List.map_cons, List.map_nil, Nat.reduceEqDiff, ↓reduceIte, eq_self, e0, e2, e3, e5, e9, decide_eq_true h1, a3.len, decide_eq_true h2, A1, L1, A2, L2, hge]
          clear e0 e2 e3 e5 e9 e56
          intro fr e0 e2 e3 e5 e9 e78
          refine SeqK_n ?_
          refine W_cond e78 (fun _ => ?_) (fun h => by cases h)
          obtain ⟨v1, s4, ap1, H4⟩ := (H3.nil 1).append (bytes := 8) a3.src (by rw [flT_len, Nat.mul_one]) (flT_one L) (by omega) (by decide) (by omega) (by omega) (by omega)
          simp only [Nat.zero_add, List.nil_append] at H4
          refine W_seq (W_ops [0, 2, 3, 5, 9, 11] ?_)
          simp only [o7_7, WO_append, WO_move, WO_nil, MemK_some, geT_put, evO_tmp, evO_const, keep_nil, keep_cons, keepK_eq, Nat.reduceEqDiff, ↓reduceIte, eq_self, e0, e2, e3, e5, e9, ap1]
          clear e0 e2 e3 e5 e9 e78
          intro fr e0 e2 e3 e5 e9 e11
          refine SeqK_n ?_
          obtain ⟨s5, st5, H5⟩ := H4.store (k := n) (x := .float .f64 more.toNat) (by rw [flT_len]; exact hnl) rfl
          rw [flT_set] at H5
          have sm := (H4.own (List.mem_cons_self ..)).slc
          have A3 := sm.addr (kk := .i64) (i := at_) hn hnl
          rw [Nat.mul_one] at A3
          refine W_seq (W_ops [0, 2, 5, 9, 11] ?_)
          simp only [o7_8, WO_addrSl, WO_move, WO_store, WO_nil, PureK_some, MemK_some, geT_put, puT_none, evO_tmp, keep_nil, keep_cons, keepK_eq, Nat.reduceEqDiff, ↓reduceIte, eq_self, e0, e2, e3, e5, e9, e11, A3, st5]
          clear e0 e2 e3 e5 e9 e11
          intro fr e0 e2 e5 e9 e11
          refine SeqK_n ?_
          have sm5 := (H5.own (List.mem_cons_self ..)).slc
          obtain ⟨k0, k1, k2, k3, k4⟩ := lk H5 (by simp)
          refine W_seq (W_ops [0, 2, 5, 9, 12, 13] ?_)
          simp only [o7_9, WO_call, WO_fieldAddr, fieldAddr_p, WO_load, WO_move, PureK_some, geT_put, evO_tmp, List.map_cons, List.map_nil, Nat.reduceEqDiff, ↓reduceIte, eq_self, Nat.zero_add, Nat.add_zero, e5, e11, k0, k1, k2, k3, k4]
          refine CallK_of (run16 hX ho (L := L.set n more) (times := times) H5 (sm5.inj (by rw [List.length_set])) hwy) ?_
          rintro _ s6 ⟨mv, cs, f, rfl, hcs, H6⟩
          simp only [WO_extract, ext_20, ext_21, WO_move, WO_nil, PureK_some, geT_put, evO_tmp, keep_nil, keep_cons, keepK_eq, Nat.reduceEqDiff, ↓reduceIte, eq_self, e0, e2, e5, e9]
          clear e0 e2 e5 e9 e11
          intro fr e0 e2 e5 e9 e12 e13
          refine SeqK_n ?_
          obtain ⟨rfl, hcl, hcn⟩ := more_found hl hnb hfin hbs hcs hnl (by rw [List.getElem?_eq_getElem hnb', hb]) hge
          rw [hcl] at H6
          have sc := (H6.own (List.mem_cons_self ..)).slc
          have A4 := sc.addr (kk := .i64) (i := at_) hn hnl
          rw [Nat.mul_one] at A4
          have L4 : loadV s6 none (elP mv n) = some (.bool true) := sc.load (blT_get hcn)
          refine W_seq (W_ops [0, 5, 9, 115] ?_)
          simp only [o7_10, WO_addrSl, WO_bin, WO_bu, WO_load, WO_move, WO_pick, pick_b, WO_un, un_not, bin_neq, WO_nil, PureK_some, WO_guard, want_v, wantB_f, geT_put, evO_tmp, evO_const, keep_nil, keep_cons, keepK_eq, List.map_cons, List.map_nil, Nat.reduceEqDiff, ↓reduceIte, Bool.not_true, Bool.not_false, decide_true, eq_self, Bool.false_eq_true, e0, e2, e5, e9, e12, e13, sc.len, (a.same H6.same (fun _ _ h => h)).len, A4, L4]
          clear e0 e2 e5 e9 e12 e13
          intro fr e0 e5 e9 e115
          refine SeqK_n ?_
          refine W_cond e115 (fun h => absurd h (by decide)) (fun _ => W_skip (hR' _ _ ⟨e0, e5, e9, H6.tail.tail⟩))
    clear e0 e2 e3 e5 e9 e56 fr H3 a3 sa s3
    rintro fr s3 ⟨e0, e5, e9, H3⟩
    refine SeqK_n ?_
    have a3 := a.same H3.same (fun _ _ h => h)
    have k4 := (lk H3 (by simp)).2.2.2.2
    refine W_seq (W_ops [0, 5, 9, 14] ?_)
    simp only [o7_12, WO_move, WO_nil, geT_put, keep_nil, keep_cons, keepK_eq, Nat.reduceEqDiff, ↓reduceIte, eq_self, e0, e5, e9]
    clear e0 e5 e9
    intro fr e0 e5 e9 e14
    refine SeqK_n ?_
    refine W_assoc ?_
    refine W_seq (W_ops [0, 5, 9, 124] ?_)
    simp only [o7_13, WO_call, WO_move, geT_put, evO_tmp, List.map_cons, List.map_nil, Nat.reduceEqDiff, ↓reduceIte, eq_self, e0, e14]
    refine CallK_of (run31 hX ho a3 (by omega)) ?_
    rintro _ _ ⟨b, rfl, hwh, rfl⟩
    cases b with
    | false =>
      simp only [WO_move, WO_pick, pick_b, WO_un, un_not, WO_nil, PureK_some, WO_guard, want_v, wantB_f, geT_put, evO_tmp, evO_const, keep_nil, keep_cons, keepK_eq, Nat.reduceEqDiff, ↓reduceIte, Bool.not_true, Bool.not_false, eq_self, Bool.false_eq_true, e0, e5, e9]
      clear e0 e5 e9 e14
      intro fr e0 e5 e9 e124
      refine SeqK_n ?_
      refine W_seq (W_cond e124 (fun _ => ?_) (fun h => by cases h))
      refine W_seq (W_ops [8] ?_)
      simp only [o7_14, WO_move, WO_nil, geT_put, evO_const, keep_nil, keep_cons, keepK_eq, ↓reduceIte, eq_self]
      clear e0 e5 e9 e124
      intro fr e8
      refine SeqK_n ?_
      exact W_ret (SeqK_r (Ret1 e8 rfl))
    | true =>
      obtain ⟨ns, hW⟩ := WL_of (hwh rfl)
      cases hts : (ford .f64 times 0 == some .lt) with
      | true =>
        simp only [WO_bin, WO_fieldAddr, fieldAddr_p, WO_load, WO_move, WO_pick, pick_b, WO_un, un_not, binf_lss, WO_nil, PureK_some, WO_guard, want_v, wantB_f, geT_put, evO_tmp, evO_const, keep_nil, keep_cons, keepK_eq, Nat.reduceEqDiff, ↓reduceIte, Bool.not_true, Bool.not_false, eq_self, Bool.false_eq_true, Nat.zero_add, e0, e5, e9, k4, hts]
        clear e0 e5 e9 e14
        intro fr e0 e5 e9 e124
        refine SeqK_n ?_
        refine W_seq (W_cond e124 (fun _ => ?_) (fun h => by cases h))
        refine W_seq (W_ops [8] ?_)
        simp only [o7_14, WO_move, WO_nil, geT_put, evO_const, keep_nil, keep_cons, keepK_eq, ↓reduceIte, eq_self]
        clear e0 e5 e9 e124
        intro fr e8
        refine SeqK_n ?_
        exact W_ret (SeqK_r (Ret1 e8 rfl))
      | false =>
        obtain ⟨q, hq, hqi⟩ := times_rg ht hfin hts
        simp only [WO_bin, WO_fieldAddr, fieldAddr_p, WO_load, WO_move, WO_pick, pick_b, WO_un, un_not, binf_lss, WO_nil, PureK_some, WO_guard, want_v, wantB_f, geT_put, evO_tmp, evO_const, keep_nil, keep_cons, keepK_eq, Nat.reduceEqDiff, ↓reduceIte, Bool.not_true, Bool.not_false, eq_self, Bool.false_eq_true, Nat.zero_add, e0, e5, e9, k4, hts]
        clear e0 e5 e9 e14
        intro fr e0 e5 e9 e124
        refine SeqK_n ?_
        refine W_seq (W_cond e124 (fun h => by cases h) (fun _ => W_skip (SeqK_n ?_)))
        clear k4
        -- the three ways
        obtain ⟨k0, k1, k2, k3, k4⟩ := lk H3 (by simp)
        refine W_seq (W_ops [0, 5, 9, 15, 16] ?_)
        simp only [o7_15, WO_call, WO_fieldAddr, fieldAddr_p, WO_load, WO_move, PureK_some, geT_put, evO_tmp, evO_const, List.map_cons, List.map_nil, Nat.reduceEqDiff, ↓reduceIte, eq_self, Nat.zero_add, e0, e5, k1, k2, k3, k4]
        refine CallK_of (run16 hX ho (way := 1) (times := times) H3 a3 (by decide)) ?_
        rintro _ s4 ⟨gv, G, e1', rfl, hG, H4⟩
        simp only [WO_extract, ext_20, ext_21, WO_move, WO_nil, PureK_some, geT_put, evO_tmp, keep_nil, keep_cons, keepK_eq, Nat.reduceEqDiff, ↓reduceIte, eq_self, e0, e5, e9]
        clear e0 e5 e9 e124
        intro fr e0 e5 e9 e15 e16
        refine SeqK_n ?_
        clear k0 k1 k2 k3 k4
        obtain ⟨rfl, hGl, -⟩ := hG.ok hl hnb hfin
        rw [hGl] at H4
        obtain ⟨k0, k1, k2, k3, k4⟩ := lk H4 (by simp)
        refine W_seq (W_ops [0, 5, 9, 15, 16, 17, 18] ?_)
        simp only [o7_16, WO_call, WO_fieldAddr, fieldAddr_p, WO_load, WO_move, PureK_some, geT_put, evO_tmp, evO_const, List.map_cons, List.map_nil, Nat.reduceEqDiff, ↓reduceIte, eq_self, Nat.zero_add, e0, e5, k1, k2, k3, k4]
        refine CallK_of (run16 hX ho (way := 0) (times := times) H4 (a.same H4.same (fun _ _ h => h)) (by decide)) ?_
        rintro _ s5 ⟨mv, M, e2', rfl, hM, H5⟩
        simp only [WO_extract, ext_20, ext_21, WO_move, WO_nil, PureK_some, geT_put, evO_tmp, keep_nil, keep_cons, keepK_eq, Nat.reduceEqDiff, ↓reduceIte, eq_self, e0, e5, e9, e15, e16]
        clear e0 e5 e9 e15 e16
        intro fr e0 e5 e9 e15 e16 e17 e18
        refine SeqK_n ?_
        clear k0 k1 k2 k3 k4
        obtain ⟨rfl, hMl, -⟩ := hM.ok hl hnb hfin
        rw [hMl] at H5
        obtain ⟨k0, k1, k2, k3, k4⟩ := lk H5 (by simp)
        refine W_seq (W_ops [0, 5, 9, 15, 16, 17, 18, 19, 20] ?_)
        simp only [o7_17, WO_call, WO_fieldAddr, fieldAddr_p, WO_load, WO_move, PureK_some, geT_put, evO_tmp, evO_const, List.map_cons, List.map_nil, Nat.reduceEqDiff, ↓reduceIte, eq_self, Nat.zero_add, e0, e5, k1, k2, k3, k4]
        refine CallK_of (run16 hX ho (way := 2) (times := times) H5 (a.same H5.same (fun _ _ h => h)) (by decide)) ?_
        rintro _ s6 ⟨sv', S, e3', rfl, hS, H6⟩
        simp only [WO_extract, ext_20, ext_21, WO_move, WO_nil, PureK_some, geT_put, evO_tmp, keep_nil, keep_cons, keepK_eq, Nat.reduceEqDiff, ↓reduceIte, eq_self, e0, e5, e9, e15, e16, e17, e18]
        clear e0 e5 e9 e15 e16 e17 e18
        intro fr e0 e5 e9 e15 e16 e17 e18 e19 e20
        refine SeqK_n ?_
        clear k0 k1 k2 k3 k4
        obtain ⟨rfl, hSl, -⟩ := hS.ok hl hnb hfin
        rw [hSl] at H6
        have a6 := a.same H6.same (fun _ _ h => h)
        have sS := (H6.own (List.mem_cons_self ..)).slc
        have sM := (H6.up1.own (List.mem_cons_self ..)).slc
        have sG := (H6.up2.own (List.mem_cons_self ..)).slc
        have sA := (H6.up3.own (List.mem_cons_self ..)).slc
        have k4 := (lk H6 (by simp)).2.2.2.2
        clear H3 H4 H5 a3 s3 s4 s5
        refine W_assoc ?_
        refine W_seq (W_ops [0, 5, 9, 15, 17, 19, 194] ?_)
        simp only [o7_18, WO_bin, WO_bu, WO_move, WO_pick, pick_b, bin_neq, WO_nil, PureK_some, WO_guard, want_v, wantB_f, geT_put, evO_tmp, evO_const, keep_nil, keep_cons, keepK_eq, List.map_cons, List.map_nil, Nat.reduceEqDiff, ↓reduceIte, Bool.not_true, Bool.not_false, decide_true, eq_self, Bool.false_eq_true, e0, e5, e9, e15, e16, e17, e18, e19, e20, sS.len, sM.len, sG.len, a6.len]
        clear e0 e5 e9 e15 e16 e17 e18 e19 e20
        intro fr e0 e5 e9 e15 e17 e19 e194
        refine SeqK_n ?_
        refine W_seq (W_cond e194 (fun h => absurd h (by decide)) (fun _ => W_skip (SeqK_n ?_)))
        refine W_assoc ?_
        refine W_seq (W_ops [0, 5, 9, 15, 17, 19, 196, 197] ?_)
        simp only [o7_20, WO_bu, WO_move, WO_nil, PureK_some, geT_put, evO_tmp, evO_const, keep_nil, keep_cons, keepK_eq, List.map_cons, List.map_nil, Nat.reduceEqDiff, ↓reduceIte, eq_self, e0, e5, e9, e15, e17, e19, a6.len]
        clear e0 e5 e9 e15 e17 e19 e194
        intro fr e0 e5 e9 e15 e17 e19 e196 e197
        refine SeqK_n ?_
        refine W_seq (W_block (W_loop (fun m fr s1 => ∃ i, i + m = L.length ∧ s6 = s1 ∧ geT fr 0 = v ∧ geT fr 5 = .pointer (some ⟨Bk, 0, none⟩) ∧ geT fr 9 = av ∧ geT fr 15 = gv ∧ geT fr 17 = mv ∧ geT fr 19 = sv' ∧ geT fr 196 = .int .i64 (L.length : Nat) ∧ geT fr 197 = .int .i64 (i : Nat)) L.length ⟨0, by omega, rfl, e0, e5, e9, e15, e17, e19, e196, e197⟩ ?_))
        clear e0 e5 e9 e15 e17 e19 e196 e197 fr
        rintro m fr _ ⟨i, hi, rfl, e0, e5, e9, e15, e17, e19, e196, e197⟩
        refine W_seq (W_ops [0, 5, 9, 15, 17, 19, 196, 197, 198] ?_)
        simp only [o7_22, WO_bin, bin_lss, WO_nil, PureK_some, geT_put, evO_tmp, keep_nil, keep_cons, keepK_eq, Nat.reduceEqDiff, ↓reduceIte, eq_self, e0, e5, e9, e15, e17, e19, e196, e197]
        clear e0 e5 e9 e15 e17 e19 e196 e197
        intro fr e0 e5 e9 e15 e17 e19 e196 e197 e198
        refine SeqK_n ?_
        refine W_while e198 (fun hlt => ?_) (fun hlt => ?_)
        · have hiL : i < L.length := by omega
          obtain ⟨x, y, z, hx, hy, hz, hxy, hyz⟩ := three_found hW hl hnb hfin hq hqi hG hM hS hiL
          have A1 := sG.addr (kk := .i64) (i := (i : Int)) rfl hiL
          have A2 := sM.addr (kk := .i64) (i := (i : Int)) rfl hiL
          have A3 := sS.addr (kk := .i64) (i := (i : Int)) rfl hiL
          rw [Nat.mul_one] at A1 A2 A3
          have L1 := sG.load (blT_get hx)
          have L2 := sM.load (blT_get hy)
          have L3 := sS.load (blT_get hz)
          refine W_seq (W_block ?_)
          refine W_seq (W_ops [0, 5, 9, 15, 17, 19, 21, 196, 197] ?_)
          simp only [o7_23, WO_move, WO_nil, geT_put, evO_tmp, keep_nil, keep_cons, keepK_eq, Nat.reduceEqDiff, ↓reduceIte, eq_self, e0, e5, e9, e15, e17, e19, e196, e197]
          clear e0 e5 e9 e15 e17 e19 e196 e197 e198
          intro fr e0 e5 e9 e15 e17 e19 e21 e196 e197
          refine SeqK_n ?_
          refine W_seq (W_opsB [0, 5, 9, 15, 17, 19, 196, 197, 223] (fun fr' s' => s6 = s' ∧ geT fr' 0 = v ∧ geT fr' 5 = .pointer (some ⟨Bk, 0, none⟩) ∧ geT fr' 9 = av ∧ geT fr' 15 = gv ∧ geT fr' 17 = mv ∧ geT fr' 19 = sv' ∧ geT fr' 196 = .int .i64 (L.length : Nat) ∧ geT fr' 197 = .int .i64 (i : Nat) ∧ geT fr' 223 = .bool false) ?_ ?_)
          · intro R' hR'
            cases x with
            | true =>
              obtain rfl := hxy rfl
              obtain rfl := hyz rfl
              simp only [o7_24, WO_addrSl, WO_load, WO_move, WO_pick, pick_b, WO_un, un_not, WO_nil, PureK_some, WO_guard, want_v, wantB_t, wantB_f, geT_put, evO_tmp, evO_const, keep_nil, keep_cons, keepK_eq, Nat.reduceEqDiff, ↓reduceIte, Bool.not_true, Bool.not_false, eq_self, Bool.false_eq_true, e0, e5, e9, e15, e17, e19, e21, e196, e197, A1, L1, A2, L2, A3, L3]
              intro fr e0 e5 e9 e15 e17 e19 e196 e197 e223
              exact hR' _ _ ⟨rfl, e0, e5, e9, e15, e17, e19, e196, e197, e223⟩
            | false =>
              cases y with
              | true =>
                obtain rfl := hyz rfl
                simp only [o7_24, WO_addrSl, WO_load, WO_move, WO_pick, pick_b, WO_un, un_not, WO_nil, PureK_some, WO_guard, want_v, wantB_t, wantB_f, geT_put, evO_tmp, evO_const, keep_nil, keep_cons, keepK_eq, Nat.reduceEqDiff, ↓reduceIte, Bool.not_true, Bool.not_false, eq_self, Bool.false_eq_true, e0, e5, e9, e15, e17, e19, e21, e196, e197, A1, L1, A2, L2, A3, L3]
                intro fr e0 e5 e9 e15 e17 e19 e196 e197 e223
                exact hR' _ _ ⟨rfl, e0, e5, e9, e15, e17, e19, e196, e197, e223⟩
              | false =>
                simp only [o7_24, WO_addrSl, WO_load, WO_move, WO_pick, pick_b, WO_nil, PureK_some, WO_guard, want_v, wantB_t, wantB_f, geT_put, evO_tmp, evO_const, keep_nil, keep_cons, keepK_eq, Nat.reduceEqDiff, ↓reduceIte, Bool.not_false, eq_self, Bool.false_eq_true, e0, e5, e9, e15, e17, e19, e21, e196, e197, A1, L1, A2, L2]
                intro fr e0 e5 e9 e15 e17 e19 e196 e197 e223
                exact hR' _ _ ⟨rfl, e0, e5, e9, e15, e17, e19, e196, e197, e223⟩
          clear e0 e5 e9 e15 e17 e19 e21 e196 e197 fr
          rintro fr _ ⟨rfl, e0, e5, e9, e15, e17, e19, e196, e197, e223⟩
          refine SeqK_n (W_cond e223 (fun h => by cases h) (fun _ => W_skip (BlkK_n (SeqK_n ?_))))
          refine W_ops [0, 5, 9, 15, 17, 19, 196, 197] ?_
          simp only [o7_26, WO_bin, WO_move, bin_add, WO_nil, PureK_some, geT_put, evO_tmp, evO_const, keep_nil, keep_cons, keepK_eq, Nat.reduceEqDiff, ↓reduceIte, eq_self, e0, e5, e9, e15, e17, e19, e196, e197, wrap_i64 (n := (i : Int) + 1) (by omega) (by omega)]
          clear e0 e5 e9 e15 e17 e19 e196 e197 e223
          intro fr e0 e5 e9 e15 e17 e19 e196 e197
          exact LoopK_n (m' := m - 1) (by omega) ⟨i + 1, by omega, rfl, e0, e5, e9, e15, e17, e19, e196, by rw [e197]; rfl⟩
        · refine LoopK_x (BlkK_e (SeqK_n ?_))
          refine W_assoc ?_
          refine W_seq (W_ops [0, 5, 9, 15, 17, 19, 226, 227] ?_)
          simp only [o7_27, WO_bu, WO_move, WO_nil, PureK_some, geT_put, evO_tmp, evO_const, keep_nil, keep_cons, keepK_eq, List.map_cons, List.map_nil, Nat.reduceEqDiff, ↓reduceIte, eq_self, e0, e5, e9, e15, e17, e19, a6.len]
          clear e0 e5 e9 e15 e17 e19 e196 e197 e198
          intro fr e0 e5 e9 e15 e17 e19 e226 e227
          refine SeqK_n ?_
          refine W_seq (W_block (W_loop (fun m fr s1 => ∃ i, i + m = L.length ∧ s6 = s1 ∧ (∀ j (hj : j < L.length) (h0 : 0 < L.length), j < i → (ford .f64 (L[j]).toNat (L[0]).toNat == some .eq) = true) ∧ geT fr 0 = v ∧ geT fr 5 = .pointer (some ⟨Bk, 0, none⟩) ∧ geT fr 9 = av ∧ geT fr 15 = gv ∧ geT fr 17 = mv ∧ geT fr 19 = sv' ∧ geT fr 226 = .int .i64 (L.length : Nat) ∧ geT fr 227 = .int .i64 (i : Nat)) L.length ⟨0, by omega, rfl, fun j hj _ h => by omega, e0, e5, e9, e15, e17, e19, e226, e227⟩ ?_))
          clear e0 e5 e9 e15 e17 e19 e226 e227 fr hlt hi m
          rintro m fr _ ⟨i, hi, rfl, heq, e0, e5, e9, e15, e17, e19, e226, e227⟩
          refine W_seq (W_ops [0, 5, 9, 15, 17, 19, 226, 227, 228] ?_)
          simp only [o7_29, WO_bin, bin_lss, WO_nil, PureK_some, geT_put, evO_tmp, keep_nil, keep_cons, keepK_eq, Nat.reduceEqDiff, ↓reduceIte, eq_self, e0, e5, e9, e15, e17, e19, e226, e227]
          clear e0 e5 e9 e15 e17 e19 e226 e227
          intro fr e0 e5 e9 e15 e17 e19 e226 e227 e228
          refine SeqK_n ?_
          refine W_while e228 (fun hlt => ?_) (fun hlt => ?_)
          · have hiL : i < L.length := by omega
            have h0L : 0 < L.length := by omega
            have A1 := a6.addr (kk := .i64) (i := (i : Int)) rfl hiL
            have A2 := a6.addr (kk := .i64) (i := (0 : Int)) (k := 0) rfl h0L
            rw [Nat.mul_one] at A1 A2
            have L1 := a6.load (flT_get hiL)
            have L2 := a6.load (flT_get h0L)
            refine W_seq (W_block ?_)
            refine W_seq (W_ops [0, 5, 9, 15, 17, 19, 22, 226, 227] ?_)
            simp only [o7_30, WO_move, WO_nil, geT_put, evO_tmp, keep_nil, keep_cons, keepK_eq, Nat.reduceEqDiff, ↓reduceIte, eq_self, e0, e5, e9, e15, e17, e19, e226, e227]
            clear e0 e5 e9 e15 e17 e19 e226 e227 e228
            intro fr e0 e5 e9 e15 e17 e19 e22 e226 e227
            refine SeqK_n ?_
            refine W_seq (W_draw0 [0, 5, 9, 15, 17, 19, 226, 227, 237] rfl ?_)
            simp only [d7_31, WD_addrSl, WD_bin, WD_load, WD_move, binf_neq, WD_nil, DPureK_some, DReadK_some, pastR_nil, joinAll_nil, setH_self, geT_put, evO_tmp, evO_const, keep_nil, keep_cons, keepK_eq, Nat.reduceEqDiff, Nat.reduceAdd, ↓reduceIte, eq_self, true_and, Nat.zero_add, e0, e5, e9, e15, e17, e19, e22, e226, e227, A1, A2, L1, L2]
            clear e0 e5 e9 e15 e17 e19 e22 e226 e227
            intro fr e0 e5 e9 e15 e17 e19 e226 e227 e237
            refine SeqK_n ?_
            cases he : (ford .f64 (L[i]).toNat (L[0]).toNat == some .eq) with
            | false =>
              rw [he] at e237
              refine W_cond e237 (fun _ => ?_) (fun h => by cases h)
              refine W_seq (W_ops [8] ?_)
              simp only [o7_32, WO_move, WO_nil, geT_put, evO_const, keep_nil, keep_cons, keepK_eq, ↓reduceIte, eq_self]
              clear e0 e5 e9 e15 e17 e19 e226 e227 e237
              intro fr e8
              refine SeqK_n ?_
              exact W_ret (BlkK_r (SeqK_r (LoopK_r (BlkK_r (SeqK_r (Ret1 e8 rfl))))))
            | true =>
              rw [he] at e237
              refine W_cond e237 (fun h => by cases h) (fun _ => W_skip (BlkK_n (SeqK_n ?_)))
              refine W_ops [0, 5, 9, 15, 17, 19, 226, 227] ?_
              simp only [o7_33, WO_bin, WO_move, bin_add, WO_nil, PureK_some, geT_put, evO_tmp, evO_const, keep_nil, keep_cons, keepK_eq, Nat.reduceEqDiff, ↓reduceIte, eq_self, e0, e5, e9, e15, e17, e19, e226, e227, wrap_i64 (n := (i : Int) + 1) (by omega) (by omega)]
              clear e0 e5 e9 e15 e17 e19 e226 e227 e237
              intro fr e0 e5 e9 e15 e17 e19 e226 e227
              refine LoopK_n (m' := m - 1) (by omega) ⟨i + 1, by omega, rfl, fun j hj h0 h => ?_, e0, e5, e9, e15, e17, e19, e226, by rw [e227]; rfl⟩
              by_cases hji : j = i
              · subst hji; exact he
              · exact heq j hj h0 (by omega)
          · obtain rfl : i = L.length := by omega
            refine LoopK_x (BlkK_e (SeqK_n ?_))
            refine W_assoc ?_
            refine W_seq (W_ops [5, 9, 15, 17, 19, 240, 241] ?_)
            simp only [o7_34, WO_bu, WO_move, WO_nil, PureK_some, geT_put, evO_tmp, evO_const, keep_nil, keep_cons, keepK_eq, List.map_cons, List.map_nil, Nat.reduceEqDiff, ↓reduceIte, eq_self, e0, e5, e9, e15, e17, e19, a6.len]
            clear e0 e5 e9 e15 e17 e19 e226 e227 e228
            intro fr e5 e9 e15 e17 e19 e240 e241
            refine SeqK_n ?_
            refine W_seq (W_block (W_loop (fun m fr s1 => ∃ i, i + m = L.length ∧ s6 = s1 ∧ geT fr 5 = .pointer (some ⟨Bk, 0, none⟩) ∧ geT fr 9 = av ∧ geT fr 15 = gv ∧ geT fr 17 = mv ∧ geT fr 19 = sv' ∧ geT fr 240 = .int .i64 (L.length : Nat) ∧ geT fr 241 = .int .i64 (i : Nat)) L.length ⟨0, by omega, rfl, e5, e9, e15, e17, e19, e240, e241⟩ ?_))
            clear e5 e9 e15 e17 e19 e240 e241 fr hlt hi m
            rintro m fr _ ⟨i, hi, rfl, e5, e9, e15, e17, e19, e240, e241⟩
            refine W_seq (W_ops [5, 9, 15, 17, 19, 240, 241, 242] ?_)
            simp only [o7_36, WO_bin, bin_lss, WO_nil, PureK_some, geT_put, evO_tmp, keep_nil, keep_cons, keepK_eq, Nat.reduceEqDiff, ↓reduceIte, eq_self, e5, e9, e15, e17, e19, e240, e241]
            clear e5 e9 e15 e17 e19 e240 e241
            intro fr e5 e9 e15 e17 e19 e240 e241 e242
            refine SeqK_n ?_
            refine W_while e242 (fun hlt => ?_) (fun hlt => ?_)
            · have hiL : i < L.length := by omega
              have h0L : 0 < L.length := by omega
              refine W_seq (W_block ?_)
              refine W_seq (W_ops [5, 9, 15, 17, 19, 23, 240, 241] ?_)
              simp only [o7_37, WO_move, WO_nil, geT_put, evO_tmp, keep_nil, keep_cons, keepK_eq, Nat.reduceEqDiff, ↓reduceIte, eq_self, e5, e9, e15, e17, e19, e240, e241]
              clear e5 e9 e15 e17 e19 e240 e241 e242
              intro fr e5 e9 e15 e17 e19 e23 e240 e241
              refine SeqK_n ?_
              refine W_seq (W_opsB [5, 9, 15, 17, 19, 240, 241, 270] (fun fr' s' => s6 = s' ∧ geT fr' 5 = .pointer (some ⟨Bk, 0, none⟩) ∧ geT fr' 9 = av ∧ geT fr' 15 = gv ∧ geT fr' 17 = mv ∧ geT fr' 19 = sv' ∧ geT fr' 240 = .int .i64 (L.length : Nat) ∧ geT fr' 241 = .int .i64 (i : Nat) ∧ geT fr' 270 = .bool false) ?_ ?_)
              · intro R' hR'
                cases hge : (ford .f64 times 4607182418800017408 == some .gt || ford .f64 times 4607182418800017408 == some .eq) with
                | false =>
                  simp only [o7_38, WO_addrSl, WO_bin, WO_fieldAddr, fieldAddr_p, WO_load, WO_move, WO_pick, pick_b, binf_geq, WO_nil, PureK_some, WO_guard, want_v, wantB_t, geT_put, evO_tmp, evO_const, keep_nil, keep_cons, keepK_eq, Nat.reduceEqDiff, ↓reduceIte, eq_self, Bool.false_eq_true, Nat.zero_add, e5, e9, e15, e17, e19, e23, e240, e241, k4, hge]
                  intro fr e5 e9 e15 e17 e19 e240 e241 e270
                  exact hR' _ _ ⟨rfl, e5, e9, e15, e17, e19, e240, e241, e270⟩
                | true =>
                  have hw0 : WH (L[0]'h0L).toNat (ns (L[0]'h0L)) := hW _ (List.getElem_mem h0L)
                  have h5 := one_le hq hge
                  generalize ns (L[0]'h0L) = n0 at hw0
                  obtain ⟨hn0, r0, hr0, hs0⟩ := hw0
                  have hall : ∀ x ∈ L, Rg x.toNat r0 := fun x hx => by
                    obtain ⟨j, hj, rfl⟩ := List.mem_iff_getElem.1 hx
                    obtain ⟨_, r, hr, _⟩ := hW L[j] (List.getElem_mem hj)
                    have := eq_rung hr hr0 (heq j hj h0L hj)
                    rw [← this]; exact hr
                  have B1 := sA.addr (kk := .i64) (i := (i : Int)) rfl hiL
                  have B2 := sG.addr (kk := .i64) (i := (i : Int)) rfl hiL
                  have B3 := sM.addr (kk := .i64) (i := (i : Int)) rfl hiL
                  have B4 := sS.addr (kk := .i64) (i := (i : Int)) rfl hiL
                  rw [Nat.mul_one] at B1 B2 B3 B4
                  have M1 := sA.load (blT_get (none_found hn0 hs0 hall hl hnb hfin hq hqi h5 hbs hiL))
                  have M2 := sG.load (blT_get (none_found hn0 hs0 hall hl hnb hfin hq hqi h5 hG hiL))
                  have M3 := sM.load (blT_get (none_found hn0 hs0 hall hl hnb hfin hq hqi h5 hM hiL))
                  have M4 := sS.load (blT_get (none_found hn0 hs0 hall hl hnb hfin hq hqi h5 hS hiL))
                  simp only [o7_38, WO_addrSl, WO_bin, WO_fieldAddr, fieldAddr_p, WO_load, WO_move, WO_pick, pick_b, binf_geq, WO_nil, PureK_some, WO_guard, want_v, wantB_t, wantB_f, geT_put, evO_tmp, evO_const, keep_nil, keep_cons, keepK_eq, Nat.reduceEqDiff, ↓reduceIte, Bool.not_false, eq_self, Bool.false_eq_true, Nat.zero_add, e5, e9, e15, e17, e19, e23, e240, e241, k4, hge, B1, B2, B3, B4, M1, M2, M3, M4]
                  intro fr e5 e9 e15 e17 e19 e240 e241 e270
                  exact hR' _ _ ⟨rfl, e5, e9, e15, e17, e19, e240, e241, e270⟩
              clear e5 e9 e15 e17 e19 e23 e240 e241 fr
              rintro fr _ ⟨rfl, e5, e9, e15, e17, e19, e240, e241, e270⟩
              refine SeqK_n (W_cond e270 (fun h => by cases h) (fun _ => W_skip (BlkK_n (SeqK_n ?_))))
              refine W_ops [5, 9, 15, 17, 19, 240, 241] ?_
              simp only [o7_40, WO_bin, WO_move, bin_add, WO_nil, PureK_some, geT_put, evO_tmp, evO_const, keep_nil, keep_cons, keepK_eq, Nat.reduceEqDiff, ↓reduceIte, eq_self, e5, e9, e15, e17, e19, e240, e241, wrap_i64 (n := (i : Int) + 1) (by omega) (by omega)]
              clear e5 e9 e15 e17 e19 e240 e241 e270
              intro fr e5 e9 e15 e17 e19 e240 e241
              exact LoopK_n (m' := m - 1) (by omega) ⟨i + 1, by omega, rfl, e5, e9, e15, e17, e19, e240, by rw [e241]; rfl⟩
            · refine LoopK_x (BlkK_e (SeqK_n ?_))
              refine W_seq (W_ops [8] ?_)
              simp only [o7_41, WO_move, WO_nil, geT_put, evO_const, keep_nil, keep_cons, keepK_eq, ↓reduceIte, eq_self]
              clear e5 e9 e15 e17 e19 e240 e241 e242
              intro fr e8
              refine SeqK_n ?_
              exact W_ret (Ret1 e8 rfl)

end Go.Proofs.Ytfjdihfflghfpaa

/- CfarMore: its run at any arguments. -/
namespace Go.Proofs.Ytfjdihfflghfpaa
open Go Go.Vam Go.Sort

set_option maxRecDepth 100000 in
theorem runCfarMore {T : Type} {s : Mm} {avs : List Value} {ds : List (DataW T)} (hs : Lt s) (h : AbsL Try.prog s [22, 26, 3, 24] avs ds) : CallP ⟨orcW 10, fnsOf Try.prog⟩ 7 avs s (fun v _ => v = .bool true) := by
  obtain ⟨v0, vs, d0, ds, rfl, rfl, h0, h⟩ := AbsL.cons h
  obtain ⟨v1, vs, d1, ds, rfl, rfl, h1, h⟩ := AbsL.cons h
  obtain ⟨v2, vs, d2, ds, rfl, rfl, h2, h⟩ := AbsL.cons h
  obtain ⟨v3, vs, d3, ds, rfl, rfl, h3, h⟩ := AbsL.cons h
  obtain ⟨rfl, rfl⟩ := AbsL.nil h
  obtain ⟨D, g1, _⟩ := floats_open hs h0
  obtain ⟨way, g, t, nth, times, rfl, hw, ht⟩ := look_open h1
  unfold AbsV at h2 h3
  rw [Try.underlying3] at h2
  obtain ⟨n, k, _⟩ := Abs.i Try.underlying3 h2
  cases k
  rw [Try.underlying24] at h3
  obtain ⟨m, k, _, w⟩ := Abs.f Try.underlying24 h3
  cases k
  have hm : (UInt64.ofNat m).toNat = m := by rw [UInt64.toNat_ofNat', Nat.mod_eq_of_lt (wfl m w)]
  have hlen : D.toList.length = D.size := by simp
  rw [← hm]
  exact run7 (X := ⟨orcW 10, fnsOf Try.prog⟩) rfl (fun f args hf => orcW_other hf.1 args) (orcW_self 10) (L := D.toList) (by rw [hlen]; exact g1) hw ht

end Go.Proofs.Ytfjdihfflghfpaa
