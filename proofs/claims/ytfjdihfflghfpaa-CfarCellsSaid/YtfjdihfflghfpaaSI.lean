/- Cfar: the document's Level and Line, walked; what both tell is the same. -/
import Derived.Test.YtfjdihfflghfpaaSH
namespace Go.Proofs.Ytfjdihfflghfpaa
open Go Go.Vam Go.Sort

/-- The same float, as far as can be seen. -/
def FE (x y : Nat) : Prop := x = y ∨ (x < 18446744073709551616 ∧ y < 18446744073709551616 ∧ kap x = kap y)

theorem NV.words {d : Array UInt64} {z : Int} {x y : Nat} {e f : Int} (h1 : NV d z x e) (h2 : NV d z y f) : kap x = kap y := (h1.same h2).2

theorem LV.same {L : List UInt64} {at_ way g t nth : Int} {x y : Nat} (h1 : LV L at_ way g t nth x) (h2 : LV L at_ way g t nth y) : FE x y := by
  unfold LV at h1 h2
  split at h1
  · rename_i h
    rw [if_pos h] at h2
    exact .inl (by rw [h1, h2])
  · rename_i h
    rw [if_neg h] at h2
    unfold RV at h1 h2
    split at h1
    · rename_i h3
      rw [if_pos h3] at h2
      exact .inr ⟨h1.1, h2.1, h1.2.words h2.2⟩
    · rename_i h3
      rw [if_neg h3] at h2
      exact .inl (by rw [h1, h2])

theorem nan_fmul {x t : Nat} (h : nanW x = true) : fmul .f64 x t = nanF .f64 := by
  unfold nanW at h
  obtain ⟨s, f, hr⟩ := nanRead (of_decide_eq_true h)
  show fres .f64 (((Ieee.double.read x).product (Ieee.double.read t)).map Ieee.double.write) = _
  rw [hr]
  cases Ieee.double.read t <;> rfl
theorem nan_fsub {x : Nat} (h : nanW x = true) : fsub .f64 x x = nanF .f64 := by
  unfold nanW at h
  obtain ⟨s, f, hr⟩ := nanRead (of_decide_eq_true h)
  show fres .f64 (((Ieee.double.read x).sum (Ieee.double.read x).opposite).map Ieee.double.write) = _
  rw [hr]
  rfl

theorem FE.gt {x y w t : Nat} (h : FE x y) : gtB w (fmul .f64 x t) = gtB w (fmul .f64 y t) := by
  rcases h with rfl | ⟨hx, hy, hk⟩
  · rfl
  · cases nx : nanW x with
    | true =>
      cases ny : nanW y with
      | true => rw [nan_fmul nx, nan_fmul ny]
      | false => have := kap_lt ny; rw [kap_nan nx] at hk; omega
    | false =>
      cases ny : nanW y with
      | true => have := kap_lt nx; rw [kap_nan ny] at hk; omega
      | false => rw [kap_inj hx hy nx ny hk]

theorem LvR.same {L : List UInt64} {at_ way g t nth : Int} {x y : Nat} {e f : Int} (h1 : LvR L at_ way g t nth x e) (h2 : LvR L at_ way g t nth y f) : e = f ∧ FE x y := by
  unfold LvR at h1 h2
  split at h1
  · rename_i h
    rw [if_pos h] at h2
    exact ⟨by rw [h1.2, h2.2], .inl (by rw [h1.1, h2.1])⟩
  · rename_i h
    rw [if_neg h] at h2
    split at h1
    · rename_i h3
      rw [if_pos h3] at h2
      exact ⟨by rw [h1.2, h2.2], .inl (by rw [h1.1, h2.1])⟩
    · rename_i h3
      rw [if_neg h3] at h2
      exact ⟨by rw [h1.2, h2.2], h1.1.same h2.1⟩

theorem LnR.same {L : List UInt64} {way g t nth : Int} {times : Nat} {bs cs : List Bool} {e f : Int} (h1 : LnR L way g t nth times bs e) (h2 : LnR L way g t nth times cs f) : e = f ∧ bs = cs := by
  unfold LnR at h1 h2
  split at h1
  · rename_i h
    rw [if_pos h] at h2
    exact ⟨by rw [h1.2, h2.2], by rw [h1.1, h2.1]⟩
  · rename_i h
    rw [if_neg h] at h2
    split at h1
    · rename_i h3
      rw [if_pos h3] at h2
      exact ⟨by rw [h1.2, h2.2], by rw [h1.1, h2.1]⟩
    · rename_i h3
      rw [if_neg h3] at h2
      obtain ⟨a1, a2, a3⟩ := h1
      obtain ⟨b1, b2, b3⟩ := h2
      refine ⟨by rw [a1, b1], List.ext_getElem? fun i => ?_⟩
      by_cases hi : i < L.length
      · obtain ⟨x, hx, gx⟩ := a3 i hi
        obtain ⟨y, hy, gy⟩ := b3 i hi
        rw [gx, gy, (hx.same hy).gt]
      · rw [List.getElem?_eq_none (by omega), List.getElem?_eq_none (by omega)]

def fin2 (t : Nat) : Bool := (ford .f64 t t == some .eq) && ((ford .f64 t 9218868437227405311 == some .lt || ford .f64 t 9218868437227405311 == some .eq) && (ford .f64 t 18442240474082181119 == some .gt || ford .f64 t 18442240474082181119 == some .eq))

theorem fle_of {x y : Nat} {a b : Int} (hx : x < 18446744073709551616) (hy : y < 18446744073709551616) (h1 : fkey x = some a) (h2 : fkey y = some b) (h : a ≤ b) : (ford .f64 x y == some .lt || ford .f64 x y == some .eq) = true := by
  rw [Bool.or_eq_true]
  by_cases he : a = b
  · exact .inr ((feq_iff hx hy).2 ⟨a, h1, by rw [h2, he]⟩)
  · exact .inl ((flt_iffW hx hy).2 ⟨a, b, h1, h2, by omega⟩)
theorem fge_of {x y : Nat} {a b : Int} (hx : x < 18446744073709551616) (hy : y < 18446744073709551616) (h1 : fkey x = some a) (h2 : fkey y = some b) (h : b ≤ a) : (ford .f64 x y == some .gt || ford .f64 x y == some .eq) = true := by
  rw [Bool.or_eq_true]
  by_cases he : a = b
  · exact .inr ((feq_iff hx hy).2 ⟨a, h1, by rw [h2, he]⟩)
  · exact .inl ((fgt_iff hx hy).2 ⟨a, b, h1, h2, by omega⟩)

theorem fin_two {t : Nat} (ht : t < 18446744073709551616) : fin2 t = finT t := by
  cases nt : nanW t with
  | true =>
    unfold fin2 finT
    have h0 : (ford .f64 (nanF .f64) 0 == some .eq) = false := by decide
    rw [eq_self_is ht, nt, nan_fsub nt, h0]
    rfl
  | false =>
    have hr : t % 9223372036854775808 ≤ infR := by
      unfold nanW at nt
      have := of_decide_eq_false nt
      omega
    by_cases hi : t % 9223372036854775808 = infR
    · have hI : infR = 9218868437227405312 := rfl
      have hc : t = 9218868437227405312 ∨ t = 18442240474082181120 := by omega
      rcases hc with rfl | rfl
      · decide +kernel
      · decide +kernel
    · have hlt : t % 9223372036854775808 < infR := by omega
      have hw := wordOf ht
      have hf : finT t = true := by
        unfold finT
        obtain ⟨z, h1, h2⟩ := sub_rn hlt hlt (decide (9223372036854775808 ≤ t)) (decide (9223372036854775808 ≤ t))
        rw [← hw] at h1
        rw [Int.sub_self] at h1 h2
        have hz : z = 0 := Nat.le_zero.1 (h2.le 0 (by decide))
        rw [h1, hz, if_pos rfl]
        cases decide (9223372036854775808 ≤ t) <;> decide
      rw [hf]
      have k0 := fkey_num nt
      have hs := sv_le (r := t % 9223372036854775808) (q := infR - 1) (by omega)
      have k1 : fkey 9218868437227405311 = some ((sv (infR - 1) : Nat) : Int) := by
        unfold fkey
        rw [if_pos (by decide)]; rfl
      have k2 : fkey 18442240474082181119 = some (-((sv (infR - 1) : Nat) : Int)) := by
        unfold fkey
        rw [if_pos (by decide)]; rfl
      unfold fin2
      rw [eq_self_is ht, nt, fle_of ht (by decide) k0 k1 (by unfold sw; generalize sv (infR - 1) = b at *; generalize sv (t % 9223372036854775808) = c at *; split <;> omega),
        fge_of ht (by decide) k0 k2 (by unfold sw; generalize sv (infR - 1) = b at *; generalize sv (t % 9223372036854775808) = c at *; split <;> omega)]
      rfl


end Go.Proofs.Ytfjdihfflghfpaa

/- CfarLines, walked. -/
namespace Go.Proofs.Ytfjdihfflghfpaa
open Go Go.Vam Go.Sort

def mk2 : List Value := [.float .f64 4619567317775286272, .float .f64 4620693217682128896]
def kV (way g t nth : Int) (times : Nat) : Value := .agg #[.int .i8 way, .int .i64 g, .int .i64 t, .int .i64 nth, .float .f64 times]
def kC (way g t nth : Int) (times : Nat) : List Value := [.int .i8 way, .int .i64 g, .int .i64 t, .int .i64 nth, .float .f64 times]
theorem kC_is (way g t nth : Int) (times : Nat) : (kV way g t nth times).cells.toList = kC way g t nth times := rfl

/-- The view of a copy: its first cells. -/
theorem view_slc {s : Mm} {room : Value} {L : List UInt64} (o : Own s 1 room (L.length + 2) (flT L ++ mk2)) : SlC s 1 (subS 1 room 0 L.length) L.length (flT L) := by
  have := o.slc.sub (l := 0) (h := L.length) (Nat.zero_le _) (by omega)
  rw [Nat.zero_mul, List.drop_zero, Nat.sub_zero, Nat.mul_one, List.take_append_of_le_length (by rw [flT_len]; omega), List.take_of_length_le (by rw [flT_len]; omega)] at this
  exact this

theorem LnR.len {L : List UInt64} {way g t nth : Int} {times : Nat} {bs : List Bool} {e : Int} (h : LnR L way g t nth times bs e) : bs.length ≤ L.length := by
  unfold LnR at h
  split at h
  · rw [h.1]; exact Nat.zero_le _
  · split at h
    · rw [h.1]; exact Nat.zero_le _
    · rw [h.2.1]; exact Nat.le_refl _

theorem eqb_self (b : Bool) : eqBV true .bool (.bool b) (.bool b) = some (.bool false) := by cases b <;> rfl


/-- Where the law goes on, the list is of no great length. -/
theorem run9 {X : Ctx} (hX : X.fns = fnsOf Try.prog) (ho : ∀ f args, f ≠ 10 ∧ f ≠ 24 → X.orc f args = none) {s : Mm} {n : Nat} {way g t nth : Int} {times : Nat} : CallP X 9 [.int .i64 (n : Nat), kV way g t nth times] s (fun r s' => ∃ b, r = .bool b ∧ (b = false → n ≤ 65536) ∧ Same s s' (fun _ => False)) := by
  have hbx := kC_is way g t nth times
  have H1 := (Hold.refl s).new (kC way g t nth times)
  have lt' : loadV (newAt s (.cells (kC way g t nth times) false)) none (.pointer (some ⟨s.nxt, 2, none⟩)) = some (.int .i64 t) := load_g (o := 2) (H1.cell (List.mem_cons_self ..))
  refine CallP_of (hX ▸ ir9_eq) (ho _ _ (by decide)) (Nat.le_of_ble_eq_true rfl) ?_
  refine W_seq (W_ops [0, 3] ?_)
  simp only [o9_0, WO_box, WO_move, WO_nil, geT_put, frame_nil, frame_cons, evO_tmp, evO_const, keep_nil, keep_cons, keepK_eq, Nat.reduceEqDiff, Nat.reduceAdd, ↓reduceIte, eq_self, Nat.zero_add, hbx]
  intro fr e0 e3
  refine SeqK_n ?_
  by_cases h1 : (65536 : Int) < ((n : Nat) : Int)
  · refine W_seq (W_draw0 [4] rfl ?_)
    simp only [d9_1, WD_bin, WD_move, WD_pick, pick_b, bin_gtr, want_v, wantB_f, WD_nil, DPureK_some, joinAll_nil, setH_self, geT_put, evO_tmp, evO_const, keep_nil, keep_cons, keepK_eq, Nat.reduceEqDiff, Nat.reduceAdd, ↓reduceIte, Bool.not_true, eq_self, Nat.zero_add, e0, decide_eq_true h1, WD_no_move, WD_no_bin, WD_no_pick, WD_no_fieldAddr, WD_no_load, wantB_u]
    clear e0 e3
    intro fr e4
    refine SeqK_n ?_
    exact W_ret (Ret1 e4 ⟨_, rfl, fun h => (by cases h), H1.same⟩)
  · by_cases h2 : (0 : Int) < ((n : Nat) : Int)
    · have h3 : ¬ ((n : Nat) : Int) = 0 := by omega
      have hq : wrapK .i64 ((4194304 : Int).tdiv ((n : Nat) : Int)) = (4194304 : Int).tdiv ((n : Nat) : Int) := by
        have h5 : (4194304 : Int).tdiv ((n : Nat) : Int) = (4194304 : Int) / ((n : Nat) : Int) := Int.tdiv_eq_ediv_of_nonneg (by omega)
        have h6 : 0 ≤ (4194304 : Int) / ((n : Nat) : Int) := Int.ediv_nonneg (by omega) (by omega)
        have h7 : (4194304 : Int) / ((n : Nat) : Int) ≤ 4194304 := Int.ediv_le_self _ (by omega)
        rw [h5]; exact wrap_i64 (by omega) (by omega)
      by_cases h4 : (4194304 : Int).tdiv ((n : Nat) : Int) < t
      · skip
        refine W_seq (W_draw0 [4] rfl ?_)
        simp only [d9_1, WD_bin, WD_fieldAddr, fieldAddr_p, WD_load, WD_move, WD_pick, pick_b, bin_gtr, bin_leq, bin_quo, want_v, wantB_t, wantB_f, WD_nil, DPureK_some, DReadK_some, pastR_nil, joinAll_nil, setH_self, geT_put, evO_tmp, evO_const, keep_nil, keep_cons, keepK_eq, Nat.reduceEqDiff, Nat.reduceAdd, ↓reduceIte, Bool.not_false, eq_self, Bool.false_eq_true, true_and, Nat.zero_add, e0, e3, decide_eq_false h1, WD_yes, decide_eq_true h2, lt', h3, hq, decide_eq_true h4]
        clear e0 e3
        intro fr e4
        refine SeqK_n ?_
        exact W_ret (Ret1 e4 ⟨_, rfl, fun _ => by omega, H1.same⟩)
      · skip
        refine W_seq (W_draw0 [4] rfl ?_)
        simp only [d9_1, WD_bin, WD_fieldAddr, fieldAddr_p, WD_load, WD_move, WD_pick, pick_b, bin_gtr, bin_quo, want_v, wantB_t, wantB_f, WD_nil, DPureK_some, DReadK_some, pastR_nil, joinAll_nil, setH_self, geT_put, evO_tmp, evO_const, keep_nil, keep_cons, keepK_eq, Nat.reduceEqDiff, Nat.reduceAdd, ↓reduceIte, Bool.not_false, eq_self, Bool.false_eq_true, true_and, Nat.zero_add, e0, e3, decide_eq_false h1, WD_yes, decide_eq_true h2, lt', h3, hq, decide_eq_false h4, WD_no_move, WD_no_bin]
        clear e0 e3
        intro fr e4
        refine SeqK_n ?_
        exact W_ret (Ret1 e4 ⟨_, rfl, fun _ => by omega, H1.same⟩)
    · skip
      refine W_seq (W_draw0 [4] rfl ?_)
      simp only [d9_1, WD_bin, WD_move, WD_pick, pick_b, bin_gtr, want_v, wantB_t, wantB_f, WD_nil, DPureK_some, joinAll_nil, setH_self, geT_put, evO_tmp, evO_const, keep_nil, keep_cons, keepK_eq, Nat.reduceEqDiff, Nat.reduceAdd, ↓reduceIte, Bool.not_false, eq_self, Bool.false_eq_true, Nat.zero_add, e0, decide_eq_false h1, WD_yes, decide_eq_false h2, WD_no_move, WD_no_bin, WD_no_fieldAddr, WD_no_load]
      clear e0 e3
      intro fr e4
      refine SeqK_n ?_
      exact W_ret (Ret1 e4 ⟨_, rfl, fun _ => by omega, H1.same⟩)

end Go.Proofs.Ytfjdihfflghfpaa

/- CfarLines: its run at any arguments. -/
namespace Go.Proofs.Ytfjdihfflghfpaa
open Go Go.Vam Go.Sort

theorem c3 : Try.prog.cellsOf 3 = 1 := by decide +kernel
theorem c23 : Try.prog.cellsOf 23 = 1 := by decide +kernel
theorem c26 : Try.prog.cellsOf 26 = 5 := by decide +kernel
theorem five {α : Type} {l : List α} (h : l.length = 5) : ∃ a b c d e, l = [a, b, c, d, e] := by
  match l, h with
  | [a, b, c, d, e], _ => exact ⟨a, b, c, d, e, rfl⟩

set_option maxRecDepth 100000 in
/-- A look that is handed in. -/
theorem look_open {T : Type} {s : Mm} {v : Value} {d : DataW T} (h : AbsV Try.prog s 26 v d) : ∃ way g t nth times, v = kV way g t nth times ∧ (-128 ≤ way ∧ way ≤ 127) ∧ times < 18446744073709551616 := by
  unfold AbsV at h
  rw [Try.underlying26] at h
  obtain ⟨cs, rfl, h⟩ := h
  obtain ⟨ds, _, h1, h2, h3⟩ := Abs.st Try.underlying26 h
  rw [c26] at h1
  obtain ⟨a0, a1, a2, a3, a4, habc⟩ := five h1
  obtain ⟨d0, d1, d2, d3, d4, rfl⟩ := five h2
  have g0 := h3 0 _ d0 rfl rfl
  have g1 := h3 1 _ d1 rfl rfl
  have g2 := h3 2 _ d2 rfl rfl
  have g3 := h3 3 _ d3 rfl rfl
  have g4 := h3 4 _ d4 rfl rfl
  simp only [c3, c23, c24, habc] at g0 g1 g2 g3 g4
  obtain ⟨n0, k0, _, w0⟩ := Abs.i Try.underlying23 g0
  obtain ⟨n1, k1, _⟩ := Abs.i Try.underlying3 g1
  obtain ⟨n2, k2, _⟩ := Abs.i Try.underlying3 g2
  obtain ⟨n3, k3, _⟩ := Abs.i Try.underlying3 g3
  obtain ⟨n4, k4, _, w4⟩ := Abs.f Try.underlying24 g4
  simp only [List.drop_zero, List.drop_succ_cons, List.take_succ_cons, List.take_zero, List.cons.injEq, and_true] at k0 k1 k2 k3 k4
  subst k0 k1 k2 k3 k4
  obtain ⟨l⟩ := cs
  simp only at habc
  subst habc
  refine ⟨n0, n1, n2, n3, n4, rfl, ?_, wfl n4 w4⟩
  simp only [Lit.wf, IntKind.min, IntKind.max, IntKind.bits, IntKind.signed] at w0
  simpa using w0

end Go.Proofs.Ytfjdihfflghfpaa
