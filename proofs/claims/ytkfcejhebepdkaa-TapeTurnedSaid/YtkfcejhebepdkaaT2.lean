/- Functions of the tape: floats, sizes, the check of a frame. -/
import Derived.Test.YtkfcejhebepdkaaT1
namespace Go.Proofs.Ytkfcejhebepdkaa
open Go Go.Vam

/-- Is a float a number? -/
def notNan (x : Nat) : Bool := ford .f64 x x == some .eq
def finB (x : Nat) : Bool := notNan x && !(ford .f64 (fabs x) 9218868437227405311 == some .gt)
def largeB (r n : Nat) : Bool := decide (256 < r) || (decide (16384 < n) || decide (262144 < r * n))

/-- A table of small numbers. -/
def TabC (s : Mm) (v : Value) (rows : List (List Int)) : Prop :=
  ∃ cells, SlC s 1 v rows.length cells ∧ ∀ (i : Nat) (r : List Int), rows[i]? = some r → ∃ c, cells[i]? = some c ∧ SlC s 1 c r.length (r.map (.int .i16))


theorem run55 {X : Ctx} (hX : X.fns = fnsOf Try.prog) (ho : ∀ f args, f ≠ 9 → X.orc f args = none) {s : Mm} {x : Nat} : CallP X 55 [.float .f64 x] s (fun r s' => r = .bool (!notNan x) ∧ s = s') := by
  refine CallP_of (hX ▸ ir55_eq) (ho _ _ (by decide)) (Nat.le_of_ble_eq_true rfl) ?_
  refine W_seq (W_ops [0] ?_)
  simp only [o55_0, WO_move, WO_nil, geT_put, frame_nil, frame_cons, evO_const, keep_nil, keep_cons, keepK_eq, Nat.reduceEqDiff, reduceIte, eq_self, Nat.zero_add]
  intro fr e0
  refine SeqK_n ?_
  refine W_seq (W_ops [2] ?_)
  simp only [o55_1, WO_bin, WO_move, binf_neq, WO_nil, PureK_some, geT_put, evO_tmp, keep_nil, keep_cons, keepK_eq, Nat.reduceEqDiff, reduceIte, eq_self, e0]
  clear e0
  intro fr e2
  refine SeqK_n ?_
  exact W_ret (Ret1 e2 ⟨rfl, rfl⟩)

theorem run56 {X : Ctx} (hX : X.fns = fnsOf Try.prog) (ho : ∀ f args, f ≠ 9 → X.orc f args = none) {s : Mm} {x : Nat} : CallP X 56 [.float .f64 x, .int .i64 0] s (fun r s' => r = .bool (ford .f64 (fabs x) 9218868437227405311 == some .gt) ∧ s = s') := by
  refine CallP_of (hX ▸ ir56_eq) (ho _ _ (by decide)) (Nat.le_of_ble_eq_true rfl) ?_
  refine W_seq (W_ops [0, 1] ?_)
  simp only [o56_0, WO_move, WO_nil, geT_put, frame_nil, frame_cons, evO_const, keep_nil, keep_cons, keepK_eq, Nat.reduceEqDiff, Nat.reduceAdd, reduceIte, eq_self, Nat.zero_add]
  intro fr e0 e1
  refine SeqK_n ?_
  refine W_assoc ?_
  refine W_seq (W_ops [0, 1, 6] ?_)
  simp only [o56_1, WO_bin, WO_move, bin_eql, WO_nil, PureK_some, geT_put, evO_tmp, evO_const, keep_nil, keep_cons, keepK_eq, Nat.reduceEqDiff, reduceIte, decide_true, eq_self, e0, e1]
  clear e0 e1
  intro fr e0 e1 e6
  refine SeqK_n ?_
  refine W_seq (W_cond e6 (fun _ => ?_) (fun h => by cases h))
  refine W_ops [0] ?_
  simp only [o56_2, WO_ext, WO_move, WO_nil, PureK_some, geT_put, evO_tmp, keep_nil, keep_cons, keepK_eq, List.map_cons, List.map_nil, Nat.reduceEqDiff, reduceIte, eq_self, e0, extV]
  clear e0 e1 e6
  intro fr e0
  refine SeqK_n ?_
  refine W_seq (W_ops [4] ?_)
  simp only [o56_5, WO_bin, WO_move, binf_gtr, WO_nil, PureK_some, geT_put, evO_tmp, evO_const, keep_nil, keep_cons, keepK_eq, Nat.reduceEqDiff, reduceIte, eq_self, e0]
  clear e0
  intro fr e4
  refine SeqK_n ?_
  exact W_ret (Ret1 e4 ⟨rfl, rfl⟩)

theorem run45 {X : Ctx} (hX : X.fns = fnsOf Try.prog) (ho : ∀ f args, f ≠ 9 → X.orc f args = none) {s : Mm} {x : Nat} : CallP X 45 [.float .f64 x] s (fun r s' => r = .bool (finB x) ∧ s = s') := by
  refine CallP_of (hX ▸ ir45_eq) (ho _ _ (by decide)) (Nat.le_of_ble_eq_true rfl) ?_
  refine W_seq (W_ops [0] ?_)
  simp only [o45_0, WO_move, WO_nil, geT_put, frame_nil, frame_cons, evO_const, keep_nil, keep_cons, keepK_eq, Nat.reduceEqDiff, reduceIte, eq_self, Nat.zero_add]
  intro fr e0
  refine SeqK_n ?_
  refine W_seq (W_ops [2] ?_)
  simp only [o45_1, WO_call, WO_move, geT_put, evO_tmp, List.map_cons, List.map_nil, reduceIte, eq_self, e0]
  refine CallK_of (run55 hX ho (x := x)) ?_
  rintro _ _ ⟨rfl, rfl⟩
  simp only [WO_call, WO_move, WO_pick, pick_b, WO_un, un_not, WO_nil, PureK_some, WO_guard, want_v, wantB_t, geT_put, evO_tmp, evO_const, keep_nil, keep_cons, keepK_eq, List.map_cons, List.map_nil, Nat.reduceEqDiff, reduceIte, Bool.not_not, eq_self, e0]
  cases h : notNan x
  · simp only [reduceIte, Bool.not_false, Bool.false_eq_true]
    clear e0
    intro fr e2
    refine SeqK_n ?_
    exact W_ret (Ret1 e2 ⟨by simp [finB, h], rfl⟩)
  · skip
    simp only [reduceIte, Bool.not_true, eq_self]
    refine CallK_of (run56 hX ho (x := x)) ?_
    rintro _ _ ⟨rfl, rfl⟩
    simp only [WO_move, WO_pick, pick_b, WO_un, un_not, WO_nil, PureK_some, WO_guard, want_v, wantB_t, geT_put, evO_tmp, evO_const, keep_nil, keep_cons, keepK_eq, Nat.reduceEqDiff, reduceIte, eq_self]
    clear e0
    intro fr e2
    refine SeqK_n ?_
    exact W_ret (Ret1 e2 ⟨by simp [finB, h], rfl⟩)

theorem run46 {X : Ctx} (hX : X.fns = fnsOf Try.prog) (ho : ∀ f args, f ≠ 9 → X.orc f args = none) {s : Mm} {r n : Nat} : CallP X 46 [.int .i64 (r : Nat), .int .i64 (n : Nat)] s (fun v s' => v = .bool (largeB r n) ∧ s = s') := by
  refine CallP_of (hX ▸ ir46_eq) (ho _ _ (by decide)) (Nat.le_of_ble_eq_true rfl) ?_
  refine W_seq (W_ops [0, 1] ?_)
  simp only [o46_0, WO_move, WO_nil, geT_put, frame_nil, frame_cons, evO_const, keep_nil, keep_cons, keepK_eq, Nat.reduceEqDiff, Nat.reduceAdd, reduceIte, eq_self, Nat.zero_add]
  intro fr e0 e1
  refine SeqK_n ?_
  by_cases h1 : 256 < r
  · have h1' : (256 : Int) < (r : Int) := by omega
    refine W_seq (W_ops [4] ?_)
    simp only [o46_1, WO_bin, WO_move, WO_pick, pick_b, bin_gtr, bin_mul, WO_nil, PureK_some, WO_guard, want_v, wantB_f, geT_put, evO_tmp, evO_const, keep_nil, keep_cons, keepK_eq, Nat.reduceEqDiff, reduceIte, Bool.not_true, decide_true, eq_self, Bool.false_eq_true, e0, e1, h1']
    clear e0 e1
    intro fr e4
    refine SeqK_n ?_
    exact W_ret (Ret1 e4 ⟨by simp [largeB, h1], rfl⟩)
  · have h1' : ¬ (256 : Int) < (r : Int) := by omega
    by_cases h2 : 16384 < n
    · have h2' : (16384 : Int) < (n : Int) := by omega
      refine W_seq (W_ops [4] ?_)
      simp only [o46_1, WO_bin, WO_move, WO_pick, pick_b, bin_gtr, bin_mul, WO_nil, PureK_some, WO_guard, want_v, wantB_f, geT_put, evO_tmp, evO_const, keep_nil, keep_cons, keepK_eq, Nat.reduceEqDiff, reduceIte, Bool.not_true, Bool.not_false, decide_true, decide_false, eq_self, Bool.false_eq_true, e0, e1, h1', h2']
      clear e0 e1
      intro fr e4
      refine SeqK_n ?_
      exact W_ret (Ret1 e4 ⟨by simp [largeB, h1, h2], rfl⟩)
    · have h2' : ¬ (16384 : Int) < (n : Int) := by omega
      have hm : r * n ≤ 256 * 16384 := Nat.mul_le_mul (by omega) (by omega)
      refine W_seq (W_ops [4] ?_)
      simp only [o46_1, WO_bin, WO_move, WO_pick, pick_b, bin_gtr, bin_mul, WO_nil, PureK_some, WO_guard, want_v, wantB_f, geT_put, evO_tmp, evO_const, keep_nil, keep_cons, keepK_eq, Nat.reduceEqDiff, reduceIte, Bool.not_false, decide_false, eq_self, Bool.false_eq_true, e0, e1, h1', h2', ← Int.natCast_mul, wrap_i64 (n := ((r * n : Nat) : Int)) (by omega) (by omega)]
      clear e0 e1
      intro fr e4
      refine SeqK_n ?_
      refine W_ret (Ret1 e4 ⟨?_, rfl⟩)
      simp only [largeB, h1, h2, decide_false, Bool.false_or]
      congr 1
      exact decide_eq_decide.2 (by omega)

end Go.Proofs.Ytkfcejhebepdkaa
