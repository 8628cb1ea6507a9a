/- Cfar: the program's rules, walked. -/
import Derived.Test.YtfjdihfflghfpaaSF
import Derived.Test.YtfjdihfflghfpaaIRC
namespace Go.Proofs.Ytfjdihfflghfpaa
open Go Go.Vam Go.Sort

theorem FunK_0 {X : Ctx} {g : FuncId} {args : List Value} {d : Option Tmp} {l : List AOper} {fr : Fr} {s : Mm} {Q : Fr → Mm → Prop} :
    FunK X (.func (.func g) #[] #[]) args d l fr s Q = CallK X g args d l fr s Q := by
  show CallK X g (([] : List Value) ++ args ++ ([] : List Value)) d l fr s Q = _
  rw [List.nil_append, List.append_nil]

/-- The mean of some cells. -/
def meanL (A : List UInt64) : Nat := fdiv .f64 (sumQ A.toArray A.length) (FloatKind.f64.nearest ((A.length : Nat) : Int))
def ofF (bt : Nat → Nat → Bool) (A B : List UInt64) : Nat := if A = [] then meanL B else if B = [] then meanL A else if bt (meanL B) (meanL A) = true then meanL B else meanL A
def gtB (x y : Nat) : Bool := ford .f64 x y == some .gt
def ltB (x y : Nat) : Bool := ford .f64 x y == some .lt
/-- What a rule tells of the cells at both sides. -/
def RV (way : Int) (A B : List UInt64) (nth : Int) (x : Nat) : Prop :=
  if way = 3 then x < 18446744073709551616 ∧ NV (A ++ B).toArray (min nth (((A ++ B).length : Nat) - 1)) x 0
  else x = if way = 1 then ofF gtB A B else if way = 2 then ofF ltB A B else meanL (A ++ B)
def sideV (a b : Value) (nth : Int) : Value := .agg #[a, b, .int .i64 nth]
def sideC (a b : Value) (nth : Int) : List Value := [a, b, .int .i64 nth]
theorem sideC_is (a b : Value) (nth : Int) : (sideV a b nth).cells.toList = sideC a b nth := rfl

theorem slA {s : Mm} {v : Value} {A : List UInt64} (a : SlC s 1 v A.length (flT A)) : SlC s 1 v A.toArray.size (flA A.toArray) := a
theorem len0 (A : List UInt64) : decide (((A.length : Nat) : Int) = 0) = decide (A = []) := decide_eq_decide.2 ⟨fun h => List.eq_nil_of_length_eq_zero (by omega), fun h => by rw [h]; rfl⟩


theorem run78 {X : Ctx} (hX : X.fns = fnsOf Try.prog) (ho : ∀ f args, f ≠ 10 ∧ f ≠ 24 → X.orc f args = none) {s : Mm} {v : Value} {A : List UInt64} (a : SlC s 1 v A.length (flT A)) (hn : A.length ≤ 4611686018427387904) : CallP X 78 [v] s (fun r s' => r = .float .f64 (meanL A) ∧ s = s') := by
  refine CallP_of (hX ▸ ir78_eq) (ho _ _ (by decide)) (Nat.le_of_ble_eq_true rfl) ?_
  refine W_seq (W_ops [0] ?_)
  simp only [o78_0, WO_move, WO_nil, geT_put, frame_nil, frame_cons, evO_const, keep_nil, keep_cons, keepK_eq, Nat.reduceEqDiff, ↓reduceIte, eq_self, Nat.zero_add]
  intro fr e0
  refine SeqK_n ?_
  refine W_seq (W_ops [2] ?_)
  simp only [o78_1, WO_call, WO_move, geT_put, evO_tmp, List.map_cons, List.map_nil, ↓reduceIte, eq_self, e0]
  refine CallK_of (run18 hX ho (slA a) hn) ?_
  rintro _ _ ⟨rfl, rfl⟩
  simp only [WO_bin, WO_bu, WO_conv, conv_float, WO_move, binf_quo, WO_nil, PureK_some, geT_put, evO_tmp, keep_nil, keep_cons, keepK_eq, List.map_cons, List.map_nil, Nat.reduceEqDiff, ↓reduceIte, eq_self, e0, a.len]
  clear e0
  intro fr e2
  refine SeqK_n ?_
  exact W_ret (Ret1 e2 ⟨rfl, rfl⟩)

theorem run82 {X : Ctx} (hX : X.fns = fnsOf Try.prog) (ho : ∀ f args, f ≠ 10 ∧ f ≠ 24 → X.orc f args = none) {s : Mm} {x y : Nat} : CallP X 82 [.float .f64 x, .float .f64 y] s (fun r s' => r = .bool (gtB x y) ∧ s = s') := by
  refine CallP_of (hX ▸ ir82_eq) (ho _ _ (by decide)) (Nat.le_of_ble_eq_true rfl) ?_
  refine W_seq (W_ops [0, 1] ?_)
  simp only [o82_0, WO_move, WO_nil, geT_put, frame_nil, frame_cons, evO_const, keep_nil, keep_cons, keepK_eq, Nat.reduceEqDiff, Nat.reduceAdd, ↓reduceIte, eq_self, Nat.zero_add]
  intro fr e0 e1
  refine SeqK_n ?_
  refine W_seq (W_ops [4] ?_)
  simp only [o82_1, WO_bin, WO_move, binf_gtr, WO_nil, PureK_some, geT_put, evO_tmp, keep_nil, keep_cons, keepK_eq, Nat.reduceEqDiff, ↓reduceIte, eq_self, e0, e1]
  clear e0 e1
  intro fr e4
  refine SeqK_n ?_
  exact W_ret (Ret1 e4 ⟨rfl, rfl⟩)

theorem run84 {X : Ctx} (hX : X.fns = fnsOf Try.prog) (ho : ∀ f args, f ≠ 10 ∧ f ≠ 24 → X.orc f args = none) {s : Mm} {x y : Nat} : CallP X 84 [.float .f64 x, .float .f64 y] s (fun r s' => r = .bool (ltB x y) ∧ s = s') := by
  refine CallP_of (hX ▸ ir84_eq) (ho _ _ (by decide)) (Nat.le_of_ble_eq_true rfl) ?_
  refine W_seq (W_ops [0, 1] ?_)
  simp only [o84_0, WO_move, WO_nil, geT_put, frame_nil, frame_cons, evO_const, keep_nil, keep_cons, keepK_eq, Nat.reduceEqDiff, Nat.reduceAdd, ↓reduceIte, eq_self, Nat.zero_add]
  intro fr e0 e1
  refine SeqK_n ?_
  refine W_seq (W_ops [4] ?_)
  simp only [o84_1, WO_bin, WO_move, binf_lss, WO_nil, PureK_some, geT_put, evO_tmp, keep_nil, keep_cons, keepK_eq, Nat.reduceEqDiff, ↓reduceIte, eq_self, e0, e1]
  clear e0 e1
  intro fr e4
  refine SeqK_n ?_
  exact W_ret (Ret1 e4 ⟨rfl, rfl⟩)

theorem run79 {X : Ctx} (hX : X.fns = fnsOf Try.prog) (ho : ∀ f args, f ≠ 10 ∧ f ≠ 24 → X.orc f args = none) {s0 s : Mm} {l : List HP} {av bv : Value} {A B : List UInt64} {nth : Int} (H : Hold s0 s l) (a : SlC s 1 av A.length (flT A)) (b : SlC s 1 bv B.length (flT B)) (ha : A.length ≤ 1048576) (hb : B.length ≤ 1048576) :
    CallP X 79 [sideV av bv nth] s (fun r s' => Hold s0 s' (HP.own 1 r (A ++ B).length (flT (A ++ B)) :: l)) := by
  have hbx := sideC_is av bv nth
  have H1 := H.new (sideC av bv nth)
  refine CallP_of (hX ▸ ir79_eq) (ho _ _ (by decide)) (Nat.le_of_ble_eq_true rfl) ?_
  refine W_seq (W_ops [1] ?_)
  simp only [o79_0, WO_box, WO_move, WO_nil, geT_put, frame_nil, frame_cons, evO_tmp, evO_const, keep_nil, keep_cons, keepK_eq, Nat.reduceEqDiff, ↓reduceIte, eq_self, Nat.zero_add, hbx]
  intro fr e1
  refine SeqK_n ?_
  have G1 : Same s (newAt s (.cells (sideC av bv nth) false)) (fun _ => False) := Same.new
  obtain ⟨Bx, hBx⟩ : ∃ B, B = s.nxt := ⟨_, rfl⟩
  rw [← hBx] at H1 e1
  have a1 := a.same G1 (fun _ _ h => h)
  have b1 := b.same G1 (fun _ _ h => h)
  generalize newAt s (.cells (sideC av bv nth) false) = s1 at H1 a1 b1 ⊢
  clear hBx G1
  have K1 := (Hold.refl s1).nil 1
  obtain ⟨v1, s2, ap1, K2⟩ := K1.append (bytes := 8) a1.src (by rw [flT_len, Nat.mul_one]) (flT_one A) (by omega) (by decide) (by omega) (by omega) (by omega)
  have b2 := b1.same K2.same (fun _ _ h => h)
  have H2 := H1.app K2
  obtain ⟨v2, s3, ap2, K3⟩ := K2.append (bytes := 8) b2.src (by rw [flT_len, Nat.mul_one]) (flT_one B) (by omega) (by decide) (by omega) (by omega) (by omega)
  have H3 := H1.app K3
  simp only [List.cons_append, List.nil_append, flT_app] at H2 H3
  have la : loadV s1 none (.pointer (some ⟨Bx, 0, none⟩)) = some av := load_g (o := 0) (H1.cell (List.mem_cons_self ..))
  have lb1 : loadV s1 none (.pointer (some ⟨Bx, 1, none⟩)) = some bv := load_g (o := 1) (H1.cell (List.mem_cons_self ..))
  have lb2 : loadV s2 none (.pointer (some ⟨Bx, 1, none⟩)) = some bv := load_g (o := 1) (H2.up1.cell (List.mem_cons_self ..))
  have sb := b1.sameO
  refine W_seq (W_draw0 [2] rfl ?_)
  simp only [d79_1, WD_append, WD_fieldAddr, fieldAddr_p, WD_load, WD_move, WD_nil, DPureK_some, DReadK_some, DActK_some, pastR_nil, pastR_cons, preHead_nil, preHead_cons, joinF_nil, joinAll_nil, setH_self, Nat.testBit, Nat.reduceShiftRight, Nat.reduceAnd, Nat.reduceBneDiff, List.all_nil, List.all_cons, List.filter_nil, List.filter_cons, bne_self_eq_false, geT_put, evO_tmp, evO_const, keep_nil, keep_cons, keepK_eq, Nat.reduceEqDiff, Nat.reduceAdd, ↓reduceIte, Bool.not_true, Bool.and_true, Bool.true_or, eq_self, Bool.false_eq_true, true_and, Nat.zero_add, Nat.add_zero, e1, la, ap1, lb1, lb2, sb, ap2]
  clear e1
  intro fr e2
  refine SeqK_n ?_
  have hfl : 0 + A.length + B.length = (A ++ B).length := by simp
  rw [hfl] at H3
  exact W_ret (Ret1 e2 H3.up1.tail)

set_option maxHeartbeats 1000000 in
theorem run81 {X : Ctx} (hX : X.fns = fnsOf Try.prog) (ho : ∀ f args, f ≠ 10 ∧ f ≠ 24 → X.orc f args = none) {s0 s : Mm} {l : List HP} {av bv : Value} {A B : List UInt64} {nth : Int} {C : FuncId} {bt : Nat → Nat → Bool} (hc : ∀ (s : Mm) (x y : Nat), CallP X C [.float .f64 x, .float .f64 y] s (fun r s' => r = .bool (bt x y) ∧ s = s'))
    (H : Hold s0 s l) (a : SlC s 1 av A.length (flT A)) (b : SlC s 1 bv B.length (flT B)) (ha : A.length ≤ 1048576) (hb : B.length ≤ 1048576) :
    CallP X 81 [sideV av bv nth, cmpV C] s (fun r s' => r = .float .f64 (ofF bt A B) ∧ Hold s0 s' l) := by
  have hbx := sideC_is av bv nth
  have hcv : cmpV C = .func (.func C) #[] #[] := rfl
  have H1 := H.new (sideC av bv nth)
  refine CallP_of (hX ▸ ir81_eq) (ho _ _ (by decide)) (Nat.le_of_ble_eq_true rfl) ?_
  rw [hcv]
  refine W_seq (W_ops [1, 2] ?_)
  simp only [o81_0, WO_box, WO_move, WO_nil, geT_put, frame_nil, frame_cons, evO_tmp, evO_const, keep_nil, keep_cons, keepK_eq, Nat.reduceEqDiff, Nat.reduceAdd, ↓reduceIte, eq_self, Nat.zero_add, hbx]
  intro fr e1 e2
  refine SeqK_n ?_
  have G1 : Same s (newAt s (.cells (sideC av bv nth) false)) (fun _ => False) := Same.new
  obtain ⟨Bx, hBx⟩ : ∃ B, B = s.nxt := ⟨_, rfl⟩
  rw [← hBx] at H1 e2
  have a1 := a.same G1 (fun _ _ h => h)
  have b1 := b.same G1 (fun _ _ h => h)
  generalize newAt s (.cells (sideC av bv nth) false) = s1 at H1 a1 b1 ⊢
  clear hBx G1
  have la : loadV s1 none (.pointer (some ⟨Bx, 0, none⟩)) = some av := load_g (o := 0) (H1.cell (List.mem_cons_self ..))
  have lb : loadV s1 none (.pointer (some ⟨Bx, 1, none⟩)) = some bv := load_g (o := 1) (H1.cell (List.mem_cons_self ..))
  have sa := a1.sameO
  have sb := b1.sameO
  refine W_seq (W_cutR (fun fr1 s6 => s1 = s6 ∧ ¬ A = [] ∧ ¬ B = [] ∧ geT fr1 1 = .func (.func C) #[] #[] ∧ geT fr1 2 = .pointer (some ⟨Bx, 0, none⟩)) ?_ ?_)
  · intro R' hR' hRr
    refine W_block ?_
    refine W_seq (W_ops [1, 2, 7] ?_)
    simp only [o81_1, WO_bin, WO_bu, WO_fieldAddr, fieldAddr_p, WO_load, WO_move, bin_eql, WO_nil, PureK_some, geT_put, evO_tmp, evO_const, keep_nil, keep_cons, keepK_eq, List.map_cons, List.map_nil, Nat.reduceEqDiff, ↓reduceIte, eq_self, Nat.add_zero, e1, e2, la, a1.len, len0 A]
    clear e1 e2
    intro fr e1 e2 e7
    refine SeqK_n ?_
    refine W_if e7 (fun h0 => ?_) (fun h0 => ?_)
    · refine W_seq (W_ops [4] ?_)
      simp only [o81_2, WO_call, WO_fieldAddr, fieldAddr_p, WO_load, PureK_some, geT_put, evO_tmp, List.map_cons, List.map_nil, ↓reduceIte, eq_self, Nat.zero_add, e2, lb]
      refine CallK_of (run78 hX ho b1 (by omega)) ?_
      rintro _ _ ⟨rfl, rfl⟩
      simp only [WO_move, WO_nil, geT_put, evO_tmp, keep_nil, keep_cons, keepK_eq, ↓reduceIte, eq_self]
      clear e1 e2 e7
      intro fr e4
      refine SeqK_n ?_
      exact W_ret (hRr _ _ (SeqK_r (Ret1 e4 ⟨by rw [ofF, if_pos h0], H1.tail⟩)))
    · skip
      refine W_seq (W_ops [1, 2, 15] ?_)
      simp only [o81_3, WO_bin, WO_bu, WO_fieldAddr, fieldAddr_p, WO_load, WO_move, bin_eql, WO_nil, PureK_some, geT_put, evO_tmp, evO_const, keep_nil, keep_cons, keepK_eq, List.map_cons, List.map_nil, Nat.reduceEqDiff, ↓reduceIte, eq_self, Nat.zero_add, e1, e2, lb, b1.len, len0 B]
      clear e1 e2 e7
      intro fr e1 e2 e15
      refine SeqK_n ?_
      refine W_if e15 (fun h1 => ?_) (fun h1 => W_skip (hR' _ _ ⟨rfl, h0, h1, e1, e2⟩))
      refine W_seq (W_ops [4] ?_)
      simp only [o81_4, WO_call, WO_fieldAddr, fieldAddr_p, WO_load, PureK_some, geT_put, evO_tmp, List.map_cons, List.map_nil, ↓reduceIte, eq_self, Nat.add_zero, e2, la]
      refine CallK_of (run78 hX ho a1 (by omega)) ?_
      rintro _ _ ⟨rfl, rfl⟩
      simp only [WO_move, WO_nil, geT_put, evO_tmp, keep_nil, keep_cons, keepK_eq, ↓reduceIte, eq_self]
      clear e1 e2 e15
      intro fr e4
      refine SeqK_n ?_
      exact W_ret (hRr _ _ (SeqK_r (Ret1 e4 ⟨by rw [ofF, if_neg h0, if_pos h1], H1.tail⟩)))
  clear e1 e2 fr
  rintro fr _ ⟨rfl, h0, h1, e1, e2⟩
  refine SeqK_n ?_
  refine W_seq (W_draw0 [1, 5, 6] rfl ?_)
  simp only [d81_5, WD_call, WD_fieldAddr, fieldAddr_p, WD_load, DPureK_some, DReadK_some, pastR_nil, joinF_nil, setH_self, geT_put, evO_tmp, List.map_cons, List.map_nil, Nat.reduceAdd, ↓reduceIte, eq_self, true_and, Nat.zero_add, Nat.add_zero, e2, la]
  refine DCallK_of rfl (run78 hX ho a1 (by omega)) ?_
  rintro _ _ ⟨rfl, rfl⟩
  simp only [WD_call, WD_fieldAddr, fieldAddr_p, WD_load, DPureK_some, DReadK_some, pastR_nil, pastR_cons, joinF_nil, setH_self, Nat.testBit, Nat.reduceShiftRight, Nat.reduceAnd, Nat.reduceBneDiff, List.all_nil, List.all_cons, List.filter_nil, List.filter_cons, bne_self_eq_false, geT_put, evO_tmp, List.map_cons, List.map_nil, Nat.reduceEqDiff, Nat.reduceAdd, ↓reduceIte, Bool.not_true, Bool.and_true, Bool.or_true, eq_self, Bool.false_eq_true, true_and, Nat.zero_add, e2, la, lb, sa, sb]
  refine DCallK_of rfl (run78 hX ho b1 (by omega)) ?_
  rintro _ _ ⟨rfl, rfl⟩
  simp only [WD_move, WD_nil, DPureK_some, joinF_nil, joinAll_nil, setH_self, Nat.testBit, Nat.reduceShiftRight, Nat.reduceAnd, Nat.reduceBneDiff, List.all_nil, List.all_cons, List.filter_nil, List.filter_cons, geT_put, evO_tmp, keep_nil, keep_cons, keepK_eq, Nat.reduceEqDiff, Nat.reduceAdd, ↓reduceIte, Bool.not_true, Bool.and_true, Bool.or_true, eq_self, Bool.false_eq_true, true_and, e1, lb, sb]
  clear e1 e2
  intro fr e1 e5 e6
  refine SeqK_n ?_
  refine W_assoc ?_
  refine W_seq (W_ops [5, 6, 32] ?_)
  simp only [o81_6, WO_move, geT_put, evO_tmp, Nat.reduceEqDiff, ↓reduceIte, e1, e5, e6]
  refine WO_callT ?_
  simp only [geT_put, evO_tmp, List.map_cons, List.map_nil, Nat.reduceEqDiff, ↓reduceIte, eq_self, FunK_0]
  refine CallK_of (hc _ _ _) ?_
  rintro _ _ ⟨rfl, rfl⟩
  simp only [WO_nil, geT_put, keep_nil, keep_cons, keepK_eq, Nat.reduceEqDiff, ↓reduceIte, eq_self, e5, e6]
  clear e1 e5 e6
  intro fr e5 e6 e32
  refine SeqK_n ?_
  cases hbt : bt (meanL B) (meanL A) with
  | true =>
    rw [hbt] at e32
    refine W_seq (W_cond e32 (fun _ => ?_) (fun h => by cases h))
    refine W_seq (W_ops [4] ?_)
    simp only [o81_7, WO_move, WO_nil, geT_put, evO_tmp, keep_nil, keep_cons, keepK_eq, ↓reduceIte, eq_self, e6]
    clear e5 e6 e32
    intro fr e4
    refine SeqK_n ?_
    exact W_ret (SeqK_r (Ret1 e4 ⟨by rw [ofF, if_neg h0, if_neg h1, if_pos hbt], H1.tail⟩))
  | false =>
    rw [hbt] at e32
    refine W_seq (W_cond e32 (fun h => by cases h) (fun _ => W_skip (SeqK_n ?_)))
    refine W_seq (W_ops [4] ?_)
    simp only [o81_8, WO_move, WO_nil, geT_put, evO_tmp, keep_nil, keep_cons, keepK_eq, ↓reduceIte, eq_self, e5]
    clear e5 e6 e32
    intro fr e4
    refine SeqK_n ?_
    exact W_ret (Ret1 e4 ⟨by rw [ofF, if_neg h0, if_neg h1, if_neg (by rw [hbt]; simp)], H1.tail⟩)

/-- The rule of a way. -/
def ruleF (way : Int) : FuncId := if way = 1 then 80 else if way = 2 then 83 else if way = 3 then 85 else 77

set_option maxHeartbeats 1000000 in
theorem run_rule {X : Ctx} (hX : X.fns = fnsOf Try.prog) (ho : ∀ f args, f ≠ 10 ∧ f ≠ 24 → X.orc f args = none) {s0 s : Mm} {l : List HP} {av bv : Value} {A B : List UInt64} {way nth : Int} (H : Hold s0 s l) (a : SlC s 1 av A.length (flT A)) (b : SlC s 1 bv B.length (flT B)) (ha : A.length ≤ 1048576) (hb : B.length ≤ 1048576) (hne : A ++ B ≠ []) (hnth : 0 ≤ nth) :
    CallP X (ruleF way) [sideV av bv nth] s (fun r s' => ∃ x, r = .float .f64 x ∧ RV way A B nth x ∧ Hold s0 s' l) := by
  have hbx := sideC_is av bv nth
  have H1 := H.new (sideC av bv nth)
  have G1 : Same s (newAt s (.cells (sideC av bv nth) false)) (fun _ => False) := Same.new
  have a1 := a.same G1 (fun _ _ h => h)
  have b1 := b.same G1 (fun _ _ h => h)
  have lw : loadV (newAt s (.cells (sideC av bv nth) false)) (some 3) (.pointer (some ⟨s.nxt, 0, none⟩)) = some (sideV av bv nth) := loadn_all (H1.cell (List.mem_cons_self ..)) rfl
  have ln : loadV (newAt s (.cells (sideC av bv nth) false)) none (.pointer (some ⟨s.nxt, 2, none⟩)) = some (.int .i64 nth) := load_g (o := 2) (H1.cell (List.mem_cons_self ..))
  have hlen : 1 ≤ (A ++ B).length := by
    cases h : A ++ B with
    | nil => exact absurd h hne
    | cons _ _ => simp
  have hlen2 : (A ++ B).length ≤ 2097152 := by rw [List.length_append]; omega
  by_cases w1 : way = 1
  · have hr : ruleF way = 80 := by rw [ruleF, if_pos w1]
    rw [hr]
    refine CallP_of (hX ▸ ir80_eq) (ho _ _ (by decide)) (Nat.le_of_ble_eq_true rfl) ?_
    refine W_seq (W_ops [1] ?_)
    simp only [o80_0, WO_box, WO_move, WO_nil, geT_put, frame_nil, frame_cons, evO_tmp, evO_const, keep_nil, keep_cons, keepK_eq, Nat.reduceEqDiff, ↓reduceIte, eq_self, Nat.zero_add, hbx]
    intro fr e1
    refine SeqK_n ?_
    refine W_seq (W_ops [2] ?_)
    simp only [o80_1, WO_call, WO_load, PureK_some, geT_put, evO_tmp, List.map_cons, List.map_nil, ↓reduceIte, eq_self, e1, lw, evO_func]
    refine CallK_of (run81 hX ho (fun s x y => run82 hX ho) H1 a1 b1 ha hb) ?_
    rintro _ s2 ⟨rfl, H2⟩
    simp only [WO_move, WO_nil, geT_put, evO_tmp, keep_nil, keep_cons, keepK_eq, ↓reduceIte, eq_self]
    clear e1
    intro fr e2
    refine SeqK_n ?_
    exact W_ret (Ret1 e2 ⟨_, rfl, by rw [RV, if_neg (by omega), if_pos w1], H2.tail⟩)
  by_cases w2 : way = 2
  · have hr : ruleF way = 83 := by rw [ruleF, if_neg w1, if_pos w2]
    rw [hr]
    refine CallP_of (hX ▸ ir83_eq) (ho _ _ (by decide)) (Nat.le_of_ble_eq_true rfl) ?_
    refine W_seq (W_ops [1] ?_)
    simp only [o83_0, WO_box, WO_move, WO_nil, geT_put, frame_nil, frame_cons, evO_tmp, evO_const, keep_nil, keep_cons, keepK_eq, Nat.reduceEqDiff, ↓reduceIte, eq_self, Nat.zero_add, hbx]
    intro fr e1
    refine SeqK_n ?_
    refine W_seq (W_ops [2] ?_)
    simp only [o83_1, WO_call, WO_load, PureK_some, geT_put, evO_tmp, List.map_cons, List.map_nil, ↓reduceIte, eq_self, e1, lw, evO_func]
    refine CallK_of (run81 hX ho (fun s x y => run84 hX ho) H1 a1 b1 ha hb) ?_
    rintro _ s2 ⟨rfl, H2⟩
    simp only [WO_move, WO_nil, geT_put, evO_tmp, keep_nil, keep_cons, keepK_eq, ↓reduceIte, eq_self]
    clear e1
    intro fr e2
    refine SeqK_n ?_
    exact W_ret (Ret1 e2 ⟨_, rfl, by rw [RV, if_neg (by omega), if_neg w1, if_pos w2], H2.tail⟩)
  by_cases w3 : way = 3
  · have hr : ruleF way = 85 := by rw [ruleF, if_neg w1, if_neg w2, if_pos w3]
    rw [hr]
    refine CallP_of (hX ▸ ir85_eq) (ho _ _ (by decide)) (Nat.le_of_ble_eq_true rfl) ?_
    refine W_seq (W_ops [1] ?_)
    simp only [o85_0, WO_box, WO_move, WO_nil, geT_put, frame_nil, frame_cons, evO_tmp, evO_const, keep_nil, keep_cons, keepK_eq, Nat.reduceEqDiff, ↓reduceIte, eq_self, Nat.zero_add, hbx]
    intro fr e1
    refine SeqK_n ?_
    refine W_seq (W_ops [1, 3] ?_)
    simp only [o85_1, WO_call, WO_load, PureK_some, geT_put, evO_tmp, List.map_cons, List.map_nil, ↓reduceIte, eq_self, e1, lw]
    refine CallK_of (run79 hX ho H1 a1 b1 ha hb) ?_
    rintro c s2 H2
    simp only [WO_move, WO_nil, geT_put, evO_tmp, keep_nil, keep_cons, keepK_eq, Nat.reduceEqDiff, ↓reduceIte, eq_self, e1]
    clear e1
    intro fr e1 e3
    refine SeqK_n ?_
    have ln2 : loadV s2 none (.pointer (some ⟨s.nxt, 2, none⟩)) = some (.int .i64 nth) := load_g (o := 2) (H2.up1.cell (List.mem_cons_self ..))
    have sc := (H2.own (List.mem_cons_self ..)).slc
    have hmin : (if (((A ++ B).length : Nat) : Int) - 1 < nth then (((A ++ B).length : Nat) : Int) - 1 else nth) = min nth ((((A ++ B).length : Nat) : Int) - 1) := by omega
    refine W_seq (W_ops [4] ?_)
    simp only [o85_2, WO_bin, WO_bu, bu_min, WO_call, WO_fieldAddr, fieldAddr_p, WO_load, WO_move, bin_sub, PureK_some, geT_put, evO_tmp, evO_const, List.map_cons, List.map_nil, Nat.reduceEqDiff, ↓reduceIte, eq_self, Nat.zero_add, e1, e3, ln2, sc.len, wrap_i64 (n := (((A ++ B).length : Nat) : Int) - 1) (by omega) (by omega), hmin]
    refine CallK_of (nth_all hX ho (d := (A ++ B).toArray) H2 (slA sc) (by show (A ++ B).length ≤ _; omega)) ?_
    rintro _ s3 ⟨x, e, rfl, hx, hv, H3⟩
    simp only [WO_extract, ext_20, ext_21, WO_move, WO_nil, PureK_some, geT_put, evO_tmp, keep_nil, keep_cons, keepK_eq, Nat.reduceEqDiff, ↓reduceIte, eq_self]
    clear e1 e3
    intro fr e4
    refine SeqK_n ?_
    refine W_seq (W_ops [2] ?_)
    simp only [o85_3, WO_move, WO_nil, geT_put, evO_tmp, keep_nil, keep_cons, keepK_eq, ↓reduceIte, eq_self, e4]
    clear e4
    intro fr e2
    refine SeqK_n ?_
    have he : e = 0 := by
      have hs : (A ++ B).toArray.size = (A ++ B).length := rfl
      rcases hv with ⟨_, _, h, _⟩ | ⟨h, _, _⟩
      · exact h
      · rw [hs] at h; omega
    subst he
    exact W_ret (Ret1 e2 ⟨x, rfl, by rw [RV, if_pos w3]; exact ⟨hx, hv⟩, H3.tail.tail⟩)
  · have hr : ruleF way = 77 := by rw [ruleF, if_neg w1, if_neg w2, if_neg w3]
    rw [hr]
    refine CallP_of (hX ▸ ir77_eq) (ho _ _ (by decide)) (Nat.le_of_ble_eq_true rfl) ?_
    refine W_seq (W_ops [1] ?_)
    simp only [o77_0, WO_box, WO_move, WO_nil, geT_put, frame_nil, frame_cons, evO_tmp, evO_const, keep_nil, keep_cons, keepK_eq, Nat.reduceEqDiff, ↓reduceIte, eq_self, Nat.zero_add, hbx]
    intro fr e1
    refine SeqK_n ?_
    refine W_seq (W_ops [2] ?_)
    simp only [o77_1, WO_call, WO_load, PureK_some, geT_put, evO_tmp, List.map_cons, List.map_nil, ↓reduceIte, eq_self, e1, lw]
    refine CallK_of (run79 hX ho H1 a1 b1 ha hb) ?_
    rintro c s2 H2
    simp only [WO_call, geT_put, evO_tmp, List.map_cons, List.map_nil, ↓reduceIte, eq_self]
    refine CallK_of (run78 hX ho (H2.own (List.mem_cons_self ..)).slc (by omega)) ?_
    rintro _ _ ⟨rfl, rfl⟩
    simp only [WO_move, WO_nil, geT_put, evO_tmp, keep_nil, keep_cons, keepK_eq, ↓reduceIte, eq_self]
    clear e1
    intro fr e2
    refine SeqK_n ?_
    exact W_ret (Ret1 e2 ⟨_, rfl, by rw [RV, if_neg w3, if_neg w1, if_neg w2], H2.tail.tail⟩)

end Go.Proofs.Ytfjdihfflghfpaa

/- Cfar: looks and levels, walked. -/
namespace Go.Proofs.Ytfjdihfflghfpaa
open Go Go.Vam Go.Sort

/-- The elements from lo on, ahead of hi. -/
def sg (L : List UInt64) (lo hi : Int) : List UInt64 := (L.drop (max lo 0).toNat).take (min hi ((L.length : Nat) : Int) - max lo 0).toNat
theorem sg_len (L : List UInt64) (lo hi : Int) : (sg L lo hi).length ≤ L.length := by unfold sg; rw [List.length_take, List.length_drop]; omega

def LV (L : List UInt64) (at_ way g t nth : Int) (x : Nat) : Prop :=
  if sg L (at_ - g - t) (at_ - g) ++ sg L (at_ + g + 1) (at_ + g + t + 1) = [] then x = 9218868437227405312
  else RV way (sg L (at_ - g - t) (at_ - g)) (sg L (at_ + g + 1) (at_ + g + t + 1)) nth x

def lookV (way g t nth : Int) : Value := .agg #[cmpV (ruleF way), .int .i64 g, .int .i64 t, .int .i64 nth]
def lookC (way g t nth : Int) : List Value := [cmpV (ruleF way), .int .i64 g, .int .i64 t, .int .i64 nth]
def look0 : Value := .agg #[.nilFunc, .int .i64 0, .int .i64 0, .int .i64 0]
def look0C : List Value := [.nilFunc, .int .i64 0, .int .i64 0, .int .i64 0]
theorem lookC_is (way g t nth : Int) : (lookV way g t nth).cells.toList = lookC way g t nth := rfl

def badN (g t nth : Int) : Prop := g < 0 ∨ 16384 < g ∨ t < 1 ∨ 16384 < t ∨ nth < 0 ∨ 32768 < nth
instance (g t nth : Int) : Decidable (badN g t nth) := by unfold badN; infer_instance
/-- What is told of a look: 0 where all may be. -/
def lkE (n : Nat) (g t nth : Int) : Int := if 16384 < n then 3 else if badN g t nth then 2 else 0

theorem DFunK_1 {X : Ctx} {g : FuncId} {p : Value} {args : List Value} {s0 : Mm} {d : Option Tmp} {l : List DOper} {fr : Fr} {s : Mm} {Q : Fr → Mm → Prop} {i pre : Nat} {hist : List Mm} {acts : List Nat} {flt : List (Nat × Nat × ABlk)} {nid : Nat} {ws : List (Nat × (Mm → Bool))} :
    DFunK X (.func (.func g) #[] #[p]) args s0 d pre l i fr s hist acts flt nid ws Q = DCallK X g (args ++ [p]) s0 d pre l i fr s hist acts flt nid ws Q := by
  show DCallK X g (([] : List Value) ++ args ++ [p]) s0 d pre l i fr s hist acts flt nid ws Q = _
  rw [List.nil_append]

theorem slc_one {s : Mm} {sz n : Nat} {v : Value} {cs : List Value} (a : SlC s sz v n cs) : oneCell v = true := by cases a <;> rfl
theorem slc_cells {s : Mm} {sz n : Nat} {v : Value} {cs : List Value} (a : SlC s sz v n cs) : v.cells.toList = [v] := by rw [cells_one (slc_one a)]

theorem build_side {a b : Value} {n : Int} (ha : oneCell a = true) (hb : oneCell b = true) : buildV [.slice none 0 0, .slice none 0 0, .int .i64 0] [(0, 1, a), (1, 1, b), (2, 1, .int .i64 n)] = some (sideV a b n) := by
  have h1 := cells_one ha
  have h2 := cells_one hb
  have h3 : (Value.int .i64 n).cells = #[.int .i64 n] := rfl
  unfold buildV
  simp only [fillL, h1, h2, h3]
  rfl


theorem run58 {X : Ctx} (hX : X.fns = fnsOf Try.prog) (ho : ∀ f args, f ≠ 10 ∧ f ≠ 24 → X.orc f args = none) {s : Mm} {B : Nat} {v : Value} {L : List UInt64} {lo hi : Int} (lv : loadV s none (pB B) = some v) (a : SlC s 1 v L.length (flT L)) :
    CallP X 58 [.int .i64 lo, .int .i64 hi, pB B] s (fun r s' => (∀ s2 : Mm, SlC s2 1 v L.length (flT L) → SlC s2 1 r (sg L lo hi).length (flT (sg L lo hi))) ∧ s = s') := by
  have hpB : pB B = .pointer (some ⟨B, 0, none⟩) := rfl
  rw [hpB] at lv
  have e1' : (if (0 : Int) > lo then 0 else lo) = (((max lo 0).toNat : Nat) : Int) := by split <;> omega
  obtain ⟨f, hf⟩ : ∃ f, f = (max lo 0).toNat := ⟨_, rfl⟩
  rw [← hf] at e1'
  have e2' : (if ((L.length : Nat) : Int) < hi then ((L.length : Nat) : Int) else hi) = min hi ((L.length : Nat) : Int) := by split <;> omega
  obtain ⟨t, ht⟩ : ∃ t, t = min hi ((L.length : Nat) : Int) := ⟨_, rfl⟩
  rw [← ht] at e2'
  have hsg : sg L lo hi = (L.drop f).take (t - f).toNat := by
    unfold sg
    rw [ht, hf]
    congr 1
    omega
  refine CallP_of (hX ▸ ir58_eq) (ho _ _ (by decide)) (Nat.le_of_ble_eq_true rfl) ?_
  rw [hpB]
  refine W_seq (W_ops [0, 1, 2] ?_)
  simp only [o58_0, WO_move, WO_nil, geT_put, frame_nil, frame_cons, evO_const, keep_nil, keep_cons, keepK_eq, Nat.reduceEqDiff, Nat.reduceAdd, ↓reduceIte, eq_self, Nat.zero_add]
  intro fr e0 e1 e2
  refine SeqK_n ?_
  refine W_seq (W_draw0 [0, 1, 2] rfl ?_)
  simp only [d58_1, WD_bu, bu_min, bu_max, WD_load, WD_move, WD_nil, DPureK_some, DReadK_some, pastR_nil, joinAll_nil, setH_self, geT_put, evO_tmp, evO_const, keep_nil, keep_cons, keepK_eq, List.map_cons, List.map_nil, Nat.reduceEqDiff, Nat.reduceAdd, ↓reduceIte, eq_self, true_and, Nat.zero_add, e0, e1, e2, lv, a.len, e1', e2']
  clear e0 e1 e2
  intro fr e0 e1 e2
  refine SeqK_n ?_
  refine W_assoc ?_
  refine W_seq (W_ops [0, 1, 2, 14] ?_)
  simp only [o58_2, WO_bin, WO_move, bin_geq, WO_nil, PureK_some, geT_put, evO_tmp, keep_nil, keep_cons, keepK_eq, Nat.reduceEqDiff, ↓reduceIte, eq_self, e0, e1, e2]
  clear e0 e1 e2
  intro fr e0 e1 e2 e14
  refine SeqK_n ?_
  by_cases h : t ≤ (f : Int)
  · refine W_seq (W_if e14 (fun _ => ?_) (fun hh => absurd h hh))
    refine W_seq (W_ops [5] ?_)
    simp only [o58_3, WO_move, WO_nil, geT_put, evO_const, keep_nil, keep_cons, keepK_eq, ↓reduceIte, eq_self]
    clear e0 e1 e2 e14
    intro fr e5
    refine SeqK_n ?_
    have : sg L lo hi = [] := by rw [hsg, show (t - (f : Int)).toNat = 0 by omega, List.take_zero]
    exact W_ret (SeqK_r (Ret1 e5 ⟨fun _ _ => by rw [this]; exact .nil, rfl⟩))
  · refine W_seq (W_if e14 (fun hh => absurd hh h) (fun _ => W_skip (SeqK_n ?_)))
    have hsl := a.sl (k1 := .i64) (k2 := .i64) (l := f) (h := t.toNat) (i := ((f : Nat) : Int)) (j := t) rfl (by omega) (by omega) (by omega)
    refine W_seq (W_ops [5] ?_)
    simp only [o58_4, WO_load, WO_move, WO_slSl, WO_nil, PureK_some, geT_put, evO_tmp, keep_nil, keep_cons, keepK_eq, Option.map_some, Option.map_none, Nat.reduceEqDiff, ↓reduceIte, eq_self, e0, e1, e2, lv, hsl]
    clear e0 e1 e2 e14
    intro fr e5
    refine SeqK_n ?_
    refine W_ret (Ret1 e5 ⟨fun s2 a2 => ?_, rfl⟩)
    have a1 := a2.sub (l := f) (h := t.toNat) (by omega) (by omega)
    rw [Nat.mul_one, Nat.mul_one, flT_drop, flT_take] at a1
    have e3 : t.toNat - f = (t - (f : Int)).toNat := by omega
    rw [e3, ← hsg] at a1
    have e4 : (sg L lo hi).length = (t - (f : Int)).toNat := by rw [hsg, List.length_take, List.length_drop]; omega
    rw [e4]; exact a1

theorem run59 {X : Ctx} (hX : X.fns = fnsOf Try.prog) (ho : ∀ f args, f ≠ 10 ∧ f ≠ 24 → X.orc f args = none) {s : Mm} : CallP X 59 [.int .i64 1] s (fun r s' => r = .float .f64 9218868437227405312 ∧ s = s') := by
  have hx : extV 1 [.int .u64 9218868437227405312] = some (.float .f64 9218868437227405312) := rfl
  refine CallP_of (hX ▸ ir59_eq) (ho _ _ (by decide)) (Nat.le_of_ble_eq_true rfl) ?_
  refine W_seq (W_ops [0] ?_)
  simp only [o59_0, WO_move, WO_nil, geT_put, frame_nil, frame_cons, evO_const, keep_nil, keep_cons, keepK_eq, Nat.reduceEqDiff, ↓reduceIte, eq_self, Nat.zero_add]
  intro fr e0
  refine SeqK_n ?_
  refine W_seq (W_ops [0] ?_)
  simp only [o59_1, WO_move, WO_nil, geT_put, evO_const, keep_nil, keep_cons, keepK_eq, Nat.reduceEqDiff, ↓reduceIte, e0]
  clear e0
  intro fr e0
  refine SeqK_n ?_
  refine W_assoc ?_
  refine W_seq (W_ops [5] ?_)
  simp only [o59_2, WO_bin, WO_move, bin_geq, WO_nil, PureK_some, geT_put, evO_tmp, evO_const, keep_nil, keep_cons, keepK_eq, ↓reduceIte, decide_true, Int.reduceLE, eq_self, e0]
  clear e0
  intro fr e5
  refine SeqK_n ?_
  refine W_seq (W_cond e5 (fun _ => ?_) (fun h => by cases h))
  refine W_ops [3] ?_
  simp only [o59_3, WO_move, WO_nil, geT_put, evO_const, keep_nil, keep_cons, keepK_eq, ↓reduceIte, eq_self]
  clear e5
  intro fr e3
  refine SeqK_n ?_
  refine W_seq (W_ops [2] ?_)
  simp only [o59_5, WO_ext, WO_move, WO_nil, PureK_some, geT_put, evO_tmp, keep_nil, keep_cons, keepK_eq, List.map_cons, List.map_nil, ↓reduceIte, eq_self, e3, WO_ext, hx]
  clear e3
  intro fr e2
  refine SeqK_n ?_
  exact W_ret (Ret1 e2 ⟨rfl, rfl⟩)

set_option maxHeartbeats 2000000 in
theorem run37 {X : Ctx} (hX : X.fns = fnsOf Try.prog) (ho : ∀ f args, f ≠ 10 ∧ f ≠ 24 → X.orc f args = none) {s0 s : Mm} {l : List HP} {v : Value} {L : List UInt64} {way g t nth at_ : Int} (H : Hold s0 s l) (a : SlC s 1 v L.length (flT L)) (hl : L.length ≤ 16384) (hb : ¬ badN g t nth) (hat : 0 ≤ at_ ∧ at_ < (L.length : Int)) :
    CallP X 37 [lookV way g t nth, v, .int .i64 at_] s (fun r s' => ∃ x, r = .float .f64 x ∧ LV L at_ way g t nth x ∧ Hold s0 s' l) := by
  unfold badN at hb
  have hbx := lookC_is way g t nth
  have hbv := slc_cells a
  obtain ⟨A, hA⟩ : ∃ A, A = sg L (at_ - g - t) (at_ - g) := ⟨_, rfl⟩
  obtain ⟨B, hB⟩ : ∃ B, B = sg L (at_ + g + 1) (at_ + g + t + 1) := ⟨_, rfl⟩
  have lA : A.length ≤ 16384 := by rw [hA]; have := sg_len L (at_ - g - t) (at_ - g); omega
  have lB : B.length ≤ 16384 := by rw [hB]; have := sg_len L (at_ + g + 1) (at_ + g + t + 1); omega
  have hLV : ∀ x, LV L at_ way g t nth x = (if A ++ B = [] then x = 9218868437227405312 else RV way A B nth x) := fun x => by rw [hA, hB]; rfl
  refine CallP_of (hX ▸ ir37_eq) (ho _ _ (by decide)) (Nat.le_of_ble_eq_true rfl) ?_
  have H1 := (H.new (lookC way g t nth)).new [v]
  refine W_seq (W_ops [2, 3, 4] ?_)
  simp only [o37_0, WO_box, nxt_new, WO_move, WO_nil, geT_put, frame_nil, frame_cons, evO_tmp, evO_const, keep_nil, keep_cons, keepK_eq, Nat.reduceEqDiff, Nat.reduceAdd, ↓reduceIte, eq_self, Nat.zero_add, hbx, hbv]
  intro fr e2 e3 e4
  refine SeqK_n ?_
  have G1 : Same s (newAt (newAt s (.cells (lookC way g t nth) false)) (.cells [v] false)) (fun _ => False) := (Same.new (s := s) (b := .cells (lookC way g t nth) false)).trans Same.new (fun _ _ h => h) (fun _ _ h => h)
  have a1 := a.same G1 (fun _ _ h => h)
  obtain ⟨Bv, hBv⟩ : ∃ B, B = (newAt s (.cells (lookC way g t nth) false)).nxt := ⟨_, rfl⟩
  have e4v : (s.nxt + 1) = Bv := by rw [hBv, nxt_new]
  obtain ⟨Bk, hBk⟩ : ∃ B, B = s.nxt := ⟨_, rfl⟩
  rw [← hBv, ← hBk] at H1
  first | rw [e4v] at e4 | rw [← hBv] at e4 | skip
  rw [← hBk] at e3
  generalize newAt (newAt s (.cells (lookC way g t nth) false)) (.cells [v] false) = s1 at H1 a1 ⊢
  clear hBv hBk G1 e4v
  have hpBv : Value.pointer (some ⟨Bv, 0, none⟩) = pB Bv := rfl
  rw [hpBv] at e4
  refine W_seq (W_ops [2, 3, 7] ?_)
  simp only [o37_1, WO_mkFunc, WO_move, WO_nil, geT_put, evO_tmp, keep_nil, keep_cons, keepK_eq, List.map_cons, List.map_nil, Nat.reduceEqDiff, ↓reduceIte, eq_self, e2, e3, e4]
  clear e2 e3 e4
  intro fr e2 e3 e7
  refine SeqK_n ?_
  have k1 : ∀ s', Hold s0 s' (HP.cell Bv [v] :: HP.cell Bk (lookC way g t nth) :: l) → loadV s' none (.pointer (some ⟨Bk, 1, none⟩)) = some (.int .i64 g) := fun s' h => load_g (o := 1) (h.up1.cell (List.mem_cons_self ..))
  have k2 : ∀ s', Hold s0 s' (HP.cell Bv [v] :: HP.cell Bk (lookC way g t nth) :: l) → loadV s' none (.pointer (some ⟨Bk, 2, none⟩)) = some (.int .i64 t) := fun s' h => load_g (o := 2) (h.up1.cell (List.mem_cons_self ..))
  have k3 : ∀ s', Hold s0 s' (HP.cell Bv [v] :: HP.cell Bk (lookC way g t nth) :: l) → loadV s' none (.pointer (some ⟨Bk, 3, none⟩)) = some (.int .i64 nth) := fun s' h => load_g (o := 3) (h.up1.cell (List.mem_cons_self ..))
  have kv : ∀ s', Hold s0 s' (HP.cell Bv [v] :: HP.cell Bk (lookC way g t nth) :: l) → loadV s' none (pB Bv) = some v := fun s' h => load_g (o := 0) (h.cell (List.mem_cons_self ..))
  have w1 := wrap_i64 (n := at_ - g) (by omega) (by omega)
  have w2 := wrap_i64 (n := at_ - g - t) (by omega) (by omega)
  have w3 := wrap_i64 (n := at_ + g) (by omega) (by omega)
  have w4 := wrap_i64 (n := at_ + g + 1) (by omega) (by omega)
  have w5 := wrap_i64 (n := at_ + g + t) (by omega) (by omega)
  have w6 := wrap_i64 (n := at_ + g + t + 1) (by omega) (by omega)
  refine W_seq (W_drawM [3, 8] 1 rfl ?_)
  intro s' hh hns hs'
  have H' := H1.keep hs'
  have a' := a1.same hs' (fun _ _ h => h)
  have hss : s'.h = s1.h := hh
  simp only [d37_2, WD_move, WD_bin, WD_fieldAddr, WD_load, DPureK_some, DReadK_some, pastR_nil, geT_put, evO_tmp, Nat.reduceEqDiff, Nat.reduceAdd, ↓reduceIte, fieldAddr_p, bin_sub, eq_self, true_and, Nat.zero_add, e2, e3, e7, k1 s' H', k2 s' H', w1, w2]
  refine DCallK_of rfl (run58 hX ho (kv s' H') a') ?_
  rintro lv _ ⟨aL, rfl⟩
  simp only [WD_bin, WD_fieldAddr, fieldAddr_p, WD_load, WD_move, WD_callT, bin_add, DPureK_some, DReadK_some, pastR_nil, pastR_cons, joinF_nil, setH_self, Nat.testBit, Nat.reduceShiftRight, Nat.reduceAnd, Nat.reduceBneDiff, List.all_nil, List.all_cons, List.filter_nil, List.filter_cons, sameO_int, bne_self_eq_false, geT_put, evO_tmp, evO_const, List.map_cons, List.map_nil, Nat.reduceEqDiff, Nat.reduceAdd, ↓reduceIte, Bool.not_true, Bool.and_true, Bool.or_true, eq_self, Bool.false_eq_true, true_and, Nat.zero_add, e2, e3, e7, k1 s' H', k2 s' H', w3, w4, w5, w6, DFunK_1, List.cons_append, List.nil_append]
  refine DCallK_of rfl (run58 hX ho (kv s' H') a') ?_
  rintro rv _ ⟨aR, rfl⟩
  rw [← hA] at aL
  rw [← hB] at aR
  have oneL := slc_one (aL _ a')
  have oneR := slc_one (aR _ a')
  have hbu := build_side (n := nth) oneL oneR
  have H2 := H1.new [.slice none 0 0, .slice none 0 0, .int .i64 0]
  have sn : setH s' (Store.put s'.h s1.nxt (some (.cells [.slice none 0 0, .slice none 0 0, .int .i64 0] false))) = newAt s1 (.cells [.slice none 0 0, .slice none 0 0, .int .i64 0] false) := setH_new (b := .cells [.slice none 0 0, .slice none 0 0, .int .i64 0] false) hh hns
  have st : storeV (newAt s1 (.cells [.slice none 0 0, .slice none 0 0, .int .i64 0] false)) 3 (.pointer (some ⟨s1.nxt, 0, none⟩)) (sideV lv rv nth) = some (undefV, setBlk (newAt s1 (.cells [.slice none 0 0, .slice none 0 0, .int .i64 0] false)) s1.nxt (.cells (sideC lv rv nth) false)) :=
    store_all (vs := sideC lv rv nth) (H2.cell (List.mem_cons_self ..)) rfl rfl (by simp only [sideC, List.all_cons, oneL, oneR, List.all_nil, Bool.and_true]; rfl)
  have H3 := H2.setc (cs' := sideC lv rv nth)
  simp only [WD_alloc, WD_build, WD_fieldAddr, fieldAddr_p, WD_load, WD_store, WD_nil, DPureK_some, DReadK_some, DActK_some, pastR_nil, pastR_cons, preHead_cons, joinF_nil, joinF_cons, joinAll_nil, setH_self, Nat.testBit, Nat.reduceShiftRight, Nat.reduceAnd, Nat.reduceBneDiff, List.all_nil, List.all_cons, List.filter_nil, List.filter_cons, sameO_int, bne_self_eq_false, geT_put, puT_none, evO_tmp, keep_nil, keep_cons, keepK_eq, List.map_cons, List.map_nil, Nat.reduceEqDiff, Nat.reduceAdd, ↓reduceIte, Bool.not_true, Bool.and_true, Bool.or_true, Bool.true_or, eq_self, Bool.false_eq_true, true_and, Nat.zero_add, e3, k1 s' H', k2 s' H', k3 s' H', hbu, sn, st]
  clear e2 e3 e7
  intro fr e3 e8
  refine SeqK_n ?_
  have G3 : Same s1 (setBlk (newAt s1 (.cells [.slice none 0 0, .slice none 0 0, .int .i64 0] false)) s1.nxt (.cells (sideC lv rv nth) false)) (fun _ => False) := ((((Hold.refl s1).new [.slice none 0 0, .slice none 0 0, .int .i64 0]).setc (cs' := sideC lv rv nth))).same
  have a4 := a1.same G3 (fun _ _ h => h)
  have sL := aL _ a4
  have sR := aR _ a4
  clear H2 st sn hbu k1 k2 k3 kv aL aR G3 hs' hh hns H' a' hss a1 H1 s'
  generalize setBlk (newAt s1 (.cells [.slice none 0 0, .slice none 0 0, .int .i64 0] false)) s1.nxt (.cells (sideC lv rv nth) false) = s4 at H3 a4 sL sR ⊢
  generalize s1.nxt = Bs at H3 e8
  have m0 : loadV s4 none (.pointer (some ⟨Bs, 0, none⟩)) = some lv := load_g (o := 0) (H3.cell (List.mem_cons_self ..))
  have m1 : loadV s4 none (.pointer (some ⟨Bs, 1, none⟩)) = some rv := load_g (o := 1) (H3.cell (List.mem_cons_self ..))
  have mw : loadV s4 (some 3) (.pointer (some ⟨Bs, 0, none⟩)) = some (sideV lv rv nth) := loadn_all (H3.cell (List.mem_cons_self ..)) rfl
  have mf : loadV s4 none (.pointer (some ⟨Bk, 0, none⟩)) = some (.func (.func (ruleF way)) #[] #[]) := load_g (o := 0) (H3.up2.cell (B := Bk) (cs := lookC way g t nth) (List.mem_cons_self ..))
  have d0 : decide (((A.length : Nat) : Int) + ((B.length : Nat) : Int) = 0) = decide (A ++ B = []) := decide_eq_decide.2 ⟨fun h => List.eq_nil_of_length_eq_zero (by rw [List.length_append]; omega), fun h => by
    have := congrArg List.length h
    rw [List.length_append, List.length_nil] at this
    omega⟩
  refine W_assoc ?_
  refine W_seq (W_ops [3, 8, 48] ?_)
  simp only [o37_3, WO_bin, WO_bu, WO_fieldAddr, fieldAddr_p, WO_load, bin_add, bin_eql, WO_nil, PureK_some, geT_put, evO_tmp, evO_const, keep_nil, keep_cons, keepK_eq, List.map_cons, List.map_nil, Nat.reduceEqDiff, ↓reduceIte, eq_self, Nat.zero_add, Nat.add_zero, e3, e8, m0, m1, sL.len, sR.len, wrap_i64 (n := ((A.length : Nat) : Int) + ((B.length : Nat) : Int)) (by omega) (by omega), d0]
  clear e3 e8
  intro fr e3 e8 e48
  refine SeqK_n ?_
  refine W_seq (W_if e48 (fun h0 => ?_) (fun h0 => W_skip (SeqK_n ?_)))
  · refine W_seq (W_ops [6] ?_)
    simp only [o37_4, WO_call, evO_const, List.map_cons, List.map_nil]
    refine CallK_of (run59 hX ho) ?_
    rintro _ _ ⟨rfl, rfl⟩
    simp only [WO_move, WO_nil, geT_put, evO_tmp, keep_nil, keep_cons, keepK_eq, ↓reduceIte, eq_self]
    clear e3 e8 e48
    intro fr e6
    refine SeqK_n ?_
    exact W_ret (SeqK_r (Ret1 e6 ⟨_, rfl, by rw [hLV, if_pos h0], H3.tail.tail.tail⟩))
  · skip
    refine W_seq (W_ops [6] ?_)
    simp only [o37_5, WO_fieldAddr, fieldAddr_p, WO_load, PureK_some, geT_put, evO_tmp, Nat.reduceEqDiff, ↓reduceIte, eq_self, Nat.add_zero, e3, e8, mf, mw]
    refine WO_callT ?_
    simp only [geT_put, evO_tmp, List.map_cons, List.map_nil, Nat.reduceEqDiff, ↓reduceIte, eq_self, FunK_0]
    refine CallK_of (run_rule hX ho (way := way) H3 sL sR (by omega) (by omega) h0 (by omega)) ?_
    rintro _ s5 ⟨x, rfl, hx, H5⟩
    simp only [WO_move, WO_nil, geT_put, evO_tmp, keep_nil, keep_cons, keepK_eq, ↓reduceIte, eq_self]
    clear e3 e8 e48
    intro fr e6
    refine SeqK_n ?_
    exact W_ret (Ret1 e6 ⟨x, rfl, by rw [hLV, if_neg h0]; exact hx, H5.tail.tail.tail⟩)

end Go.Proofs.Ytfjdihfflghfpaa

/- Cfar: looks made; levels and lines, walked. -/
namespace Go.Proofs.Ytfjdihfflghfpaa
open Go Go.Vam Go.Sort

def rulesV : Value := .agg #[cmpV 77, cmpV 80, cmpV 83, cmpV 85]
def rulesC : List Value := [cmpV 77, cmpV 80, cmpV 83, cmpV 85]
def nil4 : List Value := [.nilFunc, .nilFunc, .nilFunc, .nilFunc]
theorem rule_at {way w : Int} {s : Mm} {B : Nat} (hg : Store.get s.h B = some (.cells rulesC false)) (hw : w = if way < 0 ∨ 4 ≤ way then 0 else way) : addrArrV 4 1 (.pointer (some ⟨B, 0, none⟩)) (.int .i8 w) = some (.pointer (some ⟨B, w.toNat, none⟩)) ∧ loadV s none (.pointer (some ⟨B, w.toNat, none⟩)) = some (cmpV (ruleF way)) := by
  have hc : w = 0 ∨ w = 1 ∨ w = 2 ∨ w = 3 := by split at hw <;> omega
  have hr : ruleF way = ruleF w := by
    unfold ruleF
    split at hw
    · rename_i h
      rw [if_neg (by omega), if_neg (by omega), if_neg (by omega), hw]; rfl
    · rw [hw]
  rw [hr, load_g hg]
  rcases hc with h | h | h | h <;> (rw [h]; exact ⟨rfl, rfl⟩)

/-- What a look is told as. -/
def lookR (n : Nat) (way g t nth : Int) : Value := if lkE n g t nth = 0 then lookV way g t nth else look0


theorem run57 {X : Ctx} (hX : X.fns = fnsOf Try.prog) (ho : ∀ f args, f ≠ 10 ∧ f ≠ 24 → X.orc f args = none) {s0 s : Mm} {l : List HP} (H : Hold s0 s l) : CallP X 57 [] s (fun r s' => r = rulesV ∧ Hold s0 s' l) := by
  have hb1 : buildV [.nilFunc, .nilFunc, .nilFunc, .nilFunc] [(0, 1, cmpV 77), (1, 1, cmpV 80), (2, 1, cmpV 83), (3, 1, cmpV 85)] = some rulesV := rfl
  have hb2 : buildV [.nilFunc, .nilFunc, .nilFunc, .nilFunc] [(0, 4, rulesV)] = some rulesV := rfl
  have H1 := H.new nil4
  have st : storeV (newAt s (.cells nil4 false)) 4 (.pointer (some ⟨s.nxt, 0, none⟩)) rulesV = some (undefV, setBlk (newAt s (.cells nil4 false)) s.nxt (.cells rulesC false)) := store_all (vs := rulesC) (H1.cell (List.mem_cons_self ..)) rfl rfl rfl
  have H2 := H1.setc (cs' := rulesC)
  have hz : newAt s (.cells [.nilFunc, .nilFunc, .nilFunc, .nilFunc] false) = newAt s (.cells nil4 false) := rfl
  refine CallP_of (hX ▸ ir57_eq) (ho _ _ (by decide)) (Nat.le_of_ble_eq_true rfl) ?_
  refine W_seq (W_ops [0] ?_)
  simp only [o57_0, WO_alloc, WO_nil, geT_put, frame_nil, keep_nil, keep_cons, keepK_eq, ↓reduceIte, eq_self]
  intro fr e0
  refine SeqK_n ?_
  rw [hz]
  refine W_seq (W_ops [0] ?_)
  simp only [o57_1, WO_build, WO_store, WO_nil, PureK_some, MemK_some, geT_put, puT_none, evO_tmp, keep_nil, keep_cons, keepK_eq, List.map_cons, List.map_nil, Nat.reduceEqDiff, ↓reduceIte, eq_self, e0, evO_func, hb1, hb2, st]
  clear e0
  intro fr e0
  refine SeqK_n ?_
  exact W_ret (RetC1 e0 (loadn_all (H2.cell (List.mem_cons_self ..)) rfl) ⟨rfl, H2.tail⟩)

set_option maxHeartbeats 2000000 in
theorem run36 {X : Ctx} (hX : X.fns = fnsOf Try.prog) (ho : ∀ f args, f ≠ 10 ∧ f ≠ 24 → X.orc f args = none) {s0 s : Mm} {l : List HP} {v : Value} {L : List UInt64} {way g t nth : Int} (H : Hold s0 s l) (a : SlC s 1 v L.length (flT L)) (hw : -128 ≤ way ∧ way ≤ 127) :
    CallP X 36 [v, .int .i8 way, .int .i64 g, .int .i64 t, .int .i64 nth] s (fun r s' => r = .tuple #[lookR L.length way g t nth, .int .i64 (lkE L.length g t nth)] ∧ Hold s0 s' l) := by
  have hb0 : buildV [.nilFunc, .int .i64 0, .int .i64 0, .int .i64 0] [] = some look0 := rfl
  have H1 := H.new look0C
  have a1 := a.same (Same.new (s := s) (b := .cells look0C false)) (fun _ _ h => h)
  have st0 : storeV (newAt s (.cells look0C false)) 4 (.pointer (some ⟨s.nxt, 0, none⟩)) look0 = some (undefV, setBlk (newAt s (.cells look0C false)) s.nxt (.cells look0C false)) := store_all (vs := look0C) (H1.cell (List.mem_cons_self ..)) rfl rfl rfl
  have H0 := H1.setc (cs' := look0C)
  have hz : newAt s (.cells [.nilFunc, .int .i64 0, .int .i64 0, .int .i64 0] false) = newAt s (.cells look0C false) := rfl
  refine CallP_of (hX ▸ ir36_eq) (ho _ _ (by decide)) (Nat.le_of_ble_eq_true rfl) ?_
  refine W_seq (W_ops [0, 1, 2, 3, 4, 10] ?_)
  simp only [o36_0, WO_alloc, WO_move, WO_nil, geT_put, frame_nil, frame_cons, evO_const, keep_nil, keep_cons, keepK_eq, Nat.reduceEqDiff, Nat.reduceAdd, ↓reduceIte, eq_self, Nat.zero_add]
  intro fr e0 e1 e2 e3 e4 e10
  refine SeqK_n ?_
  rw [hz]
  have m0 := loadn_all (n := 4) (H0.cell (List.mem_cons_self ..)) rfl
  generalize setBlk (newAt s (.cells look0C false)) s.nxt (.cells look0C false) = s0' at st0 H0 m0
  generalize newAt s (.cells look0C false) = s1 at H1 a1 st0 ⊢
  generalize s.nxt = Bk at H1 H0 st0 e10 m0
  clear hz
  refine W_seq (W_cutR (fun fr1 s6 => s1 = s6 ∧ lkE L.length g t nth = 0 ∧ geT fr1 1 = .int .i8 way ∧ geT fr1 2 = .int .i64 g ∧ geT fr1 3 = .int .i64 t ∧ geT fr1 4 = .int .i64 nth ∧ geT fr1 10 = .pointer (some ⟨Bk, 0, none⟩)) ?_ ?_)
  · intro R' hR' hRr
    refine W_block ?_
    refine W_seq (W_ops [1, 2, 3, 4, 10, 13] ?_)
    simp only [o36_1, WO_bin, WO_bu, WO_move, bin_gtr, WO_nil, PureK_some, geT_put, evO_tmp, evO_const, keep_nil, keep_cons, keepK_eq, List.map_cons, List.map_nil, Nat.reduceEqDiff, ↓reduceIte, eq_self, e0, e1, e2, e3, e4, e10, a1.len]
    clear e0 e1 e2 e3 e4 e10
    intro fr e1 e2 e3 e4 e10 e13
    refine SeqK_n ?_
    refine W_if e13 (fun h => ?_) (fun h => ?_)
    · refine W_seq (W_ops [10, 11] ?_)
      simp only [o36_2, WO_build, WO_move, WO_store, WO_nil, PureK_some, MemK_some, geT_put, puT_none, evO_tmp, evO_const, keep_nil, keep_cons, keepK_eq, List.map_nil, Nat.reduceEqDiff, ↓reduceIte, eq_self, e10, hb0, st0]
      clear e1 e2 e3 e4 e10 e13
      intro fr e10 e11
      refine SeqK_n ?_
      refine W_ret (hRr _ _ (SeqK_r (RetC2 e10 m0 e11 ⟨?_, H0.tail⟩)))
      have : lkE L.length g t nth = 3 := by rw [lkE, if_pos (by omega)]
      rw [lookR, this, if_neg (by decide)]; rfl
    · refine W_seq (W_cutN (fun fr1 s6 => s1 = s6 ∧ geT fr1 1 = .int .i8 way ∧ geT fr1 2 = .int .i64 g ∧ geT fr1 3 = .int .i64 t ∧ geT fr1 4 = .int .i64 nth ∧ geT fr1 10 = .pointer (some ⟨Bk, 0, none⟩) ∧ geT fr1 18 = .bool (decide (badN g t nth))) ?_ ?_)
      · intro R'' hR''
        refine W_seq (W_ops [1, 2, 3, 4, 10, 18] ?_)
        simp only [o36_3, WO_bin, WO_move, bin_lss, WO_nil, PureK_some, geT_put, evO_tmp, evO_const, keep_nil, keep_cons, keepK_eq, Nat.reduceEqDiff, ↓reduceIte, eq_self, e1, e2, e3, e4, e10]
        clear e1 e2 e3 e4 e10 e13
        intro fr e1 e2 e3 e4 e10 e18
        refine SeqK_n ?_
        refine W_if e18 (fun q => W_skip (hR'' _ _ ⟨rfl, e1, e2, e3, e4, e10, by rw [e18, decide_eq_true q, decide_eq_true (show badN g t nth from .inl q)]⟩)) (fun q1 => ?_)
        refine W_seq (W_ops [1, 2, 3, 4, 10, 18] ?_)
        simp only [o36_4, WO_bin, WO_move, bin_gtr, WO_nil, PureK_some, geT_put, evO_tmp, evO_const, keep_nil, keep_cons, keepK_eq, Nat.reduceEqDiff, ↓reduceIte, eq_self, e1, e2, e3, e4, e10]
        clear e1 e2 e3 e4 e10 e18
        intro fr e1 e2 e3 e4 e10 e18
        refine SeqK_n ?_
        refine W_if e18 (fun q => W_skip (hR'' _ _ ⟨rfl, e1, e2, e3, e4, e10, by rw [e18, decide_eq_true q, decide_eq_true (show badN g t nth from .inr (.inl q))]⟩)) (fun q2 => ?_)
        refine W_seq (W_ops [1, 2, 3, 4, 10, 18] ?_)
        simp only [o36_5, WO_bin, WO_move, bin_lss, WO_nil, PureK_some, geT_put, evO_tmp, evO_const, keep_nil, keep_cons, keepK_eq, Nat.reduceEqDiff, ↓reduceIte, eq_self, e1, e2, e3, e4, e10]
        clear e1 e2 e3 e4 e10 e18
        intro fr e1 e2 e3 e4 e10 e18
        refine SeqK_n ?_
        refine W_if e18 (fun q => W_skip (hR'' _ _ ⟨rfl, e1, e2, e3, e4, e10, by rw [e18, decide_eq_true q, decide_eq_true (show badN g t nth from .inr (.inr (.inl q)))]⟩)) (fun q3 => ?_)
        refine W_seq (W_ops [1, 2, 3, 4, 10, 18] ?_)
        simp only [o36_6, WO_bin, WO_move, bin_gtr, WO_nil, PureK_some, geT_put, evO_tmp, evO_const, keep_nil, keep_cons, keepK_eq, Nat.reduceEqDiff, ↓reduceIte, eq_self, e1, e2, e3, e4, e10]
        clear e1 e2 e3 e4 e10 e18
        intro fr e1 e2 e3 e4 e10 e18
        refine SeqK_n ?_
        refine W_if e18 (fun q => W_skip (hR'' _ _ ⟨rfl, e1, e2, e3, e4, e10, by rw [e18, decide_eq_true q, decide_eq_true (show badN g t nth from .inr (.inr (.inr (.inl q))))]⟩)) (fun q4 => ?_)
        refine W_seq (W_ops [1, 2, 3, 4, 10, 18] ?_)
        simp only [o36_7, WO_bin, WO_move, bin_lss, WO_nil, PureK_some, geT_put, evO_tmp, evO_const, keep_nil, keep_cons, keepK_eq, Nat.reduceEqDiff, ↓reduceIte, eq_self, e1, e2, e3, e4, e10]
        clear e1 e2 e3 e4 e10 e18
        intro fr e1 e2 e3 e4 e10 e18
        refine SeqK_n ?_
        refine W_if e18 (fun q => W_skip (hR'' _ _ ⟨rfl, e1, e2, e3, e4, e10, by rw [e18, decide_eq_true q, decide_eq_true (show badN g t nth from .inr (.inr (.inr (.inr (.inl q)))))]⟩)) (fun q5 => ?_)
        refine W_ops [1, 2, 3, 4, 10, 18] ?_
        simp only [o36_8, WO_bin, WO_move, bin_gtr, WO_nil, PureK_some, geT_put, evO_tmp, evO_const, keep_nil, keep_cons, keepK_eq, Nat.reduceEqDiff, ↓reduceIte, eq_self, e1, e2, e3, e4, e10]
        clear e1 e2 e3 e4 e10 e18
        intro fr e1 e2 e3 e4 e10 e18
        exact hR'' _ _ ⟨rfl, e1, e2, e3, e4, e10, e18.trans (congrArg Value.bool (decide_eq_decide.2 ⟨fun q => .inr (.inr (.inr (.inr (.inr q)))), fun q => by unfold badN at q; omega⟩))⟩
      clear e1 e2 e3 e4 e10 e13 fr
      rintro fr _ ⟨rfl, e1, e2, e3, e4, e10, e18⟩
      refine SeqK_n ?_
      refine W_if e18 (fun hb => ?_) (fun hb => W_skip (hR' _ _ ⟨rfl, by rw [lkE, if_neg (by omega), if_neg hb], e1, e2, e3, e4, e10⟩))
      refine W_seq (W_ops [10, 11] ?_)
      simp only [o36_9, WO_build, WO_move, WO_store, WO_nil, PureK_some, MemK_some, geT_put, puT_none, evO_tmp, evO_const, keep_nil, keep_cons, keepK_eq, List.map_nil, Nat.reduceEqDiff, ↓reduceIte, eq_self, e10, hb0, st0]
      clear e1 e2 e3 e4 e10 e18
      intro fr e10 e11
      refine SeqK_n ?_
      refine W_ret (hRr _ _ (SeqK_r (RetC2 e10 m0 e11 ⟨?_, H0.tail⟩)))
      have : lkE L.length g t nth = 2 := by rw [lkE, if_neg (by omega), if_pos hb]
      rw [lookR, this, if_neg (by decide)]; rfl
  clear e0 e1 e2 e3 e4 e10 fr H0 st0 m0
  rintro fr _ ⟨rfl, hE, e1, e2, e3, e4, e10⟩
  refine SeqK_n ?_
  rw [lookR, hE, if_pos rfl]
  refine W_seq (W_ops [1, 2, 3, 4, 10, 12] ?_)
  simp only [o36_10, WO_call, List.map_nil]
  refine CallK_of (run57 hX ho H1) ?_
  rintro _ s2 ⟨rfl, H2⟩
  have H3 := H2.new nil4
  have st : storeV (newAt s2 (.cells nil4 false)) 4 (.pointer (some ⟨s2.nxt, 0, none⟩)) rulesV = some (undefV, setBlk (newAt s2 (.cells nil4 false)) s2.nxt (.cells rulesC false)) := store_all (vs := rulesC) (H3.cell (List.mem_cons_self ..)) rfl rfl rfl
  have H4 := H3.setc (cs' := rulesC)
  have hz : newAt s2 (.cells [.nilFunc, .nilFunc, .nilFunc, .nilFunc] false) = newAt s2 (.cells nil4 false) := rfl
  simp only [WO_alloc, WO_store, WO_nil, MemK_some, geT_put, puT_none, evO_tmp, keep_nil, keep_cons, keepK_eq, Nat.reduceEqDiff, ↓reduceIte, eq_self, e1, e2, e3, e4, e10, hz, st]
  clear e1 e2 e3 e4 e10
  intro fr e1 e2 e3 e4 e10 e12
  refine SeqK_n ?_
  clear H3 st hz
  generalize setBlk (newAt s2 (.cells nil4 false)) s2.nxt (.cells rulesC false) = s4 at H4 ⊢
  generalize s2.nxt = Br at H4 e12
  obtain ⟨w, hwd⟩ : ∃ w, w = (if way < 0 ∨ 4 ≤ way then 0 else way) := ⟨_, rfl⟩
  obtain ⟨hA, hL⟩ := rule_at (H4.cell (List.mem_cons_self ..)) hwd
  refine W_assoc ?_
  refine W_seq (W_opsB [1, 2, 3, 4, 10, 12, 39] (fun fr1 s6 => s4 = s6 ∧ geT fr1 1 = .int .i8 way ∧ geT fr1 2 = .int .i64 g ∧ geT fr1 3 = .int .i64 t ∧ geT fr1 4 = .int .i64 nth ∧ geT fr1 10 = .pointer (some ⟨Bk, 0, none⟩) ∧ geT fr1 12 = .pointer (some ⟨Br, 0, none⟩) ∧ geT fr1 39 = .bool (decide (way < 0 ∨ 4 ≤ way))) ?_ ?_)
  · intro R' hR'
    by_cases h : way < 0
    · skip
      simp only [o36_11, WO_bin, WO_move, WO_pick, pick_b, bin_lss, WO_nil, PureK_some, WO_guard, want_v, wantB_f, geT_put, evO_tmp, evO_const, keep_nil, keep_cons, keepK_eq, Nat.reduceEqDiff, ↓reduceIte, Bool.not_true, eq_self, Bool.false_eq_true, e1, e2, e3, e4, e10, e12, decide_eq_true h]
      intro fr e1 e2 e3 e4 e10 e12 e39
      exact hR' _ _ ⟨rfl, e1, e2, e3, e4, e10, e12, by rw [e39]; exact congrArg Value.bool (decide_eq_true (.inl h)).symm⟩
    · skip
      simp only [o36_11, WO_bin, WO_conv, conv_int, WO_move, WO_pick, pick_b, bin_geq, bin_lss, WO_nil, PureK_some, WO_guard, want_v, wantB_f, geT_put, evO_tmp, evO_const, keep_nil, keep_cons, keepK_eq, Nat.reduceEqDiff, ↓reduceIte, Bool.not_false, eq_self, Bool.false_eq_true, e1, e2, e3, e4, e10, e12, decide_eq_false h, wrap_i64 (n := way) (by omega) (by omega)]
      intro fr e1 e2 e3 e4 e10 e12 e39
      exact hR' _ _ ⟨rfl, e1, e2, e3, e4, e10, e12, by rw [e39]; exact congrArg Value.bool (decide_eq_decide.2 ⟨fun q => .inr q, fun q => by omega⟩)⟩
  clear e1 e2 e3 e4 e10 e12 fr
  rintro fr _ ⟨rfl, e1, e2, e3, e4, e10, e12, e39⟩
  refine SeqK_n ?_
  refine W_seq (W_cutN (fun fr1 s6 => s4 = s6 ∧ geT fr1 1 = .int .i8 w ∧ geT fr1 2 = .int .i64 g ∧ geT fr1 3 = .int .i64 t ∧ geT fr1 4 = .int .i64 nth ∧ geT fr1 10 = .pointer (some ⟨Bk, 0, none⟩) ∧ geT fr1 12 = .pointer (some ⟨Br, 0, none⟩)) ?_ ?_)
  · intro R' hR'
    refine W_if e39 (fun h => ?_) (fun h => ?_)
    · rw [if_pos h] at hwd
      refine W_ops [1, 2, 3, 4, 10, 12] ?_
      simp only [o36_12, WO_move, WO_nil, geT_put, evO_const, keep_nil, keep_cons, keepK_eq, Nat.reduceEqDiff, ↓reduceIte, eq_self, e2, e3, e4, e10, e12]
      clear e2 e3 e4 e10 e12 e39
      intro fr e1 e2 e3 e4 e10 e12
      exact hR' _ _ ⟨rfl, by rw [hwd]; exact e1, e2, e3, e4, e10, e12⟩
    · rw [if_neg h] at hwd
      exact W_skip (hR' _ _ ⟨rfl, by rw [hwd]; exact e1, e2, e3, e4, e10, e12⟩)
  clear e1 e2 e3 e4 e10 e12 e39 fr
  rintro fr _ ⟨rfl, e1, e2, e3, e4, e10, e12⟩
  refine SeqK_n ?_
  have hcv : cmpV (ruleF way) = .func (.func (ruleF way)) #[] #[] := rfl
  have hb5 : buildV [.nilFunc, .int .i64 0, .int .i64 0, .int .i64 0] [(0, 1, cmpV (ruleF way)), (1, 1, .int .i64 g), (2, 1, .int .i64 t), (3, 1, .int .i64 nth)] = some (lookV way g t nth) := rfl
  have H5 := H4.up1
  have st5 : storeV s4 4 (.pointer (some ⟨Bk, 0, none⟩)) (lookV way g t nth) = some (undefV, setBlk s4 Bk (.cells (lookC way g t nth) false)) := store_all (vs := lookC way g t nth) (H5.cell (List.mem_cons_self ..)) rfl rfl rfl
  have H6 := H5.setc (cs' := lookC way g t nth)
  refine W_seq (W_ops [10, 11] ?_)
  simp only [o36_13, WO_addrArr, WO_build, WO_fieldAddr, fieldAddr_p, WO_load, WO_move, WO_store, WO_nil, PureK_some, MemK_some, geT_put, puT_none, evO_tmp, evO_const, keep_nil, keep_cons, keepK_eq, List.map_cons, List.map_nil, Nat.reduceEqDiff, ↓reduceIte, eq_self, Nat.add_zero, e1, e2, e3, e4, e10, e12, hA, hL, hb5, st5]
  clear e1 e2 e3 e4 e10 e12
  intro fr e10 e11
  refine SeqK_n ?_
  exact W_ret (RetC2 e10 (loadn_all (H6.cell (List.mem_cons_self ..)) rfl) e11 ⟨rfl, H6.tail.tail⟩)

end Go.Proofs.Ytfjdihfflghfpaa
