/- The adder of an echo, walked. -/
import Derived.Test.YtmfaodenkghmkaaGreatTD
namespace Go.Proofs.YtmfaodenkghmkaaGreat
open Go Go.Vam

theorem sameO_cV {x : Cx} : sameO (some (cV x)) (cV x) = true := by simp [sameO, sameV, cV, beqV]
theorem sameO_all {A m n : Nat} : sameO (some (allV A m n)) (allV A m n) = true := sameO_sl
theorem len_all {A m n : Nat} : buV .len [allV A m n] = some (.int .i64 ((m * n : Nat) : Int)) := rfl
theorem addr_all {B m n k : Nat} (hk : k < m * n) : addrSlV 1 (allV B m n) (.int .i64 (k : Nat)) = some (.pointer (some ⟨B, k, none⟩)) := by
  simp only [addrSlV, idxV, allV]
  rw [if_pos ⟨by omega, by omega⟩]
  simp [add_none']
/-- What has been added when so many rows are done, and so much of the next. -/
def ecF (z : Cx) (g : Nat → Cx) (gt q p k i c : Nat) : Cx := if gt ≤ c ∧ (i < p ∧ c < gt + q ∨ i = p ∧ c < gt + k) then addC (0, 0) (mulC z (g (c - gt))) else (0, 0)
theorem ecF_zero {z : Cx} {g : Nat → Cx} {gt q : Nat} : ecF z g gt q 0 0 = fun _ _ => (0, 0) := by
  funext i c
  exact if_neg (by omega)
theorem ecF_next {z : Cx} {g : Nat → Cx} {gt q p : Nat} : ecF z g gt q p q = ecF z g gt q (p + 1) 0 := by
  funext i c
  unfold ecF
  have : (gt ≤ c ∧ (i < p ∧ c < gt + q ∨ i = p ∧ c < gt + q)) = (gt ≤ c ∧ (i < p + 1 ∧ c < gt + q ∨ i = p + 1 ∧ c < gt + 0)) := by
    apply propext; omega
  simp only [this]
theorem ecF_at {z : Cx} {g : Nat → Cx} {gt q p k : Nat} : ecF z g gt q p k p (gt + k) = (0, 0) := if_neg (by omega)
theorem ecF_on {z : Cx} {g : Nat → Cx} {gt q p k : Nat} : ecF z g gt q p (k + 1) p (gt + k) = addC (0, 0) (mulC z (g k)) := by
  rw [ecF, if_pos (by omega), Nat.add_sub_cancel_left]
theorem ecF_off {z : Cx} {g : Nat → Cx} {gt q p k i c : Nat} (h : i = p → c ≠ gt + k) : ecF z g gt q p k i c = ecF z g gt q p (k + 1) i c := by
  unfold ecF
  have : (gt ≤ c ∧ (i < p ∧ c < gt + q ∨ i = p ∧ c < gt + k)) = (gt ≤ c ∧ (i < p ∧ c < gt + q ∨ i = p ∧ c < gt + (k + 1))) := by
    apply propext; omega
  simp only [this]


set_option maxHeartbeats 2000000 in
theorem run67 {X : Ctx} (hX : X.fns = fnsOf Tryz.prog) (ho : ∀ f args s, f ≠ 7 → X.orc f args s = none) {s0 s : Mm} {l : List HP} {b1 b2 b3 b4 A c w r x v a t be m n q gt R d : Nat} {g : Nat → Cx} {pv : Value} (tr : Nat)
    (hm : 1 ≤ m ∧ m ≤ 256) (hn : 1 ≤ n ∧ n ≤ 4096) (hmn : m * n ≤ 4096) (hq : gt + q ≤ n)
    (b : SlC s0 1 pv q (fV q g))
    (H0 : Hold s0 s (HP.cell A (gridV m n fun _ _ => (0, 0)) :: HP.cell b4 [allV A m n] :: HP.cell b3 [.float .f64 x] :: HP.cell b2 [pv] :: HP.cell b1 (bC c w r (n : Nat) (m : Nat)) :: l))
    (hR : ∀ p, p < m → fadd .f64 tr (fmul .f64 v (fadd .f64 x (fdiv .f64 (FloatKind.f64.nearest ((p * n : Nat) : Int)) r))) = R) (hRf : Vam.Fn R)
    (hfl : extV 2 [.float .f64 (fdiv .f64 R c)] = some (.float .f64 d)) (hd0 : (ford .f64 d 0 == some .gt || ford .f64 d 0 == some .eq) = true)
    (hd1 : (ford .f64 d 4742290407621132288 == some .lt || ford .f64 d 4742290407621132288 == some .eq) = true) (hdi : convV (.toInt .i64) (.float .f64 d) = some (.int .i64 (gt : Nat)))
    (hy : Vam.Fn (fsub .f64 t (fdiv .f64 (fmul .f64 4611686018427387904 R) w))) {y : Nat} (hy2 : wrapF (fsub .f64 t (fdiv .f64 (fmul .f64 4611686018427387904 R) w)) = y) (hy3 : Vam.Fn y) :
    CallP X 67 [tV tr v a t be, .pointer (some ⟨b1, 0, none⟩), .pointer (some ⟨b3, 0, none⟩), .pointer (some ⟨b2, 0, none⟩), .pointer (some ⟨b4, 0, none⟩)] s
      (fun _ s' => Hold s0 s' (HP.cell A (gridV m n (ecF (scaC (turnC y, turnS y) a) g gt q m 0)) :: l)) := by
  have hbx : (tV tr v a t be).cells.toList = tC tr v a t be := rfl
  have H1 := (H0.new (tC tr v a t be)).up1
  have em : ((m : Nat) : Int) * ((n : Nat) : Int) = ((m * n : Nat) : Int) := (Int.natCast_mul ..).symm
  obtain ⟨z, hz⟩ : ∃ z, z = scaC (turnC y, turnS y) a := ⟨_, rfl⟩
  refine CallP_of (hX ▸ ir67_eq) (ho _ _ _ (by decide)) (Nat.le_of_ble_eq_true rfl) ?_
  refine W_seq (W_ops [1, 2, 3, 4, 5] ?_)
  simp only [o67_0, wO, ↓reduceIte, Nat.reduceEqDiff, Nat.reduceAdd, hbx]
  intro fr e1 e2 e3 e4 e5
  refine SeqK_n ?_
  generalize newAt s (.cells (tC tr v a t be) false) = s1 at H1 ⊢
  generalize s.nxt = b5 at H1 e5
  have lk : ∀ {s'} {G : List Value}, Hold s0 s' (HP.cell A G :: HP.cell b5 (tC tr v a t be) :: HP.cell b4 [allV A m n] :: HP.cell b3 [.float .f64 x] :: HP.cell b2 [pv] :: HP.cell b1 (bC c w r (n : Nat) (m : Nat)) :: l) →
      loadV s' (some 5) (.pointer (some ⟨b5, 0, none⟩)) = some (tV tr v a t be) ∧ loadV s' none (.pointer (some ⟨b5, 2, none⟩)) = some (.float .f64 a) ∧ loadV s' none (.pointer (some ⟨b5, 3, none⟩)) = some (.float .f64 t) ∧
      loadV s' none (.pointer (some ⟨b4, 0, none⟩)) = some (allV A m n) ∧ loadV s' none (.pointer (some ⟨b3, 0, none⟩)) = some (.float .f64 x) ∧ loadV s' none (.pointer (some ⟨b2, 0, none⟩)) = some pv ∧
      loadV s' none (.pointer (some ⟨b1, 0, none⟩)) = some (.float .f64 c) ∧ loadV s' none (.pointer (some ⟨b1, 1, none⟩)) = some (.float .f64 w) ∧ loadV s' none (.pointer (some ⟨b1, 2, none⟩)) = some (.float .f64 r) ∧
      loadV s' none (.pointer (some ⟨b1, 3, none⟩)) = some (.int .i64 (n : Nat)) ∧ loadV s' none (.pointer (some ⟨b1, 4, none⟩)) = some (.int .i64 (m : Nat)) := fun h => by
    have c5 := h.cell (B := b5) (cs := tC tr v a t be) (by simp)
    have c4 := h.cell (B := b4) (cs := [allV A m n]) (by simp)
    have c3 := h.cell (B := b3) (cs := [.float .f64 x]) (by simp)
    have c2 := h.cell (B := b2) (cs := [pv]) (by simp)
    have c1 := h.cell (B := b1) (cs := bC c w r (n : Nat) (m : Nat)) (by simp)
    exact ⟨loadn_all c5 rfl, load_g (o := 2) c5, load_g (o := 3) c5, load_g (o := 0) c4, load_g (o := 0) c3, load_g (o := 0) c2, load_g (o := 0) c1, load_g (o := 1) c1, load_g (o := 2) c1, load_g (o := 3) c1, load_g (o := 4) c1⟩
  have k14 := (lk H1).2.2.2.2.2.2.2.2.2.2
  refine W_seq (W_ops [1, 2, 3, 4, 5, 14, 15] ?_)
  simp only [o67_1, wO, ↓reduceIte, Nat.reduceEqDiff, e1, e2, e3, e4, e5, k14]
  clear e1 e2 e3 e4 e5
  intro fr e1 e2 e3 e4 e5 e14 e15
  refine SeqK_n ?_
  rw [← ecF_zero (z := z) (g := g) (gt := gt) (q := q)] at H1
  refine W_block (W_loop (fun mm fr s2 => ∃ p : Nat, p + mm = m ∧ geT fr 1 = .pointer (some ⟨b1, 0, none⟩) ∧ geT fr 2 = .pointer (some ⟨b3, 0, none⟩) ∧ geT fr 3 = .pointer (some ⟨b2, 0, none⟩) ∧ geT fr 4 = .pointer (some ⟨b4, 0, none⟩) ∧ geT fr 5 = .pointer (some ⟨b5, 0, none⟩) ∧ geT fr 14 = .int .i64 (m : Nat) ∧ geT fr 15 = .int .i64 (p : Nat) ∧
    Hold s0 s2 (HP.cell A (gridV m n (ecF z g gt q p 0)) :: HP.cell b5 (tC tr v a t be) :: HP.cell b4 [allV A m n] :: HP.cell b3 [.float .f64 x] :: HP.cell b2 [pv] :: HP.cell b1 (bC c w r (n : Nat) (m : Nat)) :: l)) m ⟨0, by omega, e1, e2, e3, e4, e5, e14, e15, H1⟩ ?_)
  clear e1 e2 e3 e4 e5 e14 e15 fr H1 k14 s1
  rintro mm fr s1 ⟨p, hp, e1, e2, e3, e4, e5, e14, e15, H⟩
  obtain ⟨k50, k52, k53, k4, k3, k2, k10, k11, k12, k13, k14⟩ := lk H
  refine W_seq (W_ops [1, 2, 3, 4, 5, 14, 15, 16] ?_)
  simp only [o67_3, wO, ↓reduceIte, Nat.reduceEqDiff, e1, e2, e3, e4, e5, e14, e15]
  clear e1 e2 e3 e4 e5 e14 e15
  intro fr e1 e2 e3 e4 e5 e14 e15 e16
  refine SeqK_n ?_
  refine W_while e16 (fun hlt => ?_) (fun hlt => ?_)
  · have hp1 : p < m := by omega
    have hpn := le_grid (n := n) hp1
    have ep : ((p : Nat) : Int) * ((n : Nat) : Int) = ((p * n : Nat) : Int) := (Int.natCast_mul ..).symm
    have hRp := hR p hp1
    refine W_seq (W_block ?_)
    refine W_seq (W_ops [1, 2, 3, 4, 5, 6, 14, 15] ?_)
    simp only [o67_4, wO, ↓reduceIte, Nat.reduceEqDiff, e1, e2, e3, e4, e5, e14, e15]
    clear e1 e2 e3 e4 e5 e14 e15 e16
    intro fr e1 e2 e3 e4 e5 e6 e14 e15
    refine SeqK_n ?_
    refine W_seq (W_ops [1, 2, 3, 4, 5, 7, 14, 15] ?_)
    simp only [o67_5, wO, ↓reduceIte, Nat.reduceEqDiff, e1, e2, e3, e4, e5, e6, e14, e15, k13, ep, wrap_i64 (n := ((p * n : Nat) : Int)) (by omega) (by omega)]
    clear e1 e2 e3 e4 e5 e6 e14 e15
    intro fr e1 e2 e3 e4 e5 e7 e14 e15
    refine SeqK_n ?_
    refine W_seq (W_ops [1, 2, 3, 4, 5, 7, 8, 14, 15] ?_)
    simp only [o67_6, wO, ↓reduceIte, Nat.reduceEqDiff, e1, e2, e5, e7, k50, k3, k12]
    refine CallK_of (run68 hX ho) ?_
    rintro _ s2 ⟨rfl, hs2⟩
    simp only [wO, ↓reduceIte, Nat.reduceEqDiff, e1, e2, e3, e4, e5, e7, e14, e15, hRp]
    clear e1 e2 e3 e4 e5 e7 e14 e15
    intro fr e1 e2 e3 e4 e5 e7 e8 e14 e15
    refine SeqK_n ?_
    have H2 := H.keep hs2
    clear H k50 k52 k53 k4 k3 k2 k10 k11 k12 k13 k14 hs2 s1
    obtain ⟨k50, k52, k53, k4, k3, k2, k10, k11, k12, k13, k14⟩ := lk H2
    refine W_seq (W_ops [1, 2, 3, 4, 5, 7, 8, 9, 14, 15] ?_)
    simp only [o67_7, wO, ↓reduceIte, Nat.reduceEqDiff, e1, e8, k10]
    refine CallK_of (run69 hX ho hfl) ?_
    rintro _ _ ⟨rfl, rfl⟩
    simp only [wO, ↓reduceIte, Nat.reduceEqDiff, e1, e2, e3, e4, e5, e7, e8, e14, e15]
    clear e1 e2 e3 e4 e5 e7 e8 e14 e15
    intro fr e1 e2 e3 e4 e5 e7 e8 e9 e14 e15
    refine SeqK_n ?_
    have bs : buildSlV s2 1 [.float .f64 0] 1 [(0, 1, .float .f64 R)] = some (.slice (some ⟨s2.nxt, 0, none⟩) 1 1, .cells [.float .f64 R] false) := rfl
    have H3 := H2.new [.float .f64 R]
    have sl0 : SlC (newAt s2 (.cells [.float .f64 R] false)) 1 (.slice (some ⟨s2.nxt, 0, none⟩) 1 1) 1 [.float .f64 R] :=
      .mk blk_new_self (by rw [nxt_new]; omega) (by simp) (by simp) (.inl ⟨by omega, by unfold OPEN; omega⟩)
    have sl : SlC (newAt s2 (.cells [.float .f64 R] false)) 1 (.slice (some ⟨s2.nxt, 0, none⟩) 1 1) 1 (flV 1 fun _ => R) := sl0
    refine W_assoc ?_
    refine W_seq (W_ops [1, 2, 3, 4, 5, 7, 8, 9, 14, 15, 48] ?_)
    simp only [o67_8, wO, ↓reduceIte, e8, bs]
    refine CallK_of (run40 hX ho sl (by omega) (fun _ _ => hRf)) ?_
    rintro _ _ ⟨rfl, rfl⟩
    simp only [wO, ↓reduceIte, Nat.reduceEqDiff, e1, e2, e3, e4, e5, e7, e8, e9, e14, e15, hd0, hd1]
    clear e1 e2 e3 e4 e5 e7 e8 e9 e14 e15
    intro fr e1 e2 e3 e4 e5 e7 e8 e9 e14 e15 e48
    refine SeqK_n ?_
    have H4 := H3.tail
    clear H3 H2 sl sl0 bs k50 k52 k53 k4 k3 k2 k10 k11 k12 k13 k14
    generalize newAt s2 (.cells [.float .f64 R] false) = s3 at H4 ⊢
    obtain ⟨k50, k52, k53, k4, k3, k2, k10, k11, k12, k13, k14⟩ := lk H4
    refine W_seq (W_cond e48 (fun h => by cases h) (fun _ => W_skip (SeqK_n ?_)))
    refine W_seq (W_draw0 [1, 2, 3, 4, 5, 7, 9, 10, 14, 15] rfl ?_)
    simp only [d67_9, wD, ↓reduceIte, Nat.reduceEqDiff, Nat.reduceAdd, e1, e5, e8, k53, k11]
    refine DCallK_of rfl (run38 hX ho hy (by rw [hy2]; exact hy3)) ?_
    rintro _ s4 ⟨rfl, hs4⟩
    have H5 := H4.keep hs4
    obtain ⟨j50, j52, j53, j4, j3, j2, j10, j11, j12, j13, j14⟩ := lk H5
    have hcv : ∀ u v : Nat, Value.complex .f64 u v = cV (u, v) := fun _ _ => rfl
    simp only [wD, Nat.testBit, Nat.reduceShiftRight, Nat.reduceAnd, Nat.reduceBneDiff, ↓reduceIte, Nat.reduceEqDiff, Nat.reduceAdd, e5, hy2, hcv, k52, j52, j53, j11]
    refine DCallK_of rfl (run70c hX ho) ?_
    rintro _ _ ⟨rfl, rfl⟩
    simp only [wD, Nat.testBit, Nat.reduceShiftRight, Nat.reduceAnd, Nat.reduceBneDiff, ↓reduceIte, Nat.reduceEqDiff, Nat.reduceAdd, e1, e2, e3, e4, e5, e7, e9, e14, e15, ← hz]
    clear e1 e2 e3 e4 e5 e7 e8 e9 e14 e15
    intro fr e1 e2 e3 e4 e5 e7 e9 e10 e14 e15
    refine SeqK_n ?_
    clear H4 k50 k52 k53 k4 k3 k2 k10 k11 k12 k13 k14 hs4 s3
    have ea : ((p * n : Nat) : Int) + ((gt : Nat) : Int) = ((p * n + gt : Nat) : Int) := (Int.natCast_add ..).symm
    refine W_seq (W_ops [1, 2, 3, 4, 5, 10, 11, 14, 15] ?_)
    simp only [o67_10, wO, ↓reduceIte, Nat.reduceEqDiff, e1, e2, e3, e4, e5, e7, e9, e10, e14, e15, hdi, ea, wrap_i64 (n := ((p * n + gt : Nat) : Int)) (by omega) (by omega)]
    clear e1 e2 e3 e4 e5 e7 e9 e10 e14 e15
    intro fr e1 e2 e3 e4 e5 e10 e11 e14 e15
    refine SeqK_n ?_
    obtain ⟨D, hD⟩ : ∃ D, D = m * n - (p * n + gt) := ⟨_, rfl⟩
    have eD : ((m * n : Nat) : Int) - ((p * n + gt : Nat) : Int) = ((D : Nat) : Int) := by omega
    have hmx : (if ((D : Nat) : Int) > 0 then ((D : Nat) : Int) else 0) = ((D : Nat) : Int) := by split <;> omega
    have hmn2 : (if ((D : Nat) : Int) < ((q : Nat) : Int) then ((D : Nat) : Int) else ((q : Nat) : Int)) = ((q : Nat) : Int) := by split <;> omega
    refine W_seq (W_ops [1, 2, 3, 4, 5, 10, 11, 14, 15, 72, 73] ?_)
    simp only [o67_11, wO, ↓reduceIte, Nat.reduceEqDiff, e1, e2, e3, e4, e5, e10, e11, e14, e15, j2, j4, (b.same H5.same (fun _ _ h => h)).len, len_all, eD, wrap_i64 (n := ((D : Nat) : Int)) (by omega) (by omega), hmx, hmn2]
    clear e1 e2 e3 e4 e5 e10 e11 e14 e15
    intro fr e1 e2 e3 e4 e5 e10 e11 e14 e15 e72 e73
    refine SeqK_n ?_
    clear hmx hmn2 eD
    refine W_block (W_loop (fun m2 fr s2 => ∃ k : Nat, k + m2 = q ∧ geT fr 1 = .pointer (some ⟨b1, 0, none⟩) ∧ geT fr 2 = .pointer (some ⟨b3, 0, none⟩) ∧ geT fr 3 = .pointer (some ⟨b2, 0, none⟩) ∧ geT fr 4 = .pointer (some ⟨b4, 0, none⟩) ∧ geT fr 5 = .pointer (some ⟨b5, 0, none⟩) ∧ geT fr 10 = cV z ∧ geT fr 11 = .int .i64 ((p * n + gt : Nat) : Int) ∧ geT fr 14 = .int .i64 (m : Nat) ∧ geT fr 15 = .int .i64 (p : Nat) ∧ geT fr 72 = .int .i64 (q : Nat) ∧ geT fr 73 = .int .i64 (k : Nat) ∧
      Hold s0 s2 (HP.cell A (gridV m n (ecF z g gt q p k)) :: HP.cell b5 (tC tr v a t be) :: HP.cell b4 [allV A m n] :: HP.cell b3 [.float .f64 x] :: HP.cell b2 [pv] :: HP.cell b1 (bC c w r (n : Nat) (m : Nat)) :: l)) q ⟨0, by omega, e1, e2, e3, e4, e5, e10, e11, e14, e15, e72, e73, H5⟩ ?_)
    clear e1 e2 e3 e4 e5 e10 e11 e14 e15 e72 e73 fr H5 j50 j52 j53 j4 j3 j2 j10 j11 j12 j13 j14 s4
    rintro m2 fr s1 ⟨k, hk, e1, e2, e3, e4, e5, e10, e11, e14, e15, e72, e73, H⟩
    obtain ⟨-, -, -, k4, -, k2, -, -, -, -, -⟩ := lk H
    refine W_seq (W_ops [1, 2, 3, 4, 5, 10, 11, 14, 15, 72, 73, 74] ?_)
    simp only [o67_13, wO, ↓reduceIte, Nat.reduceEqDiff, e1, e2, e3, e4, e5, e10, e11, e14, e15, e72, e73]
    clear e1 e2 e3 e4 e5 e10 e11 e14 e15 e72 e73
    intro fr e1 e2 e3 e4 e5 e10 e11 e14 e15 e72 e73 e74
    refine SeqK_n ?_
    refine W_while e74 (fun hlt2 => ?_) (fun hlt2 => ?_)
    · have hk1 : k < q := by omega
      have hc : gt + k < n := by omega
      have hidx : p * n + (gt + k) < m * n := by omega
      have ea2 : ((p * n + gt : Nat) : Int) + ((k : Nat) : Int) = ((p * n + (gt + k) : Nat) : Int) := by omega
      have bb := b.same H.same (fun _ _ h => h)
      have A2 := bb.addr (kk := .i64) (i := ((k : Nat) : Int)) rfl hk1
      rw [Nat.mul_one] at A2
      have L2 := bb.load (fV_at g hk1)
      have A1 := addr_all (B := A) hidx
      have hce := H.cell (B := A) (cs := gridV m n (ecF z g gt q p k)) (List.mem_cons_self ..)
      have L1 : loadV s1 none (.pointer (some ⟨A, p * n + (gt + k), none⟩)) = some (cV (0, 0)) := (load_g hce).trans (by rw [gridV_at _ hp1 hc, ecF_at])
      have st := store_g (x := cV (addC (0, 0) (mulC z (g k)))) hce rfl (show p * n + (gt + k) < _ by rw [gridV_len]; exact hidx)
      have H2 := H.setc (cs' := (gridV m n (ecF z g gt q p k)).set (p * n + (gt + k)) (cV (addC (0, 0) (mulC z (g k)))))
      have hset : (gridV m n (ecF z g gt q p k)).set (p * n + (gt + k)) (cV (addC (0, 0) (mulC z (g k)))) = gridV m n (ecF z g gt q p (k + 1)) := by
        rw [← ecF_on (z := z) (g := g) (gt := gt) (q := q) (p := p) (k := k)]
        exact gridV_set hp1 hc fun i c _ h => ecF_off fun h1 => h h1
      rw [hset] at H2 st
      refine W_seq (W_block ?_)
      refine W_seq (W_ops [1, 2, 3, 4, 5, 10, 11, 12, 14, 15, 72, 73] ?_)
      simp only [o67_14, wO, ↓reduceIte, Nat.reduceEqDiff, e1, e2, e3, e4, e5, e10, e11, e14, e15, e72, e73]
      clear e1 e2 e3 e4 e5 e10 e11 e14 e15 e72 e73 e74
      intro fr e1 e2 e3 e4 e5 e10 e11 e12 e14 e15 e72 e73
      refine SeqK_n ?_
      refine W_draw0 [1, 2, 3, 4, 5, 10, 11, 14, 15, 72, 73] rfl ?_
      simp only [d67_15, wD, ↓reduceIte, Nat.reduceEqDiff, Nat.reduceAdd, e3, e4, e10, e11, e12, k4, k2, ea2, wrap_i64 (n := ((p * n + (gt + k) : Nat) : Int)) (by omega) (by omega), A1, A2, L1, L2]
      refine DCallK_of rfl (run71c hX ho) ?_
      rintro _ _ ⟨rfl, rfl⟩
      simp only [wD, Nat.testBit, Nat.reduceShiftRight, Nat.reduceAnd, Nat.reduceBneDiff, ↓reduceIte, Nat.reduceEqDiff, Nat.reduceAdd, e1, e2, e3, e4, e5, e10, e11, e14, e15, e72, e73, bin_cV, A1, st, k4, L1, sameO_all, sameO_cV]
      clear e1 e2 e3 e4 e5 e10 e11 e12 e14 e15 e72 e73
      intro fr e1 e2 e3 e4 e5 e10 e11 e14 e15 e72 e73
      refine BlkK_n (SeqK_n ?_)
      refine W_ops [1, 2, 3, 4, 5, 10, 11, 14, 15, 72, 73] ?_
      simp only [o67_16, wO, ↓reduceIte, Nat.reduceEqDiff, e1, e2, e3, e4, e5, e10, e11, e14, e15, e72, e73, wrap_i64 (n := (k : Int) + 1) (by omega) (by omega)]
      clear e1 e2 e3 e4 e5 e10 e11 e14 e15 e72 e73
      intro fr e1 e2 e3 e4 e5 e10 e11 e14 e15 e72 e73
      exact LoopK_n (m' := m2 - 1) (by omega) ⟨k + 1, by omega, e1, e2, e3, e4, e5, e10, e11, e14, e15, e72, by rw [e73]; rfl, H2⟩
    · have hkq : k = q := by omega
      subst hkq
      rw [ecF_next] at H
      refine LoopK_x (BlkK_e (BlkK_n (SeqK_n ?_)))
      refine W_ops [1, 2, 3, 4, 5, 14, 15] ?_
      simp only [o67_17, wO, ↓reduceIte, Nat.reduceEqDiff, e1, e2, e3, e4, e5, e14, e15, wrap_i64 (n := (p : Int) + 1) (by omega) (by omega)]
      clear e1 e2 e3 e4 e5 e14 e15
      intro fr e1 e2 e3 e4 e5 e14 e15
      exact LoopK_n (m' := mm - 1) (by omega) ⟨p + 1, by omega, e1, e2, e3, e4, e5, e14, by rw [e15]; rfl, H⟩
  · have hpm : p = m := by omega
    subst hpm
    refine LoopK_x (BlkK_e (Ret0n ?_))
    rw [hz] at H
    exact H.sub (.cons_cons _ (.cons _ (.cons _ (.cons _ (.cons _ (.cons _ (List.Sublist.refl _)))))))

end Go.Proofs.YtmfaodenkghmkaaGreat

/- Rows of a scene with one target, walked. -/
namespace Go.Proofs.YtmfaodenkghmkaaGreat
open Go Go.Vam

theorem slc_new {s : Mm} {cs : List Value} {n : Nat} (h : cs.length = n) (hn : n ≤ 8) : SlC (newAt s (.cells cs false)) 1 (.slice (some ⟨s.nxt, 0, none⟩) n n) n cs :=
  .mk blk_new_self (by rw [nxt_new]; omega) (by simp [← h]) (by omega) (.inl ⟨by omega, by unfold OPEN; omega⟩)


set_option maxHeartbeats 1000000 in
theorem run39 {X : Ctx} (hX : X.fns = fnsOf Tryz.prog) (ho : ∀ f args s, f ≠ 7 → X.orc f args s = none) {s : Mm} {c w r m n q : Nat} {pv : Value} {cs : List Value} (hb : beatE c w r (n : Nat) (m : Nat) = 0) (hm : 1 ≤ m ∧ m ≤ 256) (hq : 1 ≤ q ∧ q ≤ 256) (b : SlC s 1 pv q cs) :
    CallP X 39 [bV c w r (n : Nat) (m : Nat), pv, .int .i64 1] s (fun v s' => v = .int .i64 0 ∧ Same s s' (fun _ => False)) := by
  have hbx : (bV c w r (n : Nat) (m : Nat)).cells.toList = bC c w r (n : Nat) (m : Nat) := rfl
  have H1 := (Hold.refl s).new (bC c w r (n : Nat) (m : Nat))
  have m1 : loadV (newAt s (.cells (bC c w r (n : Nat) (m : Nat)) false)) (some 5) (.pointer (some ⟨s.nxt, 0, none⟩)) = some (bV c w r (n : Nat) (m : Nat)) := loadn_all (H1.cell (List.mem_cons_self ..)) rfl
  have d0 : decide (((q : Nat) : Int) = 0) = false := decide_eq_false (by omega)
  have hmq : m * q ≤ 256 * 256 := Nat.mul_le_mul hm.2 hq.2
  have d1 : decide ((16384 : Int) < ((q : Nat) : Int)) = false := decide_eq_false (by omega)
  have em : (1 : Int) * ((m : Nat) : Int) = ((m : Nat) : Int) := Int.one_mul _
  have em2 : ((m : Nat) : Int) * ((q : Nat) : Int) = ((m * q : Nat) : Int) := (Int.natCast_mul ..).symm
  have d2 : decide ((16777216 : Int) < ((m * q : Nat) : Int)) = false := decide_eq_false (by omega)
  refine CallP_of (hX ▸ ir39_eq) (ho _ _ _ (by decide)) (Nat.le_of_ble_eq_true rfl) ?_
  refine W_seq (W_ops [1, 2, 3] ?_)
  simp only [o39_0, wO, ↓reduceIte, Nat.reduceEqDiff, Nat.reduceAdd, hbx]
  intro fr e1 e2 e3
  refine SeqK_n ?_
  generalize newAt s (.cells (bC c w r (n : Nat) (m : Nat)) false) = s1 at H1 m1 ⊢
  generalize s.nxt = B at H1 m1 e3
  refine W_assoc ?_
  refine W_seq (W_ops [1, 2, 3, 7] ?_)
  simp only [o39_1, wO, ↓reduceIte, e3, m1]
  refine CallK_of (run13 hX ho) ?_
  rintro _ s2 ⟨rfl, hs2⟩
  have H2 := H1.keep hs2
  have m4 : loadV s2 none (.pointer (some ⟨B, 4, none⟩)) = some (.int .i64 (m : Nat)) := load_g (o := 4) (H2.cell (List.mem_cons_self ..))
  have bl := (b.same H2.same (fun _ _ h => h)).len
  simp only [wO, ↓reduceIte, Nat.reduceEqDiff, e1, e2, e3, hb]
  clear e1 e2 e3
  intro fr e1 e2 e3 e7
  refine SeqK_n ?_
  refine W_assoc ?_
  refine W_seq (W_ops [1, 2, 3, 7, 11] ?_)
  simp only [o39_2, wO, ↓reduceIte, Nat.reduceEqDiff, e1, e2, e3, e7]
  clear e1 e2 e3 e7
  intro fr e1 e2 e3 e7 e11
  refine SeqK_n ?_
  refine W_seq (W_cond e11 (fun h => by cases h) (fun _ => W_skip (SeqK_n ?_)))
  refine W_assoc ?_
  refine W_seq (W_ops [1, 2, 3, 15] ?_)
  simp only [o39_4, wO, ↓reduceIte, Nat.reduceEqDiff, e1, e2, e3, bl, d0]
  clear e1 e2 e3
  intro fr e1 e2 e3 e15
  refine SeqK_n ?_
  refine W_seq (W_cond e15 (fun h => by cases h) (fun _ => W_skip (SeqK_n ?_)))
  refine W_assoc ?_
  refine W_seq (W_ops [32] ?_)
  simp only [o39_6, wO, ↓reduceIte, Nat.reduceEqDiff, Int.reduceLT, e1, e2, e3, bl, d1, m4, em, wrap_i64 (n := ((m : Nat) : Int)) (by omega) (by omega), em2, wrap_i64 (n := ((m * q : Nat) : Int)) (by omega) (by omega), d2]
  clear e1 e2 e3
  intro fr e32
  refine SeqK_n ?_
  refine W_seq (W_cond e32 (fun h => by cases h) (fun _ => W_skip (SeqK_n ?_)))
  refine W_seq (W_ops [6] ?_)
  simp only [o39_8, wO, ↓reduceIte]
  clear e32
  intro fr e6
  refine SeqK_n ?_
  exact W_ret (Ret1 e6 ⟨rfl, H2.same⟩)

set_option maxHeartbeats 4000000 in
theorem run21 {X : Ctx} (hX : X.fns = fnsOf Tryz.prog) (ho : ∀ f args s, f ≠ 7 → X.orc f args s = none) {s0 s : Mm} {l : List HP} {c w r x v a t be m n q gt R d sd : Nat} {g : Nat → Cx} {pv lv : Value} (tr : Nat) (H0 : Hold s0 s l)
    (hb : beatE c w r (n : Nat) (m : Nat) = 0) (hm : 1 ≤ m ∧ m ≤ 256) (hn : 1 ≤ n ∧ n ≤ 4096) (hmn : m * n ≤ 4096) (hq : gt + q ≤ n) (hq1 : 1 ≤ q ∧ q ≤ 256)
    (b : SlC s 1 pv q (fV q g)) (lb : SlC s 5 lv 1 (tC tr v a t be)) (hx : Vam.Fn x) (htr : Vam.Fn tr) (hv : Vam.Fn v) (ha : Vam.Fn a) (ht : Vam.Fn t)
    (hR : ∀ p, p < m → fadd .f64 tr (fmul .f64 v (fadd .f64 x (fdiv .f64 (FloatKind.f64.nearest ((p * n : Nat) : Int)) r))) = R) (hRf : Vam.Fn R)
    (hfl : extV 2 [.float .f64 (fdiv .f64 R c)] = some (.float .f64 d)) (hd0 : (ford .f64 d 0 == some .gt || ford .f64 d 0 == some .eq) = true)
    (hd1 : (ford .f64 d 4742290407621132288 == some .lt || ford .f64 d 4742290407621132288 == some .eq) = true) (hdi : convV (.toInt .i64) (.float .f64 d) = some (.int .i64 (gt : Nat)))
    (hy : Vam.Fn (fsub .f64 t (fdiv .f64 (fmul .f64 4611686018427387904 R) w))) {y : Nat} (hy2 : wrapF (fsub .f64 t (fdiv .f64 (fmul .f64 4611686018427387904 R) w)) = y) (hy3 : Vam.Fn y) :
    CallP X 21 [bV c w r (n : Nat) (m : Nat), pv, lv, .float .f64 x, .float .f64 0, .int .u64 (sd : Nat)] s
      (fun v s' => ∃ o A, v = .tuple #[o, .int .i64 0] ∧ Hold s0 s' (HP.own 1 o m (rowsV A n m) :: HP.cell A (gridV m n (ecF (scaC (turnC y, turnS y) a) g gt q m 0)) :: l)) := by
  have hbx : (bV c w r (n : Nat) (m : Nat)).cells.toList = bC c w r (n : Nat) (m : Nat) := rfl
  have H1 := (Hold.refl s).new (bC c w r (n : Nat) (m : Nat))
  have lk : ∀ {s' B} {l : List HP}, Hold s s' (HP.cell B (bC c w r (n : Nat) (m : Nat)) :: l) → loadV s' (some 5) (.pointer (some ⟨B, 0, none⟩)) = some (bV c w r (n : Nat) (m : Nat)) := fun h => loadn_all (h.cell (List.mem_cons_self ..)) rfl
  have hone : oneCell pv = true := b.one
  refine CallP_of (hX ▸ ir21_eq) (ho _ _ _ (by decide)) (Nat.le_of_ble_eq_true rfl) ?_
  refine W_seq (W_ops [1, 2, 3, 4, 5, 6] ?_)
  simp only [o21_0, wO, ↓reduceIte, Nat.reduceEqDiff, Nat.reduceAdd, hbx]
  intro fr e1 e2 e3 e4 e5 e6
  refine SeqK_n ?_
  generalize newAt s (.cells (bC c w r (n : Nat) (m : Nat)) false) = s1 at H1 ⊢
  generalize s.nxt = B at H1 e6
  have m1 := lk H1
  refine W_assoc ?_
  refine W_seq (W_ops [1, 2, 3, 4, 5, 6, 14] ?_)
  simp only [o21_1, wO, ↓reduceIte, Nat.reduceEqDiff, e1, e2, e6, m1, (lb.same H1.same (fun _ _ h => h)).len]
  refine CallK_of (run39 hX ho hb hm hq1 (b.same H1.same (fun _ _ h => h))) ?_
  rintro _ s2 ⟨rfl, hs2⟩
  have H2 := H1.keep hs2
  simp only [wO, ↓reduceIte, Nat.reduceEqDiff, e1, e2, e3, e4, e5, e6]
  clear e1 e2 e3 e4 e5 e6
  intro fr e1 e2 e3 e4 e5 e6 e14
  refine SeqK_n ?_
  clear m1 H1 hs2 s1
  refine W_assoc ?_
  refine W_seq (W_ops [1, 2, 3, 4, 5, 6, 14, 31] ?_)
  simp only [o21_2, wO, ↓reduceIte, Nat.reduceEqDiff, e1, e2, e3, e4, e5, e6, e14]
  clear e1 e2 e3 e4 e5 e6 e14
  intro fr e1 e2 e3 e4 e5 e6 e14 e31
  refine SeqK_n ?_
  refine W_seq (W_cond e31 (fun h => by cases h) (fun _ => W_skip (SeqK_n ?_)))
  have bs : buildSlV s2 1 [.float .f64 0] 2 [(0, 1, .float .f64 x), (1, 1, .float .f64 0)] = some (.slice (some ⟨s2.nxt, 0, none⟩) 2 2, .cells [.float .f64 x, .float .f64 0] false) := rfl
  have sl : SlC (newAt s2 (.cells [.float .f64 x, .float .f64 0] false)) 1 (.slice (some ⟨s2.nxt, 0, none⟩) 2 2) 2 (flV 2 fun i => if i = 0 then x else 0) := slc_new (cs := [.float .f64 x, .float .f64 0]) rfl (by omega)
  have h00 : (ford .f64 0 0 == some .gt || ford .f64 0 0 == some .eq) = true := by decide
  have H3 := (H2.new [.float .f64 x, .float .f64 0]).tail
  refine W_seq (W_ops [1, 2, 3, 4, 5, 6, 15] ?_)
  simp only [o21_4, wO, ↓reduceIte, Nat.reduceEqDiff, e3, e4, bs]
  refine CallK_of (run40 hX ho sl (by omega) (fun i _ => by show Vam.Fn (if i = 0 then x else 0); split; exact hx; exact zero_fn.1)) ?_
  rintro _ _ ⟨rfl, rfl⟩
  simp only [wO, ↓reduceIte, Nat.reduceEqDiff, e1, e2, e3, e4, e5, e6, h00]
  clear e1 e2 e3 e4 e5 e6
  intro fr e1 e2 e3 e4 e5 e6 e15
  refine SeqK_n ?_
  clear bs sl H2
  generalize newAt s2 (.cells [.float .f64 x, .float .f64 0] false) = s3 at H3 ⊢
  refine W_assoc ?_
  refine W_seq (W_ops [1, 2, 3, 4, 5, 6, 15, 41, 42, 43] ?_)
  simp only [o21_5, wO, ↓reduceIte, Nat.reduceEqDiff, e1, e2, e3, e4, e5, e6, e15, (lb.same H3.same (fun _ _ h => h)).len]
  clear e1 e2 e3 e4 e5 e6 e15
  intro fr e1 e2 e3 e4 e5 e6 e15 e41 e42 e43
  refine SeqK_n ?_
  refine W_seq (W_block (W_loop (fun mm fr s2 => ∃ k : Nat, k + mm = 1 ∧ geT fr 1 = pv ∧ geT fr 2 = lv ∧ geT fr 3 = .float .f64 x ∧ geT fr 4 = .float .f64 0 ∧ geT fr 6 = .pointer (some ⟨B, 0, none⟩) ∧ geT fr 15 = .bool true ∧ geT fr 41 = lv ∧ geT fr 42 = .int .i64 1 ∧ geT fr 43 = .int .i64 (k : Nat) ∧ Hold s s2 [HP.cell B (bC c w r (n : Nat) (m : Nat))]) 1 ⟨0, rfl, e1, e2, e3, e4, e6, e15, e41, e42, e43, H3⟩ ?_))
  clear e1 e2 e3 e4 e5 e6 e15 e41 e42 e43 fr H3 s3
  rintro mm fr s1 ⟨k, hk, e1, e2, e3, e4, e6, e15, e41, e42, e43, H⟩
  refine W_seq (W_ops [1, 2, 3, 4, 5, 6, 15, 41, 42, 43, 44] ?_)
  simp only [o21_7, wO, ↓reduceIte, Nat.reduceEqDiff, e1, e2, e3, e4, e6, e15, e41, e42, e43]
  clear e1 e2 e3 e4 e6 e15 e41 e42 e43
  intro fr e1 e2 e3 e4 e5 e6 e15 e41 e42 e43 e44
  refine SeqK_n ?_
  refine W_while e44 (fun hlt => ?_) (fun hlt => ?_)
  · obtain rfl : k = 0 := by omega
    have lb1 := lb.same H.same (fun _ _ h => h)
    have A1 := lb1.addr (kk := .i64) (i := ((0 : Nat) : Int)) (k := 0) rfl (by omega)
    have L1 : loadV s1 (some 5) (elP lv (0 * 5)) = some (tV tr v a t be) := lb1.loads (j := 0) (m := 5) (by omega) (by omega)
    have H4 := H.new [.float .f64 0, .float .f64 0, .float .f64 0, .float .f64 0, .float .f64 0]
    have st : storeV (newAt s1 (.cells [.float .f64 0, .float .f64 0, .float .f64 0, .float .f64 0, .float .f64 0] false)) 5 (.pointer (some ⟨s1.nxt, 0, none⟩)) (tV tr v a t be) = some (undefV, setBlk (newAt s1 (.cells [.float .f64 0, .float .f64 0, .float .f64 0, .float .f64 0, .float .f64 0] false)) s1.nxt (.cells (tC tr v a t be) false)) :=
      store_all (vs := tC tr v a t be) (H4.cell (List.mem_cons_self ..)) rfl rfl rfl
    have H5 := H4.setc (cs' := tC tr v a t be)
    refine W_seq (W_block ?_)
    refine W_seq (W_ops [1, 2, 3, 4, 5, 6, 15, 17, 41, 42, 43] ?_)
    simp only [o21_8, wO, ↓reduceIte, Nat.reduceEqDiff, e1, e2, e3, e4, e5, e6, e15, e41, e42, e43, A1, L1, st]
    clear e1 e2 e3 e4 e5 e6 e15 e41 e42 e43 e44
    intro fr e1 e2 e3 e4 e5 e6 e15 e17 e41 e42 e43
    refine SeqK_n ?_
    clear st H4 L1 A1 lb1 H
    generalize setBlk _ s1.nxt _ = s2 at H5 ⊢
    generalize s1.nxt = b17 at H5 e17
    have c17 := H5.cell (B := b17) (cs := tC tr v a t be) (by simp)
    have q0 : loadV s2 none (.pointer (some ⟨b17, 0, none⟩)) = some (.float .f64 tr) := load_g (o := 0) c17
    have q1 : loadV s2 none (.pointer (some ⟨b17, 1, none⟩)) = some (.float .f64 v) := load_g (o := 1) c17
    have q2 : loadV s2 none (.pointer (some ⟨b17, 2, none⟩)) = some (.float .f64 a) := load_g (o := 2) c17
    have q3 : loadV s2 none (.pointer (some ⟨b17, 3, none⟩)) = some (.float .f64 t) := load_g (o := 3) c17
    have bs : buildSlV s2 1 [.float .f64 0] 4 [(0, 1, .float .f64 tr), (1, 1, .float .f64 v), (2, 1, .float .f64 a), (3, 1, .float .f64 t)] = some (.slice (some ⟨s2.nxt, 0, none⟩) 4 4, .cells [.float .f64 tr, .float .f64 v, .float .f64 a, .float .f64 t] false) := rfl
    have sl : SlC (newAt s2 (.cells [.float .f64 tr, .float .f64 v, .float .f64 a, .float .f64 t] false)) 1 (.slice (some ⟨s2.nxt, 0, none⟩) 4 4) 4 (flV 4 fun i => if i = 0 then tr else if i = 1 then v else if i = 2 then a else t) := slc_new (cs := [.float .f64 tr, .float .f64 v, .float .f64 a, .float .f64 t]) rfl (by omega)
    have H6 := (H5.new [.float .f64 tr, .float .f64 v, .float .f64 a, .float .f64 t]).tail.tail
    refine W_ops [1, 2, 3, 4, 5, 6, 15, 41, 42, 43] ?_
    simp only [o21_9, wO, ↓reduceIte, Nat.reduceEqDiff, e15, e17, q0, q1, q2, q3, bs]
    refine CallK_of (run40 hX ho sl (by omega) (fun i _ => by
      show Vam.Fn (if i = 0 then tr else if i = 1 then v else if i = 2 then a else t)
      split
      · exact htr
      · split
        · exact hv
        · split
          · exact ha
          · exact ht)) ?_
    rintro _ _ ⟨rfl, rfl⟩
    simp only [wO, ↓reduceIte, Nat.reduceEqDiff, e1, e2, e3, e4, e5, e6, e41, e42, e43]
    clear e1 e2 e3 e4 e5 e6 e15 e17 e41 e42 e43
    intro fr e1 e2 e3 e4 e5 e6 e15 e41 e42 e43
    refine BlkK_n (SeqK_n ?_)
    refine W_ops [1, 2, 3, 4, 5, 6, 15, 41, 42, 43] ?_
    simp only [o21_10, wO, ↓reduceIte, Nat.reduceEqDiff, e1, e2, e3, e4, e5, e6, e15, e41, e42, e43, wrap_i64 (n := ((0 : Nat) : Int) + 1) (by omega) (by omega)]
    clear e1 e2 e3 e4 e5 e6 e15 e41 e42 e43
    intro fr e1 e2 e3 e4 e5 e6 e15 e41 e42 e43
    exact LoopK_n (m' := 0) (by omega) ⟨1, by omega, e1, e2, e3, e4, e6, e15, e41, e42, by rw [e43]; rfl, H6⟩
  · clear hlt
    refine LoopK_x (BlkK_e (SeqK_n ?_))
    refine W_assoc ?_
    refine W_seq (W_ops [1, 2, 3, 4, 5, 6, 62] ?_)
    simp only [o21_11, wO, ↓reduceIte, Nat.reduceEqDiff, e1, e2, e3, e4, e6, e15]
    clear e1 e2 e3 e4 e6 e15
    intro fr e1 e2 e3 e4 e5 e6 e62
    refine SeqK_n ?_
    refine W_seq (W_cond e62 (fun h => by cases h) (fun _ => W_skip (SeqK_n ?_)))
    have m1 := lk H
    refine W_seq (W_ops [1, 2, 3, 4, 5, 6, 18, 19] ?_)
    simp only [o21_13, wO, ↓reduceIte, e6, m1]
    refine CallK_of (run41 hX ho H hm hn hmn) ?_
    rintro _ s2 ⟨ov, A, rfl, H2⟩
    simp only [wO, ↓reduceIte, Nat.reduceEqDiff, e1, e2, e3, e4, e6]
    clear e1 e2 e3 e4 e6
    intro fr e1 e2 e3 e4 e5 e6 e18 e19
    refine SeqK_n ?_
    clear m1 H
    have m1 : loadV s2 (some 5) (.pointer (some ⟨B, 0, none⟩)) = some (bV c w r (n : Nat) (m : Nat)) := loadn_all (H2.cell (B := B) (cs := bC c w r (n : Nat) (m : Nat)) (by simp)) rfl
    refine W_seq (W_ops [2, 4, 5, 18, 19, 20] ?_)
    simp only [o21_14, wO, ↓reduceIte, Nat.reduceEqDiff, e1, e3, e6, e19, m1]
    refine CallK_of (run42 hX ho H2 hone) ?_
    rintro _ s3 ⟨b1, b2, b3, b4, rfl, H3⟩
    simp only [wO, ↓reduceIte, Nat.reduceEqDiff, e2, e4, e18, e19]
    clear e1 e2 e3 e4 e6 e18 e19
    intro fr e2 e4 e5 e18 e19 e20
    refine SeqK_n ?_
    clear m1 H2
    have H4 := H3.up5
    clear H3
    refine W_assoc ?_
    refine W_seq (W_ops [4, 5, 18, 19, 20, 73, 74, 75] ?_)
    simp only [o21_15, wO, ↓reduceIte, Nat.reduceEqDiff, e2, e4, e5, e18, e19, e20, (lb.same H4.same (fun _ _ h => h)).len]
    clear e2 e4 e5 e18 e19 e20
    intro fr e4 e5 e18 e19 e20 e73 e74 e75
    refine SeqK_n ?_
    refine W_seq (W_block (W_loop (fun mm fr s2 => ∃ k : Nat, k + mm = 1 ∧ geT fr 4 = .float .f64 0 ∧ geT fr 18 = ov ∧ geT fr 19 = allV A m n ∧ geT fr 20 = .func (.func 67) #[] #[.pointer (some ⟨b1, 0, none⟩), .pointer (some ⟨b3, 0, none⟩), .pointer (some ⟨b2, 0, none⟩), .pointer (some ⟨b4, 0, none⟩)] ∧ geT fr 73 = lv ∧ geT fr 74 = .int .i64 1 ∧ geT fr 75 = .int .i64 (k : Nat) ∧
      (k = 0 → Hold s s2 [HP.cell A (gridV m n fun _ _ => (0, 0)), HP.cell b4 [allV A m n], HP.cell b3 [.float .f64 x], HP.cell b2 [pv], HP.cell b1 (bC c w r (n : Nat) (m : Nat)), HP.own 1 ov m (rowsV A n m), HP.cell B (bC c w r (n : Nat) (m : Nat))]) ∧
      (k = 1 → Hold s s2 [HP.cell A (gridV m n (ecF (scaC (turnC y, turnS y) a) g gt q m 0)), HP.own 1 ov m (rowsV A n m), HP.cell B (bC c w r (n : Nat) (m : Nat))])) 1 ⟨0, rfl, e4, e18, e19, e20, e73, e74, e75, fun _ => H4, fun h => by omega⟩ ?_))
    clear e4 e5 e18 e19 e20 e73 e74 e75 fr H4 s3 s2
    clear hk e41 e42 e43 e44 e62
    rintro mm fr s1 ⟨k, hk, e4, e18, e19, e20, e73, e74, e75, G0, G1⟩
    refine W_seq (W_ops [4, 5, 18, 19, 20, 73, 74, 75, 76] ?_)
    simp only [o21_17, wO, ↓reduceIte, Nat.reduceEqDiff, e4, e18, e19, e20, e73, e74, e75]
    clear e4 e18 e19 e20 e73 e74 e75
    intro fr e4 e5 e18 e19 e20 e73 e74 e75 e76
    refine SeqK_n ?_
    refine W_while e76 (fun hlt => ?_) (fun hlt => ?_)
    · obtain rfl : k = 0 := by omega
      have H := G0 rfl
      clear G0 G1
      have lb1 := lb.same H.same (fun _ _ h => h)
      have A1 := lb1.addr (kk := .i64) (i := ((0 : Nat) : Int)) (k := 0) rfl (by omega)
      have L1 : loadV s1 (some 5) (elP lv (0 * 5)) = some (tV tr v a t be) := lb1.loads (j := 0) (m := 5) (by omega) (by omega)
      have H4 := H.new [.float .f64 0, .float .f64 0, .float .f64 0, .float .f64 0, .float .f64 0]
      have st : storeV (newAt s1 (.cells [.float .f64 0, .float .f64 0, .float .f64 0, .float .f64 0, .float .f64 0] false)) 5 (.pointer (some ⟨s1.nxt, 0, none⟩)) (tV tr v a t be) = some (undefV, setBlk (newAt s1 (.cells [.float .f64 0, .float .f64 0, .float .f64 0, .float .f64 0, .float .f64 0] false)) s1.nxt (.cells (tC tr v a t be) false)) :=
        store_all (vs := tC tr v a t be) (H4.cell (List.mem_cons_self ..)) rfl rfl rfl
      have H5 := H4.setc (cs' := tC tr v a t be)
      refine W_seq (W_block ?_)
      refine W_seq (W_ops [4, 5, 18, 19, 20, 22, 73, 74, 75] ?_)
      simp only [o21_18, wO, ↓reduceIte, Nat.reduceEqDiff, e4, e5, e18, e19, e20, e73, e74, e75, A1, L1, st]
      clear e4 e5 e18 e19 e20 e73 e74 e75 e76
      intro fr e4 e5 e18 e19 e20 e22 e73 e74 e75
      refine SeqK_n ?_
      clear st H4 L1 A1 lb1 H
      generalize setBlk _ s1.nxt _ = s2 at H5 ⊢
      generalize s1.nxt = b22 at H5 e22
      have q0 : loadV s2 (some 5) (.pointer (some ⟨b22, 0, none⟩)) = some (tV tr v a t be) := loadn_all (H5.cell (B := b22) (cs := tC tr v a t be) (by simp)) rfl
      refine W_ops [4, 5, 18, 19, 20, 73, 74, 75] ?_
      simp only [o21_19, wO, ↓reduceIte, Nat.reduceEqDiff, e20, e22, q0]
      refine WO_callT ?_
      simp only [wO, ↓reduceIte, Nat.reduceEqDiff, FunK_f]
      refine CallK_of (run67 hX ho tr hm hn hmn hq b H5.tail hR hRf hfl hd0 hd1 hdi hy hy2 hy3) ?_
      rintro _ s3 H6
      simp only [wO, ↓reduceIte, Nat.reduceEqDiff, e4, e5, e18, e19, e20, e73, e74, e75]
      clear e4 e5 e18 e19 e20 e22 e73 e74 e75
      intro fr e4 e5 e18 e19 e20 e73 e74 e75
      refine BlkK_n (SeqK_n ?_)
      refine W_ops [4, 5, 18, 19, 20, 73, 74, 75] ?_
      simp only [o21_20, wO, ↓reduceIte, Nat.reduceEqDiff, e4, e5, e18, e19, e20, e73, e74, e75, wrap_i64 (n := ((0 : Nat) : Int) + 1) (by omega) (by omega)]
      clear e4 e5 e18 e19 e20 e73 e74 e75
      intro fr e4 e5 e18 e19 e20 e73 e74 e75
      exact LoopK_n (m' := 0) (by omega) ⟨1, by omega, e4, e18, e19, e20, e73, e74, by rw [e75]; rfl, fun h => by omega, fun _ => H6⟩
    · have H := G1 (by omega)
      have h0 : (ford .f64 0 0 == some .gt) = false := by decide
      refine LoopK_x (BlkK_e (SeqK_n ?_))
      refine W_assoc ?_
      refine W_seq (W_ops [4, 5, 18, 19, 84] ?_)
      simp only [o21_21, wO, ↓reduceIte, Nat.reduceEqDiff, e4, e18, e19, h0]
      clear e4 e18 e19
      intro fr e4 e5 e18 e19 e84
      refine SeqK_n ?_
      refine W_seq (W_cond e84 (fun h => by cases h) (fun _ => W_skip (SeqK_n ?_)))
      refine W_seq (W_ops [12, 13] ?_)
      simp only [o21_29, wO, ↓reduceIte, Nat.reduceEqDiff, e18]
      clear e18
      intro fr e12 e13
      refine SeqK_n ?_
      exact W_ret (Ret2 e12 e13 ⟨_, A, rfl, H0.app (H.up1.sub (.cons_cons _ (.cons_cons _ (List.nil_sublist _))))⟩)

end Go.Proofs.YtmfaodenkghmkaaGreat

/- A dwell made, and its cells: walked. -/
namespace Go.Proofs.YtmfaodenkghmkaaGreat
open Go Go.Vam

/-- The setup of the law. -/
def set1 (c w r n m k : Nat) : St := ⟨c, w, r, (n : Nat), (m : Nat), (k : Nat), 0, 0, 0, 1, 4, 0, 4620693217682128896, 0⟩

/-- What is asked of an echo. -/
structure Ech (c w r x v a t m n q gt R d y tr : Nat) : Prop where
  hq : gt + q ≤ n
  hx : Vam.Fn x
  htr : Vam.Fn tr
  hv : Vam.Fn v
  ha : Vam.Fn a
  ht : Vam.Fn t
  hR : ∀ p, p < m → fadd .f64 tr (fmul .f64 v (fadd .f64 x (fdiv .f64 (FloatKind.f64.nearest ((p * n : Nat) : Int)) r))) = R
  hRf : Vam.Fn R
  hfl : extV 2 [.float .f64 (fdiv .f64 R c)] = some (.float .f64 d)
  hd0 : (ford .f64 d 0 == some .gt || ford .f64 d 0 == some .eq) = true
  hd1 : (ford .f64 d 4742290407621132288 == some .lt || ford .f64 d 4742290407621132288 == some .eq) = true
  hdi : convV (.toInt .i64) (.float .f64 d) = some (.int .i64 (gt : Nat))
  hy : Vam.Fn (fsub .f64 t (fdiv .f64 (fmul .f64 4611686018427387904 R) w))
  hy2 : wrapF (fsub .f64 t (fdiv .f64 (fmul .f64 4611686018427387904 R) w)) = y
  hy3 : Vam.Fn y


set_option maxHeartbeats 2000000 in
theorem run9 {X : Ctx} (hX : X.fns = fnsOf Tryz.prog) (ho : ∀ f args s, f ≠ 7 → X.orc f args s = none) {s0 s : Mm} {l : List HP} {c w r x v a t be m n k gt R d sd y : Nat} {lv : Value} (tr : Nat) (H0 : Hold s0 s l) (hk : 1 ≤ k ∧ k ≤ 7)
    (hc : chkE (set1 c w r n m k) = 0) (hm : 1 ≤ m ∧ m ≤ 256) (hn : 1 ≤ n ∧ n ≤ 4096) (hmn : m * n ≤ 4096)
    (lb : SlC s 5 lv 1 (tC tr v a t be)) (E : Ech c w r x v a t m n (bkN k) gt R d y tr) :
    CallP X 9 [(set1 c w r n m k).V, lv, .float .f64 x, .int .u64 (sd : Nat)] s
      (fun q s' => ∃ o A, q = .tuple #[o, .int .i64 0] ∧ Hold s0 s' (HP.own 1 o m (rowsV A n m) :: HP.cell A (gridV m n (ecF (scaC (turnC y, turnS y) a) (bkF k) gt (bkN k) m 0)) :: l)) := by
  obtain ⟨x1, hx1⟩ : ∃ x1, x1 = set1 c w r n m k := ⟨_, rfl⟩
  have hbx : (set1 c w r n m k).V.cells.toList = (set1 c w r n m k).C := rfl
  have H1 := (Hold.refl s).new (set1 c w r n m k).C
  have hbe : beatE c w r (n : Nat) (m : Nat) = 0 := by
    have h := hc
    unfold chkE at h
    split at h
    · rename_i h1; exact absurd h h1
    · rename_i h1; exact Decidable.not_not.1 h1
  obtain ⟨hn2, hn13⟩ := bkN_le hk
  refine CallP_of (hX ▸ ir9_eq) (ho _ _ _ (by decide)) (Nat.le_of_ble_eq_true rfl) ?_
  refine W_seq (W_ops [1, 2, 3, 4] ?_)
  simp only [o9_0, wO, ↓reduceIte, Nat.reduceEqDiff, Nat.reduceAdd, hbx]
  intro fr e1 e2 e3 e4
  refine SeqK_n ?_
  generalize newAt s (.cells (set1 c w r n m k).C false) = s1 at H1 ⊢
  generalize s.nxt = B at H1 e4
  have lk : ∀ {s'} {l : List HP}, Hold s s' l → HP.cell B (set1 c w r n m k).C ∈ l → loadV s' (some 14) (.pointer (some ⟨B, 0, none⟩)) = some (set1 c w r n m k).V ∧ loadV s' (some 5) (.pointer (some ⟨B, 0, none⟩)) = some (bV c w r (n : Nat) (m : Nat)) ∧
      loadV s' none (.pointer (some ⟨B, 5, none⟩)) = some (.int .i64 (k : Nat)) ∧ loadV s' none (.pointer (some ⟨B, 13, none⟩)) = some (.float .f64 0) := fun h hm =>
    ⟨loadn_all (h.cell hm) rfl, (loadn_g (h.cell hm)).trans rfl, load_g (o := 5) (h.cell hm), load_g (o := 13) (h.cell hm)⟩
  obtain ⟨k14, -, -, -⟩ := lk H1 (List.mem_cons_self ..)
  refine W_assoc ?_
  refine W_seq (W_ops [1, 2, 3, 4, 10] ?_)
  simp only [o9_1, wO, ↓reduceIte, e4, k14]
  refine CallK_of (run6 hX ho (by show 4620693217682128896 < _; decide) (by show 0 < _; decide) hk rfl) ?_
  rintro _ s2 ⟨rfl, hs2⟩
  have H2 := H1.keep hs2
  simp only [wO, ↓reduceIte, Nat.reduceEqDiff, e1, e2, e3, e4, hc]
  clear e1 e2 e3 e4
  intro fr e1 e2 e3 e4 e10
  refine SeqK_n ?_
  clear k14 H1 hs2 s1
  refine W_assoc ?_
  refine W_seq (W_ops [1, 2, 3, 4, 10, 16] ?_)
  simp only [o9_2, wO, ↓reduceIte, Nat.reduceEqDiff, e1, e2, e3, e4, e10]
  clear e1 e2 e3 e4 e10
  intro fr e1 e2 e3 e4 e10 e16
  refine SeqK_n ?_
  refine W_seq (W_cond e16 (fun h => by cases h) (fun _ => W_skip (SeqK_n ?_)))
  obtain ⟨-, -, k5, -⟩ := lk H2 (List.mem_cons_self ..)
  refine W_seq (W_ops [1, 2, 3, 4, 11, 12] ?_)
  simp only [o9_4, wO, ↓reduceIte, e4, k5]
  refine CallK_of (run8 hX ho hk H2) ?_
  rintro _ s3 ⟨pv, rfl, H3⟩
  simp only [wO, ↓reduceIte, Nat.reduceEqDiff, e1, e2, e3, e4]
  clear e1 e2 e3 e4
  intro fr e1 e2 e3 e4 e11 e12
  refine SeqK_n ?_
  clear k5 H2 s2
  refine W_assoc ?_
  refine W_seq (W_ops [1, 2, 3, 4, 11, 12, 25] ?_)
  simp only [o9_5, wO, ↓reduceIte, Nat.reduceEqDiff, e1, e2, e3, e4, e11, e12]
  clear e1 e2 e3 e4 e11 e12
  intro fr e1 e2 e3 e4 e11 e12 e25
  refine SeqK_n ?_
  refine W_seq (W_cond e25 (fun h => by cases h) (fun _ => W_skip (SeqK_n ?_)))
  obtain ⟨-, k0, -, k13⟩ := lk H3 (by simp)
  refine W_seq (W_ops [8, 9] ?_)
  simp only [o9_7, wO, ↓reduceIte, Nat.reduceEqDiff, e1, e2, e3, e4, e11, k0, k13]
  refine CallK_of (run21 hX ho tr H3 hbe hm hn hmn E.hq (by omega) (H3.own (List.mem_cons_self ..)).slc (lb.same H3.same (fun _ _ h => h)) E.hx E.htr E.hv E.ha E.ht E.hR E.hRf E.hfl E.hd0 E.hd1 E.hdi E.hy E.hy2 E.hy3) ?_
  rintro _ s4 ⟨o, A, rfl, H4⟩
  simp only [wO, ↓reduceIte, Nat.reduceEqDiff]
  clear e1 e2 e3 e4 e11
  intro fr e8 e9
  refine SeqK_n ?_
  exact W_ret (Ret2 e8 e9 ⟨_, A, rfl, H0.app (H4.sub (.cons_cons _ (.cons_cons _ (List.nil_sublist _))))⟩)

theorem run22 {X : Ctx} (hX : X.fns = fnsOf Tryz.prog) (ho : ∀ f args s, f ≠ 7 → X.orc f args s = none) {s : Mm} {x : St} : CallP X 22 [x.V] s (fun r s' => ∃ B, Hold s s' [HP.own 1 r 3 [.func (.func 45) #[] #[.pointer (some ⟨B, 0, none⟩)], .func (.func 47) #[] #[.pointer (some ⟨B, 0, none⟩)], .func (.func 49) #[] #[.pointer (some ⟨B, 0, none⟩)]], HP.cell B x.C]) := by
  have hbx : x.V.cells.toList = x.C := rfl
  have H1 := (Hold.refl s).new x.C
  refine CallP_of (hX ▸ ir22_eq) (ho _ _ _ (by decide)) (Nat.le_of_ble_eq_true rfl) ?_
  refine W_seq (W_ops [1] ?_)
  simp only [o22_0, wO, ↓reduceIte, Nat.reduceEqDiff, hbx]
  intro fr e1
  refine SeqK_n ?_
  generalize newAt s (.cells x.C false) = s1 at H1 ⊢
  generalize s.nxt = B at H1 e1
  have bs : buildSlV s1 1 [.nilFunc] 3 [(0, 1, .func (.func 45) #[] #[.pointer (some ⟨B, 0, none⟩)]), (1, 1, .func (.func 47) #[] #[.pointer (some ⟨B, 0, none⟩)]), (2, 1, .func (.func 49) #[] #[.pointer (some ⟨B, 0, none⟩)])] = some (.slice (some ⟨s1.nxt, 0, none⟩) 3 3, .cells [.func (.func 45) #[] #[.pointer (some ⟨B, 0, none⟩)], .func (.func 47) #[] #[.pointer (some ⟨B, 0, none⟩)], .func (.func 49) #[] #[.pointer (some ⟨B, 0, none⟩)]] false) := rfl
  have H2 := (H1.new [.func (.func 45) #[] #[.pointer (some ⟨B, 0, none⟩)], .func (.func 47) #[] #[.pointer (some ⟨B, 0, none⟩)], .func (.func 49) #[] #[.pointer (some ⟨B, 0, none⟩)]]).cellOwn (sz := 1) (n := 3) rfl (by unfold OPEN; omega)
  refine W_seq (W_ops [2] ?_)
  simp only [o22_1, wO, ↓reduceIte, Nat.reduceEqDiff, e1, bs]
  clear e1
  intro fr e2
  refine SeqK_n ?_
  exact W_ret (Ret1 e2 ⟨B, H2⟩)

section
variable {s : Mm} {x : St} {v : Value} {m n k B : Nat} {f : Nat → Nat → Cx}

theorem run45 {X : Ctx} (hX : X.fns = fnsOf Tryz.prog) (ho : ∀ f args s, f ≠ 7 → X.orc f args s = none) (hB : Store.get s.h B = some (.cells x.C false)) (hk : 1 ≤ k ∧ k ≤ 7) (hc : x.code = (k : Nat)) (a : TabC s v m n f) (hm : 1 ≤ m ∧ m ≤ 256) (hn : n ≤ 4096) (hmn : m * n ≤ 4096) :
    CallP X 45 [v, .pointer (some ⟨B, 0, none⟩)] s (fun r s' => ∃ o, r = .tuple #[o, .int .i64 0] ∧ TabC s' o m n (compF n (bkN k) (bkF k) f) ∧ Same s s' (fun _ => False)) := by
  have k5 : loadV s none (.pointer (some ⟨B, 5, none⟩)) = some (.int .i64 (k : Nat)) := by rw [← hc]; exact load_g (o := 5) hB
  obtain ⟨hn2, hn13⟩ := bkN_le hk
  refine CallP_of (hX ▸ ir45_eq) (ho _ _ _ (by decide)) (Nat.le_of_ble_eq_true rfl) ?_
  refine W_seq (W_ops [0, 1] ?_)
  simp only [o45_0, wO, ↓reduceIte, Nat.reduceEqDiff, Nat.reduceAdd]
  intro fr e0 e1
  refine SeqK_n ?_
  refine W_seq (W_ops [0, 5] ?_)
  simp only [o45_1, wO, ↓reduceIte, e1, k5]
  refine CallK_of (run8 hX ho hk (.refl s)) ?_
  rintro _ s1 ⟨pv, rfl, H1⟩
  simp only [wO, ↓reduceIte, Nat.reduceEqDiff, e0]
  clear e0 e1
  intro fr e0 e5
  refine SeqK_n ?_
  refine W_seq (W_ops [3, 4] ?_)
  simp only [o45_2, wO, ↓reduceIte, Nat.reduceEqDiff, e0, e5]
  refine CallK_of (run46 hX ho H1 (a.same H1.same) (H1.own (List.mem_cons_self ..)).slc hm hn hmn (by omega)) ?_
  rintro _ s2 ⟨o, rfl, H2⟩
  simp only [wO, ↓reduceIte, Nat.reduceEqDiff]
  clear e0 e5
  intro fr e3 e4
  refine SeqK_n ?_
  exact W_ret (Ret2 e3 e4 ⟨_, rfl, .of (H2.tab (List.mem_cons_self ..)), H2.same⟩)

theorem run47 {X : Ctx} (hX : X.fns = fnsOf Tryz.prog) (ho : ∀ f args s, f ≠ 7 → X.orc f args s = none) (hB : Store.get s.h B = some (.cells x.C false)) (hc : x.cancel = 0) (a : TabC s v m n f) (hm : 1 ≤ m ∧ m ≤ 256) (hn : n ≤ 4096) (hmn : m * n ≤ 4096) :
    CallP X 47 [v, .pointer (some ⟨B, 0, none⟩)] s (fun r s' => ∃ o, r = .tuple #[o, .int .i64 0] ∧ TabC s' o m n f ∧ Same s s' (fun _ => False)) := by
  have k5 : loadV s none (.pointer (some ⟨B, 7, none⟩)) = some (.int .i64 0) := by rw [← hc]; exact load_g (o := 7) hB
  refine CallP_of (hX ▸ ir47_eq) (ho _ _ _ (by decide)) (Nat.le_of_ble_eq_true rfl) ?_
  refine W_seq (W_ops [0, 1] ?_)
  simp only [o47_0, wO, ↓reduceIte, Nat.reduceEqDiff, Nat.reduceAdd]
  intro fr e0 e1
  refine SeqK_n ?_
  refine W_seq (W_ops [3, 4] ?_)
  simp only [o47_1, wO, ↓reduceIte, Nat.reduceEqDiff, e0, e1, k5]
  refine CallK_of (run48 hX ho a hm hn hmn) ?_
  rintro _ s2 ⟨o, rfl, h1, h2⟩
  simp only [wO, ↓reduceIte, Nat.reduceEqDiff]
  clear e0 e1
  intro fr e3 e4
  refine SeqK_n ?_
  exact W_ret (Ret2 e3 e4 ⟨_, rfl, h1, h2⟩)

theorem run49 {X : Ctx} (hX : X.fns = fnsOf Tryz.prog) (ho : ∀ f args s, f ≠ 7 → X.orc f args s = none) (hB : Store.get s.h B = some (.cells x.C false)) (hc : x.win = 0) (a : TabC s v m n f) (hm : 1 ≤ m ∧ m ≤ 256) (hn : 1 ≤ n ∧ n ≤ 4096) (hmn : m * n ≤ 4096) :
    CallP X 49 [v, .pointer (some ⟨B, 0, none⟩)] s (fun r s' => ∃ o, r = .tuple #[o, .int .i64 0] ∧ TabC s' o m n (dopF m (fun _ => oneF) f) ∧ Same s s' (fun _ => False)) := by
  have k5 : loadV s none (.pointer (some ⟨B, 6, none⟩)) = some (.int .i8 0) := by rw [← hc]; exact load_g (o := 6) hB
  refine CallP_of (hX ▸ ir49_eq) (ho _ _ _ (by decide)) (Nat.le_of_ble_eq_true rfl) ?_
  refine W_seq (W_ops [0, 1] ?_)
  simp only [o49_0, wO, ↓reduceIte, Nat.reduceEqDiff, Nat.reduceAdd]
  intro fr e0 e1
  refine SeqK_n ?_
  refine W_seq (W_ops [3, 4] ?_)
  simp only [o49_1, wO, ↓reduceIte, Nat.reduceEqDiff, e0, e1, k5, a.len]
  refine CallK_of (run51 hX ho (.refl s) hm) ?_
  rintro w s1 H1
  simp only [wO, ↓reduceIte, Nat.reduceEqDiff]
  refine CallK_of (run50 hX ho H1 (a.same H1.same) (H1.own (List.mem_cons_self ..)).slc hm hn hmn) ?_
  rintro _ s2 ⟨o, A, rfl, H2⟩
  simp only [wO, ↓reduceIte, Nat.reduceEqDiff]
  clear e0 e1
  intro fr e3 e4
  refine SeqK_n ?_
  exact W_ret (Ret2 e3 e4 ⟨_, rfl, .grid H2 (List.mem_cons_self ..) (by simp) (by omega), H2.same⟩)
end

end Go.Proofs.YtmfaodenkghmkaaGreat

/- The cells of a dwell, walked. -/
namespace Go.Proofs.YtmfaodenkghmkaaGreat
open Go Go.Vam

/-- What rows become, step by step. -/
def stepF (m n k : Nat) (f : Nat → Nat → Cx) : Nat → Nat → Nat → Cx
  | 0 => f
  | 1 => compF n (bkN k) (bkF k) f
  | 2 => compF n (bkN k) (bkF k) f
  | _ => dopF m (fun _ => oneF) (compF n (bkN k) (bkF k) f)
def cellF (m n k : Nat) (f : Nat → Nat → Cx) : Nat → Nat → Nat := powF (dopF m (fun _ => oneF) (compF n (bkN k) (bkF k) f))
def fnV (B i : Nat) : Value := .func (.func (45 + 2 * i)) #[] #[.pointer (some ⟨B, 0, none⟩)]


theorem runStep {X : Ctx} (hX : X.fns = fnsOf Tryz.prog) (ho : ∀ f args s, f ≠ 7 → X.orc f args s = none) {s : Mm} {x : St} {v : Value} {m n k B i : Nat} {f : Nat → Nat → Cx} (hi : i < 3) (hB : Store.get s.h B = some (.cells x.C false)) (hk : 1 ≤ k ∧ k ≤ 7) (hc : x.code = (k : Nat)) (hca : x.cancel = 0) (hw : x.win = 0)
    (a : TabC s v m n (stepF m n k f i)) (hm : 1 ≤ m ∧ m ≤ 256) (hn : 1 ≤ n ∧ n ≤ 4096) (hmn : m * n ≤ 4096) :
    CallP X (45 + 2 * i) [v, .pointer (some ⟨B, 0, none⟩)] s (fun r s' => ∃ o, r = .tuple #[o, .int .i64 0] ∧ TabC s' o m n (stepF m n k f (i + 1)) ∧ Same s s' (fun _ => False)) := by
  match i, hi with
  | 0, _ => exact run45 hX ho hB hk hc a hm hn.2 hmn
  | 1, _ => exact run47 hX ho hB hca a hm hn.2 hmn
  | 2, _ => exact run49 hX ho hB hw a hm hn hmn

set_option maxHeartbeats 2000000 in
theorem run10 {X : Ctx} (hX : X.fns = fnsOf Tryz.prog) (ho : ∀ f args s, f ≠ 7 → X.orc f args s = none) {s : Mm} {v : Value} {c w r m n k : Nat} {f : Nat → Nat → Cx} (hk : 1 ≤ k ∧ k ≤ 7)
    (hc : chkE (set1 c w r n m k) = 0) (hm : 1 ≤ m ∧ m ≤ 256) (hn : 1 ≤ n ∧ n ≤ 4096) (hmn : m * n ≤ 4096) (a : TabC s v m n f) :
    CallP X 10 [(set1 c w r n m k).V, v] s (fun q s' => ∃ o, q = .tuple #[o, .int .i64 0] ∧ TabR s' o m n (cellF m n k f) ∧ Same s s' (fun _ => False)) := by
  have hbx : (set1 c w r n m k).V.cells.toList = (set1 c w r n m k).C := rfl
  have H1 := (Hold.refl s).new (set1 c w r n m k).C
  refine CallP_of (hX ▸ ir10_eq) (ho _ _ _ (by decide)) (Nat.le_of_ble_eq_true rfl) ?_
  refine W_seq (W_ops [1, 2] ?_)
  simp only [o10_0, wO, ↓reduceIte, Nat.reduceEqDiff, Nat.reduceAdd, hbx]
  intro fr e1 e2
  refine SeqK_n ?_
  generalize newAt s (.cells (set1 c w r n m k).C false) = s1 at H1 ⊢
  generalize s.nxt = B at H1 e2
  have lk : ∀ {s'} {l : List HP}, Hold s s' l → HP.cell B (set1 c w r n m k).C ∈ l → loadV s' (some 14) (.pointer (some ⟨B, 0, none⟩)) = some (set1 c w r n m k).V ∧
      loadV s' none (.pointer (some ⟨B, 3, none⟩)) = some (.int .i64 (n : Nat)) ∧ loadV s' none (.pointer (some ⟨B, 4, none⟩)) = some (.int .i64 (m : Nat)) := fun h hm =>
    ⟨loadn_all (h.cell hm) rfl, load_g (o := 3) (h.cell hm), load_g (o := 4) (h.cell hm)⟩
  obtain ⟨k14, -, -⟩ := lk H1 (List.mem_cons_self ..)
  refine W_assoc ?_
  refine W_seq (W_ops [1, 2, 6] ?_)
  simp only [o10_1, wO, ↓reduceIte, e2, k14]
  refine CallK_of (run6 hX ho (by show 4620693217682128896 < _; decide) (by show 0 < _; decide) hk rfl) ?_
  rintro _ s2 ⟨rfl, hs2⟩
  have H2 := H1.keep hs2
  simp only [wO, ↓reduceIte, Nat.reduceEqDiff, e1, e2, hc]
  clear e1 e2
  intro fr e1 e2 e6
  refine SeqK_n ?_
  clear k14 H1 hs2 s1
  refine W_assoc ?_
  refine W_seq (W_ops [1, 2, 6, 16] ?_)
  simp only [o10_2, wO, ↓reduceIte, Nat.reduceEqDiff, e1, e2, e6]
  clear e1 e2 e6
  intro fr e1 e2 e6 e16
  refine SeqK_n ?_
  refine W_seq (W_cond e16 (fun h => by cases h) (fun _ => W_skip (SeqK_n ?_)))
  obtain ⟨k14, k3, k4⟩ := lk H2 (List.mem_cons_self ..)
  have a2 := a.same H2.same
  have d1 : decide (¬ ((m : Nat) : Int) = ((m : Nat) : Int)) = false := decide_eq_false (by simp)
  have d2 : decide (¬ ((n : Nat) : Int) = ((n : Nat) : Int)) = false := decide_eq_false (by simp)
  refine W_assoc ?_
  refine W_seq (W_ops [1, 2, 23] ?_)
  simp only [o10_4, wO, ↓reduceIte, Nat.reduceEqDiff, e1, e2, a2.len, k4]
  clear e1 e2
  intro fr e1 e2 e23
  refine SeqK_n ?_
  refine W_seq (W_cond e23 (fun h => by cases h) (fun _ => W_skip (SeqK_n ?_)))
  refine W_assoc ?_
  refine W_seq (W_ops [1, 2, 24, 25, 26] ?_)
  simp only [o10_6, wO, ↓reduceIte, Nat.reduceEqDiff, e1, e2, a2.len]
  clear e1 e2
  intro fr e1 e2 e24 e25 e26
  refine SeqK_n ?_
  refine W_seq (W_block (W_loop (fun mm fr s3 => ∃ i : Nat, i + mm = m ∧ s2 = s3 ∧ geT fr 1 = v ∧ geT fr 2 = .pointer (some ⟨B, 0, none⟩) ∧ geT fr 24 = v ∧ geT fr 25 = .int .i64 (m : Nat) ∧ geT fr 26 = .int .i64 (i : Nat)) m ⟨0, by omega, rfl, e1, e2, e24, e25, e26⟩ ?_))
  clear e1 e2 e24 e25 e26 fr
  rintro mm fr _ ⟨i, hi, rfl, e1, e2, e24, e25, e26⟩
  refine W_seq (W_ops [1, 2, 24, 25, 26, 27] ?_)
  simp only [o10_8, wO, ↓reduceIte, Nat.reduceEqDiff, e1, e2, e24, e25, e26]
  clear e1 e2 e24 e25 e26
  intro fr e1 e2 e24 e25 e26 e27
  refine SeqK_n ?_
  refine W_while e27 (fun hlt => ?_) (fun hlt => ?_)
  · obtain ⟨z, A1, L1, zr⟩ := a2.row (show i < m by omega)
    refine W_seq (W_block ?_)
    refine W_seq (W_ops [1, 2, 8, 24, 25, 26] ?_)
    simp only [o10_9, wO, ↓reduceIte, Nat.reduceEqDiff, e1, e2, e24, e25, e26, A1, L1]
    clear e1 e2 e24 e25 e26 e27
    intro fr e1 e2 e8 e24 e25 e26
    refine SeqK_n ?_
    refine W_seq (W_ops [1, 2, 24, 25, 26, 35] ?_)
    simp only [o10_10, wO, ↓reduceIte, Nat.reduceEqDiff, e1, e2, e8, e24, e25, e26, zr.len, k3]
    clear e1 e2 e8 e24 e25 e26
    intro fr e1 e2 e24 e25 e26 e35
    refine SeqK_n ?_
    refine W_cond e35 (fun h => by cases h) (fun _ => W_skip (BlkK_n (SeqK_n ?_)))
    refine W_ops [1, 2, 24, 25, 26] ?_
    simp only [o10_12, wO, ↓reduceIte, Nat.reduceEqDiff, e1, e2, e24, e25, e26, wrap_i64 (n := (i : Int) + 1) (by omega) (by omega)]
    clear e1 e2 e24 e25 e26
    intro fr e1 e2 e24 e25 e26
    exact LoopK_n (m' := mm - 1) (by omega) ⟨i + 1, by omega, rfl, e1, e2, e24, e25, by rw [e26]; rfl⟩
  · refine LoopK_x (BlkK_e (SeqK_n ?_))
    refine W_assoc ?_
    refine W_seq (W_ops [1, 38, 39, 40] ?_)
    simp only [o10_13, wO, ↓reduceIte, e2, k14]
    refine CallK_of (run22 hX ho) ?_
    rintro lf s3 ⟨B2, H3⟩
    have sl := (H3.own (List.mem_cons_self ..)).slc
    simp only [wO, ↓reduceIte, Nat.reduceEqDiff, e1, sl.len]
    clear e1 e2
    intro fr e1 e38 e39 e40
    refine SeqK_n ?_
    refine W_seq (W_block (W_loop (fun mm fr s4 => ∃ (i : Nat) (v : Value), i + mm = 3 ∧ geT fr 1 = v ∧ geT fr 38 = lf ∧ geT fr 39 = .int .i64 3 ∧ geT fr 40 = .int .i64 (i : Nat) ∧ TabC s4 v m n (stepF m n k f i) ∧ Same s3 s4 (fun _ => False)) 3 ⟨0, v, rfl, e1, e38, e39, e40, a2.same H3.same, .refl _ _⟩ ?_))
    clear e1 e38 e39 e40 fr hi e24 e25 e26 e27
    rintro mm fr s4 ⟨i, v', hi, e1, e38, e39, e40, a4, hs4⟩
    have H4 := H3.keep hs4
    have sl4 := (H4.own (List.mem_cons_self ..)).slc
    refine W_seq (W_ops [1, 38, 39, 40, 41] ?_)
    simp only [o10_15, wO, ↓reduceIte, Nat.reduceEqDiff, e1, e38, e39, e40]
    clear e1 e38 e39 e40
    intro fr e1 e38 e39 e40 e41
    refine SeqK_n ?_
    refine W_while e41 (fun hlt => ?_) (fun hlt => ?_)
    · have hi3 : i < 3 := by omega
      have A1 := sl4.addr (kk := .i64) (i := ((i : Nat) : Int)) rfl hi3
      rw [Nat.mul_one] at A1
      have L1 := sl4.load (j := i) (c := fnV B2 i) (by
        match i, hi3 with
        | 0, _ => rfl
        | 1, _ => rfl
        | 2, _ => rfl)
      refine W_seq (W_block ?_)
      refine W_seq (W_ops [1, 10, 38, 39, 40] ?_)
      simp only [o10_16, wO, ↓reduceIte, Nat.reduceEqDiff, e1, e38, e39, e40, A1, L1]
      clear e1 e38 e39 e40 e41
      intro fr e1 e10 e38 e39 e40
      refine SeqK_n ?_
      refine W_seq (W_ops [11, 12, 38, 39, 40] ?_)
      simp only [o10_17, wO, ↓reduceIte, Nat.reduceEqDiff, e1, e10]
      refine WO_callT ?_
      simp only [wO, ↓reduceIte, Nat.reduceEqDiff]
      rw [fnV, FunK_f]
      refine CallK_of (runStep hX ho hi3 (H4.cell (B := B2) (cs := (set1 c w r n m k).C) (by simp)) hk rfl rfl rfl a4 hm hn hmn) ?_
      rintro _ s5 ⟨o, rfl, a5, hs5⟩
      simp only [wO, ↓reduceIte, Nat.reduceEqDiff, e38, e39, e40]
      clear e1 e10 e38 e39 e40
      intro fr e11 e12 e38 e39 e40
      refine SeqK_n ?_
      refine W_assoc ?_
      refine W_seq (W_ops [11, 12, 38, 39, 40, 51] ?_)
      simp only [o10_18, wO, ↓reduceIte, Nat.reduceEqDiff, e11, e12, e38, e39, e40]
      clear e11 e12 e38 e39 e40
      intro fr e11 e12 e38 e39 e40 e51
      refine SeqK_n ?_
      refine W_seq (W_cond e51 (fun h => by cases h) (fun _ => W_skip (SeqK_n ?_)))
      refine W_ops [1, 38, 39, 40] ?_
      simp only [o10_20, wO, ↓reduceIte, Nat.reduceEqDiff, e11, e38, e39, e40]
      clear e11 e12 e38 e39 e40
      intro fr e1 e38 e39 e40
      refine BlkK_n (SeqK_n ?_)
      refine W_ops [1, 38, 39, 40] ?_
      simp only [o10_21, wO, ↓reduceIte, Nat.reduceEqDiff, e1, e38, e39, e40, wrap_i64 (n := (i : Int) + 1) (by omega) (by omega)]
      clear e1 e38 e39 e40
      intro fr e1 e38 e39 e40
      exact LoopK_n (m' := mm - 1) (by omega) ⟨i + 1, o, by omega, e1, e38, e39, by rw [e40]; rfl, a5, hs4.trans hs5 (fun _ _ h => h) (fun _ _ h => h)⟩
    · obtain rfl : i = 3 := by omega
      refine LoopK_x (BlkK_e (SeqK_n ?_))
      refine W_seq (W_ops [4, 5] ?_)
      simp only [o10_22, wO, ↓reduceIte, e1]
      refine CallK_of (run23 hX ho H4 a4 hm hn.2) ?_
      rintro o s5 H5
      simp only [wO, ↓reduceIte, Nat.reduceEqDiff]
      clear e1
      intro fr e4 e5
      refine SeqK_n ?_
      exact W_ret (Ret2 e4 e5 ⟨_, rfl, .of (H5.tab (List.mem_cons_self ..)), (H2.keep H5.same).same⟩)

end Go.Proofs.YtmfaodenkghmkaaGreat

/- The law's setup; what is heavy: walked. -/
namespace Go.Proofs.YtmfaodenkghmkaaGreat
open Go Go.Vam

def set0 : St := ⟨4621819117588971520, 4602678819172646912, 4652007308841189376, 16, 4, 3, 0, 0, 0, 1, 4, 0, 4620693217682128896, 0⟩
def z14 : List Value := [.float .f64 0, .float .f64 0, .float .f64 0, .int .i64 0, .int .i64 0, .int .i64 0, .int .i8 0, .int .i64 0, .int .i8 0, .int .i64 0, .int .i64 0, .int .i64 0, .float .f64 0, .float .f64 0]
def heavyB (ev ro : Int) : Bool := if ev < 0 ∨ ro < 0 ∨ 16384 < ev ∨ 256 < ro then false else decide (4096 < ev * ro ∨ 262144 < ev * ro * (ro + 64))


theorem run4 {X : Ctx} (hX : X.fns = fnsOf Tryz.prog) (ho : ∀ f args s, f ≠ 7 → X.orc f args s = none) {s : Mm} : CallP X 4 [] s (fun r s' => r = set0.V ∧ Same s s' (fun _ => False)) := by
  have hb1 : buildV [.float .f64 0, .float .f64 0, .float .f64 0, .int .i64 0, .int .i64 0] [(0, 1, .float .f64 4621819117588971520), (1, 1, .float .f64 4602678819172646912), (2, 1, .float .f64 4652007308841189376), (3, 1, .int .i64 16), (4, 1, .int .i64 4)] = some (bV 4621819117588971520 4602678819172646912 4652007308841189376 16 4) := rfl
  have hb2 : buildV [.float .f64 0, .float .f64 0, .float .f64 0, .int .i64 0, .int .i64 0, .int .i64 0, .int .i8 0, .int .i64 0, .int .i8 0, .int .i64 0, .int .i64 0, .int .i64 0, .float .f64 0, .float .f64 0] [(0, 5, bV 4621819117588971520 4602678819172646912 4652007308841189376 16 4), (5, 1, .int .i64 3), (9, 1, .int .i64 1), (10, 1, .int .i64 4), (12, 1, .float .f64 4620693217682128896)] = some set0.V := rfl
  have H1 := (Hold.refl s).new z14
  have st : storeV (newAt s (.cells z14 false)) 14 (.pointer (some ⟨s.nxt, 0, none⟩)) set0.V = some (undefV, setBlk (newAt s (.cells z14 false)) s.nxt (.cells set0.C false)) :=
    store_all (vs := set0.C) (H1.cell (List.mem_cons_self ..)) rfl rfl rfl
  have H2 := H1.setc (cs' := set0.C)
  have hz : ∀ s : Mm, newAt s (.cells [.float .f64 0, .float .f64 0, .float .f64 0, .int .i64 0, .int .i64 0, .int .i64 0, .int .i8 0, .int .i64 0, .int .i8 0, .int .i64 0, .int .i64 0, .int .i64 0, .float .f64 0, .float .f64 0] false) = newAt s (.cells z14 false) := fun _ => rfl
  refine CallP_of (hX ▸ ir4_eq) (ho _ _ _ (by decide)) (Nat.le_of_ble_eq_true rfl) ?_
  refine W_seq (W_ops [0] ?_)
  simp only [o4_0, wO, ↓reduceIte, hz]
  intro fr e0
  refine SeqK_n ?_
  refine W_seq (W_ops [0] ?_)
  simp only [o4_1, wO, ↓reduceIte, Nat.reduceEqDiff, e0, hb1, hb2, st]
  clear e0
  intro fr e0
  refine SeqK_n ?_
  exact W_ret (RetC1 e0 (loadn_all (H2.cell (List.mem_cons_self ..)) rfl) ⟨rfl, H2.same⟩)

set_option maxHeartbeats 1000000 in
theorem run5 {X : Ctx} (hX : X.fns = fnsOf Tryz.prog) (ho : ∀ f args s, f ≠ 7 → X.orc f args s = none) {s : Mm} {x : St} : CallP X 5 [x.V] s (fun r s' => r = .bool (heavyB x.ev x.ro) ∧ Same s s' (fun _ => False)) := by
  have hbx : x.V.cells.toList = x.C := rfl
  have H1 := (Hold.refl s).new x.C
  refine CallP_of (hX ▸ ir5_eq) (ho _ _ _ (by decide)) (Nat.le_of_ble_eq_true rfl) ?_
  refine W_seq (W_ops [1] ?_)
  simp only [o5_0, wO, ↓reduceIte, Nat.reduceEqDiff, hbx]
  intro fr e1
  refine SeqK_n ?_
  generalize newAt s (.cells x.C false) = s1 at H1 ⊢
  generalize s.nxt = B at H1 e1
  have L0 : loadV s1 (some 5) (.pointer (some ⟨B, 0, none⟩)) = some (bV x.c x.w x.r x.ev x.ro) := (loadn_g (H1.cell (List.mem_cons_self ..))).trans rfl
  have H4 := H1.new [.float .f64 0, .float .f64 0, .float .f64 0, .int .i64 0, .int .i64 0]
  have st : storeV (newAt s1 (.cells [.float .f64 0, .float .f64 0, .float .f64 0, .int .i64 0, .int .i64 0] false)) 5 (.pointer (some ⟨s1.nxt, 0, none⟩)) (bV x.c x.w x.r x.ev x.ro) = some (undefV, setBlk (newAt s1 (.cells [.float .f64 0, .float .f64 0, .float .f64 0, .int .i64 0, .int .i64 0] false)) s1.nxt (.cells (bC x.c x.w x.r x.ev x.ro) false)) :=
    store_all (vs := bC x.c x.w x.r x.ev x.ro) (H4.cell (List.mem_cons_self ..)) rfl rfl rfl
  have H5 := H4.setc (cs' := bC x.c x.w x.r x.ev x.ro)
  refine W_seq (W_ops [3] ?_)
  simp only [o5_1, wO, ↓reduceIte, Nat.reduceEqDiff, e1, L0, st]
  clear e1
  intro fr e3
  refine SeqK_n ?_
  clear st H4 L0
  generalize setBlk _ s1.nxt _ = s2 at H5 ⊢
  generalize s1.nxt = Bb at H5 e3
  have j3 : loadV s2 none (.pointer (some ⟨Bb, 3, none⟩)) = some (.int .i64 x.ev) := load_g (o := 3) (H5.cell (List.mem_cons_self ..))
  have j4 : loadV s2 none (.pointer (some ⟨Bb, 4, none⟩)) = some (.int .i64 x.ro) := load_g (o := 4) (H5.cell (List.mem_cons_self ..))
  have hS := H5.same
  clear H5 H1
  obtain ⟨ev, hev⟩ : ∃ ev, ev = x.ev := ⟨_, rfl⟩
  obtain ⟨ro, hro⟩ : ∃ ro, ro = x.ro := ⟨_, rfl⟩
  rw [← hev] at j3
  rw [← hro] at j4
  rw [← hev, ← hro]
  refine W_assoc ?_
  refine W_seq (W_opsB [3, 23] (fun fr s' => s2 = s' ∧ geT fr 3 = .pointer (some ⟨Bb, 0, none⟩) ∧ geT fr 23 = .bool (decide (ev < 0 ∨ ro < 0 ∨ 16384 < ev ∨ 256 < ro))) ?_ ?_)
  · intro R' hR'
    by_cases h1 : ev < 0
    · simp only [o5_2, wO, ↓reduceIte, Nat.reduceEqDiff, e3, j3, decide_eq_true h1]
      intro fr e3 e23
      exact hR' _ _ ⟨rfl, e3, by rw [e23]; exact congrArg Value.bool (decide_eq_true (.inl h1)).symm⟩
    · by_cases h2 : ro < 0
      · simp only [o5_2, wO, ↓reduceIte, Nat.reduceEqDiff, e3, j3, j4, decide_eq_false h1, decide_eq_true h2]
        intro fr e3 e23
        exact hR' _ _ ⟨rfl, e3, by rw [e23]; exact congrArg Value.bool (decide_eq_true (.inr (.inl h2))).symm⟩
      · by_cases h3 : 16384 < ev
        · simp only [o5_2, wO, ↓reduceIte, Nat.reduceEqDiff, e3, j3, j4, decide_eq_false h1, decide_eq_false h2, decide_eq_true h3]
          intro fr e3 e23
          exact hR' _ _ ⟨rfl, e3, by rw [e23]; exact congrArg Value.bool (decide_eq_true (.inr (.inr (.inl h3)))).symm⟩
        · simp only [o5_2, wO, ↓reduceIte, Nat.reduceEqDiff, e3, j3, j4, decide_eq_false h1, decide_eq_false h2, decide_eq_false h3]
          intro fr e3 e23
          exact hR' _ _ ⟨rfl, e3, by rw [e23]; exact congrArg Value.bool (decide_eq_decide.2 ⟨fun q => .inr (.inr (.inr q)), fun q => q.elim (fun a => absurd a h1) fun q => q.elim (fun a => absurd a h2) fun q => q.elim (fun a => absurd a h3) id⟩)⟩
  clear e3 fr
  rintro fr _ ⟨rfl, e3, e23⟩
  refine SeqK_n ?_
  refine W_seq (W_if e23 (fun h1 => ?_) (fun h1 => W_skip (SeqK_n ?_)))
  · skip
    refine W_seq (W_ops [2] ?_)
    simp only [o5_3, wO, ↓reduceIte]
    clear e3 e23
    intro fr e2
    refine SeqK_n ?_
    exact W_ret (SeqK_r (Ret1 e2 ⟨by rw [heavyB, if_pos h1], hS⟩))
  · have b0 : 0 ≤ ev * ro := Int.mul_nonneg (by omega) (by omega)
    have b1 : ev * ro ≤ 16384 * 256 := Int.mul_le_mul (by omega) (by omega) (by omega) (by omega)
    have b2 : 0 ≤ ev * ro * (ro + 64) := Int.mul_nonneg b0 (by omega)
    have b3 : ev * ro * (ro + 64) ≤ 16384 * 256 * 320 := Int.mul_le_mul b1 (by omega) (by omega) (by omega)
    have w1 : wrapK .i64 (ev * ro) = ev * ro := wrap_i64 (by omega) (by omega)
    have w2 : wrapK .i64 (ro + 64) = ro + 64 := wrap_i64 (by omega) (by omega)
    have w3 : wrapK .i64 (ev * ro * (ro + 64)) = ev * ro * (ro + 64) := wrap_i64 (by omega) (by omega)
    by_cases h2 : 4096 < ev * ro
    · skip
      refine W_seq (W_ops [2] ?_)
      simp only [o5_4, wO, ↓reduceIte, Nat.reduceEqDiff, e3, j3, j4, w1, decide_eq_true h2]
      clear e3
      intro fr e2
      refine SeqK_n ?_
      exact W_ret (Ret1 e2 ⟨by rw [heavyB, if_neg h1, decide_eq_true (.inl h2)], hS⟩)
    · skip
      refine W_seq (W_ops [2] ?_)
      simp only [o5_4, wO, ↓reduceIte, Nat.reduceEqDiff, e3, j3, j4, w1, decide_eq_false h2, w2, w3]
      clear e3
      intro fr e2
      refine SeqK_n ?_
      exact W_ret (Ret1 e2 ⟨by rw [heavyB, if_neg h1]; exact congrArg Value.bool (decide_eq_decide.2 ⟨fun q => .inr q, fun q => q.elim (fun a => absurd a h2) id⟩), hS⟩)

end Go.Proofs.YtmfaodenkghmkaaGreat
