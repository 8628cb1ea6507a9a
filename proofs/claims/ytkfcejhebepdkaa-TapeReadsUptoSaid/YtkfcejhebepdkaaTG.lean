/- Small functions that TapeReads calls. -/
import Derived.Test.YtkfcejhebepdkaaTF
namespace Go.Proofs.Ytkfcejhebepdkaa
open Go Go.Vam

/-- Pieces of bytes that may be read. -/
def BsT (s : Mm) (v : Value) (bs : List (List UInt8)) (K : Nat → Prop) : Prop :=
  ∃ cells, SlC s 1 v bs.length cells ∧ (∀ b, footV v b → K b) ∧ ∀ (i : Nat) (b : List UInt8), bs[i]? = some b → ∃ c, cells[i]? = some c ∧ Bs s c b ∧ ∀ x, footV c x → K x

theorem BsT.same {s s' : Mm} {v : Value} {bs : List (List UInt8)} {K F : Nat → Prop} (h : BsT s v bs K) (g : Same s s' F) (hd : ∀ b, K b → ¬ F b) : BsT s' v bs K := by
  obtain ⟨c, a, k, b⟩ := h
  exact ⟨c, a.same g (fun x hx => hd x (k x hx)), k, fun i r h => let ⟨x, y, z, w⟩ := b i r h; ⟨x, y, SlC.same z g (fun x hx => hd x (w x hx)), w⟩⟩

def sumL : List (List UInt8) → Nat
  | [] => 0
  | b :: l => b.length + sumL l

theorem sumL_take : ∀ (l : List (List UInt8)) (i : Nat) (h : i < l.length), sumL (l.take (i + 1)) = sumL (l.take i) + l[i].length := by
  intro l
  induction l with
  | nil => intro i h; simp at h
  | cons b l ih =>
    intro i h
    cases i with
    | zero => simp [sumL]
    | succ i =>
      have := ih i (by simpa using h)
      simp only [List.take_succ_cons, sumL, List.getElem_cons_succ, this]
      omega

theorem sumL_le : ∀ (l : List (List UInt8)) (i : Nat), sumL (l.take i) ≤ sumL l := by
  intro l
  induction l with
  | nil => intro i; simp
  | cons b l ih =>
    intro i
    cases i with
    | zero => simp [sumL]
    | succ i => have := ih i; simp only [List.take_succ_cons, sumL]; omega


theorem run11 {X : Ctx} (hX : X.fns = fnsOf Try.prog) (ho : ∀ f args, f ≠ 9 → X.orc f args = none) {s : Mm} : CallP X 11 [] s (fun r s' => r = .pointer (some ⟨s.nxt, 0, none⟩) ∧ s' = newAt s (.cells [.slice none 0 0, .bool false] false)) := by
  refine CallP_of (hX ▸ ir11_eq) (ho _ _ (by decide)) (Nat.le_of_ble_eq_true rfl) ?_
  refine W_seq (W_ops [] ?_)
  simp only [o11_0, WO_move, WO_nil, frame_nil, evO_const, keep_nil, keepK_eq]
  intro fr
  refine SeqK_n ?_
  have hb : buildV [.slice none 0 0, .bool false] [] = some (.agg #[.slice none 0 0, .bool false]) := rfl
  refine W_seq (W_ops [0] ?_)
  simp only [o11_1, WO_box, WO_build, WO_move, WO_nil, PureK_some, geT_put, evO_tmp, keep_nil, keep_cons, keepK_eq, List.map_nil, ↓reduceIte, eq_self, hb]
  intro fr e0
  refine SeqK_n ?_
  exact W_ret (Ret1 e0 ⟨rfl, rfl⟩)

theorem run17 {X : Ctx} (hX : X.fns = fnsOf Try.prog) (ho : ∀ f args, f ≠ 9 → X.orc f args = none) {s : Mm} {R n : Nat} {v t : Value} {cs : List Value} {p : Bool} (hg : Store.get s.h R = some (.cells [v, t] p)) (hv : SlC s 1 v n cs) :
    CallP X 17 [.pointer (some ⟨R, 0, none⟩)] s (fun r s' => r = .int .i64 (n : Nat) ∧ s = s') := by
  refine CallP_of (hX ▸ ir17_eq) (ho _ _ (by decide)) (Nat.le_of_ble_eq_true rfl) ?_
  refine W_seq (W_ops [0] ?_)
  simp only [o17_0, WO_move, WO_nil, geT_put, frame_nil, frame_cons, evO_const, keep_nil, keep_cons, keepK_eq, Nat.reduceEqDiff, ↓reduceIte, eq_self, Nat.zero_add]
  intro fr e0
  refine SeqK_n ?_
  refine W_assoc ?_
  refine W_seq (W_ops [0, 4] ?_)
  simp only [o17_1, WO_eq, ptr_some, WO_move, WO_nil, PureK_some, geT_put, evO_tmp, evO_const, keep_nil, keep_cons, keepK_eq, Nat.reduceEqDiff, ↓reduceIte, eq_self, Bool.false_eq_true, e0]
  clear e0
  intro fr e0 e4
  refine SeqK_n ?_
  refine W_seq (W_cond e4 (fun h => by cases h) (fun _ => W_skip (SeqK_n ?_)))
  refine W_seq (W_ops [2] ?_)
  simp only [o17_3, WO_bu, WO_fieldAddr, fieldAddr_p, WO_load, WO_move, WO_nilCheck, nilCheck_p, WO_nil, PureK_some, geT_put, evO_tmp, keep_nil, keep_cons, keepK_eq, List.map_cons, List.map_nil, ↓reduceIte, eq_self, Nat.add_zero, List.getElem?_cons_zero, e0, load_g (o := 0) hg, hv.len]
  clear e0 e4
  intro fr e2
  refine SeqK_n ?_
  exact W_ret (Ret1 e2 ⟨rfl, rfl⟩)

theorem run16_nil {X : Ctx} (hX : X.fns = fnsOf Try.prog) (ho : ∀ f args, f ≠ 9 → X.orc f args = none) {s : Mm} : CallP X 16 [.pointer none] s (fun r s' => r = .int .i64 0 ∧ s = s') := by
  refine CallP_of (hX ▸ ir16_eq) (ho _ _ (by decide)) (Nat.le_of_ble_eq_true rfl) ?_
  refine W_seq (W_ops [0] ?_)
  simp only [o16_0, WO_move, WO_nil, geT_put, frame_nil, frame_cons, evO_const, keep_nil, keep_cons, keepK_eq, Nat.reduceEqDiff, ↓reduceIte, eq_self, Nat.zero_add]
  intro fr e0
  refine SeqK_n ?_
  refine W_assoc ?_
  refine W_seq (W_ops [0, 4] ?_)
  simp only [o16_1, WO_eq, ptr_nil, WO_move, WO_nil, PureK_some, geT_put, evO_tmp, evO_const, keep_nil, keep_cons, keepK_eq, Nat.reduceEqDiff, ↓reduceIte, eq_self, Bool.false_eq_true, e0]
  clear e0
  intro fr e0 e4
  refine SeqK_n ?_
  refine W_seq (W_cond e4 (fun _ => ?_) (fun h => by cases h))
  refine W_seq (W_ops [2] ?_)
  simp only [o16_2, WO_move, WO_nil, geT_put, evO_const, keep_nil, keep_cons, keepK_eq, ↓reduceIte, eq_self]
  clear e0 e4
  intro fr e2
  refine SeqK_n ?_
  exact W_ret (SeqK_r (Ret1 e2 ⟨rfl, rfl⟩))

theorem run12_nil {X : Ctx} (hX : X.fns = fnsOf Try.prog) (ho : ∀ f args, f ≠ 9 → X.orc f args = none) {s : Mm} {v : Value} : CallP X 12 [.pointer none, v] s (fun r s' => r = .tuple #[.slice none 0 0, .int .i64 1] ∧ s = s') := by
  refine CallP_of (hX ▸ ir12_eq) (ho _ _ (by decide)) (Nat.le_of_ble_eq_true rfl) ?_
  refine W_seq (W_ops [0, 1] ?_)
  simp only [o12_0, WO_move, WO_nil, geT_put, frame_nil, frame_cons, evO_const, keep_nil, keep_cons, keepK_eq, Nat.reduceEqDiff, Nat.reduceAdd, ↓reduceIte, eq_self, Nat.zero_add]
  intro fr e0 e1
  refine SeqK_n ?_
  refine W_seq (W_block ?_)
  refine W_seq (W_ops [0, 1, 10] ?_)
  simp only [o12_1, WO_eq, ptr_nil, WO_move, WO_nil, PureK_some, geT_put, evO_tmp, evO_const, keep_nil, keep_cons, keepK_eq, Nat.reduceEqDiff, ↓reduceIte, eq_self, Bool.false_eq_true, e0, e1]
  clear e0 e1
  intro fr e0 e1 e10
  refine SeqK_n ?_
  refine W_cond e10 (fun _ => ?_) (fun h => by cases h)
  refine W_seq (W_ops [4, 5] ?_)
  simp only [o12_2, WO_move, WO_nil, geT_put, evO_const, keep_nil, keep_cons, keepK_eq, Nat.reduceEqDiff, ↓reduceIte, eq_self]
  clear e0 e1 e10
  intro fr e4 e5
  refine SeqK_n ?_
  exact W_ret (BlkK_r (SeqK_r (Ret2 e4 e5 ⟨rfl, rfl⟩)))

theorem run12_torn {X : Ctx} (hX : X.fns = fnsOf Try.prog) (ho : ∀ f args, f ≠ 9 → X.orc f args = none) {s : Mm} {R : Nat} {hv v : Value} {b : List UInt8} (hg : Store.get s.h R = some (.cells [hv, .bool true] false)) (hb : Bs s v b) (hn : b.length ≤ 1048576) :
    CallP X 12 [.pointer (some ⟨R, 0, none⟩), v] s (fun r s' => r = .tuple #[.slice none 0 0, .int .i64 270] ∧ s = s') := by
  refine CallP_of (hX ▸ ir12_eq) (ho _ _ (by decide)) (Nat.le_of_ble_eq_true rfl) ?_
  refine W_seq (W_ops [0, 1] ?_)
  simp only [o12_0, WO_move, WO_nil, geT_put, frame_nil, frame_cons, evO_const, keep_nil, keep_cons, keepK_eq, Nat.reduceEqDiff, Nat.reduceAdd, ↓reduceIte, eq_self, Nat.zero_add]
  intro fr e0 e1
  refine SeqK_n ?_
  refine W_seq (W_block ?_)
  refine W_seq (W_ops [0, 1, 10] ?_)
  simp only [o12_1, WO_eq, ptr_some, WO_move, WO_nil, PureK_some, geT_put, evO_tmp, evO_const, keep_nil, keep_cons, keepK_eq, Nat.reduceEqDiff, ↓reduceIte, eq_self, Bool.false_eq_true, e0, e1]
  clear e0 e1
  intro fr e0 e1 e10
  refine SeqK_n ?_
  refine W_cond e10 (fun h => by cases h) (fun _ => ?_)
  refine W_seq (W_ops [0, 1, 13] ?_)
  simp only [o12_3, WO_bin, WO_bu, WO_move, bin_gtr, WO_nil, PureK_some, geT_put, evO_tmp, evO_const, keep_nil, keep_cons, keepK_eq, List.map_cons, List.map_nil, Nat.reduceEqDiff, ↓reduceIte, eq_self, e0, e1, hb.len]
  clear e0 e1 e10
  intro fr e0 e1 e13
  refine SeqK_n ?_
  refine W_if e13 (fun h => by omega) (fun _ => ?_)
  refine W_seq (W_ops [0, 1, 17] ?_)
  simp only [o12_5, WO_fieldAddr, fieldAddr_p, WO_load, WO_move, WO_nilCheck, nilCheck_p, WO_nil, PureK_some, geT_put, evO_tmp, keep_nil, keep_cons, keepK_eq, Nat.reduceEqDiff, ↓reduceIte, eq_self, Nat.zero_add, List.getElem?_cons_zero, List.getElem?_cons_succ, e0, e1, load_g (o := 1) hg]
  clear e0 e1 e13
  intro fr e0 e1 e17
  refine SeqK_n ?_
  refine W_cond e17 (fun _ => ?_) (fun h => by cases h)
  refine W_seq (W_ops [4, 5] ?_)
  simp only [o12_6, WO_move, WO_nil, geT_put, evO_const, keep_nil, keep_cons, keepK_eq, Nat.reduceEqDiff, ↓reduceIte, eq_self]
  clear e0 e1 e17
  intro fr e4 e5
  refine SeqK_n ?_
  exact W_ret (BlkK_r (SeqK_r (Ret2 e4 e5 ⟨rfl, rfl⟩)))

theorem run8 {X : Ctx} (hX : X.fns = fnsOf Try.prog) (ho : ∀ f args, f ≠ 9 → X.orc f args = none) {s : Mm} {v : Value} {bs : List (List UInt8)} {K : Nat → Prop} (h : BsT s v bs K) (hn : bs.length + sumL bs < 4611686018427387904) :
    CallP X 8 [v] s (fun r s' => r = .bool (decide (262144 < bs.length + sumL bs)) ∧ s = s') := by
  obtain ⟨cells, hc, _, hrow⟩ := h
  refine CallP_of (hX ▸ ir8_eq) (ho _ _ (by decide)) (Nat.le_of_ble_eq_true rfl) ?_
  refine W_seq (W_ops [0] ?_)
  simp only [o8_0, WO_move, WO_nil, geT_put, frame_nil, frame_cons, evO_const, keep_nil, keep_cons, keepK_eq, Nat.reduceEqDiff, ↓reduceIte, eq_self, Nat.zero_add]
  intro fr e0
  refine SeqK_n ?_
  refine W_seq (W_ops [0, 3] ?_)
  simp only [o8_1, WO_bu, WO_move, WO_nil, PureK_some, geT_put, evO_tmp, keep_nil, keep_cons, keepK_eq, List.map_cons, List.map_nil, Nat.reduceEqDiff, ↓reduceIte, eq_self, e0, hc.len]
  clear e0
  intro fr e0 e3
  refine SeqK_n ?_
  refine W_assoc ?_
  refine W_seq (W_ops [0, 3, 4] ?_)
  simp only [o8_2, WO_move, WO_nil, geT_put, evO_const, keep_nil, keep_cons, keepK_eq, Nat.reduceEqDiff, ↓reduceIte, eq_self, e0, e3]
  clear e0 e3
  intro fr e0 e3 e4
  refine SeqK_n ?_
  refine W_seq (W_block (W_loop (fun m fr s1 => ∃ k, k + m = bs.length ∧ s1 = s ∧ geT fr 0 = v ∧ geT fr 3 = .int .i64 ((bs.length + sumL (bs.take k) : Nat) : Int) ∧ geT fr 4 = .int .i64 (k : Nat)) bs.length ⟨0, by simp, rfl, e0, by rw [e3]; simp [sumL], e4⟩ ?_))
  clear e0 e3 e4 fr
  rintro m fr _ ⟨k, hk, rfl, e0, e3, e4⟩
  refine W_assoc ?_
  refine W_seq (W_ops [0, 3, 4, 10] ?_)
  simp only [o8_4, WO_bin, WO_bu, WO_move, bin_lss, WO_nil, PureK_some, geT_put, evO_tmp, keep_nil, keep_cons, keepK_eq, List.map_cons, List.map_nil, Nat.reduceEqDiff, ↓reduceIte, eq_self, e0, e3, e4, hc.len]
  clear e0 e3 e4
  intro fr e0 e3 e4 e10
  refine SeqK_n ?_
  refine W_while e10 (fun hlt => ?_) (fun hlt => ?_)
  · have hk2 : k < bs.length := by omega
    obtain ⟨c, hc1, hc2, _⟩ := hrow k bs[k] (by simp [hk2])
    have hst := sumL_take bs k hk2
    have hle := sumL_le bs (k + 1)
    refine W_seq (W_block ?_)
    refine W_ops [0, 3, 4] ?_
    simp only [o8_5, WO_addrSl, WO_bin, WO_bu, WO_load, WO_move, bin_add, WO_nil, PureK_some, geT_put, evO_tmp, keep_nil, keep_cons, keepK_eq, List.map_cons, List.map_nil, Nat.reduceEqDiff, ↓reduceIte, eq_self, Nat.mul_one, e0, e3, e4, hc.addr rfl hk2, hc.load (j := k) hc1, hc2.len, wrap_i64 (n := ((bs.length + sumL (bs.take k) : Nat) : Int) + ((bs[k].length : Nat) : Int)) (by omega) (by omega)]
    clear e0 e3 e4 e10
    intro fr e0 e3 e4
    refine BlkK_n (SeqK_n ?_)
    refine W_ops [0, 3, 4] ?_
    simp only [o8_6, WO_bin, WO_move, bin_add, WO_nil, PureK_some, geT_put, evO_tmp, evO_const, keep_nil, keep_cons, keepK_eq, Nat.reduceEqDiff, ↓reduceIte, eq_self, e0, e3, e4, wrap_i64 (n := (k : Int) + 1) (by omega) (by omega)]
    clear e0 e3 e4
    intro fr e0 e3 e4
    refine LoopK_n (m' := m - 1) (by omega) ⟨k + 1, by omega, rfl, e0, ?_, ?_⟩
    · rw [e3, hst]; congr 1; omega
    · rw [e4]; rfl
  · refine LoopK_x (BlkK_e (SeqK_n ?_))
    have hkk : k = bs.length := by omega
    subst hkk
    rw [List.take_length] at e3
    refine W_seq (W_ops [2] ?_)
    simp only [o8_7, WO_bin, WO_move, bin_gtr, WO_nil, PureK_some, geT_put, evO_tmp, evO_const, keep_nil, keep_cons, keepK_eq, ↓reduceIte, eq_self, e3]
    clear e0 e3 e4 e10
    intro fr e2
    refine SeqK_n ?_
    refine W_ret (Ret1 e2 ⟨?_, rfl⟩)
    congr 1
    exact decide_eq_decide.2 (by omega)

end Go.Proofs.Ytkfcejhebepdkaa

/- The frames that were told are written over. -/
namespace Go.Proofs.Ytkfcejhebepdkaa
open Go Go.Vam

theorem buildSlD_two {nid : Nat} {x y : Int} : buildSlD nid 1 [.int .i16 0] 2 [(0, 1, .int .i16 x), (1, 1, .int .i16 y)] = some (.slice (some ⟨nid, 0, none⟩) 2 2, .cells [.int .i16 x, .int .i16 y] false) := rfl

/-- A full row that grows is made anew. -/
theorem row_append {s : Mm} {A G p n : Nat} {l xs : List Value} {xv : Value} (hA : Store.get s.h A = some (.cells l false)) (hAn : A < s.nxt) (hl : p * G + G ≤ l.length) (hG : G < OPEN) (hG2 : (G + n) * 2 ≤ 140737488355328) (hn : 0 < n) (hx : srcCells s 1 xv = some (n, xs)) (h1 : xs.all oneCell = true) :
    appendV s 2 1 (rowSl A G p) xv = some (.slice (some ⟨s.nxt, 0, none⟩) (G + n) (OPEN + 1), newAt s (.cells ((l.drop (p * G)).take G ++ xs) true)) := by
  have hs : SlC s 1 (rowSl A G p) G ((l.drop (p * G)).take G) := .mk (blk_cells hA) hAn (by simp) (by omega) (.inl ⟨Nat.le_refl _, hG⟩)
  have hc := hs.cells
  unfold rowSl at hc ⊢
  simp only [appendV, hx]
  rw [if_neg (by omega), if_neg (by omega), if_pos ⟨by omega, by omega, by omega, hG2, h1⟩]
  simp only [hc, if_pos hG]


/-- A table whose first rows were made anew. -/
structure Spo (s1 : Mm) (A O R G p : Nat) : Prop where
  out : ∃ cs, Store.get s1.h O = some (.cells cs false) ∧ cs.length = R ∧ ∀ i, p ≤ i → i < R → cs[i]? = some (rowSl A G i)
  all : ∃ l, Store.get s1.h A = some (.cells l false) ∧ l.length = R * G

theorem run15a {X : Ctx} (hX : X.fns = fnsOf Try.prog) (ho : ∀ f args, f ≠ 9 → X.orc f args = none) {s1 : Mm} {fr : Fr} {A O R G T U box : Nat} {x : Value} (h4 : O < box) (h5 : A < box) (h6 : A ≠ O) (h7 : R < OPEN) (h8 : G < OPEN) (hR : R ≤ 256) (hG : 0 < R → G ≤ 65536) (hbx : box < s1.nxt)
    (hb0 : Store.get s1.h box = some (.cells [.float .f64 T, .float .f64 U, .slice (some ⟨O, 0, none⟩) R R, x] false)) (p1 : Spo s1 A O R G 0) (e1 : geT fr 1 = .pointer (some ⟨box, 0, none⟩)) :
    W X (.seq (.ops o15_1) (.block 0 (.loop b15_2))) fr s1 (fun e fr' s2 => e = .normal ∧ geT fr' 1 = .pointer (some ⟨box, 0, none⟩) ∧ Same s1 s2 (fun x => x = A ∨ x = O)) := by
  refine W_seq (W_ops [1, 2] ?_)
  simp only [o15_1, WO_move, WO_nil, geT_put, evO_const, keep_nil, keep_cons, keepK_eq, Nat.reduceEqDiff, ↓reduceIte, eq_self, e1]
  clear e1
  intro fr e1 e2
  refine SeqK_n ?_
  refine W_block (W_loop (fun m fr s2 => ∃ p, p + m = R ∧ geT fr 1 = .pointer (some ⟨box, 0, none⟩) ∧ geT fr 2 = .int .i64 (p : Nat) ∧ Spo s2 A O R G p ∧ Same s1 s2 (fun x => x = A ∨ x = O)) R ⟨0, by omega, e1, e2, p1, .refl _ _⟩ ?_)
  · clear e1 e2 p1
    rintro m fr s2 ⟨p, hm, e1, e2, pp, hs2⟩
    have hb2 : Store.get s2.h box = some (.cells [.float .f64 T, .float .f64 U, .slice (some ⟨O, 0, none⟩) R R, x] false) := by rw [hs2.get box (by omega) (fun h => by omega)]; exact hb0
    have hlen : ∀ (s : Mm) (B n : Nat), buV .len [.slice (some ⟨B, 0, none⟩) n n] = some (.int .i64 n) := fun _ _ _ => rfl
    have k2 := hs2.nxt
    refine W_assoc ?_
    refine W_seq (W_ops [1, 2, 10] ?_)
    simp only [o15_3, WO_bin, WO_bu, WO_fieldAddr, fieldAddr_p, WO_load, WO_move, bin_lss, WO_nil, PureK_some, geT_put, evO_tmp, keep_nil, keep_cons, keepK_eq, List.map_cons, List.map_nil, Nat.reduceEqDiff, ↓reduceIte, eq_self, Nat.zero_add, List.getElem?_cons_zero, List.getElem?_cons_succ, e1, e2, load_g (o := 2) hb2, hlen s2 O R]
    clear e1 e2
    intro fr e1 e2 e10
    refine SeqK_n ?_
    refine W_while e10 (fun hlt => ?_) (fun hlt => ?_)
    · have hp : p < R := by omega
      have hG' : G ≤ 65536 := hG (by omega)
      have hmul : p * G + G ≤ R * G := by rw [← Nat.succ_mul]; exact Nat.mul_le_mul_right _ hp
      refine W_seq (W_block ?_)
      refine W_assoc ?_
      refine W_seq (W_ops [1, 2, 3] ?_)
      simp only [o15_4, WO_move, WO_nil, geT_put, evO_const, keep_nil, keep_cons, keepK_eq, Nat.reduceEqDiff, ↓reduceIte, eq_self, e1, e2]
      clear e1 e2 e10
      intro fr e1 e2 e3
      refine SeqK_n ?_
      refine W_seq (W_block (W_loop (fun m2 fr s3 => ∃ g, g + m2 = G ∧ geT fr 1 = .pointer (some ⟨box, 0, none⟩) ∧ geT fr 2 = .int .i64 (p : Nat) ∧ geT fr 3 = .int .i64 (g : Nat) ∧ Spo s3 A O R G p ∧ Same s1 s3 (fun x => x = A ∨ x = O)) G ⟨0, by omega, e1, e2, e3, pp, hs2⟩ ?_))
      · clear e1 e2 e3 fr pp hs2 hb2 k2
        rintro m2 fr s3 ⟨g, hm2, e1, e2, e3, ⟨⟨cs, c1, c2, c3⟩, ⟨l, l1, l2⟩⟩, hs3⟩
        have hb3 : Store.get s3.h box = some (.cells [.float .f64 T, .float .f64 U, .slice (some ⟨O, 0, none⟩) R R, x] false) := by rw [hs3.get box (by omega) (fun h => by omega)]; exact hb0
        have k3 := hs3.nxt
        have so : SlC s3 1 (.slice (some ⟨O, 0, none⟩) R R) R cs := .mk (blk_cells c1) (by omega) (by rw [List.drop_zero, List.take_of_length_le (by omega)]) (by omega) (.inl ⟨Nat.le_refl _, h7⟩)
        have sr : SlC s3 1 (rowSl A G p) G ((l.drop (p * G)).take G) := .mk (blk_cells l1) (by omega) (by simp) (by omega) (.inl ⟨Nat.le_refl _, h8⟩)
        refine W_assoc ?_
        refine W_seq (W_ops [1, 2, 3, 20] ?_)
        simp only [o15_6, WO_addrSl, WO_bin, WO_bu, WO_fieldAddr, fieldAddr_p, WO_load, WO_move, bin_lss, WO_nil, PureK_some, geT_put, evO_tmp, keep_nil, keep_cons, keepK_eq, List.map_cons, List.map_nil, Nat.reduceEqDiff, ↓reduceIte, eq_self, Nat.zero_add, Nat.mul_one, List.getElem?_cons_zero, List.getElem?_cons_succ, e1, e2, e3, load_g (o := 2) hb3, so.addr (kk := .i64) (i := (p : Int)) rfl hp, so.load (j := p) (c3 p (Nat.le_refl _) hp), sr.len]
        clear e1 e2 e3
        intro fr e1 e2 e3 e20
        refine SeqK_n ?_
        refine W_while e20 (fun hlt2 => ?_) (fun hlt2 => ?_)
        · have hg : g < G := by omega
          have st : storeV s3 1 (elP (rowSl A G p) g) (.int .i16 (-9)) = some (undefV, setBlk s3 A (.cells (l.set (p * G + g) (.int .i16 (-9))) false)) := by
            simp only [rowSl, elP, add_none']
            exact store_g l1 rfl (by omega)
          refine W_seq (W_block ?_)
          refine W_ops [1, 2, 3] ?_
          simp only [o15_7, WO_addrSl, WO_fieldAddr, fieldAddr_p, WO_load, WO_move, WO_store, WO_nil, PureK_some, MemK_some, geT_put, puT_none, evO_tmp, evO_const, keep_nil, keep_cons, keepK_eq, Nat.reduceEqDiff, ↓reduceIte, eq_self, Nat.zero_add, Nat.mul_one, List.getElem?_cons_zero, List.getElem?_cons_succ, e1, e2, e3, load_g (o := 2) hb3, so.addr (kk := .i64) (i := (p : Int)) rfl hp, so.load (j := p) (c3 p (Nat.le_refl _) hp), sr.addr (kk := .i64) (i := (g : Int)) rfl hg, st]
          clear e1 e2 e3 e20
          intro fr e1 e2 e3
          refine BlkK_n (SeqK_n ?_)
          refine W_ops [1, 2, 3] ?_
          simp only [o15_8, WO_bin, WO_move, bin_add, WO_nil, PureK_some, geT_put, evO_tmp, evO_const, keep_nil, keep_cons, keepK_eq, Nat.reduceEqDiff, ↓reduceIte, eq_self, e1, e2, e3, wrap_i64 (n := (g : Int) + 1) (by omega) (by omega)]
          clear e1 e2 e3
          intro fr e1 e2 e3
          refine LoopK_n (m' := m2 - 1) (by omega) ⟨g + 1, by omega, e1, e2, by rw [e3]; rfl, ⟨⟨cs, by rw [get_set, if_neg (fun e => h6 e.symm)]; exact c1, c2, c3⟩, ⟨_, by rw [get_set, if_pos rfl], by rw [List.length_set]; exact l2⟩⟩, hs3.trans (.set (F := fun x => x = A) rfl) (fun _ _ h => h) (fun _ _ h => .inl h)⟩
        · refine LoopK_x (BlkK_e (SeqK_n ?_))
          have hbu := buildSlD_two (nid := s3.nxt) (x := -8) (y := -8)
          refine W_drawN [1, 2] 1 rfl ?_
          intro s4 hh4 hn4
          have b4 : Store.get s4.h box = some (.cells [.float .f64 T, .float .f64 U, .slice (some ⟨O, 0, none⟩) R R, x] false) := by rw [hh4]; exact hb3
          have hs34 : Same s3 s4 (fun _ => False) := ⟨by omega, fun B _ _ => by rw [hh4]⟩
          have so4 := so.same hs34 (fun _ _ h => h)
          obtain ⟨s5, hs5⟩ : ∃ s5, s5 = setH s4 (Store.put s4.h s3.nxt (some (.cells [.int .i16 (-8), .int .i16 (-8)] false))) := ⟨_, rfl⟩
          have get5 : ∀ B, B < s3.nxt → Store.get s5.h B = Store.get s3.h B := fun B hB => by rw [hs5, setH_h, Store.get_put, if_neg (by omega), hh4]
          have n5 : s5.nxt = s3.nxt + 1 := by rw [hs5, setH_nxt]; exact hn4
          have sx : SlC s5 1 (.slice (some ⟨s3.nxt, 0, none⟩) 2 2) 2 [.int .i16 (-8), .int .i16 (-8)] := .mk (blk_cells (by rw [hs5, setH_h, Store.get_put, if_pos rfl])) (by omega) rfl (by simp) (.inl ⟨Nat.le_refl _, by decide⟩)
          have ap := row_append (s := s5) (A := A) (G := G) (p := p) (by rw [get5 A (by omega)]; exact l1) (by omega) (by omega) h8 (by omega) (by omega) sx.src rfl
          obtain ⟨s6, hs6⟩ : ∃ s6, s6 = newAt s5 (.cells ((l.drop (p * G)).take G ++ [.int .i16 (-8), .int .i16 (-8)]) true) := ⟨_, rfl⟩
          rw [← hs6] at ap
          have get6 : ∀ B, B < s3.nxt → Store.get s6.h B = Store.get s3.h B := fun B hB => by rw [hs6, get_new, if_neg (by omega)]; exact get5 B hB
          have n6 : s6.nxt = s3.nxt + 2 := by rw [hs6, nxt_new]; omega
          have b6 : Store.get s6.h box = some (.cells [.float .f64 T, .float .f64 U, .slice (some ⟨O, 0, none⟩) R R, x] false) := by rw [get6 box (by omega)]; exact hb3
          have c6 : Store.get s6.h O = some (.cells cs false) := by rw [get6 O (by omega)]; exact c1
          have st : storeV s6 1 (elP (.slice (some ⟨O, 0, none⟩) R R) p) (.slice (some ⟨s5.nxt, 0, none⟩) (G + 2) (OPEN + 1)) = some (undefV, setBlk s6 O (.cells (cs.set p (.slice (some ⟨s5.nxt, 0, none⟩) (G + 2) (OPEN + 1))) false)) := by
            simp only [elP, add_none', Nat.zero_add]
            exact store_g c6 rfl (by omega)
          have so6 : SlC s6 1 (.slice (some ⟨O, 0, none⟩) R R) R cs := .mk (blk_cells c6) (by omega) (by rw [List.drop_zero, List.take_of_length_le (by omega)]) (by omega) (.inl ⟨Nat.le_refl _, h7⟩)
          have lr := so4.load (j := p) (c3 p (Nat.le_refl _) hp)
          have lr6 := so6.load (j := p) (c3 p (Nat.le_refl _) hp)
          have srr : Vam.sameO (some (rowSl A G p)) (rowSl A G p) = true := sr.sameO
          simp only [d15_9, WD_move, WD_fieldAddr, WD_addrSl, WD_load, WD_buildSlice, WD_store, WD_append, WD_nil, DPureK_some, DReadK_some, DActK_some, DNewK_some, pastR_nil, preHead_nil, preHead_cons, joinF_nil, joinF_cons, joinAll_nil, setH_self, Nat.testBit, Nat.reduceShiftRight, Nat.reduceAnd, Nat.reduceBneDiff, List.all_nil, List.all_cons, List.filter_nil, List.filter_cons, sameO_sl, bne_self_eq_false, geT_put, puT_none, evO_tmp, evO_const, keep_nil, keep_cons, keepK_eq, List.map_cons, List.map_nil, Nat.reduceEqDiff, Nat.reduceAdd, ↓reduceIte, fieldAddr_p, Bool.not_true, Bool.not_false, Bool.and_true, Bool.or_true, Bool.true_or, eq_self, Bool.false_eq_true, true_and, List.getElem?_cons_zero, List.getElem?_cons_succ, Nat.zero_add, Nat.mul_one, e1, e2, load_g (o := 2) b4, so4.addr (kk := .i64) (i := (p : Int)) rfl hp, lr, hbu, ← hs5, ap, load_g (o := 2) b6, lr6, srr, st]
          clear e1 e2
          intro fr e1 e2
          refine SeqK_n ?_
          have hs67 : Same s3 (setBlk s6 O (.cells (cs.set p (.slice (some ⟨s5.nxt, 0, none⟩) (G + 2) (OPEN + 1))) false)) (fun x => x = O) := ⟨by rw [nxt_set]; omega, fun B hB hF => by rw [get_set, if_neg hF]; exact get6 B hB⟩
          refine BlkK_n (id := 1) (SeqK_n ?_)
          refine W_ops [1, 2] ?_
          simp only [o15_10, WO_bin, WO_move, bin_add, WO_nil, PureK_some, geT_put, evO_tmp, evO_const, keep_nil, keep_cons, keepK_eq, Nat.reduceEqDiff, ↓reduceIte, eq_self, e1, e2, wrap_i64 (n := (p : Int) + 1) (by omega) (by omega)]
          clear e1 e2
          intro fr e1 e2
          refine LoopK_n (m' := m - 1) (by omega) ⟨p + 1, by omega, e1, by rw [e2]; rfl, ⟨⟨_, by rw [get_set, if_pos rfl], by rw [List.length_set]; exact c2, fun i hi hi2 => by rw [List.getElem?_set_ne (by omega)]; exact c3 i (by omega) hi2⟩, ⟨l, by rw [get_set, if_neg h6, get6 A (by omega)]; exact l1, l2⟩⟩, hs3.trans hs67 (fun _ _ h => h) (fun _ _ h => .inr h)⟩
    · refine LoopK_x (BlkK_e (id := 0) ⟨rfl, e1, hs2⟩)

theorem run15b {X : Ctx} (hX : X.fns = fnsOf Try.prog) (ho : ∀ f args, f ≠ 9 → X.orc f args = none) {s1 : Mm} {fr : Fr} {A O R G T U box : Nat} {x : Value} (h4 : O < box) (h5 : A < box) (h6 : A ≠ O) (h7 : R < OPEN) (h8 : G < OPEN) (hR : R ≤ 256) (hG : 0 < R → G ≤ 65536) (hbx : box < s1.nxt)
    (hb0 : Store.get s1.h box = some (.cells [.float .f64 T, .float .f64 U, x, .slice (some ⟨O, 0, none⟩) R R] false)) (p1 : Spo s1 A O R G 0) (e1 : geT fr 1 = .pointer (some ⟨box, 0, none⟩)) :
    W X (.seq (.ops o15_11) (.block 4 (.loop b15_12))) fr s1 (fun e fr' s2 => e = .normal ∧ geT fr' 1 = .pointer (some ⟨box, 0, none⟩) ∧ Same s1 s2 (fun x => x = A ∨ x = O)) := by
  refine W_seq (W_ops [1, 4] ?_)
  simp only [o15_11, WO_move, WO_nil, geT_put, evO_const, keep_nil, keep_cons, keepK_eq, Nat.reduceEqDiff, ↓reduceIte, eq_self, e1]
  clear e1
  intro fr e1 e4
  refine SeqK_n ?_
  refine W_block (W_loop (fun m fr s2 => ∃ p, p + m = R ∧ geT fr 1 = .pointer (some ⟨box, 0, none⟩) ∧ geT fr 4 = .int .i64 (p : Nat) ∧ Spo s2 A O R G p ∧ Same s1 s2 (fun x => x = A ∨ x = O)) R ⟨0, by omega, e1, e4, p1, .refl _ _⟩ ?_)
  · clear e1 e4 p1
    rintro m fr s2 ⟨p, hm, e1, e4, pp, hs2⟩
    have hb2 : Store.get s2.h box = some (.cells [.float .f64 T, .float .f64 U, x, .slice (some ⟨O, 0, none⟩) R R] false) := by rw [hs2.get box (by omega) (fun h => by omega)]; exact hb0
    have hlen : ∀ (s : Mm) (B n : Nat), buV .len [.slice (some ⟨B, 0, none⟩) n n] = some (.int .i64 n) := fun _ _ _ => rfl
    have k2 := hs2.nxt
    refine W_assoc ?_
    refine W_seq (W_ops [1, 4, 45] ?_)
    simp only [o15_13, WO_bin, WO_bu, WO_fieldAddr, fieldAddr_p, WO_load, WO_move, bin_lss, WO_nil, PureK_some, geT_put, evO_tmp, keep_nil, keep_cons, keepK_eq, List.map_cons, List.map_nil, Nat.reduceEqDiff, ↓reduceIte, eq_self, Nat.zero_add, List.getElem?_cons_zero, List.getElem?_cons_succ, e1, e4, load_g (o := 3) hb2, hlen s2 O R]
    clear e1 e4
    intro fr e1 e4 e45
    refine SeqK_n ?_
    refine W_while e45 (fun hlt => ?_) (fun hlt => ?_)
    · have hp : p < R := by omega
      have hG' : G ≤ 65536 := hG (by omega)
      have hmul : p * G + G ≤ R * G := by rw [← Nat.succ_mul]; exact Nat.mul_le_mul_right _ hp
      refine W_seq (W_block ?_)
      refine W_assoc ?_
      refine W_seq (W_ops [1, 4, 5] ?_)
      simp only [o15_14, WO_move, WO_nil, geT_put, evO_const, keep_nil, keep_cons, keepK_eq, Nat.reduceEqDiff, ↓reduceIte, eq_self, e1, e4]
      clear e1 e4 e45
      intro fr e1 e4 e5
      refine SeqK_n ?_
      refine W_seq (W_block (W_loop (fun m2 fr s3 => ∃ g, g + m2 = G ∧ geT fr 1 = .pointer (some ⟨box, 0, none⟩) ∧ geT fr 4 = .int .i64 (p : Nat) ∧ geT fr 5 = .int .i64 (g : Nat) ∧ Spo s3 A O R G p ∧ Same s1 s3 (fun x => x = A ∨ x = O)) G ⟨0, by omega, e1, e4, e5, pp, hs2⟩ ?_))
      · clear e1 e4 e5 fr pp hs2 hb2 k2
        rintro m2 fr s3 ⟨g, hm2, e1, e4, e5, ⟨⟨cs, c1, c2, c3⟩, ⟨l, l1, l2⟩⟩, hs3⟩
        have hb3 : Store.get s3.h box = some (.cells [.float .f64 T, .float .f64 U, x, .slice (some ⟨O, 0, none⟩) R R] false) := by rw [hs3.get box (by omega) (fun h => by omega)]; exact hb0
        have k3 := hs3.nxt
        have so : SlC s3 1 (.slice (some ⟨O, 0, none⟩) R R) R cs := .mk (blk_cells c1) (by omega) (by rw [List.drop_zero, List.take_of_length_le (by omega)]) (by omega) (.inl ⟨Nat.le_refl _, h7⟩)
        have sr : SlC s3 1 (rowSl A G p) G ((l.drop (p * G)).take G) := .mk (blk_cells l1) (by omega) (by simp) (by omega) (.inl ⟨Nat.le_refl _, h8⟩)
        refine W_assoc ?_
        refine W_seq (W_ops [1, 4, 5, 55] ?_)
        simp only [o15_16, WO_addrSl, WO_bin, WO_bu, WO_fieldAddr, fieldAddr_p, WO_load, WO_move, bin_lss, WO_nil, PureK_some, geT_put, evO_tmp, keep_nil, keep_cons, keepK_eq, List.map_cons, List.map_nil, Nat.reduceEqDiff, ↓reduceIte, eq_self, Nat.zero_add, Nat.mul_one, List.getElem?_cons_zero, List.getElem?_cons_succ, e1, e4, e5, load_g (o := 3) hb3, so.addr (kk := .i64) (i := (p : Int)) rfl hp, so.load (j := p) (c3 p (Nat.le_refl _) hp), sr.len]
        clear e1 e4 e5
        intro fr e1 e4 e5 e55
        refine SeqK_n ?_
        refine W_while e55 (fun hlt2 => ?_) (fun hlt2 => ?_)
        · have hg : g < G := by omega
          have st : storeV s3 1 (elP (rowSl A G p) g) (.int .i16 (-7)) = some (undefV, setBlk s3 A (.cells (l.set (p * G + g) (.int .i16 (-7))) false)) := by
            simp only [rowSl, elP, add_none']
            exact store_g l1 rfl (by omega)
          refine W_seq (W_block ?_)
          refine W_ops [1, 4, 5] ?_
          simp only [o15_17, WO_addrSl, WO_fieldAddr, fieldAddr_p, WO_load, WO_move, WO_store, WO_nil, PureK_some, MemK_some, geT_put, puT_none, evO_tmp, evO_const, keep_nil, keep_cons, keepK_eq, Nat.reduceEqDiff, ↓reduceIte, eq_self, Nat.zero_add, Nat.mul_one, List.getElem?_cons_zero, List.getElem?_cons_succ, e1, e4, e5, load_g (o := 3) hb3, so.addr (kk := .i64) (i := (p : Int)) rfl hp, so.load (j := p) (c3 p (Nat.le_refl _) hp), sr.addr (kk := .i64) (i := (g : Int)) rfl hg, st]
          clear e1 e4 e5 e55
          intro fr e1 e4 e5
          refine BlkK_n (SeqK_n ?_)
          refine W_ops [1, 4, 5] ?_
          simp only [o15_18, WO_bin, WO_move, bin_add, WO_nil, PureK_some, geT_put, evO_tmp, evO_const, keep_nil, keep_cons, keepK_eq, Nat.reduceEqDiff, ↓reduceIte, eq_self, e1, e4, e5, wrap_i64 (n := (g : Int) + 1) (by omega) (by omega)]
          clear e1 e4 e5
          intro fr e1 e4 e5
          refine LoopK_n (m' := m2 - 1) (by omega) ⟨g + 1, by omega, e1, e4, by rw [e5]; rfl, ⟨⟨cs, by rw [get_set, if_neg (fun e => h6 e.symm)]; exact c1, c2, c3⟩, ⟨_, by rw [get_set, if_pos rfl], by rw [List.length_set]; exact l2⟩⟩, hs3.trans (.set (F := fun x => x = A) rfl) (fun _ _ h => h) (fun _ _ h => .inl h)⟩
        · refine LoopK_x (BlkK_e (SeqK_n ?_))
          have hbu := buildSlD_two (nid := s3.nxt) (x := -6) (y := -6)
          refine W_drawN [1, 4] 1 rfl ?_
          intro s4 hh4 hn4
          have b4 : Store.get s4.h box = some (.cells [.float .f64 T, .float .f64 U, x, .slice (some ⟨O, 0, none⟩) R R] false) := by rw [hh4]; exact hb3
          have hs34 : Same s3 s4 (fun _ => False) := ⟨by omega, fun B _ _ => by rw [hh4]⟩
          have so4 := so.same hs34 (fun _ _ h => h)
          obtain ⟨s5, hs5⟩ : ∃ s5, s5 = setH s4 (Store.put s4.h s3.nxt (some (.cells [.int .i16 (-6), .int .i16 (-6)] false))) := ⟨_, rfl⟩
          have get5 : ∀ B, B < s3.nxt → Store.get s5.h B = Store.get s3.h B := fun B hB => by rw [hs5, setH_h, Store.get_put, if_neg (by omega), hh4]
          have n5 : s5.nxt = s3.nxt + 1 := by rw [hs5, setH_nxt]; exact hn4
          have sx : SlC s5 1 (.slice (some ⟨s3.nxt, 0, none⟩) 2 2) 2 [.int .i16 (-6), .int .i16 (-6)] := .mk (blk_cells (by rw [hs5, setH_h, Store.get_put, if_pos rfl])) (by omega) rfl (by simp) (.inl ⟨Nat.le_refl _, by decide⟩)
          have ap := row_append (s := s5) (A := A) (G := G) (p := p) (by rw [get5 A (by omega)]; exact l1) (by omega) (by omega) h8 (by omega) (by omega) sx.src rfl
          obtain ⟨s6, hs6⟩ : ∃ s6, s6 = newAt s5 (.cells ((l.drop (p * G)).take G ++ [.int .i16 (-6), .int .i16 (-6)]) true) := ⟨_, rfl⟩
          rw [← hs6] at ap
          have get6 : ∀ B, B < s3.nxt → Store.get s6.h B = Store.get s3.h B := fun B hB => by rw [hs6, get_new, if_neg (by omega)]; exact get5 B hB
          have n6 : s6.nxt = s3.nxt + 2 := by rw [hs6, nxt_new]; omega
          have b6 : Store.get s6.h box = some (.cells [.float .f64 T, .float .f64 U, x, .slice (some ⟨O, 0, none⟩) R R] false) := by rw [get6 box (by omega)]; exact hb3
          have c6 : Store.get s6.h O = some (.cells cs false) := by rw [get6 O (by omega)]; exact c1
          have st : storeV s6 1 (elP (.slice (some ⟨O, 0, none⟩) R R) p) (.slice (some ⟨s5.nxt, 0, none⟩) (G + 2) (OPEN + 1)) = some (undefV, setBlk s6 O (.cells (cs.set p (.slice (some ⟨s5.nxt, 0, none⟩) (G + 2) (OPEN + 1))) false)) := by
            simp only [elP, add_none', Nat.zero_add]
            exact store_g c6 rfl (by omega)
          have so6 : SlC s6 1 (.slice (some ⟨O, 0, none⟩) R R) R cs := .mk (blk_cells c6) (by omega) (by rw [List.drop_zero, List.take_of_length_le (by omega)]) (by omega) (.inl ⟨Nat.le_refl _, h7⟩)
          have lr := so4.load (j := p) (c3 p (Nat.le_refl _) hp)
          have lr6 := so6.load (j := p) (c3 p (Nat.le_refl _) hp)
          have srr : Vam.sameO (some (rowSl A G p)) (rowSl A G p) = true := sr.sameO
          simp only [d15_19, WD_move, WD_fieldAddr, WD_addrSl, WD_load, WD_buildSlice, WD_store, WD_append, WD_nil, DPureK_some, DReadK_some, DActK_some, DNewK_some, pastR_nil, preHead_nil, preHead_cons, joinF_nil, joinF_cons, joinAll_nil, setH_self, Nat.testBit, Nat.reduceShiftRight, Nat.reduceAnd, Nat.reduceBneDiff, List.all_nil, List.all_cons, List.filter_nil, List.filter_cons, sameO_sl, bne_self_eq_false, geT_put, puT_none, evO_tmp, evO_const, keep_nil, keep_cons, keepK_eq, List.map_cons, List.map_nil, Nat.reduceEqDiff, Nat.reduceAdd, ↓reduceIte, fieldAddr_p, Bool.not_true, Bool.not_false, Bool.and_true, Bool.or_true, Bool.true_or, eq_self, Bool.false_eq_true, true_and, List.getElem?_cons_zero, List.getElem?_cons_succ, Nat.zero_add, Nat.mul_one, e1, e4, load_g (o := 3) b4, so4.addr (kk := .i64) (i := (p : Int)) rfl hp, lr, hbu, ← hs5, ap, load_g (o := 3) b6, lr6, srr, st]
          clear e1 e4
          intro fr e1 e4
          refine SeqK_n ?_
          have hs67 : Same s3 (setBlk s6 O (.cells (cs.set p (.slice (some ⟨s5.nxt, 0, none⟩) (G + 2) (OPEN + 1))) false)) (fun x => x = O) := ⟨by rw [nxt_set]; omega, fun B hB hF => by rw [get_set, if_neg hF]; exact get6 B hB⟩
          refine BlkK_n (id := 5) (SeqK_n ?_)
          refine W_ops [1, 4] ?_
          simp only [o15_20, WO_bin, WO_move, bin_add, WO_nil, PureK_some, geT_put, evO_tmp, evO_const, keep_nil, keep_cons, keepK_eq, Nat.reduceEqDiff, ↓reduceIte, eq_self, e1, e4, wrap_i64 (n := (p : Int) + 1) (by omega) (by omega)]
          clear e1 e4
          intro fr e1 e4
          refine LoopK_n (m' := m - 1) (by omega) ⟨p + 1, by omega, e1, by rw [e4]; rfl, ⟨⟨_, by rw [get_set, if_pos rfl], by rw [List.length_set]; exact c2, fun i hi hi2 => by rw [List.getElem?_set_ne (by omega)]; exact c3 i (by omega) hi2⟩, ⟨l, by rw [get_set, if_neg h6, get6 A (by omega)]; exact l1, l2⟩⟩, hs3.trans hs67 (fun _ _ h => h) (fun _ _ h => .inr h)⟩
    · refine LoopK_x (BlkK_e (id := 4) ⟨rfl, e1, hs2⟩)

theorem run15 {X : Ctx} (hX : X.fns = fnsOf Try.prog) (ho : ∀ f args, f ≠ 9 → X.orc f args = none) {s : Mm} {rv iv : Value} {A O A2 O2 R G T U : Nat} {l1 l2 : List Int} (t1 : TabW s rv A O R G l1) (t2 : TabW s iv A2 O2 R G l2) (n1 : A ≠ A2) (n2 : A ≠ O2) (n3 : O ≠ A2) (n4 : O ≠ O2) (hR : R ≤ 256) (hG : 0 < R → G ≤ 65536) :
    CallP X 15 [.agg #[.float .f64 T, .float .f64 U, rv, iv]] s (fun r s' => r = .tuple #[] ∧ Same s s' (fun x => x = A ∨ x = O ∨ x = A2 ∨ x = O2)) := by
  obtain ⟨rfl, h1, h2, h3, h4, h5, h6, h7, h8⟩ := t1
  obtain ⟨rfl, g1, g2, g3, g4, g5, g6, g7, g8⟩ := t2
  refine CallP_of (hX ▸ ir15_eq) (ho _ _ (by decide)) (Nat.le_of_ble_eq_true rfl) ?_
  refine W_seq (W_ops [1] ?_)
  simp only [o15_0, WO_box, WO_nil, geT_put, frame_nil, frame_cons, evO_tmp, keep_nil, keep_cons, keepK_eq, ↓reduceIte, eq_self, Nat.zero_add]
  intro fr e1
  refine SeqK_n ?_
  have hcl : (Value.agg #[.float .f64 T, .float .f64 U, .slice (some ⟨O, 0, none⟩) R R, .slice (some ⟨O2, 0, none⟩) R R]).cells.toList = [.float .f64 T, .float .f64 U, .slice (some ⟨O, 0, none⟩) R R, .slice (some ⟨O2, 0, none⟩) R R] := rfl
  rw [hcl]
  obtain ⟨box, hbox⟩ : ∃ box, box = s.nxt := ⟨_, rfl⟩
  rw [← hbox] at e1
  have hb0 : Store.get (newAt s (.cells [.float .f64 T, .float .f64 U, .slice (some ⟨O, 0, none⟩) R R, .slice (some ⟨O2, 0, none⟩) R R] false)).h box = some (.cells [.float .f64 T, .float .f64 U, .slice (some ⟨O, 0, none⟩) R R, .slice (some ⟨O2, 0, none⟩) R R] false) := by rw [hbox, get_new, if_pos rfl]
  have hs1 : Same s (newAt s (.cells [.float .f64 T, .float .f64 U, .slice (some ⟨O, 0, none⟩) R R, .slice (some ⟨O2, 0, none⟩) R R] false)) (fun _ => False) := .new
  have hn1 : (newAt s (.cells [.float .f64 T, .float .f64 U, .slice (some ⟨O, 0, none⟩) R R, .slice (some ⟨O2, 0, none⟩) R R] false)).nxt = s.nxt + 1 := nxt_new
  generalize newAt s (.cells [.float .f64 T, .float .f64 U, .slice (some ⟨O, 0, none⟩) R R, .slice (some ⟨O2, 0, none⟩) R R] false) = s1 at hb0 hs1 hn1 ⊢
  have p1 : Spo s1 A O R G 0 := ⟨⟨_, by rw [hs1.get _ h4 (fun h => h)]; exact h1, by simp, fun i _ hi => by simp [hi]⟩, ⟨_, by rw [hs1.get _ h5 (fun h => h)]; exact h2, by simp [h3]⟩⟩
  have p2 : Spo s1 A2 O2 R G 0 := ⟨⟨_, by rw [hs1.get _ g4 (fun h => h)]; exact g1, by simp, fun i _ hi => by simp [hi]⟩, ⟨_, by rw [hs1.get _ g5 (fun h => h)]; exact g2, by simp [g3]⟩⟩
  clear h1 h2 g1 g2 h3 g3
  have hs1' : Same s s1 (fun x => x = A ∨ x = O ∨ x = A2 ∨ x = O2) := hs1.trans (.refl _ _) (fun _ _ h => h.elim) (fun _ _ h => h)
  have hbx : box < s1.nxt := by omega
  refine W_seq ((run15a hX ho (by omega) (by omega) h6 h7 h8 hR hG hbx hb0 p1 e1).mono fun e fr s2 h => ?_)
  obtain ⟨rfl, e1, hs2⟩ := h
  refine SeqK_n ?_
  have p2' : Spo s2 A2 O2 R G 0 := by
    obtain ⟨⟨cs, c1, c2, c3⟩, ⟨l, l1, l2⟩⟩ := p2
    exact ⟨⟨cs, by rw [hs2.get O2 (by omega) (fun h => by omega)]; exact c1, c2, c3⟩, ⟨l, by rw [hs2.get A2 (by omega) (fun h => by omega)]; exact l1, l2⟩⟩
  have hb2 := hb0
  rw [← hs2.get box hbx (fun h => by omega)] at hb2
  have k2 := hs2.nxt
  refine (run15b hX ho (by omega) (by omega) g6 g7 g8 hR hG (by omega) hb2 p2' e1).mono fun e fr s3 h => ?_
  obtain ⟨rfl, e1, hs3⟩ := h
  exact Ret0n ⟨rfl, hs1'.trans (hs2.trans hs3 (G := fun x => x = A ∨ x = O ∨ x = A2 ∨ x = O2) (fun _ _ h => by rcases h with h | h <;> simp [h]) (fun _ _ h => by rcases h with h | h <;> simp [h])) (fun _ _ h => h) (fun _ _ h => h)⟩

end Go.Proofs.Ytkfcejhebepdkaa

/- The loops of the readers' law. -/
namespace Go.Proofs.Ytkfcejhebepdkaa
open Go Go.Vam

/-- A frame within the format's bounds. -/
def OkF (f : FrS) : Prop := f.re.length ≤ 256 ∧ ∀ r ∈ f.re, r.length ≤ 65536

theorem okF_of {b : List UInt8} {n : Nat} (h : fstF b = .got n) : OkF (frOf b) := by
  obtain ⟨_, _, _, _, f4, _⟩ := fst_got h
  obtain ⟨l1, l2, _⟩ := large_spec f4
  refine ⟨by show (chunk _ _ _).length ≤ _; rw [chunk_length]; exact l1, fun r hr => ?_⟩
  have hr' : r ∈ chunk (rowsN b) (colN b) (decA b (rowsN b * colN b) 0) := hr
  simp only [chunk, List.mem_map] at hr'
  obtain ⟨p, _, rfl⟩ := hr'
  rw [List.length_take]
  omega

theorem okF_feed : ∀ (k : Nat) (b : List UInt8), ∀ f ∈ (feedF k b).1, OkF f := by
  intro k
  induction k with
  | zero => intro b f h; simp [feedF] at h
  | succ k ih =>
    intro b f h
    unfold feedF at h
    split at h
    · simp at h
    · simp at h
    · rename_i n hn
      simp only [List.mem_cons] at h
      rcases h with rfl | h
      · exact okF_of hn
      · exact ih _ _ h

/-- One frame's blocks, and what is there. -/
structure FrAt (s : Mm) (c : List Value) (f : FrS) (B : Nat → Prop) : Prop where
  ex : ∃ T U rv iv A O A2 O2 R G l1 l2, c = [.float .f64 T, .float .f64 U, rv, iv] ∧ TabW s rv A O R G l1 ∧ TabW s iv A2 O2 R G l2 ∧ A ≠ A2 ∧ A ≠ O2 ∧ O ≠ A2 ∧ O ≠ O2 ∧ f.re = chunk R G l1 ∧ ∀ x, B x ↔ (x = A ∨ x = O ∨ x = A2 ∨ x = O2)

theorem FrAt.same {s s' : Mm} {c : List Value} {f : FrS} {B F : Nat → Prop} (h : FrAt s c f B) (g : Same s s' F) (hd : ∀ x, B x → ¬ F x) : FrAt s' c f B := by
  obtain ⟨T, U, rv, iv, A, O, A2, O2, R, G, l1, l2, e, t1, t2, n1, n2, n3, n4, e1, hB⟩ := h.ex
  exact ⟨T, U, rv, iv, A, O, A2, O2, R, G, l1, l2, e, t1.same g (hd _ ((hB _).2 (by simp))) (hd _ ((hB _).2 (by simp))), t2.same g (hd _ ((hB _).2 (by simp))) (hd _ ((hB _).2 (by simp))), n1, n2, n3, n4, e1, hB⟩

theorem FrsW.idx {s : Mm} {K : Nat → Prop} {cells : List Value} {fs : List FrS} (h : FrsW s K cells fs) :
    ∃ B : Nat → Nat → Prop, (∀ i x, i < fs.length → B i x → K x) ∧ (∀ i j x, i < fs.length → j < fs.length → B i x → B j x → i = j) ∧ ∀ (i : Nat) (hi : i < fs.length), FrAt s ((cells.drop (i * 4)).take 4) fs[i] (B i) := by
  induction h with
  | nil => exact ⟨fun _ _ => False, fun i x h => by simp at h, fun i j x h => by simp at h, fun i h => by simp at h⟩
  | @snoc K cells fs f rv iv A O A2 O2 R G l1 l2 h hA hO hA2 hO2 n1 n2 n3 n4 t1 t2 e1 e2 ih =>
    obtain ⟨B, b1, b2, b3⟩ := ih
    have hl := h.len
    have hK : ∀ x, (x = A ∨ x = O ∨ x = A2 ∨ x = O2) → ¬ K x := by
      intro x hx
      rcases hx with rfl | rfl | rfl | rfl <;> assumption
    refine ⟨fun i x => if i < fs.length then B i x else x = A ∨ x = O ∨ x = A2 ∨ x = O2, fun i x hi hx => ?_, fun i j x hi hj hx hy => ?_, fun i hi => ?_⟩
    · dsimp only at hx
      split at hx
      · exact .inl (b1 i x ‹_› hx)
      · exact .inr hx
    · simp only [List.length_append, List.length_cons, List.length_nil] at hi hj
      dsimp only at hx hy
      split at hx <;> split at hy
      · exact b2 i j x ‹_› ‹_› hx hy
      · exact absurd (b1 i x ‹_› hx) (hK x hy)
      · exact absurd (b1 j x ‹_› hy) (hK x hx)
      · omega
    · simp only [List.length_append, List.length_cons, List.length_nil] at hi
      by_cases h1 : i < fs.length
      · simp only [if_pos h1]
        rw [List.getElem_append_left h1, List.drop_append_of_le_length (by omega), List.take_append_of_le_length (by rw [List.length_drop]; omega)]
        exact b3 i h1
      · have hi2 : i = fs.length := by omega
        subst hi2
        simp only [if_neg h1]
        rw [← hl, List.drop_left]
        refine ⟨f.T, f.U, rv, iv, A, O, A2, O2, R, G, l1, l2, rfl, t1, t2, n1, n2, n3, n4, ?_, fun x => Iff.rfl⟩
        rw [List.getElem_append_right (Nat.le_refl _)]
        simp [e1]


theorem run15' {X : Ctx} (hX : X.fns = fnsOf Try.prog) (ho : ∀ f args, f ≠ 9 → X.orc f args = none) {s : Mm} {c : List Value} {f : FrS} {B : Nat → Prop} (h : FrAt s c f B) (ok : OkF f) : CallP X 15 [.agg c.toArray] s (fun r s' => r = .tuple #[] ∧ Same s s' B) := by
  obtain ⟨T, U, rv, iv, A, O, A2, O2, R, G, l1, l2, rfl, t1, t2, n1, n2, n3, n4, e1, hB⟩ := h.ex
  have hR : R ≤ 256 := by have := ok.1; rw [e1, chunk_length] at this; exact this
  have hG : 0 < R → G ≤ 65536 := fun h0 => by
    have hm : (l1.drop (0 * G)).take G ∈ f.re := by
      rw [e1]; simp only [chunk, List.mem_map]; exact ⟨0, by simp [h0], rfl⟩
    have := ok.2 _ hm
    have hl := t1.len
    have : G ≤ R * G := Nat.le_mul_of_pos_left _ h0
    simp only [Nat.zero_mul, List.drop_zero, List.length_take] at *
    omega
  refine (run15 hX ho t1 t2 n1 n2 n3 n4 hR hG (T := T) (U := U)).mono fun r s' h => ?_
  exact ⟨h.1, h.2.trans (.refl _ _) (fun x _ hx => (hB x).2 hx) (fun _ _ hx => hx)⟩

/-- The bytes handed in are written over. -/
theorem run3_in {X : Ctx} (hX : X.fns = fnsOf Try.prog) (ho : ∀ f args, f ≠ 9 → X.orc f args = none) {s1 : Mm} {fr : Fr} {v0 v1 v5 v6 v7 v9 v10 : Value} {n : Nat} {cs : List Value} (h9 : Own s1 1 v9 n cs) (hn : n ≤ 1099511627776) (e0 : geT fr 0 = v0) (e1 : geT fr 1 = v1) (e5 : geT fr 5 = v5) (e6 : geT fr 6 = v6) (e7 : geT fr 7 = v7) (e9 : geT fr 9 = v9) (e10 : geT fr 10 = v10) :
    W X (.seq (.ops o3_18) (.block 2 (.loop b3_19))) fr s1 (fun e fr' s2 => e = .normal ∧ geT fr' 0 = v0 ∧ geT fr' 1 = v1 ∧ geT fr' 5 = v5 ∧ geT fr' 6 = v6 ∧ geT fr' 7 = v7 ∧ geT fr' 10 = v10 ∧ Same s1 s2 (footV v9)) := by
  refine W_seq (W_ops [0, 1, 5, 6, 7, 9, 10, 14] ?_)
  simp only [o3_18, WO_move, WO_nil, geT_put, evO_const, keep_nil, keep_cons, keepK_eq, Nat.reduceEqDiff, ↓reduceIte, eq_self, e0, e1, e5, e6, e7, e9, e10]
  clear e0 e1 e5 e6 e7 e9 e10
  intro fr e0 e1 e5 e6 e7 e9 e10 e14
  refine SeqK_n ?_
  refine W_block (W_loop (fun m fr s2 => ∃ k cs, k + m = n ∧ geT fr 0 = v0 ∧ geT fr 1 = v1 ∧ geT fr 5 = v5 ∧ geT fr 6 = v6 ∧ geT fr 7 = v7 ∧ geT fr 9 = v9 ∧ geT fr 10 = v10 ∧ geT fr 14 = .int .i64 (k : Nat) ∧ Own s2 1 v9 n cs ∧ Same s1 s2 (footV v9)) n ⟨0, cs, by omega, e0, e1, e5, e6, e7, e9, e10, e14, h9, .refl _ _⟩ ?_)
  clear e0 e1 e5 e6 e7 e9 e10 e14 h9
  rintro m fr s2 ⟨k, cs, hm, e0, e1, e5, e6, e7, e9, e10, e14, h9, hs⟩
  refine W_assoc ?_
  refine W_seq (W_ops [0, 1, 5, 6, 7, 9, 10, 14, 103] ?_)
  simp only [o3_20, WO_bin, WO_bu, WO_move, bin_lss, WO_nil, PureK_some, geT_put, evO_tmp, keep_nil, keep_cons, keepK_eq, List.map_cons, List.map_nil, Nat.reduceEqDiff, ↓reduceIte, eq_self, e0, e1, e5, e6, e7, e9, e10, e14, h9.slc.len]
  clear e0 e1 e5 e6 e7 e9 e10 e14
  intro fr e0 e1 e5 e6 e7 e9 e10 e14 e103
  refine SeqK_n ?_
  refine W_while e103 (fun hlt => ?_) (fun hlt => ?_)
  · have hk : k < n := by omega
    obtain ⟨s3, st, h9', hs'⟩ := h9.store (k := k) (x := .int .u8 85) (by rw [h9.length]; omega) rfl
    refine W_seq (W_block ?_)
    refine W_ops [0, 1, 5, 6, 7, 9, 10, 14] ?_
    simp only [o3_21, WO_addrSl, WO_move, WO_store, WO_nil, PureK_some, MemK_some, geT_put, puT_none, evO_tmp, evO_const, keep_nil, keep_cons, keepK_eq, Nat.reduceEqDiff, ↓reduceIte, eq_self, Nat.mul_one, e0, e1, e5, e6, e7, e9, e10, e14, h9.slc.addr (kk := .i64) (i := (k : Int)) rfl hk, st]
    clear e0 e1 e5 e6 e7 e9 e10 e14 e103
    intro fr e0 e1 e5 e6 e7 e9 e10 e14
    refine BlkK_n (SeqK_n ?_)
    refine W_ops [0, 1, 5, 6, 7, 9, 10, 14] ?_
    simp only [o3_22, WO_bin, WO_move, bin_add, WO_nil, PureK_some, geT_put, evO_tmp, evO_const, keep_nil, keep_cons, keepK_eq, Nat.reduceEqDiff, ↓reduceIte, eq_self, e0, e1, e5, e6, e7, e9, e10, e14, wrap_i64 (n := (k : Int) + 1) (by omega) (by omega)]
    clear e0 e1 e5 e6 e7 e9 e10 e14
    intro fr e0 e1 e5 e6 e7 e9 e10 e14
    exact LoopK_n (m' := m - 1) (by omega) ⟨k + 1, _, by omega, e0, e1, e5, e6, e7, e9, e10, by rw [e14]; rfl, h9', hs.trans hs' (fun _ _ h => h) (fun _ _ h => h)⟩
  · exact LoopK_x (BlkK_e (id := 2) ⟨rfl, e0, e1, e5, e6, e7, e10, hs⟩)

/-- The frames told are written over. -/
theorem run3_out {X : Ctx} (hX : X.fns = fnsOf Try.prog) (ho : ∀ f args, f ≠ 9 → X.orc f args = none) {s1 : Mm} {fr : Fr} {v0 v1 v5 v6 v7 v10 : Value} {K : Nat → Prop} {cells : List Value} {fs : List FrS} (h10 : SlC s1 4 v10 fs.length cells) (hf : FrsW s1 K cells fs) (hK : ∀ x, footV v10 x → ¬ K x) (ok : ∀ f ∈ fs, OkF f) (hn : fs.length ≤ 1099511627776) (e0 : geT fr 0 = v0) (e1 : geT fr 1 = v1) (e5 : geT fr 5 = v5) (e6 : geT fr 6 = v6) (e7 : geT fr 7 = v7) (e10 : geT fr 10 = v10) :
    W X (.seq (.ops o3_23) (.block 4 (.loop b3_24))) fr s1 (fun e fr' s2 => e = .normal ∧ geT fr' 0 = v0 ∧ geT fr' 1 = v1 ∧ geT fr' 5 = v5 ∧ geT fr' 6 = v6 ∧ geT fr' 7 = v7 ∧ Same s1 s2 K) := by
  obtain ⟨B, b1, b2, b3⟩ := hf.idx
  have hl := hf.len
  clear hf
  refine W_seq (W_ops [0, 1, 5, 6, 7, 10, 15] ?_)
  simp only [o3_23, WO_move, WO_nil, geT_put, evO_const, keep_nil, keep_cons, keepK_eq, Nat.reduceEqDiff, ↓reduceIte, eq_self, e0, e1, e5, e6, e7, e10]
  clear e0 e1 e5 e6 e7 e10
  intro fr e0 e1 e5 e6 e7 e10 e15
  refine SeqK_n ?_
  refine W_block (W_loop (fun m fr s2 => ∃ k, k + m = fs.length ∧ geT fr 0 = v0 ∧ geT fr 1 = v1 ∧ geT fr 5 = v5 ∧ geT fr 6 = v6 ∧ geT fr 7 = v7 ∧ geT fr 10 = v10 ∧ geT fr 15 = .int .i64 (k : Nat) ∧ Same s1 s2 K ∧ ∀ (i : Nat) (hi : i < fs.length), k ≤ i → FrAt s2 ((cells.drop (i * 4)).take 4) fs[i] (B i)) fs.length ⟨0, by omega, e0, e1, e5, e6, e7, e10, e15, .refl _ _, fun i hi _ => b3 i hi⟩ ?_)
  clear e0 e1 e5 e6 e7 e10 e15 b3
  rintro m fr s2 ⟨k, hm, e0, e1, e5, e6, e7, e10, e15, hs, b3⟩
  have h2 := h10.same hs hK
  refine W_assoc ?_
  refine W_seq (W_ops [0, 1, 5, 6, 7, 10, 15, 112] ?_)
  simp only [o3_25, WO_bin, WO_bu, WO_move, bin_lss, WO_nil, PureK_some, geT_put, evO_tmp, keep_nil, keep_cons, keepK_eq, List.map_cons, List.map_nil, Nat.reduceEqDiff, ↓reduceIte, eq_self, e0, e1, e5, e6, e7, e10, e15, h2.len]
  clear e0 e1 e5 e6 e7 e10 e15
  intro fr e0 e1 e5 e6 e7 e10 e15 e112
  refine SeqK_n ?_
  refine W_while e112 (fun hlt => ?_) (fun hlt => ?_)
  · have hk : k < fs.length := by omega
    refine W_seq (W_block ?_)
    refine W_ops [0, 1, 5, 6, 7, 10, 15] ?_
    simp only [o3_26, WO_addrSl, WO_call, WO_load, WO_move, PureK_some, geT_put, evO_tmp, List.map_cons, List.map_nil, Nat.reduceEqDiff, ↓reduceIte, eq_self, e10, e15, h2.addr (kk := .i64) (i := (k : Int)) rfl hk, h2.loads (j := k * 4) (m := 4) (by omega) (by omega)]
    refine CallK_of (run15' hX ho (b3 k hk (Nat.le_refl _)) (ok _ (List.getElem_mem hk))) ?_
    rintro _ _ ⟨rfl, hs'⟩
    simp only [WO_nil, geT_put, keep_nil, keep_cons, keepK_eq, Nat.reduceEqDiff, ↓reduceIte, e0, e1, e5, e6, e7, e10, e15]
    clear e0 e1 e5 e6 e7 e10 e15 e112
    intro fr e0 e1 e5 e6 e7 e10 e15
    refine BlkK_n (SeqK_n ?_)
    refine W_ops [0, 1, 5, 6, 7, 10, 15] ?_
    simp only [o3_27, WO_bin, WO_move, bin_add, WO_nil, PureK_some, geT_put, evO_tmp, evO_const, keep_nil, keep_cons, keepK_eq, Nat.reduceEqDiff, ↓reduceIte, eq_self, e0, e1, e5, e6, e7, e10, e15, wrap_i64 (n := (k : Int) + 1) (by omega) (by omega)]
    clear e0 e1 e5 e6 e7 e10 e15
    intro fr e0 e1 e5 e6 e7 e10 e15
    exact LoopK_n (m' := m - 1) (by omega) ⟨k + 1, by omega, e0, e1, e5, e6, e7, e10, by rw [e15]; rfl, hs.trans hs' (fun _ _ h => h) (fun x _ h => b1 k x hk h), fun i hi hki => (b3 i hi (by omega)).same hs' (fun x hx hx2 => by have := b2 i k x hi hk hx hx2; omega)⟩
  · exact LoopK_x (BlkK_e (id := 4) ⟨rfl, e0, e1, e5, e6, e7, hs⟩)

end Go.Proofs.Ytkfcejhebepdkaa

/- Readers: what they hold, and one piece. -/
namespace Go.Proofs.Ytkfcejhebepdkaa
open Go Go.Vam

/-- A reader that holds bytes, or is torn; F: its blocks. -/
structure Rd (s : Mm) (R : Nat) (st : Option (List UInt8)) (F : Nat → Prop) : Prop where
  rr : F R
  lt : ∀ x, F x → x < s.nxt
  none : st = none → Store.get s.h R = some (.cells [.slice none 0 0, .bool true] false)
  some : ∀ w, st = some w → ∃ hv n, Store.get s.h R = some (.cells [hv, .bool false] false) ∧ Own s 1 hv n (bsV w) ∧ ∀ x, footV hv x → F x ∧ x ≠ R

theorem Rd.same {s s' : Mm} {R : Nat} {st : Option (List UInt8)} {F F' : Nat → Prop} (h : Rd s R st F) (g : Same s s' F') (hd : ∀ x, F x → ¬ F' x) : Rd s' R st F := by
  have hR := h.lt R h.rr
  refine ⟨h.rr, fun x hx => Nat.lt_of_lt_of_le (h.lt x hx) g.nxt, fun e => by rw [g.get R hR (hd R h.rr)]; exact h.none e, fun w e => ?_⟩
  obtain ⟨hv, n, a, b, c⟩ := h.some w e
  exact ⟨hv, n, by rw [g.get R hR (hd R h.rr)]; exact a, b.same g (fun x hx => hd x (c x hx).1), c⟩

def stepF (st : Option (List UInt8)) (b : List UInt8) : List FrS × Option (List UInt8) := match st with
  | none => ([], none)
  | some w => feedF (w.length + b.length + 1) (w ++ b)

def codeF (st : Option (List UInt8)) : Int := match st with
  | none => 270
  | some _ => 0

def heldF (st : Option (List UInt8)) : Nat := match st with
  | none => 0
  | some w => w.length

theorem feed_rest : ∀ (k : Nat) (b w : List UInt8), (feedF k b).2 = some w → w.length ≤ b.length := by
  intro k
  induction k with
  | zero => intro b w h; simp [feedF] at h; subst h; exact Nat.le_refl _
  | succ k ih =>
    intro b w h
    unfold feedF at h
    split at h
    · cases h
    · simp at h; subst h; exact Nat.le_refl _
    · have := ih _ w h; rw [List.length_drop] at this; omega

theorem feed_many : ∀ (k : Nat) (b : List UInt8), (feedF k b).1.length ≤ k := by
  intro k
  induction k with
  | zero => intro b; simp [feedF]
  | succ k ih =>
    intro b
    unfold feedF
    split
    · simp
    · simp
    · rename_i n hn
      simp only [List.length_cons]; have := ih (b.drop (n + 11)); omega

theorem step_held {st : Option (List UInt8)} {b : List UInt8} : heldF (stepF st b).2 ≤ heldF st + b.length := by
  cases st with
  | none => simp [stepF, heldF]
  | some w =>
    simp only [stepF]
    cases h : (feedF (w.length + b.length + 1) (w ++ b)).2 with
    | none => simp [heldF]
    | some w' => have := feed_rest _ _ _ h; simp only [heldF, List.length_append] at *; exact this

theorem step_many {st : Option (List UInt8)} {b : List UInt8} : (stepF st b).1.length ≤ heldF st + b.length + 1 := by
  cases st with
  | none => simp [stepF]
  | some w => exact feed_many _ _

theorem step_ok {st : Option (List UInt8)} {b : List UInt8} : ∀ f ∈ (stepF st b).1, OkF f := by
  cases st with
  | none => intro f h; simp [stepF] at h
  | some w => exact okF_feed _ _

/-- Told of a piece: the program's reader. -/
structure StepW (s s' : Mm) (R : Nat) (st : Option (List UInt8)) (F : Nat → Prop) (b : List UInt8) (r : Value) : Prop where
  same : Same s s' F
  ex : ∃ F' K out cells, Rd s' R (stepF st b).2 F' ∧ SlC s' 4 out (stepF st b).1.length cells ∧ FrsW s' K cells (stepF st b).1 ∧ r = .tuple #[out, .int .i64 (codeF (stepF st b).2)] ∧ (∀ x, F' x → F x ∨ s.nxt ≤ x) ∧
    (∀ x, K x → s.nxt ≤ x ∧ ¬ F' x ∧ ¬ footV out x) ∧ (∀ x, footV out x → s.nxt ≤ x ∧ ¬ F' x)

/-- Told of a piece: the document's reader. -/
structure StepG (s s' : Mm) (R : Nat) (st : Option (List UInt8)) (F : Nat → Prop) (b : List UInt8) (r : Value) : Prop where
  same : Same s s' F
  ex : ∃ F' K out cells, Rd s' R (stepF st b).2 F' ∧ SlC s' 4 out (stepF st b).1.length cells ∧ FrsG s' K cells (stepF st b).1 ∧ r = .tuple #[out, .int .i64 (codeF (stepF st b).2)] ∧ (∀ x, F' x → F x ∨ s.nxt ≤ x) ∧
    (∀ x, K x → s.nxt ≤ x)


theorem run13_torn {X : Ctx} (hX : X.fns = fnsOf Try.prog) (ho : ∀ f args, f ≠ 9 → X.orc f args = none) {s : Mm} {R : Nat} {hv v : Value} {b : List UInt8} (hg : Store.get s.h R = some (.cells [hv, .bool true] false)) (hb : Bs s v b) (hn : b.length ≤ 1048576) :
    CallP X 13 [.pointer (some ⟨R, 0, none⟩), v] s (fun r s' => r = .tuple #[.slice none 0 0, .int .i64 270] ∧ s = s') := by
  refine CallP_of (hX ▸ ir13_eq) (ho _ _ (by decide)) (Nat.le_of_ble_eq_true rfl) ?_
  refine W_seq (W_ops [0, 1] ?_)
  simp only [o13_0, WO_move, WO_nil, geT_put, frame_nil, frame_cons, evO_const, keep_nil, keep_cons, keepK_eq, Nat.reduceEqDiff, Nat.reduceAdd, ↓reduceIte, eq_self, Nat.zero_add]
  intro fr e0 e1
  refine SeqK_n ?_
  refine W_assoc ?_
  refine W_seq (W_ops [0, 1, 10] ?_)
  simp only [o13_1, WO_eq, ptr_some, WO_move, WO_nil, PureK_some, geT_put, evO_tmp, evO_const, keep_nil, keep_cons, keepK_eq, Nat.reduceEqDiff, ↓reduceIte, eq_self, Bool.false_eq_true, e0, e1]
  clear e0 e1
  intro fr e0 e1 e10
  refine SeqK_n ?_
  refine W_seq (W_cond e10 (fun h => by cases h) (fun _ => W_skip (SeqK_n ?_)))
  refine W_assoc ?_
  refine W_seq (W_ops [0, 1, 13] ?_)
  simp only [o13_3, WO_bin, WO_bu, WO_move, bin_gtr, WO_nil, PureK_some, geT_put, evO_tmp, evO_const, keep_nil, keep_cons, keepK_eq, List.map_cons, List.map_nil, Nat.reduceEqDiff, ↓reduceIte, eq_self, e0, e1, hb.len]
  clear e0 e1 e10
  intro fr e0 e1 e13
  refine SeqK_n ?_
  refine W_seq (W_if e13 (fun h => by omega) (fun _ => W_skip (SeqK_n ?_)))
  refine W_assoc ?_
  refine W_seq (W_ops [0, 1, 17] ?_)
  simp only [o13_5, WO_fieldAddr, fieldAddr_p, WO_load, WO_move, WO_nilCheck, nilCheck_p, WO_nil, PureK_some, geT_put, evO_tmp, keep_nil, keep_cons, keepK_eq, Nat.reduceEqDiff, ↓reduceIte, eq_self, Nat.zero_add, List.getElem?_cons_zero, List.getElem?_cons_succ, e0, e1, load_g (o := 1) hg]
  clear e0 e1 e13
  intro fr e0 e1 e17
  refine SeqK_n ?_
  refine W_seq (W_cond e17 (fun _ => ?_) (fun h => by cases h))
  refine W_seq (W_ops [4, 5] ?_)
  simp only [o13_6, WO_move, WO_nil, geT_put, evO_const, keep_nil, keep_cons, keepK_eq, Nat.reduceEqDiff, ↓reduceIte, eq_self]
  clear e0 e1 e17
  intro fr e4 e5
  refine SeqK_n ?_
  exact W_ret (SeqK_r (Ret2 e4 e5 ⟨rfl, rfl⟩))

theorem step12 {X : Ctx} (hX : X.fns = fnsOf Try.prog) (ho : ∀ f args, f ≠ 9 → X.orc f args = none) {s : Mm} {R : Nat} {st : Option (List UInt8)} {F : Nat → Prop} {v : Value} {b : List UInt8} (h : Rd s R st F) (hb : Bs s v b) (hn : heldF st + b.length ≤ 1048576) :
    CallP X 12 [.pointer (some ⟨R, 0, none⟩), v] s (fun r s' => StepW s s' R st F b r) := by
  have hR := h.lt R h.rr
  cases st with
  | none =>
    refine (run12_torn hX ho (h.none rfl) hb (by simp only [heldF] at hn; omega)).mono fun r s' e => ?_
    obtain ⟨rfl, rfl⟩ := e
    exact ⟨.refl _ _, F, fun _ => False, _, [], h, .nil, .nil, rfl, fun x hx => .inl hx, fun x hx => hx.elim, fun x hx => hx.elim⟩
  | some w =>
    obtain ⟨hv, n, a1, a2, a3⟩ := h.some w rfl
    simp only [heldF] at hn
    refine (run12 hX ho a1 hR a2 (fun x hx => (a3 x hx).2) hb (by omega) (by omega)).mono fun r s' e => ?_
    obtain ⟨hs, out, n', cells, K, o1, o2, o3, o4, o5⟩ := e
    have hnxt := hs.nxt
    have hl := o1.length
    have hl2 := o2.len
    have hn' : n' = (feedF (w.length + b.length + 1) (w ++ b)).1.length := by omega
    subst hn'
    have hs' : Same s s' F := hs.trans (.refl _ _) (fun x _ hx => by rcases hx with rfl | hx; exact h.rr; exact (a3 x hx).1) (fun _ _ hx => hx)
    rcases o5 with ⟨r1, r2, r3⟩ | ⟨w', v', n2, r1, r2, r3, r4, r5⟩
    · refine ⟨hs', fun x => x = R, K, out, cells, ⟨rfl, fun x hx => by subst hx; omega, fun _ => r3, fun w' e => ?_⟩, o1.slc, o2, ?_, fun x hx => by subst hx; exact .inl h.rr, fun x hx => ⟨(o3 x hx).1, fun e => ?_, (o3 x hx).2⟩, fun x hx => ⟨o4 x hx, fun e => ?_⟩⟩
      · simp only [stepF, r1] at e; cases e
      · simp only [stepF, r1, codeF]; exact r2
      · have := (o3 x hx).1; omega
      · have := o4 x hx; omega
    · refine ⟨hs', fun x => x = R ∨ footV v' x, K, out, cells, ⟨.inl rfl, fun x hx => ?_, fun e => ?_, fun w2 e => ?_⟩, o1.slc, o2, ?_, fun x hx => ?_, fun x hx => ⟨(o3 x hx).1, fun e => ?_, (o3 x hx).2⟩, fun x hx => ⟨o4 x hx, fun e => ?_⟩⟩
      · rcases hx with rfl | hx
        · omega
        · exact r4.slc.foot x hx
      · simp only [stepF, r1] at e; cases e
      · simp only [stepF, r1] at e; cases e
        exact ⟨v', n2, r3, r4, fun x hx => ⟨.inr hx, fun e => by have := (r5 x hx).1; omega⟩⟩
      · simp only [stepF, r1, codeF]; exact r2
      · rcases hx with rfl | hx
        · exact .inl h.rr
        · exact .inr (r5 x hx).1
      · rcases e with rfl | e
        · have := (o3 _ hx).1; omega
        · exact (r5 x e).2.1 hx
      · rcases e with rfl | e
        · have := o4 _ hx; omega
        · exact (r5 x e).2.2 hx

theorem step13 {X : Ctx} (hX : X.fns = fnsOf Try.prog) (ho : ∀ f args, f ≠ 9 → X.orc f args = none) {s : Mm} {R : Nat} {st : Option (List UInt8)} {F : Nat → Prop} {v : Value} {b : List UInt8} (h : Rd s R st F) (hb : Bs s v b) (hn : heldF st + b.length ≤ 1048576) :
    CallP X 13 [.pointer (some ⟨R, 0, none⟩), v] s (fun r s' => StepG s s' R st F b r) := by
  have hR := h.lt R h.rr
  cases st with
  | none =>
    refine (run13_torn hX ho (h.none rfl) hb (by simp only [heldF] at hn; omega)).mono fun r s' e => ?_
    obtain ⟨rfl, rfl⟩ := e
    exact ⟨.refl _ _, F, fun _ => False, _, [], h, .nil, .nil, rfl, fun x hx => .inl hx, fun x hx => hx.elim⟩
  | some w =>
    obtain ⟨hv, n, a1, a2, a3⟩ := h.some w rfl
    simp only [heldF] at hn
    refine (run13 hX ho a1 hR a2 (fun x hx => (a3 x hx).2) hb (by omega) (by omega)).mono fun r s' e => ?_
    obtain ⟨hs, out, n', cells, K, o1, o2, o3, o4, o5⟩ := e
    have hnxt := hs.nxt
    have hl := o1.length
    have hl2 := o2.len
    have hn' : n' = (feedF (w.length + b.length + 1) (w ++ b)).1.length := by omega
    subst hn'
    have hs' : Same s s' F := hs.trans (.refl _ _) (fun x _ hx => by rcases hx with rfl | hx; exact h.rr; exact (a3 x hx).1) (fun _ _ hx => hx)
    rcases o5 with ⟨r1, r2, r3⟩ | ⟨w', v', n2, r1, r2, r3, r4, r5⟩
    · refine ⟨hs', fun x => x = R, K, out, cells, ⟨rfl, fun x hx => by subst hx; omega, fun _ => r3, fun w' e => ?_⟩, o1.slc, o2, ?_, fun x hx => by subst hx; exact .inl h.rr, fun x hx => (o3 x hx).1⟩
      · simp only [stepF, r1] at e; cases e
      · simp only [stepF, r1, codeF]; exact r2
    · refine ⟨hs', fun x => x = R ∨ footV v' x, K, out, cells, ⟨.inl rfl, fun x hx => ?_, fun e => ?_, fun w2 e => ?_⟩, o1.slc, o2, ?_, fun x hx => ?_, fun x hx => (o3 x hx).1⟩
      · rcases hx with rfl | hx
        · omega
        · exact r4.slc.foot x hx
      · simp only [stepF, r1] at e; cases e
      · simp only [stepF, r1] at e; cases e
        exact ⟨v', n2, r3, r4, fun x hx => ⟨.inr hx, fun e => by
          rcases (r5 x hx).1 with h1 | h1
          · exact (a3 x h1).2 e
          · omega⟩⟩
      · simp only [stepF, r1, codeF]; exact r2
      · rcases hx with rfl | hx
        · exact .inl h.rr
        · rcases (r5 x hx).1 with h1 | h1
          · exact .inl (a3 x h1).1
          · exact .inr h1

theorem held16 {X : Ctx} (hX : X.fns = fnsOf Try.prog) (ho : ∀ f args, f ≠ 9 → X.orc f args = none) {s : Mm} {R : Nat} {st : Option (List UInt8)} {F : Nat → Prop} (h : Rd s R st F) : CallP X 16 [.pointer (some ⟨R, 0, none⟩)] s (fun r s' => r = .int .i64 (heldF st : Nat) ∧ s = s') := by
  cases st with
  | none => exact run16 hX ho (h.none rfl) .nil
  | some w =>
    obtain ⟨hv, n, a1, a2, a3⟩ := h.some w rfl
    have : n = w.length := by have := a2.length; rw [bsV_length] at this; omega
    subst this
    exact run16 hX ho a1 a2.slc

theorem held17 {X : Ctx} (hX : X.fns = fnsOf Try.prog) (ho : ∀ f args, f ≠ 9 → X.orc f args = none) {s : Mm} {R : Nat} {st : Option (List UInt8)} {F : Nat → Prop} (h : Rd s R st F) : CallP X 17 [.pointer (some ⟨R, 0, none⟩)] s (fun r s' => r = .int .i64 (heldF st : Nat) ∧ s = s') := by
  cases st with
  | none => exact run17 hX ho (h.none rfl) .nil
  | some w =>
    obtain ⟨hv, n, a1, a2, a3⟩ := h.some w rfl
    have : n = w.length := by have := a2.length; rw [bsV_length] at this; omega
    subst this
    exact run17 hX ho a1 a2.slc

end Go.Proofs.Ytkfcejhebepdkaa
