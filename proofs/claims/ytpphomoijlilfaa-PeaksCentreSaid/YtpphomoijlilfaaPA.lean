/- Peaks: the cells about a cell; what is asked of each. -/
import Derived.Test.YtpphomoijlilfaaPkAIr
import Derived.Test.YtpphomoijlilfaaWpB
namespace Go.Proofs.Ytpphomoijlilfaa
open Go Go.Vam

def iV (x : Nat) : Value := .int .i64 (x : Nat)
def cellV (c : Nat × Int) : Value := .agg #[.int .i64 (c.1 : Nat), .int .i64 c.2]
def eF (x : Nat) : List Value := [.float .f64 x]

/-- The bins about a bin, and it. -/
def binsL (b B : Nat) : Nat := if b = 0 then B - 1 else b - 1
def binsR (b B : Nat) : Nat := if b = B - 1 then 0 else b + 1
def bins2 (b B : Nat) : List Nat := if binsL b B ∈ [b] then [b] else [b, binsL b B]
def bins3 (b B : Nat) : List Nat := if binsR b B ∈ bins2 b B then bins2 b B else bins2 b B ++ [binsR b B]
def binsUp (b B : Nat) : Nat → List Nat
  | 0 => [b]
  | 1 => bins2 b B
  | _ => bins3 b B

theorem binsUp_lt {b B : Nat} (h : b < B) (i : Nat) : ∀ x ∈ binsUp b B i, x < B := by
  have hl : binsL b B < B := by unfold binsL; split <;> omega
  have hr : binsR b B < B := by unfold binsR; split <;> omega
  have h2 : ∀ x ∈ bins2 b B, x < B := by
    intro x hx
    unfold bins2 at hx
    split at hx <;> simp at hx <;> rcases hx with rfl | rfl <;> assumption
  have h3 : ∀ x ∈ bins3 b B, x < B := by
    intro x hx
    unfold bins3 at hx
    split at hx
    · exact h2 x hx
    · rcases List.mem_append.1 hx with hx | hx
      · exact h2 x hx
      · simp at hx; rw [hx]; exact hr
  intro x hx
  match i with
  | 0 => simp [binsUp] at hx; omega
  | 1 => exact h2 x hx
  | n + 2 => exact h3 x hx

theorem binsUp_len {b B : Nat} (i : Nat) : 1 ≤ (binsUp b B i).length ∧ (binsUp b B i).length ≤ i + 1 ∧ (binsUp b B i).length ≤ 3 := by
  have h2 : 1 ≤ (bins2 b B).length ∧ (bins2 b B).length ≤ 2 := by unfold bins2; split <;> simp
  have h3 : 1 ≤ (bins3 b B).length ∧ (bins3 b B).length ≤ 3 := by
    unfold bins3; split
    · omega
    · simp; omega
  match i with
  | 0 => simp [binsUp]
  | 1 => simp only [binsUp]; omega
  | n + 2 => simp only [binsUp]; omega

/-- Three cells of a bin, but for one. -/
def rowUp (b : Nat) (g : Int) (b' : Nat) (k : Nat) : List (Nat × Int) := ([-1, 0, 1].take k).filterMap fun e : Int => if b' ≠ b ∨ e ≠ 0 then some (b', g + e) else none
def nbrs (b : Nat) (g : Int) (B : Nat) : List (Nat × Int) := (bins3 b B).flatMap fun b' => rowUp b g b' 3

theorem rowUp_succ (b : Nat) (g : Int) (b' : Nat) {k : Nat} (hk : k < 3) : rowUp b g b' (k + 1) = rowUp b g b' k ++ (if b' ≠ b ∨ k ≠ 1 then [(b', g + ((k : Int) - 1))] else []) := by
  have : k = 0 ∨ k = 1 ∨ k = 2 := by omega
  rcases this with rfl | rfl | rfl
  · simp [rowUp]
  · by_cases hbb : b' = b <;> simp [rowUp, hbb]
  · by_cases hbb : b' = b <;> simp [rowUp, hbb]


theorem run60 {X : Ctx} (hX : X.fns = fnsOf Try.prog) (ho : ∀ f args, f ≠ 15 → X.orc f args = none) {s : Mm} {v : Value} {xs : List Nat} {b : Nat} (h : SlC s 1 v xs.length (xs.map iV)) (hn : xs.length ≤ 1000) :
    CallP X 60 [v, .int .i64 (b : Nat)] s (fun r s' => ∃ z : Int, r = .int .i64 z ∧ decide (0 ≤ z) = decide (b ∈ xs) ∧ s = s') := by
  refine CallP_of (hX ▸ ir60_eq) (ho _ _ (by decide)) (Nat.le_of_ble_eq_true rfl) ?_
  refine W_seq (W_ops [0, 1] ?_)
  simp only [o60_0, WO_move, WO_nil, geT_put, frame_nil, frame_cons, evO_const, keep_nil, keep_cons, keepK_eq, Nat.reduceEqDiff, Nat.reduceAdd, ↓reduceIte, eq_self, Nat.zero_add]
  intro fr e0 e1
  refine SeqK_n ?_
  refine W_assoc ?_
  refine W_seq (W_ops [0, 1, 7, 8] ?_)
  simp only [o60_1, WO_bu, WO_move, WO_nil, PureK_some, geT_put, evO_tmp, evO_const, keep_nil, keep_cons, keepK_eq, List.map_cons, List.map_nil, Nat.reduceEqDiff, ↓reduceIte, eq_self, e0, e1, h.len]
  clear e0 e1
  intro fr e0 e1 e7 e8
  refine SeqK_n ?_
  refine W_seq (W_block (W_loop (fun m fr s1 => ∃ k, k + m = xs.length ∧ s = s1 ∧ b ∉ xs.take k ∧ geT fr 0 = v ∧ geT fr 1 = .int .i64 (b : Nat) ∧ geT fr 7 = .int .i64 (xs.length : Nat) ∧ geT fr 8 = .int .i64 (k : Nat)) xs.length ⟨0, by omega, rfl, by simp, e0, e1, e7, e8⟩ ?_))
  clear e0 e1 e7 e8 fr
  rintro m fr _ ⟨k, hk, rfl, hni, e0, e1, e7, e8⟩
  refine W_seq (W_ops [0, 1, 7, 8, 9] ?_)
  simp only [o60_3, WO_bin, bin_lss, WO_nil, PureK_some, geT_put, evO_tmp, keep_nil, keep_cons, keepK_eq, Nat.reduceEqDiff, ↓reduceIte, eq_self, e0, e1, e7, e8]
  clear e0 e1 e7 e8
  intro fr e0 e1 e7 e8 e9
  refine SeqK_n ?_
  refine W_while e9 (fun hlt => ?_) (fun hlt => ?_)
  · have hk1 : k < xs.length := by omega
    refine W_seq (W_block ?_)
    refine W_seq (W_ops [0, 1, 5, 7, 8] ?_)
    simp only [o60_4, WO_move, WO_nil, geT_put, evO_tmp, keep_nil, keep_cons, keepK_eq, Nat.reduceEqDiff, ↓reduceIte, eq_self, e0, e1, e7, e8]
    clear e0 e1 e7 e8 e9
    intro fr e0 e1 e5 e7 e8
    refine SeqK_n ?_
    have hl : loadV s none (elP v k) = some (.int .i64 (xs[k] : Nat)) := h.load (by simp [hk1, iV])
    have hd : decide (((b : Nat) : Int) = ((xs[k] : Nat) : Int)) = decide (b = xs[k]) := decide_eq_decide.2 (by omega)
    refine W_seq (W_ops [0, 1, 5, 7, 8, 16] ?_)
    simp only [o60_5, WO_addrSl, WO_bin, WO_load, WO_move, bin_eql, WO_nil, PureK_some, geT_put, evO_tmp, keep_nil, keep_cons, keepK_eq, Nat.reduceEqDiff, ↓reduceIte, eq_self, Nat.mul_one, e0, e1, e5, e7, e8, h.addr (kk := .i64) (i := (k : Int)) rfl hk1, hl, hd]
    clear e0 e1 e5 e7 e8
    intro fr e0 e1 e5 e7 e8 e16
    refine SeqK_n ?_
    by_cases he : b = xs[k]
    · rw [decide_eq_true he] at e16
      refine W_cond e16 (fun _ => ?_) (fun h => by cases h)
      refine W_seq (W_ops [4] ?_)
      simp only [o60_6, WO_move, WO_nil, geT_put, evO_tmp, keep_nil, keep_cons, keepK_eq, ↓reduceIte, eq_self, e5]
      clear e0 e1 e5 e7 e8 e16
      intro fr e4
      refine SeqK_n ?_
      refine W_ret (BlkK_r (SeqK_r (LoopK_r (BlkK_r (SeqK_r (Ret1 e4 ⟨_, rfl, ?_, rfl⟩))))))
      rw [decide_eq_true (by omega), decide_eq_true (by rw [he]; exact List.getElem_mem hk1)]
    · rw [decide_eq_false he] at e16
      refine W_cond e16 (fun h => by cases h) (fun _ => W_skip (BlkK_n (SeqK_n ?_)))
      refine W_ops [0, 1, 7, 8] ?_
      simp only [o60_7, WO_bin, WO_move, bin_add, WO_nil, PureK_some, geT_put, evO_tmp, evO_const, keep_nil, keep_cons, keepK_eq, Nat.reduceEqDiff, ↓reduceIte, eq_self, e0, e1, e7, e8, wrap_i64 (n := (k : Int) + 1) (by omega) (by omega)]
      clear e0 e1 e5 e7 e8 e16
      intro fr e0 e1 e7 e8
      refine LoopK_n (m' := m - 1) (by omega) ⟨k + 1, by omega, rfl, ?_, e0, e1, e7, by rw [e8]; rfl⟩
      rw [List.take_add_one, List.getElem?_eq_getElem hk1]
      simp only [List.mem_append, Option.toList_some, List.mem_singleton, not_or]
      exact ⟨hni, he⟩
  · have : k = xs.length := by omega
    subst this
    rw [List.take_length] at hni
    refine LoopK_x (BlkK_e (SeqK_n ?_))
    refine W_seq (W_ops [4] ?_)
    simp only [o60_8, WO_move, WO_nil, geT_put, evO_const, keep_nil, keep_cons, keepK_eq, ↓reduceIte, eq_self]
    clear e0 e1 e7 e8 e9
    intro fr e4
    refine SeqK_n ?_
    exact W_ret (Ret1 e4 ⟨-1, rfl, by rw [decide_eq_false (by omega), decide_eq_false hni], rfl⟩)

theorem run52 {X : Ctx} (hX : X.fns = fnsOf Try.prog) (ho : ∀ f args, f ≠ 15 → X.orc f args = none) {s : Mm} {v : Value} {xs : List Nat} {b : Nat} (h : SlC s 1 v xs.length (xs.map iV)) (hn : xs.length ≤ 1000) :
    CallP X 52 [v, .int .i64 (b : Nat)] s (fun r s' => r = .bool (decide (b ∈ xs)) ∧ s = s') := by
  refine CallP_of (hX ▸ ir52_eq) (ho _ _ (by decide)) (Nat.le_of_ble_eq_true rfl) ?_
  refine W_seq (W_ops [0, 1] ?_)
  simp only [o52_0, WO_move, WO_nil, geT_put, frame_nil, frame_cons, evO_const, keep_nil, keep_cons, keepK_eq, Nat.reduceEqDiff, Nat.reduceAdd, ↓reduceIte, eq_self, Nat.zero_add]
  intro fr e0 e1
  refine SeqK_n ?_
  refine W_seq (W_ops [4] ?_)
  simp only [o52_1, WO_call, WO_move, geT_put, evO_tmp, List.map_cons, List.map_nil, Nat.reduceEqDiff, ↓reduceIte, eq_self, e0, e1]
  refine CallK_of (run60 hX ho h hn) ?_
  rintro _ _ ⟨z, rfl, hz, rfl⟩
  simp only [WO_bin, WO_move, bin_geq, WO_nil, PureK_some, geT_put, evO_tmp, evO_const, keep_nil, keep_cons, keepK_eq, ↓reduceIte, eq_self, hz]
  clear e0 e1
  intro fr e4
  refine SeqK_n ?_
  exact W_ret (Ret1 e4 ⟨rfl, rfl⟩)

set_option maxHeartbeats 1000000 in
/-- The cells about a cell are gone over, one by one. -/
theorem run30 {X : Ctx} (hX : X.fns = fnsOf Try.prog) (ho : ∀ f args, f ≠ 15 → X.orc f args = none) {s0 s : Mm} {E l : List HP} {P : List (Nat × Int) → HP} {gf : FuncId} {fa : Array Value} {b B : Nat} {g : Int} (hb : b < B) (hB : B ≤ 1099511627776) (hg0 : 0 ≤ g) (hg1 : g ≤ 1099511627776)
    (H : Hold s0 s (P [] :: (E ++ l)))
    (hstep : ∀ pre c s l, c.1 < B → Hold s0 s (P pre :: (E ++ l)) → CallP X gf ([cellV c] ++ fa.toList) s (fun _ s' => Hold s0 s' (P (pre ++ [c]) :: (E ++ l)))) :
    CallP X 30 [cellV (b, g), .int .i64 (B : Nat), .func (.func gf) #[] fa] s (fun _ s' => ∃ x y, Hold s0 s' (P (nbrs b g B) :: (E ++ (x :: y :: l)))) := by
  have mid : ∀ {s : Mm} {Q x : HP} {l : List HP}, Hold s0 s (x :: Q :: (E ++ l)) → Hold s0 s (Q :: (E ++ (x :: l))) := fun h => h.perm ((List.Perm.swap _ _ _).trans (List.Perm.cons _ List.perm_middle.symm))
  refine CallP_of (hX ▸ ir30_eq) (ho _ _ (by decide)) (Nat.le_of_ble_eq_true rfl) ?_
  have hbx : (cellV (b, g)).cells.toList = [.int .i64 (b : Nat), .int .i64 g] := rfl
  refine W_seq (W_ops [1, 2, 3] ?_)
  simp only [o30_0, WO_box, WO_nil, geT_put, frame_nil, frame_cons, evO_tmp, keep_nil, keep_cons, keepK_eq, Nat.reduceEqDiff, Nat.reduceAdd, ↓reduceIte, eq_self, Nat.zero_add, hbx]
  intro fr e1 e2 e3
  refine SeqK_n ?_
  have H1 := mid (H.new [.int .i64 (b : Nat), .int .i64 g])
  obtain ⟨Bc, hBc⟩ : ∃ Bc, Bc = s.nxt := ⟨_, rfl⟩
  rw [← hBc] at H1 e3
  generalize newAt s (.cells [.int .i64 (b : Nat), .int .i64 g] false) = s1 at H1 ⊢
  have LC : ∀ {s' : Mm} {Q : HP} {l : List HP}, Hold s0 s' (Q :: (E ++ l)) → HP.cell Bc [.int .i64 (b : Nat), .int .i64 g] ∈ l → loadV s' none (.pointer (some ⟨Bc, 0, none⟩)) = some (.int .i64 (b : Nat)) ∧ loadV s' none (.pointer (some ⟨Bc, 1, none⟩)) = some (.int .i64 g) :=
    fun h hm => ⟨load_g (o := 0) (h.cell (List.mem_cons_of_mem _ (List.mem_append_right _ hm))), load_g (o := 1) (h.cell (List.mem_cons_of_mem _ (List.mem_append_right _ hm)))⟩
  obtain ⟨L0, L1⟩ := LC H1 (by simp)
  refine W_seq (W_draw0 [1, 2, 3, 6, 7] rfl ?_)
  simp only [d30_1, WD_bin, WD_fieldAddr, fieldAddr_p, WD_load, WD_move, bin_add, bin_sub, WD_nil, DPureK_some, DReadK_some, pastR_nil, joinAll_nil, setH_self, geT_put, evO_tmp, evO_const, keep_nil, keep_cons, keepK_eq, Nat.reduceEqDiff, Nat.reduceAdd, ↓reduceIte, eq_self, true_and, Nat.zero_add, Nat.add_zero, e1, e2, e3, L0, wrap_i64 (n := (b : Int) - 1) (by omega) (by omega), wrap_i64 (n := (b : Int) + 1) (by omega) (by omega)]
  clear e1 e2 e3
  intro fr e1 e2 e3 e6 e7
  refine SeqK_n ?_
  -- left and right
  refine W_assoc ?_
  have hd0 : decide (((b : Nat) : Int) = 0) = decide (b = 0) := decide_eq_decide.2 (by omega)
  refine W_seq (W_ops [1, 2, 3, 6, 7, 23] ?_)
  simp only [o30_2, WO_bin, WO_fieldAddr, fieldAddr_p, WO_load, bin_eql, WO_nil, PureK_some, geT_put, evO_tmp, evO_const, keep_nil, keep_cons, keepK_eq, Nat.reduceEqDiff, ↓reduceIte, eq_self, Nat.add_zero, e1, e2, e3, e6, e7, L0, hd0]
  clear e1 e2 e3 e6 e7
  intro fr e1 e2 e3 e6 e7 e23
  refine SeqK_n ?_
  refine W_seq (W_cutN (fun fr1 s3 => s1 = s3 ∧ geT fr1 1 = .int .i64 (B : Nat) ∧ geT fr1 2 = .func (.func gf) #[] fa ∧ geT fr1 3 = .pointer (some ⟨Bc, 0, none⟩) ∧ geT fr1 6 = .int .i64 (binsL b B : Nat) ∧ geT fr1 7 = .int .i64 ((b : Int) + 1)) ?_ ?_)
  · intro R' hR'
    by_cases h0 : b = 0
    · rw [decide_eq_true h0] at e23
      refine W_cond e23 (fun _ => ?_) (fun h => by cases h)
      refine W_ops [1, 2, 3, 6, 7] ?_
      simp only [o30_3, WO_bin, WO_move, bin_sub, WO_nil, PureK_some, geT_put, evO_tmp, evO_const, keep_nil, keep_cons, keepK_eq, Nat.reduceEqDiff, ↓reduceIte, eq_self, e1, e2, e3, e7, wrap_i64 (n := (B : Int) - 1) (by omega) (by omega)]
      clear e1 e2 e3 e6 e7 e23
      intro fr e1 e2 e3 e6 e7
      refine hR' _ _ ⟨rfl, e1, e2, e3, ?_, e7⟩
      rw [e6, binsL, if_pos h0]; congr 1; omega
    · rw [decide_eq_false h0] at e23
      refine W_cond e23 (fun h => by cases h) (fun _ => W_skip (hR' _ _ ⟨rfl, e1, e2, e3, ?_, e7⟩))
      rw [e6, binsL, if_neg h0]; congr 1; omega
  clear e1 e2 e3 e6 e7 e23 fr
  rintro fr _ ⟨rfl, e1, e2, e3, e6, e7⟩
  refine SeqK_n ?_
  refine W_assoc ?_
  have hdr : decide (((b : Nat) : Int) = (B : Nat) - 1) = decide (b = B - 1) := decide_eq_decide.2 (by omega)
  refine W_seq (W_ops [2, 3, 6, 7, 30] ?_)
  simp only [o30_4, WO_bin, WO_fieldAddr, fieldAddr_p, WO_load, WO_move, bin_eql, bin_sub, WO_nil, PureK_some, geT_put, evO_tmp, evO_const, keep_nil, keep_cons, keepK_eq, Nat.reduceEqDiff, ↓reduceIte, eq_self, Nat.add_zero, e1, e2, e3, e6, e7, L0, wrap_i64 (n := (B : Int) - 1) (by omega) (by omega), hdr]
  clear e1 e2 e3 e6 e7
  intro fr e2 e3 e6 e7 e30
  refine SeqK_n ?_
  refine W_seq (W_cutN (fun fr1 s3 => s1 = s3 ∧ geT fr1 2 = .func (.func gf) #[] fa ∧ geT fr1 3 = .pointer (some ⟨Bc, 0, none⟩) ∧ geT fr1 6 = .int .i64 (binsL b B : Nat) ∧ geT fr1 7 = .int .i64 (binsR b B : Nat)) ?_ ?_)
  · intro R' hR'
    by_cases h0 : b = B - 1
    · rw [decide_eq_true h0] at e30
      refine W_cond e30 (fun _ => ?_) (fun h => by cases h)
      refine W_ops [2, 3, 6, 7] ?_
      simp only [o30_5, WO_move, WO_nil, geT_put, evO_const, keep_nil, keep_cons, keepK_eq, Nat.reduceEqDiff, ↓reduceIte, eq_self, e2, e3, e6]
      clear e2 e3 e6 e7 e30
      intro fr e2 e3 e6 e7
      refine hR' _ _ ⟨rfl, e2, e3, e6, ?_⟩
      rw [e7, binsR, if_pos h0]; rfl
    · rw [decide_eq_false h0] at e30
      refine W_cond e30 (fun h => by cases h) (fun _ => W_skip (hR' _ _ ⟨rfl, e2, e3, e6, ?_⟩))
      rw [e7, binsR, if_neg h0]; rfl
  clear e2 e3 e6 e7 e30 fr
  rintro fr _ ⟨rfl, e2, e3, e6, e7⟩
  refine SeqK_n ?_
  have hbu : buildV [.int .i64 0, .int .i64 0, .int .i64 0] [(0, 1, .int .i64 (b : Nat)), (1, 1, .int .i64 (-1)), (2, 1, .int .i64 (-1))] = some (.agg #[.int .i64 (b : Nat), .int .i64 (-1), .int .i64 (-1)]) := rfl
  have H2 := H1.new [.int .i64 0, .int .i64 0, .int .i64 0]
  have st := store_all (n := 3) (vs := [.int .i64 (b : Nat), .int .i64 (-1), .int .i64 (-1)]) (H2.cell (List.mem_cons_self ..)) rfl rfl rfl
  simp only [List.toArray] at st
  have H3 := mid (H2.setc (cs' := [.int .i64 (b : Nat), .int .i64 (-1), .int .i64 (-1)]))
  refine W_seq (W_ops [2, 3, 6, 7, 8] ?_)
  simp only [o30_6, WO_alloc, WO_build, WO_fieldAddr, fieldAddr_p, WO_load, WO_store, WO_nil, PureK_some, MemK_some, geT_put, puT_none, evO_tmp, evO_const, keep_nil, keep_cons, keepK_eq, List.map_cons, List.map_nil, Nat.reduceEqDiff, ↓reduceIte, eq_self, Nat.add_zero, e2, e3, e6, e7, L0, hbu, st]
  clear e2 e3 e6 e7
  intro fr e2 e3 e6 e7 e8
  refine SeqK_n ?_
  clear st H2 L0 L1
  generalize setBlk (newAt s1 (.cells [.int .i64 0, .int .i64 0, .int .i64 0] false)) s1.nxt (.cells [.int .i64 (b : Nat), .int .i64 (-1), .int .i64 (-1)] false) = s2 at H3 ⊢
  obtain ⟨Bm, hBm⟩ : ∃ Bm, Bm = s1.nxt := ⟨_, rfl⟩
  rw [← hBm] at H3 e8
  refine W_seq (W_ops [2, 3, 6, 7, 8, 9] ?_)
  simp only [o30_7, WO_move, WO_nil, geT_put, evO_const, keep_nil, keep_cons, keepK_eq, Nat.reduceEqDiff, ↓reduceIte, eq_self, e2, e3, e6, e7, e8]
  clear e2 e3 e6 e7 e8
  intro fr e2 e3 e6 e7 e8 e9
  refine SeqK_n ?_
  have hbu2 : buildV [.int .i64 0, .int .i64 0] [(0, 1, .int .i64 (binsL b B : Nat)), (1, 1, .int .i64 (binsR b B : Nat))] = some (.agg #[.int .i64 (binsL b B : Nat), .int .i64 (binsR b B : Nat)]) := rfl
  refine W_assoc ?_
  refine W_seq (W_ops [2, 3, 8, 9, 36, 37] ?_)
  simp only [o30_8, WO_build, WO_move, WO_nil, PureK_some, geT_put, evO_tmp, evO_const, keep_nil, keep_cons, keepK_eq, List.map_cons, List.map_nil, Nat.reduceEqDiff, ↓reduceIte, eq_self, e2, e3, e6, e7, e8, e9, hbu2]
  clear e2 e3 e6 e7 e8 e9
  intro fr e2 e3 e8 e9 e36 e37
  refine SeqK_n ?_
  have metOf : ∀ ml : List Nat, ml.length ≤ 3 → ∀ (s : Mm) (l : List HP) (Q : HP), Hold s0 s (Q :: (E ++ (HP.cell Bm (ml.map iV ++ List.replicate (3 - ml.length) (Value.int .i64 (-1))) :: l))) → SlC s 1 (.slice (some ⟨Bm, 0, none⟩) ml.length 3) ml.length (ml.map iV) := fun ml hm s l Q h => by
    obtain ⟨K, ⟨a, c, _⟩, _⟩ := h.mem (P := HP.cell Bm (ml.map iV ++ List.replicate (3 - ml.length) (Value.int .i64 (-1)))) (by simp)
    exact .mk (blk_cells a) c (by simp) (by simp) (.inl ⟨hm, by decide⟩)
  have slA : ∀ n : Nat, n ≤ 3 → slArrV 3 1 (.pointer (some ⟨Bm, 0, none⟩)) none (some (.int .i64 (n : Nat))) none = some (.slice (some ⟨Bm, 0, none⟩) n 3) := fun n hn => by
    simp only [slArrV, bounds_0 (rfl : ((n : Nat) : Int) = (n : Nat)) hn]
    simp [add_none']
  refine W_seq (W_block (W_loop (fun m fr s3 => ∃ i, i + m = 2 ∧ geT fr 2 = .func (.func gf) #[] fa ∧ geT fr 3 = .pointer (some ⟨Bc, 0, none⟩) ∧ geT fr 8 = .pointer (some ⟨Bm, 0, none⟩) ∧ geT fr 9 = .int .i64 ((binsUp b B i).length : Nat) ∧ geT fr 36 = .agg #[.int .i64 (binsL b B : Nat), .int .i64 (binsR b B : Nat)] ∧ geT fr 37 = .int .i64 (i : Nat) ∧
    Hold s0 s3 (P [] :: (E ++ (HP.cell Bm ((binsUp b B i).map iV ++ List.replicate (3 - (binsUp b B i).length) (Value.int .i64 (-1))) :: HP.cell Bc [.int .i64 (b : Nat), .int .i64 g] :: l)))) 2 ⟨0, by omega, e2, e3, e8, e9, e36, e37, H3⟩ ?_))
  clear e2 e3 e8 e9 e36 e37 fr H3 s2
  rintro m fr s3 ⟨i, hi, e2, e3, e8, e9, e36, e37, H3⟩
  refine W_seq (W_ops [2, 3, 8, 9, 36, 37, 38] ?_)
  simp only [o30_10, WO_bin, bin_lss, WO_nil, PureK_some, geT_put, evO_tmp, evO_const, keep_nil, keep_cons, keepK_eq, Nat.reduceEqDiff, ↓reduceIte, eq_self, e2, e3, e8, e9, e36, e37]
  clear e2 e3 e8 e9 e36 e37
  intro fr e2 e3 e8 e9 e36 e37 e38
  refine SeqK_n ?_
  refine W_while e38 (fun hlt => ?_) (fun hlt => ?_)
  · have hi2 : i < 2 := by omega
    have hlen := binsUp_len (b := b) (B := B) i
    obtain ⟨x, hx⟩ : ∃ x : Nat, x = if i = 0 then binsL b B else binsR b B := ⟨_, rfl⟩
    have hidx : idxArrV 2 1 false (.agg #[.int .i64 (binsL b B : Nat), .int .i64 (binsR b B : Nat)]) (.int .i64 (i : Nat)) = some (.int .i64 (x : Nat)) := by
      rw [hx]
      match i, hi2 with
      | 0, _ => rfl
      | 1, _ => rfl
    have hnext : binsUp b B (i + 1) = if x ∈ binsUp b B i then binsUp b B i else binsUp b B i ++ [x] := by
      rw [hx]
      match i, hi2 with
      | 0, _ => simp only [binsUp, bins2, if_true]; split <;> rfl
      | 1, _ => simp only [binsUp, bins3]; rfl
    refine W_seq (W_block ?_)
    refine W_seq (W_ops [2, 3, 8, 9, 11, 36, 37] ?_)
    simp only [o30_11, WO_idxArr, WO_move, WO_nil, PureK_some, geT_put, evO_tmp, keep_nil, keep_cons, keepK_eq, Nat.reduceEqDiff, ↓reduceIte, eq_self, e2, e3, e8, e9, e36, e37, hidx]
    clear e2 e3 e8 e9 e36 e37 e38
    intro fr e2 e3 e8 e9 e11 e36 e37
    refine SeqK_n ?_
    refine W_seq (W_ops [2, 3, 8, 9, 11, 36, 37, 44] ?_)
    simp only [o30_12, WO_call, WO_move, WO_slArr, PureK_some, geT_put, evO_tmp, List.map_cons, List.map_nil, Option.map_some, Option.map_none, Nat.reduceEqDiff, ↓reduceIte, eq_self, e8, e9, e11, slA _ hlen.2.2]
    refine CallK_of (run52 hX ho (metOf _ hlen.2.2 _ _ _ H3) (by omega)) ?_
    rintro _ _ ⟨rfl, rfl⟩
    simp only [WO_un, un_not, WO_nil, PureK_some, geT_put, evO_tmp, keep_nil, keep_cons, keepK_eq, Nat.reduceEqDiff, ↓reduceIte, eq_self, e2, e3, e8, e9, e11, e36, e37]
    clear e2 e3 e8 e9 e11 e36 e37
    intro fr e2 e3 e8 e9 e11 e36 e37 e44
    refine SeqK_n ?_
    by_cases hin : x ∈ binsUp b B i
    · rw [if_pos hin] at hnext
      rw [decide_eq_true hin] at e44
      refine W_cond e44 (fun h => by cases h) (fun _ => W_skip (BlkK_n (SeqK_n ?_)))
      refine W_ops [2, 3, 8, 9, 36, 37] ?_
      simp only [o30_15, WO_bin, WO_move, bin_add, WO_nil, PureK_some, geT_put, evO_tmp, evO_const, keep_nil, keep_cons, keepK_eq, Nat.reduceEqDiff, ↓reduceIte, eq_self, e2, e3, e8, e9, e36, e37, wrap_i64 (n := (i : Int) + 1) (by omega) (by omega)]
      clear e2 e3 e8 e9 e11 e36 e37 e44
      intro fr e2 e3 e8 e9 e36 e37
      exact LoopK_n (m' := m - 1) (by omega) ⟨i + 1, by omega, e2, e3, e8, by rw [e9, hnext], e36, by rw [e37]; rfl, by rw [hnext]; exact H3⟩
    · rw [if_neg hin] at hnext
      rw [decide_eq_false hin] at e44
      refine W_cond e44 (fun _ => ?_) (fun h => by cases h)
      have hl3 : (binsUp b B i).length < 3 := by omega
      have hadr : addrArrV 3 1 (.pointer (some ⟨Bm, 0, none⟩)) (.int .i64 ((binsUp b B i).length : Nat)) = some (.pointer (some ⟨Bm, (binsUp b B i).length, none⟩)) := by
        have : (0 : Int) ≤ ((binsUp b B i).length : Int) ∧ ((binsUp b B i).length : Int) < ((3 : Nat) : Int) := ⟨by omega, by omega⟩
        simp only [addrArrV, idxV, if_pos this, add_none', Nat.mul_one, Nat.zero_add, Int.toNat_natCast]
      have hcell : HP.cell Bm ((binsUp b B i).map iV ++ List.replicate (3 - (binsUp b B i).length) (Value.int .i64 (-1))) ∈ (P [] :: (E ++ (HP.cell Bm ((binsUp b B i).map iV ++ List.replicate (3 - (binsUp b B i).length) (Value.int .i64 (-1))) :: HP.cell Bc [.int .i64 (b : Nat), .int .i64 g] :: l))) := by simp
      have st := store_g (o := (binsUp b B i).length) (x := iV x) (H3.cell hcell) rfl (by simp; omega)
      have hset : ((binsUp b B i).map iV ++ List.replicate (3 - (binsUp b B i).length) (Value.int .i64 (-1))).set (binsUp b B i).length (iV x) = (binsUp b B (i + 1)).map iV ++ List.replicate (3 - (binsUp b B (i + 1)).length) (.int .i64 (-1)) := by
        rw [hnext, List.set_append_right _ _ (by simp), List.length_map, Nat.sub_self]
        obtain ⟨r, hr⟩ : ∃ r, 3 - (binsUp b B i).length = r + 1 := ⟨3 - (binsUp b B i).length - 1, by omega⟩
        rw [hr, List.replicate_succ, List.set_cons_zero, List.map_append, List.append_assoc, List.length_append]
        have : 3 - ((binsUp b B i).length + [x].length) = r := by simp; omega
        rw [this]; rfl
      rw [hset] at st
      have H4 := (H3.perm ((List.Perm.cons _ List.perm_middle).trans (List.Perm.swap _ _ _))).setc (cs' := (binsUp b B (i + 1)).map iV ++ List.replicate (3 - (binsUp b B (i + 1)).length) (Value.int .i64 (-1)))
      have H5 := mid H4
      simp only [iV] at st
      refine W_seq (W_ops [2, 3, 8, 9, 36, 37] ?_)
      simp only [o30_13, WO_addrArr, WO_move, WO_store, WO_nil, PureK_some, MemK_some, geT_put, puT_none, evO_tmp, keep_nil, keep_cons, keepK_eq, Nat.reduceEqDiff, ↓reduceIte, eq_self, e2, e3, e8, e9, e11, e36, e37, hadr, st]
      clear e2 e3 e8 e9 e11 e36 e37 e44
      intro fr e2 e3 e8 e9 e36 e37
      refine SeqK_n ?_
      refine W_ops [2, 3, 8, 9, 36, 37] ?_
      simp only [o30_14, WO_bin, WO_move, bin_add, WO_nil, PureK_some, geT_put, evO_tmp, evO_const, keep_nil, keep_cons, keepK_eq, Nat.reduceEqDiff, ↓reduceIte, eq_self, e2, e3, e8, e9, e36, e37, wrap_i64 (n := ((binsUp b B i).length : Int) + 1) (by omega) (by omega)]
      clear e2 e3 e8 e9 e36 e37
      intro fr e2 e3 e8 e9 e36 e37
      refine BlkK_n (SeqK_n ?_)
      refine W_ops [2, 3, 8, 9, 36, 37] ?_
      simp only [o30_15, WO_bin, WO_move, bin_add, WO_nil, PureK_some, geT_put, evO_tmp, evO_const, keep_nil, keep_cons, keepK_eq, Nat.reduceEqDiff, ↓reduceIte, eq_self, e2, e3, e8, e9, e36, e37, wrap_i64 (n := (i : Int) + 1) (by omega) (by omega)]
      clear e2 e3 e8 e9 e36 e37
      intro fr e2 e3 e8 e9 e36 e37
      refine LoopK_n (m' := m - 1) (by omega) ⟨i + 1, by omega, e2, e3, e8, ?_, e36, by rw [e37]; rfl, H5⟩
      rw [e9, hnext]; simp
  · have hi2 : i = 2 := by omega
    subst hi2
    have e9' : geT fr 9 = .int .i64 ((bins3 b B).length : Nat) := e9
    have H4 : Hold s0 s3 (P [] :: (E ++ (HP.cell Bm ((bins3 b B).map iV ++ List.replicate (3 - (bins3 b B).length) (Value.int .i64 (-1))) :: HP.cell Bc [.int .i64 (b : Nat), .int .i64 g] :: l))) := H3
    have hlen : (bins3 b B).length ≤ 3 := (binsUp_len (b := b) (B := B) 2).2.2
    have hlt3 : ∀ x ∈ bins3 b B, x < B := binsUp_lt hb 2
    clear H3 e9
    have e9 := e9'
    clear e9'
    refine LoopK_x (BlkK_e (SeqK_n ?_))
    refine W_seq (W_ops [2, 3, 52, 53, 54] ?_)
    simp only [o30_16, WO_bu, bu_len, WO_move, WO_slArr, WO_nil, PureK_some, geT_put, evO_tmp, evO_const, keep_nil, keep_cons, keepK_eq, List.map_cons, List.map_nil, Option.map_some, Option.map_none, Nat.reduceEqDiff, ↓reduceIte, eq_self, e2, e3, e8, e9, slA _ hlen]
    clear e2 e3 e8 e9 e36 e37 e38
    intro fr e2 e3 e52 e53 e54
    refine SeqK_n ?_
    refine W_block (W_loop (fun m fr s4 => ∃ j, j + m = (bins3 b B).length ∧ geT fr 2 = .func (.func gf) #[] fa ∧ geT fr 3 = .pointer (some ⟨Bc, 0, none⟩) ∧ geT fr 52 = .slice (some ⟨Bm, 0, none⟩) (bins3 b B).length 3 ∧ geT fr 53 = .int .i64 ((bins3 b B).length : Nat) ∧ geT fr 54 = .int .i64 (j : Nat) ∧
      Hold s0 s4 (P (((bins3 b B).take j).flatMap fun b' => rowUp b g b' 3) :: (E ++ (HP.cell Bm ((bins3 b B).map iV ++ List.replicate (3 - (bins3 b B).length) (Value.int .i64 (-1))) :: HP.cell Bc [.int .i64 (b : Nat), .int .i64 g] :: l)))) (bins3 b B).length ⟨0, by omega, e2, e3, e52, e53, e54, by simpa using H4⟩ ?_)
    clear e2 e3 e52 e53 e54 fr H4 s3
    rintro m fr s4 ⟨j, hj, e2, e3, e52, e53, e54, H4⟩
    refine W_seq (W_ops [2, 3, 52, 53, 54, 55] ?_)
    simp only [o30_18, WO_bin, bin_lss, WO_nil, PureK_some, geT_put, evO_tmp, keep_nil, keep_cons, keepK_eq, Nat.reduceEqDiff, ↓reduceIte, eq_self, e2, e3, e52, e53, e54]
    clear e2 e3 e52 e53 e54
    intro fr e2 e3 e52 e53 e54 e55
    refine SeqK_n ?_
    refine W_while e55 (fun hlt => ?_) (fun hlt => ?_)
    · have hj1 : j < (bins3 b B).length := by omega
      have hbj : (bins3 b B)[j] < B := hlt3 _ (List.getElem_mem hj1)
      have sm := metOf _ hlen _ _ _ H4
      have hl : loadV s4 none (elP (.slice (some ⟨Bm, 0, none⟩) (bins3 b B).length 3) j) = some (.int .i64 ((bins3 b B)[j] : Nat)) := sm.load (by simp [hj1, iV])
      refine W_seq (W_block ?_)
      refine W_seq (W_ops [2, 3, 13, 52, 53, 54] ?_)
      simp only [o30_19, WO_addrSl, WO_load, WO_move, WO_nil, PureK_some, geT_put, evO_tmp, keep_nil, keep_cons, keepK_eq, Nat.reduceEqDiff, ↓reduceIte, eq_self, Nat.mul_one, e2, e3, e52, e53, e54, sm.addr (kk := .i64) (i := (j : Int)) rfl hj1, hl]
      clear e2 e3 e52 e53 e54 e55
      intro fr e2 e3 e13 e52 e53 e54
      refine SeqK_n ?_
      generalize hbd : (bins3 b B)[j] = b' at hbj e13
      refine W_seq (W_ops [2, 3, 13, 14, 52, 53, 54] ?_)
      simp only [o30_20, WO_move, WO_nil, geT_put, evO_const, keep_nil, keep_cons, keepK_eq, Nat.reduceEqDiff, ↓reduceIte, eq_self, e2, e3, e13, e52, e53, e54]
      clear e2 e3 e13 e52 e53 e54
      intro fr e2 e3 e13 e14 e52 e53 e54
      refine SeqK_n ?_
      refine W_block (W_loop (fun m2 fr s5 => ∃ k, k + m2 = 3 ∧ geT fr 2 = .func (.func gf) #[] fa ∧ geT fr 3 = .pointer (some ⟨Bc, 0, none⟩) ∧ geT fr 13 = .int .i64 (b' : Nat) ∧ geT fr 14 = .int .i64 ((k : Int) - 1) ∧ geT fr 52 = .slice (some ⟨Bm, 0, none⟩) (bins3 b B).length 3 ∧ geT fr 53 = .int .i64 ((bins3 b B).length : Nat) ∧ geT fr 54 = .int .i64 (j : Nat) ∧
        Hold s0 s5 (P ((((bins3 b B).take j).flatMap fun b' => rowUp b g b' 3) ++ rowUp b g b' k) :: (E ++ (HP.cell Bm ((bins3 b B).map iV ++ List.replicate (3 - (bins3 b B).length) (Value.int .i64 (-1))) :: HP.cell Bc [.int .i64 (b : Nat), .int .i64 g] :: l)))) 3 ⟨0, by omega, e2, e3, e13, e14, e52, e53, e54, by simpa [rowUp] using H4⟩ ?_)
      clear e2 e3 e13 e14 e52 e53 e54 fr H4 sm hl s4
      rintro m2 fr s5 ⟨k, hk, e2, e3, e13, e14, e52, e53, e54, H4⟩
      obtain ⟨L0, L1⟩ := LC H4 (by simp)
      refine W_assoc ?_
      refine W_seq (W_ops [2, 3, 13, 14, 52, 53, 54, 59] ?_)
      simp only [o30_22, WO_bin, WO_move, bin_leq, WO_nil, PureK_some, geT_put, evO_tmp, evO_const, keep_nil, keep_cons, keepK_eq, Nat.reduceEqDiff, ↓reduceIte, eq_self, e2, e3, e13, e14, e52, e53, e54]
      clear e2 e3 e13 e14 e52 e53 e54
      intro fr e2 e3 e13 e14 e52 e53 e54 e59
      refine SeqK_n ?_
      refine W_while e59 (fun hlt2 => ?_) (fun hlt2 => ?_)
      · have hk3 : k < 3 := by omega
        have hrow := rowUp_succ b g b' hk3
        refine W_seq (W_block ?_)
        have hd1 : decide (((b' : Nat) : Int) = (b : Nat)) = decide (b' = b) := decide_eq_decide.2 (by omega)
        have hd2 : decide ((k : Int) - 1 = 0) = decide (k = 1) := decide_eq_decide.2 (by omega)
        refine W_seq (W_opsB [2, 3, 13, 14, 52, 53, 54, 69] (fun fr1 s6 => s5 = s6 ∧ geT fr1 2 = .func (.func gf) #[] fa ∧ geT fr1 3 = .pointer (some ⟨Bc, 0, none⟩) ∧ geT fr1 13 = .int .i64 (b' : Nat) ∧ geT fr1 14 = .int .i64 ((k : Int) - 1) ∧ geT fr1 52 = .slice (some ⟨Bm, 0, none⟩) (bins3 b B).length 3 ∧ geT fr1 53 = .int .i64 ((bins3 b B).length : Nat) ∧ geT fr1 54 = .int .i64 (j : Nat) ∧ geT fr1 69 = .bool (decide (b' ≠ b ∨ k ≠ 1))) ?_ ?_)
        · intro R' hR'
          by_cases hbb : b' = b
          · by_cases hk1 : k = 1
            · simp only [o30_23, WO_nil, WO_move, WO_pick, WO_bin, WO_fieldAddr, WO_load, WO_guard, PureK_some, geT_put, evO_tmp, evO_const, want_v, wantB_f, keep_nil, keep_cons, keepK_eq, Nat.reduceEqDiff, ↓reduceIte, pick_b, fieldAddr_p, bin_neq, Bool.not_true, Bool.not_false, eq_self, Bool.false_eq_true, Nat.add_zero, e2, e3, e13, e14, e52, e53, e54, L0, hd1, hd2, decide_eq_true hbb, decide_eq_true hk1]
              intro fr e2 e3 e13 e14 e52 e53 e54 e69
              exact hR' _ _ ⟨rfl, e2, e3, e13, e14, e52, e53, e54, by rw [e69, decide_eq_false (by simp [hbb, hk1])]⟩
            · simp only [o30_23, WO_nil, WO_move, WO_pick, WO_bin, WO_fieldAddr, WO_load, WO_guard, PureK_some, geT_put, evO_tmp, evO_const, want_v, wantB_f, keep_nil, keep_cons, keepK_eq, Nat.reduceEqDiff, ↓reduceIte, pick_b, fieldAddr_p, bin_neq, Bool.not_true, Bool.not_false, eq_self, Bool.false_eq_true, Nat.add_zero, e2, e3, e13, e14, e52, e53, e54, L0, hd1, hd2, decide_eq_true hbb, decide_eq_false hk1]
              intro fr e2 e3 e13 e14 e52 e53 e54 e69
              exact hR' _ _ ⟨rfl, e2, e3, e13, e14, e52, e53, e54, by rw [e69, decide_eq_true (.inr hk1)]⟩
          · simp only [o30_23, WO_nil, WO_move, WO_pick, WO_bin, WO_fieldAddr, WO_load, WO_guard, PureK_some, geT_put, evO_tmp, evO_const, want_v, wantB_f, keep_nil, keep_cons, keepK_eq, Nat.reduceEqDiff, ↓reduceIte, pick_b, fieldAddr_p, bin_neq, Bool.not_true, Bool.not_false, eq_self, Bool.false_eq_true, Nat.add_zero, e2, e3, e13, e14, e52, e53, e54, L0, hd1, decide_eq_false hbb]
            intro fr e2 e3 e13 e14 e52 e53 e54 e69
            exact hR' _ _ ⟨rfl, e2, e3, e13, e14, e52, e53, e54, by rw [e69, decide_eq_true (.inl hbb)]⟩
        clear e2 e3 e13 e14 e52 e53 e54 e59 fr
        rintro fr _ ⟨rfl, e2, e3, e13, e14, e52, e53, e54, e69⟩
        have w1 := wrap_i64 (n := (k : Int) - 1 + 1) (by omega) (by omega)
        by_cases hdo : b' ≠ b ∨ k ≠ 1
        · rw [decide_eq_true hdo] at e69
          rw [if_pos hdo] at hrow
          refine SeqK_n (W_cond e69 (fun _ => ?_) (fun h => by cases h))
          have hbu3 : buildV [.int .i64 0, .int .i64 0] [(0, 1, .int .i64 (b' : Nat)), (1, 1, .int .i64 (g + ((k : Int) - 1)))] = some (cellV (b', g + ((k : Int) - 1))) := rfl
          refine W_ops [2, 3, 13, 14, 52, 53, 54] ?_
          simp only [o30_24, WO_bin, WO_build, WO_fieldAddr, fieldAddr_p, WO_load, WO_move, bin_add, PureK_some, geT_put, evO_tmp, List.map_cons, List.map_nil, Nat.reduceEqDiff, ↓reduceIte, eq_self, Nat.zero_add, e2, e3, e13, e14, L1, wrap_i64 (n := g + ((k : Int) - 1)) (by omega) (by omega), hbu3]
          refine WO_callT ?_
          simp only [geT_put, evO_tmp, List.map_cons, List.map_nil, Nat.reduceEqDiff, ↓reduceIte, eq_self, FunK_f]
          refine CallK_of (hstep _ (b', g + ((k : Int) - 1)) s5 _ hbj H4) ?_
          rintro _ s6 H5
          simp only [WO_nil, geT_put, keep_nil, keep_cons, keepK_eq, Nat.reduceEqDiff, ↓reduceIte, e2, e3, e13, e14, e52, e53, e54]
          clear e2 e3 e13 e14 e52 e53 e54 e69
          intro fr e2 e3 e13 e14 e52 e53 e54
          refine BlkK_n (SeqK_n ?_)
          refine W_ops [2, 3, 13, 14, 52, 53, 54] ?_
          simp only [o30_25, WO_bin, WO_move, bin_add, WO_nil, PureK_some, geT_put, evO_tmp, evO_const, keep_nil, keep_cons, keepK_eq, Nat.reduceEqDiff, ↓reduceIte, eq_self, e2, e3, e13, e14, e52, e53, e54, w1]
          clear e2 e3 e13 e14 e52 e53 e54
          intro fr e2 e3 e13 e14 e52 e53 e54
          refine LoopK_n (m' := m2 - 1) (by omega) ⟨k + 1, by omega, e2, e3, e13, by rw [e14]; congr 1; omega, e52, e53, e54, ?_⟩
          rw [hrow, ← List.append_assoc]
          exact H5
        · rw [decide_eq_false hdo] at e69
          rw [if_neg hdo, List.append_nil] at hrow
          refine SeqK_n (W_cond e69 (fun h => by cases h) (fun _ => W_skip (BlkK_n (SeqK_n ?_))))
          refine W_ops [2, 3, 13, 14, 52, 53, 54] ?_
          simp only [o30_25, WO_bin, WO_move, bin_add, WO_nil, PureK_some, geT_put, evO_tmp, evO_const, keep_nil, keep_cons, keepK_eq, Nat.reduceEqDiff, ↓reduceIte, eq_self, e2, e3, e13, e14, e52, e53, e54, w1]
          clear e2 e3 e13 e14 e52 e53 e54 e69
          intro fr e2 e3 e13 e14 e52 e53 e54
          refine LoopK_n (m' := m2 - 1) (by omega) ⟨k + 1, by omega, e2, e3, e13, by rw [e14]; congr 1; omega, e52, e53, e54, ?_⟩
          rw [hrow]
          exact H4
      · have hk3 : k = 3 := by omega
        subst hk3
        refine LoopK_x (BlkK_e (BlkK_n (SeqK_n ?_)))
        refine W_ops [2, 3, 52, 53, 54] ?_
        simp only [o30_26, WO_bin, WO_move, bin_add, WO_nil, PureK_some, geT_put, evO_tmp, evO_const, keep_nil, keep_cons, keepK_eq, Nat.reduceEqDiff, ↓reduceIte, eq_self, e2, e3, e52, e53, e54, wrap_i64 (n := (j : Int) + 1) (by omega) (by omega)]
        clear e2 e3 e13 e14 e52 e53 e54 e59
        intro fr e2 e3 e52 e53 e54
        refine LoopK_n (m' := m - 1) (by omega) ⟨j + 1, by omega, e2, e3, e52, e53, by rw [e54]; rfl, ?_⟩
        rw [List.take_add_one, List.getElem?_eq_getElem hj1, List.flatMap_append, hbd]
        simpa using H4
    · have hjl : j = (bins3 b B).length := by omega
      rw [hjl, List.take_length] at H4
      exact LoopK_x (BlkK_e (Ret0n ⟨_, _, H4⟩))

end Go.Proofs.Ytpphomoijlilfaa

/- Peaks: where a map is highest. -/
namespace Go.Proofs.Ytpphomoijlilfaa
open Go Go.Vam

def vAt (rows : List (List Nat)) (b g : Nat) : Nat := ((rows[b]?.getD [])[g]?).getD 0
/-- Is a number above another one, or the same and ahead? -/
def overB (q p : Nat) (c : Nat × Int) (b g : Nat) : Bool := (ford .f64 q p == some .gt) || ((ford .f64 q p == some .eq) && (decide (c.1 < b) || (decide (c.1 = b) && decide (c.2 < (g : Int)))))
def beatB (rows : List (List Nat)) (G p b g : Nat) (c : Nat × Int) : Bool := decide (0 ≤ c.2) && (decide (c.2 < (G : Int)) && overB (vAt rows c.1 c.2.toNat) p c b g)
def ptr (B : Nat) : Value := .pointer (some ⟨B, 0, none⟩)
def envE (Bg Bm Bp Bb Ba : Nat) (G : Nat) (mv : Value) (p b g : Nat) : List HP := [HP.cell Bg [.int .i64 (G : Nat)], HP.cell Bm [mv], HP.cell Bp [.float .f64 p], HP.cell Bb [.int .i64 (b : Nat)], HP.cell Ba [.int .i64 (g : Nat)]]


set_option maxHeartbeats 1000000 in
theorem run31 {X : Ctx} (hX : X.fns = fnsOf Try.prog) (ho : ∀ f args, f ≠ 15 → X.orc f args = none) {s0 s : Mm} {l : List HP} {Bg Bm Bp Bb Ba Bt G p b g : Nat} {mv : Value} {t : Bool} {c : Nat × Int} {rows : List (List Nat)} (hT : TabE s0 1 eF mv rows) (hG : ∀ r ∈ rows, G ≤ r.length) (hc : c.1 < rows.length)
    (H : Hold s0 s (HP.cell Bt [.bool t] :: (envE Bg Bm Bp Bb Ba G mv p b g ++ l))) :
    CallP X 31 ([cellV c] ++ #[ptr Bg, ptr Bm, ptr Bp, ptr Bb, ptr Ba, ptr Bt].toList) s (fun _ s' => Hold s0 s' (HP.cell Bt [.bool (t && !beatB rows G p b g c)] :: (envE Bg Bm Bp Bb Ba G mv p b g ++ l))) := by
  have hbx : (cellV c).cells.toList = [.int .i64 (c.1 : Nat), .int .i64 c.2] := rfl
  have hlist : [cellV c] ++ #[ptr Bg, ptr Bm, ptr Bp, ptr Bb, ptr Ba, ptr Bt].toList = [cellV c, ptr Bg, ptr Bm, ptr Bp, ptr Bb, ptr Ba, ptr Bt] := rfl
  rw [hlist]
  refine CallP_of (hX ▸ ir31_eq) (ho _ _ (by decide)) (Nat.le_of_ble_eq_true rfl) ?_
  refine W_seq (W_ops [1, 2, 3, 4, 5, 6, 7] ?_)
  simp only [o31_0, WO_box, WO_nil, geT_put, frame_nil, frame_cons, evO_tmp, keep_nil, keep_cons, keepK_eq, Nat.reduceEqDiff, Nat.reduceAdd, ↓reduceIte, eq_self, Nat.zero_add, hbx]
  intro fr e1 e2 e3 e4 e5 e6 e7
  refine SeqK_n ?_
  have H1 := H.new [.int .i64 (c.1 : Nat), .int .i64 c.2]
  generalize hnb : s.nxt = Bx at H1 e7
  have hns : newAt s (.cells [.int .i64 (c.1 : Nat), .int .i64 c.2] false) = newAt s (.cells [.int .i64 (c.1 : Nat), .int .i64 c.2] false) := rfl
  generalize newAt s (.cells [.int .i64 (c.1 : Nat), .int .i64 c.2] false) = s1 at H1 ⊢
  clear hns
  have l0 := load_g (o := 0) (H1.cell (List.mem_cons_self ..))
  have l1 := load_g (o := 1) (H1.cell (List.mem_cons_self ..))
  have lg := load_g (o := 0) (H1.cell (B := Bg) (cs := [.int .i64 (G : Nat)]) (by simp [envE]))
  have lm := load_g (o := 0) (H1.cell (B := Bm) (cs := [mv]) (by simp [envE]))
  have lp := load_g (o := 0) (H1.cell (B := Bp) (cs := [.float .f64 p]) (by simp [envE]))
  have lb := load_g (o := 0) (H1.cell (B := Bb) (cs := [.int .i64 (b : Nat)]) (by simp [envE]))
  have la := load_g (o := 0) (H1.cell (B := Ba) (cs := [.int .i64 (g : Nat)]) (by simp [envE]))
  simp only [List.getElem?_cons_zero, List.getElem?_cons_succ] at l0 l1 lg lm lp lb la
  simp only [ptr] at e1 e2 e3 e4 e5 e6
  refine W_assoc ?_
  by_cases c0 : c.2 < 0
  · have hbf : beatB rows G p b g c = false := by unfold beatB; rw [decide_eq_false (by omega)]; rfl
    refine W_seq (W_ops [2, 3, 4, 5, 6, 7, 17] ?_)
    simp only [o31_1, WO_bin, WO_fieldAddr, fieldAddr_p, WO_load, WO_move, WO_pick, pick_b, bin_lss, WO_nil, PureK_some, WO_guard, want_v, wantB_f, geT_put, evO_tmp, evO_const, keep_nil, keep_cons, keepK_eq, Nat.reduceEqDiff, ↓reduceIte, Bool.not_true, eq_self, Bool.false_eq_true, Nat.zero_add, e2, e3, e4, e5, e6, e7, l1, decide_eq_true c0]
    clear e1 e2 e3 e4 e5 e6 e7
    intro fr e2 e3 e4 e5 e6 e7 e17
    refine SeqK_n ?_
    refine W_seq (W_cond e17 (fun _ => ?_) (fun h => by cases h))
    refine W_ret (SeqK_r (Ret0 ?_))
    rw [hbf, Bool.not_false, Bool.and_true]
    exact H1.tail
  by_cases c1 : (G : Int) ≤ c.2
  · have hbf : beatB rows G p b g c = false := by unfold beatB; rw [decide_eq_false (by omega : ¬ c.2 < (G : Int))]; simp
    refine W_seq (W_ops [2, 3, 4, 5, 6, 7, 17] ?_)
    simp only [o31_1, WO_bin, WO_fieldAddr, fieldAddr_p, WO_load, WO_move, WO_pick, pick_b, bin_geq, bin_lss, WO_nil, PureK_some, WO_guard, want_v, wantB_f, geT_put, evO_tmp, evO_const, keep_nil, keep_cons, keepK_eq, Nat.reduceEqDiff, ↓reduceIte, Bool.not_false, eq_self, Bool.false_eq_true, Nat.zero_add, e1, e2, e3, e4, e5, e6, e7, l1, decide_eq_false c0, lg, decide_eq_true c1]
    clear e1 e2 e3 e4 e5 e6 e7
    intro fr e2 e3 e4 e5 e6 e7 e17
    refine SeqK_n ?_
    refine W_seq (W_cond e17 (fun _ => ?_) (fun h => by cases h))
    refine W_ret (SeqK_r (Ret0 ?_))
    rw [hbf, Bool.not_false, Bool.and_true]
    exact H1.tail
  refine W_seq (W_ops [2, 3, 4, 5, 6, 7, 17] ?_)
  simp only [o31_1, WO_bin, WO_fieldAddr, fieldAddr_p, WO_load, WO_move, WO_pick, pick_b, bin_geq, bin_lss, WO_nil, PureK_some, WO_guard, want_v, wantB_f, geT_put, evO_tmp, evO_const, keep_nil, keep_cons, keepK_eq, Nat.reduceEqDiff, ↓reduceIte, Bool.not_false, eq_self, Bool.false_eq_true, Nat.zero_add, e1, e2, e3, e4, e5, e6, e7, l1, decide_eq_false c0, lg, decide_eq_false c1]
  clear e1 e2 e3 e4 e5 e6 e7
  intro fr e2 e3 e4 e5 e6 e7 e17
  refine SeqK_n ?_
  refine W_seq (W_cond e17 (fun h => by cases h) (fun _ => W_skip (SeqK_n ?_)))
  obtain ⟨row, B1, A1, r1⟩ := (hT.same H1.same).row hc
  have hgl : c.2.toNat < rows[c.1].length := by have := hG rows[c.1] (by simp); omega
  have hq : vAt rows c.1 c.2.toNat = (rows[c.1])[c.2.toNat] := by
    unfold vAt
    rw [List.getElem?_eq_getElem hc, Option.getD_some, List.getElem?_eq_getElem hgl, Option.getD_some]
  have B2 := r1.addr (kk := .i64) (i := c.2) (k := c.2.toNat) (by omega) hgl
  rw [Nat.mul_one] at B2
  have A2 : loadV s1 none (elP row c.2.toNat) = some (.float .f64 (vAt rows c.1 c.2.toNat)) := by
    refine r1.load ?_
    rw [hq]
    have : rows[c.1].flatMap eF = rows[c.1].map (.float .f64) := flatMap_one (Value.float .f64) _
    rw [this]; simp [hgl]
  refine W_seq (W_draw0 [3, 4, 5, 6, 7, 8] rfl ?_)
  simp only [d31_2, WD_addrSl, WD_fieldAddr, fieldAddr_p, WD_load, WD_move, WD_nil, DPureK_some, DReadK_some, pastR_nil, joinAll_nil, setH_self, geT_put, evO_tmp, keep_nil, keep_cons, keepK_eq, Nat.reduceEqDiff, Nat.reduceAdd, ↓reduceIte, eq_self, true_and, Nat.zero_add, Nat.add_zero, e2, e3, e4, e5, e6, e7, lm, l0, B1, A1, l1, B2, A2]
  clear e2 e3 e4 e5 e6 e7 e17
  intro fr e3 e4 e5 e6 e7 e8
  refine SeqK_n ?_
  have hbe : beatB rows G p b g c = overB (vAt rows c.1 c.2.toNat) p c b g := by
    unfold beatB
    rw [decide_eq_true (by omega : 0 ≤ c.2), decide_eq_true (by omega : c.2 < (G : Int))]; rfl
  generalize vAt rows c.1 c.2.toNat = q at *
  have hd1 : decide (((c.1 : Nat) : Int) < (b : Nat)) = decide (c.1 < b) := decide_eq_decide.2 (by omega)
  have hd2 : decide (((c.1 : Nat) : Int) = (b : Nat)) = decide (c.1 = b) := decide_eq_decide.2 (by omega)
  refine W_seq (W_opsB [6, 52] (fun fr1 s6 => s1 = s6 ∧ geT fr1 6 = .pointer (some ⟨Bt, 0, none⟩) ∧ geT fr1 52 = .bool (overB q p c b g)) ?_ ?_)
  · intro R' hR'
    cases h1 : (ford .f64 q p == some .gt) with
    | true =>
      simp only [o31_3, WO_nil, WO_move, WO_pick, WO_bin, WO_fieldAddr, WO_load, WO_guard, PureK_some, geT_put, evO_tmp, evO_const, want_v, wantB_f, keep_nil, keep_cons, keepK_eq, Nat.reduceEqDiff, ↓reduceIte, pick_b, fieldAddr_p, binf_gtr, Bool.not_true, eq_self, Bool.false_eq_true, Nat.zero_add, Nat.add_zero, e3, e4, e5, e6, e7, e8, lp, h1]
      intro fr e6 e52
      exact hR' _ _ ⟨rfl, e6, by rw [e52, overB, h1]; rfl⟩
    | false =>
      cases h2 : (ford .f64 q p == some .eq) with
      | false =>
        simp only [o31_3, WO_nil, WO_move, WO_pick, WO_bin, WO_fieldAddr, WO_load, WO_guard, PureK_some, geT_put, evO_tmp, evO_const, want_v, wantB_t, wantB_f, keep_nil, keep_cons, keepK_eq, Nat.reduceEqDiff, ↓reduceIte, pick_b, fieldAddr_p, binf_eql, binf_gtr, Bool.not_false, eq_self, Bool.false_eq_true, Nat.zero_add, Nat.add_zero, e3, e4, e5, e6, e7, e8, lp, h1, h2]
        intro fr e6 e52
        exact hR' _ _ ⟨rfl, e6, by rw [e52, overB, h1, h2]; rfl⟩
      | true =>
        cases h3 : decide (c.1 < b) with
        | true =>
          simp only [o31_3, WO_nil, WO_move, WO_pick, WO_bin, WO_fieldAddr, WO_load, WO_guard, PureK_some, geT_put, evO_tmp, evO_const, want_v, wantB_t, wantB_f, keep_nil, keep_cons, keepK_eq, Nat.reduceEqDiff, ↓reduceIte, pick_b, fieldAddr_p, bin_lss, binf_eql, binf_gtr, Bool.not_true, Bool.not_false, eq_self, Bool.false_eq_true, Nat.zero_add, Nat.add_zero, e3, e4, e5, e6, e7, e8, lp, h1, h2, l0, lb, hd1, h3]
          intro fr e6 e52
          exact hR' _ _ ⟨rfl, e6, by rw [e52, overB, h1, h2, h3]; rfl⟩
        | false =>
          cases h4 : decide (c.1 = b) with
          | false =>
            simp only [o31_3, WO_nil, WO_move, WO_pick, WO_bin, WO_fieldAddr, WO_load, WO_guard, PureK_some, geT_put, evO_tmp, evO_const, want_v, wantB_t, wantB_f, keep_nil, keep_cons, keepK_eq, Nat.reduceEqDiff, ↓reduceIte, pick_b, fieldAddr_p, bin_eql, bin_lss, binf_eql, binf_gtr, Bool.not_false, eq_self, Bool.false_eq_true, Nat.add_zero, e3, e4, e6, e7, e8, lp, h1, h2, l0, lb, hd1, h3, hd2, h4]
            intro fr e6 e52
            exact hR' _ _ ⟨rfl, e6, by rw [e52, overB, h1, h2, h3, h4]; rfl⟩
          | true =>
            simp only [o31_3, WO_nil, WO_move, WO_pick, WO_bin, WO_fieldAddr, WO_load, WO_guard, PureK_some, geT_put, evO_tmp, evO_const, want_v, wantB_t, wantB_f, keep_nil, keep_cons, keepK_eq, Nat.reduceEqDiff, ↓reduceIte, pick_b, fieldAddr_p, bin_eql, bin_lss, binf_eql, binf_gtr, Bool.not_false, eq_self, Bool.false_eq_true, Nat.zero_add, Nat.add_zero, e3, e4, e5, e6, e7, e8, lp, h1, h2, l0, l1, lb, la, hd1, h3, hd2, h4]
            intro fr e6 e52
            exact hR' _ _ ⟨rfl, e6, by rw [e52, overB, h1, h2, h3, h4]; rfl⟩
  clear e3 e4 e5 e6 e7 e8 fr
  rintro fr _ ⟨rfl, e6, e52⟩
  cases hov : overB q p c b g with
  | false =>
    rw [hov] at e52
    refine SeqK_n (W_cond e52 (fun h => by cases h) (fun _ => W_skip (Ret0n ?_)))
    rw [hbe, hov, Bool.not_false, Bool.and_true]
    exact H1.tail
  | true =>
    rw [hov] at e52
    have st := store_g (o := 0) (x := .bool false) (H1.cell (B := Bt) (cs := [.bool t]) (by simp)) rfl (by simp)
    have H2 := (H1.up1.setc (cs' := [.bool false])).up1.tail
    refine SeqK_n (W_cond e52 (fun _ => ?_) (fun h => by cases h))
    refine W_ops [] ?_
    simp only [o31_4, WO_store, WO_nil, MemK_some, puT_none, evO_tmp, evO_const, keep_nil, keepK_eq, e6, st, List.set_cons_zero]
    clear e6 e52
    intro fr
    refine Ret0n ?_
    rw [hbe, hov, Bool.not_true, Bool.and_false]
    exact H2

end Go.Proofs.Ytpphomoijlilfaa

/- Peaks: Highest. -/
namespace Go.Proofs.Ytpphomoijlilfaa
open Go Go.Vam

abbrev Spot := Nat × Nat × Nat
def eSp (x : Spot) : List Value := [.int .i64 (x.1 : Nat), .int .i64 (x.2.1 : Nat), .float .f64 x.2.2]
def gatesUp (rows : List (List Nat)) (k : Nat) : Nat := (rows.take k).foldl (fun g r => min g r.length) 9223372036854775807
def gatesN (rows : List (List Nat)) : Nat := gatesUp rows rows.length
def topB (rows : List (List Nat)) (b g : Nat) : Bool := (ford .f64 (vAt rows b g) 0 == some .gt) && (nbrs b (g : Nat) rows.length).all fun c => !beatB rows (gatesN rows) (vAt rows b g) b g c
def highRow (rows : List (List Nat)) (b k : Nat) : List Spot := (List.range k).filterMap fun g => if topB rows b g = true then some (b, g, vAt rows b g) else none
def highUp (rows : List (List Nat)) (j : Nat) : List Spot := (List.range j).flatMap fun b => highRow rows b (gatesN rows)
def highF (rows : List (List Nat)) : List Spot := highUp rows rows.length

theorem gatesUp_succ {rows : List (List Nat)} {k : Nat} (h : k < rows.length) : gatesUp rows (k + 1) = min (gatesUp rows k) rows[k].length := by
  unfold gatesUp
  rw [List.take_add_one, List.getElem?_eq_getElem h, List.foldl_append]; rfl

theorem gates_fold (rows : List (List Nat)) : ∀ g0, (rows.foldl (fun g r => min g r.length) g0 ≤ g0) ∧ ∀ r ∈ rows, rows.foldl (fun g r => min g r.length) g0 ≤ r.length := by
  induction rows with
  | nil => intro g0; simp
  | cons r rows ih =>
    intro g0
    obtain ⟨h1, h2⟩ := ih (min g0 r.length)
    simp only [List.foldl_cons]
    refine ⟨by omega, fun r' hr => ?_⟩
    rcases List.mem_cons.1 hr with rfl | hr
    · omega
    · exact h2 r' hr

theorem gates_le {rows : List (List Nat)} : ∀ r ∈ rows, gatesN rows ≤ r.length := by
  unfold gatesN gatesUp
  rw [List.take_length]
  exact (gates_fold rows _).2

theorem highRow_succ {rows : List (List Nat)} {b k : Nat} : highRow rows b (k + 1) = highRow rows b k ++ (if topB rows b k = true then [(b, k, vAt rows b k)] else []) := by
  unfold highRow
  rw [List.range_succ, List.filterMap_append]
  congr 1
  by_cases h : topB rows b k = true <;> simp [h]

theorem highRow_len {rows : List (List Nat)} {b k : Nat} : (highRow rows b k).length ≤ k := by
  unfold highRow
  exact Nat.le_trans (List.length_filterMap_le _ _) (by simp)

theorem highUp_succ {rows : List (List Nat)} {j : Nat} : highUp rows (j + 1) = highUp rows j ++ highRow rows j (gatesN rows) := by
  unfold highUp
  rw [List.range_succ, List.flatMap_append]; simp

theorem highUp_len {rows : List (List Nat)} : ∀ {j : Nat}, (highUp rows j).length ≤ j * gatesN rows := by
  intro j
  induction j with
  | zero => simp [highUp]
  | succ j ih =>
    rw [highUp_succ, List.length_append, Nat.add_mul, Nat.one_mul]
    have := highRow_len (rows := rows) (b := j) (k := gatesN rows)
    omega


set_option maxHeartbeats 4000000 in
theorem run11 {X : Ctx} (hX : X.fns = fnsOf Try.prog) (ho : ∀ f args, f ≠ 15 → X.orc f args = none) {s0 s : Mm} {l : List HP} {mv : Value} {rows : List (List Nat)} (H : Hold s0 s l) (hT : TabE s0 1 eF mv rows) (hmo : oneCell mv = true) (hl : rows.length ≤ 1048576) (hn : ∀ r ∈ rows, r.length ≤ 1048576) :
    CallP X 11 [mv] s (fun r s' => oneCell r = true ∧ Hold s0 s' (HP.own 3 r (highF rows).length ((highF rows).flatMap eSp) :: l)) := by
  refine CallP_of (hX ▸ ir11_eq) (ho _ _ (by decide)) (Nat.le_of_ble_eq_true rfl) ?_
  have hbx : mv.cells.toList = [mv] := by rw [cells_one hmo]
  refine W_seq (W_ops [1] ?_)
  simp only [o11_0, WO_box, WO_move, WO_nil, geT_put, frame_nil, frame_cons, evO_tmp, evO_const, keep_nil, keep_cons, keepK_eq, Nat.reduceEqDiff, ↓reduceIte, eq_self, Nat.zero_add, hbx]
  intro fr e1
  refine SeqK_n ?_
  have H1 := H.new [mv]
  obtain ⟨Bm, hBm⟩ : ∃ Bm, Bm = s.nxt := ⟨_, rfl⟩
  generalize newAt s (.cells [mv] false) = s1 at H1 ⊢
  rw [← hBm] at H1 e1
  have H2 := H1.new [.int .i64 0]
  have st := store_g (o := 0) (x := .int .i64 9223372036854775807) (H2.cell (List.mem_cons_self ..)) rfl (by simp)
  have H3 := H2.setc (cs' := [.int .i64 9223372036854775807])
  refine W_seq (W_ops [1, 3] ?_)
  simp only [o11_1, WO_alloc, WO_store, WO_nil, MemK_some, geT_put, puT_none, evO_tmp, evO_const, keep_nil, keep_cons, keepK_eq, Nat.reduceEqDiff, ↓reduceIte, eq_self, e1, st, List.set_cons_zero]
  clear e1
  intro fr e1 e3
  refine SeqK_n ?_
  clear H2 st
  generalize setBlk (newAt s1 (.cells [.int .i64 0] false)) s1.nxt (.cells [.int .i64 9223372036854775807] false) = s2 at H3 ⊢
  obtain ⟨Bg, hBg⟩ : ∃ Bg, Bg = s1.nxt := ⟨_, rfl⟩
  rw [← hBg] at H3 e3
  have lm := load_g (o := 0) (H3.cell (B := Bm) (cs := [mv]) (by simp))
  simp only [List.getElem?_cons_zero] at lm
  have hT3 := hT.same H3.same
  refine W_assoc ?_
  refine W_seq (W_ops [1, 3, 12, 13, 14] ?_)
  simp only [o11_2, WO_bu, WO_load, WO_move, WO_nil, PureK_some, geT_put, evO_tmp, evO_const, keep_nil, keep_cons, keepK_eq, List.map_cons, List.map_nil, Nat.reduceEqDiff, ↓reduceIte, eq_self, e1, e3, lm, hT3.len]
  clear e1 e3
  intro fr e1 e3 e12 e13 e14
  refine SeqK_n ?_
  refine W_seq (W_block (W_loop (fun m fr s3 => ∃ k, k + m = rows.length ∧ geT fr 1 = .pointer (some ⟨Bm, 0, none⟩) ∧ geT fr 3 = .pointer (some ⟨Bg, 0, none⟩) ∧ geT fr 12 = mv ∧ geT fr 13 = .int .i64 (rows.length : Nat) ∧ geT fr 14 = .int .i64 (k : Nat) ∧
    Hold s0 s3 (HP.cell Bg [.int .i64 (gatesUp rows k : Nat)] :: HP.cell Bm [mv] :: l)) rows.length ⟨0, by omega, e1, e3, e12, e13, e14, H3⟩ ?_))
  clear e1 e3 e12 e13 e14 fr H3 lm hT3 s2 H1
  rintro m fr s3 ⟨k, hk, e1, e3, e12, e13, e14, H3⟩
  refine W_seq (W_ops [1, 3, 12, 13, 14, 15] ?_)
  simp only [o11_4, WO_bin, bin_lss, WO_nil, PureK_some, geT_put, evO_tmp, keep_nil, keep_cons, keepK_eq, Nat.reduceEqDiff, ↓reduceIte, eq_self, e1, e3, e12, e13, e14]
  clear e1 e3 e12 e13 e14
  intro fr e1 e3 e12 e13 e14 e15
  refine SeqK_n ?_
  refine W_while e15 (fun hlt => ?_) (fun hlt => ?_)
  · have hk1 : k < rows.length := by omega
    obtain ⟨c, B1, A1, r1⟩ := (hT.same H3.same).row hk1
    have lg := load_g (o := 0) (H3.cell (List.mem_cons_self ..))
    simp only [List.getElem?_cons_zero] at lg
    have hmin : (if ((rows[k].length : Nat) : Int) < ((gatesUp rows k : Nat) : Int) then ((rows[k].length : Nat) : Int) else ((gatesUp rows k : Nat) : Int)) = ((gatesUp rows (k + 1) : Nat) : Int) := by
      rw [gatesUp_succ hk1]; split <;> omega
    have st := store_g (o := 0) (x := .int .i64 (gatesUp rows (k + 1) : Nat)) (H3.cell (List.mem_cons_self ..)) rfl (by simp)
    have H4 := H3.setc (cs' := [.int .i64 (gatesUp rows (k + 1) : Nat)])
    refine W_seq (W_block ?_)
    refine W_seq (W_ops [1, 3, 5, 12, 13, 14] ?_)
    simp only [o11_5, WO_addrSl, WO_load, WO_move, WO_nil, PureK_some, geT_put, evO_tmp, keep_nil, keep_cons, keepK_eq, Nat.reduceEqDiff, ↓reduceIte, eq_self, e1, e3, e12, e13, e14, B1, A1]
    clear e1 e3 e12 e13 e14 e15
    intro fr e1 e3 e5 e12 e13 e14
    refine SeqK_n ?_
    refine W_ops [1, 3, 12, 13, 14] ?_
    simp only [o11_6, WO_bu, bu_min, WO_load, WO_move, WO_store, WO_nil, PureK_some, MemK_some, geT_put, puT_none, evO_tmp, keep_nil, keep_cons, keepK_eq, List.map_cons, List.map_nil, Nat.reduceEqDiff, ↓reduceIte, eq_self, e1, e3, e5, e12, e13, e14, lg, r1.len, hmin, st, List.set_cons_zero]
    clear e1 e3 e5 e12 e13 e14
    intro fr e1 e3 e12 e13 e14
    refine BlkK_n (SeqK_n ?_)
    refine W_ops [1, 3, 12, 13, 14] ?_
    simp only [o11_7, WO_bin, WO_move, bin_add, WO_nil, PureK_some, geT_put, evO_tmp, evO_const, keep_nil, keep_cons, keepK_eq, Nat.reduceEqDiff, ↓reduceIte, eq_self, e1, e3, e12, e13, e14, wrap_i64 (n := (k : Int) + 1) (by omega) (by omega)]
    clear e1 e3 e12 e13 e14
    intro fr e1 e3 e12 e13 e14
    exact LoopK_n (m' := m - 1) (by omega) ⟨k + 1, by omega, e1, e3, e12, e13, by rw [e14]; rfl, H4⟩
  · have hkk : k = rows.length := by omega
    subst hkk
    have H4 : Hold s0 s3 (HP.cell Bg [.int .i64 (gatesN rows : Nat)] :: HP.cell Bm [mv] :: l) := H3
    clear H3
    refine LoopK_x (BlkK_e (SeqK_n ?_))
    refine W_seq (W_ops [1, 3, 6] ?_)
    simp only [o11_8, WO_move, WO_nil, geT_put, evO_const, keep_nil, keep_cons, keepK_eq, Nat.reduceEqDiff, ↓reduceIte, eq_self, e1, e3]
    clear e1 e3 e12 e13 e14 e15
    intro fr e1 e3 e6
    refine SeqK_n ?_
    have lm := load_g (o := 0) (H4.cell (B := Bm) (cs := [mv]) (by simp))
    simp only [List.getElem?_cons_zero] at lm
    refine W_assoc ?_
    refine W_seq (W_ops [1, 3, 6, 23, 24, 25] ?_)
    simp only [o11_9, WO_bu, WO_load, WO_move, WO_nil, PureK_some, geT_put, evO_tmp, evO_const, keep_nil, keep_cons, keepK_eq, List.map_cons, List.map_nil, Nat.reduceEqDiff, ↓reduceIte, eq_self, e1, e3, e6, lm, (hT.same H4.same).len]
    clear e1 e3 e6
    intro fr e1 e3 e6 e23 e24 e25
    refine SeqK_n ?_
    refine W_seq (W_block (W_loop (fun m fr s5 => ∃ j ov, j + m = rows.length ∧ geT fr 1 = .pointer (some ⟨Bm, 0, none⟩) ∧ geT fr 3 = .pointer (some ⟨Bg, 0, none⟩) ∧ geT fr 6 = ov ∧ geT fr 23 = mv ∧ geT fr 24 = .int .i64 (rows.length : Nat) ∧ geT fr 25 = .int .i64 (j : Nat) ∧
      Hold s0 s5 (HP.own 3 ov (highUp rows j).length ((highUp rows j).flatMap eSp) :: HP.cell Bg [.int .i64 (gatesN rows : Nat)] :: HP.cell Bm [mv] :: l)) rows.length ⟨0, _, by omega, e1, e3, e6, e23, e24, e25, by simpa [highUp] using H4.nil 3⟩ ?_))
    clear e1 e3 e6 e23 e24 e25 fr H4 lm s3
    rintro m fr s3 ⟨j, ov, hj, e1, e3, e6, e23, e24, e25, H4⟩
    refine W_seq (W_ops [1, 3, 6, 23, 24, 25, 26] ?_)
    simp only [o11_11, WO_bin, bin_lss, WO_nil, PureK_some, geT_put, evO_tmp, keep_nil, keep_cons, keepK_eq, Nat.reduceEqDiff, ↓reduceIte, eq_self, e1, e3, e6, e23, e24, e25]
    clear e1 e3 e6 e23 e24 e25
    intro fr e1 e3 e6 e23 e24 e25 e26
    refine SeqK_n ?_
    refine W_while e26 (fun hlt => ?_) (fun hlt => ?_)
    · have hj1 : j < rows.length := by omega
      have hGj := gates_le (rows := rows) rows[j] (List.getElem_mem hj1)
      have hnj := hn rows[j] (List.getElem_mem hj1)
      obtain ⟨c, B1, hc⟩ := hT.rowS hj1
      obtain ⟨A1, r1⟩ := hc _ H4.same
      have H5 := H4.new [.int .i64 0]
      have st := store_g (o := 0) (x := .int .i64 (j : Nat)) (H5.cell (List.mem_cons_self ..)) rfl (by simp)
      have H6 := H5.setc (cs' := [.int .i64 (j : Nat)])
      refine W_seq (W_block ?_)
      refine W_seq (W_ops [1, 3, 6, 7, 8, 23, 24, 25] ?_)
      simp only [o11_12, WO_addrSl, WO_alloc, WO_load, WO_move, WO_store, WO_nil, PureK_some, MemK_some, geT_put, puT_none, evO_tmp, keep_nil, keep_cons, keepK_eq, Nat.reduceEqDiff, ↓reduceIte, eq_self, e1, e3, e6, e23, e24, e25, B1, A1, st, List.set_cons_zero]
      clear e1 e3 e6 e23 e24 e25 e26
      intro fr e1 e3 e6 e7 e8 e23 e24 e25
      refine SeqK_n ?_
      clear H5 st
      generalize setBlk (newAt s3 (.cells [.int .i64 0] false)) s3.nxt (.cells [.int .i64 (j : Nat)] false) = s4 at H6 ⊢
      obtain ⟨Bb, hBb⟩ : ∃ Bb, Bb = s3.nxt := ⟨_, rfl⟩
      rw [← hBb] at H6 e7
      have lg := load_g (o := 0) (H6.cell (B := Bg) (cs := [.int .i64 (gatesN rows : Nat)]) (by simp))
      simp only [List.getElem?_cons_zero] at lg
      have r1' := (hc _ H6.same).2
      have hsl := r1'.sl0 (k2 := .i64) (j := ((gatesN rows : Nat) : Int)) rfl hGj
      have r2 := r1'.sub (Nat.zero_le _) hGj
      have rR : ∀ s', Same s0 s' (fun _ => False) → ∀ k (hk : k < gatesN rows), loadV s' none (elP (subS 1 c 0 (gatesN rows)) k) = some (.float .f64 (vAt rows j k)) := fun s' hs k hk => by
        refine ((hc _ hs).2.sub (Nat.zero_le _) hGj).load ?_
        have hf : rows[j].flatMap eF = rows[j].map (.float .f64) := flatMap_one (Value.float .f64) _
        have hv : vAt rows j k = (rows[j])[k]'(by omega) := by
          unfold vAt
          rw [List.getElem?_eq_getElem hj1, Option.getD_some, List.getElem?_eq_getElem (by omega), Option.getD_some]
        rw [hf, Nat.zero_mul, List.drop_zero, Nat.mul_one, Nat.sub_zero, List.getElem?_take, if_pos hk, List.getElem?_map, List.getElem?_eq_getElem (by omega), hv]; rfl
      have rA : ∀ k : Nat, k < gatesN rows → addrSlV 1 (subS 1 c 0 (gatesN rows)) (.int .i64 (k : Nat)) = some (elP (subS 1 c 0 (gatesN rows)) k) := fun k hk => by
        have := r2.addr (kk := .i64) (i := (k : Int)) rfl (by omega : k < gatesN rows - 0)
        rwa [Nat.mul_one] at this
      refine W_seq (W_ops [1, 3, 6, 7, 23, 24, 25, 32, 33, 34] ?_)
      simp only [o11_13, WO_bu, WO_load, WO_move, WO_slSl, WO_nil, PureK_some, geT_put, evO_tmp, evO_const, keep_nil, keep_cons, keepK_eq, List.map_cons, List.map_nil, Option.map_some, Option.map_none, Nat.reduceEqDiff, ↓reduceIte, eq_self, e1, e3, e6, e7, e8, e23, e24, e25, lg, hsl, r2.len]
      clear e1 e3 e6 e7 e8 e23 e24 e25
      intro fr e1 e3 e6 e7 e23 e24 e25 e32 e33 e34
      refine SeqK_n ?_
      generalize subS 1 c 0 (gatesN rows) = rw0 at r2 e32 rR rA
      refine W_block (W_loop (fun m2 fr s5 => ∃ k ov, k + m2 = gatesN rows ∧ geT fr 1 = .pointer (some ⟨Bm, 0, none⟩) ∧ geT fr 3 = .pointer (some ⟨Bg, 0, none⟩) ∧ geT fr 6 = ov ∧ geT fr 7 = .pointer (some ⟨Bb, 0, none⟩) ∧ geT fr 23 = mv ∧ geT fr 24 = .int .i64 (rows.length : Nat) ∧ geT fr 25 = .int .i64 (j : Nat) ∧ geT fr 32 = rw0 ∧ geT fr 33 = .int .i64 (gatesN rows : Nat) ∧ geT fr 34 = .int .i64 (k : Nat) ∧
        Hold s0 s5 (HP.own 3 ov (highUp rows j ++ highRow rows j k).length ((highUp rows j ++ highRow rows j k).flatMap eSp) :: HP.cell Bb [.int .i64 (j : Nat)] :: HP.cell Bg [.int .i64 (gatesN rows : Nat)] :: HP.cell Bm [mv] :: l)) (gatesN rows)
        ⟨0, ov, by omega, e1, e3, e6, e7, e23, e24, e25, e32, by simpa using e33, e34, by simpa [highRow] using H6.up1⟩ ?_)
      clear e1 e3 e6 e7 e23 e24 e25 e32 e33 e34 fr H6 lg hsl r1' r2 s4
      rintro m2 fr s5 ⟨k, ov, hk, e1, e3, e6, e7, e23, e24, e25, e32, e33, e34, H7⟩
      refine W_seq (W_ops [1, 3, 6, 7, 23, 24, 25, 32, 33, 34, 35] ?_)
      simp only [o11_15, WO_bin, bin_lss, WO_nil, PureK_some, geT_put, evO_tmp, keep_nil, keep_cons, keepK_eq, Nat.reduceEqDiff, ↓reduceIte, eq_self, e1, e3, e6, e7, e23, e24, e25, e32, e33, e34]
      clear e1 e3 e6 e7 e23 e24 e25 e32 e33 e34
      intro fr e1 e3 e6 e7 e23 e24 e25 e32 e33 e34 e35
      refine SeqK_n ?_
      refine W_while e35 (fun hlt2 => ?_) (fun hlt2 => ?_)
      · have hk1 : k < gatesN rows := by omega
        have hlen := highUp_len (rows := rows) (j := j)
        have hlen2 := highRow_len (rows := rows) (b := j) (k := k)
        have hGm : j * gatesN rows ≤ 1048576 * 1048576 := Nat.mul_le_mul (by omega) (by omega)
        obtain ⟨p, hp⟩ : ∃ p, p = vAt rows j k := ⟨_, rfl⟩
        have A2 := rR s5 H7.same k hk1
        rw [← hp] at A2
        have H8 := (H7.new [.int .i64 0]).new [.float .f64 0]
        have hx : (newAt s5 (.cells [.int .i64 0] false)).nxt = s5.nxt + 1 := rfl
        rw [hx] at H8
        have st1 := store_g (o := 0) (x := .int .i64 (k : Nat)) (H8.cell (B := s5.nxt) (cs := [.int .i64 0]) (by simp)) rfl (by simp)
        have H9 := H8.up1.setc (cs' := [.int .i64 (k : Nat)])
        have st2 := store_g (o := 0) (x := .float .f64 p) (H9.cell (B := s5.nxt + 1) (cs := [.float .f64 0]) (by simp)) rfl (by simp)
        have H10 := H9.up1.setc (cs' := [.float .f64 p])
        simp only [List.set_cons_zero] at st1 st2
        refine W_seq (W_block ?_)
        refine W_seq (W_ops [1, 3, 6, 7, 9, 10, 23, 24, 25, 32, 33, 34] ?_)
        simp only [o11_16, WO_addrSl, WO_alloc, nxt_new, WO_load, WO_move, WO_store, WO_nil, PureK_some, MemK_some, geT_put, puT_none, evO_tmp, keep_nil, keep_cons, keepK_eq, Nat.reduceEqDiff, ↓reduceIte, eq_self, e1, e3, e6, e7, e23, e24, e25, e32, e33, e34, rA k hk1, A2, st1, st2]
        clear e1 e3 e6 e7 e23 e24 e25 e32 e33 e34 e35
        intro fr e1 e3 e6 e7 e9 e10 e23 e24 e25 e32 e33 e34
        refine SeqK_n ?_
        clear H8 H9 st1 st2 hx
        generalize setBlk (setBlk (newAt (newAt s5 (.cells [.int .i64 0] false)) (.cells [.float .f64 0] false)) s5.nxt (.cells [.int .i64 (k : Nat)] false)) (s5.nxt + 1) (.cells [.float .f64 p] false) = s6 at H10 ⊢
        generalize s5.nxt = Ba at H10 e9 e10
        generalize Ba + 1 = Bp at H10 e10
        have lp := load_g (o := 0) (H10.cell (List.mem_cons_self ..))
        simp only [List.getElem?_cons_zero] at lp
        have H11 := H10.new [.bool false]
        have st3 := store_g (o := 0) (x := .bool (ford .f64 p 0 == some .gt)) (H11.cell (List.mem_cons_self ..)) rfl (by simp)
        simp only [List.set_cons_zero] at st3
        have H12 := H11.setc (cs' := [.bool (ford .f64 p 0 == some .gt)])
        refine W_seq (W_ops [1, 3, 6, 7, 9, 10, 11, 23, 24, 25, 32, 33, 34] ?_)
        simp only [o11_17, WO_alloc, WO_bin, WO_load, WO_store, binf_gtr, WO_nil, PureK_some, MemK_some, geT_put, puT_none, evO_tmp, evO_const, keep_nil, keep_cons, keepK_eq, Nat.reduceEqDiff, ↓reduceIte, eq_self, e1, e3, e6, e7, e9, e10, e23, e24, e25, e32, e33, e34, lp, st3]
        clear e1 e3 e6 e7 e9 e10 e23 e24 e25 e32 e33 e34
        intro fr e1 e3 e6 e7 e9 e10 e11 e23 e24 e25 e32 e33 e34
        refine SeqK_n ?_
        clear H11 st3 lp
        generalize setBlk (newAt s6 (.cells [.bool false] false)) s6.nxt (.cells [.bool (ford .f64 p 0 == some .gt)] false) = s7 at H12 ⊢
        generalize s6.nxt = Bt at H12 e11
        clear H10 s6
        -- top, p, gate, out, bin, gates, map
        have H13 := H12.up3.up3.up4.up4.up6.up6.up6
        have lb := load_g (o := 0) (H13.cell (B := Bb) (cs := [.int .i64 (j : Nat)]) (by simp))
        have la := load_g (o := 0) (H13.cell (B := Ba) (cs := [.int .i64 (k : Nat)]) (by simp))
        have lm := load_g (o := 0) (H13.cell (B := Bm) (cs := [mv]) (by simp))
        simp only [List.getElem?_cons_zero] at lb la lm
        have hbu : buildV [.int .i64 0, .int .i64 0] [(0, 1, .int .i64 (j : Nat)), (1, 1, .int .i64 (k : Nat))] = some (cellV (j, ((k : Nat) : Int))) := rfl
        obtain ⟨t0, ht0⟩ : ∃ t0, t0 = (ford .f64 p 0 == some .gt) := ⟨_, rfl⟩
        rw [← ht0] at H13
        have H14 : Hold s0 s7 ((fun pre : List (Nat × Int) => HP.cell Bt [.bool (t0 && pre.all fun c => !beatB rows (gatesN rows) p j k c)]) [] :: (envE Bg Bm Bp Bb Ba (gatesN rows) mv p j k ++ (HP.own 3 ov (highUp rows j ++ highRow rows j k).length ((highUp rows j ++ highRow rows j k).flatMap eSp) :: l))) := by
          simpa [envE] using H13
        refine W_seq (W_ops [1, 3, 6, 7, 9, 10, 11, 23, 24, 25, 32, 33, 34] ?_)
        simp only [o11_18, WO_bu, WO_build, WO_call, WO_load, WO_mkFunc, PureK_some, geT_put, evO_tmp, List.map_cons, List.map_nil, Nat.reduceEqDiff, ↓reduceIte, eq_self, e1, e3, e7, e9, e10, e11, lb, la, lm, (hT.same H13.same).len, hbu]
        refine CallK_of (run30 hX ho (gf := 31) (P := fun pre : List (Nat × Int) => HP.cell Bt [.bool (t0 && pre.all fun c => !beatB rows (gatesN rows) p j k c)]) hj1 (by omega) (by omega) (by omega) H14 (fun pre c s' l' hc h => ?_)) ?_
        · refine (run31 hX ho hT (fun r hr => gates_le r hr) hc h).mono ?_
          intro _ s'' h'
          have e : (t0 && (pre ++ [c]).all fun c => !beatB rows (gatesN rows) p j k c) = ((t0 && pre.all fun c => !beatB rows (gatesN rows) p j k c) && !beatB rows (gatesN rows) p j k c) := by
            rw [List.all_append, Bool.and_assoc]; simp
          rw [e]
          exact h'
        rintro _ s8 ⟨x, y, H15⟩
        simp only [WO_nil, geT_put, keep_nil, keep_cons, keepK_eq, Nat.reduceEqDiff, ↓reduceIte, e1, e3, e6, e7, e9, e10, e11, e23, e24, e25, e32, e33, e34]
        clear e1 e3 e6 e7 e9 e10 e11 e23 e24 e25 e32 e33 e34
        intro fr e1 e3 e6 e7 e9 e10 e11 e23 e24 e25 e32 e33 e34
        refine SeqK_n ?_
        have htop : (t0 && (nbrs j ((k : Nat) : Int) rows.length).all fun c => !beatB rows (gatesN rows) p j k c) = topB rows j k := by rw [ht0, hp]; rfl
        rw [htop] at H15
        have lt := load_g (o := 0) (H15.cell (List.mem_cons_self ..))
        have lb := load_g (o := 0) (H15.cell (B := Bb) (cs := [.int .i64 (j : Nat)]) (by simp [envE]))
        have la := load_g (o := 0) (H15.cell (B := Ba) (cs := [.int .i64 (k : Nat)]) (by simp [envE]))
        have lp := load_g (o := 0) (H15.cell (B := Bp) (cs := [.float .f64 p]) (by simp [envE]))
        simp only [List.getElem?_cons_zero] at lt lb la lp
        -- top, gates, map, p, bin, gate, x, y, out
        have H16 : Hold s0 s8 (HP.own 3 ov (highUp rows j ++ highRow rows j k).length ((highUp rows j ++ highRow rows j k).flatMap eSp) :: HP.cell Bb [.int .i64 (j : Nat)] :: HP.cell Bg [.int .i64 (gatesN rows : Nat)] :: HP.cell Bm [mv] :: l) := by
          have h := Hold.up8 (Hold.up4 (Hold.up2 (Hold.up2 (show Hold s0 s8 (HP.cell Bt [.bool (topB rows j k)] :: HP.cell Bg [.int .i64 (gatesN rows : Nat)] :: HP.cell Bm [mv] :: HP.cell Bp [.float .f64 p] :: HP.cell Bb [.int .i64 (j : Nat)] :: HP.cell Ba [.int .i64 (k : Nat)] :: x :: y :: HP.own 3 ov (highUp rows j ++ highRow rows j k).length ((highUp rows j ++ highRow rows j k).flatMap eSp) :: l) from H15))))
          exact h.sub (.cons_cons _ (.cons_cons _ (.cons_cons _ (.cons_cons _ (.cons _ (.cons _ (.cons _ (.cons _ (.cons _ (List.Sublist.refl _))))))))))
        have hrs := highRow_succ (rows := rows) (b := j) (k := k)
        refine W_seq (W_ops [1, 3, 6, 7, 9, 10, 23, 24, 25, 32, 33, 34, 48] ?_)
        simp only [o11_19, WO_load, WO_nil, PureK_some, geT_put, evO_tmp, keep_nil, keep_cons, keepK_eq, Nat.reduceEqDiff, ↓reduceIte, eq_self, e1, e3, e6, e7, e9, e10, e11, e23, e24, e25, e32, e33, e34, lt]
        clear e1 e3 e6 e7 e9 e10 e11 e23 e24 e25 e32 e33 e34
        intro fr e1 e3 e6 e7 e9 e10 e23 e24 e25 e32 e33 e34 e48
        refine SeqK_n ?_
        cases htb : topB rows j k with
        | true =>
          rw [htb] at e48
          rw [if_pos htb] at hrs
          refine W_cond e48 (fun _ => ?_) (fun h => by cases h)
          have hbu2 : buildV [.int .i64 0, .int .i64 0, .float .f64 0] [(0, 1, .int .i64 (j : Nat)), (1, 1, .int .i64 (k : Nat)), (2, 1, .float .f64 p)] = some (.agg #[.int .i64 (j : Nat), .int .i64 (k : Nat), .float .f64 p]) := rfl
          have hbs : buildSlV s8 3 [.int .i64 0, .int .i64 0, .float .f64 0] 1 [(0, 3, .agg #[.int .i64 (j : Nat), .int .i64 (k : Nat), .float .f64 p])] = some (.slice (some ⟨s8.nxt, 0, none⟩) 1 1, .cells [.int .i64 (j : Nat), .int .i64 (k : Nat), .float .f64 p] false) := rfl
          obtain ⟨ov', s9, ap, H17⟩ := H16.push (bytes := 24) (new := eSp (j, k, p)) rfl rfl (by omega) (by decide) (by omega) (by omega) (by rw [List.length_append]; omega)
          have hnew : (highUp rows j ++ highRow rows j k).flatMap eSp ++ eSp (j, k, p) = (highUp rows j ++ highRow rows j (k + 1)).flatMap eSp := by
            rw [hrs, ← List.append_assoc, List.flatMap_append (xs := highUp rows j ++ highRow rows j k), hp]; simp
          have hnl : (highUp rows j ++ highRow rows j k).length + 1 = (highUp rows j ++ highRow rows j (k + 1)).length := by
            rw [hrs]; simp; omega
          rw [hnew, hnl] at H17
          simp only [eSp] at ap
          refine W_ops [1, 3, 6, 7, 23, 24, 25, 32, 33, 34] ?_
          simp only [o11_20, WO_append, WO_build, WO_buildSlice, WO_load, WO_move, WO_nil, PureK_some, MemK_some, NewK_some, geT_put, evO_tmp, keep_nil, keep_cons, keepK_eq, List.map_cons, List.map_nil, Nat.reduceEqDiff, ↓reduceIte, eq_self, Nat.zero_mul, e1, e3, e6, e7, e9, e10, e23, e24, e25, e32, e33, e34, lb, la, lp, hbu2, hbs, ap]
          clear e1 e3 e6 e7 e9 e10 e23 e24 e25 e32 e33 e34 e48
          intro fr e1 e3 e6 e7 e23 e24 e25 e32 e33 e34
          refine BlkK_n (SeqK_n ?_)
          refine W_ops [1, 3, 6, 7, 23, 24, 25, 32, 33, 34] ?_
          simp only [o11_21, WO_bin, WO_move, bin_add, WO_nil, PureK_some, geT_put, evO_tmp, evO_const, keep_nil, keep_cons, keepK_eq, Nat.reduceEqDiff, ↓reduceIte, eq_self, e1, e3, e6, e7, e23, e24, e25, e32, e33, e34, wrap_i64 (n := (k : Int) + 1) (by omega) (by omega)]
          clear e1 e3 e6 e7 e23 e24 e25 e32 e33 e34
          intro fr e1 e3 e6 e7 e23 e24 e25 e32 e33 e34
          exact LoopK_n (m' := m2 - 1) (by omega) ⟨k + 1, ov', by omega, e1, e3, e6, e7, e23, e24, e25, e32, e33, by rw [e34]; rfl, H17⟩
        | false =>
          rw [htb] at e48
          rw [if_neg (by rw [htb]; simp), List.append_nil] at hrs
          refine W_cond e48 (fun h => by cases h) (fun _ => W_skip (BlkK_n (SeqK_n ?_)))
          refine W_ops [1, 3, 6, 7, 23, 24, 25, 32, 33, 34] ?_
          simp only [o11_21, WO_bin, WO_move, bin_add, WO_nil, PureK_some, geT_put, evO_tmp, evO_const, keep_nil, keep_cons, keepK_eq, Nat.reduceEqDiff, ↓reduceIte, eq_self, e1, e3, e6, e7, e23, e24, e25, e32, e33, e34, wrap_i64 (n := (k : Int) + 1) (by omega) (by omega)]
          clear e1 e3 e6 e7 e9 e10 e23 e24 e25 e32 e33 e34 e48
          intro fr e1 e3 e6 e7 e23 e24 e25 e32 e33 e34
          exact LoopK_n (m' := m2 - 1) (by omega) ⟨k + 1, ov, by omega, e1, e3, e6, e7, e23, e24, e25, e32, e33, by rw [e34]; rfl, by rw [hrs]; exact H16⟩
      · have hkG : k = gatesN rows := by omega
        rw [hkG, ← highUp_succ] at H7
        refine LoopK_x (BlkK_e (BlkK_n (SeqK_n ?_)))
        refine W_ops [1, 3, 6, 23, 24, 25] ?_
        simp only [o11_22, WO_bin, WO_move, bin_add, WO_nil, PureK_some, geT_put, evO_tmp, evO_const, keep_nil, keep_cons, keepK_eq, Nat.reduceEqDiff, ↓reduceIte, eq_self, e1, e3, e6, e23, e24, e25, wrap_i64 (n := (j : Int) + 1) (by omega) (by omega)]
        clear e1 e3 e6 e7 e23 e24 e25 e32 e33 e34 e35
        intro fr e1 e3 e6 e23 e24 e25
        exact LoopK_n (m' := m - 1) (by omega) ⟨j + 1, ov, by omega, e1, e3, e6, e23, e24, by rw [e25]; rfl, H7.up1.tail⟩
    · have hjl : j = rows.length := by omega
      subst hjl
      refine LoopK_x (BlkK_e (SeqK_n ?_))
      refine W_seq (W_ops [2] ?_)
      simp only [o11_23, WO_move, WO_nil, geT_put, evO_tmp, keep_nil, keep_cons, keepK_eq, ↓reduceIte, eq_self, e6]
      clear e1 e3 e6 e23 e24 e25 e26
      intro fr e2
      refine SeqK_n ?_
      refine W_ret (Ret1 e2 ⟨(H4.own (List.mem_cons_self ..)).one, H4.sub ?_⟩)
      exact .cons_cons _ (.cons _ (.cons _ (List.Sublist.refl _)))

end Go.Proofs.Ytpphomoijlilfaa
