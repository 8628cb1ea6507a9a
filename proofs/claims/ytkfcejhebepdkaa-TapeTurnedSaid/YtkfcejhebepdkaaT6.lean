/- A frame's bytes. -/
import Derived.Test.YtkfcejhebepdkaaT5
namespace Go.Proofs.Ytkfcejhebepdkaa
open Go Go.Vam

def u16 (x : Int) : Nat := (x % 65536).toNat

/-- Two rows of small numbers, in turns, as bytes. -/
def encRow : List Int → List Int → List UInt8
  | a :: r, b :: i => beN (u16 a) 2 ++ (beN (u16 b) 2 ++ encRow r i)
  | _, _ => []
def encRows : List (List Int) → List (List Int) → List UInt8
  | a :: r, b :: i => encRow a b ++ encRows r i
  | _, _ => []

theorem encRow_app : ∀ (a b a' b' : List Int), a.length = b.length → encRow (a ++ a') (b ++ b') = encRow a b ++ encRow a' b' := by
  intro a
  induction a with
  | nil => intro b a' b' h; cases b with
    | nil => rfl
    | cons x b => simp at h
  | cons x a ih =>
    intro b a' b' h
    cases b with
    | nil => simp at h
    | cons y b => simp only [List.cons_append, encRow, ih b a' b' (by simpa using h), List.append_assoc]

theorem encRows_app : ∀ (a b a' b' : List (List Int)), a.length = b.length → encRows (a ++ a') (b ++ b') = encRows a b ++ encRows a' b' := by
  intro a
  induction a with
  | nil => intro b a' b' h; cases b with
    | nil => rfl
    | cons x b => simp at h
  | cons x a ih =>
    intro b a' b' h
    cases b with
    | nil => simp at h
    | cons y b => simp only [List.cons_append, encRows, ih b a' b' (by simpa using h), List.append_assoc]

theorem encRow_take {a b : List Int} (h : a.length = b.length) {k : Nat} (hk : k < a.length) : encRow (a.take (k + 1)) (b.take (k + 1)) = encRow (a.take k) (b.take k) ++ (beN (u16 a[k]) 2 ++ beN (u16 (b[k]'(by omega))) 2) := by
  rw [List.take_add_one, List.take_add_one, encRow_app _ _ _ _ (by simp [h]), List.getElem?_eq_getElem hk, List.getElem?_eq_getElem (by omega)]
  simp [encRow]

theorem encRows_take {a b : List (List Int)} (h : a.length = b.length) {k : Nat} (hk : k < a.length) : encRows (a.take (k + 1)) (b.take (k + 1)) = encRows (a.take k) (b.take k) ++ encRow a[k] (b[k]'(by omega)) := by
  rw [List.take_add_one, List.take_add_one, encRows_app _ _ _ _ (by simp [h]), List.getElem?_eq_getElem hk, List.getElem?_eq_getElem (by omega)]
  simp [encRows]

theorem encRow_length : ∀ (a b : List Int), a.length = b.length → (encRow a b).length = 4 * a.length := by
  intro a
  induction a with
  | nil => intro b h; rfl
  | cons x a ih =>
    intro b h
    cases b with
    | nil => simp at h
    | cons y b => simp only [encRow, List.length_append, beN_length, List.length_cons, ih b (by simpa using h)]; omega

theorem encRows_length {n : Nat} : ∀ (a b : List (List Int)), a.length = b.length → (∀ r ∈ a, r.length = n) → (∀ r ∈ b, r.length = n) → (encRows a b).length = 4 * (a.length * n) := by
  intro a
  induction a with
  | nil => intro b h _ _; simp [encRows]
  | cons x a ih =>
    intro b h h1 h2
    cases b with
    | nil => simp at h
    | cons y b =>
      have e1 := h1 x (by simp)
      have e2 := h2 y (by simp)
      simp only [encRows, List.length_append, List.length_cons, encRow_length x y (by omega), ih b (by simpa using h) (fun r hr => h1 r (by simp [hr])) (fun r hr => h2 r (by simp [hr])), e1, Nat.add_mul]; omega

def hdr : List UInt8 := [76, 75, 49]

/-- The bytes ahead of the numbers. -/
def encHead (T U R n : Nat) : List UInt8 := hdr ++ beN (20 + 4 * R * n) 4 ++ beN T 8 ++ beN U 8 ++ beN R 2 ++ beN n 2
def encBody (T U : Nat) (re im : List (List Int)) : List UInt8 := encHead T U re.length (colsN re) ++ encRows re im
def encF (T U : Nat) (re im : List (List Int)) : List UInt8 := encBody T U re im ++ beN (fnvF 2166136261 (encBody T U re im)) 4

theorem okB_spec {re im : List (List Int)} (h : okB re im = true) : re.length = im.length ∧ (∀ r ∈ re, r.length = colsN re) ∧ (∀ r ∈ im, r.length = colsN re) := by
  unfold okB okUp at h
  simp only [Bool.and_eq_true, decide_eq_true_eq, List.all_eq_true] at h
  obtain ⟨h1, h2, h3⟩ := h
  rw [h1, List.take_length] at h3
  rw [List.take_length] at h2
  exact ⟨h1, h2, h3⟩

theorem chk_spec {T U : Nat} {re im : List (List Int)} (h : chkE T U re im = 0) : finB T = true ∧ okU U = true ∧ okB re im = true ∧ largeB re.length (colsN re) = false := by
  unfold chkE at h
  split at h
  · cases h
  · rename_i h1
    split at h
    · cases h
    · split at h
      · cases h
      · rename_i h2 h3
        simp only [Bool.not_eq_false, Bool.and_eq_true] at h1 h2
        simp only [Bool.not_eq_true] at h3
        exact ⟨h1.1, h1.2, h2, h3⟩

theorem large_spec {r n : Nat} (h : largeB r n = false) : r ≤ 256 ∧ n ≤ 16384 ∧ r * n ≤ 262144 := by
  simp only [largeB, Bool.or_eq_false_iff, decide_eq_false_iff_not] at h
  omega

theorem fin_known {x : Nat} (h : finB x = true) : fknown .f64 x = true := by
  unfold fknown
  rw [bne_iff_ne]
  intro e
  subst e
  exact absurd h (by decide +kernel)

theorem bits_eq {x : Nat} (h : finB x = true) : extV 0 [.float .f64 x] = some (.int .u64 (x : Nat)) := by
  simp only [extV, fin_known h, if_true]

theorem conv_u16 {x : Int} : wrapK .u16 x = (u16 x : Nat) := by
  simp only [wrapK, u16]; omega


/-- A call of put, told of the state before all. -/
theorem put_to {X : Ctx} (hX : X.fns = fnsOf Try.prog) (ho : ∀ f args, f ≠ 9 → X.orc f args = none) {s0 s : Mm} {v : Value} {n : Nat} {b : List UInt8} (h : Own s 1 v n (bsV b)) (hs : Same s0 s (fun _ => False)) (hf : ∀ x, footV v x → s0.nxt ≤ x) {N k : Nat} (hk8 : k ≤ 8) (hn : b.length + k ≤ 70368744177664) :
    CallP X 35 [v, .int .u64 (N : Nat), .int .i64 (k : Nat)] s (fun r s' => Own s' 1 r (b.length + k) (bsV (b ++ beN N k)) ∧ Same s0 s' (fun _ => False) ∧ (∀ x, footV r x → s0.nxt ≤ x) ∧ Same s s' (footV v)) := by
  refine (run35 hX ho h hk8 hn).mono ?_
  rintro r s' ⟨a, b, c⟩
  refine ⟨a, hs.trans b (fun _ _ h => h) (fun B hB h => by have := hf B h; omega), fun x hx => ?_, b⟩
  rcases c x hx with h | h
  · exact hf x h
  · have := hs.nxt; omega

set_option maxHeartbeats 1000000 in
theorem run18 {X : Ctx} (hX : X.fns = fnsOf Try.prog) (ho : ∀ f args, f ≠ 9 → X.orc f args = none) {s : Mm} {rv iv : Value} {T U : Nat} {re im : List (List Int)} (hr : TabC s rv re) (hi : TabC s iv im) (hlr : re.length ≤ 9223372036854775807) :
    CallP X 18 [.agg #[.float .f64 T, .float .f64 U, rv, iv]] s (fun r s' => Same s s' (fun _ => False) ∧ ((chkE T U re im ≠ 0 ∧ r = .tuple #[.slice none 0 0, .int .i64 (chkE T U re im : Nat)]) ∨
      (chkE T U re im = 0 ∧ ∃ v n, r = .tuple #[v, .int .i64 0] ∧ Own s' 1 v n (bsV (encF T U re im)) ∧ (∀ x, footV v x → s.nxt ≤ x)))) := by
  refine CallP_of (hX ▸ ir18_eq) (ho _ _ (by decide)) (Nat.le_of_ble_eq_true rfl) ?_
  have hbx : (Value.agg #[.float .f64 T, .float .f64 U, rv, iv]).cells.toList = [.float .f64 T, .float .f64 U, rv, iv] := rfl
  refine W_seq (W_ops [1] ?_)
  simp only [o18_0, WO_box, WO_move, WO_nil, geT_put, frame_nil, frame_cons, evO_tmp, evO_const, keep_nil, keep_cons, keepK_eq, Nat.reduceEqDiff, reduceIte, eq_self, Nat.zero_add, hbx]
  intro fr e1
  refine SeqK_n ?_
  have hg : Store.get (newAt s (.cells [.float .f64 T, .float .f64 U, rv, iv] false)).h s.nxt = some (.cells [.float .f64 T, .float .f64 U, rv, iv] false) := by rw [get_new, if_pos rfl]
  have hs1 : Same s (newAt s (.cells [.float .f64 T, .float .f64 U, rv, iv] false)) (fun _ => False) := .new
  have hnx : s.nxt < (newAt s (.cells [.float .f64 T, .float .f64 U, rv, iv] false)).nxt := by rw [nxt_new]; omega
  generalize newAt s (.cells [.float .f64 T, .float .f64 U, rv, iv] false) = s1 at hg hs1 hnx ⊢
  have tabs : ∀ {s'} {v} {rows}, Same s s' (fun _ => False) → TabC s v rows → TabC s' v rows := fun hs ⟨c, a, b⟩ => ⟨c, a.same hs (fun _ _ h => h), fun i r h => let ⟨x, y, z⟩ := b i r h; ⟨x, y, z.same hs (fun _ _ h => h)⟩⟩
  have hr1 := tabs hs1 hr
  have hi1 := tabs hs1 hi
  refine W_seq (W_ops [1, 4, 5] ?_)
  simp only [o18_1, WO_call, WO_load, PureK_some, geT_put, evO_tmp, List.map_cons, List.map_nil, reduceIte, eq_self, e1, loadn_all (n := 4) hg rfl]
  refine CallK_of (run34 hX ho hr1 hi1 hlr) ?_
  rintro _ s2 ⟨rfl, hs2⟩
  simp only [WO_extract, ext_20, ext_21, WO_move, WO_nil, PureK_some, geT_put, evO_tmp, keep_nil, keep_cons, keepK_eq, Nat.reduceEqDiff, reduceIte, eq_self, e1]
  clear e1
  intro fr e1 e4 e5
  refine SeqK_n ?_
  refine W_assoc ?_
  refine W_seq (W_ops [1, 4, 5, 15] ?_)
  simp only [o18_2, WO_bin, WO_move, bin_neq, WO_nil, PureK_some, geT_put, evO_tmp, evO_const, keep_nil, keep_cons, keepK_eq, Nat.reduceEqDiff, reduceIte, eq_self, e1, e4, e5]
  clear e1 e4 e5
  intro fr e1 e4 e5 e15
  refine SeqK_n ?_
  refine W_seq (W_ifn e15 (fun hc => ?_) (fun hc => W_skip (SeqK_n ?_)))
  · refine W_seq (W_ops [2, 3] ?_)
    simp only [o18_3, WO_move, WO_nil, geT_put, evO_tmp, evO_const, keep_nil, keep_cons, keepK_eq, Nat.reduceEqDiff, reduceIte, eq_self, e5]
    clear e1 e4 e5 e15
    intro fr e2 e3
    refine SeqK_n ?_
    refine W_ret (SeqK_r (Ret2 e2 e3 ⟨hs1.trans hs2 (fun _ _ h => h) (fun _ _ h => h), .inl ⟨by omega, rfl⟩⟩))
  have hc0 : chkE T U re im = 0 := by omega
  obtain ⟨hfT, hfU, hok, hlg⟩ := chk_spec hc0
  obtain ⟨hl, hcr, hci⟩ := okB_spec hok
  obtain ⟨hR, hN, hRN⟩ := large_spec hlg
  have hn0 : chkN T U re im = colsN re := by unfold chkN; rw [if_pos hc0]
  rw [hn0] at e4
  have LD : ∀ {s'}, Same s1 s' (fun _ => False) → Store.get s'.h s.nxt = some (.cells [.float .f64 T, .float .f64 U, rv, iv] false) := fun h => by rw [h.get _ hnx (fun h => h)]; exact hg
  have L0 : ∀ {s'}, Same s1 s' (fun _ => False) → loadV s' none (.pointer (some ⟨s.nxt, 0, none⟩)) = some (.float .f64 T) := fun h => load_g (o := 0) (LD h)
  have L1 : ∀ {s'}, Same s1 s' (fun _ => False) → loadV s' none (.pointer (some ⟨s.nxt, 1, none⟩)) = some (.float .f64 U) := fun h => load_g (o := 1) (LD h)
  have L2 : ∀ {s'}, Same s1 s' (fun _ => False) → loadV s' none (.pointer (some ⟨s.nxt, 2, none⟩)) = some rv := fun h => load_g (o := 2) (LD h)
  have L3 : ∀ {s'}, Same s1 s' (fun _ => False) → loadV s' none (.pointer (some ⟨s.nxt, 3, none⟩)) = some iv := fun h => load_g (o := 3) (LD h)
  obtain ⟨cr, hr1, hr2⟩ := hr1
  obtain ⟨ci, hi1, hi2⟩ := hi1
  have hrl := hr1.len
  have hil := hi1.len
  obtain ⟨M, hM⟩ : ∃ M, M = 4 * re.length * colsN re := ⟨_, rfl⟩
  have hMb : M ≤ 1048576 := by rw [hM, Nat.mul_assoc]; omega
  have hMc : (4 : Int) * (re.length : Nat) * (colsN re : Nat) = (M : Nat) := by rw [hM, Int.natCast_mul, Int.natCast_mul]; rfl
  have w4 := wrap_i64 (n := (4 : Int) * (re.length : Nat)) (by omega) (by omega)
  have wM := wrap_i64 (n := ((M : Nat) : Int)) (by omega) (by omega)
  have w31 := wrap_i64 (n := (31 : Int) + (M : Nat)) (by omega) (by omega)
  have w20 := wrap_i64 (n := ((20 + M : Nat) : Int)) (by omega) (by omega)
  have w20' := wrap_u64 (n := ((20 + M : Nat) : Int)) (by omega) (by omega)
  have c20 : (20 : Int) + (M : Nat) = ((20 + M : Nat) : Int) := by omega
  have hOp : 31 + M < OPEN := by unfold OPEN; omega
  have hmk : Own (newAt s2 (.cells (repZ [.int .u8 0] (31 + M)) false)) 1 (.slice (some ⟨s2.nxt, 0, none⟩) 0 (31 + M)) 0 (bsV []) := own_make (s := s2) (z := [.int .u8 0]) (sz := 1) rfl (Nat.zero_le _) hOp
  obtain ⟨v3, s3, ha3, ho3, hs3, hf3⟩ := hmk.append (bytes := 1) (xv := .string ⟨#[76, 75, 49]⟩) (m := 3) (new := bsV hdr) rfl rfl rfl (by omega) (by omega) (by omega) (by omega)
  rw [← bsV_app, List.nil_append] at ho3
  have hs3' : Same s1 s3 (fun _ => False) := (hs2.trans (.new (F := fun _ => False)) (fun _ _ h => h) (fun _ _ h => h)).trans hs3 (fun _ _ h => h) (fun B hB h => by have := hs2.nxt; simp only [footV] at h; omega)
  have hf3' : ∀ x, footV v3 x → s1.nxt ≤ x := fun x hx => by
    have := hs2.nxt
    rcases hf3 x hx with h | h
    · simp only [footV] at h; omega
    · rw [nxt_new] at h; omega
  refine W_seq (W_ops [1, 4, 6] ?_)
  simp only [o18_4, WO_append, WO_bin, WO_bu, WO_fieldAddr, fieldAddr_p, WO_load, WO_makeSlice, WO_move, bin_add, bin_mul, WO_nil, PureK_some, MemK_some, NewK_some, geT_put, evO_tmp, evO_const, keep_nil, keep_cons, keepK_eq, List.map_cons, List.map_nil, Nat.reduceEqDiff, reduceIte, eq_self, Nat.zero_add, e1, e4, L2 hs2, hrl, w4, hMc, wM, w31, makeSl_eq (s := s2) (bytes := 1) (l := 0) (c := 31 + M) (z := [.int .u8 0]) (k := .i64) (k' := .i64) (i := 0) (j := (31 : Int) + (M : Nat)) rfl (by omega) (Nat.zero_le _) (by omega) (by omega), ha3]
  clear e1 e4
  intro fr e1 e4 e6
  refine SeqK_n ?_
  clear hmk ha3 hs3 hf3
  refine W_seq (W_ops [1, 4, 6] ?_)
  simp only [o18_5, WO_bin, WO_bu, WO_call, WO_conv, conv_int, WO_fieldAddr, fieldAddr_p, WO_load, WO_move, bin_add, bin_mul, PureK_some, geT_put, evO_tmp, evO_const, List.map_cons, List.map_nil, Nat.reduceEqDiff, reduceIte, eq_self, Nat.zero_add, e1, e4, e6, L2 hs3', hrl, w4, hMc, wM, w20, w20', c20]
  refine CallK_of (put_to hX ho ho3 hs3' hf3' (N := 20 + M) (k := 4) (by omega) (by simp [hdr])) ?_
  rintro v4 s4 ⟨ho4, hs4, hf4, -⟩
  simp only [WO_move, WO_nil, geT_put, evO_tmp, keep_nil, keep_cons, keepK_eq, Nat.reduceEqDiff, reduceIte, eq_self, e1, e4, e6]
  clear e1 e4 e6
  intro fr e1 e4 e6
  refine SeqK_n ?_
  refine W_seq (W_draw0 [1, 4, 6] rfl ?_)
  simp only [d18_6, WD_call, WD_ext, WD_fieldAddr, fieldAddr_p, WD_load, WD_move, DPureK_some, DReadK_some, DActK_some, pastR_nil, preHead_nil, joinF_nil, setH_self, Nat.testBit, Nat.reduceShiftRight, Nat.reduceAnd, Nat.reduceBneDiff, List.all_nil, List.all_cons, List.filter_nil, List.filter_cons, sameO_float, geT_put, evO_tmp, evO_const, List.map_cons, List.map_nil, Nat.reduceEqDiff, Nat.reduceAdd, reduceIte, Bool.not_true, Bool.and_true, Bool.or_true, eq_self, Bool.false_eq_true, true_and, Nat.zero_add, Nat.add_zero, e1, e6, L0 hs4, extS_eq (s := s4) (bits_eq hfT)]
  refine DCallK_of rfl (put_to hX ho ho4 hs4 hf4 (N := T) (k := 8) (by omega) (by simp [hdr, beN_length])) ?_
  rintro v5 s5 ⟨ho5, hs5, hf5, -⟩
  have hfU' : finB U = true := by unfold okU at hfU; simp only [Bool.and_eq_true] at hfU; exact hfU.1
  simp only [WD_call, WD_ext, WD_fieldAddr, fieldAddr_p, WD_load, DPureK_some, DReadK_some, DActK_some, pastR_nil, pastR_cons, preHead_cons, joinF_nil, setH_self, Nat.testBit, Nat.reduceShiftRight, Nat.reduceAnd, Nat.reduceBneDiff, List.all_nil, List.all_cons, List.filter_nil, List.filter_cons, sameO_float, bne_self_eq_false, geT_put, evO_tmp, evO_const, List.map_cons, List.map_nil, Nat.reduceEqDiff, Nat.reduceAdd, reduceIte, Bool.not_true, Bool.and_true, Bool.or_true, eq_self, Bool.false_eq_true, true_and, Nat.zero_add, e1, L1 hs4, L1 hs5, extS_eq (s := s5) (bits_eq hfU')]
  refine DCallK_of rfl (put_to hX ho ho5 hs5 hf5 (N := U) (k := 8) (by omega) (by simp [hdr, beN_length])) ?_
  rintro v6 s6 ⟨ho6, hs6, hf6, -⟩
  simp only [WD_move, WD_nil, DPureK_some, joinF_nil, joinAll_nil, setH_self, Nat.testBit, List.all_nil, List.filter_nil, geT_put, evO_tmp, keep_nil, keep_cons, keepK_eq, Nat.reduceEqDiff, Nat.reduceAdd, reduceIte, eq_self, true_and, e1, e4, e6]
  clear e1 e4 e6
  intro fr e1 e4 e6
  refine SeqK_n ?_
  have wR := wrap_u64 (n := ((re.length : Nat) : Int)) (by omega) (by omega)
  have wn := wrap_u64 (n := ((colsN re : Nat) : Int)) (by omega) (by omega)
  refine W_seq (W_ops [1, 4, 6] ?_)
  simp only [o18_7, WO_bu, WO_call, WO_conv, conv_int, WO_fieldAddr, fieldAddr_p, WO_load, WO_move, PureK_some, geT_put, evO_tmp, evO_const, List.map_cons, List.map_nil, Nat.reduceEqDiff, reduceIte, eq_self, Nat.zero_add, e1, e6, L2 hs6, hrl, wR]
  refine CallK_of (put_to hX ho ho6 hs6 hf6 (N := re.length) (k := 2) (by omega) (by simp [hdr, beN_length])) ?_
  rintro v7 s7 ⟨ho7, hs7, hf7, -⟩
  simp only [WO_call, WO_conv, conv_int, WO_move, PureK_some, geT_put, evO_tmp, evO_const, List.map_cons, List.map_nil, Nat.reduceEqDiff, reduceIte, eq_self, e4, wn]
  refine CallK_of (put_to hX ho ho7 hs7 hf7 (N := colsN re) (k := 2) (by omega) (by simp [hdr, beN_length])) ?_
  rintro v8 s8 ⟨ho8, hs8, hf8, -⟩
  simp only [WO_move, WO_nil, geT_put, evO_tmp, keep_nil, keep_cons, keepK_eq, Nat.reduceEqDiff, reduceIte, eq_self, e1, e4, e6]
  clear e1 e4 e6
  intro fr e1 e4 e6
  refine SeqK_n ?_
  have hhead : hdr ++ beN (20 + M) 4 ++ beN T 8 ++ beN U 8 ++ beN re.length 2 ++ beN (colsN re) 2 = encHead T U re.length (colsN re) := by rw [hM]; rfl
  rw [hhead] at ho8
  clear ho3 ho4 ho5 ho6 ho7
  refine W_assoc ?_
  refine W_seq (W_ops [1, 4, 6, 56, 57] ?_)
  simp only [o18_8, WO_bu, WO_fieldAddr, fieldAddr_p, WO_load, WO_move, WO_nil, PureK_some, geT_put, evO_tmp, evO_const, keep_nil, keep_cons, keepK_eq, List.map_cons, List.map_nil, Nat.reduceEqDiff, reduceIte, eq_self, Nat.zero_add, e1, e4, e6, L2 hs8, hrl]
  clear e1 e4 e6
  intro fr e1 e4 e6 e56 e57
  refine SeqK_n ?_
  have hhl : (encHead T U re.length (colsN re)).length = 27 := by simp [encHead, hdr, beN_length]
  refine W_seq (W_block (W_loop (fun m fr s3 => ∃ k v n, k + m = re.length ∧ geT fr 1 = .pointer (some ⟨s.nxt, 0, none⟩) ∧ geT fr 4 = .int .i64 (colsN re : Nat) ∧ geT fr 6 = v ∧ geT fr 56 = .int .i64 (re.length : Nat) ∧ geT fr 57 = .int .i64 (k : Nat) ∧
    Own s3 1 v n (bsV (encHead T U re.length (colsN re) ++ encRows (re.take k) (im.take k))) ∧ Same s1 s3 (fun _ => False) ∧ (∀ x, footV v x → s1.nxt ≤ x)) re.length ⟨0, v8, _, by omega, e1, e4, e6, e56, e57, by simpa [encRows] using ho8, hs8, hf8⟩ ?_))
  clear e1 e4 e6 e56 e57 fr
  rintro m fr s9 ⟨k, v9, n9, hk, e1, e4, e6, e56, e57, ho9, hs9, hf9⟩
  refine W_seq (W_ops [1, 4, 6, 56, 57, 58] ?_)
  simp only [o18_10, WO_bin, bin_lss, WO_nil, PureK_some, geT_put, evO_tmp, keep_nil, keep_cons, keepK_eq, Nat.reduceEqDiff, reduceIte, eq_self, e1, e4, e6, e56, e57]
  clear e1 e4 e6 e56 e57
  intro fr e1 e4 e6 e56 e57 e58
  refine SeqK_n ?_
  refine W_while e58 (fun hlt => ?_) (fun hlt => ?_)
  · have hk1 : k < re.length := by omega
    have hk2 : k < im.length := by omega
    obtain ⟨c, hc1, hc2⟩ := hr2 k re[k] (by simp [hk1])
    obtain ⟨c', hc1', hc2'⟩ := hi2 k im[k] (by simp [hk2])
    have hlk : re[k].length = colsN re := hcr _ (by simp)
    have hlk' : im[k].length = colsN re := hci _ (by simp)
    refine W_seq (W_block ?_)
    refine W_seq (W_ops [1, 4, 6, 7, 56, 57] ?_)
    simp only [o18_11, WO_move, WO_nil, geT_put, evO_tmp, keep_nil, keep_cons, keepK_eq, Nat.reduceEqDiff, reduceIte, eq_self, e1, e4, e6, e56, e57]
    clear e1 e4 e6 e56 e57 e58
    intro fr e1 e4 e6 e7 e56 e57
    refine SeqK_n ?_
    refine W_seq (W_ops [1, 4, 6, 7, 56, 57, 60, 61] ?_)
    simp only [o18_12, WO_move, WO_nil, geT_put, evO_tmp, evO_const, keep_nil, keep_cons, keepK_eq, Nat.reduceEqDiff, reduceIte, eq_self, e1, e4, e6, e7, e56, e57]
    clear e1 e4 e6 e7 e56 e57
    intro fr e1 e4 e6 e7 e56 e57 e60 e61
    refine SeqK_n ?_
    have hbl : (encHead T U re.length (colsN re) ++ encRows (re.take k) (im.take k)).length + 4 * colsN re ≤ 2000000 := by
      have := encRows_length (n := colsN re) (re.take k) (im.take k) (by simp [hl]) (fun r h => hcr r (List.mem_of_mem_take h)) (fun r h => hci r (List.mem_of_mem_take h))
      rw [List.length_append, hhl, this, List.length_take]
      have h2 : (min k re.length) * colsN re ≤ re.length * colsN re := Nat.mul_le_mul_right _ (by omega)
      omega
    refine W_block (W_loop (fun m fr s3 => ∃ g v n, g + m = colsN re ∧ geT fr 1 = .pointer (some ⟨s.nxt, 0, none⟩) ∧ geT fr 4 = .int .i64 (colsN re : Nat) ∧ geT fr 6 = v ∧ geT fr 7 = .int .i64 (k : Nat) ∧ geT fr 56 = .int .i64 (re.length : Nat) ∧ geT fr 57 = .int .i64 (k : Nat) ∧ geT fr 60 = .int .i64 (colsN re : Nat) ∧ geT fr 61 = .int .i64 (g : Nat) ∧
      Own s3 1 v n (bsV (encHead T U re.length (colsN re) ++ encRows (re.take k) (im.take k) ++ encRow (re[k].take g) (im[k].take g))) ∧ Same s1 s3 (fun _ => False) ∧ (∀ x, footV v x → s1.nxt ≤ x)) (colsN re) ⟨0, v9, _, by omega, e1, e4, e6, e7, e56, e57, e60, e61, by simpa [encRow] using ho9, hs9, hf9⟩ ?_)
    clear e1 e4 e6 e7 e56 e57 e60 e61 fr
    rintro m2 fr sa ⟨g, va, na, hg2, e1, e4, e6, e7, e56, e57, e60, e61, hoa, hsa, hfa⟩
    refine W_seq (W_ops [1, 4, 6, 7, 56, 57, 60, 61, 62] ?_)
    simp only [o18_14, WO_bin, bin_lss, WO_nil, PureK_some, geT_put, evO_tmp, keep_nil, keep_cons, keepK_eq, Nat.reduceEqDiff, reduceIte, eq_self, e1, e4, e6, e7, e56, e57, e60, e61]
    clear e1 e4 e6 e7 e56 e57 e60 e61
    intro fr e1 e4 e6 e7 e56 e57 e60 e61 e62
    refine SeqK_n ?_
    refine W_while e62 (fun hlt2 => ?_) (fun hlt2 => ?_)
    · have hg1 : g < colsN re := by omega
      have hg3 : g < re[k].length := by omega
      have hg4 : g < im[k].length := by omega
      refine W_seq (W_block ?_)
      refine W_seq (W_ops [1, 4, 6, 7, 8, 56, 57, 60, 61] ?_)
      simp only [o18_15, WO_move, WO_nil, geT_put, evO_tmp, keep_nil, keep_cons, keepK_eq, Nat.reduceEqDiff, reduceIte, eq_self, e1, e4, e6, e7, e56, e57, e60, e61]
      clear e1 e4 e6 e7 e56 e57 e60 e61 e62
      intro fr e1 e4 e6 e7 e8 e56 e57 e60 e61
      refine SeqK_n ?_
      have hla : (encHead T U re.length (colsN re) ++ encRows (re.take k) (im.take k) ++ encRow (re[k].take g) (im[k].take g)).length + 4 ≤ 2000000 := by
        have := encRow_length (re[k].take g) (im[k].take g) (by simp [hlk, hlk'])
        rw [List.length_append, this, List.length_take]
        omega
      have A1 : ∀ {s'}, Same s1 s' (fun _ => False) → loadV s' none (elP rv k) = some c := fun h => (hr1.same h (fun _ _ h => h)).load hc1
      have A2 : ∀ {s'}, Same s1 s' (fun _ => False) → loadV s' none (elP c g) = some (.int .i16 (re[k]'hk1)[g]) := fun h => (hc2.same h (fun _ _ h => h)).load (by simp [hg3])
      have A3 : ∀ {s'}, Same s1 s' (fun _ => False) → loadV s' none (elP iv k) = some c' := fun h => (hi1.same h (fun _ _ h => h)).load hc1'
      have A4 : ∀ {s'}, Same s1 s' (fun _ => False) → loadV s' none (elP c' g) = some (.int .i16 (im[k]'hk2)[g]) := fun h => (hc2'.same h (fun _ _ h => h)).load (by simp [hg4])
      have B1 := hr1.addr (kk := .i64) (i := (k : Int)) rfl hk1
      have B2 := hc2.addr (kk := .i64) (i := (g : Int)) rfl hg3
      have B3 := hi1.addr (kk := .i64) (i := (k : Int)) rfl hk2
      have B4 := hc2'.addr (kk := .i64) (i := (g : Int)) rfl hg4
      have u1 : u16 (re[k]'hk1)[g] < 65536 := by unfold u16; omega
      have u2 : u16 (im[k]'hk2)[g] < 65536 := by unfold u16; omega
      have W1 := wrap_u64 (n := ((u16 (re[k]'hk1)[g] : Nat) : Int)) (by omega) (by omega)
      have W2 := wrap_u64 (n := ((u16 (im[k]'hk2)[g] : Nat) : Int)) (by omega) (by omega)
      refine W_draw0 [1, 4, 6, 7, 56, 57, 60, 61] rfl ?_
      simp only [d18_16, WD_addrSl, WD_call, WD_conv, conv_int, WD_fieldAddr, fieldAddr_p, WD_load, WD_move, DPureK_some, DReadK_some, pastR_nil, joinF_nil, setH_self, geT_put, evO_tmp, evO_const, List.map_cons, List.map_nil, Nat.reduceEqDiff, Nat.reduceAdd, reduceIte, eq_self, true_and, Nat.zero_add, Nat.mul_one, e1, e6, e7, e8, L2 hsa, A1 hsa, A2 hsa, B1, B2, conv_u16, W1]
      refine DCallK_of rfl (put_to hX ho hoa hsa hfa (N := u16 (re[k]'hk1)[g]) (k := 2) (by omega) (by omega)) ?_
      rintro vb sb ⟨hob, hsb, hfb, -⟩
      simp only [WD_addrSl, WD_call, WD_conv, conv_int, WD_fieldAddr, fieldAddr_p, WD_load, WD_move, DPureK_some, DReadK_some, pastR_nil, pastR_cons, joinF_nil, setH_self, Nat.testBit, Nat.reduceShiftRight, Nat.reduceAnd, Nat.reduceBneDiff, List.all_nil, List.all_cons, List.filter_nil, List.filter_cons, sameO_int, bne_self_eq_false, geT_put, evO_tmp, evO_const, List.map_cons, List.map_nil, Nat.reduceEqDiff, Nat.reduceAdd, reduceIte, Bool.not_true, Bool.and_true, Bool.true_or, eq_self, Bool.false_eq_true, true_and, Nat.zero_add, Nat.mul_one, e1, e7, e8, L3 hsa, L3 hsb, SlC.sameO hi1, A3 hsa, A3 hsb, SlC.sameO hc2', A4 hsa, A4 hsb, B3, B4, conv_u16, W2]
      refine DCallK_of rfl (put_to hX ho hob hsb hfb (N := u16 (im[k]'hk2)[g]) (k := 2) (by omega) (by simp only [List.length_append, beN_length] at hla ⊢; omega)) ?_
      rintro vc sc ⟨hoc, hsc, hfc, -⟩
      simp only [WD_move, WD_nil, DPureK_some, joinF_nil, joinAll_nil, setH_self, Nat.testBit, Nat.reduceShiftRight, Nat.reduceAnd, Nat.reduceBneDiff, List.all_nil, List.all_cons, List.filter_nil, List.filter_cons, geT_put, evO_tmp, keep_nil, keep_cons, keepK_eq, Nat.reduceEqDiff, Nat.reduceAdd, reduceIte, Bool.not_true, Bool.and_true, Bool.true_or, eq_self, Bool.false_eq_true, true_and, e1, e4, e6, e7, e56, e57, e60, e61]
      clear e1 e4 e6 e7 e8 e56 e57 e60 e61
      intro fr e1 e4 e6 e7 e56 e57 e60 e61
      refine BlkK_n (SeqK_n ?_)
      refine W_ops [1, 4, 6, 7, 56, 57, 60, 61] ?_
      simp only [o18_17, WO_bin, WO_move, bin_add, WO_nil, PureK_some, geT_put, evO_tmp, evO_const, keep_nil, keep_cons, keepK_eq, Nat.reduceEqDiff, reduceIte, eq_self, e1, e4, e6, e7, e56, e57, e60, e61, wrap_i64 (n := (g : Int) + 1) (by omega) (by omega)]
      clear e1 e4 e6 e7 e56 e57 e60 e61
      intro fr e1 e4 e6 e7 e56 e57 e60 e61
      have ecs : encHead T U re.length (colsN re) ++ encRows (re.take k) (im.take k) ++ encRow (re[k].take g) (im[k].take g) ++ beN (u16 (re[k]'hk1)[g]) 2 ++ beN (u16 (im[k]'hk2)[g]) 2 = encHead T U re.length (colsN re) ++ encRows (re.take k) (im.take k) ++ encRow (re[k].take (g + 1)) (im[k].take (g + 1)) := by
        rw [encRow_take (by omega) hg3]
        simp only [List.append_assoc]
      rw [ecs] at hoc
      exact LoopK_n (m' := m2 - 1) (by omega) ⟨g + 1, vc, _, by omega, e1, e4, e6, e7, e56, e57, e60, by rw [e61]; rfl, hoc, hsc, hfc⟩
    · have : g = colsN re := by omega
      subst this
      refine LoopK_x (BlkK_e (BlkK_n (SeqK_n ?_)))
      refine W_ops [1, 4, 6, 56, 57] ?_
      simp only [o18_18, WO_bin, WO_move, bin_add, WO_nil, PureK_some, geT_put, evO_tmp, evO_const, keep_nil, keep_cons, keepK_eq, Nat.reduceEqDiff, reduceIte, eq_self, e1, e4, e6, e56, e57, wrap_i64 (n := (k : Int) + 1) (by omega) (by omega)]
      clear e1 e4 e6 e7 e56 e57 e60 e61 e62
      intro fr e1 e4 e6 e56 e57
      rw [List.take_of_length_le (l := re[k]) (by omega), List.take_of_length_le (l := im[k]) (by omega), List.append_assoc, ← encRows_take hl hk1] at hoa
      exact LoopK_n (m' := m - 1) (by omega) ⟨k + 1, va, _, by omega, e1, e4, e6, e56, by rw [e57]; rfl, hoa, hsa, hfa⟩
  · have : k = re.length := by omega
    subst this
    refine LoopK_x (BlkK_e (SeqK_n ?_))
    rw [List.take_length, hl, List.take_length] at ho9
    have hbody : encHead T U im.length (colsN re) ++ encRows re im = encBody T U re im := by unfold encBody; rw [hl]
    rw [hbody] at ho9
    have hel : (encBody T U re im).length = 27 + M := by
      rw [encBody, List.length_append, hhl, encRows_length (n := colsN re) re im hl hcr hci, hM, Nat.mul_assoc]
    have hbs9 : Bs s9 v9 (encBody T U re im) := Bs.of ho9.slc
    have hfv := fnvF_lt (s := 2166136261) (by omega) (encBody T U re im)
    refine W_seq (W_ops [2, 3] ?_)
    simp only [o18_19, WO_call, WO_move, geT_put, evO_tmp, List.map_cons, List.map_nil, Nat.reduceEqDiff, reduceIte, eq_self, e6]
    refine CallK_of (run37 hX ho hbs9 (by omega)) ?_
    rintro _ _ ⟨rfl, rfl⟩
    simp only [WO_call, WO_conv, conv_int, PureK_some, geT_put, evO_tmp, evO_const, List.map_cons, List.map_nil, Nat.reduceEqDiff, reduceIte, eq_self, wrap_u64 (n := ((fnvF 2166136261 (encBody T U re im) : Nat) : Int)) (by omega) (by omega)]
    refine CallK_of (put_to hX ho ho9 hs9 hf9 (N := fnvF 2166136261 (encBody T U re im)) (k := 4) (by omega) (by omega)) ?_
    rintro vz sz ⟨hoz, hsz, hfz, -⟩
    simp only [WO_move, WO_nil, geT_put, evO_tmp, evO_const, keep_nil, keep_cons, keepK_eq, Nat.reduceEqDiff, reduceIte, eq_self]
    clear e1 e4 e6 e56 e57 e58
    intro fr e2 e3
    refine SeqK_n ?_
    exact W_ret (Ret2 e2 e3 ⟨hs1.trans hsz (fun _ _ h => h) (fun _ _ h => h), .inr ⟨hc0, vz, _, rfl, hoz, fun x hx => by have := hfz x hx; omega⟩⟩)

end Go.Proofs.Ytkfcejhebepdkaa
