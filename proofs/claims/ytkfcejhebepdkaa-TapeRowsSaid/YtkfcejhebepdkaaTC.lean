/- Tables of small numbers that are made. -/
import Derived.Test.YtkfcejhebepdkaaTA
import Derived.Test.YtkfcejhebepdkaaTB
namespace Go.Proofs.Ytkfcejhebepdkaa
open Go Go.Vam

def rowSl (A G p : Nat) : Value := .slice (some ⟨A, p * G, none⟩) G G

/-- A table over one block of numbers. -/
structure TabW (s : Mm) (v : Value) (A O R G : Nat) (flat : List Int) : Prop where
  v : v = .slice (some ⟨O, 0, none⟩) R R
  out : Store.get s.h O = some (.cells ((List.range R).map (rowSl A G)) false)
  all : Store.get s.h A = some (.cells (flat.map (.int .i16)) false)
  len : flat.length = R * G
  hO : O < s.nxt
  hA : A < s.nxt
  ne : A ≠ O
  hR : R < OPEN
  hG : G < OPEN

def chunk (R G : Nat) (flat : List Int) : List (List Int) := (List.range R).map fun p => (flat.drop (p * G)).take G

/-- A table whose blocks are of a kind. -/
def TabG (s : Mm) (v : Value) (rows : List (List Int)) (K : Nat → Prop) : Prop :=
  ∃ cells, SlC s 1 v rows.length cells ∧ (∀ b, footV v b → K b) ∧ ∀ (i : Nat) (r : List Int), rows[i]? = some r → ∃ c, cells[i]? = some c ∧ SlC s 1 c r.length (r.map (.int .i16)) ∧ ∀ b, footV c b → K b

theorem TabG.tab {s : Mm} {v : Value} {rows : List (List Int)} {K : Nat → Prop} (h : TabG s v rows K) : TabC s v rows := by
  obtain ⟨c, a, _, b⟩ := h
  exact ⟨c, a, fun i r h => let ⟨x, y, z, _⟩ := b i r h; ⟨x, y, z⟩⟩

theorem TabG.same {s s' : Mm} {v : Value} {rows : List (List Int)} {K F : Nat → Prop} (h : TabG s v rows K) (g : Same s s' F) (hd : ∀ b, K b → ¬ F b) : TabG s' v rows K := by
  obtain ⟨c, a, k, b⟩ := h
  exact ⟨c, a.same g (fun x hx => hd x (k x hx)), k, fun i r h => let ⟨x, y, z, w⟩ := b i r h; ⟨x, y, z.same g (fun x hx => hd x (w x hx)), w⟩⟩

theorem TabG.mono {s : Mm} {v : Value} {rows : List (List Int)} {K K' : Nat → Prop} (h : TabG s v rows K) (g : ∀ b, K b → K' b) : TabG s v rows K' := by
  obtain ⟨c, a, k, b⟩ := h
  exact ⟨c, a, fun x hx => g x (k x hx), fun i r h => let ⟨x, y, z, w⟩ := b i r h; ⟨x, y, z, fun b hb => g b (w b hb)⟩⟩

theorem chunk_length {R G : Nat} {flat : List Int} : (chunk R G flat).length = R := by simp [chunk]

theorem TabW.tabG {s : Mm} {v : Value} {A O R G : Nat} {flat : List Int} (h : TabW s v A O R G flat) : TabG s v (chunk R G flat) (fun b => b = A ∨ b = O) := by
  obtain ⟨rfl, h1, h2, h3, h4, h5, h6, h7, h8⟩ := h
  refine ⟨(List.range R).map (rowSl A G), ?_, fun b hb => .inr hb, fun i r hr => ?_⟩
  · rw [chunk_length]
    exact .mk (blk_cells h1) h4 (by rw [List.drop_zero, List.take_of_length_le (by simp)]) (by simp) (.inl ⟨Nat.le_refl _, h7⟩)
  · have hi : i < R := by
      have := (List.getElem?_eq_some_iff.1 hr).1
      rwa [chunk_length] at this
    have hmul : i * G + G ≤ R * G := by rw [← Nat.succ_mul]; exact Nat.mul_le_mul_right _ hi
    have er : r = (flat.drop (i * G)).take G := by
      unfold chunk at hr
      rw [List.getElem?_map, List.getElem?_range hi] at hr
      exact (Option.some.inj hr).symm
    have hl : r.length = G := by rw [er, List.length_take, List.length_drop, h3]; omega
    refine ⟨rowSl A G i, by rw [List.getElem?_map, List.getElem?_range hi]; rfl, ?_, fun b hb => .inl hb⟩
    rw [hl]
    exact .mk (blk_cells h2) h5 (by rw [er, List.map_take, List.map_drop, Nat.mul_one]) (by rw [List.length_map, h3]; omega) (.inl ⟨Nat.le_refl _, h8⟩)

theorem TabW.same {s s' : Mm} {F : Nat → Prop} {v : Value} {A O R G : Nat} {flat : List Int} (h : TabW s v A O R G flat) (g : Same s s' F) (hA : ¬ F A) (hO : ¬ F O) : TabW s' v A O R G flat :=
  ⟨h.v, by rw [g.get _ h.hO hO]; exact h.out, by rw [g.get _ h.hA hA]; exact h.all, h.len, Nat.lt_of_lt_of_le h.hO g.nxt, Nat.lt_of_lt_of_le h.hA g.nxt, h.ne, h.hR, h.hG⟩

theorem repZ_one (z : Value) : ∀ n, repZ [z] n = List.replicate n z := by
  intro n
  induction n with
  | zero => rfl
  | succ n ih => simp only [repZ, ih, List.replicate_succ]; rfl

theorem set_next {f : Nat → Value} {z : Value} {R k : Nat} (hk : k < R) : ((List.range k).map f ++ List.replicate (R - k) z).set k (f k) = (List.range (k + 1)).map f ++ List.replicate (R - (k + 1)) z := by
  rw [List.set_append_right _ _ (by simp)]
  simp only [List.length_map, List.length_range, Nat.sub_self]
  obtain ⟨m, hm⟩ : ∃ m, R - k = m + 1 := ⟨R - k - 1, by omega⟩
  rw [hm, List.replicate_succ, List.set_cons_zero, List.range_succ, List.map_append, show R - (k + 1) = m by omega]
  simp

theorem slV_3 {A N l h : Nat} {k1 k2 k3 : IntKind} (hl : l ≤ h) (hN : h ≤ N) (hO : N < OPEN) : slV 1 (.slice (some ⟨A, 0, none⟩) N N) (some (.int k1 l)) (some (.int k2 h)) (some (.int k3 h)) = some (.slice (some (if h = l then ⟨A, 0, none⟩ else ⟨A, l, none⟩)) (h - l) (h - l)) := by
  have h1 : bndV (.int k3 (h : Int)) N = some h := bnd_int rfl hN
  have h2 : bndV (.int k2 (h : Int)) h = some h := bnd_int rfl (Nat.le_refl _)
  have h3 : bndV (.int k1 (l : Int)) h = some l := bnd_int rfl hl
  have hb : bounds N N (some (.int k1 (l : Int))) (some (.int k2 (h : Int))) (some (.int k3 (h : Int))) = some (l, h, h) := by
    delta bounds
    simp only [h1, h2, h3]
  simp only [slV, if_pos hO, hb, Option.map_some, add_none', Nat.zero_add, Nat.mul_one]
  split <;> rfl

theorem row_slV {A N p G : Nat} {k1 k2 k3 : IntKind} (hN : p * G + G ≤ N) (hO : N < OPEN) : slV 1 (.slice (some ⟨A, 0, none⟩) N N) (some (.int k1 (p * G : Nat))) (some (.int k2 (p * G + G : Nat))) (some (.int k3 (p * G + G : Nat))) = some (rowSl A G p) := by
  rw [slV_3 (by omega) hN hO, rowSl]
  have e : p * G + G - p * G = G := by omega
  rw [e]
  split
  · rename_i h0
    have : G = 0 := by omega
    subst this; rfl
  · rfl

theorem makeSlD_eq {nid bytes l c : Nat} {z : List Value} {k k' : IntKind} {i j : Int} (hi : i = l) (hj : j = c) (hlc : l ≤ c) (hc : c < 4611686018427387904) (hb : bytes * c ≤ 281474976710656) :
    makeSlD nid bytes z (.int k i) (.int k' j) = some (.slice (some ⟨nid, 0, none⟩) l c, .cells (repZ z c) false) := by
  subst hi; subst hj
  simp only [makeSlD]
  rw [if_pos ⟨by omega, by omega, by omega, by simpa using hb⟩]
  simp


theorem run47 {X : Ctx} (hX : X.fns = fnsOf Try.prog) (ho : ∀ f args, f ≠ 9 → X.orc f args = none) {s : Mm} {R G : Nat} (hR : R ≤ 256) (hG : G ≤ 16384) :
    CallP X 47 [.int .i64 (R : Nat), .int .i64 (G : Nat)] s (fun r s' => TabW s' r s.nxt (s.nxt + 1) R G (List.replicate (R * G) 0) ∧ Same s s' (fun _ => False) ∧ s'.nxt = s.nxt + 2) := by
  have hRG : R * G ≤ 256 * 16384 := Nat.mul_le_mul hR hG
  have hO1 : R * G < OPEN := by unfold OPEN; omega
  refine CallP_of (hX ▸ ir47_eq) (ho _ _ (by decide)) (Nat.le_of_ble_eq_true rfl) ?_
  refine W_seq (W_ops [0, 1] ?_)
  simp only [o47_0, WO_move, WO_nil, geT_put, frame_nil, frame_cons, evO_const, keep_nil, keep_cons, keepK_eq, Nat.reduceEqDiff, Nat.reduceAdd, reduceIte, eq_self, Nat.zero_add]
  intro fr e0 e1
  refine SeqK_n ?_
  have cRG : (R : Int) * (G : Nat) = ((R * G : Nat) : Int) := by rw [Int.natCast_mul]
  refine W_seq (W_draw [1, 5, 6] _ rfl ?_)
  simp only [d47_1, WD_bin, WD_makeSlice, WD_move, bin_mul, WD_nil, DPureK_some, DNewK_some, joinAll_nil, joinAll_cons, geT_put, evO_tmp, keep_nil, keep_cons, keepK_eq, Nat.reduceEqDiff, Nat.reduceAdd, reduceIte, eq_self, Nat.zero_add, e0, e1, cRG, wrap_i64 (n := ((R * G : Nat) : Int)) (by omega) (by omega), makeSlD_eq (bytes := 2) (l := R * G) (c := R * G) (z := [.int .i16 0]) (nid := s.nxt) (k := .i64) (k' := .i64) rfl rfl (Nat.le_refl _) (by omega) (by omega), makeSlD_eq (bytes := 24) (l := R) (c := R) (z := [.slice none 0 0]) (nid := s.nxt + 1) (k := .i64) (k' := .i64) rfl rfl (Nat.le_refl _) (by omega) (by omega)]
  clear e0 e1
  intro fr e1 e5 e6
  refine SeqK_n ?_
  obtain ⟨s1, hs1d⟩ : ∃ s1, s1 = setH { h := s.h, nxt := s.nxt + countNew d47_1 } (Store.put (Store.put s.h s.nxt (some (ABlk.cells (repZ [Value.int IntKind.i16 0] (R * G)) false))) (s.nxt + 1) (some (ABlk.cells (repZ [Value.slice none 0 0] R) false))) := ⟨_, rfl⟩
  refine (?_ : W X (((ACode.ops o47_2).seq (ACode.block 0 b47_3.loop)).seq ((ACode.ops o47_8).seq ACode.ret)) fr (setH { h := s.h, nxt := s.nxt + countNew d47_1 } (Store.put (Store.put s.h s.nxt (some (ABlk.cells (repZ [Value.int IntKind.i16 0] (R * G)) false))) (s.nxt + 1) (some (ABlk.cells (repZ [Value.slice none 0 0] R) false)))) _)
  rw [← hs1d]
  have hA : Store.get s1.h s.nxt = some (.cells (List.replicate (R * G) (.int .i16 0)) false) := by
    rw [hs1d, setH_h, Store.get_put, if_neg (by omega), Store.get_put, if_pos rfl, repZ_one]
  have hO : Store.get s1.h (s.nxt + 1) = some (.cells (List.replicate R (.slice none 0 0)) false) := by
    rw [hs1d, setH_h, Store.get_put, if_pos rfl, repZ_one]
  have hn : s1.nxt = s.nxt + 2 := by rw [hs1d]; rfl
  have hsm : Same s s1 (fun _ => False) := ⟨by omega, fun B hB _ => by rw [hs1d, setH_h, Store.get_put, if_neg (by omega), Store.get_put, if_neg (by omega)]⟩
  clear hs1d
  refine W_assoc ?_
  refine W_seq (W_ops [1, 5, 6, 15, 16] ?_)
  simp only [o47_2, WO_bu, bu_len, WO_move, WO_nil, PureK_some, geT_put, evO_tmp, evO_const, keep_nil, keep_cons, keepK_eq, List.map_cons, List.map_nil, Nat.reduceEqDiff, reduceIte, eq_self, e1, e5, e6]
  clear e1 e5 e6
  intro fr e1 e5 e6 e15 e16
  refine SeqK_n ?_
  refine W_seq (W_block (W_loop (fun m fr s3 => ∃ k, k + m = R ∧ geT fr 1 = .int .i64 (G : Nat) ∧ geT fr 5 = .slice (some ⟨s.nxt, 0, none⟩) (R * G) (R * G) ∧ geT fr 6 = .slice (some ⟨s.nxt + 1, 0, none⟩) R R ∧ geT fr 15 = .int .i64 (R : Nat) ∧ geT fr 16 = .int .i64 (k : Nat) ∧
    Store.get s3.h s.nxt = some (.cells (List.replicate (R * G) (.int .i16 0)) false) ∧ Store.get s3.h (s.nxt + 1) = some (.cells ((List.range k).map (rowSl s.nxt G) ++ List.replicate (R - k) (.slice none 0 0)) false) ∧ s3.nxt = s.nxt + 2 ∧ Same s s3 (fun _ => False)) R ⟨0, by omega, e1, e5, e6, e15, e16, hA, hO, hn, hsm⟩ ?_))
  clear e1 e5 e6 e15 e16 fr hA hO hn hsm s1
  rintro m fr s1 ⟨k, hk, e1, e5, e6, e15, e16, hA, hO, hn, hsm⟩
  refine W_seq (W_ops [1, 5, 6, 15, 16, 17] ?_)
  simp only [o47_4, WO_bin, bin_lss, WO_nil, PureK_some, geT_put, evO_tmp, keep_nil, keep_cons, keepK_eq, Nat.reduceEqDiff, reduceIte, eq_self, e1, e5, e6, e15, e16]
  clear e1 e5 e6 e15 e16
  intro fr e1 e5 e6 e15 e16 e17
  refine SeqK_n ?_
  refine W_while e17 (fun hlt => ?_) (fun hlt => ?_)
  · have hk1 : k < R := by omega
    have hmul : k * G + G ≤ R * G := by rw [← Nat.succ_mul]; exact Nat.mul_le_mul_right _ hk1
    refine W_seq (W_block ?_)
    refine W_seq (W_ops [1, 5, 6, 7, 15, 16] ?_)
    simp only [o47_5, WO_move, WO_nil, geT_put, evO_tmp, keep_nil, keep_cons, keepK_eq, Nat.reduceEqDiff, reduceIte, eq_self, e1, e5, e6, e15, e16]
    clear e1 e5 e6 e15 e16 e17
    intro fr e1 e5 e6 e7 e15 e16
    refine SeqK_n ?_
    have ckG : (k : Int) * (G : Nat) = ((k * G : Nat) : Int) := by rw [Int.natCast_mul]
    have ckG2 : ((k * G : Nat) : Int) + (G : Nat) = ((k * G + G : Nat) : Int) := by omega
    have w1 := wrap_i64 (n := ((k * G : Nat) : Int)) (by omega) (by omega)
    have w2 := wrap_i64 (n := ((k * G + G : Nat) : Int)) (by omega) (by omega)
    have hsl := row_slV (A := s.nxt) (N := R * G) (p := k) (G := G) (k1 := .i64) (k2 := .i64) (k3 := .i64) hmul hO1
    have had : addrSlV 1 (.slice (some ⟨s.nxt + 1, 0, none⟩) R R) (.int .i64 (k : Nat)) = some (.pointer (some ⟨s.nxt + 1, k, none⟩)) := by
      have : (0 : Int) ≤ (k : Int) ∧ (k : Int) < (R : Int) := ⟨by omega, by omega⟩
      simp only [addrSlV, idxV, if_pos this, add_none', Nat.mul_one, Nat.zero_add, Int.toNat_natCast]
    have hst := store_g (o := k) (x := rowSl s.nxt G k) hO rfl (by simp; omega)
    rw [set_next hk1] at hst
    refine W_ops [1, 5, 6, 15, 16] ?_
    simp only [o47_6, WO_addrSl, WO_bin, WO_move, WO_slSl, WO_store, bin_add, bin_mul, WO_nil, PureK_some, MemK_some, geT_put, puT_none, evO_tmp, keep_nil, keep_cons, keepK_eq, Option.map_some, Nat.reduceEqDiff, reduceIte, eq_self, e1, e5, e6, e7, e15, e16, ckG, w1, ckG2, w2, hsl, had, hst]
    clear e1 e5 e6 e7 e15 e16
    intro fr e1 e5 e6 e15 e16
    refine BlkK_n (SeqK_n ?_)
    refine W_ops [1, 5, 6, 15, 16] ?_
    simp only [o47_7, WO_bin, WO_move, bin_add, WO_nil, PureK_some, geT_put, evO_tmp, evO_const, keep_nil, keep_cons, keepK_eq, Nat.reduceEqDiff, reduceIte, eq_self, e1, e5, e6, e15, e16, wrap_i64 (n := (k : Int) + 1) (by omega) (by omega)]
    clear e1 e5 e6 e15 e16
    intro fr e1 e5 e6 e15 e16
    refine LoopK_n (m' := m - 1) (by omega) ⟨k + 1, by omega, e1, e5, e6, e15, by rw [e16]; rfl, ?_, ?_, hn, ?_⟩
    · rw [get_set, if_neg (by omega)]; exact hA
    · rw [get_set, if_pos rfl]
    · exact hsm.trans (.set (F := fun b => b = s.nxt + 1) rfl) (fun _ _ h => h) (fun _ hB h => by omega)
  · have : k = R := by omega
    subst this
    refine LoopK_x (BlkK_e (SeqK_n ?_))
    refine W_seq (W_ops [4] ?_)
    simp only [o47_8, WO_move, WO_nil, geT_put, evO_tmp, keep_nil, keep_cons, keepK_eq, Nat.reduceEqDiff, reduceIte, eq_self, e6]
    clear e1 e5 e6 e15 e16 e17
    intro fr e4
    refine SeqK_n ?_
    refine W_ret (Ret1 e4 ⟨⟨rfl, ?_, ?_, by simp, by omega, by omega, by omega, by unfold OPEN; omega, by unfold OPEN; omega⟩, hsm, hn⟩)
    · rw [hO]; simp
    · rw [hA]; simp

end Go.Proofs.Ytkfcejhebepdkaa

/- The first frame of bytes, where it is there. -/
namespace Go.Proofs.Ytkfcejhebepdkaa
open Go Go.Vam

def i16of (n : Nat) : Int := if n < 32768 then n else (n : Int) - 65536

theorem wrap_i16of {n : Nat} (h : n < 65536) : wrapK .i16 (n : Int) = i16of n := by
  simp only [wrapK, i16of]
  split <;> split <;> omega

def decA (b : List UInt8) (C o : Nat) : List Int := (List.range C).map fun c => i16of (getF 0 (subB b (27 + 4 * c + o) (27 + 4 * c + o + 2)))

structure FrS where
  T : Nat
  U : Nat
  re : List (List Int)
  im : List (List Int)

def rowsN (b : List UInt8) : Nat := getF 0 (subB b 23 25)
def colN (b : List UInt8) : Nat := getF 0 (subB b 25 27)

/-- The frame that bytes say. -/
def frOf (b : List UInt8) : FrS := ⟨getF 0 (subB b 7 15), getF 0 (subB b 15 23), chunk (rowsN b) (colN b) (decA b (rowsN b * colN b) 0), chunk (rowsN b) (colN b) (decA b (rowsN b * colN b) 2)⟩

theorem fst_got {b : List UInt8} {n : Nat} (h : fstF b = .got n) : n = getF 0 (subB b 3 7) ∧ 20 ≤ n ∧ n % 4 = 0 ∧ n + 11 ≤ b.length ∧ largeB (rowsN b) (colN b) = false ∧ rowsN b * colN b = (n - 20) / 4 ∧ (rowsN b = 0 → colN b = 0) ∧
    finB (getF 0 (subB b 7 15)) = true ∧ okU (getF 0 (subB b 15 23)) = true ∧ b.take 3 = hdr ∧ fnvF 2166136261 (subB b 0 (n + 7)) = getF 0 (subB b (n + 7) (n + 11)) := by
  unfold fstF at h
  split at h; · cases h
  rename_i h1
  split at h; · cases h
  rename_i h2
  split at h; · cases h
  rename_i h3
  split at h; · cases h
  split at h; · cases h
  rename_i h5
  split at h; · cases h
  split at h; · cases h
  rename_i h7
  split at h; · cases h
  rename_i h8
  split at h; · cases h
  rename_i h9
  cases h
  simp only [badN, Bool.or_eq_true, decide_eq_true_eq, Bool.not_eq_true', decide_eq_false_iff_not, not_or, Classical.not_not] at h3
  simp only [badG, Bool.or_eq_true, Bool.and_eq_true, decide_eq_true_eq, Bool.not_eq_true', decide_eq_false_iff_not, not_or, Classical.not_not, Bool.not_eq_true] at h7
  simp only [Bool.not_eq_false, Bool.and_eq_true] at h5
  simp only [ne_eq, Classical.not_not] at h1 h9
  rw [Nat.min_eq_right (by omega)] at h1
  exact ⟨rfl, by omega, by omega, by omega, h7.1, h7.2.2, fun e => by have := h7.2.1; unfold rowsN colN at *; omega, h5.1, h5.2, by rw [h1]; rfl, h9⟩

theorem TabW.store {s : Mm} {v : Value} {A O R G : Nat} {l : List Int} (h : TabW s v A O R G l) {c : Nat} (hc : c < R * G) (x : Int) :
    ∃ s', storeV s 1 (.pointer (some ⟨A, c, none⟩)) (.int .i16 x) = some (undefV, s') ∧ TabW s' v A O R G (l.set c x) ∧ Same s s' (· = A) := by
  have hst := store_g (o := c) (x := .int .i16 x) h.all rfl (by rw [List.length_map, h.len]; exact hc)
  rw [← List.map_set] at hst
  refine ⟨_, hst, ⟨h.v, ?_, ?_, by rw [List.length_set]; exact h.len, h.hO, h.hA, h.ne, h.hR, h.hG⟩, .set rfl⟩
  · rw [get_set, if_neg (fun e => h.ne e.symm)]; exact h.out
  · rw [get_set, if_pos rfl]

theorem TabW.row {s : Mm} {v : Value} {A O R G : Nat} {l : List Int} (h : TabW s v A O R G l) {p : Nat} (hp : p < R) {kk : IntKind} {i : Int} (hi : i = p) :
    addrSlV 1 v (.int kk i) = some (.pointer (some ⟨O, p, none⟩)) ∧ loadV s none (.pointer (some ⟨O, p, none⟩)) = some (rowSl A G p) := by
  constructor
  · rw [h.v]
    subst hi
    have : (0 : Int) ≤ (p : Int) ∧ (p : Int) < (R : Int) := ⟨by omega, by omega⟩
    simp only [addrSlV, idxV, if_pos this, add_none', Nat.mul_one, Nat.zero_add, Int.toNat_natCast]
  · rw [load_g h.out, List.getElem?_map, List.getElem?_range hp]; rfl

theorem row_addr {A G p g : Nat} {kk : IntKind} {i : Int} (hi : i = g) (hg : g < G) : addrSlV 1 (rowSl A G p) (.int kk i) = some (.pointer (some ⟨A, p * G + g, none⟩)) := by
  subst hi
  have : (0 : Int) ≤ (g : Int) ∧ (g : Int) < (G : Int) := ⟨by omega, by omega⟩
  simp only [rowSl, addrSlV, idxV, if_pos this, add_none', Nat.mul_one, Int.toNat_natCast]

def decPre (b : List UInt8) (C o c : Nat) : List Int := (decA b C o).take c ++ List.replicate (C - c) 0

theorem decPre_set {b : List UInt8} {C o c : Nat} (hc : c < C) : (decPre b C o c).set c (i16of (getF 0 (subB b (27 + 4 * c + o) (27 + 4 * c + o + 2)))) = decPre b C o (c + 1) := by
  have hl : (decA b C o).length = C := by simp [decA]
  unfold decPre
  rw [List.set_append_right _ _ (by rw [List.length_take, hl]; omega), List.length_take, hl, Nat.min_eq_left (by omega), Nat.sub_self]
  obtain ⟨m, hm⟩ : ∃ m, C - c = m + 1 := ⟨C - c - 1, by omega⟩
  rw [hm, List.replicate_succ, List.set_cons_zero, List.take_add_one, List.append_assoc, show C - (c + 1) = m by omega]
  congr 1
  have : (decA b C o)[c]? = some (i16of (getF 0 (subB b (27 + 4 * c + o) (27 + 4 * c + o + 2)))) := by
    unfold decA
    rw [List.getElem?_map, List.getElem?_range hc]; rfl
  rw [this]; rfl

theorem decPre_all {b : List UInt8} {C o : Nat} : decPre b C o C = decA b C o := by
  have hl : (decA b C o).length = C := by simp [decA]
  unfold decPre
  rw [Nat.sub_self, List.take_of_length_le (by omega)]
  simp

/-- What is answered where a frame is there. -/
def GotP (s : Mm) (b : List UInt8) (r : Value) (s' : Mm) : Prop := ∃ n rv iv A O A2 O2, fstF b = .got n ∧ r = .tuple #[.agg #[.float .f64 (frOf b).T, .float .f64 (frOf b).U, rv, iv], .int .i64 ((n + 11 : Nat) : Int), .bool false] ∧ Same s s' (fun _ => False) ∧
  s.nxt ≤ A ∧ s.nxt ≤ O ∧ s.nxt ≤ A2 ∧ s.nxt ≤ O2 ∧ A ≠ A2 ∧ A ≠ O2 ∧ O ≠ A2 ∧ O ≠ O2 ∧
  TabW s' rv A O (rowsN b) (colN b) (decA b (rowsN b * colN b) 0) ∧ TabW s' iv A2 O2 (rowsN b) (colN b) (decA b (rowsN b * colN b) 2)


set_option maxHeartbeats 1000000 in
theorem got28 {X : Ctx} (hX : X.fns = fnsOf Try.prog) (ho : ∀ f args, f ≠ 9 → X.orc f args = none) {s s' : Mm} {v : Value} {b : List UInt8} {n : Nat} {fr : Fr} (h : Bs s v b) (hn : b.length ≤ 70368744177664) (hG : Got28 s s' v b n fr) : W X suf28 fr s' (RetK ir28.results (GotP s b)) := by
  obtain ⟨hn0, hf, e0, e2, e6, e7, e8, e9, hg, hs, hnx⟩ := hG
  obtain ⟨_, f1, f2, f3, f4, f5, f6, _⟩ := fst_got hf
  have hRn : getF 0 (subB b 23 25) = rowsN b := rfl
  have hGn : getF 0 (subB b 25 27) = colN b := rfl
  have hTn : getF 0 (subB b 7 15) = (frOf b).T := rfl
  have hUn : getF 0 (subB b 15 23) = (frOf b).U := rfl
  rw [hRn] at e8
  rw [hGn] at e9
  rw [hTn, hUn] at hg
  obtain ⟨C, hC⟩ : ∃ C, C = rowsN b * colN b := ⟨_, rfl⟩
  obtain ⟨l1, l2, l3⟩ := large_spec f4
  have hCn : C = (n - 20) / 4 := by rw [hC]; exact f5
  rw [← hCn] at e7
  unfold suf28
  have hR256 : rowsN b ≤ 256 := l1
  have hG16 : colN b ≤ 16384 := l2
  refine W_seq (W_ops [0, 2, 6, 7, 9] ?_)
  simp only [o28_24, WO_call, WO_move, geT_put, evO_tmp, List.map_cons, List.map_nil, Nat.reduceEqDiff, reduceIte, eq_self, e8, e9]
  refine CallK_of (run47 hX ho hR256 hG16) ?_
  rintro rv s2 ⟨t2, hs2, hn2⟩
  simp only [WO_call, WO_move, geT_put, evO_tmp, List.map_cons, List.map_nil, Nat.reduceEqDiff, reduceIte, eq_self, e8, e9]
  refine CallK_of (run47 hX ho hR256 hG16) ?_
  rintro iv s3 ⟨t3, hs3, hn3⟩
  have hs23 : Same s' s3 (fun _ => False) := hs2.trans hs3 (fun _ _ h => h) (fun _ _ h => h)
  have hg3 : Store.get s3.h s.nxt = some (.cells [.float .f64 (frOf b).T, .float .f64 (frOf b).U, .slice none 0 0, .slice none 0 0] false) := by rw [hs23.get _ hnx (fun h => h)]; exact hg
  have hst1 : storeV s3 1 (.pointer (some ⟨s.nxt, 2, none⟩)) rv = some (undefV, setBlk s3 s.nxt (.cells [.float .f64 (frOf b).T, .float .f64 (frOf b).U, rv, .slice none 0 0] false)) := store_g (o := 2) hg3 (by rw [t2.v]; rfl) (by simp)
  have hg4 : Store.get (setBlk s3 s.nxt (.cells [.float .f64 (frOf b).T, .float .f64 (frOf b).U, rv, .slice none 0 0] false)).h s.nxt = some (.cells [.float .f64 (frOf b).T, .float .f64 (frOf b).U, rv, .slice none 0 0] false) := by rw [get_set, if_pos rfl]
  have hst2 : storeV (setBlk s3 s.nxt (.cells [.float .f64 (frOf b).T, .float .f64 (frOf b).U, rv, .slice none 0 0] false)) 1 (.pointer (some ⟨s.nxt, 3, none⟩)) iv = some (undefV, setBlk (setBlk s3 s.nxt (.cells [.float .f64 (frOf b).T, .float .f64 (frOf b).U, rv, .slice none 0 0] false)) s.nxt (.cells [.float .f64 (frOf b).T, .float .f64 (frOf b).U, rv, iv] false)) :=
    store_g (o := 3) hg4 (by rw [t3.v]; rfl) (by simp)
  simp only [WO_fieldAddr, fieldAddr_p, WO_store, WO_nil, PureK_some, MemK_some, geT_put, puT_none, evO_tmp, keep_nil, keep_cons, keepK_eq, Nat.reduceEqDiff, reduceIte, eq_self, Nat.zero_add, e0, e2, e6, e7, e9, hst1, hst2]
  clear e0 e2 e6 e7 e8 e9
  intro fr e0 e2 e6 e7 e9
  refine SeqK_n ?_
  have hg5 : Store.get (setBlk (setBlk s3 s.nxt (.cells [.float .f64 (frOf b).T, .float .f64 (frOf b).U, rv, .slice none 0 0] false)) s.nxt (.cells [.float .f64 (frOf b).T, .float .f64 (frOf b).U, rv, iv] false)).h s.nxt = some (.cells [.float .f64 (frOf b).T, .float .f64 (frOf b).U, rv, iv] false) := by rw [get_set, if_pos rfl]
  have hs35 : Same s3 (setBlk (setBlk s3 s.nxt (.cells [.float .f64 (frOf b).T, .float .f64 (frOf b).U, rv, .slice none 0 0] false)) s.nxt (.cells [.float .f64 (frOf b).T, .float .f64 (frOf b).U, rv, iv] false)) (fun b => b = s.nxt) :=
    (Same.set (F := fun b => b = s.nxt) rfl).trans (.set (F := fun b => b = s.nxt) rfl) (fun _ _ h => h) (fun _ _ h => h)
  have hs05 := (hs.trans hs23 (fun _ _ h => h) (fun _ _ h => h)).trans hs35 (G := fun _ => False) (fun _ _ h => h) (fun B hB h => by omega)
  have t3' := t3.same hs35 (by omega) (by omega)
  have t2' := (t2.same hs3 (fun h => h) (fun h => h)).same hs35 (by omega) (by omega)
  clear hst1 hst2 hg4 hg3 hg t2 t3 hs35
  generalize setBlk (setBlk s3 s.nxt (.cells [.float .f64 (frOf b).T, .float .f64 (frOf b).U, rv, .slice none 0 0] false)) s.nxt (.cells [.float .f64 (frOf b).T, .float .f64 (frOf b).U, rv, iv] false) = s5 at hg5 hs05 t2' t3' ⊢
  obtain ⟨A, hA⟩ : ∃ A, A = s'.nxt := ⟨_, rfl⟩
  obtain ⟨A2, hA2⟩ : ∃ A, A = s2.nxt := ⟨_, rfl⟩
  rw [← hA] at t2'
  rw [← hA2] at t3'
  have z0 : List.replicate (rowsN b * colN b) (0 : Int) = decPre b C 0 0 := by rw [hC]; simp [decPre]
  have z2 : List.replicate (rowsN b * colN b) (0 : Int) = decPre b C 2 0 := by rw [hC]; simp [decPre]
  rw [z0] at t2'
  rw [z2] at t3'
  refine W_assoc ?_
  refine W_seq (W_ops [0, 2, 6, 7, 9, 10, 11] ?_)
  simp only [o28_25, WO_move, WO_nil, geT_put, evO_const, keep_nil, keep_cons, keepK_eq, Nat.reduceEqDiff, reduceIte, eq_self, e0, e2, e6, e7, e9]
  clear e0 e2 e6 e7 e9
  intro fr e0 e2 e6 e7 e9 e10 e11
  refine SeqK_n ?_
  refine W_seq (W_block (W_loop (fun m fr s3 => ∃ c, c + m = C ∧ geT fr 0 = v ∧ geT fr 2 = .pointer (some ⟨s.nxt, 0, none⟩) ∧ geT fr 6 = .int .i64 (n : Nat) ∧ geT fr 7 = .int .i64 (C : Nat) ∧ geT fr 9 = .int .i64 (colN b : Nat) ∧ geT fr 10 = .int .i64 ((27 + 4 * c : Nat)) ∧ geT fr 11 = .int .i64 (c : Nat) ∧
    Store.get s3.h s.nxt = some (.cells [.float .f64 (frOf b).T, .float .f64 (frOf b).U, rv, iv] false) ∧ Same s s3 (fun _ => False) ∧ TabW s3 rv A (A + 1) (rowsN b) (colN b) (decPre b C 0 c) ∧ TabW s3 iv A2 (A2 + 1) (rowsN b) (colN b) (decPre b C 2 c)) C
    ⟨0, by omega, e0, e2, e6, e7, e9, e10, e11, hg5, hs05, t2', t3'⟩ ?_))
  clear e0 e2 e6 e7 e9 e10 e11 fr hg5 hs05 t2' t3' s5 z0 z2
  rintro m fr s1 ⟨c, hc, e0, e2, e6, e7, e9, e10, e11, hg, hs1, t2, t3⟩
  refine W_assoc ?_
  refine W_seq (W_ops [0, 2, 6, 7, 9, 10, 11, 139] ?_)
  simp only [o28_27, WO_bin, WO_move, bin_lss, WO_nil, PureK_some, geT_put, evO_tmp, keep_nil, keep_cons, keepK_eq, Nat.reduceEqDiff, reduceIte, eq_self, e0, e2, e6, e7, e9, e10, e11]
  clear e0 e2 e6 e7 e9 e10 e11
  intro fr e0 e2 e6 e7 e9 e10 e11 e139
  refine SeqK_n ?_
  refine W_while e139 (fun hlt => ?_) (fun hlt => ?_)
  · have hcC : c < C := by omega
    have hG0 : 0 < colN b := by
      rcases Nat.eq_zero_or_pos (colN b) with h0 | h0
      · rw [h0, Nat.mul_zero] at hC; omega
      · exact h0
    have hp : c / colN b < rowsN b := by
      rw [Nat.div_lt_iff_lt_mul hG0, ← hC]; exact hcC
    have hgm : c % colN b < colN b := Nat.mod_lt _ hG0
    obtain ⟨p, hpd⟩ : ∃ p, p = c / colN b := ⟨_, rfl⟩
    obtain ⟨g, hgd⟩ : ∃ g, g = c % colN b := ⟨_, rfl⟩
    have hpg : c / colN b * colN b + c % colN b = c := Nat.div_add_mod' c (colN b)
    have hz : ¬ ((colN b : Nat) : Int) = 0 := by omega
    have q1 : (c : Int).tdiv (colN b : Nat) = ((p : Nat) : Int) := by rw [hpd]; rfl
    have q2 : (c : Int).tmod (colN b : Nat) = ((g : Nat) : Int) := by rw [hgd]; rfl
    have hle : p ≤ c := by rw [hpd]; exact Nat.div_le_self _ _
    have wq := wrap_i64 (n := ((p : Nat) : Int)) (by omega) (by omega)
    rw [← hpd] at hp hpg
    rw [← hgd] at hgm hpg
    have hb1 : Bs s1 v b := h.same hs1 (fun _ _ h => h)
    have L2 := load_g (o := 2) hg
    have L3 := load_g (o := 3) hg
    simp only [List.getElem?_cons_zero, List.getElem?_cons_succ] at L2 L3
    obtain ⟨a1, a2⟩ := t2.row (kk := .i64) (i := ((p : Nat) : Int)) hp rfl
    have a3 := row_addr (A := A) (p := p) (kk := .i64) (i := ((g : Nat) : Int)) rfl hgm
    rw [hpg] at a3
    have hend : 27 + 4 * c + 4 ≤ b.length := by omega
    have x1 := getF_16 (b := b) (l := 27 + 4 * c + 0) (h := 27 + 4 * c + 0 + 2) rfl (by omega)
    have x2 := getF_16 (b := b) (l := 27 + 4 * c + 2) (h := 27 + 4 * c + 2 + 2) rfl (by omega)
    obtain ⟨s6, st6, t6, hs6⟩ := t2.store (c := c) (by omega) (i16of (getF 0 (subB b (27 + 4 * c + 0) (27 + 4 * c + 0 + 2))))
    rw [decPre_set hcC] at t6
    simp only [Nat.add_zero] at st6 x1
    have sl1 : slV 1 v (some (.int .i64 ((27 + 4 * c : Nat) : Int))) (some (.int .i64 (((27 + 4 * c : Nat) : Int) + 2))) none = some (subS 1 v (27 + 4 * c + 0) (27 + 4 * c + 0 + 2)) := hb1.sl (by omega) (by omega) (by omega) (by omega)
    have ww1 := wrap_i64 (n := ((27 + 4 * c : Nat) : Int) + 2) (by omega) (by omega)
    have ww2 := wrap_i64 (n := ((27 + 4 * c : Nat) : Int) + 4) (by omega) (by omega)
    refine W_seq (W_block ?_)
    refine W_seq (W_draw0 [0, 2, 6, 7, 9, 10, 11] rfl ?_)
    simp only [d28_28, WD_addrSl, WD_bin, WD_call, WD_fieldAddr, fieldAddr_p, WD_load, WD_move, WD_slSl, bin_add, bin_quo, bin_rem, DPureK_some, DReadK_some, pastR_nil, joinF_nil, setH_self, geT_put, evO_tmp, evO_const, List.map_cons, List.map_nil, Option.map_some, Option.map_none, Nat.reduceEqDiff, Nat.reduceAdd, reduceIte, eq_self, true_and, Nat.zero_add, Nat.add_zero, e0, e2, e9, e10, e11, L2, hz, q1, q2, wq, a1, a2, sl1, ww1]
    have hsr : sameO (some rv) rv = true := by rw [t2.v]; exact sameO_sl
    have hsr' : sameO (some (rowSl A (colN b) p)) (rowSl A (colN b) p) = true := sameO_sl
    refine DCallK_of rfl (run49 hX ho (Bs.sub hb1 (by omega : 27 + 4 * c + 0 ≤ 27 + 4 * c + 0 + 2) (by omega)) (by rw [subB_length (by omega)]; omega)) ?_
    rintro _ _ ⟨rfl, rfl⟩
    simp only [WD_addrSl, WD_conv, conv_int, WD_store, WD_nil, DPureK_some, DActK_some, preHead_cons, joinF_nil, joinAll_nil, setH_self, Nat.testBit, Nat.reduceShiftRight, Nat.reduceAnd, Nat.reduceBneDiff, List.all_nil, List.all_cons, List.filter_nil, List.filter_cons, bne_self_eq_false, geT_put, puT_none, evO_tmp, keep_nil, keep_cons, keepK_eq, Nat.reduceEqDiff, Nat.reduceAdd, reduceIte, Bool.not_true, Bool.not_false, Bool.and_true, Bool.or_true, Bool.true_or, eq_self, Bool.false_eq_true, true_and, e0, e2, e6, e7, e9, e10, e11, L2, hsr, a2, hsr', wrap_i16of x1, a3, st6]
    clear e0 e2 e6 e7 e9 e10 e11 e139
    intro fr e0 e2 e6 e7 e9 e10 e11
    refine SeqK_n ?_
    have hne1 : s.nxt ≠ A := by have := hs1.nxt; omega
    have hg6 : Store.get s6.h s.nxt = some (.cells [.float .f64 (frOf b).T, .float .f64 (frOf b).U, rv, iv] false) := by rw [hs6.get _ (by have := t2.hA; omega) hne1]; exact hg
    have t36 := t3.same hs6 (by omega) (by omega)
    have hs16 : Same s s6 (fun _ => False) := hs1.trans hs6 (fun _ _ h => h) (fun B hB h => by omega)
    have hb6 : Bs s6 v b := h.same hs16 (fun _ _ h => h)
    have L2 := load_g (o := 2) hg6
    have L3 := load_g (o := 3) hg6
    simp only [List.getElem?_cons_zero, List.getElem?_cons_succ] at L2 L3
    obtain ⟨b1, b2⟩ := t36.row (kk := .i64) (i := ((p : Nat) : Int)) hp rfl
    have b3 := row_addr (A := A2) (p := p) (kk := .i64) (i := ((g : Nat) : Int)) rfl hgm
    rw [hpg] at b3
    obtain ⟨s7, st7, t7, hs7⟩ := t36.store (c := c) (by omega) (i16of (getF 0 (subB b (27 + 4 * c + 2) (27 + 4 * c + 2 + 2))))
    rw [decPre_set hcC] at t7
    have sl2 : slV 1 v (some (.int .i64 (((27 + 4 * c : Nat) : Int) + 2))) (some (.int .i64 (((27 + 4 * c : Nat) : Int) + 4))) none = some (subS 1 v (27 + 4 * c + 2) (27 + 4 * c + 2 + 2)) := hb6.sl (by omega) (by omega) (by omega) (by omega)
    have hsi : sameO (some iv) iv = true := by rw [t36.v]; exact sameO_sl
    have hsi' : sameO (some (rowSl A2 (colN b) p)) (rowSl A2 (colN b) p) = true := sameO_sl
    refine W_draw0 [0, 2, 6, 7, 9, 10, 11] rfl ?_
    simp only [d28_29, WD_addrSl, WD_bin, WD_call, WD_fieldAddr, fieldAddr_p, WD_load, WD_move, WD_slSl, bin_add, bin_quo, bin_rem, DPureK_some, DReadK_some, pastR_nil, joinF_nil, setH_self, geT_put, evO_tmp, evO_const, List.map_cons, List.map_nil, Option.map_some, Option.map_none, Nat.reduceEqDiff, Nat.reduceAdd, reduceIte, eq_self, true_and, Nat.zero_add, e0, e2, e9, e10, e11, L3, hz, q1, q2, wq, b1, b2, sl2, ww1, ww2]
    refine DCallK_of rfl (run49 hX ho (Bs.sub hb6 (by omega : 27 + 4 * c + 2 ≤ 27 + 4 * c + 2 + 2) (by omega)) (by rw [subB_length (by omega)]; omega)) ?_
    rintro _ _ ⟨rfl, rfl⟩
    simp only [WD_addrSl, WD_conv, conv_int, WD_store, WD_nil, DPureK_some, DActK_some, preHead_cons, joinF_nil, joinAll_nil, setH_self, Nat.testBit, Nat.reduceShiftRight, Nat.reduceAnd, Nat.reduceBneDiff, List.all_nil, List.all_cons, List.filter_nil, List.filter_cons, bne_self_eq_false, geT_put, puT_none, evO_tmp, keep_nil, keep_cons, keepK_eq, Nat.reduceEqDiff, Nat.reduceAdd, reduceIte, Bool.not_true, Bool.not_false, Bool.and_true, Bool.or_true, Bool.true_or, eq_self, Bool.false_eq_true, true_and, e0, e2, e6, e7, e9, e10, e11, L3, hsi, b2, hsi', wrap_i16of x2, b3, st7]
    clear e0 e2 e6 e7 e9 e10 e11
    intro fr e0 e2 e6 e7 e9 e10 e11
    refine BlkK_n (SeqK_n ?_)
    refine W_ops [0, 2, 6, 7, 9, 10, 11] ?_
    simp only [o28_30, WO_bin, WO_move, bin_add, WO_nil, PureK_some, geT_put, evO_tmp, evO_const, keep_nil, keep_cons, keepK_eq, Nat.reduceEqDiff, reduceIte, eq_self, e0, e2, e6, e7, e9, e10, e11, ww2, wrap_i64 (n := (c : Int) + 1) (by omega) (by omega)]
    clear e0 e2 e6 e7 e9 e10 e11
    intro fr e0 e2 e6 e7 e9 e10 e11
    refine LoopK_n (m' := m - 1) (by omega) ⟨c + 1, by omega, e0, e2, e6, e7, e9, by rw [e10]; congr 1, by rw [e11]; rfl, ?_, ?_, ?_, t7⟩
    · rw [hs7.get _ (by have := t6.hA; omega) (by omega)]; exact hg6
    · exact hs16.trans hs7 (fun _ _ h => h) (fun B hB h => by omega)
    · exact t6.same hs7 (by omega) (by omega)
  · have : c = C := by omega
    subst this
    refine LoopK_x (BlkK_e (SeqK_n ?_))
    refine W_seq (W_ops [2, 3, 4] ?_)
    simp only [o28_31, WO_bin, WO_load, WO_move, WO_store, bin_add, WO_nil, PureK_some, MemK_some, geT_put, puT_none, evO_tmp, evO_const, keep_nil, keep_cons, keepK_eq, Nat.reduceEqDiff, reduceIte, eq_self, e2, e6, loadn_all (n := 4) hg rfl, store_all (n := 4) (vs := [.float .f64 (frOf b).T, .float .f64 (frOf b).U, rv, iv]) hg rfl rfl (by simp [oneCell, t2.v, t3.v]), wrap_i64 (n := (n : Int) + 11) (by omega) (by omega)]
    clear e0 e2 e6 e7 e9 e10 e11 e139
    intro fr e2 e3 e4
    refine SeqK_n ?_
    rw [decPre_all, hC] at t2 t3
    have hs6 : Same s1 (setBlk s1 s.nxt (.cells [.float .f64 (frOf b).T, .float .f64 (frOf b).U, rv, iv] false)) (fun b => b = s.nxt) := .set rfl
    refine W_ret (RetC3 e2 (loadn_all (n := 4) (by rw [get_set, if_pos rfl]) rfl) e3 e4 ⟨n, rv, iv, A, A + 1, A2, A2 + 1, hf, rfl, hs1.trans hs6 (fun _ _ h => h) (fun B hB h => absurd h (Nat.ne_of_lt hB)), by omega, by omega, by omega, by omega, by omega, by omega, by omega, by omega, t2.same hs6 (by omega) (by omega), t3.same hs6 (by omega) (by omega)⟩)

end Go.Proofs.Ytkfcejhebepdkaa

/- A reader that is fed. -/
namespace Go.Proofs.Ytkfcejhebepdkaa
open Go Go.Vam

/-- What comes of bytes: the frames, and what is held; none: torn. -/
def feedF : Nat → List UInt8 → List FrS × Option (List UInt8)
  | 0, b => ([], some b)
  | k + 1, b => match fstF b with
    | .bad => ([], none)
    | .wait => ([], some b)
    | .got n => (frOf b :: (feedF k (b.drop (n + 11))).1, (feedF k (b.drop (n + 11))).2)

/-- Frames that were made, over blocks of their own. -/
inductive FrsW (s : Mm) : (Nat → Prop) → List Value → List FrS → Prop
  | nil : FrsW s (fun _ => False) [] []
  | snoc {K : Nat → Prop} {cells : List Value} {fs : List FrS} {f : FrS} {rv iv : Value} {A O A2 O2 R G : Nat} {l1 l2 : List Int} (h : FrsW s K cells fs) (hA : ¬ K A) (hO : ¬ K O) (hA2 : ¬ K A2) (hO2 : ¬ K O2)
      (n1 : A ≠ A2) (n2 : A ≠ O2) (n3 : O ≠ A2) (n4 : O ≠ O2) (t1 : TabW s rv A O R G l1) (t2 : TabW s iv A2 O2 R G l2) (e1 : f.re = chunk R G l1) (e2 : f.im = chunk R G l2) :
      FrsW s (fun x => K x ∨ x = A ∨ x = O ∨ x = A2 ∨ x = O2) (cells ++ [.float .f64 f.T, .float .f64 f.U, rv, iv]) (fs ++ [f])

theorem FrsW.same {s s' : Mm} {F : Nat → Prop} (g : Same s s' F) {K : Nat → Prop} {cells : List Value} {fs : List FrS} (h : FrsW s K cells fs) : (∀ x, K x → ¬ F x) → FrsW s' K cells fs := by
  induction h with
  | nil => intro _; exact .nil
  | snoc h hA hO hA2 hO2 n1 n2 n3 n4 t1 t2 e1 e2 ih =>
    intro hd
    exact .snoc (ih fun x hx => hd x (.inl hx)) hA hO hA2 hO2 n1 n2 n3 n4 (t1.same g (hd _ (by simp)) (hd _ (by simp))) (t2.same g (hd _ (by simp)) (hd _ (by simp))) e1 e2

theorem FrsW.len {s : Mm} {K : Nat → Prop} {cells : List Value} {fs : List FrS} (h : FrsW s K cells fs) : cells.length = fs.length * 4 := by
  induction h with
  | nil => rfl
  | snoc h hA hO hA2 hO2 n1 n2 n3 n4 t1 t2 e1 e2 ih => simp only [List.length_append, ih, List.length_cons, List.length_nil]; omega

theorem FrsW.lt {s : Mm} {K : Nat → Prop} {cells : List Value} {fs : List FrS} (h : FrsW s K cells fs) : ∀ x, K x → x < s.nxt := by
  induction h with
  | nil => intro x hx; exact hx.elim
  | snoc h hA hO hA2 hO2 n1 n2 n3 n4 t1 t2 e1 e2 ih =>
    intro x hx
    rcases hx with hx | rfl | rfl | rfl | rfl
    · exact ih x hx
    · exact t1.hA
    · exact t1.hO
    · exact t2.hA
    · exact t2.hO

/-- Frames that may be read: their cells. -/
inductive FrsG (s : Mm) (K : Nat → Prop) : List Value → List FrS → Prop
  | nil : FrsG s K [] []
  | cons {f : FrS} {rv iv : Value} {cells : List Value} {fs : List FrS} (t1 : TabG s rv f.re K) (t2 : TabG s iv f.im K) (h : FrsG s K cells fs) : FrsG s K (.float .f64 f.T :: .float .f64 f.U :: rv :: iv :: cells) (f :: fs)

theorem FrsG.app {s : Mm} {K : Nat → Prop} {c1 c2 : List Value} {f1 f2 : List FrS} (h : FrsG s K c1 f1) (g : FrsG s K c2 f2) : FrsG s K (c1 ++ c2) (f1 ++ f2) := by
  induction h with
  | nil => exact g
  | cons t1 t2 h ih => exact .cons t1 t2 ih

theorem FrsG.mono {s : Mm} {K K' : Nat → Prop} {c : List Value} {f : List FrS} (h : FrsG s K c f) (g : ∀ x, K x → K' x) : FrsG s K' c f := by
  induction h with
  | nil => exact .nil
  | cons t1 t2 h ih => exact .cons (t1.mono g) (t2.mono g) ih

theorem FrsG.same {s s' : Mm} {F : Nat → Prop} (g : Same s s' F) {K : Nat → Prop} {c : List Value} {f : List FrS} (h : FrsG s K c f) (hd : ∀ x, K x → ¬ F x) : FrsG s' K c f := by
  induction h with
  | nil => exact .nil
  | cons t1 t2 h ih => exact .cons (t1.same g hd) (t2.same g hd) ih

theorem FrsG.len {s : Mm} {K : Nat → Prop} {c : List Value} {f : List FrS} (h : FrsG s K c f) : c.length = f.length * 4 := by
  induction h with
  | nil => rfl
  | cons t1 t2 h ih => simp only [List.length_cons, ih]; omega

theorem FrsG.at {s : Mm} {K : Nat → Prop} {c : List Value} {fs : List FrS} (h : FrsG s K c fs) : ∀ (i : Nat) (f : FrS), fs[i]? = some f → ∃ rv iv, (c.drop (i * 4)).take 4 = [.float .f64 f.T, .float .f64 f.U, rv, iv] ∧ TabG s rv f.re K ∧ TabG s iv f.im K := by
  induction h with
  | nil => intro i f h; simp at h
  | cons t1 t2 h ih =>
    intro i f hf
    cases i with
    | zero => simp at hf; subst hf; exact ⟨_, _, rfl, t1, t2⟩
    | succ i =>
      obtain ⟨rv, iv, a, b⟩ := ih i f (by simpa using hf)
      refine ⟨rv, iv, ?_, b⟩
      rw [show (i + 1) * 4 = 4 + i * 4 by omega, ← List.drop_drop]
      exact a

theorem FrsW.g {s : Mm} {K : Nat → Prop} {cells : List Value} {fs : List FrS} (h : FrsW s K cells fs) : FrsG s K cells fs := by
  induction h with
  | nil => exact .nil
  | snoc h hA hO hA2 hO2 n1 n2 n3 n4 t1 t2 e1 e2 ih =>
    refine (ih.mono fun x hx => .inl hx).app (.cons ?_ ?_ .nil)
    · rw [e1]; exact t1.tabG.mono fun x hx => by rcases hx with rfl | rfl <;> simp
    · rw [e2]; exact t2.tabG.mono fun x hx => by rcases hx with rfl | rfl <;> simp


/-- What a call of first comes to. -/
theorem first_any {X : Ctx} (hX : X.fns = fnsOf Try.prog) (ho : ∀ f args, f ≠ 9 → X.orc f args = none) {s : Mm} {v : Value} {b : List UInt8} (h : Bs s v b) (hn : b.length ≤ 70368744177664) :
    CallP X 28 [v] s (fun r s' => (∃ cs : List Value, Same s s' (fun _ => False) ∧ cs.length = 4 ∧ cs.all oneCell = true ∧ ((fstF b = .bad ∧ r = .tuple #[.agg cs.toArray, .int .i64 0, .bool true]) ∨ (fstF b = .wait ∧ r = .tuple #[.agg cs.toArray, .int .i64 0, .bool false]))) ∨ GotP s b r s') := by
  refine run28 hX ho h hn (fun h s' cs a1 a2 a3 => .inl ⟨cs, a1, a2, a3, .inl ⟨h, rfl⟩⟩) (fun h s' cs a1 a2 a3 => .inl ⟨cs, a1, a2, a3, .inr ⟨h, rfl⟩⟩) (fun n fr s' g => ?_)
  exact (got28 hX ho h hn g).mono fun e fr s1 hr => by
    unfold RetK at hr ⊢
    split at hr
    · exact hr.elim
    · obtain ⟨vs, a, b⟩ := hr
      exact ⟨vs, a, .inr b⟩

/-- What a reader is behind a call, and what was told. -/
structure Fed (s s' : Mm) (R : Nat) (hv : Value) (r : Value) (fs : List FrS) (rest : Option (List UInt8)) : Prop where
  same : Same s s' (fun x => x = R ∨ footV hv x)
  out : ∃ out n cells K, Own s' 4 out n cells ∧ FrsW s' K cells fs ∧ (∀ x, K x → s.nxt ≤ x ∧ ¬ footV out x) ∧ (∀ x, footV out x → s.nxt ≤ x) ∧
    ((rest = none ∧ r = .tuple #[out, .int .i64 270] ∧ Store.get s'.h R = some (.cells [.slice none 0 0, .bool true] false)) ∨
      (∃ w v' n', rest = some w ∧ r = .tuple #[out, .int .i64 0] ∧ Store.get s'.h R = some (.cells [v', .bool false] false) ∧ Own s' 1 v' n' (bsV w) ∧ (∀ x, footV v' x → s.nxt ≤ x ∧ ¬ K x ∧ ¬ footV out x)))

set_option maxHeartbeats 2000000 in
theorem run12 {X : Ctx} (hX : X.fns = fnsOf Try.prog) (ho : ∀ f args, f ≠ 9 → X.orc f args = none) {s : Mm} {R nh : Nat} {hv v : Value} {held b : List UInt8} (hg : Store.get s.h R = some (.cells [hv, .bool false] false)) (hR : R < s.nxt) (hh : Own s 1 hv nh (bsV held)) (hfR : ∀ x, footV hv x → x ≠ R) (hb : Bs s v b) (hn : b.length ≤ 1048576) (hl : held.length + b.length ≤ 1099511627776) :
    CallP X 12 [.pointer (some ⟨R, 0, none⟩), v] s (fun r s' => Fed s s' R hv r (feedF (held.length + b.length + 1) (held ++ b)).1 (feedF (held.length + b.length + 1) (held ++ b)).2) := by
  have hnh : nh = held.length := by have := hh.length; rw [bsV_length] at this; omega
  subst hnh
  refine CallP_of (hX ▸ ir12_eq) (ho _ _ (by decide)) (Nat.le_of_ble_eq_true rfl) ?_
  refine W_seq (W_ops [0, 1] ?_)
  simp only [o12_0, WO_move, WO_nil, geT_put, frame_nil, frame_cons, evO_const, keep_nil, keep_cons, keepK_eq, Nat.reduceEqDiff, Nat.reduceAdd, reduceIte, eq_self, Nat.zero_add]
  intro fr e0 e1
  refine SeqK_n ?_
  refine W_seq (W_block ?_)
  refine W_seq (W_ops [0, 1, 10] ?_)
  simp only [o12_1, WO_eq, ptr_some, WO_move, WO_nil, PureK_some, geT_put, evO_tmp, evO_const, keep_nil, keep_cons, keepK_eq, Nat.reduceEqDiff, reduceIte, eq_self, Bool.false_eq_true, e0, e1]
  clear e0 e1
  intro fr e0 e1 e10
  refine SeqK_n ?_
  refine W_cond e10 (fun h => by cases h) (fun _ => ?_)
  refine W_seq (W_ops [0, 1, 13] ?_)
  simp only [o12_3, WO_bin, WO_bu, WO_move, bin_gtr, WO_nil, PureK_some, geT_put, evO_tmp, evO_const, keep_nil, keep_cons, keepK_eq, List.map_cons, List.map_nil, Nat.reduceEqDiff, reduceIte, eq_self, e0, e1, hb.len]
  clear e0 e1 e10
  intro fr e0 e1 e13
  refine SeqK_n ?_
  refine W_if e13 (fun h => by omega) (fun _ => ?_)
  refine W_seq (W_ops [0, 1, 17] ?_)
  simp only [o12_5, WO_fieldAddr, fieldAddr_p, WO_load, WO_move, WO_nilCheck, nilCheck_p, WO_nil, PureK_some, geT_put, evO_tmp, keep_nil, keep_cons, keepK_eq, Nat.reduceEqDiff, reduceIte, eq_self, Nat.zero_add, List.getElem?_cons_zero, List.getElem?_cons_succ, e0, e1, load_g (o := 1) hg]
  clear e0 e1 e13
  intro fr e0 e1 e17
  refine SeqK_n ?_
  refine W_cond e17 (fun h => by cases h) (fun _ => W_skip (BlkK_n (SeqK_n ?_)))
  obtain ⟨v2, s2, ha, ho2, hs2, hf2⟩ := hh.append (bytes := 1) (SlC.src hb) (by rw [bsV_length]; omega) (bsV_one b) (by omega) (by omega) (by omega) (by omega)
  rw [← bsV_app] at ho2
  have hg2 : Store.get s2.h R = some (.cells [hv, .bool false] false) := by rw [hs2.get R hR (fun h => hfR R h rfl)]; exact hg
  have hst : storeV s2 1 (.pointer (some ⟨R, 0, none⟩)) v2 = some (undefV, setBlk s2 R (.cells [v2, .bool false] false)) := store_g (o := 0) hg2 ho2.one (by simp)
  refine W_seq (W_ops [0] ?_)
  simp only [o12_7, WO_append, WO_fieldAddr, fieldAddr_p, WO_load, WO_move, WO_nilCheck, nilCheck_p, WO_store, WO_nil, PureK_some, MemK_some, geT_put, puT_none, evO_tmp, keep_nil, keep_cons, keepK_eq, Nat.reduceEqDiff, reduceIte, eq_self, Nat.add_zero, List.getElem?_cons_zero, e0, e1, load_g (o := 0) hg, ha, hst]
  clear e0 e1 e17
  intro fr e0
  refine SeqK_n ?_
  have hne : ∀ x, footV v2 x → x ≠ R := by
    intro x hx
    rcases hf2 x hx with h | h
    · exact hfR x h
    · omega
  have ho3 : Own (setBlk s2 R (.cells [v2, .bool false] false)) 1 v2 (held.length + b.length) (bsV (held ++ b)) := ho2.same (F := fun x => x = R) (.set rfl) hne
  have hg3 : Store.get (setBlk s2 R (.cells [v2, .bool false] false)).h R = some (.cells [v2, .bool false] false) := by rw [get_set, if_pos rfl]
  have hs03 : Same s (setBlk s2 R (.cells [v2, .bool false] false)) (fun x => x = R ∨ footV hv x) := hs2.trans (.set (F := fun x => x = R) rfl) (fun _ _ h => .inr h) (fun _ _ h => .inl h)
  have hf3 : ∀ x, footV v2 x → x < (setBlk s2 R (.cells [v2, .bool false] false)).nxt := ho3.slc.foot
  clear hst ha hg2 ho2 hs2
  generalize setBlk s2 R (.cells [v2, .bool false] false) = s3 at ho3 hg3 hs03 hf3 ⊢
  have hb3 : Bs s3 v2 (held ++ b) := Bs.of ho3.slc
  clear ho3
  refine W_seq (W_ops [0, 6] ?_)
  simp only [o12_8, WO_move, WO_nil, geT_put, evO_const, keep_nil, keep_cons, keepK_eq, Nat.reduceEqDiff, reduceIte, eq_self, e0]
  clear e0
  intro fr e0 e6
  refine SeqK_n ?_
  have hal : (held ++ b).length = held.length + b.length := List.length_append
  generalize held ++ b = all at hb3 hal ⊢
  obtain ⟨N, hN⟩ : ∃ N, N = held.length + b.length + 1 := ⟨_, rfl⟩
  rw [← hN]
  refine W_block (W_loop (fun m fr s1 => ∃ cur cv out n cells K fs k, cur.length = m ∧ geT fr 0 = .pointer (some ⟨R, 0, none⟩) ∧ geT fr 6 = out ∧ Store.get s1.h R = some (.cells [cv, .bool false] false) ∧ Bs s1 cv cur ∧ (∀ x, footV cv x → footV v2 x) ∧
    Own s1 4 out n cells ∧ FrsW s1 K cells fs ∧ feedF N all = (fs ++ (feedF k cur).1, (feedF k cur).2) ∧ cur.length < k ∧ cur.length ≤ all.length ∧ Same s s1 (fun x => x = R ∨ footV hv x) ∧ fs.length ≤ all.length - cur.length ∧
    (∀ x, K x → s.nxt ≤ x ∧ ¬ footV out x ∧ ¬ footV v2 x) ∧ (∀ x, footV out x → s.nxt ≤ x ∧ ¬ footV v2 x) ∧ (∀ x, footV v2 x → x < s1.nxt)) all.length
    ⟨all, v2, _, 0, [], _, [], N, rfl, e0, e6, hg3, hb3, fun _ h => h, .nil, .nil, rfl, by omega, Nat.le_refl _, hs03, by simp, fun x h => h.elim, fun x h => h.elim, hf3⟩ ?_)
  clear e0 e6 fr hb3 hg3 hs03 hf3 s3
  rintro m fr s1 ⟨cur, cv, out, n, cells, K, fs, k, rfl, e0, e6, hg1, hb1, hcv, hout, hfr, hfeed, hk, hcl, hs1, hfl, hK, hof, hv2⟩
  obtain ⟨k, rfl⟩ : ∃ j, k = j + 1 := ⟨k - 1, by omega⟩
  refine W_block ?_
  have hR1 : R < s1.nxt := Nat.lt_of_lt_of_le hR hs1.nxt
  refine W_seq (W_ops [0, 6, 7, 8, 9] ?_)
  simp only [o12_10, WO_call, WO_fieldAddr, fieldAddr_p, WO_load, WO_move, WO_nilCheck, nilCheck_p, PureK_some, geT_put, evO_tmp, List.map_cons, List.map_nil, Nat.reduceEqDiff, reduceIte, eq_self, Nat.add_zero, List.getElem?_cons_zero, e0, load_g (o := 0) hg1]
  refine CallK_of (first_any hX ho hb1 (by omega)) ?_
  rintro rr s4 hres
  -- what a call that makes blocks leaves
  have keep : ∀ {s'}, Same s1 s' (fun x => x = R) → Own s' 4 out n cells ∧ FrsW s' K cells fs ∧ Same s s' (fun x => x = R ∨ footV hv x) := fun g =>
    ⟨hout.same g (fun x hx => by have := (hof x hx).1; omega), hfr.same g (fun x hx => by have := (hK x hx).1; omega), hs1.trans g (fun _ _ h => h) (fun _ _ h => .inl h)⟩
  have mk : ∀ (vs : List Value), vs.length = 4 → vs.all oneCell = true → Same s1 s4 (fun _ => False) →
      ∃ s5, storeV (newAt s4 (.cells [.float .f64 0, .float .f64 0, .slice none 0 0, .slice none 0 0] false)) 4 (.pointer (some ⟨s4.nxt, 0, none⟩)) (.agg vs.toArray) = some (undefV, s5) ∧ Same s1 s5 (fun _ => False) ∧ Same s4 s5 (fun _ => False) ∧ Store.get s5.h s4.nxt = some (.cells vs false) ∧ s4.nxt < s5.nxt := fun vs hv1 hv2 hs4 => by
    have hga : Store.get (newAt s4 (.cells [.float .f64 0, .float .f64 0, .slice none 0 0, .slice none 0 0] false)).h s4.nxt = some (.cells [.float .f64 0, .float .f64 0, .slice none 0 0, .slice none 0 0] false) := by rw [get_new, if_pos rfl]
    have hs45 : Same s4 (setBlk (newAt s4 (.cells [.float .f64 0, .float .f64 0, .slice none 0 0, .slice none 0 0] false)) s4.nxt (.cells vs false)) (fun _ => False) :=
      (Same.new (F := fun _ => False)).trans (.set (F := fun b => b = s4.nxt) rfl) (fun _ _ h => h) (fun _ hB h => absurd h (Nat.ne_of_lt hB))
    exact ⟨_, store_all hga hv1 rfl hv2, hs4.trans hs45 (fun _ _ h => h) (fun _ _ h => h), hs45, by rw [get_set, if_pos rfl], by rw [nxt_set, nxt_new]; omega⟩
  rcases hres with ⟨cs, hs4, hc4, hc1, ⟨hf, rfl⟩ | ⟨hf, rfl⟩⟩ | ⟨n0, rv, iv, A, O, A2, O2, hf, rfl, hs4, lA, lO, lA2, lO2, n1, n2, n3, n4, t1, t2⟩
  · obtain ⟨s5, hst5, hs15, _, _, _⟩ := mk cs hc4 hc1 hs4
    simp only [WO_alloc, WO_extract, ext_30, ext_31, ext_32, WO_move, WO_store, WO_nil, PureK_some, MemK_some, geT_put, puT_none, evO_tmp, keep_nil, keep_cons, keepK_eq, Nat.reduceEqDiff, reduceIte, eq_self, e0, e6, hst5]
    clear e0 e6
    intro fr e0 e6 e7 e8 e9
    refine SeqK_n ?_
    refine W_assoc ?_
    refine W_seq (W_ops [0, 6, 7, 8, 40] ?_)
    simp only [o12_11, WO_move, WO_nil, geT_put, evO_tmp, keep_nil, keep_cons, keepK_eq, Nat.reduceEqDiff, reduceIte, eq_self, e0, e6, e7, e8, e9]
    clear e0 e6 e7 e8 e9
    intro fr e0 e6 e7 e8 e40
    refine SeqK_n ?_
    refine W_seq (W_cond e40 (fun _ => ?_) (fun h => by cases h))
    have hg5 : Store.get s5.h R = some (.cells [cv, .bool false] false) := by rw [hs15.get R hR1 (fun h => h)]; exact hg1
    have h1 : storeV s5 1 (.pointer (some ⟨R, 0, none⟩)) (.slice none 0 0) = some (undefV, setBlk s5 R (.cells [.slice none 0 0, .bool false] false)) := store_g (o := 0) hg5 rfl (by simp)
    have h2' : Store.get (setBlk s5 R (.cells [.slice none 0 0, .bool false] false)).h R = some (.cells [.slice none 0 0, .bool false] false) := by rw [get_set, if_pos rfl]
    have h2 : storeV (setBlk s5 R (.cells [.slice none 0 0, .bool false] false)) 1 (.pointer (some ⟨R, 1, none⟩)) (.bool true) = some (undefV, setBlk (setBlk s5 R (.cells [.slice none 0 0, .bool false] false)) R (.cells [.slice none 0 0, .bool true] false)) := store_g (o := 1) h2' rfl (by simp)
    refine W_seq (W_ops [6] ?_)
    simp only [o12_12, WO_fieldAddr, fieldAddr_p, WO_move, WO_nilCheck, nilCheck_p, WO_store, WO_nil, PureK_some, MemK_some, geT_put, puT_none, evO_tmp, evO_const, keep_nil, keep_cons, keepK_eq, Nat.reduceEqDiff, reduceIte, eq_self, Nat.zero_add, Nat.add_zero, e0, e6, h1, h2]
    clear e0 e6 e7 e8 e40
    intro fr e6
    refine SeqK_n ?_
    refine W_seq (W_ops [4, 5] ?_)
    simp only [o12_13, WO_move, WO_nil, geT_put, evO_tmp, evO_const, keep_nil, keep_cons, keepK_eq, Nat.reduceEqDiff, reduceIte, eq_self, e6]
    clear e6
    intro fr e4 e5
    refine SeqK_n ?_
    have hs17 : Same s1 (setBlk (setBlk s5 R (.cells [.slice none 0 0, .bool false] false)) R (.cells [.slice none 0 0, .bool true] false)) (fun x => x = R) :=
      (hs15.trans (.set (F := fun x => x = R) rfl) (fun _ _ h => h.elim) (fun _ _ h => h)).trans (.set (F := fun x => x = R) rfl) (fun _ _ h => h) (fun _ _ h => h)
    obtain ⟨k1, k2, k3⟩ := keep hs17
    have hfe : feedF (k + 1) cur = ([], none) := by simp only [feedF, hf]
    rw [hfe] at hfeed
    refine W_ret (SeqK_r (BlkK_r (LoopK_r (BlkK_r (Ret2 e4 e5 ⟨k3, out, n, cells, K, k1, ?_, fun x hx => ⟨(hK x hx).1, (hK x hx).2.1⟩, fun x hx => (hof x hx).1, .inl ⟨by rw [hfeed], rfl, by rw [get_set, if_pos rfl]⟩⟩)))))
    rw [hfeed]; simpa using k2
  · obtain ⟨s5, hst5, hs15, _, _, _⟩ := mk cs hc4 hc1 hs4
    simp only [WO_alloc, WO_extract, ext_30, ext_31, ext_32, WO_move, WO_store, WO_nil, PureK_some, MemK_some, geT_put, puT_none, evO_tmp, keep_nil, keep_cons, keepK_eq, Nat.reduceEqDiff, reduceIte, eq_self, e0, e6, hst5]
    clear e0 e6
    intro fr e0 e6 e7 e8 e9
    refine SeqK_n ?_
    refine W_assoc ?_
    refine W_seq (W_ops [0, 6, 7, 8, 40] ?_)
    simp only [o12_11, WO_move, WO_nil, geT_put, evO_tmp, keep_nil, keep_cons, keepK_eq, Nat.reduceEqDiff, reduceIte, eq_self, e0, e6, e7, e8, e9]
    clear e0 e6 e7 e8 e9
    intro fr e0 e6 e7 e8 e40
    refine SeqK_n ?_
    refine W_seq (W_cond e40 (fun h => by cases h) (fun _ => W_skip (SeqK_n ?_)))
    refine W_assoc ?_
    refine W_seq (W_ops [0, 6, 7, 8, 49] ?_)
    simp only [o12_14, WO_bin, WO_move, bin_eql, WO_nil, PureK_some, geT_put, evO_tmp, evO_const, keep_nil, keep_cons, keepK_eq, Nat.reduceEqDiff, reduceIte, decide_true, eq_self, e0, e6, e7, e8]
    clear e0 e6 e7 e8 e40
    intro fr e0 e6 e7 e8 e49
    refine SeqK_n ?_
    refine W_seq (W_cond e49 (fun _ => ?_) (fun h => by simp at h))
    have hg5 : Store.get s5.h R = some (.cells [cv, .bool false] false) := by rw [hs15.get R hR1 (fun h => h)]; exact hg1
    have hb5 : Bs s5 cv cur := hb1.same hs15 (fun _ _ h => h)
    have hR5 : R < s5.nxt := Nat.lt_of_lt_of_le hR1 hs15.nxt
    obtain ⟨v6, s6, ha6, ho6, hs6, hf6⟩ := (Own.nil : Own s5 1 _ 0 []).append (bytes := 1) (SlC.src hb5) (by rw [bsV_length]; omega) (bsV_one cur) (by omega) (by omega) (by omega) (by omega)
    have hg6 : Store.get s6.h R = some (.cells [cv, .bool false] false) := by rw [hs6.get R hR5 (fun h => h)]; exact hg5
    have h1 : storeV s6 1 (.pointer (some ⟨R, 0, none⟩)) v6 = some (undefV, setBlk s6 R (.cells [v6, .bool false] false)) := store_g (o := 0) hg6 ho6.one (by simp)
    refine W_seq (W_ops [6] ?_)
    simp only [o12_15, WO_append, WO_fieldAddr, fieldAddr_p, WO_load, WO_move, WO_nilCheck, nilCheck_p, WO_store, WO_nil, PureK_some, MemK_some, geT_put, puT_none, evO_tmp, evO_const, keep_nil, keep_cons, keepK_eq, Nat.reduceEqDiff, reduceIte, eq_self, Nat.add_zero, List.getElem?_cons_zero, e0, e6, load_g (o := 0) hg5, ha6, h1]
    clear e0 e6 e7 e8 e49
    intro fr e6
    refine SeqK_n ?_
    refine W_seq (W_ops [4, 5] ?_)
    simp only [o12_16, WO_move, WO_nil, geT_put, evO_tmp, evO_const, keep_nil, keep_cons, keepK_eq, Nat.reduceEqDiff, reduceIte, eq_self, e6]
    clear e6
    intro fr e4 e5
    refine SeqK_n ?_
    have hs17 : Same s1 (setBlk s6 R (.cells [v6, .bool false] false)) (fun x => x = R) :=
      (hs15.trans hs6 (G := fun x => x = R) (fun _ _ h => h.elim) (fun _ _ h => h.elim)).trans (.set (F := fun x => x = R) rfl) (fun _ _ h => h) (fun _ _ h => h)
    obtain ⟨k1, k2, k3⟩ := keep hs17
    have hfe : feedF (k + 1) cur = ([], some cur) := by simp only [feedF, hf]
    rw [hfe] at hfeed
    have hfr6 : ∀ x, footV v6 x → s1.nxt ≤ x := fun x hx => by
      rcases hf6 x hx with h | h
      · exact h.elim
      · have := hs15.nxt; omega
    refine W_ret (SeqK_r (BlkK_r (LoopK_r (BlkK_r (Ret2 e4 e5 ⟨k3, out, n, cells, K, k1, ?_, fun x hx => ⟨(hK x hx).1, (hK x hx).2.1⟩, fun x hx => (hof x hx).1, .inr ⟨cur, v6, 0 + cur.length, by rw [hfeed], rfl, by rw [get_set, if_pos rfl], ?_, fun x hx => ⟨?_, ?_, ?_⟩⟩⟩)))))
    · rw [hfeed]; simpa using k2
    · have := ho6.same (s' := setBlk s6 R (.cells [v6, .bool false] false)) (F := fun x => x = R) (.set rfl) (fun x hx e => by have := hfr6 x hx; omega)
      simpa using this
    · have := hfr6 x hx; have := hs1.nxt; omega
    · intro hk'; have := hfr6 x hx; have := hfr.lt x hk'; omega
    · intro hk'; have := hfr6 x hx; have := hout.slc.foot x hk'; omega
  · obtain ⟨s5, hst5, hs15, hs45, hg7, hn7⟩ := mk [.float .f64 (frOf cur).T, .float .f64 (frOf cur).U, rv, iv] rfl (by simp [oneCell, t1.v, t2.v]) hs4
    obtain ⟨_, f1, f2, f3, _⟩ := fst_got hf
    have hz : ¬ ((n0 + 11 : Nat) : Int) = 0 := by omega
    simp only [List.toArray] at hst5
    simp only [WO_alloc, WO_extract, ext_30, ext_31, ext_32, WO_move, WO_store, WO_nil, PureK_some, MemK_some, geT_put, puT_none, evO_tmp, keep_nil, keep_cons, keepK_eq, Nat.reduceEqDiff, reduceIte, eq_self, e0, e6, hst5]
    clear e0 e6
    intro fr e0 e6 e7 e8 e9
    refine SeqK_n ?_
    refine W_assoc ?_
    refine W_seq (W_ops [0, 6, 7, 8, 40] ?_)
    simp only [o12_11, WO_move, WO_nil, geT_put, evO_tmp, keep_nil, keep_cons, keepK_eq, Nat.reduceEqDiff, reduceIte, eq_self, e0, e6, e7, e8, e9]
    clear e0 e6 e7 e8 e9
    intro fr e0 e6 e7 e8 e40
    refine SeqK_n ?_
    refine W_seq (W_cond e40 (fun h => by cases h) (fun _ => W_skip (SeqK_n ?_)))
    refine W_assoc ?_
    refine W_seq (W_ops [0, 6, 7, 8, 49] ?_)
    simp only [o12_14, WO_bin, WO_move, bin_eql, WO_nil, PureK_some, geT_put, evO_tmp, evO_const, keep_nil, keep_cons, keepK_eq, Nat.reduceEqDiff, reduceIte, eq_self, e0, e6, e7, e8]
    clear e0 e6 e7 e8 e40
    intro fr e0 e6 e7 e8 e49
    refine SeqK_n ?_
    refine W_seq (W_if e49 (fun h => absurd h hz) (fun _ => W_skip (SeqK_n ?_)))
    have hnf : n = fs.length := by have := hout.length; have := hfr.len; omega
    have hb5 : Bs s5 cv cur := hb1.same hs15 (fun _ _ h => h)
    have hg5 : Store.get s5.h R = some (.cells [cv, .bool false] false) := by rw [hs15.get R hR1 (fun h => h)]; exact hg1
    have hbs : buildSlV s5 4 [.float .f64 0, .float .f64 0, .slice none 0 0, .slice none 0 0] 1 [(0, 4, .agg #[.float .f64 (frOf cur).T, .float .f64 (frOf cur).U, rv, iv])] = some (.slice (some ⟨s5.nxt, 0, none⟩) 1 1, .cells [.float .f64 (frOf cur).T, .float .f64 (frOf cur).U, rv, iv] false) := rfl
    have hs56 : Same s5 (newAt s5 (.cells [.float .f64 (frOf cur).T, .float .f64 (frOf cur).U, rv, iv] false)) (fun _ => False) := .new
    have hsc : SlC (newAt s5 (.cells [.float .f64 (frOf cur).T, .float .f64 (frOf cur).U, rv, iv] false)) 4 (.slice (some ⟨s5.nxt, 0, none⟩) 1 1) 1 [.float .f64 (frOf cur).T, .float .f64 (frOf cur).U, rv, iv] :=
      .mk blk_new_self (by rw [nxt_new]; omega) rfl (by simp) (.inl ⟨Nat.le_refl _, by decide⟩)
    have hof1 : ∀ x, footV out x → x < s1.nxt := hout.slc.foot
    obtain ⟨out', s7, ha7, ho7, hs67, hf7⟩ := ((hout.same hs15 (fun _ _ h => h)).same hs56 (fun _ _ h => h)).append (bytes := 64) hsc.src rfl (by simp [oneCell, t1.v, t2.v]) (by omega) (by omega) (by omega) (by omega)
    have hs57 : Same s5 s7 (footV out) := hs56.trans hs67 (fun _ _ h => h.elim) (fun _ _ h => h)
    have hs47 : Same s4 s7 (footV out) := hs45.trans hs57 (fun _ _ h => h.elim) (fun _ _ h => h)
    have hs17 : Same s1 s7 (footV out) := hs15.trans hs57 (fun _ _ h => h.elim) (fun _ _ h => h)
    have nout : ∀ x, s1.nxt ≤ x → ¬ footV out x := fun x hx h => by have := hof1 x h; omega
    have hg77 : Store.get s7.h R = some (.cells [cv, .bool false] false) := by rw [hs17.get R hR1 (fun h => by have := (hof R h).1; omega)]; exact hg1
    have hb7 : Bs s7 cv cur := hb1.same hs17 (fun x hx h => (hof x h).2 (hcv x hx))
    have hl4 : loadV s5 (some 4) (.pointer (some ⟨s4.nxt, 0, none⟩)) = some (.agg #[.float .f64 (frOf cur).T, .float .f64 (frOf cur).U, rv, iv]) := loadn_all (n := 4) hg7 rfl
    refine W_seq (W_ops [0, 6, 8] ?_)
    simp only [o12_17, WO_append, WO_buildSlice, WO_load, WO_move, WO_nil, PureK_some, MemK_some, NewK_some, geT_put, evO_tmp, keep_nil, keep_cons, keepK_eq, List.map_cons, List.map_nil, Nat.reduceEqDiff, reduceIte, eq_self, Nat.zero_mul, e0, e6, e7, e8, hl4, hbs, ha7]
    clear e0 e6 e7 e8 e49
    intro fr e0 e6 e8
    refine SeqK_n ?_
    have hsl : slV 1 cv (some (.int .i64 ((n0 + 11 : Nat) : Int))) none none = some (subS 1 cv (n0 + 11) cur.length) := hb7.slE rfl f3
    have hsub : Bs s7 (subS 1 cv (n0 + 11) cur.length) (subB cur (n0 + 11) cur.length) := Bs.sub hb7 f3 (Nat.le_refl _)
    have hst8 : storeV s7 1 (.pointer (some ⟨R, 0, none⟩)) (subS 1 cv (n0 + 11) cur.length) = some (undefV, setBlk s7 R (.cells [subS 1 cv (n0 + 11) cur.length, .bool false] false)) := store_g (o := 0) hg77 hsub.one (by simp)
    refine W_ops [0, 6] ?_
    simp only [o12_18, WO_fieldAddr, fieldAddr_p, WO_load, WO_move, WO_nilCheck, nilCheck_p, WO_slSl, WO_store, WO_nil, PureK_some, MemK_some, geT_put, puT_none, evO_tmp, keep_nil, keep_cons, keepK_eq, Option.map_some, Option.map_none, Nat.reduceEqDiff, reduceIte, eq_self, Nat.add_zero, List.getElem?_cons_zero, e0, e6, e8, load_g (o := 0) hg77, hsl, hst8]
    clear e0 e6 e8
    intro fr e0 e6
    have hdr' : subB cur (n0 + 11) cur.length = cur.drop (n0 + 11) := by
      unfold subB; rw [List.take_of_length_le (by simp)]
    rw [hdr'] at hsub
    have hdl : (cur.drop (n0 + 11)).length = cur.length - (n0 + 11) := List.length_drop
    have hs78 : Same s7 (setBlk s7 R (.cells [subS 1 cv (n0 + 11) cur.length, .bool false] false)) (fun x => x = R) := .set rfl
    have hfe : feedF (k + 1) cur = (frOf cur :: (feedF k (cur.drop (n0 + 11))).1, (feedF k (cur.drop (n0 + 11))).2) := by simp only [feedF, hf]
    rw [hfe] at hfeed
    have hsf : ∀ x, footV (subS 1 cv (n0 + 11) cur.length) x → footV v2 x := fun x hx => hcv x (subS_foot hb7 f3 (Nat.le_refl _) x hx)
    have hn1 := hs1.nxt
    have hn4 := hs4.nxt
    have hRne : ∀ x, s1.nxt ≤ x → x ≠ R := fun x hx e => by omega
    have hfr7 : FrsW s7 K cells fs := hfr.same hs17 (fun x hx => (hK x hx).2.1)
    have t17 := t1.same hs47 (nout _ lA) (nout _ lO)
    have t27 := t2.same hs47 (nout _ lA2) (nout _ lO2)
    have hout' : ∀ x, footV out' x → s.nxt ≤ x ∧ x ≠ R ∧ ¬ footV v2 x := fun x hx => by
      rcases hf7 x hx with h | h
      · exact ⟨(hof x h).1, by have := (hof x h).1; omega, (hof x h).2⟩
      · rw [nxt_new] at h
        have h5 := hs45.nxt
        exact ⟨by omega, by omega, fun h' => by have := hv2 x h'; omega⟩
    have hnew : ∀ x, s1.nxt ≤ x → x < s4.nxt → ¬ footV out' x := fun x h1 h2 h3 => by
      rcases hf7 x h3 with h | h
      · exact nout x h1 h
      · rw [nxt_new] at h; have := hs45.nxt; omega
    have nK : ∀ x, s1.nxt ≤ x → ¬ K x := fun x hx h => by have := hfr.lt x h; omega
    have hK4 : ∀ x, s1.nxt ≤ x → x < s4.nxt → s.nxt ≤ x ∧ ¬ footV out' x ∧ ¬ footV v2 x := fun x h1 h2 => ⟨by omega, hnew x h1 h2, fun h' => by have := hv2 x h'; omega⟩
    refine BlkK_n (LoopK_n (m' := (cur.drop (n0 + 11)).length) (by omega) ⟨cur.drop (n0 + 11), _, out', n + 1, _, _, fs ++ [frOf cur], k, rfl, e0, e6, by rw [get_set, if_pos rfl], hsub.same hs78 (fun x hx e => hne x (hsf x hx) e), hsf,
      ho7.same hs78 (fun x hx e => (hout' x hx).2.1 e),
      (FrsW.snoc hfr7 (nK _ lA) (nK _ lO) (nK _ lA2) (nK _ lO2) n1 n2 n3 n4 t17 t27 rfl rfl).same hs78 ?_, ?_, by omega, by omega, ?_, ?_, ?_, ?_, ?_⟩)
    · rintro x (hx | rfl | rfl | rfl | rfl)
      · have := (hK x hx).1; omega
      · exact hRne _ lA
      · exact hRne _ lO
      · exact hRne _ lA2
      · exact hRne _ lO2
    · rw [hfeed]; simp
    · exact (hs1.trans hs17 (fun _ _ h => h) (fun x hx h => by have := (hof x h).1; omega)).trans hs78 (fun _ _ h => h) (fun _ _ h => .inl h)
    · rw [List.length_append, List.length_singleton]; omega
    · rintro x (hx | rfl | rfl | rfl | rfl)
      · refine ⟨(hK x hx).1, fun h => ?_, (hK x hx).2.2⟩
        rcases hf7 x h with h | h
        · exact (hK x hx).2.1 h
        · rw [nxt_new] at h; have := hfr.lt x hx; have := hs45.nxt; omega
      · exact hK4 _ lA t1.hA
      · exact hK4 _ lO t1.hO
      · exact hK4 _ lA2 t2.hA
      · exact hK4 _ lO2 t2.hO
    · exact fun x hx => ⟨(hout' x hx).1, (hout' x hx).2.2⟩
    · intro x hx
      have := hv2 x hx
      have := hs17.nxt
      rw [nxt_set]; omega

end Go.Proofs.Ytkfcejhebepdkaa

/- Frames that are the same. -/
namespace Go.Proofs.Ytkfcejhebepdkaa
open Go Go.Vam

theorem notNan_known {x : Nat} (h : notNan x = true) : fknown .f64 x = true := by
  unfold fknown
  rw [bne_iff_ne]
  intro e
  subst e
  exact absurd h (by decide +kernel)

theorem bits_nn {x : Nat} (h : notNan x = true) : extV 0 [.float .f64 x] = some (.int .u64 (x : Nat)) := by
  simp only [extV, notNan_known h, if_true]

theorem TabC.same {s s' : Mm} {v : Value} {rows : List (List Int)} (h : TabC s v rows) (hs : Same s s' (fun _ => False)) : TabC s' v rows := by
  obtain ⟨c, a, b⟩ := h
  exact ⟨c, a.same hs (fun _ _ h => h), fun i r h => let ⟨x, y, z⟩ := b i r h; ⟨x, y, z.same hs (fun _ _ h => h)⟩⟩


theorem run43_self {X : Ctx} (hX : X.fns = fnsOf Try.prog) (ho : ∀ f args, f ≠ 9 → X.orc f args = none) {s : Mm} {x : Nat} : CallP X 43 [.float .f64 x, .float .f64 x] s (fun r s' => r = .bool true ∧ s = s') := by
  have hq : (ford .f64 x x == some .eq) = notNan x := rfl
  refine CallP_of (hX ▸ ir43_eq) (ho _ _ (by decide)) (Nat.le_of_ble_eq_true rfl) ?_
  refine W_seq (W_ops [0, 1] ?_)
  simp only [o43_0, WO_move, WO_nil, geT_put, frame_nil, frame_cons, evO_const, keep_nil, keep_cons, keepK_eq, Nat.reduceEqDiff, Nat.reduceAdd, reduceIte, eq_self, Nat.zero_add]
  intro fr e0 e1
  refine SeqK_n ?_
  refine W_assoc ?_
  cases h : notNan x with
  | true =>
    refine W_seq (W_ops [0, 1, 12] ?_)
    simp only [o43_1, WO_bin, WO_move, WO_pick, pick_b, binf_neq, WO_nil, PureK_some, WO_guard, want_v, wantB_f, geT_put, evO_tmp, evO_const, keep_nil, keep_cons, keepK_eq, Nat.reduceEqDiff, reduceIte, Bool.not_true, Bool.not_false, eq_self, Bool.false_eq_true, e0, e1, hq, h]
    clear e0 e1
    intro fr e0 e1 e12
    refine SeqK_n ?_
    refine W_seq (W_cond e12 (fun h => by cases h) (fun _ => W_skip (SeqK_n ?_)))
    refine W_seq (W_ops [4] ?_)
    simp only [o43_3, WO_bin, WO_ext, WO_move, bin_eql, WO_nil, PureK_some, geT_put, evO_tmp, keep_nil, keep_cons, keepK_eq, List.map_cons, List.map_nil, Nat.reduceEqDiff, reduceIte, decide_true, eq_self, e0, e1, bits_nn h]
    clear e0 e1 e12
    intro fr e4
    refine SeqK_n ?_
    exact W_ret (Ret1 e4 ⟨rfl, rfl⟩)
  | false =>
    refine W_seq (W_ops [0, 1, 12] ?_)
    simp only [o43_1, WO_bin, WO_move, WO_pick, pick_b, binf_neq, WO_nil, PureK_some, WO_guard, want_v, wantB_f, geT_put, evO_tmp, evO_const, keep_nil, keep_cons, keepK_eq, Nat.reduceEqDiff, reduceIte, Bool.not_true, Bool.not_false, eq_self, Bool.false_eq_true, e0, e1, hq, h]
    clear e0 e1
    intro fr e0 e1 e12
    refine SeqK_n ?_
    refine W_seq (W_cond e12 (fun _ => ?_) (fun h => by cases h))
    refine W_seq (W_ops [4] ?_)
    simp only [o43_2, WO_bin, WO_move, WO_pick, pick_b, binf_neq, WO_nil, PureK_some, WO_guard, want_v, wantB_t, geT_put, evO_tmp, evO_const, keep_nil, keep_cons, keepK_eq, Nat.reduceEqDiff, reduceIte, Bool.not_false, eq_self, e0, e1, hq, h]
    clear e0 e1 e12
    intro fr e4
    refine SeqK_n ?_
    exact W_ret (SeqK_r (Ret1 e4 ⟨rfl, rfl⟩))

set_option maxHeartbeats 1000000 in
theorem run44_self {X : Ctx} (hX : X.fns = fnsOf Try.prog) (ho : ∀ f args, f ≠ 9 → X.orc f args = none) {s : Mm} {v v' : Value} {rows : List (List Int)} (h1 : TabC s v rows) (h2 : TabC s v' rows) (hl : rows.length ≤ 9223372036854775807) (hl2 : ∀ r ∈ rows, r.length ≤ 9223372036854775807) :
    CallP X 44 [v, v'] s (fun r s' => r = .bool true ∧ s = s') := by
  obtain ⟨c1, a1, b1⟩ := h1
  obtain ⟨c2, a2, b2⟩ := h2
  refine CallP_of (hX ▸ ir44_eq) (ho _ _ (by decide)) (Nat.le_of_ble_eq_true rfl) ?_
  refine W_seq (W_ops [0, 1] ?_)
  simp only [o44_0, WO_move, WO_nil, geT_put, frame_nil, frame_cons, evO_const, keep_nil, keep_cons, keepK_eq, Nat.reduceEqDiff, Nat.reduceAdd, reduceIte, eq_self, Nat.zero_add]
  intro fr e0 e1
  refine SeqK_n ?_
  refine W_assoc ?_
  refine W_seq (W_ops [0, 1, 11] ?_)
  simp only [o44_1, WO_bin, WO_bu, WO_move, bin_neq, WO_nil, PureK_some, geT_put, evO_tmp, keep_nil, keep_cons, keepK_eq, List.map_cons, List.map_nil, Nat.reduceEqDiff, reduceIte, Bool.not_true, decide_true, eq_self, e0, e1, a1.len, a2.len]
  clear e0 e1
  intro fr e0 e1 e11
  refine SeqK_n ?_
  refine W_seq (W_cond e11 (fun h => by cases h) (fun _ => W_skip (SeqK_n ?_)))
  refine W_assoc ?_
  refine W_seq (W_ops [0, 1, 5] ?_)
  simp only [o44_3, WO_move, WO_nil, geT_put, evO_const, keep_nil, keep_cons, keepK_eq, Nat.reduceEqDiff, reduceIte, eq_self, e0, e1]
  clear e0 e1 e11
  intro fr e0 e1 e5
  refine SeqK_n ?_
  refine W_seq (W_block (W_loop (fun m fr s1 => ∃ k, k + m = rows.length ∧ s = s1 ∧ geT fr 0 = v ∧ geT fr 1 = v' ∧ geT fr 5 = .int .i64 (k : Nat)) rows.length ⟨0, by omega, rfl, e0, e1, e5⟩ ?_))
  clear e0 e1 e5 fr
  rintro m fr _ ⟨k, hk, rfl, e0, e1, e5⟩
  refine W_assoc ?_
  refine W_seq (W_ops [0, 1, 5, 15] ?_)
  simp only [o44_5, WO_bin, WO_bu, WO_move, bin_lss, WO_nil, PureK_some, geT_put, evO_tmp, keep_nil, keep_cons, keepK_eq, List.map_cons, List.map_nil, Nat.reduceEqDiff, reduceIte, eq_self, e0, e1, e5, a1.len]
  clear e0 e1 e5
  intro fr e0 e1 e5 e15
  refine SeqK_n ?_
  refine W_while e15 (fun hlt => ?_) (fun hlt => ?_)
  · have hk1 : k < rows.length := by omega
    obtain ⟨x1, y1, z1⟩ := b1 k rows[k] (by simp [hk1])
    obtain ⟨x2, y2, z2⟩ := b2 k rows[k] (by simp [hk1])
    have hlk := hl2 rows[k] (by simp)
    have q1 := a1.addr (kk := .i64) (i := (k : Int)) rfl hk1
    have q2 := a2.addr (kk := .i64) (i := (k : Int)) rfl hk1
    have L1 : loadV s none (elP v k) = some x1 := a1.load y1
    have L2 : loadV s none (elP v' k) = some x2 := a2.load y2
    refine W_seq (W_block ?_)
    refine W_assoc ?_
    refine W_seq (W_draw0 [0, 1, 5, 28] rfl ?_)
    simp only [d44_6, WD_addrSl, WD_bin, WD_bu, WD_load, WD_move, bin_neq, WD_nil, DPureK_some, DReadK_some, pastR_nil, joinAll_nil, setH_self, geT_put, evO_tmp, keep_nil, keep_cons, keepK_eq, List.map_cons, List.map_nil, Nat.reduceEqDiff, Nat.reduceAdd, reduceIte, Bool.not_true, decide_true, eq_self, true_and, Nat.zero_add, Nat.mul_one, e0, e1, e5, q1, q2, L1, L2, z1.len, z2.len]
    clear e0 e1 e5 e15
    intro fr e0 e1 e5 e28
    refine SeqK_n ?_
    refine W_seq (W_cond e28 (fun h => by cases h) (fun _ => W_skip (SeqK_n ?_)))
    refine W_seq (W_ops [0, 1, 5, 6] ?_)
    simp only [o44_8, WO_move, WO_nil, geT_put, evO_const, keep_nil, keep_cons, keepK_eq, Nat.reduceEqDiff, reduceIte, eq_self, e0, e1, e5]
    clear e0 e1 e5 e28
    intro fr e0 e1 e5 e6
    refine SeqK_n ?_
    refine W_block (W_loop (fun m fr s1 => ∃ g, g + m = rows[k].length ∧ s = s1 ∧ geT fr 0 = v ∧ geT fr 1 = v' ∧ geT fr 5 = .int .i64 (k : Nat) ∧ geT fr 6 = .int .i64 (g : Nat)) rows[k].length ⟨0, by omega, rfl, e0, e1, e5, e6⟩ ?_)
    clear e0 e1 e5 e6 fr
    rintro m2 fr _ ⟨g, hg, rfl, e0, e1, e5, e6⟩
    refine W_assoc ?_
    refine W_seq (W_ops [0, 1, 5, 6, 35] ?_)
    simp only [o44_10, WO_addrSl, WO_bin, WO_bu, WO_load, WO_move, bin_lss, WO_nil, PureK_some, geT_put, evO_tmp, keep_nil, keep_cons, keepK_eq, List.map_cons, List.map_nil, Nat.reduceEqDiff, reduceIte, eq_self, Nat.mul_one, e0, e1, e5, e6, q1, L1, z1.len]
    clear e0 e1 e5 e6
    intro fr e0 e1 e5 e6 e35
    refine SeqK_n ?_
    refine W_while e35 (fun hlt2 => ?_) (fun hlt2 => ?_)
    · have hg1 : g < rows[k].length := by omega
      have r1 := z1.addr (kk := .i64) (i := (g : Int)) rfl hg1
      have r2 := z2.addr (kk := .i64) (i := (g : Int)) rfl hg1
      have M1 : loadV s none (elP x1 g) = some (.int .i16 rows[k][g]) := z1.load (by simp [hg1])
      have M2 : loadV s none (elP x2 g) = some (.int .i16 rows[k][g]) := z2.load (by simp [hg1])
      refine W_seq (W_block ?_)
      refine W_seq (W_draw0 [0, 1, 5, 6, 52] rfl ?_)
      simp only [d44_11, WD_addrSl, WD_bin, WD_load, WD_move, bin_neq, WD_nil, DPureK_some, DReadK_some, pastR_nil, joinAll_nil, setH_self, geT_put, evO_tmp, keep_nil, keep_cons, keepK_eq, Nat.reduceEqDiff, Nat.reduceAdd, reduceIte, Bool.not_true, decide_true, eq_self, true_and, Nat.zero_add, Nat.mul_one, e0, e1, e5, e6, q1, q2, L1, L2, r1, r2, M1, M2]
      clear e0 e1 e5 e6 e35
      intro fr e0 e1 e5 e6 e52
      refine SeqK_n ?_
      refine W_cond e52 (fun h => by cases h) (fun _ => W_skip (BlkK_n (SeqK_n ?_)))
      refine W_ops [0, 1, 5, 6] ?_
      simp only [o44_13, WO_bin, WO_move, bin_add, WO_nil, PureK_some, geT_put, evO_tmp, evO_const, keep_nil, keep_cons, keepK_eq, Nat.reduceEqDiff, reduceIte, eq_self, e0, e1, e5, e6, wrap_i64 (n := (g : Int) + 1) (by omega) (by omega)]
      clear e0 e1 e5 e6 e52
      intro fr e0 e1 e5 e6
      exact LoopK_n (m' := m2 - 1) (by omega) ⟨g + 1, by omega, rfl, e0, e1, e5, by rw [e6]; rfl⟩
    · refine LoopK_x (BlkK_e (BlkK_n (SeqK_n ?_)))
      refine W_ops [0, 1, 5] ?_
      simp only [o44_14, WO_bin, WO_move, bin_add, WO_nil, PureK_some, geT_put, evO_tmp, evO_const, keep_nil, keep_cons, keepK_eq, Nat.reduceEqDiff, reduceIte, eq_self, e0, e1, e5, wrap_i64 (n := (k : Int) + 1) (by omega) (by omega)]
      clear e0 e1 e5 e6 e35
      intro fr e0 e1 e5
      exact LoopK_n (m' := m - 1) (by omega) ⟨k + 1, by omega, rfl, e0, e1, by rw [e5]; rfl⟩
  · refine LoopK_x (BlkK_e (SeqK_n ?_))
    refine W_seq (W_ops [4] ?_)
    simp only [o44_15, WO_move, WO_nil, geT_put, evO_const, keep_nil, keep_cons, keepK_eq, reduceIte, eq_self]
    clear e0 e1 e5 e15
    intro fr e4
    refine SeqK_n ?_
    exact W_ret (Ret1 e4 ⟨rfl, rfl⟩)

/-- Two readings of one frame. -/
theorem run25_self {X : Ctx} (hX : X.fns = fnsOf Try.prog) (ho : ∀ f args, f ≠ 9 → X.orc f args = none) {s : Mm} {rv iv rv' iv' : Value} {f : FrS} (r1 : TabC s rv f.re) (i1 : TabC s iv f.im) (r2 : TabC s rv' f.re) (i2 : TabC s iv' f.im) (hl : f.re.length ≤ 9223372036854775807) (hl' : f.im.length ≤ 9223372036854775807)
    (hl2 : ∀ r ∈ f.re, r.length ≤ 9223372036854775807) (hl3 : ∀ r ∈ f.im, r.length ≤ 9223372036854775807) :
    CallP X 25 [.agg #[.float .f64 f.T, .float .f64 f.U, rv, iv], .agg #[.float .f64 f.T, .float .f64 f.U, rv', iv']] s (fun r s' => r = .bool true ∧ Same s s' (fun _ => False)) := by
  have hbx : (Value.agg #[.float .f64 f.T, .float .f64 f.U, rv, iv]).cells.toList = [.float .f64 f.T, .float .f64 f.U, rv, iv] := rfl
  have hbx' : (Value.agg #[.float .f64 f.T, .float .f64 f.U, rv', iv']).cells.toList = [.float .f64 f.T, .float .f64 f.U, rv', iv'] := rfl
  refine CallP_of (hX ▸ ir25_eq) (ho _ _ (by decide)) (Nat.le_of_ble_eq_true rfl) ?_
  refine W_seq (W_ops [2, 3] ?_)
  simp only [o25_0, WO_box, nxt_new, WO_move, WO_nil, geT_put, frame_nil, frame_cons, evO_tmp, evO_const, keep_nil, keep_cons, keepK_eq, Nat.reduceEqDiff, Nat.reduceAdd, reduceIte, eq_self, Nat.zero_add, hbx, hbx']
  intro fr e2 e3
  refine SeqK_n ?_
  obtain ⟨s2, hs2⟩ : ∃ s2, s2 = newAt (newAt s (.cells [.float .f64 f.T, .float .f64 f.U, rv, iv] false)) (.cells [.float .f64 f.T, .float .f64 f.U, rv', iv'] false) := ⟨_, rfl⟩
  rw [← hs2]
  have g1 : Store.get s2.h s.nxt = some (.cells [.float .f64 f.T, .float .f64 f.U, rv, iv] false) := by rw [hs2, get_new, if_neg (by rw [nxt_new]; omega), get_new, if_pos rfl]
  have g2 : Store.get s2.h (s.nxt + 1) = some (.cells [.float .f64 f.T, .float .f64 f.U, rv', iv'] false) := by rw [hs2, get_new, if_pos (by rw [nxt_new])]
  have hs : Same s s2 (fun _ => False) := by rw [hs2]; exact (Same.new (F := fun _ => False)).trans .new (fun _ _ h => h) (fun _ _ h => h)
  clear hs2
  have A0 := load_g (o := 0) g1
  have A1 := load_g (o := 1) g1
  have A2 := load_g (o := 2) g1
  have A3 := load_g (o := 3) g1
  have B0 := load_g (o := 0) g2
  have B1 := load_g (o := 1) g2
  have B2 := load_g (o := 2) g2
  have B3 := load_g (o := 3) g2
  simp only [List.getElem?_cons_zero, List.getElem?_cons_succ] at A0 A1 A2 A3 B0 B1 B2 B3
  refine W_seq (W_ops [2, 3, 5] ?_)
  simp only [o25_1, WO_call, WO_fieldAddr, fieldAddr_p, WO_load, PureK_some, geT_put, evO_tmp, List.map_cons, List.map_nil, Nat.reduceEqDiff, reduceIte, eq_self, Nat.add_zero, e2, e3, A0, B0]
  refine CallK_of (run43_self hX ho) ?_
  rintro _ _ ⟨rfl, rfl⟩
  simp only [WO_call, WO_fieldAddr, fieldAddr_p, WO_load, WO_move, WO_pick, pick_b, WO_nil, PureK_some, WO_guard, want_v, wantB_t, geT_put, evO_tmp, evO_const, keep_nil, keep_cons, keepK_eq, List.map_cons, List.map_nil, Nat.reduceEqDiff, reduceIte, eq_self, Nat.zero_add, e2, e3, A1, B1]
  refine CallK_of (run43_self hX ho) ?_
  rintro _ _ ⟨rfl, rfl⟩
  simp only [WO_move, WO_pick, pick_b, WO_nil, PureK_some, geT_put, evO_tmp, evO_const, keep_nil, keep_cons, keepK_eq, Nat.reduceEqDiff, reduceIte, eq_self, e2, e3]
  clear e2 e3
  intro fr e2 e3 e5
  refine SeqK_n ?_
  refine W_seq (W_ops [4] ?_)
  simp only [o25_2, WO_call, WO_fieldAddr, fieldAddr_p, WO_load, WO_move, WO_pick, pick_b, PureK_some, WO_guard, want_v, wantB_t, geT_put, evO_tmp, evO_const, List.map_cons, List.map_nil, Nat.reduceEqDiff, reduceIte, eq_self, Nat.zero_add, e2, e3, e5, A2, B2]
  refine CallK_of (run44_self hX ho (r1.same hs) (r2.same hs) hl hl2) ?_
  rintro _ _ ⟨rfl, rfl⟩
  simp only [WO_call, WO_fieldAddr, fieldAddr_p, WO_load, WO_move, WO_pick, pick_b, WO_nil, PureK_some, WO_guard, want_v, wantB_t, geT_put, evO_tmp, evO_const, keep_nil, keep_cons, keepK_eq, List.map_cons, List.map_nil, Nat.reduceEqDiff, reduceIte, eq_self, Nat.zero_add, e2, e3, A3, B3]
  refine CallK_of (run44_self hX ho (i1.same hs) (i2.same hs) hl' hl3) ?_
  rintro _ _ ⟨rfl, rfl⟩
  simp only [WO_move, WO_pick, pick_b, WO_nil, PureK_some, geT_put, evO_tmp, evO_const, keep_nil, keep_cons, keepK_eq, Nat.reduceEqDiff, reduceIte, eq_self]
  clear e2 e3 e5
  intro fr e4
  refine SeqK_n ?_
  exact W_ret (Ret1 e4 ⟨rfl, hs⟩)

end Go.Proofs.Ytkfcejhebepdkaa
