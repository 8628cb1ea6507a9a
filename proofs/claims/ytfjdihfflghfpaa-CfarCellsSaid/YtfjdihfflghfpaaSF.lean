/- SumsFloats: plain sums and comparisons, walked. -/
import Derived.Test.YtfjdihfflghfpaaSE
namespace Go.Proofs.Ytfjdihfflghfpaa
open Go Go.Vam Go.Sort

def sumQ (d : Array UInt64) : Nat → Nat
  | 0 => 0
  | 1 => (d[0]!).toNat
  | k + 2 => fadd .f64 (sumQ d (k + 1)) (d[k + 1]!).toNat
theorem sumQ_succ {d : Array UInt64} {k : Nat} (h : 0 < k) : sumQ d (k + 1) = fadd .f64 (sumQ d k) (d[k]!).toNat := by
  cases k with
  | zero => omega
  | succ k => rfl

theorem bits_nn2 {x : Nat} (h : (ford .f64 x x == some .eq) = true) : extV 0 [.float .f64 x] = some (.int .u64 (x : Nat)) := by
  show (if fknown .f64 x then some (Value.int .u64 (x : Nat)) else none) = _
  have hk : fknown .f64 x = true := by
    unfold fknown
    rw [bne_iff_ne]
    rintro rfl
    have : (ford .f64 (nanF .f64) (nanF .f64) == some .eq) = false := by decide
    rw [this] at h; cases h
  rw [hk]; rfl


theorem run18 {X : Ctx} (hX : X.fns = fnsOf Try.prog) (ho : ∀ f args, f ≠ 10 ∧ f ≠ 24 → X.orc f args = none) {s : Mm} {v : Value} {d : Array UInt64} (a : SlC s 1 v d.size (flA d)) (hn : d.size ≤ 4611686018427387904) : CallP X 18 [v] s (fun r s' => r = .float .f64 (sumQ d d.size) ∧ s = s') := by
  have d0 : decide (((d.size : Nat) : Int) = 0) = decide (d.size = 0) := decide_eq_decide.2 (by omega)
  refine CallP_of (hX ▸ ir18_eq) (ho _ _ (by decide)) (Nat.le_of_ble_eq_true rfl) ?_
  refine W_seq (W_ops [0] ?_)
  simp only [o18_0, WO_move, WO_nil, geT_put, frame_nil, frame_cons, evO_const, keep_nil, keep_cons, keepK_eq, Nat.reduceEqDiff, ↓reduceIte, eq_self, Nat.zero_add]
  intro fr e0
  refine SeqK_n ?_
  refine W_assoc ?_
  refine W_seq (W_ops [0, 8] ?_)
  simp only [o18_1, WO_bin, WO_bu, WO_move, bin_eql, WO_nil, PureK_some, geT_put, evO_tmp, evO_const, keep_nil, keep_cons, keepK_eq, List.map_cons, List.map_nil, Nat.reduceEqDiff, ↓reduceIte, eq_self, e0, a.len, d0]
  clear e0
  intro fr e0 e8
  refine SeqK_n ?_
  refine W_seq (W_if e8 (fun h0 => ?_) (fun h0 => W_skip (SeqK_n ?_)))
  · refine W_seq (W_ops [2] ?_)
    simp only [o18_2, WO_move, WO_nil, geT_put, evO_const, keep_nil, keep_cons, keepK_eq, ↓reduceIte, eq_self]
    clear e0 e8
    intro fr e2
    refine SeqK_n ?_
    rw [h0]
    exact W_ret (SeqK_r (Ret1 e2 ⟨rfl, rfl⟩))
  have A0 : addrSlV 1 v (.int .i64 0) = some (elP v 0) := a.addr (kk := .i64) (i := 0) (k := 0) rfl (by omega)
  have L0 : loadV s none (elP v 0) = some (.float .f64 (d[0]!).toNat) := a.load (flA_get (by omega))
  refine W_seq (W_ops [0, 3] ?_)
  simp only [o18_3, WO_addrSl, WO_load, WO_move, WO_nil, PureK_some, geT_put, evO_tmp, evO_const, keep_nil, keep_cons, keepK_eq, Nat.reduceEqDiff, ↓reduceIte, eq_self, e0, A0, L0]
  clear e0 e8
  intro fr e0 e3
  refine SeqK_n ?_
  have hsl := a.slE (k1 := .i64) (i := 1) (l := 1) rfl (by omega)
  have a1 := a.sub (l := 1) (h := d.size) (by omega) (Nat.le_refl _)
  generalize subS 1 v 1 d.size = w at hsl a1
  have hlw := a1.len
  refine W_assoc ?_
  refine W_seq (W_ops [3, 13, 14, 15] ?_)
  simp only [o18_4, WO_bu, WO_move, WO_slSl, WO_nil, PureK_some, geT_put, evO_tmp, evO_const, keep_nil, keep_cons, keepK_eq, List.map_cons, List.map_nil, Option.map_some, Option.map_none, Nat.reduceEqDiff, ↓reduceIte, eq_self, e0, e3, hsl, hlw]
  clear e0 e3
  intro fr e3 e13 e14 e15
  refine SeqK_n ?_
  refine W_seq (W_block (W_loop (fun m fr s1 => ∃ k, k + m = d.size ∧ 1 ≤ k ∧ s = s1 ∧ geT fr 3 = .float .f64 (sumQ d k) ∧ geT fr 13 = w ∧ geT fr 14 = .int .i64 ((d.size - 1 : Nat) : Int) ∧ geT fr 15 = .int .i64 ((k - 1 : Nat) : Int)) (d.size - 1) ⟨1, by omega, by omega, rfl, e3, e13, e14, e15⟩ ?_))
  clear e3 e13 e14 e15 fr
  rintro m fr _ ⟨k, hk, hk1, rfl, e3, e13, e14, e15⟩
  refine W_seq (W_ops [3, 13, 14, 15, 16] ?_)
  simp only [o18_6, WO_bin, bin_lss, WO_nil, PureK_some, geT_put, evO_tmp, keep_nil, keep_cons, keepK_eq, Nat.reduceEqDiff, ↓reduceIte, eq_self, e3, e13, e14, e15]
  clear e3 e13 e14 e15
  intro fr e3 e13 e14 e15 e16
  refine SeqK_n ?_
  refine W_while e16 (fun hlt => ?_) (fun hlt => ?_)
  · have hkd : k < d.size := by omega
    have A1 := a1.addr (kk := .i64) (i := ((k - 1 : Nat) : Int)) rfl (show k - 1 < d.size - 1 by omega)
    rw [Nat.mul_one] at A1
    have L1 : loadV s none (elP w (k - 1)) = some (.float .f64 (d[k]!).toNat) := a1.load (by
      rw [List.getElem?_take_of_lt (by omega), List.getElem?_drop]
      have : 1 * 1 + (k - 1) = k := by omega
      rw [this]; exact flA_get hkd)
    refine W_seq (W_block ?_)
    refine W_seq (W_ops [3, 5, 13, 14, 15] ?_)
    simp only [o18_7, WO_addrSl, WO_load, WO_move, WO_nil, PureK_some, geT_put, evO_tmp, keep_nil, keep_cons, keepK_eq, Nat.reduceEqDiff, ↓reduceIte, eq_self, e3, e13, e14, e15, A1, L1]
    clear e3 e13 e14 e15 e16
    intro fr e3 e5 e13 e14 e15
    refine SeqK_n ?_
    refine W_ops [3, 13, 14, 15] ?_
    simp only [o18_8, WO_bin, WO_move, binf_add, WO_nil, PureK_some, geT_put, evO_tmp, keep_nil, keep_cons, keepK_eq, Nat.reduceEqDiff, ↓reduceIte, eq_self, e3, e5, e13, e14, e15]
    clear e3 e5 e13 e14 e15
    intro fr e3 e13 e14 e15
    refine BlkK_n (SeqK_n ?_)
    refine W_ops [3, 13, 14, 15] ?_
    simp only [o18_9, WO_bin, WO_move, bin_add, WO_nil, PureK_some, geT_put, evO_tmp, evO_const, keep_nil, keep_cons, keepK_eq, Nat.reduceEqDiff, ↓reduceIte, eq_self, e3, e13, e14, e15, wrap_i64 (n := ((k - 1 : Nat) : Int) + 1) (by omega) (by omega)]
    clear e3 e13 e14 e15
    intro fr e3 e13 e14 e15
    exact LoopK_n (m' := m - 1) (by omega) ⟨k + 1, by omega, by omega, rfl, by rw [e3, sumQ_succ (by omega)], e13, e14, e15.trans (congrArg (Value.int .i64) (by omega))⟩
  · have hkn : k = d.size := by omega
    subst hkn
    refine LoopK_x (BlkK_e (SeqK_n ?_))
    refine W_seq (W_ops [2] ?_)
    simp only [o18_10, WO_move, WO_nil, geT_put, evO_tmp, keep_nil, keep_cons, keepK_eq, ↓reduceIte, eq_self, e3]
    clear e3 e13 e14 e15 e16
    intro fr e2
    refine SeqK_n ?_
    exact W_ret (Ret1 e2 ⟨rfl, rfl⟩)

theorem run20b {X : Ctx} (hX : X.fns = fnsOf Try.prog) (ho : ∀ f args, f ≠ 10 ∧ f ≠ 24 → X.orc f args = none) {s0 s : Mm} {l : List HP} {v : Value} {d : Array UInt64} {i : Int} (H : Hold s0 s l) (a : SlC s 1 v d.size (flA d)) (hi : i < 0 ∨ (d.size : Int) ≤ i) :
    CallP X 20 [v, .int .i64 i] s (fun r s' => r = .tuple #[.float .f64 0, .int .i64 2] ∧ Hold s0 s' l) := by
  refine CallP_of (hX ▸ ir20_eq) (ho _ _ (by decide)) (Nat.le_of_ble_eq_true rfl) ?_
  refine W_seq (W_ops [0, 1] ?_)
  simp only [o20_0, WO_move, WO_nil, geT_put, frame_nil, frame_cons, evO_const, keep_nil, keep_cons, keepK_eq, Nat.reduceEqDiff, Nat.reduceAdd, ↓reduceIte, eq_self, Nat.zero_add]
  intro fr e0 e1
  refine SeqK_n ?_
  refine W_assoc ?_
  refine W_seq (W_opsB [14] (fun fr1 s6 => s = s6 ∧ geT fr1 14 = .bool true) ?_ ?_)
  · intro R' hR'
    by_cases h0 : i < 0
    · skip
      simp only [o20_1, WO_bin, WO_move, WO_pick, pick_b, bin_lss, WO_nil, PureK_some, WO_guard, want_v, wantB_f, geT_put, evO_tmp, evO_const, keep_nil, keep_cons, keepK_eq, Nat.reduceEqDiff, ↓reduceIte, Bool.not_true, eq_self, Bool.false_eq_true, e1, decide_eq_true h0]
      intro fr e14
      exact hR' _ _ ⟨rfl, e14⟩
    · skip
      simp only [o20_1, WO_bin, WO_bu, WO_move, WO_pick, pick_b, bin_geq, bin_lss, WO_nil, PureK_some, WO_guard, want_v, wantB_f, geT_put, evO_tmp, evO_const, keep_nil, keep_cons, keepK_eq, List.map_cons, List.map_nil, Nat.reduceEqDiff, ↓reduceIte, Bool.not_false, eq_self, Bool.false_eq_true, e0, e1, a.len, decide_eq_false h0, decide_eq_true (show ((d.size : Nat) : Int) ≤ i by omega)]
      intro fr e14
      exact hR' _ _ ⟨rfl, e14⟩
  clear e0 e1 fr
  rintro fr _ ⟨rfl, e14⟩
  refine SeqK_n ?_
  refine W_seq (W_cond e14 (fun _ => ?_) (fun h => by cases h))
  refine W_seq (W_ops [4, 5] ?_)
  simp only [o20_2, WO_move, WO_nil, geT_put, evO_const, keep_nil, keep_cons, keepK_eq, Nat.reduceEqDiff, ↓reduceIte, eq_self]
  clear e14
  intro fr e4 e5
  refine SeqK_n ?_
  exact W_ret (SeqK_r (Ret2 e4 e5 ⟨rfl, H⟩))

end Go.Proofs.Ytfjdihfflghfpaa

/- SumsFloats: the document's sort, walked. -/
namespace Go.Proofs.Ytfjdihfflghfpaa
open Go Go.Vam Go.Sort

def kx (x : UInt64) : Int := kap x.toNat
def SortedK (L : List UInt64) : Prop := L.Pairwise fun x y => kx x ≤ kx y
def AllLe (L M : List UInt64) : Prop := ∀ x ∈ L, ∀ y ∈ M, kx x ≤ kx y

theorem sortedK_append {L M : List UInt64} : SortedK (L ++ M) ↔ SortedK L ∧ SortedK M ∧ AllLe L M := List.pairwise_append

theorem srt_of {d : Array UInt64} {L : List UInt64} (h1 : L.Perm d.toList) (h2 : SortedK L) : (L.map fun x => kap x.toNat) = srt d := by
  have hn : d.size = d.size := rfl
  have hsz : L.length = d.size := by rw [h1.length_eq]; simp
  refine srt_is (d' := L.toArray) rfl ⟨by simpa using hsz, fun i hi => ?_, ?_⟩ (fun i j _ hij hj => ?_)
  · have h3 : d.size ≤ i := by omega
    have h4 : L.length ≤ i := by omega
    simp [h3, h4]
  · have e0 : ∀ a : Array UInt64, (a.extract 0 a.size).toList = a.toList := fun a => by simp
    have e1 : (L.toArray.extract 0 d.size).toList = L := by
      have : d.size = L.toArray.size := by simp [hsz]
      rw [this, e0]
    rw [e0, e1]; exact h1
  · have hj' : j < L.length := by omega
    have := List.pairwise_iff_getElem.1 h2 i j (by omega) hj' hij
    unfold ltK
    refine decide_eq_false ?_
    have g : ∀ k (hk : k < L.length), L.toArray[k]! = L[k] := fun k hk => by simp [hk]
    rw [g j hj', g i (by omega)]
    unfold kx at this
    omega


theorem drop_cons {L : List UInt64} {k : Nat} (hk : k < L.length) : L.drop k = L[k] :: L.drop (k + 1) := by
  rw [List.drop_eq_getElem_cons hk]

theorem arr_get {L : List UInt64} {k : Nat} (hk : k < L.length) : (L.toArray)[k]! = L[k] := by simp [hk]

/-- What is merged so far. -/
structure Mrg (A B O : List UInt64) (p k : Nat) : Prop where
  perm : O.Perm (A.take p ++ B.take k)
  srt : SortedK O
  la : AllLe O (A.drop p)
  lb : AllLe O (B.drop k)

theorem Mrg.nil (A B : List UInt64) : Mrg A B [] 0 0 := ⟨by simp, List.Pairwise.nil, fun x h => (by cases h), fun x h => (by cases h)⟩

theorem snoc_sorted {O : List UInt64} {x : UInt64} (h : SortedK O) (hx : ∀ y ∈ O, kx y ≤ kx x) : SortedK (O ++ [x]) :=
  sortedK_append.2 ⟨h, List.pairwise_singleton _ _, fun y hy z hz => by rw [List.mem_singleton.1 hz]; exact hx y hy⟩

theorem Mrg.left {A B O : List UInt64} {p k : Nat} (h : Mrg A B O p k) (hA : SortedK A) (hB : SortedK B) (hp : p < A.length) (hk : k < B.length) (hle : kx A[p] ≤ kx B[k]) : Mrg A B (O ++ [A[p]]) (p + 1) k := by
  have hd := drop_cons hp
  have hdb := drop_cons hk
  have sA : SortedK (A.drop p) := hA.sublist (List.drop_sublist p A)
  have sB : SortedK (B.drop k) := hB.sublist (List.drop_sublist k B)
  rw [hd] at sA
  rw [hdb] at sB
  have hxa := (List.pairwise_cons.1 sA).1
  have hxb := (List.pairwise_cons.1 sB).1
  refine ⟨?_, snoc_sorted h.srt (fun y hy => h.la y hy _ (by rw [hd]; exact List.mem_cons_self ..)), ?_, ?_⟩
  · rw [List.take_add_one, List.getElem?_eq_getElem hp]
    have := h.perm.append_right [A[p]]
    refine this.trans ?_
    show (A.take p ++ B.take k ++ [A[p]]).Perm (A.take p ++ [A[p]] ++ B.take k)
    rw [List.append_assoc, List.append_assoc]
    exact (List.perm_append_comm).append_left _
  · intro x hx y hy
    rcases List.mem_append.1 hx with hx | hx
    · exact h.la x hx y (by rw [hd]; exact List.mem_cons_of_mem _ hy)
    · rw [List.mem_singleton.1 hx]; exact hxa y hy
  · intro x hx y hy
    rcases List.mem_append.1 hx with hx | hx
    · exact h.lb x hx y hy
    · rw [List.mem_singleton.1 hx]
      rw [hdb] at hy
      rcases List.mem_cons.1 hy with rfl | hy
      · exact hle
      · have := hxb y hy; omega

theorem Mrg.right {A B O : List UInt64} {p k : Nat} (h : Mrg A B O p k) (hA : SortedK A) (hB : SortedK B) (hk : k < B.length) (hle : ∀ hp : p < A.length, kx B[k] ≤ kx A[p]) : Mrg A B (O ++ [B[k]]) p (k + 1) := by
  have hdb := drop_cons hk
  have sB : SortedK (B.drop k) := hB.sublist (List.drop_sublist k B)
  rw [hdb] at sB
  have hxb := (List.pairwise_cons.1 sB).1
  refine ⟨?_, snoc_sorted h.srt (fun y hy => h.lb y hy _ (by rw [hdb]; exact List.mem_cons_self ..)), ?_, ?_⟩
  · rw [List.take_add_one, List.getElem?_eq_getElem hk]
    have := h.perm.append_right [B[k]]
    refine this.trans ?_
    rw [List.append_assoc]
    exact List.Perm.refl _
  · intro x hx y hy
    rcases List.mem_append.1 hx with hx | hx
    · exact h.la x hx y hy
    · rw [List.mem_singleton.1 hx]
      by_cases hp : p < A.length
      · have hd := drop_cons hp
        have sA : SortedK (A.drop p) := hA.sublist (List.drop_sublist p A)
        rw [hd] at sA hy
        have hxa := (List.pairwise_cons.1 sA).1
        have h1 := hle hp
        rcases List.mem_cons.1 hy with rfl | hy
        · exact h1
        · have := hxa y hy; omega
      · rw [List.drop_eq_nil_of_le (by omega)] at hy; cases hy
  · intro x hx y hy
    rcases List.mem_append.1 hx with hx | hx
    · exact h.lb x hx y (by rw [hdb]; exact List.mem_cons_of_mem _ hy)
    · rw [List.mem_singleton.1 hx]; exact hxb y hy

theorem Mrg.done {A B O : List UInt64} {p : Nat} (h : Mrg A B O p B.length) (hA : SortedK A) : (O ++ A.drop p).Perm (A ++ B) ∧ SortedK (O ++ A.drop p) := by
  refine ⟨?_, sortedK_append.2 ⟨h.srt, hA.sublist (List.drop_sublist p A), h.la⟩⟩
  have := h.perm.append_right (A.drop p)
  refine this.trans ?_
  rw [List.take_length, List.append_assoc]
  have e : A ++ B = A.take p ++ (A.drop p ++ B) := by rw [← List.append_assoc, List.take_append_drop]
  rw [e]
  exact (List.perm_append_comm).append_left _

def flT (L : List UInt64) : List Value := L.map fun x => Value.float .f64 x.toNat
theorem fl_push (L : List UInt64) (x : UInt64) : flT L ++ [Value.float .f64 x.toNat] = flT (L ++ [x]) := by simp [flT]
theorem flT_take (L : List UInt64) (k : Nat) : (flT L).take k = flT (L.take k) := by simp [flT, List.map_take]
theorem flT_drop (L : List UInt64) (k : Nat) : (flT L).drop k = flT (L.drop k) := by simp [flT, List.map_drop]
theorem flT_app (L M : List UInt64) : flT L ++ flT M = flT (L ++ M) := by simp [flT]
theorem flT_len (L : List UInt64) : (flT L).length = L.length := by simp [flT]
theorem flT_one (L : List UInt64) : (flT L).all oneCell = true := by unfold flT; rw [List.all_map]; simp [oneCell]
theorem flT_get {L : List UInt64} {k : Nat} (hk : k < L.length) : (flT L)[k]? = some (.float .f64 (L[k]).toNat) := by simp [flT, hk]


end Go.Proofs.Ytfjdihfflghfpaa

/- SumsFloats, walked. -/
namespace Go.Proofs.Ytfjdihfflghfpaa
open Go Go.Vam Go.Sort

/-- What stands at a place of a list sorted; what is told where there is no such place. -/
def NV (d : Array UInt64) (z : Int) (x : Nat) (e : Int) : Prop := (0 ≤ z ∧ z < (d.size : Int) ∧ e = 0 ∧ (srt d)[z.toNat]? = some (kap x)) ∨ ((z < 0 ∨ (d.size : Int) ≤ z) ∧ e = 2 ∧ x = 0)

theorem NV.same {d : Array UInt64} {z : Int} {x y : Nat} {e f : Int} (h1 : NV d z x e) (h2 : NV d z y f) : e = f ∧ kap x = kap y := by
  rcases h1 with ⟨a1, a2, a3, a4⟩ | ⟨a1, a2, a3⟩ <;> rcases h2 with ⟨b1, b2, b3, b4⟩ | ⟨b1, b2, b3⟩
  · rw [a4] at b4
    exact ⟨by omega, Option.some.inj b4⟩
  · omega
  · omega
  · exact ⟨by omega, by rw [a3, b3]⟩


theorem nth_all {X : Ctx} (hX : X.fns = fnsOf Try.prog) (ho : ∀ f args, f ≠ 10 ∧ f ≠ 24 → X.orc f args = none) {s0 s : Mm} {l : List HP} {v : Value} {d : Array UInt64} {z : Int} (H : Hold s0 s l) (a : SlC s 1 v d.size (flA d)) (hn : d.size ≤ 1099511627776) :
    CallP X 20 [v, .int .i64 z] s (fun r s' => ∃ (x : Nat) (e : Int), r = .tuple #[.float .f64 x, .int .i64 e] ∧ x < 18446744073709551616 ∧ NV d z x e ∧ Hold s0 s' l) := by
  by_cases hz : 0 ≤ z ∧ z < (d.size : Int)
  · obtain ⟨i, rfl⟩ : ∃ i : Nat, z = (i : Nat) := ⟨z.toNat, by omega⟩
    obtain ⟨r, s', h1, x, rfl, h2, h3⟩ := run20 hX ho (i := i) H a (by omega) hn
    exact ⟨_, s', h1, x.toNat, 0, rfl, UInt64.toNat_lt x, .inl ⟨hz.1, hz.2, rfl, by rw [Int.toNat_natCast]; exact h2⟩, h3⟩
  · obtain ⟨r, s', h1, rfl, h3⟩ := run20b hX ho (i := z) H a (by omega)
    exact ⟨_, s', h1, 0, 2, rfl, by decide, .inr ⟨by omega, rfl, rfl⟩, h3⟩

end Go.Proofs.Ytfjdihfflghfpaa
namespace Go.Proofs.Ytfjdihfflghfpaa
open Go Go.Vam Go.Sort
end Go.Proofs.Ytfjdihfflghfpaa
