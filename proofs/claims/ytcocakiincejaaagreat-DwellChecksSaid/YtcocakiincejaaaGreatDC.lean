/- The codes' makers: known for their numbers, walked for all others. -/
import Derived.Test.YtcocakiincejaaaGreatDB
import Derived.Test.YtcocakiincejaaaGreatE3
import Derived.Test.YtcocakiincejaaaGreatKB
namespace Go.Proofs.YtcocakiincejaaaGreat
open Go Go.Vam

/-- What is known of calls: the closed wakes answers true, a code of a number from 0 to 12 comes to so many samples; of no other call anything. -/
structure KnownC (X : Ctx) : Prop where
  wake : ∀ s, X.orc 6 [] s = some (.bool true, s)
  code : ∀ f m s, f = 8 ∨ f = 12 → 0 ≤ m ∧ m ≤ 12 → ∃ B o cap n, X.orc f [.int .i64 m] s = some (.tuple #[.slice (some ⟨B, o, none⟩) (codeLen m) cap, .int .i64 0], ⟨s.h, s.nxt + n⟩)
  bad : ∀ f m s, f = 8 ∨ f = 12 → ¬ (0 ≤ m ∧ m ≤ 12) → X.orc f [.int .i64 m] s = none

/-- What a code's maker comes to. -/
def CodeR (m : Int) (r : Value) : Prop :=
  if 0 ≤ m ∧ m ≤ 12 then ∃ B o cap, r = .tuple #[.slice (some ⟨B, o, none⟩) (codeLen m) cap, .int .i64 0] else r = .tuple #[.slice none 0 0, .int .i64 40]

theorem no8 {m : Int} (h : ¬ (0 ≤ m ∧ m ≤ 12)) : (decide (0 < m) = false) ∨ (decide (0 < m) = true ∧ decide (m < 8) = false ∧ decide (1 ≤ m) = true ∧ decide (m ≤ 7) = false) := by
  by_cases h0 : 0 < m
  · exact .inr ⟨decide_eq_true h0, decide_eq_false (by omega), decide_eq_true (by omega), decide_eq_false (by omega)⟩
  · exact .inl (decide_eq_false h0)


theorem run8 {X : Ctx} (hX : X.fns = fnsOf Tryz.prog) (hk : KnownC X) {s : Mm} {m : Int} (hm : ¬ (0 ≤ m ∧ m ≤ 12)) : CallP X 8 [.int .i64 m] s (fun r s' => r = .tuple #[.slice none 0 0, .int .i64 40] ∧ Same s s' (fun _ => False)) := by
  have hbu : buildV [.int .i64 0, .int .i64 0, .int .i64 0, .int .i64 0, .int .i64 0, .int .i64 0, .int .i64 0, .int .i64 0] [(1, 1, .int .i64 2), (2, 1, .int .i64 3), (3, 1, .int .i64 4), (4, 1, .int .i64 5), (5, 1, .int .i64 7), (6, 1, .int .i64 11), (7, 1, .int .i64 13)] = some (.agg #[.int .i64 0, .int .i64 2, .int .i64 3, .int .i64 4, .int .i64 5, .int .i64 7, .int .i64 11, .int .i64 13]) := rfl
  have H2 := (Hold.refl s).new [.int .i64 0, .int .i64 0, .int .i64 0, .int .i64 0, .int .i64 0, .int .i64 0, .int .i64 0, .int .i64 0]
  have st : storeV (newAt s (.cells [.int .i64 0, .int .i64 0, .int .i64 0, .int .i64 0, .int .i64 0, .int .i64 0, .int .i64 0, .int .i64 0] false)) 8 (.pointer (some ⟨s.nxt, 0, none⟩)) (.agg #[.int .i64 0, .int .i64 2, .int .i64 3, .int .i64 4, .int .i64 5, .int .i64 7, .int .i64 11, .int .i64 13]) = some (undefV, setBlk (newAt s (.cells [.int .i64 0, .int .i64 0, .int .i64 0, .int .i64 0, .int .i64 0, .int .i64 0, .int .i64 0, .int .i64 0] false)) s.nxt (.cells [.int .i64 0, .int .i64 2, .int .i64 3, .int .i64 4, .int .i64 5, .int .i64 7, .int .i64 11, .int .i64 13] false)) :=
    store_all (vs := [.int .i64 0, .int .i64 2, .int .i64 3, .int .i64 4, .int .i64 5, .int .i64 7, .int .i64 11, .int .i64 13]) (H2.cell (List.mem_cons_self ..)) rfl rfl rfl
  have hS := (H2.setc (cs' := [.int .i64 0, .int .i64 2, .int .i64 3, .int .i64 4, .int .i64 5, .int .i64 7, .int .i64 11, .int .i64 13])).same
  refine CallP_of (hX ▸ ir8_eq) (hk.bad _ _ _ (.inl rfl) hm) (Nat.le_of_ble_eq_true rfl) ?_
  refine W_seq (W_ops [0] ?_)
  simp only [o8_0, WO_move, WO_nil, geT_put, frame_nil, frame_cons, evO_const, keep_nil, keep_cons, keepK_eq, Nat.reduceEqDiff, ↓reduceIte, eq_self, Nat.zero_add]
  intro fr e0
  refine SeqK_n ?_
  refine W_seq (W_ops [0, 4] ?_)
  simp only [o8_1, WO_alloc, WO_build, WO_store, WO_nil, PureK_some, MemK_some, geT_put, puT_none, evO_tmp, evO_const, keep_nil, keep_cons, keepK_eq, List.map_cons, List.map_nil, Nat.reduceEqDiff, ↓reduceIte, eq_self, e0, hbu, st]
  clear e0
  intro fr e0 e4
  refine SeqK_n ?_
  generalize setBlk _ s.nxt _ = s1 at hS ⊢
  clear st H2 hbu
  generalize s.nxt = Bk at e4
  refine W_seq (W_block ?_)
  refine W_seq (W_ops [0, 4, 6] ?_)
  simp only [o8_2, WO_bin, WO_move, bin_eql, WO_nil, PureK_some, geT_put, evO_tmp, evO_const, keep_nil, keep_cons, keepK_eq, Nat.reduceEqDiff, ↓reduceIte, eq_self, e0, e4]
  clear e0 e4
  intro fr e0 e4 e6
  refine SeqK_n ?_
  refine W_if e6 (fun h => absurd h (by omega)) (fun _ => ?_)
  refine W_seq (W_opsB [0, 10] (fun fr1 s6 => s1 = s6 ∧ geT fr1 0 = .int .i64 m ∧ geT fr1 10 = .bool false) ?_ ?_)
  · intro R' hR'
    rcases no8 hm with h | ⟨h, h2, _⟩
    · simp only [o8_4, WO_bin, WO_move, WO_pick, pick_b, bin_gtr, WO_nil, PureK_some, WO_guard, want_v, wantB_t, geT_put, evO_tmp, evO_const, keep_nil, keep_cons, keepK_eq, Nat.reduceEqDiff, ↓reduceIte, eq_self, Bool.false_eq_true, e0, h]
      intro fr e0 e10
      exact hR' _ _ ⟨rfl, e0, e10⟩
    · simp only [o8_4, WO_bin, WO_move, WO_pick, pick_b, bin_gtr, bin_lss, WO_nil, PureK_some, WO_guard, want_v, wantB_t, geT_put, evO_tmp, evO_const, keep_nil, keep_cons, keepK_eq, Nat.reduceEqDiff, ↓reduceIte, eq_self, e0, h, h2]
      intro fr e0 e10
      exact hR' _ _ ⟨rfl, e0, e10⟩
  clear e0 e4 e6 fr
  rintro fr _ ⟨rfl, e0, e10⟩
  refine SeqK_n ?_
  refine W_cond e10 (fun h => by cases h) (fun _ => ?_)
  refine W_seq (W_ops [0, 23] ?_)
  simp only [o8_6, WO_bin, WO_move, bin_eql, WO_nil, PureK_some, geT_put, evO_tmp, evO_const, keep_nil, keep_cons, keepK_eq, Nat.reduceEqDiff, ↓reduceIte, eq_self, e0]
  clear e0 e10
  intro fr e0 e23
  refine SeqK_n ?_
  refine W_if e23 (fun h => absurd h (by omega)) (fun _ => ?_)
  refine W_seq (W_ops [0, 29] ?_)
  simp only [o8_8, WO_bin, WO_move, bin_eql, WO_nil, PureK_some, geT_put, evO_tmp, evO_const, keep_nil, keep_cons, keepK_eq, Nat.reduceEqDiff, ↓reduceIte, eq_self, e0]
  clear e0 e23
  intro fr e0 e29
  refine SeqK_n ?_
  refine W_if e29 (fun h => absurd h (by omega)) (fun _ => ?_)
  refine W_seq (W_ops [0, 35] ?_)
  simp only [o8_10, WO_bin, WO_move, bin_eql, WO_nil, PureK_some, geT_put, evO_tmp, evO_const, keep_nil, keep_cons, keepK_eq, Nat.reduceEqDiff, ↓reduceIte, eq_self, e0]
  clear e0 e29
  intro fr e0 e35
  refine SeqK_n ?_
  refine W_if e35 (fun h => absurd h (by omega)) (fun _ => ?_)
  refine W_seq (W_ops [0, 41] ?_)
  simp only [o8_12, WO_bin, WO_move, bin_eql, WO_nil, PureK_some, geT_put, evO_tmp, evO_const, keep_nil, keep_cons, keepK_eq, Nat.reduceEqDiff, ↓reduceIte, eq_self, e0]
  clear e0 e35
  intro fr e0 e41
  refine SeqK_n ?_
  refine W_if e41 (fun h => absurd h (by omega)) (fun _ => ?_)
  refine W_seq (W_ops [47] ?_)
  simp only [o8_14, WO_bin, WO_move, bin_eql, WO_nil, PureK_some, geT_put, evO_tmp, evO_const, keep_nil, keep_cons, keepK_eq, ↓reduceIte, eq_self, e0]
  clear e0 e41
  intro fr e47
  refine SeqK_n ?_
  refine W_if e47 (fun h => absurd h (by omega)) (fun _ => W_skip (BlkK_n (SeqK_n ?_)))
  refine W_seq (W_ops [2, 3] ?_)
  simp only [o8_16, WO_move, WO_nil, geT_put, evO_const, keep_nil, keep_cons, keepK_eq, Nat.reduceEqDiff, ↓reduceIte, eq_self]
  clear e47
  intro fr e2 e3
  refine SeqK_n ?_
  exact W_ret (Ret2 e2 e3 ⟨rfl, hS⟩)

theorem run12 {X : Ctx} (hX : X.fns = fnsOf Tryz.prog) (hk : KnownC X) {s : Mm} {m : Int} (hm : ¬ (0 ≤ m ∧ m ≤ 12)) : CallP X 12 [.int .i64 m] s (fun r s' => r = .tuple #[.slice none 0 0, .int .i64 40] ∧ Same s s' (fun _ => False)) := by
  have hbu : buildSlV s 1 [.int .i64 0] 7 [(0, 1, .int .i64 2), (1, 1, .int .i64 3), (2, 1, .int .i64 4), (3, 1, .int .i64 5), (4, 1, .int .i64 7), (5, 1, .int .i64 11), (6, 1, .int .i64 13)] = some (.slice (some ⟨s.nxt, 0, none⟩) 7 7, .cells [.int .i64 2, .int .i64 3, .int .i64 4, .int .i64 5, .int .i64 7, .int .i64 11, .int .i64 13] false) := rfl
  have hS := ((Hold.refl s).new [.int .i64 2, .int .i64 3, .int .i64 4, .int .i64 5, .int .i64 7, .int .i64 11, .int .i64 13]).same
  refine CallP_of (hX ▸ ir12_eq) (hk.bad _ _ _ (.inr rfl) hm) (Nat.le_of_ble_eq_true rfl) ?_
  refine W_seq (W_ops [0] ?_)
  simp only [o12_0, WO_move, WO_nil, geT_put, frame_nil, frame_cons, evO_const, keep_nil, keep_cons, keepK_eq, Nat.reduceEqDiff, ↓reduceIte, eq_self, Nat.zero_add]
  intro fr e0
  refine SeqK_n ?_
  refine W_seq (W_ops [0, 4] ?_)
  simp only [o12_1, WO_buildSlice, WO_move, WO_nil, NewK_some, geT_put, evO_tmp, evO_const, keep_nil, keep_cons, keepK_eq, List.map_cons, List.map_nil, Nat.reduceEqDiff, ↓reduceIte, eq_self, Nat.mul_one, e0, hbu]
  clear e0
  intro fr e0 e4
  refine SeqK_n ?_
  generalize newAt s _ = s1 at hS ⊢
  clear hbu
  generalize s.nxt = Bk at e4
  refine W_seq (W_block ?_)
  refine W_seq (W_ops [0, 4, 6] ?_)
  simp only [o12_2, WO_bin, WO_move, bin_eql, WO_nil, PureK_some, geT_put, evO_tmp, evO_const, keep_nil, keep_cons, keepK_eq, Nat.reduceEqDiff, ↓reduceIte, eq_self, e0, e4]
  clear e0 e4
  intro fr e0 e4 e6
  refine SeqK_n ?_
  refine W_if e6 (fun h => absurd h (by omega)) (fun _ => ?_)
  refine W_seq (W_opsB [0, 11] (fun fr1 s6 => s1 = s6 ∧ geT fr1 0 = .int .i64 m ∧ geT fr1 11 = .bool false) ?_ ?_)
  · intro R' hR'
    rcases no8 hm with h | ⟨_, _, h, h2⟩
    · have h1 : decide (1 ≤ m) = false := decide_eq_false (by have := of_decide_eq_false h; omega)
      simp only [o12_4, WO_bin, WO_move, WO_pick, pick_b, bin_geq, WO_nil, PureK_some, WO_guard, want_v, wantB_t, geT_put, evO_tmp, evO_const, keep_nil, keep_cons, keepK_eq, Nat.reduceEqDiff, ↓reduceIte, eq_self, Bool.false_eq_true, e0, h1]
      intro fr e0 e11
      exact hR' _ _ ⟨rfl, e0, e11⟩
    · simp only [o12_4, WO_bin, WO_move, WO_pick, pick_b, bin_geq, bin_leq, WO_nil, PureK_some, WO_guard, want_v, wantB_t, geT_put, evO_tmp, evO_const, keep_nil, keep_cons, keepK_eq, Nat.reduceEqDiff, ↓reduceIte, eq_self, e0, h, h2]
      intro fr e0 e11
      exact hR' _ _ ⟨rfl, e0, e11⟩
  clear e0 e4 e6 fr
  rintro fr _ ⟨rfl, e0, e11⟩
  refine SeqK_n ?_
  refine W_cond e11 (fun h => by cases h) (fun _ => ?_)
  refine W_seq (W_ops [0, 26] ?_)
  simp only [o12_6, WO_bin, WO_move, bin_eql, WO_nil, PureK_some, geT_put, evO_tmp, evO_const, keep_nil, keep_cons, keepK_eq, Nat.reduceEqDiff, ↓reduceIte, eq_self, e0]
  clear e0 e11
  intro fr e0 e26
  refine SeqK_n ?_
  refine W_if e26 (fun h => absurd h (by omega)) (fun _ => ?_)
  refine W_seq (W_ops [0, 32] ?_)
  simp only [o12_8, WO_bin, WO_move, bin_eql, WO_nil, PureK_some, geT_put, evO_tmp, evO_const, keep_nil, keep_cons, keepK_eq, Nat.reduceEqDiff, ↓reduceIte, eq_self, e0]
  clear e0 e26
  intro fr e0 e32
  refine SeqK_n ?_
  refine W_if e32 (fun h => absurd h (by omega)) (fun _ => ?_)
  refine W_seq (W_ops [0, 38] ?_)
  simp only [o12_10, WO_bin, WO_move, bin_eql, WO_nil, PureK_some, geT_put, evO_tmp, evO_const, keep_nil, keep_cons, keepK_eq, Nat.reduceEqDiff, ↓reduceIte, eq_self, e0]
  clear e0 e32
  intro fr e0 e38
  refine SeqK_n ?_
  refine W_if e38 (fun h => absurd h (by omega)) (fun _ => ?_)
  refine W_seq (W_ops [0, 44] ?_)
  simp only [o12_12, WO_bin, WO_move, bin_eql, WO_nil, PureK_some, geT_put, evO_tmp, evO_const, keep_nil, keep_cons, keepK_eq, Nat.reduceEqDiff, ↓reduceIte, eq_self, e0]
  clear e0 e38
  intro fr e0 e44
  refine SeqK_n ?_
  refine W_if e44 (fun h => absurd h (by omega)) (fun _ => ?_)
  refine W_seq (W_ops [50] ?_)
  simp only [o12_14, WO_bin, WO_move, bin_eql, WO_nil, PureK_some, geT_put, evO_tmp, evO_const, keep_nil, keep_cons, keepK_eq, ↓reduceIte, eq_self, e0]
  clear e0 e44
  intro fr e50
  refine SeqK_n ?_
  refine W_if e50 (fun h => absurd h (by omega)) (fun _ => W_skip (BlkK_n (SeqK_n ?_)))
  refine W_seq (W_ops [2, 3] ?_)
  simp only [o12_16, WO_move, WO_nil, geT_put, evO_const, keep_nil, keep_cons, keepK_eq, Nat.reduceEqDiff, ↓reduceIte, eq_self]
  clear e50
  intro fr e2 e3
  refine SeqK_n ?_
  exact W_ret (Ret2 e2 e3 ⟨rfl, hS⟩)

theorem runCode {X : Ctx} (hX : X.fns = fnsOf Tryz.prog) (hk : KnownC X) {f : FuncId} (hf : f = 8 ∨ f = 12) {s : Mm} {m : Int} : CallP X f [.int .i64 m] s (fun r s' => CodeR m r ∧ Same s s' (fun _ => False)) := by
  by_cases hm : 0 ≤ m ∧ m ≤ 12
  · obtain ⟨B, o, cap, n, h⟩ := hk.code f m s hf hm
    exact ⟨_, _, Call_orc h, by unfold CodeR; rw [if_pos hm]; exact ⟨B, o, cap, rfl⟩, Nat.le_add_right _ _, fun _ _ _ => rfl⟩
  · have hR : ∀ {r : Value}, r = .tuple #[.slice none 0 0, .int .i64 40] → CodeR m r := fun h => by unfold CodeR; rw [if_neg hm]; exact h
    rcases hf with rfl | rfl
    · obtain ⟨r, s', h1, h2, h3⟩ := run8 hX hk (s := s) hm
      exact ⟨r, s', h1, hR h2, h3⟩
    · obtain ⟨r, s', h1, h2, h3⟩ := run12 hX hk (s := s) hm
      exact ⟨r, s', h1, hR h2, h3⟩

end Go.Proofs.YtcocakiincejaaaGreat

/- A setup's check, as the program does it, walked. -/
namespace Go.Proofs.YtcocakiincejaaaGreat
open Go Go.Vam

/-- A setup. -/
structure St where
  c : Nat
  w : Nat
  r : Nat
  ev : Int
  ro : Int
  code : Int
  win : Int
  cancel : Int
  way : Int
  guard : Int
  train : Int
  nth : Int
  times : Nat
  noise : Nat

def St.C (x : St) : List Value := [.float .f64 x.c, .float .f64 x.w, .float .f64 x.r, .int .i64 x.ev, .int .i64 x.ro, .int .i64 x.code, .int .i8 x.win, .int .i64 x.cancel, .int .i8 x.way, .int .i64 x.guard, .int .i64 x.train, .int .i64 x.nth, .float .f64 x.times, .float .f64 x.noise]
def St.V (x : St) : Value := .agg #[.float .f64 x.c, .float .f64 x.w, .float .f64 x.r, .int .i64 x.ev, .int .i64 x.ro, .int .i64 x.code, .int .i8 x.win, .int .i64 x.cancel, .int .i8 x.way, .int .i64 x.guard, .int .i64 x.train, .int .i64 x.nth, .float .f64 x.times, .float .f64 x.noise]
def St.beat (x : St) : Int := beatE x.c x.w x.r x.ev x.ro
def lt0 (x : Nat) : Bool := ford .f64 x 0 == some .lt

/-- What a setup's check tells. -/
def chkE (x : St) : Int :=
  if ¬ x.beat = 0 then x.beat
  else if ¬ (0 ≤ x.code ∧ x.code ≤ 12) then 40
  else if x.ev < (codeLen x.code : Nat) ∨ ¬ (0 ≤ x.cancel ∧ x.cancel ≤ 8 ∧ x.cancel < x.ro) then 2
  else if ¬ (0 ≤ x.guard ∧ x.guard ≤ 16384) ∨ ¬ (1 ≤ x.train ∧ x.train ≤ 16384) then 2
  else if ¬ (0 ≤ x.nth ∧ x.nth ≤ 32768) ∨ (x.way = 3 ∧ 2 * x.train - 1 < x.nth) then 2
  else if finT x.times = false ∨ finT x.noise = false then 6
  else if lt0 x.times = true ∨ lt0 x.noise = true then 2
  else if 16777216 < x.ro * x.ev * (codeLen x.code : Nat) ∨ 16777216 < x.ro * x.ro * x.ev then 3 else 0

theorem beat_zero {c w r : Nat} {ev ro : Int} (h : beatE c w r ev ro = 0) : 1 ≤ ev ∧ ev ≤ 16384 ∧ 1 ≤ ro ∧ ro ≤ 256 ∧ ev * ro ≤ 262144 := by
  unfold beatE at h
  split at h
  · omega
  · split at h
    · omega
    · split at h
      · omega
      · omega

theorem codeLen_le {m : Int} (h : 0 ≤ m ∧ m ≤ 12) : codeLen m ≤ 160 := by
  have hm : m = 0 ∨ m = 1 ∨ m = 2 ∨ m = 3 ∨ m = 4 ∨ m = 5 ∨ m = 6 ∨ m = 7 ∨ m = 8 ∨ m = 9 ∨ m = 10 ∨ m = 11 ∨ m = 12 := by omega
  rcases hm with rfl | rfl | rfl | rfl | rfl | rfl | rfl | rfl | rfl | rfl | rfl | rfl | rfl <;> decide

/-- The work in one product, and in two. -/
theorem work_two {ro ev : Int} {n : Nat} (h : 0 ≤ ro * ev) : (16777216 < ro * ev * (if ro > (n : Int) then ro else (n : Int))) ↔ (16777216 < ro * ev * (n : Int) ∨ 16777216 < ro * ro * ev) := by
  have e : ro * ro * ev = ro * ev * ro := by rw [Int.mul_assoc, Int.mul_comm ro ev, ← Int.mul_assoc, Int.mul_comm ro ev]
  rw [e]
  split
  · rename_i hr
    have := Int.mul_le_mul_of_nonneg_left (a := (n : Int)) (b := ro) (c := ro * ev) (by omega) h
    omega
  · rename_i hr
    have := Int.mul_le_mul_of_nonneg_left (a := ro) (b := (n : Int)) (c := ro * ev) (by omega) h
    omega

theorem work_wrap {ro ev k : Int} (h1 : 1 ≤ ev) (h2 : 1 ≤ ro) (h3 : ev * ro ≤ 262144) (h4 : 0 ≤ k) (h5 : k ≤ 256) : wrapK .i64 (ro * ev) = ro * ev ∧ wrapK .i64 (ro * ev * k) = ro * ev * k ∧ 0 ≤ ro * ev := by
  have e : ro * ev = ev * ro := Int.mul_comm ..
  have h0 : 0 ≤ ro * ev := Int.mul_nonneg (by omega) (by omega)
  have h6 : ro * ev * k ≤ 262144 * 256 := Int.mul_le_mul (by omega) h5 h4 (by omega)
  have h7 : 0 ≤ ro * ev * k := Int.mul_nonneg h0 h4
  exact ⟨wrap_i64 (by omega) (by omega), wrap_i64 (by omega) (by omega), h0⟩


set_option maxHeartbeats 2000000 in
theorem run4 {X : Ctx} (hX : X.fns = fnsOf Tryz.prog) (ho : ∀ f args s, f ≠ 6 ∧ f ≠ 8 ∧ f ≠ 12 → X.orc f args s = none) (hk : KnownC X) {s : Mm} {x : St} (ht : x.times < 18446744073709551616) (hn : x.noise < 18446744073709551616) : CallP X 4 [x.V] s (fun r s' => r = .int .i64 (chkE x) ∧ Same s s' (fun _ => False)) := by
  have hbx : x.V.cells.toList = x.C := rfl
  have H1 := (Hold.refl s).new x.C
  refine CallP_of (hX ▸ ir4_eq) (ho _ _ _ (by decide)) (Nat.le_of_ble_eq_true rfl) ?_
  refine W_seq (W_ops [1] ?_)
  simp only [o4_0, WO_box, WO_move, WO_nil, geT_put, frame_nil, frame_cons, evO_tmp, evO_const, keep_nil, keep_cons, keepK_eq, Nat.reduceEqDiff, ↓reduceIte, eq_self, Nat.zero_add, hbx]
  intro fr e1
  refine SeqK_n ?_
  generalize newAt s (.cells x.C false) = s1 at H1 ⊢
  generalize s.nxt = Bk at H1 e1
  have lk : ∀ {s'} {l : List HP}, Hold s s' l → HP.cell Bk x.C ∈ l → loadV s' (some 5) (.pointer (some ⟨Bk, 0, none⟩)) = some (bV x.c x.w x.r x.ev x.ro) ∧ loadV s' none (.pointer (some ⟨Bk, 5, none⟩)) = some (.int .i64 x.code) ∧
      loadV s' none (.pointer (some ⟨Bk, 7, none⟩)) = some (.int .i64 x.cancel) ∧ loadV s' none (.pointer (some ⟨Bk, 8, none⟩)) = some (.int .i8 x.way) ∧ loadV s' none (.pointer (some ⟨Bk, 9, none⟩)) = some (.int .i64 x.guard) ∧
      loadV s' none (.pointer (some ⟨Bk, 10, none⟩)) = some (.int .i64 x.train) ∧ loadV s' none (.pointer (some ⟨Bk, 11, none⟩)) = some (.int .i64 x.nth) ∧ loadV s' none (.pointer (some ⟨Bk, 12, none⟩)) = some (.float .f64 x.times) ∧
      loadV s' none (.pointer (some ⟨Bk, 13, none⟩)) = some (.float .f64 x.noise) := fun h hm =>
    ⟨(loadn_g (h.cell hm)).trans rfl, load_g (o := 5) (h.cell hm), load_g (o := 7) (h.cell hm), load_g (o := 8) (h.cell hm), load_g (o := 9) (h.cell hm), load_g (o := 10) (h.cell hm), load_g (o := 11) (h.cell hm), load_g (o := 12) (h.cell hm), load_g (o := 13) (h.cell hm)⟩
  have w5 := (lk H1 (List.mem_cons_self ..)).1
  refine W_assoc ?_
  refine W_seq (W_ops [1, 3] ?_)
  simp only [o4_1, WO_call, WO_fieldAddr, fieldAddr_p, WO_load, PureK_some, geT_put, evO_tmp, List.map_cons, List.map_nil, ↓reduceIte, eq_self, Nat.add_zero, e1, w5]
  refine CallK_of (run7 hX ho) ?_
  rintro _ s2 ⟨rfl, hs2⟩
  have H2 := H1.keep hs2
  have hbe : beatE x.c x.w x.r x.ev x.ro = x.beat := rfl
  simp only [WO_move, WO_nil, geT_put, evO_tmp, keep_nil, keep_cons, keepK_eq, Nat.reduceEqDiff, ↓reduceIte, eq_self, e1, hbe]
  clear e1
  intro fr e1 e3
  refine SeqK_n ?_
  refine W_assoc ?_
  refine W_seq (W_ops [1, 3, 11] ?_)
  simp only [o4_2, WO_bin, WO_move, bin_neq, WO_nil, PureK_some, geT_put, evO_tmp, evO_const, keep_nil, keep_cons, keepK_eq, Nat.reduceEqDiff, ↓reduceIte, eq_self, e1, e3]
  clear e1 e3
  intro fr e1 e3 e11
  refine SeqK_n ?_
  refine W_seq (W_ifn e11 (fun h => ?_) (fun hB => W_skip (SeqK_n ?_)))
  · refine W_seq (W_ops [2] ?_)
    simp only [o4_3, WO_move, WO_nil, geT_put, evO_tmp, keep_nil, keep_cons, keepK_eq, ↓reduceIte, eq_self, e3]
    clear e1 e3 e11
    intro fr e2
    refine SeqK_n ?_
    exact W_ret (SeqK_r (Ret1 e2 ⟨by rw [chkE, if_pos h], H2.same⟩))
  obtain ⟨b1, b2, b3, b4, b5⟩ := beat_zero hB
  clear w5 hs2 H1
  have w5 := (lk H2 (List.mem_cons_self ..)).2.1
  refine W_seq (W_ops [1, 4, 5] ?_)
  simp only [o4_4, WO_call, WO_fieldAddr, fieldAddr_p, WO_load, PureK_some, geT_put, evO_tmp, List.map_cons, List.map_nil, ↓reduceIte, eq_self, Nat.zero_add, e1, w5]
  refine CallK_of (runCode hX hk (.inl rfl)) ?_
  rintro _ s3 ⟨hcode, hs3⟩
  have H3 := H2.keep hs3
  have hE : chkE x = if ¬ (0 ≤ x.code ∧ x.code ≤ 12) then 40 else chkE x := by
    by_cases h : 0 ≤ x.code ∧ x.code ≤ 12
    · rw [if_neg (fun q => q h)]
    · rw [if_pos h, chkE, if_neg (fun q => q hB), if_pos h]
  have H4 := H3.new [.float .f64 0, .float .f64 0, .float .f64 0, .int .i64 0, .int .i64 0]
  have st : storeV (newAt s3 (.cells [.float .f64 0, .float .f64 0, .float .f64 0, .int .i64 0, .int .i64 0] false)) 5 (.pointer (some ⟨s3.nxt, 0, none⟩)) (bV x.c x.w x.r x.ev x.ro) = some (undefV, setBlk (newAt s3 (.cells [.float .f64 0, .float .f64 0, .float .f64 0, .int .i64 0, .int .i64 0] false)) s3.nxt (.cells (bC x.c x.w x.r x.ev x.ro) false)) :=
    store_all (vs := bC x.c x.w x.r x.ev x.ro) (H4.cell (List.mem_cons_self ..)) rfl rfl rfl
  have H5 := H4.setc (cs' := bC x.c x.w x.r x.ev x.ro)
  have w3 := (lk H3 (List.mem_cons_self ..)).1
  unfold CodeR at hcode
  by_cases hcd : 0 ≤ x.code ∧ x.code ≤ 12
  case neg =>
    rw [if_neg hcd] at hcode
    subst hcode
    simp only [WO_extract, ext_20, ext_21, WO_move, WO_nil, PureK_some, geT_put, evO_tmp, keep_nil, keep_cons, keepK_eq, Nat.reduceEqDiff, ↓reduceIte, eq_self, e1]
    clear e1 e3 e11
    intro fr e1 e4 e5
    refine SeqK_n ?_
    refine W_seq (W_ops [1, 4, 5, 6] ?_)
    simp only [o4_5, WO_alloc, WO_fieldAddr, fieldAddr_p, WO_load, WO_store, WO_nil, PureK_some, MemK_some, geT_put, puT_none, evO_tmp, keep_nil, keep_cons, keepK_eq, Nat.reduceEqDiff, ↓reduceIte, eq_self, Nat.add_zero, e1, e4, e5, w3, st]
    clear e1 e4 e5
    intro fr e1 e4 e5 e6
    refine SeqK_n ?_
    refine W_seq (W_block ?_)
    refine W_seq (W_ops [1, 4, 5, 6, 21] ?_)
    simp only [o4_6, WO_bin, WO_move, bin_neq, WO_nil, PureK_some, geT_put, evO_tmp, evO_const, keep_nil, keep_cons, keepK_eq, Nat.reduceEqDiff, ↓reduceIte, Bool.not_false, decide_false, Int.reduceEq, eq_self, e1, e4, e5, e6]
    clear e1 e4 e5 e6
    intro fr e1 e4 e5 e6 e21
    refine SeqK_n ?_
    refine W_cond e21 (fun _ => ?_) (fun h => by cases h)
    refine W_seq (W_ops [2] ?_)
    simp only [o4_7, WO_move, WO_nil, geT_put, evO_tmp, keep_nil, keep_cons, keepK_eq, ↓reduceIte, eq_self, e5]
    clear e1 e4 e5 e6 e21
    intro fr e2
    refine SeqK_n ?_
    exact W_ret (BlkK_r (SeqK_r (Ret1 e2 ⟨by rw [hE, if_pos hcd], H5.same⟩)))
  rw [if_pos hcd] at hcode
  obtain ⟨Bc, oc, cap, rfl⟩ := hcode
  have hl := codeLen_le hcd
  have hE2 : chkE x = if x.ev < (codeLen x.code : Nat) ∨ ¬ (0 ≤ x.cancel ∧ x.cancel ≤ 8 ∧ x.cancel < x.ro) then 2
    else if ¬ (0 ≤ x.guard ∧ x.guard ≤ 16384) ∨ ¬ (1 ≤ x.train ∧ x.train ≤ 16384) then 2
    else if ¬ (0 ≤ x.nth ∧ x.nth ≤ 32768) ∨ (x.way = 3 ∧ 2 * x.train - 1 < x.nth) then 2
    else if finT x.times = false ∨ finT x.noise = false then 6
    else if lt0 x.times = true ∨ lt0 x.noise = true then 2
    else if 16777216 < x.ro * x.ev * (codeLen x.code : Nat) ∨ 16777216 < x.ro * x.ro * x.ev then 3 else 0 := by
    rw [chkE, if_neg (fun q => q hB), if_neg (fun q => q hcd)]
  generalize codeLen x.code = n at hE2 hl ⊢
  simp only [WO_extract, ext_20, ext_21, WO_move, WO_nil, PureK_some, geT_put, evO_tmp, keep_nil, keep_cons, keepK_eq, Nat.reduceEqDiff, ↓reduceIte, eq_self, e1]
  clear e1 e3 e11
  intro fr e1 e4 e5
  refine SeqK_n ?_
  refine W_seq (W_ops [1, 4, 5, 6] ?_)
  simp only [o4_5, WO_alloc, WO_fieldAddr, fieldAddr_p, WO_load, WO_store, WO_nil, PureK_some, MemK_some, geT_put, puT_none, evO_tmp, keep_nil, keep_cons, keepK_eq, Nat.reduceEqDiff, ↓reduceIte, eq_self, Nat.add_zero, e1, e4, e5, w3, st]
  clear e1 e4 e5
  intro fr e1 e4 e5 e6
  refine SeqK_n ?_
  clear st w3 w5 H4 hE
  generalize setBlk _ s3.nxt _ = s4 at H5 ⊢
  generalize s3.nxt = Bb at H5 e6
  obtain ⟨_, _, k7, k8, k9, k10, k11, k12, k13⟩ := lk H5 (by simp)
  have j3 : loadV s4 none (.pointer (some ⟨Bb, 3, none⟩)) = some (.int .i64 x.ev) := load_g (o := 3) (H5.cell (List.mem_cons_self ..))
  have j4 : loadV s4 none (.pointer (some ⟨Bb, 4, none⟩)) = some (.int .i64 x.ro) := load_g (o := 4) (H5.cell (List.mem_cons_self ..))
  have hS := H5.same
  clear H5 H3 H2 lk hs3
  refine W_seq (W_block ?_)
  refine W_seq (W_ops [1, 4, 5, 6, 21] ?_)
  simp only [o4_6, WO_bin, WO_move, bin_neq, WO_nil, PureK_some, geT_put, evO_tmp, evO_const, keep_nil, keep_cons, keepK_eq, Nat.reduceEqDiff, ↓reduceIte, Bool.not_true, decide_true, eq_self, e1, e4, e5, e6]
  clear e1 e4 e5 e6
  intro fr e1 e4 e5 e6 e21
  refine SeqK_n ?_
  refine W_cond e21 (fun h => by cases h) (fun _ => ?_)
  -- how long, how often differences
  refine W_seq (W_cutN (fun fr s' => s4 = s' ∧ geT fr 1 = .pointer (some ⟨Bk, 0, none⟩) ∧ geT fr 4 = .slice (some ⟨Bc, oc, none⟩) n cap ∧ geT fr 6 = .pointer (some ⟨Bb, 0, none⟩) ∧ geT fr 25 = .bool (decide (x.ev < (n : Nat) ∨ ¬ (0 ≤ x.cancel ∧ x.cancel ≤ 8 ∧ x.cancel < x.ro)))) ?_ ?_)
  · intro R' hR'
    refine W_seq (W_ops [1, 4, 6, 25] ?_)
    simp only [o4_8, WO_bin, WO_bu, bu_len, WO_fieldAddr, fieldAddr_p, WO_load, WO_move, bin_gtr, WO_nil, PureK_some, geT_put, evO_tmp, keep_nil, keep_cons, keepK_eq, List.map_cons, List.map_nil, Nat.reduceEqDiff, ↓reduceIte, eq_self, Nat.zero_add, e1, e4, e6, j3]
    clear e1 e4 e5 e6 e21
    intro fr e1 e4 e6 e25
    refine SeqK_n ?_
    refine W_if e25 (fun h1 => W_skip (hR' _ _ ⟨rfl, e1, e4, e6, by rw [e25]; exact congrArg Value.bool (decide_eq_decide.2 ⟨fun _ => .inl h1, fun _ => h1⟩)⟩)) (fun h1 => ?_)
    refine W_opsB [1, 4, 6, 25] (fun fr s' => s4 = s' ∧ geT fr 1 = .pointer (some ⟨Bk, 0, none⟩) ∧ geT fr 4 = .slice (some ⟨Bc, oc, none⟩) n cap ∧ geT fr 6 = .pointer (some ⟨Bb, 0, none⟩) ∧ geT fr 25 = .bool (decide (x.ev < (n : Nat) ∨ ¬ (0 ≤ x.cancel ∧ x.cancel ≤ 8 ∧ x.cancel < x.ro)))) ?_ (fun _ _ h => hR' _ _ h)
    intro R2 hR2
    simp only [o4_9, WO_bin, WO_bu, bu_min, WO_call, WO_fieldAddr, fieldAddr_p, WO_load, bin_sub, PureK_some, geT_put, evO_tmp, evO_const, List.map_cons, List.map_nil, Nat.reduceEqDiff, ↓reduceIte, eq_self, Nat.zero_add, e1, e6, k7, j4, wrap_i64 (n := x.ro - 1) (by omega) (by omega)]
    refine CallK_of (run9 hX ho) ?_
    rintro _ _ ⟨rfl, rfl⟩
    simp only [WO_move, WO_un, un_not, WO_nil, PureK_some, geT_put, evO_tmp, keep_nil, keep_cons, keepK_eq, Nat.reduceEqDiff, ↓reduceIte, eq_self, e1, e4, e6]
    intro fr e1 e4 e6 e25
    refine hR2 _ _ ⟨rfl, e1, e4, e6, ?_⟩
    rw [e25]
    refine congrArg Value.bool ?_
    rw [Bool.eq_iff_iff, Bool.not_eq_true', decide_eq_false_iff_not, decide_eq_true_iff]
    constructor
    · intro h; refine .inr fun q => h ?_
      split <;> omega
    · rintro (h | h)
      · exact absurd h h1
      · intro q; refine h ?_
        split at q <;> omega
  clear e1 e4 e5 e6 e21 fr
  rintro fr _ ⟨rfl, e1, e4, e6, e25⟩
  refine SeqK_n ?_
  refine W_if e25 (fun h1 => ?_) (fun h1 => ?_)
  · skip
    refine W_seq (W_ops [2] ?_)
    simp only [o4_10, WO_move, WO_nil, geT_put, evO_const, keep_nil, keep_cons, keepK_eq, ↓reduceIte, eq_self]
    clear e1 e4 e6 e25
    intro fr e2
    refine SeqK_n ?_
    exact W_ret (BlkK_r (SeqK_r (Ret1 e2 ⟨by rw [hE2, if_pos h1], hS⟩)))
  rw [if_neg h1] at hE2
  -- guard, train
  refine W_seq (W_cutN (fun fr s' => s4 = s' ∧ geT fr 1 = .pointer (some ⟨Bk, 0, none⟩) ∧ geT fr 4 = .slice (some ⟨Bc, oc, none⟩) n cap ∧ geT fr 6 = .pointer (some ⟨Bb, 0, none⟩) ∧ geT fr 39 = .bool (decide (¬ (0 ≤ x.guard ∧ x.guard ≤ 16384) ∨ ¬ (1 ≤ x.train ∧ x.train ≤ 16384)))) ?_ ?_)
  · intro R' hR'
    refine W_seq (W_ops [1, 4, 6, 39] ?_)
    simp only [o4_11, WO_call, WO_fieldAddr, fieldAddr_p, WO_load, PureK_some, geT_put, evO_tmp, evO_const, List.map_cons, List.map_nil, ↓reduceIte, eq_self, Nat.zero_add, e1, k9]
    refine CallK_of (run9 hX ho) ?_
    rintro _ _ ⟨rfl, rfl⟩
    simp only [WO_move, WO_un, un_not, WO_nil, PureK_some, geT_put, evO_tmp, keep_nil, keep_cons, keepK_eq, Nat.reduceEqDiff, ↓reduceIte, eq_self, e1, e4, e6]
    clear e1 e4 e6 e25
    intro fr e1 e4 e6 e39
    refine SeqK_n ?_
    refine W_ifn e39 (fun h => W_skip (hR' _ _ ⟨rfl, e1, e4, e6, by rw [e39, decide_eq_false h]; exact congrArg Value.bool (decide_eq_true (.inl h)).symm⟩)) (fun h => ?_)
    refine W_opsB [1, 4, 6, 39] (fun fr s' => s4 = s' ∧ geT fr 1 = .pointer (some ⟨Bk, 0, none⟩) ∧ geT fr 4 = .slice (some ⟨Bc, oc, none⟩) n cap ∧ geT fr 6 = .pointer (some ⟨Bb, 0, none⟩) ∧ geT fr 39 = .bool (decide (¬ (0 ≤ x.guard ∧ x.guard ≤ 16384) ∨ ¬ (1 ≤ x.train ∧ x.train ≤ 16384)))) ?_ (fun _ _ h => hR' _ _ h)
    intro R2 hR2
    simp only [o4_12, WO_call, WO_fieldAddr, fieldAddr_p, WO_load, PureK_some, geT_put, evO_tmp, evO_const, List.map_cons, List.map_nil, ↓reduceIte, eq_self, Nat.zero_add, e1, k10]
    refine CallK_of (run9 hX ho) ?_
    rintro _ _ ⟨rfl, rfl⟩
    simp only [WO_move, WO_un, un_not, WO_nil, PureK_some, geT_put, evO_tmp, keep_nil, keep_cons, keepK_eq, Nat.reduceEqDiff, ↓reduceIte, eq_self, e1, e4, e6]
    intro fr e1 e4 e6 e39
    refine hR2 _ _ ⟨rfl, e1, e4, e6, ?_⟩
    rw [e39]
    refine congrArg Value.bool ?_
    rw [Bool.eq_iff_iff, Bool.not_eq_true', decide_eq_false_iff_not, decide_eq_true_iff]
    exact ⟨fun q => .inr q, fun q => q.elim (fun a => absurd h a) id⟩
  clear e1 e4 e6 e25 fr
  rintro fr _ ⟨rfl, e1, e4, e6, e39⟩
  refine SeqK_n ?_
  refine W_if e39 (fun h2 => ?_) (fun h2 => ?_)
  · skip
    refine W_seq (W_ops [2] ?_)
    simp only [o4_13, WO_move, WO_nil, geT_put, evO_const, keep_nil, keep_cons, keepK_eq, ↓reduceIte, eq_self]
    clear e1 e4 e6 e39
    intro fr e2
    refine SeqK_n ?_
    exact W_ret (BlkK_r (SeqK_r (Ret1 e2 ⟨by rw [hE2, if_pos h2], hS⟩)))
  rw [if_neg h2] at hE2
  have htr : 1 ≤ x.train ∧ x.train ≤ 16384 := by omega
  -- nth
  refine W_seq (W_cutN (fun fr s' => s4 = s' ∧ geT fr 1 = .pointer (some ⟨Bk, 0, none⟩) ∧ geT fr 4 = .slice (some ⟨Bc, oc, none⟩) n cap ∧ geT fr 6 = .pointer (some ⟨Bb, 0, none⟩) ∧ geT fr 48 = .bool (decide (¬ (0 ≤ x.nth ∧ x.nth ≤ 32768) ∨ (x.way = 3 ∧ 2 * x.train - 1 < x.nth)))) ?_ ?_)
  · intro R' hR'
    refine W_seq (W_ops [1, 4, 6, 48] ?_)
    simp only [o4_14, WO_call, WO_fieldAddr, fieldAddr_p, WO_load, PureK_some, geT_put, evO_tmp, evO_const, List.map_cons, List.map_nil, ↓reduceIte, eq_self, Nat.zero_add, e1, k11]
    refine CallK_of (run9 hX ho) ?_
    rintro _ _ ⟨rfl, rfl⟩
    simp only [WO_move, WO_un, un_not, WO_nil, PureK_some, geT_put, evO_tmp, keep_nil, keep_cons, keepK_eq, Nat.reduceEqDiff, ↓reduceIte, eq_self, e1, e4, e6]
    clear e1 e4 e6 e39
    intro fr e1 e4 e6 e48
    refine SeqK_n ?_
    refine W_ifn e48 (fun h => W_skip (hR' _ _ ⟨rfl, e1, e4, e6, by rw [e48, decide_eq_false h]; exact congrArg Value.bool (decide_eq_true (.inl h)).symm⟩)) (fun h => ?_)
    refine W_opsB [1, 4, 6, 48] (fun fr s' => s4 = s' ∧ geT fr 1 = .pointer (some ⟨Bk, 0, none⟩) ∧ geT fr 4 = .slice (some ⟨Bc, oc, none⟩) n cap ∧ geT fr 6 = .pointer (some ⟨Bb, 0, none⟩) ∧ geT fr 48 = .bool (decide (¬ (0 ≤ x.nth ∧ x.nth ≤ 32768) ∨ (x.way = 3 ∧ 2 * x.train - 1 < x.nth)))) ?_ (fun _ _ h => hR' _ _ h)
    intro R2 hR2
    by_cases hw : x.way = 3
    · simp only [o4_15, WO_bin, WO_fieldAddr, fieldAddr_p, WO_load, WO_move, WO_pick, pick_b, bin_eql, bin_gtr, bin_mul, bin_sub, WO_nil, PureK_some, WO_guard, want_v, wantB_t, geT_put, evO_tmp, evO_const, keep_nil, keep_cons, keepK_eq, Nat.reduceEqDiff, ↓reduceIte, eq_self, Nat.zero_add, e1, e4, e6, k8, k10, k11, decide_eq_true hw, wrap_i64 (n := 2 * x.train) (by omega) (by omega), wrap_i64 (n := 2 * x.train - 1) (by omega) (by omega)]
      intro fr e1 e4 e6 e48
      refine hR2 _ _ ⟨rfl, e1, e4, e6, ?_⟩
      rw [e48]
      exact congrArg Value.bool (decide_eq_decide.2 ⟨fun q => .inr ⟨hw, q⟩, fun q => q.elim (fun a => absurd h a) fun a => a.2⟩)
    · simp only [o4_15, WO_bin, WO_fieldAddr, fieldAddr_p, WO_load, WO_move, WO_pick, pick_b, bin_eql, WO_nil, PureK_some, WO_guard, want_v, wantB_t, geT_put, evO_tmp, evO_const, keep_nil, keep_cons, keepK_eq, Nat.reduceEqDiff, ↓reduceIte, eq_self, Bool.false_eq_true, Nat.zero_add, e1, e4, e6, k8, decide_eq_false hw]
      intro fr e1 e4 e6 e48
      refine hR2 _ _ ⟨rfl, e1, e4, e6, ?_⟩
      rw [e48]
      exact congrArg Value.bool (decide_eq_false fun q => q.elim (fun a => a h) fun a => hw a.1).symm
  clear e1 e4 e6 e39 fr
  rintro fr _ ⟨rfl, e1, e4, e6, e48⟩
  refine SeqK_n ?_
  refine W_if e48 (fun h3 => ?_) (fun h3 => ?_)
  · skip
    refine W_seq (W_ops [2] ?_)
    simp only [o4_16, WO_move, WO_nil, geT_put, evO_const, keep_nil, keep_cons, keepK_eq, ↓reduceIte, eq_self]
    clear e1 e4 e6 e48
    intro fr e2
    refine SeqK_n ?_
    exact W_ret (BlkK_r (SeqK_r (Ret1 e2 ⟨by rw [hE2, if_pos h3], hS⟩)))
  rw [if_neg h3] at hE2
  -- finite
  refine W_seq (W_cutN (fun fr s' => s4 = s' ∧ geT fr 1 = .pointer (some ⟨Bk, 0, none⟩) ∧ geT fr 4 = .slice (some ⟨Bc, oc, none⟩) n cap ∧ geT fr 6 = .pointer (some ⟨Bb, 0, none⟩) ∧ geT fr 65 = .bool (decide (finT x.times = false ∨ finT x.noise = false))) ?_ ?_)
  · intro R' hR'
    refine W_seq (W_ops [1, 4, 6, 65] ?_)
    simp only [o4_17, WO_call, WO_fieldAddr, fieldAddr_p, WO_load, PureK_some, geT_put, evO_tmp, List.map_cons, List.map_nil, ↓reduceIte, eq_self, Nat.zero_add, e1, k12]
    refine CallK_of (run10 hX ho ht) ?_
    rintro _ _ ⟨rfl, rfl⟩
    simp only [WO_move, WO_un, un_not, WO_nil, PureK_some, geT_put, evO_tmp, keep_nil, keep_cons, keepK_eq, Nat.reduceEqDiff, ↓reduceIte, eq_self, e1, e4, e6]
    clear e1 e4 e6 e48
    intro fr e1 e4 e6 e65
    refine SeqK_n ?_
    cases hf : finT x.times with
    | false =>
      rw [hf] at e65
      exact W_cond e65 (fun _ => W_skip (hR' _ _ ⟨rfl, e1, e4, e6, by rw [e65]; exact congrArg Value.bool (decide_eq_true (.inl hf)).symm⟩)) (fun h => absurd h (by decide))
    | true =>
      rw [hf] at e65
      refine W_cond e65 (fun h => absurd h (by decide)) (fun _ => ?_)
      refine W_opsB [1, 4, 6, 65] (fun fr s' => s4 = s' ∧ geT fr 1 = .pointer (some ⟨Bk, 0, none⟩) ∧ geT fr 4 = .slice (some ⟨Bc, oc, none⟩) n cap ∧ geT fr 6 = .pointer (some ⟨Bb, 0, none⟩) ∧ geT fr 65 = .bool (decide (finT x.times = false ∨ finT x.noise = false))) ?_ (fun _ _ h => hR' _ _ h)
      intro R2 hR2
      simp only [o4_18, WO_call, WO_fieldAddr, fieldAddr_p, WO_load, PureK_some, geT_put, evO_tmp, List.map_cons, List.map_nil, ↓reduceIte, eq_self, Nat.zero_add, e1, k13]
      refine CallK_of (run10 hX ho hn) ?_
      rintro _ _ ⟨rfl, rfl⟩
      simp only [WO_move, WO_un, un_not, WO_nil, PureK_some, geT_put, evO_tmp, keep_nil, keep_cons, keepK_eq, Nat.reduceEqDiff, ↓reduceIte, eq_self, e1, e4, e6]
      intro fr e1 e4 e6 e65
      refine hR2 _ _ ⟨rfl, e1, e4, e6, ?_⟩
      rw [e65, hf]
      cases finT x.noise <;> rfl
  clear e1 e4 e6 e48 fr
  rintro fr _ ⟨rfl, e1, e4, e6, e65⟩
  refine SeqK_n ?_
  refine W_if e65 (fun h4 => ?_) (fun h4 => ?_)
  · skip
    refine W_seq (W_ops [2] ?_)
    simp only [o4_19, WO_move, WO_nil, geT_put, evO_const, keep_nil, keep_cons, keepK_eq, ↓reduceIte, eq_self]
    clear e1 e4 e6 e65
    intro fr e2
    refine SeqK_n ?_
    exact W_ret (BlkK_r (SeqK_r (Ret1 e2 ⟨by rw [hE2, if_pos h4], hS⟩)))
  rw [if_neg h4] at hE2
  -- not below 0
  have hl1 : (ford .f64 x.times 0 == some .lt) = lt0 x.times := rfl
  have hl2 : (ford .f64 x.noise 0 == some .lt) = lt0 x.noise := rfl
  refine W_seq (W_cutN (fun fr s' => s4 = s' ∧ geT fr 4 = .slice (some ⟨Bc, oc, none⟩) n cap ∧ geT fr 6 = .pointer (some ⟨Bb, 0, none⟩) ∧ geT fr 74 = .bool (decide (lt0 x.times = true ∨ lt0 x.noise = true))) ?_ ?_)
  · intro R' hR'
    refine W_seq (W_ops [1, 4, 6, 74] ?_)
    simp only [o4_20, WO_bin, WO_fieldAddr, fieldAddr_p, WO_load, WO_move, binf_lss, WO_nil, PureK_some, geT_put, evO_tmp, evO_const, keep_nil, keep_cons, keepK_eq, Nat.reduceEqDiff, ↓reduceIte, eq_self, Nat.zero_add, e1, e4, e6, k12, hl1]
    clear e1 e4 e6 e65
    intro fr e1 e4 e6 e74
    refine SeqK_n ?_
    cases hf : lt0 x.times with
    | true =>
      rw [hf] at e74
      exact W_cond e74 (fun _ => W_skip (hR' _ _ ⟨rfl, e4, e6, by rw [e74]; exact congrArg Value.bool (decide_eq_true (.inl hf)).symm⟩)) (fun h => absurd h (by decide))
    | false =>
      rw [hf] at e74
      refine W_cond e74 (fun h => absurd h (by decide)) (fun _ => ?_)
      refine W_opsB [4, 6, 74] (fun fr s' => s4 = s' ∧ geT fr 4 = .slice (some ⟨Bc, oc, none⟩) n cap ∧ geT fr 6 = .pointer (some ⟨Bb, 0, none⟩) ∧ geT fr 74 = .bool (decide (lt0 x.times = true ∨ lt0 x.noise = true))) ?_ (fun _ _ h => hR' _ _ h)
      intro R2 hR2
      simp only [o4_21, WO_bin, WO_fieldAddr, fieldAddr_p, WO_load, WO_move, binf_lss, WO_nil, PureK_some, geT_put, evO_tmp, evO_const, keep_nil, keep_cons, keepK_eq, Nat.reduceEqDiff, ↓reduceIte, eq_self, Nat.zero_add, e1, e4, e6, k13, hl2]
      intro fr e4 e6 e74
      refine hR2 _ _ ⟨rfl, e4, e6, ?_⟩
      rw [e74, hf]
      cases lt0 x.noise <;> rfl
  clear e1 e4 e6 e65 fr
  rintro fr _ ⟨rfl, e4, e6, e74⟩
  refine SeqK_n ?_
  refine W_if e74 (fun h5 => ?_) (fun h5 => ?_)
  · skip
    refine W_seq (W_ops [2] ?_)
    simp only [o4_22, WO_move, WO_nil, geT_put, evO_const, keep_nil, keep_cons, keepK_eq, ↓reduceIte, eq_self]
    clear e4 e6 e74
    intro fr e2
    refine SeqK_n ?_
    exact W_ret (BlkK_r (SeqK_r (Ret1 e2 ⟨by rw [hE2, if_pos h5], hS⟩)))
  rw [if_neg h5] at hE2
  -- the work
  obtain ⟨q1, q2, q3⟩ := work_wrap (ro := x.ro) (ev := x.ev) (k := if x.ro > (n : Int) then x.ro else (n : Int)) (by omega) (by omega) (by omega) (by split <;> omega) (by split <;> omega)
  have hw2 := work_two (ro := x.ro) (ev := x.ev) (n := n) q3
  refine W_seq (W_ops [81] ?_)
  simp only [o4_23, WO_bin, WO_bu, bu_len, bu_max, WO_fieldAddr, fieldAddr_p, WO_load, WO_move, bin_gtr, bin_mul, WO_nil, PureK_some, geT_put, evO_tmp, evO_const, keep_nil, keep_cons, keepK_eq, List.map_cons, List.map_nil, Nat.reduceEqDiff, ↓reduceIte, eq_self, Nat.zero_add, e4, e6, j3, j4, q1, q2]
  clear e4 e6 e74
  intro fr e81
  refine SeqK_n ?_
  refine W_if e81 (fun h6 => ?_) (fun h6 => W_skip (BlkK_n (SeqK_n ?_)))
  · refine W_seq (W_ops [2] ?_)
    simp only [o4_24, WO_move, WO_nil, geT_put, evO_const, keep_nil, keep_cons, keepK_eq, ↓reduceIte, eq_self]
    clear e81
    intro fr e2
    refine SeqK_n ?_
    exact W_ret (BlkK_r (SeqK_r (Ret1 e2 ⟨by rw [hE2, if_pos (hw2.1 h6)], hS⟩)))
  · skip
    refine W_seq (W_ops [2] ?_)
    simp only [o4_25, WO_move, WO_nil, geT_put, evO_const, keep_nil, keep_cons, keepK_eq, ↓reduceIte, eq_self]
    clear e81
    intro fr e2
    refine SeqK_n ?_
    exact W_ret (Ret1 e2 ⟨by rw [hE2, if_neg (fun q => h6 (hw2.2 q))], hS⟩)

end Go.Proofs.YtcocakiincejaaaGreat

/- A setup's check, as the document does it, walked. -/
namespace Go.Proofs.YtcocakiincejaaaGreat
open Go Go.Vam


set_option maxHeartbeats 2000000 in
theorem run5 {X : Ctx} (hX : X.fns = fnsOf Tryz.prog) (ho : ∀ f args s, f ≠ 6 ∧ f ≠ 8 ∧ f ≠ 12 → X.orc f args s = none) (hk : KnownC X) {s : Mm} {x : St} (hc : x.c < 18446744073709551616) (hw : x.w < 18446744073709551616) (hr : x.r < 18446744073709551616) (ht : x.times < 18446744073709551616) (hn : x.noise < 18446744073709551616) : CallP X 5 [x.V] s (fun r s' => r = .int .i64 (chkE x) ∧ Same s s' (fun _ => False)) := by
  have hbx : x.V.cells.toList = x.C := rfl
  have H1 := (Hold.refl s).new x.C
  refine CallP_of (hX ▸ ir5_eq) (ho _ _ _ (by decide)) (Nat.le_of_ble_eq_true rfl) ?_
  refine W_seq (W_ops [1] ?_)
  simp only [o5_0, WO_box, WO_move, WO_nil, geT_put, frame_nil, frame_cons, evO_tmp, evO_const, keep_nil, keep_cons, keepK_eq, Nat.reduceEqDiff, ↓reduceIte, eq_self, Nat.zero_add, hbx]
  intro fr e1
  refine SeqK_n ?_
  generalize newAt s (.cells x.C false) = s1 at H1 ⊢
  generalize s.nxt = Bk at H1 e1
  have lk : ∀ {s'} {l : List HP}, Hold s s' l → HP.cell Bk x.C ∈ l → loadV s' (some 5) (.pointer (some ⟨Bk, 0, none⟩)) = some (bV x.c x.w x.r x.ev x.ro) ∧ loadV s' none (.pointer (some ⟨Bk, 5, none⟩)) = some (.int .i64 x.code) ∧
      loadV s' none (.pointer (some ⟨Bk, 7, none⟩)) = some (.int .i64 x.cancel) ∧ loadV s' none (.pointer (some ⟨Bk, 8, none⟩)) = some (.int .i8 x.way) ∧ loadV s' none (.pointer (some ⟨Bk, 9, none⟩)) = some (.int .i64 x.guard) ∧
      loadV s' none (.pointer (some ⟨Bk, 10, none⟩)) = some (.int .i64 x.train) ∧ loadV s' none (.pointer (some ⟨Bk, 11, none⟩)) = some (.int .i64 x.nth) ∧ loadV s' none (.pointer (some ⟨Bk, 12, none⟩)) = some (.float .f64 x.times) ∧
      loadV s' none (.pointer (some ⟨Bk, 13, none⟩)) = some (.float .f64 x.noise) := fun h hm =>
    ⟨(loadn_g (h.cell hm)).trans rfl, load_g (o := 5) (h.cell hm), load_g (o := 7) (h.cell hm), load_g (o := 8) (h.cell hm), load_g (o := 9) (h.cell hm), load_g (o := 10) (h.cell hm), load_g (o := 11) (h.cell hm), load_g (o := 12) (h.cell hm), load_g (o := 13) (h.cell hm)⟩
  have w5 := (lk H1 (List.mem_cons_self ..)).1
  refine W_seq (W_ops [1, 3] ?_)
  simp only [o5_1, WO_call, WO_fieldAddr, fieldAddr_p, WO_load, PureK_some, geT_put, evO_tmp, List.map_cons, List.map_nil, ↓reduceIte, eq_self, Nat.add_zero, e1, w5]
  refine CallK_of (run11 hX ho hc hw hr) ?_
  rintro _ s2 ⟨rfl, hs2⟩
  have H2 := H1.keep hs2
  have hbe : beatE x.c x.w x.r x.ev x.ro = x.beat := rfl
  simp only [WO_move, WO_nil, geT_put, evO_tmp, keep_nil, keep_cons, keepK_eq, Nat.reduceEqDiff, ↓reduceIte, eq_self, e1, hbe]
  clear e1
  intro fr e1 e3
  refine SeqK_n ?_
  refine W_assoc ?_
  refine W_seq (W_ops [1, 3, 12] ?_)
  simp only [o5_2, WO_bin, WO_move, bin_neq, WO_nil, PureK_some, geT_put, evO_tmp, evO_const, keep_nil, keep_cons, keepK_eq, Nat.reduceEqDiff, ↓reduceIte, eq_self, e1, e3]
  clear e1 e3
  intro fr e1 e3 e12
  refine SeqK_n ?_
  refine W_seq (W_ifn e12 (fun h => ?_) (fun hB => W_skip (SeqK_n ?_)))
  · refine W_seq (W_ops [2] ?_)
    simp only [o5_3, WO_move, WO_nil, geT_put, evO_tmp, keep_nil, keep_cons, keepK_eq, ↓reduceIte, eq_self, e3]
    clear e1 e3 e12
    intro fr e2
    refine SeqK_n ?_
    exact W_ret (SeqK_r (Ret1 e2 ⟨by rw [chkE, if_pos h], H2.same⟩))
  obtain ⟨b1, b2, b3, b4, b5⟩ := beat_zero hB
  clear w5 hs2 H1
  have w5 := (lk H2 (List.mem_cons_self ..)).2.1
  refine W_seq (W_ops [1, 3, 4] ?_)
  simp only [o5_4, WO_call, WO_fieldAddr, fieldAddr_p, WO_load, PureK_some, geT_put, evO_tmp, List.map_cons, List.map_nil, ↓reduceIte, eq_self, Nat.zero_add, e1, w5]
  refine CallK_of (runCode hX hk (.inr rfl)) ?_
  rintro _ s3 ⟨hcode, hs3⟩
  have H3 := H2.keep hs3
  have hE : chkE x = if ¬ (0 ≤ x.code ∧ x.code ≤ 12) then 40 else chkE x := by
    by_cases h : 0 ≤ x.code ∧ x.code ≤ 12
    · rw [if_neg (fun q => q h)]
    · rw [if_pos h, chkE, if_neg (fun q => q hB), if_pos h]
  have H4 := H3.new [.float .f64 0, .float .f64 0, .float .f64 0, .int .i64 0, .int .i64 0]
  have st : storeV (newAt s3 (.cells [.float .f64 0, .float .f64 0, .float .f64 0, .int .i64 0, .int .i64 0] false)) 5 (.pointer (some ⟨s3.nxt, 0, none⟩)) (bV x.c x.w x.r x.ev x.ro) = some (undefV, setBlk (newAt s3 (.cells [.float .f64 0, .float .f64 0, .float .f64 0, .int .i64 0, .int .i64 0] false)) s3.nxt (.cells (bC x.c x.w x.r x.ev x.ro) false)) :=
    store_all (vs := bC x.c x.w x.r x.ev x.ro) (H4.cell (List.mem_cons_self ..)) rfl rfl rfl
  have H5 := H4.setc (cs' := bC x.c x.w x.r x.ev x.ro)
  have w3 := (lk H3 (List.mem_cons_self ..)).1
  unfold CodeR at hcode
  by_cases hcd : 0 ≤ x.code ∧ x.code ≤ 12
  case neg =>
    rw [if_neg hcd] at hcode
    subst hcode
    simp only [WO_extract, ext_20, ext_21, WO_move, WO_nil, PureK_some, geT_put, evO_tmp, keep_nil, keep_cons, keepK_eq, Nat.reduceEqDiff, ↓reduceIte, eq_self, e1]
    clear e1 e3 e12
    intro fr e1 e3 e4
    refine SeqK_n ?_
    refine W_assoc ?_
    refine W_seq (W_ops [1, 3, 4, 21] ?_)
    simp only [o5_5, WO_bin, WO_move, bin_neq, WO_nil, PureK_some, geT_put, evO_tmp, evO_const, keep_nil, keep_cons, keepK_eq, Nat.reduceEqDiff, ↓reduceIte, Bool.not_false, decide_false, Int.reduceEq, eq_self, e1, e3, e4]
    clear e1 e3 e4
    intro fr e1 e3 e4 e21
    refine SeqK_n ?_
    refine W_seq (W_cond e21 (fun _ => ?_) (fun h => by cases h))
    refine W_seq (W_ops [2] ?_)
    simp only [o5_6, WO_move, WO_nil, geT_put, evO_tmp, keep_nil, keep_cons, keepK_eq, ↓reduceIte, eq_self, e3]
    clear e1 e3 e4 e21
    intro fr e2
    refine SeqK_n ?_
    exact W_ret (SeqK_r (Ret1 e2 ⟨by rw [hE, if_pos hcd], H3.same⟩))
  rw [if_pos hcd] at hcode
  obtain ⟨Bc, oc, cap, rfl⟩ := hcode
  have hl := codeLen_le hcd
  have hE2 : chkE x = if x.ev < (codeLen x.code : Nat) ∨ ¬ (0 ≤ x.cancel ∧ x.cancel ≤ 8 ∧ x.cancel < x.ro) then 2
    else if ¬ (0 ≤ x.guard ∧ x.guard ≤ 16384) ∨ ¬ (1 ≤ x.train ∧ x.train ≤ 16384) then 2
    else if ¬ (0 ≤ x.nth ∧ x.nth ≤ 32768) ∨ (x.way = 3 ∧ 2 * x.train - 1 < x.nth) then 2
    else if finT x.times = false ∨ finT x.noise = false then 6
    else if lt0 x.times = true ∨ lt0 x.noise = true then 2
    else if 16777216 < x.ro * x.ev * (codeLen x.code : Nat) ∨ 16777216 < x.ro * x.ro * x.ev then 3 else 0 := by
    rw [chkE, if_neg (fun q => q hB), if_neg (fun q => q hcd)]
  generalize codeLen x.code = n at hE2 hl ⊢
  simp only [WO_extract, ext_20, ext_21, WO_move, WO_nil, PureK_some, geT_put, evO_tmp, keep_nil, keep_cons, keepK_eq, Nat.reduceEqDiff, ↓reduceIte, eq_self, e1]
  clear e1 e3 e12
  intro fr e1 e3 e4
  refine SeqK_n ?_
  refine W_assoc ?_
  refine W_seq (W_ops [1, 3, 4, 21] ?_)
  simp only [o5_5, WO_bin, WO_move, bin_neq, WO_nil, PureK_some, geT_put, evO_tmp, evO_const, keep_nil, keep_cons, keepK_eq, Nat.reduceEqDiff, ↓reduceIte, Bool.not_true, decide_true, eq_self, e1, e3, e4]
  clear e1 e3 e4
  intro fr e1 e3 e4 e21
  refine SeqK_n ?_
  refine W_seq (W_cond e21 (fun h => by cases h) (fun _ => W_skip (SeqK_n ?_)))
  refine W_seq (W_ops [1, 4, 5] ?_)
  simp only [o5_7, WO_alloc, WO_fieldAddr, fieldAddr_p, WO_load, WO_store, WO_nil, PureK_some, MemK_some, geT_put, puT_none, evO_tmp, keep_nil, keep_cons, keepK_eq, Nat.reduceEqDiff, ↓reduceIte, eq_self, Nat.add_zero, e1, e4, w3, st]
  clear e1 e3 e4 e21
  intro fr e1 e4 e5
  refine SeqK_n ?_
  clear st w3 w5 H4 hE
  generalize setBlk _ s3.nxt _ = s4 at H5 ⊢
  generalize s3.nxt = Bb at H5 e5
  obtain ⟨_, _, k7, k8, k9, k10, k11, k12, k13⟩ := lk H5 (by simp)
  have j3 : loadV s4 none (.pointer (some ⟨Bb, 3, none⟩)) = some (.int .i64 x.ev) := load_g (o := 3) (H5.cell (List.mem_cons_self ..))
  have j4 : loadV s4 none (.pointer (some ⟨Bb, 4, none⟩)) = some (.int .i64 x.ro) := load_g (o := 4) (H5.cell (List.mem_cons_self ..))
  have hS := H5.same
  clear H5 H3 H2 lk hs3
  -- how long, how often differences
  refine W_assoc ?_
  refine W_seq (W_opsB [1, 4, 5, 46] (fun fr s' => s4 = s' ∧ geT fr 1 = .pointer (some ⟨Bk, 0, none⟩) ∧ geT fr 4 = .slice (some ⟨Bc, oc, none⟩) n cap ∧ geT fr 5 = .pointer (some ⟨Bb, 0, none⟩) ∧ geT fr 46 = .bool (decide (x.ev < (n : Nat) ∨ ¬ (0 ≤ x.cancel ∧ x.cancel ≤ 8 ∧ x.cancel < x.ro)))) ?_ ?_)
  · intro R' hR'
    by_cases h1 : x.ev < (n : Nat)
    · simp only [o5_8, WO_bin, WO_bu, bu_len, WO_fieldAddr, fieldAddr_p, WO_load, WO_move, WO_pick, pick_b, bin_gtr, WO_nil, PureK_some, WO_guard, want_v, wantB_f, geT_put, evO_tmp, evO_const, keep_nil, keep_cons, keepK_eq, List.map_cons, List.map_nil, Nat.reduceEqDiff, ↓reduceIte, Bool.not_true, eq_self, Bool.false_eq_true, Nat.zero_add, e1, e4, e5, j3, decide_eq_true h1]
      intro fr e1 e4 e5 e46
      exact hR' _ _ ⟨rfl, e1, e4, e5, by rw [e46]; exact congrArg Value.bool (decide_eq_true (.inl h1)).symm⟩
    · by_cases h2 : x.cancel < 0
      · simp only [o5_8, WO_bin, WO_bu, bu_len, WO_fieldAddr, fieldAddr_p, WO_load, WO_move, WO_pick, pick_b, bin_gtr, bin_lss, WO_nil, PureK_some, WO_guard, want_v, wantB_f, geT_put, evO_tmp, evO_const, keep_nil, keep_cons, keepK_eq, List.map_cons, List.map_nil, Nat.reduceEqDiff, ↓reduceIte, Bool.not_true, Bool.not_false, eq_self, Bool.false_eq_true, Nat.zero_add, e1, e4, e5, j3, k7, decide_eq_false h1, decide_eq_true h2]
        intro fr e1 e4 e5 e46
        exact hR' _ _ ⟨rfl, e1, e4, e5, by rw [e46]; exact congrArg Value.bool (decide_eq_true (.inr (fun q => by omega))).symm⟩
      · by_cases h3 : 8 < x.cancel
        · simp only [o5_8, WO_bin, WO_bu, bu_len, WO_fieldAddr, fieldAddr_p, WO_load, WO_move, WO_pick, pick_b, bin_gtr, bin_lss, WO_nil, PureK_some, WO_guard, want_v, wantB_f, geT_put, evO_tmp, evO_const, keep_nil, keep_cons, keepK_eq, List.map_cons, List.map_nil, Nat.reduceEqDiff, ↓reduceIte, Bool.not_true, Bool.not_false, eq_self, Bool.false_eq_true, Nat.zero_add, e1, e4, e5, j3, k7, decide_eq_false h1, decide_eq_false h2, decide_eq_true h3]
          intro fr e1 e4 e5 e46
          exact hR' _ _ ⟨rfl, e1, e4, e5, by rw [e46]; exact congrArg Value.bool (decide_eq_true (.inr (fun q => by omega))).symm⟩
        · simp only [o5_8, WO_bin, WO_bu, bu_len, WO_fieldAddr, fieldAddr_p, WO_load, WO_move, WO_pick, pick_b, bin_geq, bin_gtr, bin_lss, WO_nil, PureK_some, WO_guard, want_v, wantB_f, geT_put, evO_tmp, evO_const, keep_nil, keep_cons, keepK_eq, List.map_cons, List.map_nil, Nat.reduceEqDiff, ↓reduceIte, Bool.not_false, eq_self, Bool.false_eq_true, Nat.zero_add, e1, e4, e5, j3, j4, k7, decide_eq_false h1, decide_eq_false h2, decide_eq_false h3]
          intro fr e1 e4 e5 e46
          exact hR' _ _ ⟨rfl, e1, e4, e5, by rw [e46]; exact congrArg Value.bool (decide_eq_decide.2 ⟨fun q => .inr (fun a => by omega), fun q => q.elim (fun a => absurd a h1) (fun a => by omega)⟩)⟩
  clear e1 e4 e5 fr
  rintro fr _ ⟨rfl, e1, e4, e5, e46⟩
  refine SeqK_n ?_
  refine W_seq (W_if e46 (fun h1 => ?_) (fun h1 => W_skip (SeqK_n ?_)))
  · skip
    refine W_seq (W_ops [2] ?_)
    simp only [o5_9, WO_move, WO_nil, geT_put, evO_const, keep_nil, keep_cons, keepK_eq, ↓reduceIte, eq_self]
    clear e1 e4 e5 e46
    intro fr e2
    refine SeqK_n ?_
    exact W_ret (SeqK_r (Ret1 e2 ⟨by rw [hE2, if_pos h1], hS⟩))
  rw [if_neg h1] at hE2
  -- guard, train
  refine W_assoc ?_
  refine W_seq (W_opsB [1, 4, 5, 64] (fun fr s' => s4 = s' ∧ geT fr 1 = .pointer (some ⟨Bk, 0, none⟩) ∧ geT fr 4 = .slice (some ⟨Bc, oc, none⟩) n cap ∧ geT fr 5 = .pointer (some ⟨Bb, 0, none⟩) ∧ geT fr 64 = .bool (decide (¬ (0 ≤ x.guard ∧ x.guard ≤ 16384) ∨ ¬ (1 ≤ x.train ∧ x.train ≤ 16384)))) ?_ ?_)
  · intro R' hR'
    by_cases g1 : x.guard < 0
    · simp only [o5_10, WO_bin, WO_fieldAddr, fieldAddr_p, WO_load, WO_move, WO_pick, pick_b, bin_lss, WO_nil, PureK_some, WO_guard, want_v, wantB_f, geT_put, evO_tmp, evO_const, keep_nil, keep_cons, keepK_eq, Nat.reduceEqDiff, ↓reduceIte, Bool.not_true, eq_self, Bool.false_eq_true, Nat.zero_add, e1, e4, e5, k9, decide_eq_true g1]
      intro fr e1 e4 e5 e64
      exact hR' _ _ ⟨rfl, e1, e4, e5, by rw [e64]; exact congrArg Value.bool (decide_eq_true (.inl (fun q => by omega))).symm⟩
    · by_cases g2 : 16384 < x.guard
      · simp only [o5_10, WO_bin, WO_fieldAddr, fieldAddr_p, WO_load, WO_move, WO_pick, pick_b, bin_gtr, bin_lss, WO_nil, PureK_some, WO_guard, want_v, wantB_f, geT_put, evO_tmp, evO_const, keep_nil, keep_cons, keepK_eq, Nat.reduceEqDiff, ↓reduceIte, Bool.not_true, Bool.not_false, eq_self, Bool.false_eq_true, Nat.zero_add, e1, e4, e5, k9, decide_eq_false g1, decide_eq_true g2]
        intro fr e1 e4 e5 e64
        exact hR' _ _ ⟨rfl, e1, e4, e5, by rw [e64]; exact congrArg Value.bool (decide_eq_true (.inl (fun q => by omega))).symm⟩
      · by_cases g3 : x.train < 1
        · simp only [o5_10, WO_bin, WO_fieldAddr, fieldAddr_p, WO_load, WO_move, WO_pick, pick_b, bin_gtr, bin_lss, WO_nil, PureK_some, WO_guard, want_v, wantB_f, geT_put, evO_tmp, evO_const, keep_nil, keep_cons, keepK_eq, Nat.reduceEqDiff, ↓reduceIte, Bool.not_true, Bool.not_false, eq_self, Bool.false_eq_true, Nat.zero_add, e1, e4, e5, k9, k10, decide_eq_false g1, decide_eq_false g2, decide_eq_true g3]
          intro fr e1 e4 e5 e64
          exact hR' _ _ ⟨rfl, e1, e4, e5, by rw [e64]; exact congrArg Value.bool (decide_eq_true (.inr (fun q => by omega))).symm⟩
        · simp only [o5_10, WO_bin, WO_fieldAddr, fieldAddr_p, WO_load, WO_move, WO_pick, pick_b, bin_gtr, bin_lss, WO_nil, PureK_some, WO_guard, want_v, wantB_f, geT_put, evO_tmp, evO_const, keep_nil, keep_cons, keepK_eq, Nat.reduceEqDiff, ↓reduceIte, Bool.not_false, eq_self, Bool.false_eq_true, Nat.zero_add, e1, e4, e5, k9, k10, decide_eq_false g1, decide_eq_false g2, decide_eq_false g3]
          intro fr e1 e4 e5 e64
          exact hR' _ _ ⟨rfl, e1, e4, e5, by rw [e64]; exact congrArg Value.bool (decide_eq_decide.2 ⟨fun q => .inr (fun a => by omega), fun q => q.elim (fun a => by omega) (fun a => by omega)⟩)⟩
  clear e1 e4 e5 e46 fr
  rintro fr _ ⟨rfl, e1, e4, e5, e64⟩
  refine SeqK_n ?_
  refine W_seq (W_if e64 (fun h2 => ?_) (fun h2 => W_skip (SeqK_n ?_)))
  · skip
    refine W_seq (W_ops [2] ?_)
    simp only [o5_11, WO_move, WO_nil, geT_put, evO_const, keep_nil, keep_cons, keepK_eq, ↓reduceIte, eq_self]
    clear e1 e4 e5 e64
    intro fr e2
    refine SeqK_n ?_
    exact W_ret (SeqK_r (Ret1 e2 ⟨by rw [hE2, if_pos h2], hS⟩))
  rw [if_neg h2] at hE2
  have htr : 1 ≤ x.train ∧ x.train ≤ 16384 := by omega
  -- nth
  refine W_assoc ?_
  refine W_seq (W_opsB [1, 4, 5, 86] (fun fr s' => s4 = s' ∧ geT fr 1 = .pointer (some ⟨Bk, 0, none⟩) ∧ geT fr 4 = .slice (some ⟨Bc, oc, none⟩) n cap ∧ geT fr 5 = .pointer (some ⟨Bb, 0, none⟩) ∧ geT fr 86 = .bool (decide (¬ (0 ≤ x.nth ∧ x.nth ≤ 32768) ∨ (x.way = 3 ∧ 2 * x.train - 1 < x.nth)))) ?_ ?_)
  · intro R' hR'
    by_cases g1 : x.nth < 0
    · simp only [o5_12, WO_bin, WO_fieldAddr, fieldAddr_p, WO_load, WO_move, WO_pick, pick_b, bin_gtr, bin_lss, bin_mul, bin_sub, WO_nil, PureK_some, WO_guard, want_v, wantB_f, geT_put, evO_tmp, evO_const, keep_nil, keep_cons, keepK_eq, Nat.reduceEqDiff, ↓reduceIte, Bool.not_true, eq_self, Bool.false_eq_true, Nat.zero_add, e1, e4, e5, k10, k11, decide_eq_true g1]
      intro fr e1 e4 e5 e86
      exact hR' _ _ ⟨rfl, e1, e4, e5, by rw [e86]; exact congrArg Value.bool (decide_eq_true (.inl (fun q => by omega))).symm⟩
    · by_cases g2 : 32768 < x.nth
      · simp only [o5_12, WO_bin, WO_fieldAddr, fieldAddr_p, WO_load, WO_move, WO_pick, pick_b, bin_gtr, bin_lss, bin_mul, bin_sub, WO_nil, PureK_some, WO_guard, want_v, wantB_f, geT_put, evO_tmp, evO_const, keep_nil, keep_cons, keepK_eq, Nat.reduceEqDiff, ↓reduceIte, Bool.not_true, Bool.not_false, eq_self, Bool.false_eq_true, Nat.zero_add, e1, e4, e5, k10, k11, decide_eq_false g1, decide_eq_true g2]
        intro fr e1 e4 e5 e86
        exact hR' _ _ ⟨rfl, e1, e4, e5, by rw [e86]; exact congrArg Value.bool (decide_eq_true (.inl (fun q => by omega))).symm⟩
      · by_cases g3 : x.way = 3
        · simp only [o5_12, WO_bin, WO_fieldAddr, fieldAddr_p, WO_load, WO_move, WO_pick, pick_b, bin_eql, bin_gtr, bin_lss, bin_mul, bin_sub, WO_nil, PureK_some, WO_guard, want_v, wantB_t, wantB_f, geT_put, evO_tmp, evO_const, keep_nil, keep_cons, keepK_eq, Nat.reduceEqDiff, ↓reduceIte, Bool.not_false, eq_self, Bool.false_eq_true, Nat.zero_add, e1, e4, e5, k8, k10, k11, decide_eq_false g1, decide_eq_false g2, decide_eq_true g3, wrap_i64 (n := 2 * x.train) (by omega) (by omega), wrap_i64 (n := 2 * x.train - 1) (by omega) (by omega)]
          intro fr e1 e4 e5 e86
          exact hR' _ _ ⟨rfl, e1, e4, e5, by rw [e86]; exact congrArg Value.bool (decide_eq_decide.2 ⟨fun q => .inr ⟨g3, q⟩, fun q => q.elim (fun a => by omega) (fun a => a.2)⟩)⟩
        · simp only [o5_12, WO_bin, WO_fieldAddr, fieldAddr_p, WO_load, WO_move, WO_pick, pick_b, bin_eql, bin_gtr, bin_lss, WO_nil, PureK_some, WO_guard, want_v, wantB_t, wantB_f, geT_put, evO_tmp, evO_const, keep_nil, keep_cons, keepK_eq, Nat.reduceEqDiff, ↓reduceIte, Bool.not_false, eq_self, Bool.false_eq_true, Nat.zero_add, e1, e4, e5, k8, k11, decide_eq_false g1, decide_eq_false g2, decide_eq_false g3]
          intro fr e1 e4 e5 e86
          exact hR' _ _ ⟨rfl, e1, e4, e5, by rw [e86]; exact congrArg Value.bool (decide_eq_false fun q => q.elim (fun a => by omega) (fun a => g3 a.1)).symm⟩
  clear e1 e4 e5 e64 fr
  rintro fr _ ⟨rfl, e1, e4, e5, e86⟩
  refine SeqK_n ?_
  refine W_seq (W_if e86 (fun h3 => ?_) (fun h3 => W_skip (SeqK_n ?_)))
  · skip
    refine W_seq (W_ops [2] ?_)
    simp only [o5_13, WO_move, WO_nil, geT_put, evO_const, keep_nil, keep_cons, keepK_eq, ↓reduceIte, eq_self]
    clear e1 e4 e5 e86
    intro fr e2
    refine SeqK_n ?_
    exact W_ret (SeqK_r (Ret1 e2 ⟨by rw [hE2, if_pos h3], hS⟩))
  rw [if_neg h3] at hE2
  -- finite
  refine W_seq (W_ops [1, 4, 5, 6] ?_)
  simp only [o5_14, WO_call, WO_fieldAddr, fieldAddr_p, WO_load, PureK_some, geT_put, evO_tmp, List.map_cons, List.map_nil, ↓reduceIte, eq_self, Nat.zero_add, e1, k12]
  refine CallK_of (run13 hX ho ht) ?_
  rintro _ _ ⟨rfl, rfl⟩
  simp only [WO_move, WO_nil, geT_put, evO_tmp, keep_nil, keep_cons, keepK_eq, Nat.reduceEqDiff, ↓reduceIte, eq_self, e1, e4, e5]
  clear e1 e4 e5 e86
  intro fr e1 e4 e5 e6
  refine SeqK_n ?_
  refine W_seq (W_ops [1, 4, 5, 6, 7] ?_)
  simp only [o5_15, WO_call, WO_fieldAddr, fieldAddr_p, WO_load, PureK_some, geT_put, evO_tmp, List.map_cons, List.map_nil, ↓reduceIte, eq_self, Nat.zero_add, e1, k13]
  refine CallK_of (run13 hX ho hn) ?_
  rintro _ _ ⟨rfl, rfl⟩
  simp only [WO_move, WO_nil, geT_put, evO_tmp, keep_nil, keep_cons, keepK_eq, Nat.reduceEqDiff, ↓reduceIte, eq_self, e1, e4, e5, e6]
  clear e1 e4 e5 e6
  intro fr e1 e4 e5 e6 e7
  refine SeqK_n ?_
  refine W_assoc ?_
  refine W_seq (W_opsB [1, 4, 5, 98] (fun fr s' => s4 = s' ∧ geT fr 1 = .pointer (some ⟨Bk, 0, none⟩) ∧ geT fr 4 = .slice (some ⟨Bc, oc, none⟩) n cap ∧ geT fr 5 = .pointer (some ⟨Bb, 0, none⟩) ∧ geT fr 98 = .bool (decide (finT x.times = false ∨ finT x.noise = false))) ?_ ?_)
  · intro R' hR'
    cases g1 : finT x.times with
    | false =>
      rw [g1] at e6
      simp only [o5_16, WO_move, WO_pick, pick_b, WO_un, un_not, WO_nil, PureK_some, WO_guard, want_v, wantB_f, geT_put, evO_tmp, evO_const, keep_nil, keep_cons, keepK_eq, Nat.reduceEqDiff, ↓reduceIte, Bool.not_true, Bool.not_false, eq_self, Bool.false_eq_true, e1, e4, e5, e6]
      intro fr e1 e4 e5 e98
      exact hR' _ _ ⟨rfl, e1, e4, e5, by rw [e98]; exact congrArg Value.bool (decide_eq_true (.inl g1)).symm⟩
    | true =>
      rw [g1] at e6
      simp only [o5_16, WO_move, WO_pick, pick_b, WO_un, un_not, WO_nil, PureK_some, WO_guard, want_v, wantB_f, geT_put, evO_tmp, evO_const, keep_nil, keep_cons, keepK_eq, Nat.reduceEqDiff, ↓reduceIte, Bool.not_true, Bool.not_false, eq_self, Bool.false_eq_true, e1, e4, e5, e6, e7]
      intro fr e1 e4 e5 e98
      refine hR' _ _ ⟨rfl, e1, e4, e5, ?_⟩
      rw [e98, g1]
      cases finT x.noise <;> rfl
  clear e1 e4 e5 e6 e7 fr
  rintro fr _ ⟨rfl, e1, e4, e5, e98⟩
  refine SeqK_n ?_
  refine W_seq (W_if e98 (fun h4 => ?_) (fun h4 => W_skip (SeqK_n ?_)))
  · skip
    refine W_seq (W_ops [2] ?_)
    simp only [o5_17, WO_move, WO_nil, geT_put, evO_const, keep_nil, keep_cons, keepK_eq, ↓reduceIte, eq_self]
    clear e1 e4 e5 e98
    intro fr e2
    refine SeqK_n ?_
    exact W_ret (SeqK_r (Ret1 e2 ⟨by rw [hE2, if_pos h4], hS⟩))
  rw [if_neg h4] at hE2
  -- not below 0
  have hl1 : (ford .f64 x.times 0 == some .lt) = lt0 x.times := rfl
  have hl2 : (ford .f64 x.noise 0 == some .lt) = lt0 x.noise := rfl
  refine W_assoc ?_
  refine W_seq (W_opsB [4, 5, 106] (fun fr s' => s4 = s' ∧ geT fr 4 = .slice (some ⟨Bc, oc, none⟩) n cap ∧ geT fr 5 = .pointer (some ⟨Bb, 0, none⟩) ∧ geT fr 106 = .bool (decide (lt0 x.times = true ∨ lt0 x.noise = true))) ?_ ?_)
  · intro R' hR'
    cases g1 : lt0 x.times with
    | true =>
      rw [g1] at hl1
      simp only [o5_18, WO_bin, WO_fieldAddr, fieldAddr_p, WO_load, WO_move, WO_pick, pick_b, binf_lss, WO_nil, PureK_some, WO_guard, want_v, wantB_f, geT_put, evO_tmp, evO_const, keep_nil, keep_cons, keepK_eq, Nat.reduceEqDiff, ↓reduceIte, Bool.not_true, eq_self, Bool.false_eq_true, Nat.zero_add, e1, e4, e5, k12, hl1]
      intro fr e4 e5 e106
      exact hR' _ _ ⟨rfl, e4, e5, by rw [e106]; exact congrArg Value.bool (decide_eq_true (.inl g1)).symm⟩
    | false =>
      rw [g1] at hl1
      simp only [o5_18, WO_bin, WO_fieldAddr, fieldAddr_p, WO_load, WO_move, WO_pick, pick_b, binf_lss, WO_nil, PureK_some, WO_guard, want_v, wantB_f, geT_put, evO_tmp, evO_const, keep_nil, keep_cons, keepK_eq, Nat.reduceEqDiff, ↓reduceIte, Bool.not_false, eq_self, Bool.false_eq_true, Nat.zero_add, e1, e4, e5, k12, k13, hl1, hl2]
      intro fr e4 e5 e106
      refine hR' _ _ ⟨rfl, e4, e5, ?_⟩
      rw [e106, g1]
      cases lt0 x.noise <;> rfl
  clear e1 e4 e5 e98 fr
  rintro fr _ ⟨rfl, e4, e5, e106⟩
  refine SeqK_n ?_
  refine W_seq (W_if e106 (fun h5 => ?_) (fun h5 => W_skip (SeqK_n ?_)))
  · skip
    refine W_seq (W_ops [2] ?_)
    simp only [o5_19, WO_move, WO_nil, geT_put, evO_const, keep_nil, keep_cons, keepK_eq, ↓reduceIte, eq_self]
    clear e4 e5 e106
    intro fr e2
    refine SeqK_n ?_
    exact W_ret (SeqK_r (Ret1 e2 ⟨by rw [hE2, if_pos h5], hS⟩))
  rw [if_neg h5] at hE2
  -- the work
  obtain ⟨q1, q2, q3⟩ := work_wrap (ro := x.ro) (ev := x.ev) (k := (n : Int)) (by omega) (by omega) (by omega) (by omega) (by omega)
  have hrr : 0 ≤ x.ro * x.ro ∧ x.ro * x.ro ≤ 256 * 256 := ⟨Int.mul_nonneg (by omega) (by omega), Int.mul_le_mul (by omega) (by omega) (by omega) (by omega)⟩
  have hrre : 0 ≤ x.ro * x.ro * x.ev ∧ x.ro * x.ro * x.ev ≤ 256 * 256 * 16384 := ⟨Int.mul_nonneg (by omega) (by omega), Int.mul_le_mul hrr.2 (by omega) (by omega) (by omega)⟩
  have q4 : wrapK .i64 (x.ro * x.ro) = x.ro * x.ro := wrap_i64 (by omega) (by omega)
  have q5 : wrapK .i64 (x.ro * x.ro * x.ev) = x.ro * x.ro * x.ev := wrap_i64 (by omega) (by omega)
  refine W_assoc ?_
  refine W_seq (W_opsB [126] (fun fr s' => s4 = s' ∧ geT fr 126 = .bool (decide (16777216 < x.ro * x.ev * (n : Nat) ∨ 16777216 < x.ro * x.ro * x.ev))) ?_ ?_)
  · intro R' hR'
    by_cases g1 : 16777216 < x.ro * x.ev * (n : Nat)
    · simp only [o5_20, WO_bin, WO_bu, bu_len, WO_fieldAddr, fieldAddr_p, WO_load, WO_move, WO_pick, pick_b, bin_gtr, bin_mul, WO_nil, PureK_some, WO_guard, want_v, wantB_f, geT_put, evO_tmp, evO_const, keep_nil, keep_cons, keepK_eq, List.map_cons, List.map_nil, Nat.reduceEqDiff, ↓reduceIte, Bool.not_true, eq_self, Bool.false_eq_true, Nat.zero_add, e4, e5, j3, j4, q1, q2, decide_eq_true g1]
      intro fr e126
      exact hR' _ _ ⟨rfl, by rw [e126]; exact congrArg Value.bool (decide_eq_true (.inl g1)).symm⟩
    · simp only [o5_20, WO_bin, WO_bu, bu_len, WO_fieldAddr, fieldAddr_p, WO_load, WO_move, WO_pick, pick_b, bin_gtr, bin_mul, WO_nil, PureK_some, WO_guard, want_v, wantB_f, geT_put, evO_tmp, evO_const, keep_nil, keep_cons, keepK_eq, List.map_cons, List.map_nil, Nat.reduceEqDiff, ↓reduceIte, Bool.not_false, eq_self, Bool.false_eq_true, Nat.zero_add, e4, e5, j3, j4, q1, q2, q4, q5, decide_eq_false g1]
      intro fr e126
      exact hR' _ _ ⟨rfl, by rw [e126]; exact congrArg Value.bool (decide_eq_decide.2 ⟨fun q => .inr q, fun q => q.elim (fun a => absurd a g1) id⟩)⟩
  clear e4 e5 e106 fr
  rintro fr _ ⟨rfl, e126⟩
  refine SeqK_n ?_
  refine W_seq (W_if e126 (fun h6 => ?_) (fun h6 => W_skip (SeqK_n ?_)))
  · skip
    refine W_seq (W_ops [2] ?_)
    simp only [o5_21, WO_move, WO_nil, geT_put, evO_const, keep_nil, keep_cons, keepK_eq, ↓reduceIte, eq_self]
    clear e126
    intro fr e2
    refine SeqK_n ?_
    exact W_ret (SeqK_r (Ret1 e2 ⟨by rw [hE2, if_pos h6], hS⟩))
  · skip
    refine W_seq (W_ops [2] ?_)
    simp only [o5_22, WO_move, WO_nil, geT_put, evO_const, keep_nil, keep_cons, keepK_eq, ↓reduceIte, eq_self]
    clear e126
    intro fr e2
    refine SeqK_n ?_
    exact W_ret (Ret1 e2 ⟨by rw [hE2, if_neg h6], hS⟩)

end Go.Proofs.YtcocakiincejaaaGreat

/- DwellChecks, walked. -/
namespace Go.Proofs.YtcocakiincejaaaGreat
open Go Go.Vam

theorem sameO_V {x : St} : sameO (some x.V) x.V = true := by simp [sameO, sameV, beqV, St.V]


set_option maxHeartbeats 1000000 in
theorem run3 {X : Ctx} (hX : X.fns = fnsOf Tryz.prog) (ho : ∀ f args s, f ≠ 6 ∧ f ≠ 8 ∧ f ≠ 12 → X.orc f args s = none) (hk : KnownC X) {s : Mm} {x : St} (hc : x.c < 18446744073709551616) (hw : x.w < 18446744073709551616) (hr : x.r < 18446744073709551616) (ht : x.times < 18446744073709551616) (hn : x.noise < 18446744073709551616) : CallP X 3 [x.V] s (fun r _ => r = .bool true) := by
  have hbx : x.V.cells.toList = x.C := rfl
  have H1 := (Hold.refl s).new x.C
  refine CallP_of (hX ▸ ir3_eq) (ho _ _ _ (by decide)) (Nat.le_of_ble_eq_true rfl) ?_
  refine W_seq (W_ops [1] ?_)
  simp only [o3_0, WO_box, WO_move, WO_nil, geT_put, frame_nil, frame_cons, evO_tmp, evO_const, keep_nil, keep_cons, keepK_eq, Nat.reduceEqDiff, ↓reduceIte, eq_self, Nat.zero_add, hbx]
  intro fr e1
  refine SeqK_n ?_
  generalize newAt s (.cells x.C false) = s1 at H1 ⊢
  generalize s.nxt = Bk at H1 e1
  have lk : ∀ {s'} {l : List HP}, Hold s s' l → HP.cell Bk x.C ∈ l → loadV s' (some 14) (.pointer (some ⟨Bk, 0, none⟩)) = some x.V := fun h hm => (loadn_g (h.cell hm)).trans rfl
  have lw := lk H1 (List.mem_cons_self ..)
  refine W_seq (W_draw0 [2] rfl ?_)
  simp only [d3_1, WD_call, WD_load, DReadK_some, pastR_nil, joinF_nil, setH_self, geT_put, evO_tmp, List.map_cons, List.map_nil, ↓reduceIte, eq_self, true_and, Nat.zero_add, e1, lw]
  refine DCallK_of rfl (run4 hX ho hk ht hn) ?_
  rintro _ s2 ⟨rfl, hs2⟩
  have H2 := H1.keep hs2
  have lw2 := lk H2 (List.mem_cons_self ..)
  simp only [WD_call, WD_load, DReadK_some, pastR_nil, pastR_cons, joinF_nil, setH_self, Nat.testBit, Nat.reduceShiftRight, Nat.reduceAnd, Nat.reduceBneDiff, List.all_nil, List.all_cons, List.filter_nil, List.filter_cons, bne_self_eq_false, geT_put, evO_tmp, List.map_cons, List.map_nil, Nat.reduceEqDiff, Nat.reduceAdd, ↓reduceIte, Bool.not_true, Bool.and_true, Bool.or_true, eq_self, Bool.false_eq_true, true_and, e1, lw, lw2, sameO_V]
  refine DCallK_of rfl (run5 hX ho hk hc hw hr ht hn) ?_
  rintro _ s3 ⟨rfl, hs3⟩
  simp only [WD_bin, WD_call, WD_move, bin_eql, want_v, wantB_t, DPureK_some, joinF_nil, setH_self, Nat.testBit, Nat.reduceShiftRight, Nat.reduceAnd, Nat.reduceBneDiff, List.all_nil, List.all_cons, List.filter_nil, List.filter_cons, geT_put, evO_tmp, List.map_nil, Nat.reduceEqDiff, Nat.reduceAdd, ↓reduceIte, Bool.not_true, decide_true, Bool.and_true, Bool.true_or, eq_self, Bool.false_eq_true, true_and, WD_yes]
  refine DCallK_of rfl (show CallP X 6 [] s3 (fun r s' => r = .bool true ∧ s3 = s') from ⟨_, _, Call_orc (hk.wake s3), rfl, rfl⟩) ?_
  rintro _ _ ⟨rfl, rfl⟩
  simp only [WD_move, WD_pick, pick_b, WD_nil, DPureK_some, joinF_nil, joinAll_nil, setH_self, Nat.testBit, List.all_nil, List.filter_nil, geT_put, evO_tmp, evO_const, keep_nil, keep_cons, keepK_eq, Nat.reduceEqDiff, Nat.reduceAdd, ↓reduceIte, eq_self, true_and]
  clear e1
  intro fr e2
  refine SeqK_n ?_
  exact W_ret (Ret1 e2 rfl)

end Go.Proofs.YtcocakiincejaaaGreat

/- DwellChecks: its run at any setup. -/
namespace Go.Proofs.YtcocakiincejaaaGreat
open Go Go.Vam

/-- The codes' makers at the numbers that they know. -/
def K8 (f : FuncId) (args : List Value) : Bool := match args with
  | [.int .i64 m] => (decide (f = 8) || decide (f = 12)) && (decide (0 ≤ m) && decide (m ≤ 12))
  | _ => false

theorem K8_is (f : FuncId) (m : Int) : K8 f [.int .i64 m] = ((decide (f = 8) || decide (f = 12)) && (decide (0 ≤ m) && decide (m ≤ 12))) := rfl

theorem K8_plain : ∀ (f : FuncId) (args : List Value), K8 f args = true → args.all plainV = true := by
  intro f args h
  unfold K8 at h
  split at h
  · rfl
  · cases h

theorem K8_other {f : FuncId} {args : List Value} (h8 : f ≠ 8) (h12 : f ≠ 12) : K8 f args = false := by
  unfold K8
  split
  · rw [decide_eq_false h8, decide_eq_false h12]; rfl
  · rfl

theorem known {R : FuncId → List Value → Option (Value × KS)} (hR : ∀ (f : FuncId) (m : Int), f = 8 ∨ f = 12 → 0 ≤ m → m ≤ 12 → ∃ B o cap s, R f [.int .i64 m] = some (.tuple #[.slice (some ⟨B, o, none⟩) (codeLen m) cap, .int .i64 0], s)) :
    KnownC ⟨orcK 6 K8 R, fnsOf Tryz.prog⟩ where
  wake s := by
    show orcK 6 K8 R 6 [] s = _
    unfold orcK
    rw [if_pos ⟨rfl, rfl⟩]
  code f m s hf hm := by
    obtain ⟨B, o, cap, s0, h⟩ := hR f m hf hm.1 hm.2
    have hk : K8 f [.int .i64 m] = true := by
      rw [K8_is, decide_eq_true hm.1, decide_eq_true hm.2]
      rcases hf with rfl | rfl <;> rfl
    refine ⟨B + s.nxt, o, cap, s0.nxt, ?_⟩
    show orcK 6 K8 R f [.int .i64 m] s = _
    unfold orcK
    rw [if_neg (fun q => by cases q.2), if_pos hk]
    unfold closedS
    rw [h]
    rfl
  bad f m s hf hm := by
    have hk : K8 f [.int .i64 m] = false := by
      rw [K8_is]
      by_cases h0 : 0 ≤ m
      · rw [decide_eq_false (p := m ≤ 12) (fun h => hm ⟨h0, h⟩), Bool.and_false, Bool.and_false]
      · rw [decide_eq_false h0, Bool.false_and, Bool.and_false]
    show orcK 6 K8 R f [.int .i64 m] s = _
    unfold orcK
    rw [if_neg (fun q => by cases q.2), if_neg (by rw [hk]; exact Bool.false_ne_true)]

theorem known_other {R : FuncId → List Value → Option (Value × KS)} (f : FuncId) (args : List Value) (s : Mm) (h : f ≠ 6 ∧ f ≠ 8 ∧ f ≠ 12) : orcK 6 K8 R f args s = none := by
  unfold orcK
  rw [if_neg (fun q => h.1 q.1), if_neg (by rw [K8_other h.2.1 h.2.2]; exact Bool.false_ne_true)]

/-- What the machine of the codes comes to. -/
noncomputable def codeRun (f : FuncId) (args : List Value) : Option (Value × KS) := cfD f args none2
theorem codeRun_is (f : FuncId) (m : Int) (hf : f = 8 ∨ f = 12) (h0 : 0 ≤ m) (h1 : m ≤ 12) : ∃ B o cap s, codeRun f [.int .i64 m] = some (.tuple #[.slice (some ⟨B, o, none⟩) (codeLen m) cap, .int .i64 0], s) := codes f m hf h0 h1

theorem orc_ok : OrcOk (H := FunS ABlk) Tryz.prog (orcK 6 K8 codeRun) :=
  orcK_ok cfD_ok 6 K8 ⟨_, Tryz.func6, rfl, by decide⟩ wakes_call K8_plain

theorem AbsL.cons {P : Program} {T : Type} {s : Mm} {t : TypeId} {ts : List TypeId} {vs : List Value} {ds : List (DataW T)} (h : AbsL P s (t :: ts) vs ds) : ∃ v vs' d ds', vs = v :: vs' ∧ ds = d :: ds' ∧ AbsV P s t v d ∧ AbsL P s ts vs' ds' := by
  cases vs with
  | nil => exact h.elim
  | cons v vs => cases ds with
    | nil => exact h.elim
    | cons d ds => exact ⟨v, vs, d, ds, rfl, rfl, h.1, h.2⟩
theorem AbsL.nil {P : Program} {T : Type} {s : Mm} {vs : List Value} {ds : List (DataW T)} (h : AbsL P s [] vs ds) : vs = [] ∧ ds = [] := by
  cases vs with
  | nil => cases ds with
    | nil => exact ⟨rfl, rfl⟩
    | cons d ds => exact h.elim
  | cons v vs => exact h.elim
theorem wfl (x : Nat) (hx : (Lit.float .f64 x).wf = true) : x < 18446744073709551616 := by simpa [Lit.wf] using hx

theorem c3 : Tryz.prog.cellsOf 3 = 1 := by decide +kernel
theorem c22 : Tryz.prog.cellsOf 22 = 1 := by decide +kernel
theorem c25 : Tryz.prog.cellsOf 25 = 1 := by decide +kernel
theorem c24 : Tryz.prog.cellsOf 24 = 5 := by decide +kernel
theorem c27 : Tryz.prog.cellsOf 27 = 14 := by decide +kernel
theorem five {α : Type} {l : List α} (h : l.length = 5) : ∃ a b c d e, l = [a, b, c, d, e] := by
  match l, h with
  | [a, b, c, d, e], _ => exact ⟨a, b, c, d, e, rfl⟩
theorem ten {α : Type} {l : List α} (h : l.length = 10) : ∃ a b c d e f g i j k, l = [a, b, c, d, e, f, g, i, j, k] := by
  match l, h with
  | [a, b, c, d, e, f, g, i, j, k], _ => exact ⟨a, b, c, d, e, f, g, i, j, k, rfl⟩
theorem fourteen {α : Type} {l : List α} (h : l.length = 14) : ∃ a b c d e f g i j k m n o p, l = [a, b, c, d, e, f, g, i, j, k, m, n, o, p] := by
  match l, h with
  | [a, b, c, d, e, f, g, i, j, k, m, n, o, p], _ => exact ⟨a, b, c, d, e, f, g, i, j, k, m, n, o, p, rfl⟩

set_option maxRecDepth 100000 in
theorem beat_open {T : Type} {s : Mm} {cs : List Value} {d : DataW T} (h : Abs Tryz.prog s 24 cs d) : ∃ c w r ev ro, cs = bC c w r ev ro ∧ c < 18446744073709551616 ∧ w < 18446744073709551616 ∧ r < 18446744073709551616 := by
  obtain ⟨ds, _, h1, h2, h3⟩ := Abs.st Tryz.underlying24 h
  rw [c24] at h1
  obtain ⟨a0, a1, a2, a3, a4, rfl⟩ := five h1
  obtain ⟨d0, d1, d2, d3, d4, rfl⟩ := five h2
  have g0 := h3 0 _ d0 rfl rfl
  have g1 := h3 1 _ d1 rfl rfl
  have g2 := h3 2 _ d2 rfl rfl
  have g3 := h3 3 _ d3 rfl rfl
  have g4 := h3 4 _ d4 rfl rfl
  simp only [c3, c22] at g0 g1 g2 g3 g4
  obtain ⟨n0, k0, _, w0⟩ := Abs.f Tryz.underlying22 g0
  obtain ⟨n1, k1, _, w1⟩ := Abs.f Tryz.underlying22 g1
  obtain ⟨n2, k2, _, w2⟩ := Abs.f Tryz.underlying22 g2
  obtain ⟨n3, k3, _⟩ := Abs.i Tryz.underlying3 g3
  obtain ⟨n4, k4, _⟩ := Abs.i Tryz.underlying3 g4
  simp only [List.drop_zero, List.drop_succ_cons, List.take_succ_cons, List.take_zero, List.cons.injEq, and_true] at k0 k1 k2 k3 k4
  subst k0 k1 k2 k3 k4
  exact ⟨n0, n1, n2, n3, n4, rfl, wfl _ w0, wfl _ w1, wfl _ w2⟩

set_option maxRecDepth 100000 in
/-- A setup that is handed in. -/
theorem setup_open {T : Type} {s : Mm} {v : Value} {d : DataW T} (h : AbsV Tryz.prog s 27 v d) : ∃ x : St, v = x.V ∧ x.c < 18446744073709551616 ∧ x.w < 18446744073709551616 ∧ x.r < 18446744073709551616 ∧ x.times < 18446744073709551616 ∧ x.noise < 18446744073709551616 := by
  unfold AbsV at h
  rw [Tryz.underlying27] at h
  obtain ⟨cs, rfl, h⟩ := h
  obtain ⟨ds, _, h1, h2, h3⟩ := Abs.st Tryz.underlying27 h
  rw [c27] at h1
  obtain ⟨a0, a1, a2, a3, a4, a5, a6, a7, a8, a9, a10, a11, a12, a13, habc⟩ := fourteen h1
  obtain ⟨d0, d1, d2, d3, d4, d5, d6, d7, d8, d9, rfl⟩ := ten h2
  have g0 := h3 0 _ d0 rfl rfl
  have g1 := h3 1 _ d1 rfl rfl
  have g2 := h3 2 _ d2 rfl rfl
  have g3 := h3 3 _ d3 rfl rfl
  have g4 := h3 4 _ d4 rfl rfl
  have g5 := h3 5 _ d5 rfl rfl
  have g6 := h3 6 _ d6 rfl rfl
  have g7 := h3 7 _ d7 rfl rfl
  have g8 := h3 8 _ d8 rfl rfl
  have g9 := h3 9 _ d9 rfl rfl
  simp only [c3, c22, c24, c25, habc] at g0 g1 g2 g3 g4 g5 g6 g7 g8 g9
  obtain ⟨c, w, r, ev, ro, k0, hc, hw, hr⟩ := beat_open g0
  obtain ⟨n1, k1, _⟩ := Abs.i Tryz.underlying3 g1
  obtain ⟨n2, k2, _⟩ := Abs.i Tryz.underlying25 g2
  obtain ⟨n3, k3, _⟩ := Abs.i Tryz.underlying3 g3
  obtain ⟨n4, k4, _⟩ := Abs.i Tryz.underlying25 g4
  obtain ⟨n5, k5, _⟩ := Abs.i Tryz.underlying3 g5
  obtain ⟨n6, k6, _⟩ := Abs.i Tryz.underlying3 g6
  obtain ⟨n7, k7, _⟩ := Abs.i Tryz.underlying3 g7
  obtain ⟨n8, k8, _, w8⟩ := Abs.f Tryz.underlying22 g8
  obtain ⟨n9, k9, _, w9⟩ := Abs.f Tryz.underlying22 g9
  simp only [bC, List.drop_zero, List.drop_succ_cons, List.take_succ_cons, List.take_zero, List.cons.injEq, and_true] at k0 k1 k2 k3 k4 k5 k6 k7 k8 k9
  obtain ⟨q0, q1, q2, q3, q4⟩ := k0
  subst q0 q1 q2 q3 q4 k1 k2 k3 k4 k5 k6 k7 k8 k9
  obtain ⟨l⟩ := cs
  simp only at habc
  subst habc
  exact ⟨⟨c, w, r, ev, ro, n1, n2, n3, n4, n5, n6, n7, n8, n9⟩, rfl, hc, hw, hr, wfl _ w8, wfl _ w9⟩

set_option maxRecDepth 100000 in
theorem runDwellChecks {T : Type} {s : Mm} {avs : List Value} {ds : List (DataW T)} (h : AbsL Tryz.prog s [27] avs ds) : CallP ⟨orcK 6 K8 codeRun, fnsOf Tryz.prog⟩ 3 avs s (fun v _ => v = .bool true) := by
  obtain ⟨v0, vs, d0, ds, rfl, rfl, h0, h⟩ := AbsL.cons h
  obtain ⟨rfl, rfl⟩ := AbsL.nil h
  obtain ⟨x, rfl, h1, h2, h3, h4, h5⟩ := setup_open h0
  exact run3 (X := ⟨orcK 6 K8 codeRun, fnsOf Tryz.prog⟩) rfl (fun f args s hf => known_other f args s hf) (known codeRun_is) h1 h2 h3 h4 h5

end Go.Proofs.YtcocakiincejaaaGreat
