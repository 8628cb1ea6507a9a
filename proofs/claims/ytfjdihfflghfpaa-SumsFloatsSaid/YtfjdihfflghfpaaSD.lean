/- Floats in their order: one number for each, the same for those that are the same. -/
import Derived.Test.YtfjdihfflghfpaaFlB
import Derived.Test.YtfjdihfflghfpaaWpC
import Derived.Test.YtfjdihfflghfpaaSC
import Derived.Test.YtfjdihfflghfpaaSumIr
namespace Go.Vam
open Go

def kapS (s : Bool) (r : Nat) : Int := if s then -(r : Int) - 1 else (r : Int)
def nanW (x : Nat) : Bool := decide (infR < x % 9223372036854775808)
def kap (x : Nat) : Int := if nanW x = true then 18446744073709551616 else kapS (decide (9223372036854775808 ≤ x)) (x % 9223372036854775808)

theorem sw_lt {s t : Bool} {r p : Nat} (h : sw s r < sw t p) : kapS s r < kapS t p := by
  unfold sw at h
  unfold kapS
  cases s <;> cases t
  · have : sv r < sv p := by simpa using h
    have := sv_lt_inv this
    simp only [Bool.false_eq_true, if_false]; omega
  · simp only [Bool.false_eq_true, if_false, if_true] at h; omega
  · simp only [Bool.false_eq_true, if_false, if_true]; omega
  · have : sv p < sv r := by simp only [if_true] at h; omega
    have := sv_lt_inv this
    simp only [if_true]; omega

theorem sw_eq {s t : Bool} {r p : Nat} (h : sw s r = sw t p) : (s = t ∧ r = p) ∨ (r = 0 ∧ p = 0) := by
  have z : ∀ q, sv q = 0 → q = 0 := fun q hq => by
    rcases Nat.eq_zero_or_pos q with h | h
    · exact h
    · have := sv_pos h; omega
  unfold sw at h
  cases s <;> cases t
  · exact .inl ⟨rfl, sv_inj (by simp only [Bool.false_eq_true, if_false] at h; omega)⟩
  · simp only [Bool.false_eq_true, if_false, if_true] at h
    exact .inr ⟨z _ (by omega), z _ (by omega)⟩
  · simp only [Bool.false_eq_true, if_false, if_true] at h
    exact .inr ⟨z _ (by omega), z _ (by omega)⟩
  · simp only [if_true] at h
    exact .inl ⟨rfl, sv_inj (by omega)⟩

theorem fkey_num {x : Nat} (h : nanW x = false) : fkey x = some (sw (decide (9223372036854775808 ≤ x)) (x % 9223372036854775808)) := by
  unfold fkey
  unfold nanW at h
  have := of_decide_eq_false h
  rw [if_pos (by omega)]
theorem fkey_nan {x : Nat} (h : nanW x = true) : fkey x = none := by
  unfold fkey
  unfold nanW at h
  have := of_decide_eq_true h
  rw [if_neg (by omega)]

theorem eq_self_is {x : Nat} (hx : x < 18446744073709551616) : (ford .f64 x x == some .eq) = !nanW x := by
  cases h : nanW x with
  | true =>
    show (ford .f64 x x == some .eq) = false
    rw [← Bool.not_eq_true, feq_iff hx hx, fkey_nan h]
    simp
  | false => exact (feq_iff hx hx).2 ⟨_, fkey_num h, fkey_num h⟩

theorem flt_iffW {x y : Nat} (hx : x < 18446744073709551616) (hy : y < 18446744073709551616) : (ford .f64 x y == some .lt) = true ↔ ∃ a b, fkey x = some a ∧ fkey y = some b ∧ a < b := by
  rw [ford_key hx hy]
  cases h1 : fkey x with
  | none => simp
  | some a =>
    cases h2 : fkey y with
    | none => simp
    | some b =>
      simp only [Option.bind_some, Option.map_some, cmp_is, beq_iff_eq, Option.some.injEq]
      constructor
      · intro h
        refine ⟨a, b, rfl, rfl, ?_⟩
        split at h
        · omega
        · split at h <;> cases h
      · rintro ⟨_, _, rfl, rfl, h⟩
        rw [if_pos h]

theorem kap_num {x : Nat} (h : nanW x = false) : kap x = kapS (decide (9223372036854775808 ≤ x)) (x % 9223372036854775808) := by
  unfold kap
  rw [h, if_neg (by simp)]
theorem kap_nan {x : Nat} (h : nanW x = true) : kap x = 18446744073709551616 := by
  unfold kap
  rw [h, if_pos rfl]
theorem kap_lt {x : Nat} (h : nanW x = false) : kap x < 9223372036854775808 ∧ -9223372036854775809 < kap x := by
  rw [kap_num h]
  unfold kapS
  have := Nat.mod_lt x (show 0 < 9223372036854775808 by decide)
  split <;> omega

/-- Two numbers: one less, or greater, or both the same, or two noughts. -/
theorem num_three {x y : Nat} (hx : x < 18446744073709551616) (hy : y < 18446744073709551616) (nx : nanW x = false) (ny : nanW y = false) :
    ((ford .f64 x y == some .lt) = true ∧ (ford .f64 x y == some .gt) = false ∧ kap x < kap y) ∨ ((ford .f64 x y == some .lt) = false ∧ (ford .f64 x y == some .gt) = true ∧ kap y < kap x) ∨
      ((ford .f64 x y == some .lt) = false ∧ (ford .f64 x y == some .gt) = false ∧ (x = y ∨ (x = 9223372036854775808 ∧ y = 0) ∨ (x = 0 ∧ y = 9223372036854775808))) := by
  have kx := fkey_num nx
  have ky := fkey_num ny
  have mx := Nat.mod_lt x (show 0 < 9223372036854775808 by decide)
  have my := Nat.mod_lt y (show 0 < 9223372036854775808 by decide)
  have fl : (ford .f64 x y == some .lt) = true ↔ sw (decide (9223372036854775808 ≤ x)) (x % 9223372036854775808) < sw (decide (9223372036854775808 ≤ y)) (y % 9223372036854775808) := by
    rw [flt_iffW hx hy, kx, ky]
    constructor
    · rintro ⟨_, _, h1, h2, h⟩; cases h1; cases h2; exact h
    · intro h; exact ⟨_, _, rfl, rfl, h⟩
  have fg : (ford .f64 x y == some .gt) = true ↔ sw (decide (9223372036854775808 ≤ y)) (y % 9223372036854775808) < sw (decide (9223372036854775808 ≤ x)) (x % 9223372036854775808) := by
    rw [fgt_iff hx hy, kx, ky]
    constructor
    · rintro ⟨_, _, h1, h2, h⟩; cases h1; cases h2; exact h
    · intro h; exact ⟨_, _, rfl, rfl, h⟩
  rw [kap_num nx, kap_num ny]
  rcases Int.lt_trichotomy (sw (decide (9223372036854775808 ≤ x)) (x % 9223372036854775808)) (sw (decide (9223372036854775808 ≤ y)) (y % 9223372036854775808)) with h | h | h
  · exact .inl ⟨fl.2 h, by rw [← Bool.not_eq_true, fg]; omega, sw_lt h⟩
  · refine .inr (.inr ⟨by rw [← Bool.not_eq_true, fl]; omega, by rw [← Bool.not_eq_true, fg]; omega, ?_⟩)
    rcases sw_eq h with ⟨h1, h2⟩ | ⟨h1, h2⟩
    · have := decide_eq_decide.1 h1
      left
      by_cases hs : 9223372036854775808 ≤ x
      · have := this.1 hs; omega
      · have : ¬ 9223372036854775808 ≤ y := fun hh => hs (this.2 hh)
        omega
    · omega
  · exact .inr (.inl ⟨by rw [← Bool.not_eq_true, fl]; omega, fg.2 h, sw_lt h⟩)

theorem kap_inj {x y : Nat} (hx : x < 18446744073709551616) (hy : y < 18446744073709551616) (nx : nanW x = false) (ny : nanW y = false) (h : kap x = kap y) : x = y := by
  rw [kap_num nx, kap_num ny] at h
  unfold kapS at h
  have mx := Nat.mod_lt x (show 0 < 9223372036854775808 by decide)
  have my := Nat.mod_lt y (show 0 < 9223372036854775808 by decide)
  by_cases h1 : 9223372036854775808 ≤ x <;> by_cases h2 : 9223372036854775808 ≤ y
  · rw [decide_eq_true h1, decide_eq_true h2] at h; simp only [if_true] at h; omega
  · rw [decide_eq_true h1, decide_eq_false h2] at h; simp only [if_true, Bool.false_eq_true, if_false] at h; omega
  · rw [decide_eq_false h1, decide_eq_true h2] at h; simp only [if_true, Bool.false_eq_true, if_false] at h; omega
  · rw [decide_eq_false h1, decide_eq_false h2] at h; simp only [Bool.false_eq_true, if_false] at h; omega

theorem kap_zero : kap 0 = 0 := by decide
theorem kap_low : kap 9223372036854775808 = -1 := by decide

theorem bits_is {x : Nat} (hx : x < 18446744073709551616) : extV 0 [.float .f64 x] = some (.int .u64 (x : Nat)) := by
  show (if fknown .f64 x then some (Value.int .u64 (x : Nat)) else none) = _
  have h : 18446744073709551616 ≤ nanF .f64 := by decide
  have hk : fknown .f64 x = true := by
    unfold fknown
    rw [bne_iff_ne]; omega
  rw [hk]; rfl

end Go.Vam

/- Floats in order: the program's functions, walked; which one stands at a place. -/
namespace Go.Proofs.Ytfjdihfflghfpaa
open Go Go.Vam Go.Sort

def ltK (x y : UInt64) : Bool := decide (kap x.toNat < kap y.toNat)
theorem ltK_swo : SWO ltK where
  irrefl := fun x => by unfold ltK; exact decide_eq_false (by omega)
  trans := fun x y z h1 h2 => by
    unfold ltK at *
    have := of_decide_eq_true h1
    have := of_decide_eq_true h2
    exact decide_eq_true (by omega)
  ntrans := fun x y z h1 h2 => by
    unfold ltK at *
    have := of_decide_eq_false h1
    have := of_decide_eq_false h2
    exact decide_eq_false (by omega)

/-- The numbers of floats, sorted. -/
def srt (d : Array UInt64) : List Int := (d.toList.map fun x => kap x.toNat).mergeSort (fun x y => !ltInt y x)

theorem get_map {d : Array UInt64} {i : Nat} (hi : i < d.size) : (d.map fun x => kap x.toNat)[i]! = kap (d[i]!).toNat := by
  simp [hi]

/-- What a sort of these floats leaves is told by their numbers. -/
theorem srt_is {d d' : Array UInt64} {n : Nat} (hn : d.size = n) (h1 : PermIn 0 n d d') (h2 : SortedIn ltK 0 n d') : (d'.toList.map fun x => kap x.toNat) = srt d := by
  subst hn
  have e0 : ∀ a : Array UInt64, (a.extract 0 a.size).toList = a.toList := fun a => by simp
  have hsz := h1.1
  have hp : d'.toList.Perm d.toList := by
    have := h1.2.2
    rw [e0 d] at this
    have e1 : (d'.extract 0 d.size).toList = d'.toList := by rw [← hsz]; exact e0 d'
    rwa [e1] at this
  have key := sorted_unique_holds (lt := ltInt) swo_ltInt (fun x y h1 h2 => by
    unfold ltInt at h1 h2
    have := of_decide_eq_false h1
    have := of_decide_eq_false h2
    omega) (d.map fun x => kap x.toNat) (d'.map fun x => kap x.toNat) ⟨by simp [hsz], fun i hi => by
      have : (d.map fun x => kap x.toNat).size ≤ i := by omega
      have h3 : d.size ≤ i := by simpa using this
      have h4 : d'.size ≤ i := by omega
      simp [h3, h4], by
      have f0 : ∀ a : Array Int, (a.extract 0 a.size).toList = a.toList := fun a => by simp
      have f1 : ((d'.map fun x => kap x.toNat).extract 0 (d.map fun x => kap x.toNat).size).toList = (d'.map fun x => kap x.toNat).toList := by
        have : (d.map fun x => kap x.toNat).size = (d'.map fun x => kap x.toNat).size := by simp [hsz]
        rw [this]; exact f0 _
      rw [f0, f1, Array.toList_map, Array.toList_map]
      exact hp.map _⟩ (fun i j _ hij hj => by
      have hj' : j < d.size := by simpa using hj
      have := h2 i j (Nat.zero_le _) hij hj'
      rw [get_map (by omega), get_map (by omega)]
      exact this)
  rw [Array.toList_map, Array.toList_map] at key
  exact key

theorem srt_len (d : Array UInt64) : (srt d).length = d.size := by
  unfold srt
  rw [List.length_mergeSort]; simp


theorem run64 {X : Ctx} (hX : X.fns = fnsOf Try.prog) (ho : ∀ f args, f ≠ 10 ∧ f ≠ 24 → X.orc f args = none) {s : Mm} {x : Nat} (hx : x < 18446744073709551616) : CallP X 64 [.float .f64 x] s (fun r s' => r = .bool (nanW x) ∧ s = s') := by
  have h := eq_self_is hx
  refine CallP_of (hX ▸ ir64_eq) (ho _ _ (by decide)) (Nat.le_of_ble_eq_true rfl) ?_
  refine W_seq (W_ops [0] ?_)
  simp only [o64_0, WO_move, WO_nil, geT_put, frame_nil, frame_cons, evO_const, keep_nil, keep_cons, keepK_eq, Nat.reduceEqDiff, ↓reduceIte, eq_self, Nat.zero_add]
  intro fr e0
  refine SeqK_n ?_
  refine W_seq (W_ops [2] ?_)
  simp only [o64_1, WO_bin, WO_move, binf_neq, WO_nil, PureK_some, geT_put, evO_tmp, keep_nil, keep_cons, keepK_eq, Nat.reduceEqDiff, ↓reduceIte, Bool.not_not, eq_self, e0, binf_neq, h]
  clear e0
  intro fr e2
  refine SeqK_n ?_
  exact W_ret (Ret1 e2 ⟨rfl, rfl⟩)

theorem run65 {X : Ctx} (hX : X.fns = fnsOf Try.prog) (ho : ∀ f args, f ≠ 10 ∧ f ≠ 24 → X.orc f args = none) {s : Mm} {b : Bool} : CallP X 65 [.bool b] s (fun r s' => r = .int .i64 (if b = true then 1 else 0) ∧ s = s') := by
  refine CallP_of (hX ▸ ir65_eq) (ho _ _ (by decide)) (Nat.le_of_ble_eq_true rfl) ?_
  refine W_seq (W_ops [0] ?_)
  simp only [o65_0, WO_move, WO_nil, geT_put, frame_nil, frame_cons, evO_const, keep_nil, keep_cons, keepK_eq, Nat.reduceEqDiff, ↓reduceIte, eq_self, Nat.zero_add]
  intro fr e0
  refine SeqK_n ?_
  refine W_assoc ?_
  refine W_seq (W_ops [3] ?_)
  simp only [o65_1, WO_move, WO_nil, geT_put, evO_tmp, keep_nil, keep_cons, keepK_eq, ↓reduceIte, eq_self, e0]
  clear e0
  intro fr e3
  refine SeqK_n ?_
  cases b with
  | true =>
    refine W_seq (W_cond e3 (fun _ => ?_) (fun h => by cases h))
    refine W_seq (W_ops [2] ?_)
    simp only [o65_2, WO_move, WO_nil, geT_put, evO_const, keep_nil, keep_cons, keepK_eq, ↓reduceIte, eq_self]
    clear e3
    intro fr e2
    refine SeqK_n ?_
    exact W_ret (SeqK_r (Ret1 e2 ⟨rfl, rfl⟩))
  | false =>
    refine W_seq (W_cond e3 (fun h => by cases h) (fun _ => W_skip (SeqK_n ?_)))
    refine W_seq (W_ops [2] ?_)
    simp only [o65_3, WO_move, WO_nil, geT_put, evO_const, keep_nil, keep_cons, keepK_eq, ↓reduceIte, eq_self, Bool.false_eq_true]
    clear e3
    intro fr e2
    refine SeqK_n ?_
    exact W_ret (Ret1 e2 ⟨rfl, rfl⟩)

theorem run51 {X : Ctx} (hX : X.fns = fnsOf Try.prog) (ho : ∀ f args, f ≠ 10 ∧ f ≠ 24 → X.orc f args = none) {s : Mm} {x : Nat} (hx : x < 18446744073709551616) : CallP X 51 [.float .f64 x] s (fun r s' => r = .bool (decide (9223372036854775808 ≤ x)) ∧ s = s') := by
  have hb := bits_is hx
  have hw : (wrapK .i64 ((x : Nat) : Int) < 0) ↔ 9223372036854775808 ≤ x := by
    rw [wrapK_eq]; simp [IntKind.wrap, IntKind.bits, IntKind.signed]; omega
  refine CallP_of (hX ▸ ir51_eq) (ho _ _ (by decide)) (Nat.le_of_ble_eq_true rfl) ?_
  refine W_seq (W_ops [0] ?_)
  simp only [o51_0, WO_move, WO_nil, geT_put, frame_nil, frame_cons, evO_const, keep_nil, keep_cons, keepK_eq, Nat.reduceEqDiff, ↓reduceIte, eq_self, Nat.zero_add]
  intro fr e0
  refine SeqK_n ?_
  refine W_seq (W_ops [2] ?_)
  simp only [o51_1, WO_bin, WO_conv, conv_int, WO_ext, WO_move, bin_lss, WO_nil, PureK_some, geT_put, evO_tmp, evO_const, keep_nil, keep_cons, keepK_eq, List.map_cons, List.map_nil, ↓reduceIte, eq_self, e0, WO_ext, hb]
  clear e0
  intro fr e2
  refine SeqK_n ?_
  exact W_ret (Ret1 e2 ⟨congrArg Value.bool (decide_eq_decide.2 hw), rfl⟩)

theorem run43 {X : Ctx} (hX : X.fns = fnsOf Try.prog) (ho : ∀ f args, f ≠ 10 ∧ f ≠ 24 → X.orc f args = none) {s : Mm} {x y : Nat} (hx : x < 18446744073709551616) (hy : y < 18446744073709551616) : CallP X 43 [.float .f64 x, .float .f64 y] s (fun r s' => ∃ z, r = .int .i64 z ∧ decide (z < 0) = decide (kap x < kap y) ∧ s = s') := by
  refine CallP_of (hX ▸ ir43_eq) (ho _ _ (by decide)) (Nat.le_of_ble_eq_true rfl) ?_
  refine W_seq (W_ops [0, 1] ?_)
  simp only [o43_0, WO_move, WO_nil, geT_put, frame_nil, frame_cons, evO_const, keep_nil, keep_cons, keepK_eq, Nat.reduceEqDiff, Nat.reduceAdd, ↓reduceIte, eq_self, Nat.zero_add]
  intro fr e0 e1
  refine SeqK_n ?_
  refine W_seq (W_cutR (fun fr1 s6 => s = s6 ∧ nanW x = false ∧ nanW y = false ∧ (ford .f64 x y == some .lt) = false ∧ (ford .f64 x y == some .gt) = false ∧ geT fr1 0 = .float .f64 x ∧ geT fr1 1 = .float .f64 y) ?_ ?_)
  · intro R' hR' hRr
    refine W_block ?_
    refine W_seq (W_opsB [0, 1, 5] (fun fr1 s6 => s = s6 ∧ geT fr1 0 = .float .f64 x ∧ geT fr1 1 = .float .f64 y ∧ geT fr1 5 = .bool (nanW x || nanW y)) ?_ ?_)
    · intro R'' hR''
      simp only [o43_1, WO_move, WO_call, geT_put, evO_tmp, List.map_cons, List.map_nil, ↓reduceIte, eq_self, e0]
      refine CallK_of (run64 hX ho hx) ?_
      rintro _ _ ⟨rfl, rfl⟩
      cases hn : nanW x with
      | true =>
        simp only [WO_move, WO_pick, pick_b, WO_nil, PureK_some, WO_guard, want_v, wantB_f, geT_put, evO_tmp, evO_const, keep_nil, keep_cons, keepK_eq, Nat.reduceEqDiff, ↓reduceIte, Bool.not_true, eq_self, Bool.false_eq_true, e0, e1]
        intro fr e0 e1 e5
        exact hR'' _ _ ⟨rfl, e0, e1, by rw [e5, hn]; rfl⟩
      | false =>
        simp only [WO_call, WO_move, WO_guard, want_v, wantB_f, geT_put, evO_tmp, List.map_cons, List.map_nil, Nat.reduceEqDiff, ↓reduceIte, Bool.not_false, eq_self, e1]
        refine CallK_of (run64 hX ho hy) ?_
        rintro _ _ ⟨rfl, rfl⟩
        simp only [WO_move, WO_pick, pick_b, WO_nil, PureK_some, geT_put, evO_tmp, evO_const, keep_nil, keep_cons, keepK_eq, Nat.reduceEqDiff, ↓reduceIte, eq_self, Bool.false_eq_true, e0, e1]
        intro fr e0 e1 e5
        exact hR'' _ _ ⟨rfl, e0, e1, by rw [e5, hn]; rfl⟩
    clear e0 e1 fr
    rintro fr _ ⟨rfl, e0, e1, e5⟩
    refine SeqK_n ?_
    cases hnn : (nanW x || nanW y) with
    | true =>
      rw [hnn] at e5
      refine W_cond e5 (fun _ => ?_) (fun h => by cases h)
      refine W_seq (W_ops [4] ?_)
      simp only [o43_2, WO_call, WO_move, geT_put, evO_tmp, List.map_cons, List.map_nil, ↓reduceIte, eq_self, e0]
      refine CallK_of (run64 hX ho hx) ?_
      rintro _ _ ⟨rfl, rfl⟩
      simp only [WO_call, geT_put, evO_tmp, List.map_cons, List.map_nil, ↓reduceIte, eq_self]
      refine CallK_of (run65 hX ho) ?_
      rintro _ _ ⟨rfl, rfl⟩
      simp only [WO_call, WO_move, geT_put, evO_tmp, List.map_cons, List.map_nil, Nat.reduceEqDiff, ↓reduceIte, eq_self, e1]
      refine CallK_of (run64 hX ho hy) ?_
      rintro _ _ ⟨rfl, rfl⟩
      simp only [WO_call, geT_put, evO_tmp, List.map_cons, List.map_nil, ↓reduceIte, eq_self]
      refine CallK_of (run65 hX ho) ?_
      rintro _ _ ⟨rfl, rfl⟩
      simp only [WO_bin, WO_move, bin_sub, WO_nil, PureK_some, geT_put, evO_tmp, keep_nil, keep_cons, keepK_eq, Nat.reduceEqDiff, ↓reduceIte, eq_self, wrap_i64 (n := (if nanW x = true then (1 : Int) else 0) - (if nanW y = true then (1 : Int) else 0)) (by split <;> split <;> omega) (by split <;> split <;> omega)]
      clear e0 e1 e5
      intro fr e4
      refine SeqK_n ?_
      refine W_ret (hRr _ _ (SeqK_r (Ret1 e4 ⟨_, rfl, decide_eq_decide.2 ?_, rfl⟩)))
      cases hnx : nanW x <;> cases hny : nanW y
      · rw [hnx, hny] at hnn; cases hnn
      · have := kap_lt hnx; rw [kap_nan hny]; simp; omega
      · have := kap_lt hny; rw [kap_nan hnx]; simp; omega
      · rw [kap_nan hnx, kap_nan hny]; simp
    | false =>
      rw [hnn] at e5
      rw [Bool.or_eq_false_iff] at hnn
      refine W_cond e5 (fun h => by cases h) (fun _ => ?_)
      refine W_seq (W_ops [0, 1, 19] ?_)
      simp only [o43_3, WO_bin, WO_move, binf_lss, WO_nil, PureK_some, geT_put, evO_tmp, keep_nil, keep_cons, keepK_eq, Nat.reduceEqDiff, ↓reduceIte, eq_self, e0, e1]
      clear e0 e1 e5
      intro fr e0 e1 e19
      refine SeqK_n ?_
      rcases num_three hx hy hnn.1 hnn.2 with ⟨h1, h2, h3⟩ | ⟨h1, h2, h3⟩ | ⟨h1, h2, h3⟩
      · rw [h1] at e19
        refine W_cond e19 (fun _ => ?_) (fun h => by cases h)
        refine W_seq (W_ops [4] ?_)
        simp only [o43_4, WO_move, WO_nil, geT_put, evO_const, keep_nil, keep_cons, keepK_eq, ↓reduceIte, eq_self]
        clear e0 e1 e19
        intro fr e4
        refine SeqK_n ?_
        exact W_ret (hRr _ _ (SeqK_r (Ret1 e4 ⟨_, rfl, by rw [decide_eq_true h3]; rfl, rfl⟩)))
      · rw [h1] at e19
        refine W_cond e19 (fun h => by cases h) (fun _ => ?_)
        refine W_seq (W_ops [0, 1, 23] ?_)
        simp only [o43_5, WO_bin, WO_move, binf_gtr, WO_nil, PureK_some, geT_put, evO_tmp, keep_nil, keep_cons, keepK_eq, Nat.reduceEqDiff, ↓reduceIte, eq_self, e0, e1]
        clear e0 e1 e19
        intro fr e0 e1 e23
        refine SeqK_n ?_
        rw [h2] at e23
        refine W_cond e23 (fun _ => ?_) (fun h => by cases h)
        refine W_seq (W_ops [4] ?_)
        simp only [o43_6, WO_move, WO_nil, geT_put, evO_const, keep_nil, keep_cons, keepK_eq, ↓reduceIte, eq_self]
        clear e0 e1 e23
        intro fr e4
        refine SeqK_n ?_
        exact W_ret (hRr _ _ (SeqK_r (Ret1 e4 ⟨_, rfl, by rw [decide_eq_false (show ¬ kap x < kap y by omega)]; rfl, rfl⟩)))
      · rw [h1] at e19
        refine W_cond e19 (fun h => by cases h) (fun _ => ?_)
        refine W_seq (W_ops [0, 1, 23] ?_)
        simp only [o43_5, WO_bin, WO_move, binf_gtr, WO_nil, PureK_some, geT_put, evO_tmp, keep_nil, keep_cons, keepK_eq, Nat.reduceEqDiff, ↓reduceIte, eq_self, e0, e1]
        clear e0 e1 e19
        intro fr e0 e1 e23
        refine SeqK_n ?_
        rw [h2] at e23
        refine W_cond e23 (fun h => by cases h) (fun _ => W_skip ?_)
        exact hR' _ _ ⟨rfl, hnn.1, hnn.2, h1, h2, e0, e1⟩
  clear e0 e1 fr
  rintro fr _ ⟨rfl, nx, ny, h1, h2, e0, e1⟩
  refine SeqK_n ?_
  refine W_seq (W_ops [4] ?_)
  simp only [o43_7, WO_call, WO_move, geT_put, evO_tmp, List.map_cons, List.map_nil, ↓reduceIte, eq_self, e1]
  refine CallK_of (run51 hX ho hy) ?_
  rintro _ _ ⟨rfl, rfl⟩
  simp only [WO_call, geT_put, evO_tmp, List.map_cons, List.map_nil, ↓reduceIte, eq_self]
  refine CallK_of (run65 hX ho) ?_
  rintro _ _ ⟨rfl, rfl⟩
  simp only [WO_call, WO_move, geT_put, evO_tmp, List.map_cons, List.map_nil, Nat.reduceEqDiff, ↓reduceIte, eq_self, decide_eq_true_eq, e0]
  refine CallK_of (run51 hX ho hx) ?_
  rintro _ _ ⟨rfl, rfl⟩
  simp only [WO_call, geT_put, evO_tmp, List.map_cons, List.map_nil, ↓reduceIte, eq_self]
  refine CallK_of (run65 hX ho) ?_
  rintro _ _ ⟨rfl, rfl⟩
  simp only [WO_bin, WO_move, bin_sub, WO_nil, PureK_some, geT_put, evO_tmp, keep_nil, keep_cons, keepK_eq, Nat.reduceEqDiff, ↓reduceIte, eq_self, decide_eq_true_eq]
  clear e0 e1
  intro fr e4
  refine SeqK_n ?_
  refine W_ret (Ret1 e4 ⟨_, rfl, ?_, rfl⟩)
  rcases num_three hx hy nx ny with ⟨h3, _⟩ | ⟨_, h3, _⟩ | ⟨_, _, h3⟩
  · rw [h1] at h3; cases h3
  · rw [h2] at h3; cases h3
  · rcases h3 with rfl | ⟨rfl, rfl⟩ | ⟨rfl, rfl⟩
    · rw [decide_eq_false (Int.lt_irrefl (kap x))]
      by_cases hs : 9223372036854775808 ≤ x
      · rw [if_pos hs]; decide
      · rw [if_neg hs]; decide
    · decide
    · decide

end Go.Proofs.Ytfjdihfflghfpaa

/- Sums: which float stands at a place, walked; the document's order of floats. -/
namespace Go.Proofs.Ytfjdihfflghfpaa
open Go Go.Vam Go.Sort

theorem sl_not_nil {s : Mm} {v : Value} {n : Nat} {cs : List Value} (a : SlC s 1 v n cs) (h : 0 < n) : eqBV false .slice v (.slice none 0 0) = some (.bool false) := by
  cases a with
  | nil => omega
  | mk => rfl
theorem evO_func {fr : Fr} {f : FuncId} : evO fr (.func f) = cmpV f := rfl


theorem run41 {X : Ctx} (hX : X.fns = fnsOf Try.prog) (ho : ∀ f args, f ≠ 10 ∧ f ≠ 24 → X.orc f args = none) {s0 s : Mm} {l : List HP} {v : Value} {d : Array UInt64} (H : Hold s0 s l) (a : SlC s 1 v d.size (flA d)) (h0 : 0 < d.size) (hn : d.size ≤ 17592186044415) :
    CallP X 41 [v] s (fun r s' => Hold s0 s' (HP.own 1 r d.size (flA d) :: l)) := by
  have hne := sl_not_nil a h0
  have hb0 : buildSlV s 1 [.float .f64 0] 0 [] = some (.slice (some ⟨s.nxt, 0, none⟩) 0 0, .cells [] false) := rfl
  have H1 := (H.new []).cellOwn (sz := 1) (n := 0) rfl (by decide)
  have r1 := a.same (Same.new (s := s) (b := .cells [] false)) (fun _ _ h => h)
  obtain ⟨v1, s2, ap1, H2⟩ := H1.append (bytes := 8) r1.src (by rw [flA_len, Nat.mul_one]) (flA_one d) (by omega) (by decide) (by omega) (by omega) (by omega)
  simp only [Nat.zero_add, List.nil_append] at H2
  refine CallP_of (hX ▸ ir41_eq) (ho _ _ (by decide)) (Nat.le_of_ble_eq_true rfl) ?_
  refine W_seq (W_ops [0] ?_)
  simp only [o41_0, WO_move, WO_nil, geT_put, frame_nil, frame_cons, evO_const, keep_nil, keep_cons, keepK_eq, Nat.reduceEqDiff, ↓reduceIte, eq_self, Nat.zero_add]
  intro fr e0
  refine SeqK_n ?_
  refine W_assoc ?_
  refine W_seq (W_ops [0, 4] ?_)
  simp only [o41_1, WO_eq, WO_move, WO_nil, PureK_some, geT_put, evO_tmp, evO_const, keep_nil, keep_cons, keepK_eq, Nat.reduceEqDiff, ↓reduceIte, eq_self, e0, hne]
  clear e0
  intro fr e0 e4
  refine SeqK_n ?_
  refine W_seq (W_cond e4 (fun h => by cases h) (fun _ => W_skip (SeqK_n ?_)))
  refine W_seq (W_ops [2] ?_)
  simp only [o41_3, WO_append, WO_buildSlice, WO_move, WO_nil, MemK_some, NewK_some, geT_put, evO_tmp, keep_nil, keep_cons, keepK_eq, List.map_nil, Nat.reduceEqDiff, ↓reduceIte, eq_self, Nat.mul_one, e0, hb0, ap1]
  clear e0 e4
  intro fr e2
  refine SeqK_n ?_
  exact W_ret (Ret1 e2 H2)

theorem cmp_hc {X : Ctx} (hX : X.fns = fnsOf Try.prog) (ho : ∀ f args, f ≠ 10 ∧ f ≠ 24 → X.orc f args = none) : ∀ (s : Mm) (x y : UInt64), CallP X 43 [.float .f64 x.toNat, .float .f64 y.toNat] s (fun r s' => ∃ z, r = .int .i64 z ∧ decide (z < 0) = ltK x y ∧ s = s') :=
  fun _ x y => run43 hX ho (UInt64.toNat_lt x) (UInt64.toNat_lt y)

theorem run20 {X : Ctx} (hX : X.fns = fnsOf Try.prog) (ho : ∀ f args, f ≠ 10 ∧ f ≠ 24 → X.orc f args = none) {s0 s : Mm} {l : List HP} {v : Value} {d : Array UInt64} {i : Nat} (H : Hold s0 s l) (a : SlC s 1 v d.size (flA d)) (hi : i < d.size) (hn : d.size ≤ 17592186044415) :
    CallP X 20 [v, .int .i64 (i : Nat)] s (fun r s' => ∃ x : UInt64, r = .tuple #[.float .f64 x.toNat, .int .i64 0] ∧ (srt d)[i]? = some (kap x.toNat) ∧ Hold s0 s' l) := by
  refine CallP_of (hX ▸ ir20_eq) (ho _ _ (by decide)) (Nat.le_of_ble_eq_true rfl) ?_
  refine W_seq (W_ops [0, 1] ?_)
  simp only [o20_0, WO_move, WO_nil, geT_put, frame_nil, frame_cons, evO_const, keep_nil, keep_cons, keepK_eq, Nat.reduceEqDiff, Nat.reduceAdd, ↓reduceIte, eq_self, Nat.zero_add]
  intro fr e0 e1
  refine SeqK_n ?_
  refine W_assoc ?_
  refine W_seq (W_ops [0, 1, 14] ?_)
  simp only [o20_1, WO_bin, WO_bu, WO_move, WO_pick, pick_b, bin_geq, bin_lss, WO_nil, PureK_some, WO_guard, want_v, wantB_f, geT_put, evO_tmp, evO_const, keep_nil, keep_cons, keepK_eq, List.map_cons, List.map_nil, Nat.reduceEqDiff, ↓reduceIte, Bool.not_false, eq_self, Bool.false_eq_true, e0, e1, a.len, decide_eq_false (show ¬ ((i : Nat) : Int) < 0 by omega), decide_eq_false (show ¬ ((d.size : Nat) : Int) ≤ ((i : Nat) : Int) by omega)]
  clear e0 e1
  intro fr e0 e1 e14
  refine SeqK_n ?_
  refine W_seq (W_cond e14 (fun h => by cases h) (fun _ => W_skip (SeqK_n ?_)))
  refine W_seq (W_ops [1, 6] ?_)
  simp only [o20_3, WO_call, WO_move, geT_put, evO_tmp, List.map_cons, List.map_nil, ↓reduceIte, eq_self, e0]
  refine CallK_of (run41 hX ho H a (by omega) hn) ?_
  rintro c s2 H2
  simp only [WO_move, WO_nil, geT_put, evO_tmp, keep_nil, keep_cons, keepK_eq, Nat.reduceEqDiff, ↓reduceIte, eq_self, e1]
  clear e0 e1 e14
  intro fr e1 e6
  refine SeqK_n ?_
  refine W_seq (W_ops [1, 6] ?_)
  simp only [o20_4, WO_call, WO_move, geT_put, evO_tmp, List.map_cons, List.map_nil, ↓reduceIte, eq_self, e6, evO_func]
  refine CallK_of (run42 hX ho (cmp_hc hX ho) ltK_swo H2 (by omega)) ?_
  rintro _ s3 ⟨d', h1, h2, H3⟩
  simp only [WO_nil, geT_put, keep_nil, keep_cons, keepK_eq, Nat.reduceEqDiff, ↓reduceIte, e1, e6]
  clear e1 e6
  intro fr e1 e6
  refine SeqK_n ?_
  have hk := srt_is rfl h1 h2
  obtain ⟨A1, L1⟩ := own_ld H3 h1.1 hi
  refine W_seq (W_ops [4, 5] ?_)
  simp only [o20_5, WO_addrSl, WO_load, WO_move, WO_nil, PureK_some, geT_put, evO_tmp, evO_const, keep_nil, keep_cons, keepK_eq, Nat.reduceEqDiff, ↓reduceIte, eq_self, e1, e6, A1, L1]
  clear e1 e6
  intro fr e4 e5
  refine SeqK_n ?_
  refine W_ret (Ret2 e4 e5 ⟨d'[i]!, rfl, ?_, H3.tail⟩)
  rw [← hk, List.getElem?_map, Array.getElem?_toList, Array.getElem?_eq_getElem (by rw [h1.1]; exact hi), Array.getElem!_eq_getD, Array.getD, dif_pos (by rw [h1.1]; exact hi)]
  rfl

theorem run14 {X : Ctx} (hX : X.fns = fnsOf Try.prog) (ho : ∀ f args, f ≠ 10 ∧ f ≠ 24 → X.orc f args = none) {s : Mm} {x y : Nat} (hx : x < 18446744073709551616) (hy : y < 18446744073709551616) : CallP X 14 [.float .f64 x, .float .f64 y] s (fun r s' => r = .bool (decide (kap x = kap y)) ∧ s = s') := by
  have h1 := eq_self_is hx
  have h2 := eq_self_is hy
  have b1 := bits_is hx
  have b2 := bits_is hy
  refine CallP_of (hX ▸ ir14_eq) (ho _ _ (by decide)) (Nat.le_of_ble_eq_true rfl) ?_
  refine W_seq (W_ops [0, 1] ?_)
  simp only [o14_0, WO_move, WO_nil, geT_put, frame_nil, frame_cons, evO_const, keep_nil, keep_cons, keepK_eq, Nat.reduceEqDiff, Nat.reduceAdd, ↓reduceIte, eq_self, Nat.zero_add]
  intro fr e0 e1
  refine SeqK_n ?_
  refine W_assoc ?_
  cases nx : nanW x with
  | true =>
    rw [nx] at h1
    refine W_seq (W_ops [0, 1, 12] ?_)
    simp only [o14_1, WO_bin, WO_move, WO_pick, pick_b, binf_neq, WO_nil, PureK_some, WO_guard, want_v, wantB_f, geT_put, evO_tmp, evO_const, keep_nil, keep_cons, keepK_eq, Nat.reduceEqDiff, ↓reduceIte, Bool.not_true, Bool.not_false, eq_self, Bool.false_eq_true, e0, e1, binf_neq, h1]
    clear e0 e1
    intro fr e0 e1 e12
    refine SeqK_n ?_
    refine W_seq (W_cond e12 (fun _ => ?_) (fun h => by cases h))
    refine W_seq (W_ops [4] ?_)
    simp only [o14_2, WO_bin, WO_move, WO_pick, pick_b, binf_neq, WO_nil, PureK_some, WO_guard, want_v, wantB_t, geT_put, evO_tmp, evO_const, keep_nil, keep_cons, keepK_eq, Nat.reduceEqDiff, ↓reduceIte, Bool.not_true, Bool.not_false, Bool.not_not, eq_self, e0, e1, binf_neq, h1, h2]
    clear e0 e1 e12
    intro fr e4
    refine SeqK_n ?_
    refine W_ret (SeqK_r (Ret1 e4 ⟨congrArg Value.bool ?_, rfl⟩))
    cases ny : nanW y with
    | true => rw [kap_nan nx, kap_nan ny]; rfl
    | false => have := kap_lt ny; rw [kap_nan nx]; exact (decide_eq_false (by omega)).symm
  | false =>
    rw [nx] at h1
    cases ny : nanW y with
    | true =>
      rw [ny] at h2
      refine W_seq (W_ops [0, 1, 12] ?_)
      simp only [o14_1, WO_bin, WO_move, WO_pick, pick_b, binf_neq, WO_nil, PureK_some, WO_guard, want_v, wantB_f, geT_put, evO_tmp, evO_const, keep_nil, keep_cons, keepK_eq, Nat.reduceEqDiff, ↓reduceIte, Bool.not_true, Bool.not_false, eq_self, Bool.false_eq_true, e0, e1, binf_neq, h1, h2]
      clear e0 e1
      intro fr e0 e1 e12
      refine SeqK_n ?_
      refine W_seq (W_cond e12 (fun _ => ?_) (fun h => by cases h))
      refine W_seq (W_ops [4] ?_)
      simp only [o14_2, WO_bin, WO_move, WO_pick, pick_b, binf_neq, WO_nil, PureK_some, WO_guard, want_v, wantB_t, geT_put, evO_tmp, evO_const, keep_nil, keep_cons, keepK_eq, Nat.reduceEqDiff, ↓reduceIte, Bool.not_true, Bool.not_false, eq_self, Bool.false_eq_true, e0, binf_neq, h1]
      clear e0 e1 e12
      intro fr e4
      refine SeqK_n ?_
      refine W_ret (SeqK_r (Ret1 e4 ⟨congrArg Value.bool ?_, rfl⟩))
      have := kap_lt nx; rw [kap_nan ny]; exact (decide_eq_false (by omega)).symm
    | false =>
      rw [ny] at h2
      refine W_seq (W_ops [0, 1, 12] ?_)
      simp only [o14_1, WO_bin, WO_move, WO_pick, pick_b, binf_neq, WO_nil, PureK_some, WO_guard, want_v, wantB_f, geT_put, evO_tmp, evO_const, keep_nil, keep_cons, keepK_eq, Nat.reduceEqDiff, ↓reduceIte, Bool.not_true, Bool.not_false, eq_self, Bool.false_eq_true, e0, e1, binf_neq, h1, h2]
      clear e0 e1
      intro fr e0 e1 e12
      refine SeqK_n ?_
      refine W_seq (W_cond e12 (fun h => by cases h) (fun _ => W_skip (SeqK_n ?_)))
      refine W_seq (W_ops [4] ?_)
      simp only [o14_3, WO_bin, WO_ext, WO_move, bin_eql, WO_nil, PureK_some, geT_put, evO_tmp, keep_nil, keep_cons, keepK_eq, List.map_cons, List.map_nil, Nat.reduceEqDiff, ↓reduceIte, eq_self, e0, e1, WO_ext, b1, b2]
      clear e0 e1 e12
      intro fr e4
      refine SeqK_n ?_
      refine W_ret (Ret1 e4 ⟨congrArg Value.bool (decide_eq_decide.2 ?_), rfl⟩)
      constructor
      · intro h
        have : x = y := by omega
        rw [this]
      · intro h; rw [kap_inj hx hy nx ny h]

theorem run25 {X : Ctx} (hX : X.fns = fnsOf Try.prog) (ho : ∀ f args, f ≠ 10 ∧ f ≠ 24 → X.orc f args = none) {s : Mm} {x y : Nat} (hx : x < 18446744073709551616) (hy : y < 18446744073709551616) : CallP X 25 [.float .f64 x, .float .f64 y] s (fun r s' => r = .int .i64 (if kap x = kap y then 0 else if kap x < kap y then -1 else 1) ∧ s = s') := by
  have h1 := eq_self_is hx
  have h2 := eq_self_is hy
  have hsy : (ford .f64 y x == some .lt) = (ford .f64 x y == some .gt) := by
    rw [Bool.eq_iff_iff, flt_iffW hy hx, fgt_iff hx hy]
    constructor
    · rintro ⟨a, b, g1, g2, g3⟩; exact ⟨b, a, g2, g1, g3⟩
    · rintro ⟨a, b, g1, g2, g3⟩; exact ⟨b, a, g2, g1, g3⟩
  refine CallP_of (hX ▸ ir25_eq) (ho _ _ (by decide)) (Nat.le_of_ble_eq_true rfl) ?_
  refine W_seq (W_ops [0, 1] ?_)
  simp only [o25_0, WO_move, WO_nil, geT_put, frame_nil, frame_cons, evO_const, keep_nil, keep_cons, keepK_eq, Nat.reduceEqDiff, Nat.reduceAdd, ↓reduceIte, eq_self, Nat.zero_add]
  intro fr e0 e1
  refine SeqK_n ?_
  refine W_seq (W_ops [0, 1, 5] ?_)
  simp only [o25_1, WO_call, WO_move, geT_put, evO_tmp, List.map_cons, List.map_nil, Nat.reduceEqDiff, ↓reduceIte, eq_self, e0, e1]
  refine CallK_of (run14 hX ho hx hy) ?_
  rintro _ _ ⟨rfl, rfl⟩
  simp only [WO_move, WO_nil, geT_put, evO_tmp, keep_nil, keep_cons, keepK_eq, Nat.reduceEqDiff, ↓reduceIte, eq_self, e0, e1]
  clear e0 e1
  intro fr e0 e1 e5
  refine SeqK_n ?_
  refine W_seq (W_cutR (fun fr1 s6 => s = s6 ∧ ¬ kap x = kap y ∧ ¬ kap x < kap y ∧ geT fr1 0 = geT fr1 0) ?_ ?_)
  · intro R' hR' hRr
    refine W_block ?_
    refine W_seq (W_ops [0, 1, 9] ?_)
    simp only [o25_2, WO_move, WO_nil, geT_put, evO_tmp, keep_nil, keep_cons, keepK_eq, Nat.reduceEqDiff, ↓reduceIte, eq_self, e0, e1, e5]
    clear e0 e1 e5
    intro fr e0 e1 e9
    refine SeqK_n ?_
    refine W_if e9 (fun hk => ?_) (fun hk => ?_)
    · refine W_seq (W_ops [4] ?_)
      simp only [o25_3, WO_move, WO_nil, geT_put, evO_const, keep_nil, keep_cons, keepK_eq, ↓reduceIte, eq_self]
      clear e0 e1 e9
      intro fr e4
      refine SeqK_n ?_
      exact W_ret (hRr _ _ (SeqK_r (Ret1 e4 ⟨by rw [if_pos hk], rfl⟩)))
    cases nx : nanW x with
    | true =>
      rw [nx] at h1
      refine W_seq (W_ops [0, 1, 11] ?_)
      simp only [o25_4, WO_bin, WO_move, binf_neq, WO_nil, PureK_some, geT_put, evO_tmp, keep_nil, keep_cons, keepK_eq, Nat.reduceEqDiff, ↓reduceIte, Bool.not_true, Bool.not_false, eq_self, e0, e1, binf_neq, h1]
      clear e0 e1 e9
      intro fr e0 e1 e11
      refine SeqK_n ?_
      refine W_cond e11 (fun _ => ?_) (fun h => by cases h)
      refine W_seq (W_ops [4] ?_)
      simp only [o25_5, WO_move, WO_nil, geT_put, evO_const, keep_nil, keep_cons, keepK_eq, ↓reduceIte, eq_self]
      clear e0 e1 e11
      intro fr e4
      refine SeqK_n ?_
      have hle : ¬ kap x < kap y := by
        rw [kap_nan nx]
        cases ny : nanW y with
        | true => rw [kap_nan ny]; omega
        | false => have := kap_lt ny; omega
      exact W_ret (hRr _ _ (SeqK_r (Ret1 e4 ⟨by rw [if_neg hk, if_neg hle], rfl⟩)))
    | false =>
      rw [nx] at h1
      refine W_seq (W_ops [0, 1, 11] ?_)
      simp only [o25_4, WO_bin, WO_move, binf_neq, WO_nil, PureK_some, geT_put, evO_tmp, keep_nil, keep_cons, keepK_eq, Nat.reduceEqDiff, ↓reduceIte, Bool.not_true, Bool.not_false, eq_self, e0, e1, binf_neq, h1]
      clear e0 e1 e9
      intro fr e0 e1 e11
      refine SeqK_n ?_
      refine W_cond e11 (fun h => by cases h) (fun _ => ?_)
      cases ny : nanW y with
      | true =>
        rw [ny] at h2
        refine W_seq (W_ops [0, 1, 15] ?_)
        simp only [o25_6, WO_bin, WO_move, WO_pick, pick_b, binf_neq, WO_nil, PureK_some, WO_guard, want_v, wantB_f, geT_put, evO_tmp, evO_const, keep_nil, keep_cons, keepK_eq, Nat.reduceEqDiff, ↓reduceIte, Bool.not_true, Bool.not_false, eq_self, Bool.false_eq_true, e0, e1, binf_neq, h2]
        clear e0 e1 e11
        intro fr e0 e1 e15
        refine SeqK_n ?_
        refine W_cond e15 (fun _ => ?_) (fun h => by cases h)
        refine W_seq (W_ops [4] ?_)
        simp only [o25_7, WO_move, WO_nil, geT_put, evO_const, keep_nil, keep_cons, keepK_eq, ↓reduceIte, eq_self]
        clear e0 e1 e15
        intro fr e4
        refine SeqK_n ?_
        have hlt : kap x < kap y := by rw [kap_nan ny]; have := kap_lt nx; omega
        exact W_ret (hRr _ _ (SeqK_r (Ret1 e4 ⟨by rw [if_neg hk, if_pos hlt], rfl⟩)))
      | false =>
        rw [ny] at h2
        refine W_seq (W_ops [0, 1, 15] ?_)
        simp only [o25_6, WO_bin, WO_move, WO_pick, pick_b, binf_lss, binf_neq, WO_nil, PureK_some, WO_guard, want_v, wantB_f, geT_put, evO_tmp, evO_const, keep_nil, keep_cons, keepK_eq, Nat.reduceEqDiff, ↓reduceIte, Bool.not_true, Bool.not_false, eq_self, Bool.false_eq_true, e0, e1, binf_neq, h2]
        clear e0 e1 e11
        intro fr e0 e1 e15
        refine SeqK_n ?_
        rcases num_three hx hy nx ny with ⟨g1, g2, g3⟩ | ⟨g1, g2, g3⟩ | ⟨g1, g2, g3⟩
        · rw [g1] at e15
          refine W_cond e15 (fun _ => ?_) (fun h => by cases h)
          refine W_seq (W_ops [4] ?_)
          simp only [o25_7, WO_move, WO_nil, geT_put, evO_const, keep_nil, keep_cons, keepK_eq, ↓reduceIte, eq_self]
          clear e0 e1 e15
          intro fr e4
          refine SeqK_n ?_
          exact W_ret (hRr _ _ (SeqK_r (Ret1 e4 ⟨by rw [if_neg hk, if_pos g3], rfl⟩)))
        · rw [g1] at e15
          refine W_cond e15 (fun h => by cases h) (fun _ => ?_)
          refine W_seq (W_ops [0, 24] ?_)
          simp only [o25_8, WO_bin, WO_move, binf_lss, WO_nil, PureK_some, geT_put, evO_tmp, keep_nil, keep_cons, keepK_eq, Nat.reduceEqDiff, ↓reduceIte, eq_self, e0, e1, hsy, g2]
          clear e0 e1 e15
          intro fr e0 e24
          refine SeqK_n ?_
          refine W_cond e24 (fun _ => ?_) (fun h => by cases h)
          refine W_seq (W_ops [4] ?_)
          simp only [o25_9, WO_move, WO_nil, geT_put, evO_const, keep_nil, keep_cons, keepK_eq, ↓reduceIte, eq_self]
          clear e0 e24
          intro fr e4
          refine SeqK_n ?_
          exact W_ret (hRr _ _ (SeqK_r (Ret1 e4 ⟨by rw [if_neg hk, if_neg (by omega)], rfl⟩)))
        · rw [g1] at e15
          refine W_cond e15 (fun h => by cases h) (fun _ => ?_)
          refine W_seq (W_ops [0, 24] ?_)
          simp only [o25_8, WO_bin, WO_move, binf_lss, WO_nil, PureK_some, geT_put, evO_tmp, keep_nil, keep_cons, keepK_eq, Nat.reduceEqDiff, ↓reduceIte, eq_self, e0, e1, hsy, g2]
          clear e0 e1 e15
          intro fr e0 e24
          refine SeqK_n ?_
          refine W_cond e24 (fun h => by cases h) (fun _ => ?_)
          refine W_seq (W_ops [28] ?_)
          simp only [o25_10, WO_call, WO_move, geT_put, evO_tmp, List.map_cons, List.map_nil, ↓reduceIte, eq_self, e0]
          refine CallK_of (run51 hX ho hx) ?_
          rintro _ _ ⟨rfl, rfl⟩
          simp only [WO_move, WO_nil, geT_put, evO_tmp, keep_nil, keep_cons, keepK_eq, ↓reduceIte, eq_self]
          clear e0 e24
          intro fr e28
          refine SeqK_n ?_
          rcases g3 with g3 | ⟨rfl, rfl⟩ | ⟨rfl, rfl⟩
          · exact absurd (by rw [g3]) hk
          · refine W_if e28 (fun _ => ?_) (fun h => absurd (by decide) h)
            refine W_seq (W_ops [4] ?_)
            simp only [o25_11, WO_move, WO_nil, geT_put, evO_const, keep_nil, keep_cons, keepK_eq, ↓reduceIte, eq_self]
            clear e28
            intro fr e4
            refine SeqK_n ?_
            exact W_ret (hRr _ _ (SeqK_r (Ret1 e4 ⟨by rw [kap_zero, kap_low]; rfl, rfl⟩)))
          · refine W_if e28 (fun h => absurd h (by decide)) (fun _ => W_skip (hR' _ _ ⟨rfl, hk, by rw [kap_zero, kap_low]; omega, rfl⟩))
  clear e0 e1 e5 fr
  rintro fr _ ⟨rfl, hk, hl, _⟩
  refine SeqK_n ?_
  refine W_seq (W_ops [4] ?_)
  simp only [o25_12, WO_move, WO_nil, geT_put, evO_const, keep_nil, keep_cons, keepK_eq, ↓reduceIte, eq_self]
  intro fr e4
  refine SeqK_n ?_
  exact W_ret (Ret1 e4 ⟨by rw [if_neg hk, if_neg hl], rfl⟩)

end Go.Proofs.Ytfjdihfflghfpaa
