/- PeaksCentre: the plain law. -/
import Derived.SizedLaws
import Derived.Test.YtpphomoijlilfaaPC
import Derived.Test.YtpphomoijlilfaaPkCIr
import Derived.Laws.FloatBits
namespace Go.Proofs.Ytpphomoijlilfaa
open Go Go.Vam

/-- A float's word, or the one that stands for an unknown NaN. -/
def FW (x : Nat) : Prop := x < 18446744073709551616 ∨ x = nanF .f64

theorem nan_big : infR < nanF .f64 % 9223372036854775808 := by decide

theorem ford_keyW {x y : Nat} (hx : FW x) (hy : FW y) : ford .f64 x y = (fkey x).bind fun a => (fkey y).map fun b => compare a b := by
  rcases hx with hx | rfl
  · rcases hy with hy | rfl
    · exact ford_key hx hy
    · have : fkey (nanF .f64) = none := by decide
      rw [this]
      obtain ⟨s, f, h⟩ := nanRead nan_big
      have e : ford .f64 x (nanF .f64) = none := by
        show (Ieee.double.read x).order (Ieee.double.read _) = none
        rw [h]
        cases Ieee.double.read x <;> rfl
      rw [e]
      cases fkey x <;> rfl
  · have : fkey (nanF .f64) = none := by decide
    rw [this]
    obtain ⟨s, f, h⟩ := nanRead nan_big
    have e : ford .f64 (nanF .f64) y = none := by
      show (Ieee.double.read (nanF .f64)).order (Ieee.double.read y) = none
      rw [h]; rfl
    rw [e]; rfl

theorem ford_gt {x y : Nat} (hx : FW x) (hy : FW y) : (ford .f64 x y == some .gt) = true ↔ ∃ a b, fkey x = some a ∧ fkey y = some b ∧ b < a := by
  rw [ford_keyW hx hy]
  cases h1 : fkey x with
  | none => simp
  | some a =>
    cases h2 : fkey y with
    | none => simp
    | some b =>
      simp only [Option.bind_some, Option.map_some, cmp_is, beq_iff_eq, Option.some.injEq]
      constructor
      · intro h
        refine ⟨a, b, rfl, rfl, ?_⟩
        split at h
        · cases h
        · split at h
          · cases h
          · omega
      · rintro ⟨_, _, rfl, rfl, h⟩
        rw [if_neg (show ¬ a < b by omega), if_neg (show ¬ a = b by omega)]

theorem ford_eq {x y : Nat} (hx : FW x) (hy : FW y) : (ford .f64 x y == some .eq) = true ↔ ∃ a, fkey x = some a ∧ fkey y = some a := by
  rw [ford_keyW hx hy]
  cases h1 : fkey x with
  | none => simp
  | some a =>
    cases h2 : fkey y with
    | none => simp
    | some b =>
      simp only [Option.bind_some, Option.map_some, cmp_is, beq_iff_eq, Option.some.injEq]
      constructor
      · intro h
        refine ⟨a, rfl, ?_⟩
        split at h
        · cases h
        · split at h
          · omega
          · cases h
      · rintro ⟨_, rfl, h⟩
        rw [if_neg (show ¬ a < b by omega), if_pos (show a = b by omega)]

theorem ford_lt {x y : Nat} (hx : FW x) (hy : FW y) : (ford .f64 x y == some .lt) = true ↔ ∃ a b, fkey x = some a ∧ fkey y = some b ∧ a < b := by
  rw [ford_keyW hx hy]
  cases h1 : fkey x with
  | none => simp
  | some a =>
    cases h2 : fkey y with
    | none => simp
    | some b =>
      simp only [Option.bind_some, Option.map_some, cmp_is, beq_iff_eq, Option.some.injEq]
      constructor
      · intro h
        refine ⟨a, b, rfl, rfl, ?_⟩
        split at h
        · omega
        · split at h <;> cases h
      · rintro ⟨_, _, rfl, rfl, h⟩
        rw [if_pos h]

theorem fle_iff {x y : Nat} (hx : FW x) (hy : FW y) : (ford .f64 x y == some .lt || ford .f64 x y == some .eq) = true ↔ ∃ a b, fkey x = some a ∧ fkey y = some b ∧ a ≤ b := by
  rw [Bool.or_eq_true, ford_lt hx hy, ford_eq hx hy]
  constructor
  · rintro (⟨a, b, h1, h2, h3⟩ | ⟨a, h1, h2⟩)
    · exact ⟨a, b, h1, h2, by omega⟩
    · exact ⟨a, a, h1, h2, by omega⟩
  · rintro ⟨a, b, h1, h2, h3⟩
    by_cases h : a = b
    · exact .inr ⟨a, h1, by rw [h2, h]⟩
    · exact .inl ⟨a, b, h1, h2, by omega⟩

theorem fge_iff {x y : Nat} (hx : FW x) (hy : FW y) : (ford .f64 x y == some .gt || ford .f64 x y == some .eq) = true ↔ ∃ a b, fkey x = some a ∧ fkey y = some b ∧ b ≤ a := by
  rw [Bool.or_eq_true, ford_gt hx hy, ford_eq hx hy]
  constructor
  · rintro (⟨a, b, h1, h2, h3⟩ | ⟨a, h1, h2⟩)
    · exact ⟨a, b, h1, h2, by omega⟩
    · exact ⟨a, a, h1, h2, by omega⟩
  · rintro ⟨a, b, h1, h2, h3⟩
    by_cases h : a = b
    · exact .inr ⟨a, h1, by rw [h2, h]⟩
    · exact .inl ⟨a, b, h1, h2, by omega⟩

theorem FW.w {x : Nat} (h : x < 18446744073709551616) : FW x := .inl h
theorem fres_w {o : Option Nat} (h : ∀ r, o = some r → r < 2 ^ 64) : FW (fres .f64 o) := by
  cases o with
  | none => exact .inr rfl
  | some r => exact .inl (h r rfl)
theorem fadd_w (x y : Nat) : FW (fadd .f64 x y) := fres_w fun r h => Ieee.Format.add_lt _ h
theorem fdiv_w (x y : Nat) : FW (fdiv .f64 x y) := fres_w fun r h => Ieee.Format.div_lt _ h

/-- The size of a float at most a half: told in two ways. -/
theorem half_two {x : Nat} (hx : FW x) :
    (ford .f64 (fabs x) 4602678819172646912 == some .lt || ford .f64 (fabs x) 4602678819172646912 == some .eq) = ((ford .f64 x 13826050856027422720 == some .gt || ford .f64 x 13826050856027422720 == some .eq) && (ford .f64 x 4602678819172646912 == some .lt || ford .f64 x 4602678819172646912 == some .eq)) := by
  rw [Bool.eq_iff_iff, Bool.and_eq_true]
  have hI : infR = 9218868437227405312 := rfl
  have k1 : fkey 4602678819172646912 = some (sv 4602678819172646912 : Int) := by
    unfold fkey
    rw [if_pos (by decide)]; rfl
  have k2 : fkey 13826050856027422720 = some (-(sv 4602678819172646912 : Int)) := by
    unfold fkey
    rw [if_pos (by decide)]; rfl
  have w1 : FW 4602678819172646912 := .inl (by decide)
  have w2 : FW 13826050856027422720 := .inl (by decide)
  by_cases hn : x % 9223372036854775808 ≤ infR
  · have hx' : x < 18446744073709551616 := by
      rcases hx with hx | rfl
      · exact hx
      · exact absurd hn (by decide)
    have ha : fabs x = x % 9223372036854775808 := by
      conv => lhs; rw [wordOf hx']
      exact fabs_word _ _ hn
    have kx : fkey x = some (sw (decide (9223372036854775808 ≤ x)) (x % 9223372036854775808)) := by unfold fkey; rw [if_pos hn]
    have ka : fkey (fabs x) = some (sv (x % 9223372036854775808) : Int) := by
      rw [ha]
      unfold fkey
      rw [Nat.mod_mod, if_pos hn, decide_eq_false (by have := Nat.mod_lt x (show 0 < 9223372036854775808 by decide); omega)]; rfl
    have wa : FW (fabs x) := .inl (by rw [ha]; have := Nat.mod_lt x (show 0 < 9223372036854775808 by decide); omega)
    rw [fle_iff wa w1, fge_iff hx w2, fle_iff hx w1, k1, k2, kx, ka]
    generalize sv 4602678819172646912 = H
    constructor
    · rintro ⟨a, b, h1, h2, h3⟩
      cases h1; cases h2
      refine ⟨⟨_, _, rfl, rfl, ?_⟩, ⟨_, _, rfl, rfl, ?_⟩⟩ <;> (unfold sw; split <;> omega)
    · rintro ⟨⟨a, b, h1, h2, h3⟩, ⟨a', b', h1', h2', h3'⟩⟩
      cases h1; cases h2; cases h1'; cases h2'
      refine ⟨_, _, rfl, rfl, ?_⟩
      unfold sw at h3 h3'
      split at h3 <;> rename_i hs
      · omega
      · rw [if_neg hs] at h3'; omega
  · have kx : fkey x = none := by unfold fkey; rw [if_neg hn]
    have wa : FW (fabs x) := by
      unfold fabs
      split
      · exact .inr rfl
      · have := Nat.mod_lt x (show 0 < 9223372036854775808 by decide); exact .inl (by omega)
    have ka : fkey (fabs x) = none := by
      unfold fabs
      split
      · decide
      · unfold fkey
        rw [Nat.mod_mod, if_neg hn]
    rw [fle_iff wa w1, fge_iff hx w2, ka, kx]
    simp

/-- A float above 0: endless or finite. -/
theorem inf_fin {x : Nat} (hx : FW x) (h : (ford .f64 x 0 == some .gt) = true) :
    ((ford .f64 x x == some .eq) && ((ford .f64 x 9218868437227405311 == some .lt || ford .f64 x 9218868437227405311 == some .eq) && (ford .f64 x 18442240474082181119 == some .gt || ford .f64 x 18442240474082181119 == some .eq))) = !(ford .f64 x 9218868437227405311 == some .gt) := by
  obtain ⟨a, b, h1, h2, h3⟩ := (ford_gt hx (.inl (by decide))).1 h
  rw [fkey_zero] at h2
  cases h2
  have k1 : fkey 9218868437227405311 = some (sv 9218868437227405311 : Int) := by
    unfold fkey
    rw [if_pos (by decide)]; rfl
  have k2 : fkey 18442240474082181119 = some (-(sv 9218868437227405311 : Int)) := by
    unfold fkey
    rw [if_pos (by decide)]; rfl
  have e1 : (ford .f64 x x == some .eq) = true := (ford_eq hx hx).2 ⟨a, h1, h1⟩
  have e3 : (ford .f64 x 18442240474082181119 == some .gt || ford .f64 x 18442240474082181119 == some .eq) = true := (fge_iff hx (.inl (by decide))).2 ⟨a, _, h1, k2, by omega⟩
  rw [e1, e3, Bool.true_and, Bool.and_true, Bool.eq_iff_iff, fle_iff hx (.inl (by decide)), Bool.not_eq_true', ← Bool.not_eq_true, ford_gt hx (.inl (by decide)), h1, k1]
  constructor
  · rintro ⟨a', b', g1, g2, g3⟩ ⟨a2, b2, f1, f2, f3⟩
    cases g1; cases g2; cases f1; cases f2; omega
  · intro g
    refine ⟨a, _, rfl, rfl, ?_⟩
    apply Int.not_lt.1
    intro hlt
    exact g ⟨a, _, rfl, rfl, hlt⟩

/-! ## The middle -/

abbrev SpI := Int × Int × Nat
def eI (x : SpI) : List Value := [.int .i64 x.1, .int .i64 x.2.1, .float .f64 x.2.2]
def sI (x : SpI) : Value := .agg #[.int .i64 x.1, .int .i64 x.2.1, .float .f64 x.2.2]
def atI (L : List SpI) (i : Nat) : SpI := L[i]?.getD (0, 0, 0)
def cl (n lo hi : Int) : Int := max lo (min hi n)
def cz (n : Int) : Int := cl n (-1073741824) 1073741824
def aboveB (x y : Nat) : Bool := (ford .f64 x y == some .gt) || (!(ford .f64 y y == some .eq) && (ford .f64 x x == some .eq))
def topUp (L : List SpI) : Nat → Nat
  | 0 => 0
  | k + 1 => if aboveB (atI L k).2.2 (atI L (topUp L k)).2.2 = true then k else topUp L k
def sumN (f : Nat → Nat) : Nat → Nat
  | 0 => 0
  | 1 => f 0
  | k + 2 => fadd .f64 (sumN f (k + 1)) (f (k + 1))
def offI (a b bins : Int) : Int := if 0 < bins ∧ bins < 2 * (a - b) then a - b - bins else if 0 < bins ∧ 2 * (a - b) ≤ -bins then a - b + bins else a - b
def powF (L : List SpI) (i : Nat) : Nat := (atI L i).2.2
def mD (L : List SpI) (t : Nat) (B : Int) (i : Nat) : Nat := fmul .f64 (powF L i) (FloatKind.f64.nearest (offI (cz (atI L i).1) (cz (atI L t).1) B))
def mE (L : List SpI) (t : Nat) (i : Nat) : Nat := fmul .f64 (powF L i) (FloatKind.f64.nearest (cz (atI L i).2.1 - cz (atI L t).2.1))
def wrapB (x : Nat) (B : Int) : Nat :=
  if 0 < B ∧ (ford .f64 x 0 == some .lt) = true then fadd .f64 x (FloatKind.f64.nearest B)
  else if 0 < B ∧ (ford .f64 x (FloatKind.f64.nearest B) == some .gt || ford .f64 x (FloatKind.f64.nearest B) == some .eq) = true then fsub .f64 x (FloatKind.f64.nearest B)
  else x
def cenV (b g s n : Nat) : List Value := [.float .f64 b, .float .f64 g, .float .f64 s, .int .i64 (n : Nat)]
def stopB (s : Nat) : Bool := !(ford .f64 s 0 == some .gt) || (ford .f64 s 9218868437227405311 == some .gt)
def cenF (L : List SpI) (B : Int) : List Value :=
  if L = [] then cenV 0 0 0 0
  else
    let t := topUp L L.length
    let s := sumN (powF L) L.length
    let b := FloatKind.f64.nearest (cz (atI L t).1)
    let g := FloatKind.f64.nearest (cz (atI L t).2.1)
    if stopB s = true then cenV b g s L.length
    else cenV (wrapB (fadd .f64 b (fdiv .f64 (sumN (mD L t B) L.length) s)) B) (fadd .f64 g (fdiv .f64 (sumN (mE L t) L.length) s)) s L.length

theorem topUp_lt {L : List SpI} : ∀ {k : Nat}, k ≤ L.length → 0 < L.length → topUp L k < L.length
  | 0, _, h => h
  | k + 1, hk, h => by
    unfold topUp
    split
    · omega
    · exact topUp_lt (by omega) h

theorem atI_eq {L : List SpI} {i : Nat} (hi : i < L.length) : atI L i = L[i] := by
  unfold atI; rw [List.getElem?_eq_getElem hi]; rfl

theorem cz_bd (n : Int) : -1073741824 ≤ cz n ∧ cz n ≤ 1073741824 := by unfold cz cl; omega

theorem sumN_succ {f : Nat → Nat} {k : Nat} (h : 0 < k) : sumN f (k + 1) = fadd .f64 (sumN f k) (f k) := by
  cases k with
  | zero => omega
  | succ k => rfl

theorem sumN_one {f : Nat → Nat} : sumN f 1 = f 0 := rfl

theorem sumN_w {f : Nat → Nat} {n : Nat} (h : FW (f 0)) : FW (sumN f n) := by
  match n with
  | 0 => exact .inl (by simp [sumN])
  | 1 => exact h
  | k + 2 => exact fadd_w _ _

/-- Above, in the document's words. -/
theorem above_two {x y : Nat} (hx : FW x) (hy : FW y) : ((ford .f64 x x == some .eq) && (!(ford .f64 y y == some .eq) || (ford .f64 x y == some .gt))) = aboveB x y := by
  unfold aboveB
  cases h1 : ford .f64 x x == some .eq with
  | true => cases (ford .f64 y y == some .eq) <;> cases (ford .f64 x y == some .gt) <;> rfl
  | false =>
    have : (ford .f64 x y == some .gt) = false := by
      rw [← Bool.not_eq_true, ford_gt hx hy]
      rintro ⟨a, b, h2, h3, h4⟩
      have : (ford .f64 x x == some .eq) = true := (ford_eq hx hx).2 ⟨a, h2, h2⟩
      rw [h1] at this; cases this
    rw [this]; cases (ford .f64 y y == some .eq) <;> rfl

theorem flatI {L : List SpI} {i : Nat} (hi : i < L.length) : (L.flatMap eI)[i * 3]? = some (.int .i64 (atI L i).1) ∧ (L.flatMap eI)[i * 3 + 1]? = some (.int .i64 (atI L i).2.1) ∧ (L.flatMap eI)[i * 3 + 2]? = some (.float .f64 (atI L i).2.2) ∧ ((L.flatMap eI).drop (i * 3)).take 3 = eI (atI L i) := by
  rw [atI_eq hi]
  induction L generalizing i with
  | nil => simp at hi
  | cons x L ih =>
    cases i with
    | zero => exact ⟨rfl, rfl, rfl, rfl⟩
    | succ i =>
      have e : (i + 1) * 3 = i * 3 + 3 := by omega
      rw [e]
      exact ih (by simpa using hi)

theorem eI_len (L : List SpI) : (L.flatMap eI).length = L.length * 3 := by
  induction L with
  | nil => rfl
  | cons x L ih => rw [List.flatMap_cons, List.length_append, ih, List.length_cons]; simp only [eI, List.length_cons, List.length_nil]; omega
theorem eI_one (L : List SpI) : (L.flatMap eI).all oneCell = true := by
  induction L with
  | nil => rfl
  | cons x L ih => rw [List.flatMap_cons, List.all_append, ih]; rfl

end Go.Proofs.Ytpphomoijlilfaa

/- PeaksCentre: the small functions, walked. -/
namespace Go.Proofs.Ytpphomoijlilfaa
open Go Go.Vam

theorem min_is (a b : Int) : (if b < a then b else a) = min a b := by omega
theorem max_is (a b : Int) : (if b > a then b else a) = max a b := by omega

def betX (a b c : Nat) : Nat := fdiv .f64 (fsub .f64 a c) (fmul .f64 4611686018427387904 (fsub .f64 (fadd .f64 a c) (fmul .f64 4611686018427387904 b)))
def betF (a b c : Nat) : Nat := if (ford .f64 (fabs (betX a b c)) 4602678819172646912 == some .lt || ford .f64 (fabs (betX a b c)) 4602678819172646912 == some .eq) = true then betX a b c else 0
def mk77 : List Value := [.int .i64 77, .int .i64 0, .float .f64 0]


theorem run43 {X : Ctx} (hX : X.fns = fnsOf Try.prog) (ho : ∀ f args, f ≠ 15 → X.orc f args = none) {s : Mm} {n lo hi : Int} (h : lo ≤ hi) : CallP X 43 [.int .i64 n, .int .i64 lo, .int .i64 hi] s (fun r s' => r = .int .i64 (cl n lo hi) ∧ s = s') := by
  refine CallP_of (hX ▸ ir43_eq) (ho _ _ (by decide)) (Nat.le_of_ble_eq_true rfl) ?_
  refine W_seq (W_ops [0, 1, 2] ?_)
  simp only [o43_0, WO_move, WO_nil, geT_put, frame_nil, frame_cons, evO_const, keep_nil, keep_cons, keepK_eq, Nat.reduceEqDiff, Nat.reduceAdd, ↓reduceIte, eq_self, Nat.zero_add]
  intro fr e0 e1 e2
  refine SeqK_n ?_
  have e : (if hi < (if lo > n then lo else n) then hi else (if lo > n then lo else n)) = cl n lo hi := by unfold cl; omega
  refine W_seq (W_ops [6] ?_)
  simp only [o43_1, WO_bu, bu_min, bu_max, WO_move, WO_nil, PureK_some, geT_put, evO_tmp, keep_nil, keep_cons, keepK_eq, List.map_cons, List.map_nil, Nat.reduceEqDiff, ↓reduceIte, eq_self, e0, e1, e2, e]
  clear e0 e1 e2
  intro fr e6
  refine SeqK_n ?_
  exact W_ret (Ret1 e6 ⟨rfl, rfl⟩)

theorem run45 {X : Ctx} (hX : X.fns = fnsOf Try.prog) (ho : ∀ f args, f ≠ 15 → X.orc f args = none) {s : Mm} {n lo hi : Int} (h : lo ≤ hi) : CallP X 45 [.int .i64 n, .int .i64 lo, .int .i64 hi] s (fun r s' => r = .int .i64 (cl n lo hi) ∧ s = s') := by
  refine CallP_of (hX ▸ ir45_eq) (ho _ _ (by decide)) (Nat.le_of_ble_eq_true rfl) ?_
  refine W_seq (W_ops [0, 1, 2] ?_)
  simp only [o45_0, WO_move, WO_nil, geT_put, frame_nil, frame_cons, evO_const, keep_nil, keep_cons, keepK_eq, Nat.reduceEqDiff, Nat.reduceAdd, ↓reduceIte, eq_self, Nat.zero_add]
  intro fr e0 e1 e2
  refine SeqK_n ?_
  have e : (if (if n < hi then n else hi) > lo then (if n < hi then n else hi) else lo) = cl n lo hi := by unfold cl; omega
  refine W_seq (W_ops [6] ?_)
  simp only [o45_1, WO_bu, bu_min, bu_max, WO_move, WO_nil, PureK_some, geT_put, evO_tmp, keep_nil, keep_cons, keepK_eq, List.map_cons, List.map_nil, Nat.reduceEqDiff, ↓reduceIte, eq_self, e0, e1, e2, e]
  clear e0 e1 e2
  intro fr e6
  refine SeqK_n ?_
  exact W_ret (Ret1 e6 ⟨rfl, rfl⟩)

theorem run46 {X : Ctx} (hX : X.fns = fnsOf Try.prog) (ho : ∀ f args, f ≠ 15 → X.orc f args = none) {s : Mm} {x y : Nat} (hx : FW x) (hy : FW y) : CallP X 46 [.float .f64 x, .float .f64 y] s (fun r s' => r = .bool (aboveB x y) ∧ s = s') := by
  have ha := above_two hx hy
  refine CallP_of (hX ▸ ir46_eq) (ho _ _ (by decide)) (Nat.le_of_ble_eq_true rfl) ?_
  refine W_seq (W_ops [0, 1] ?_)
  simp only [o46_0, WO_move, WO_nil, geT_put, frame_nil, frame_cons, evO_const, keep_nil, keep_cons, keepK_eq, Nat.reduceEqDiff, Nat.reduceAdd, ↓reduceIte, eq_self, Nat.zero_add]
  intro fr e0 e1
  refine SeqK_n ?_
  cases h1 : ford .f64 x x == some .eq with
  | false =>
    refine W_seq (W_ops [4] ?_)
    simp only [o46_1, WO_bin, WO_move, WO_pick, pick_b, binf_eql, binf_gtr, WO_nil, PureK_some, WO_guard, want_v, wantB_t, geT_put, evO_tmp, evO_const, keep_nil, keep_cons, keepK_eq, Nat.reduceEqDiff, ↓reduceIte, eq_self, Bool.false_eq_true, e0, e1, h1]
    clear e0 e1
    intro fr e4
    refine SeqK_n ?_
    exact W_ret (Ret1 e4 ⟨by rw [← ha, h1]; rfl, rfl⟩)
  | true =>
    cases h2 : ford .f64 y y == some .eq with
    | false =>
      refine W_seq (W_ops [4] ?_)
      simp only [o46_1, WO_bin, WO_move, WO_pick, pick_b, binf_eql, binf_neq, WO_nil, PureK_some, WO_guard, want_v, wantB_t, wantB_f, geT_put, evO_tmp, evO_const, keep_nil, keep_cons, keepK_eq, Nat.reduceEqDiff, ↓reduceIte, Bool.not_true, Bool.not_false, eq_self, Bool.false_eq_true, e0, e1, h1, h2]
      clear e0 e1
      intro fr e4
      refine SeqK_n ?_
      exact W_ret (Ret1 e4 ⟨by rw [← ha, h1, h2]; rfl, rfl⟩)
    | true =>
      refine W_seq (W_ops [4] ?_)
      simp only [o46_1, WO_bin, WO_move, WO_pick, pick_b, binf_eql, binf_gtr, binf_neq, WO_nil, PureK_some, WO_guard, want_v, wantB_t, wantB_f, geT_put, evO_tmp, evO_const, keep_nil, keep_cons, keepK_eq, Nat.reduceEqDiff, ↓reduceIte, Bool.not_true, Bool.not_false, eq_self, Bool.false_eq_true, e0, e1, h1, h2]
      clear e0 e1
      intro fr e4
      refine SeqK_n ?_
      exact W_ret (Ret1 e4 ⟨by rw [← ha, h1, h2]; simp, rfl⟩)

theorem run48 {X : Ctx} (hX : X.fns = fnsOf Try.prog) (ho : ∀ f args, f ≠ 15 → X.orc f args = none) {s : Mm} {x : Nat} : CallP X 48 [.float .f64 x] s (fun r s' => r = .bool ((ford .f64 x x == some .eq) && ((ford .f64 x 9218868437227405311 == some .lt || ford .f64 x 9218868437227405311 == some .eq) && (ford .f64 x 18442240474082181119 == some .gt || ford .f64 x 18442240474082181119 == some .eq))) ∧ s = s') := by
  refine CallP_of (hX ▸ ir48_eq) (ho _ _ (by decide)) (Nat.le_of_ble_eq_true rfl) ?_
  refine W_seq (W_ops [0] ?_)
  simp only [o48_0, WO_move, WO_nil, geT_put, frame_nil, frame_cons, evO_const, keep_nil, keep_cons, keepK_eq, Nat.reduceEqDiff, ↓reduceIte, eq_self, Nat.zero_add]
  intro fr e0
  refine SeqK_n ?_
  cases h1 : ford .f64 x x == some .eq with
  | false =>
    refine W_seq (W_ops [2] ?_)
    simp only [o48_1, WO_bin, WO_move, WO_pick, pick_b, binf_eql, WO_nil, PureK_some, WO_guard, want_v, wantB_t, geT_put, evO_tmp, evO_const, keep_nil, keep_cons, keepK_eq, Nat.reduceEqDiff, ↓reduceIte, Bool.false_and, eq_self, Bool.false_eq_true, e0, h1]
    clear e0
    intro fr e2
    refine SeqK_n ?_
    exact W_ret (Ret1 e2 ⟨by simp, rfl⟩)
  | true =>
    cases h2 : (ford .f64 x 9218868437227405311 == some .lt || ford .f64 x 9218868437227405311 == some .eq) with
    | false =>
      refine W_seq (W_ops [2] ?_)
      simp only [o48_1, WO_bin, WO_move, WO_pick, pick_b, binf_eql, binf_leq, WO_nil, PureK_some, WO_guard, want_v, wantB_t, geT_put, evO_tmp, evO_const, keep_nil, keep_cons, keepK_eq, Nat.reduceEqDiff, ↓reduceIte, Bool.false_and, Bool.and_false, eq_self, Bool.false_eq_true, e0, h1, h2]
      clear e0
      intro fr e2
      refine SeqK_n ?_
      exact W_ret (Ret1 e2 ⟨by simp, rfl⟩)
    | true =>
      refine W_seq (W_ops [2] ?_)
      simp only [o48_1, WO_bin, WO_move, WO_pick, pick_b, binf_eql, binf_geq, binf_leq, WO_nil, PureK_some, WO_guard, want_v, wantB_t, geT_put, evO_tmp, evO_const, keep_nil, keep_cons, keepK_eq, Nat.reduceEqDiff, ↓reduceIte, Bool.true_and, eq_self, e0, h1, h2]
      clear e0
      intro fr e2
      refine SeqK_n ?_
      exact W_ret (Ret1 e2 ⟨by simp, rfl⟩)

theorem run44 {X : Ctx} (hX : X.fns = fnsOf Try.prog) (ho : ∀ f args, f ≠ 15 → X.orc f args = none) {s : Mm} {x : Nat} : CallP X 44 [.float .f64 x, .int .i64 1] s (fun r s' => r = .bool (ford .f64 x 9218868437227405311 == some .gt) ∧ s = s') := by
  refine CallP_of (hX ▸ ir44_eq) (ho _ _ (by decide)) (Nat.le_of_ble_eq_true rfl) ?_
  refine W_seq (W_ops [0, 1] ?_)
  simp only [o44_0, WO_move, WO_nil, geT_put, frame_nil, frame_cons, evO_const, keep_nil, keep_cons, keepK_eq, Nat.reduceEqDiff, Nat.reduceAdd, ↓reduceIte, eq_self, Nat.zero_add]
  intro fr e0 e1
  refine SeqK_n ?_
  refine W_assoc ?_
  refine W_seq (W_ops [0, 1, 6] ?_)
  simp only [o44_1, WO_bin, WO_move, bin_eql, WO_nil, PureK_some, geT_put, evO_tmp, evO_const, keep_nil, keep_cons, keepK_eq, Nat.reduceEqDiff, ↓reduceIte, decide_false, Int.reduceEq, eq_self, e0, e1]
  clear e0 e1
  intro fr e0 e1 e6
  refine SeqK_n ?_
  refine W_seq (W_cond e6 (fun h => by cases h) (fun _ => ?_))
  refine W_seq (W_ops [0, 10] ?_)
  simp only [o44_3, WO_bin, WO_move, bin_lss, WO_nil, PureK_some, geT_put, evO_tmp, evO_const, keep_nil, keep_cons, keepK_eq, Nat.reduceEqDiff, ↓reduceIte, decide_false, Int.reduceLT, eq_self, e0, e1]
  clear e0 e1 e6
  intro fr e0 e10
  refine SeqK_n ?_
  refine W_cond e10 (fun h => by cases h) (fun _ => W_skip (SeqK_n ?_))
  refine W_seq (W_ops [4] ?_)
  simp only [o44_5, WO_bin, WO_move, binf_gtr, WO_nil, PureK_some, geT_put, evO_tmp, evO_const, keep_nil, keep_cons, keepK_eq, ↓reduceIte, eq_self, e0]
  clear e0 e10
  intro fr e4
  refine SeqK_n ?_
  exact W_ret (Ret1 e4 ⟨rfl, rfl⟩)

theorem run49 {X : Ctx} (hX : X.fns = fnsOf Try.prog) (ho : ∀ f args, f ≠ 15 → X.orc f args = none) {s : Mm} {a b B : Int} (ha : -1073741824 ≤ a ∧ a ≤ 1073741824) (hb : -1073741824 ≤ b ∧ b ≤ 1073741824) (hB : 0 ≤ B ∧ B ≤ 1073741824) : CallP X 49 [.int .i64 a, .int .i64 b, .int .i64 B] s (fun r s' => r = .int .i64 (offI a b B) ∧ s = s') := by
  refine CallP_of (hX ▸ ir49_eq) (ho _ _ (by decide)) (Nat.le_of_ble_eq_true rfl) ?_
  refine W_seq (W_ops [0, 1, 2] ?_)
  simp only [o49_0, WO_move, WO_nil, geT_put, frame_nil, frame_cons, evO_const, keep_nil, keep_cons, keepK_eq, Nat.reduceEqDiff, Nat.reduceAdd, ↓reduceIte, eq_self, Nat.zero_add]
  intro fr e0 e1 e2
  refine SeqK_n ?_
  refine W_seq (W_ops [2, 7] ?_)
  simp only [o49_1, WO_bin, WO_move, bin_sub, WO_nil, PureK_some, geT_put, evO_tmp, keep_nil, keep_cons, keepK_eq, Nat.reduceEqDiff, ↓reduceIte, eq_self, e0, e1, e2, wrap_i64 (n := a - b) (by omega) (by omega)]
  clear e0 e1 e2
  intro fr e2 e7
  refine SeqK_n ?_
  refine W_assoc ?_
  by_cases h0 : 0 < B
  · by_cases h1 : B < 2 * (a - b)
    · refine W_seq (W_ops [2, 7, 18] ?_)
      simp only [o49_2, WO_bin, WO_move, WO_pick, pick_b, bin_gtr, bin_mul, WO_nil, PureK_some, WO_guard, want_v, wantB_t, geT_put, evO_tmp, evO_const, keep_nil, keep_cons, keepK_eq, Nat.reduceEqDiff, ↓reduceIte, eq_self, e2, e7, decide_eq_true h0, wrap_i64 (n := 2 * (a - b)) (by omega) (by omega), decide_eq_true h1]
      clear e2 e7
      intro fr e2 e7 e18
      refine SeqK_n ?_
      refine W_seq (W_cond e18 (fun _ => ?_) (fun h => by cases h))
      refine W_seq (W_ops [6] ?_)
      simp only [o49_3, WO_bin, WO_move, bin_sub, WO_nil, PureK_some, geT_put, evO_tmp, keep_nil, keep_cons, keepK_eq, Nat.reduceEqDiff, ↓reduceIte, eq_self, e2, e7, wrap_i64 (n := a - b - B) (by omega) (by omega)]
      clear e2 e7 e18
      intro fr e6
      refine SeqK_n ?_
      exact W_ret (SeqK_r (Ret1 e6 ⟨by rw [offI, if_pos ⟨h0, h1⟩], rfl⟩))
    · skip
      refine W_seq (W_ops [2, 7, 18] ?_)
      simp only [o49_2, WO_bin, WO_move, WO_pick, pick_b, bin_gtr, bin_mul, WO_nil, PureK_some, WO_guard, want_v, wantB_t, geT_put, evO_tmp, evO_const, keep_nil, keep_cons, keepK_eq, Nat.reduceEqDiff, ↓reduceIte, eq_self, e2, e7, decide_eq_true h0, wrap_i64 (n := 2 * (a - b)) (by omega) (by omega), decide_eq_false h1]
      clear e2 e7
      intro fr e2 e7 e18
      refine SeqK_n ?_
      refine W_seq (W_cond e18 (fun h => by cases h) (fun _ => W_skip (SeqK_n ?_)))
      refine W_assoc ?_
      by_cases h2 : 2 * (a - b) ≤ 0 - B
      · skip
        refine W_seq (W_ops [2, 7, 30] ?_)
        simp only [o49_4, WO_bin, WO_move, WO_pick, pick_b, WO_un, un_neg, bin_gtr, bin_leq, bin_mul, WO_nil, PureK_some, WO_guard, want_v, wantB_t, geT_put, evO_tmp, evO_const, keep_nil, keep_cons, keepK_eq, Nat.reduceEqDiff, ↓reduceIte, eq_self, e2, e7, decide_eq_true h0, wrap_i64 (n := 2 * (a - b)) (by omega) (by omega), wrap_i64 (n := 0 - B) (by omega) (by omega), decide_eq_true h2]
        clear e2 e7 e18
        intro fr e2 e7 e30
        refine SeqK_n ?_
        refine W_seq (W_cond e30 (fun _ => ?_) (fun h => by cases h))
        refine W_seq (W_ops [6] ?_)
        simp only [o49_5, WO_bin, WO_move, bin_add, WO_nil, PureK_some, geT_put, evO_tmp, keep_nil, keep_cons, keepK_eq, Nat.reduceEqDiff, ↓reduceIte, eq_self, e2, e7, wrap_i64 (n := a - b + B) (by omega) (by omega)]
        clear e2 e7 e30
        intro fr e6
        refine SeqK_n ?_
        exact W_ret (SeqK_r (Ret1 e6 ⟨by rw [offI, if_neg (by omega), if_pos ⟨h0, by omega⟩], rfl⟩))
      · skip
        refine W_seq (W_ops [2, 7, 30] ?_)
        simp only [o49_4, WO_bin, WO_move, WO_pick, pick_b, WO_un, un_neg, bin_gtr, bin_leq, bin_mul, WO_nil, PureK_some, WO_guard, want_v, wantB_t, geT_put, evO_tmp, evO_const, keep_nil, keep_cons, keepK_eq, Nat.reduceEqDiff, ↓reduceIte, eq_self, e2, e7, decide_eq_true h0, wrap_i64 (n := 2 * (a - b)) (by omega) (by omega), wrap_i64 (n := 0 - B) (by omega) (by omega), decide_eq_false h2]
        clear e2 e7 e18
        intro fr e2 e7 e30
        refine SeqK_n ?_
        refine W_seq (W_cond e30 (fun h => by cases h) (fun _ => W_skip (SeqK_n ?_)))
        refine W_seq (W_ops [6] ?_)
        simp only [o49_6, WO_move, WO_nil, geT_put, evO_tmp, keep_nil, keep_cons, keepK_eq, ↓reduceIte, eq_self, e7]
        clear e2 e7 e30
        intro fr e6
        refine SeqK_n ?_
        exact W_ret (Ret1 e6 ⟨by rw [offI, if_neg (by omega), if_neg (by omega)], rfl⟩)
  · skip
    refine W_seq (W_ops [2, 7, 18] ?_)
    simp only [o49_2, WO_bin, WO_move, WO_pick, pick_b, bin_gtr, WO_nil, PureK_some, WO_guard, want_v, wantB_t, geT_put, evO_tmp, evO_const, keep_nil, keep_cons, keepK_eq, Nat.reduceEqDiff, ↓reduceIte, eq_self, Bool.false_eq_true, e2, e7, decide_eq_false h0]
    clear e2 e7
    intro fr e2 e7 e18
    refine SeqK_n ?_
    refine W_seq (W_cond e18 (fun h => by cases h) (fun _ => W_skip (SeqK_n ?_)))
    refine W_assoc ?_
    refine W_seq (W_ops [2, 7, 30] ?_)
    simp only [o49_4, WO_bin, WO_move, WO_pick, pick_b, bin_gtr, WO_nil, PureK_some, WO_guard, want_v, wantB_t, geT_put, evO_tmp, evO_const, keep_nil, keep_cons, keepK_eq, Nat.reduceEqDiff, ↓reduceIte, eq_self, Bool.false_eq_true, e2, e7, decide_eq_false h0]
    clear e2 e7 e18
    intro fr e2 e7 e30
    refine SeqK_n ?_
    refine W_seq (W_cond e30 (fun h => by cases h) (fun _ => W_skip (SeqK_n ?_)))
    refine W_seq (W_ops [6] ?_)
    simp only [o49_6, WO_move, WO_nil, geT_put, evO_tmp, keep_nil, keep_cons, keepK_eq, ↓reduceIte, eq_self, e7]
    clear e2 e7 e30
    intro fr e6
    refine SeqK_n ?_
    exact W_ret (Ret1 e6 ⟨by rw [offI, if_neg (by omega), if_neg (by omega)], rfl⟩)

theorem run47 {X : Ctx} (hX : X.fns = fnsOf Try.prog) (ho : ∀ f args, f ≠ 15 → X.orc f args = none) {s : Mm} {v : Value} {f : Nat → Nat} {n : Nat} (a : SlC s 1 v n ((List.range n).map fun i => .float .f64 (f i))) (hn : n ≤ 4611686018427387904) : CallP X 47 [v] s (fun r s' => r = .float .f64 (sumN f n) ∧ s = s') := by
  refine CallP_of (hX ▸ ir47_eq) (ho _ _ (by decide)) (Nat.le_of_ble_eq_true rfl) ?_
  refine W_seq (W_ops [0] ?_)
  simp only [o47_0, WO_move, WO_nil, geT_put, frame_nil, frame_cons, evO_const, keep_nil, keep_cons, keepK_eq, Nat.reduceEqDiff, ↓reduceIte, eq_self, Nat.zero_add]
  intro fr e0
  refine SeqK_n ?_
  refine W_assoc ?_
  have d0 : decide (((n : Nat) : Int) = 0) = decide (n = 0) := decide_eq_decide.2 (by omega)
  refine W_seq (W_ops [0, 7] ?_)
  simp only [o47_1, WO_bin, WO_bu, WO_move, bin_eql, WO_nil, PureK_some, geT_put, evO_tmp, evO_const, keep_nil, keep_cons, keepK_eq, List.map_cons, List.map_nil, Nat.reduceEqDiff, ↓reduceIte, eq_self, e0, a.len, d0]
  clear e0
  intro fr e0 e7
  refine SeqK_n ?_
  by_cases h0 : n = 0
  · rw [decide_eq_true h0] at e7
    refine W_seq (W_cond e7 (fun _ => ?_) (fun h => by cases h))
    refine W_seq (W_ops [2] ?_)
    simp only [o47_2, WO_move, WO_nil, geT_put, evO_const, keep_nil, keep_cons, keepK_eq, ↓reduceIte, eq_self]
    clear e0 e7
    intro fr e2
    refine SeqK_n ?_
    subst h0
    exact W_ret (SeqK_r (Ret1 e2 ⟨rfl, rfl⟩))
  rw [decide_eq_false h0] at e7
  refine W_seq (W_cond e7 (fun h => by cases h) (fun _ => W_skip (SeqK_n ?_)))
  have ld : ∀ i, i < n → loadV s none (elP v i) = some (.float .f64 (f i)) := fun i hi => a.load (by simp [hi])
  have B0 : addrSlV 1 v (.int .i64 0) = some (elP v 0) := a.addr (kk := .i64) (i := 0) (k := 0) rfl (by omega)
  refine W_seq (W_ops [0, 3] ?_)
  simp only [o47_3, WO_addrSl, WO_load, WO_move, WO_nil, PureK_some, geT_put, evO_tmp, evO_const, keep_nil, keep_cons, keepK_eq, Nat.reduceEqDiff, ↓reduceIte, eq_self, e0, B0, ld 0 (by omega)]
  clear e0 e7
  intro fr e0 e3
  refine SeqK_n ?_
  refine W_assoc ?_
  refine W_seq (W_ops [0, 3, 4] ?_)
  simp only [o47_4, WO_move, WO_nil, geT_put, evO_const, keep_nil, keep_cons, keepK_eq, Nat.reduceEqDiff, ↓reduceIte, eq_self, e0, e3]
  clear e0 e3
  intro fr e0 e3 e4
  refine SeqK_n ?_
  refine W_seq (W_block (W_loop (fun m fr s1 => ∃ k, k + m = n ∧ 1 ≤ k ∧ s = s1 ∧ geT fr 0 = v ∧ geT fr 3 = .float .f64 (sumN f k) ∧ geT fr 4 = .int .i64 (k : Nat)) (n - 1) ⟨1, by omega, by omega, rfl, e0, e3, e4⟩ ?_))
  clear e0 e3 e4 fr
  rintro m fr _ ⟨k, hk, hk1, rfl, e0, e3, e4⟩
  refine W_assoc ?_
  refine W_seq (W_ops [0, 3, 4, 14] ?_)
  simp only [o47_6, WO_bin, WO_bu, WO_move, bin_lss, WO_nil, PureK_some, geT_put, evO_tmp, keep_nil, keep_cons, keepK_eq, List.map_cons, List.map_nil, Nat.reduceEqDiff, ↓reduceIte, eq_self, e0, e3, e4, a.len]
  clear e0 e3 e4
  intro fr e0 e3 e4 e14
  refine SeqK_n ?_
  refine W_while e14 (fun hlt => ?_) (fun hlt => ?_)
  · have hkn : k < n := by omega
    have B1 := a.addr (kk := .i64) (i := (k : Int)) rfl hkn
    rw [Nat.mul_one] at B1
    refine W_seq (W_block ?_)
    refine W_ops [0, 3, 4] ?_
    simp only [o47_7, WO_addrSl, WO_bin, WO_load, WO_move, binf_add, WO_nil, PureK_some, geT_put, evO_tmp, keep_nil, keep_cons, keepK_eq, Nat.reduceEqDiff, ↓reduceIte, eq_self, e0, e3, e4, B1, ld k hkn]
    clear e0 e3 e4 e14
    intro fr e0 e3 e4
    refine BlkK_n (SeqK_n ?_)
    refine W_ops [0, 3, 4] ?_
    simp only [o47_8, WO_bin, WO_move, bin_add, WO_nil, PureK_some, geT_put, evO_tmp, evO_const, keep_nil, keep_cons, keepK_eq, Nat.reduceEqDiff, ↓reduceIte, eq_self, e0, e3, e4, wrap_i64 (n := (k : Int) + 1) (by omega) (by omega)]
    clear e0 e3 e4
    intro fr e0 e3 e4
    exact LoopK_n (m' := m - 1) (by omega) ⟨k + 1, by omega, by omega, rfl, e0, by rw [e3, sumN_succ (by omega)], by rw [e4]; rfl⟩
  · have hkn : k = n := by omega
    subst hkn
    refine LoopK_x (BlkK_e (SeqK_n ?_))
    refine W_seq (W_ops [2] ?_)
    simp only [o47_9, WO_move, WO_nil, geT_put, evO_tmp, keep_nil, keep_cons, keepK_eq, ↓reduceIte, eq_self, e3]
    clear e0 e3 e4 e14
    intro fr e2
    refine SeqK_n ?_
    exact W_ret (Ret1 e2 ⟨rfl, rfl⟩)

theorem run23 {X : Ctx} (hX : X.fns = fnsOf Try.prog) (ho : ∀ f args, f ≠ 15 → X.orc f args = none) {s : Mm} {a b c : Nat} : CallP X 23 [.float .f64 a, .float .f64 b, .float .f64 c] s (fun r s' => r = .float .f64 (betF a b c) ∧ s = s') := by
  have hx : ∀ x : Nat, extV 5 [.float .f64 x] = some (.float .f64 (fabs x)) := fun _ => rfl
  refine CallP_of (hX ▸ ir23_eq) (ho _ _ (by decide)) (Nat.le_of_ble_eq_true rfl) ?_
  refine W_seq (W_ops [0, 1, 2] ?_)
  simp only [o23_0, WO_move, WO_nil, geT_put, frame_nil, frame_cons, evO_const, keep_nil, keep_cons, keepK_eq, Nat.reduceEqDiff, Nat.reduceAdd, ↓reduceIte, eq_self, Nat.zero_add]
  intro fr e0 e1 e2
  refine SeqK_n ?_
  refine W_seq (W_ops [7] ?_)
  simp only [o23_1, WO_bin, WO_move, binf_add, binf_mul, binf_quo, binf_sub, WO_nil, PureK_some, geT_put, evO_tmp, evO_const, keep_nil, keep_cons, keepK_eq, Nat.reduceEqDiff, ↓reduceIte, eq_self, e0, e1, e2]
  clear e0 e1 e2
  intro fr e7
  refine SeqK_n ?_
  have hb : fdiv .f64 (fsub .f64 a c) (fmul .f64 4611686018427387904 (fsub .f64 (fadd .f64 a c) (fmul .f64 4611686018427387904 b))) = betX a b c := rfl
  rw [hb] at e7
  refine W_assoc ?_
  refine W_seq (W_ops [7, 21] ?_)
  simp only [o23_2, WO_bin, WO_ext, WO_move, binf_leq, WO_nil, PureK_some, geT_put, evO_tmp, evO_const, keep_nil, keep_cons, keepK_eq, List.map_cons, List.map_nil, Nat.reduceEqDiff, ↓reduceIte, eq_self, e7, WO_ext, hx]
  clear e7
  intro fr e7 e21
  refine SeqK_n ?_
  cases h : (ford .f64 (fabs (betX a b c)) 4602678819172646912 == some .lt || ford .f64 (fabs (betX a b c)) 4602678819172646912 == some .eq) with
  | true =>
    rw [h] at e21
    refine W_seq (W_cond e21 (fun _ => ?_) (fun h => by cases h))
    refine W_seq (W_ops [6] ?_)
    simp only [o23_3, WO_move, WO_nil, geT_put, evO_tmp, keep_nil, keep_cons, keepK_eq, ↓reduceIte, eq_self, e7]
    clear e7 e21
    intro fr e6
    refine SeqK_n ?_
    exact W_ret (SeqK_r (Ret1 e6 ⟨by rw [betF, if_pos h], rfl⟩))
  | false =>
    rw [h] at e21
    refine W_seq (W_cond e21 (fun h => by cases h) (fun _ => W_skip (SeqK_n ?_)))
    refine W_seq (W_ops [6] ?_)
    simp only [o23_4, WO_move, WO_nil, geT_put, evO_const, keep_nil, keep_cons, keepK_eq, ↓reduceIte, eq_self]
    clear e7 e21
    intro fr e6
    refine SeqK_n ?_
    exact W_ret (Ret1 e6 ⟨by rw [betF, if_neg (by rw [h]; simp)], rfl⟩)

theorem run24 {X : Ctx} (hX : X.fns = fnsOf Try.prog) (ho : ∀ f args, f ≠ 15 → X.orc f args = none) {s : Mm} {a b c : Nat} : CallP X 24 [.float .f64 a, .float .f64 b, .float .f64 c] s (fun r s' => r = .float .f64 (betF a b c) ∧ s = s') := by
  refine CallP_of (hX ▸ ir24_eq) (ho _ _ (by decide)) (Nat.le_of_ble_eq_true rfl) ?_
  refine W_seq (W_ops [0, 1, 2] ?_)
  simp only [o24_0, WO_move, WO_nil, geT_put, frame_nil, frame_cons, evO_const, keep_nil, keep_cons, keepK_eq, Nat.reduceEqDiff, Nat.reduceAdd, ↓reduceIte, eq_self, Nat.zero_add]
  intro fr e0 e1 e2
  refine SeqK_n ?_
  refine W_seq (W_ops [0, 1, 2, 7] ?_)
  simp only [o24_1, WO_bin, WO_move, binf_sub, WO_nil, PureK_some, geT_put, evO_tmp, keep_nil, keep_cons, keepK_eq, Nat.reduceEqDiff, ↓reduceIte, eq_self, e0, e1, e2]
  clear e0 e1 e2
  intro fr e0 e1 e2 e7
  refine SeqK_n ?_
  refine W_seq (W_ops [7, 8] ?_)
  simp only [o24_2, WO_bin, WO_move, binf_add, binf_mul, binf_sub, WO_nil, PureK_some, geT_put, evO_tmp, evO_const, keep_nil, keep_cons, keepK_eq, Nat.reduceEqDiff, ↓reduceIte, eq_self, e0, e1, e2, e7]
  clear e0 e1 e2 e7
  intro fr e7 e8
  refine SeqK_n ?_
  refine W_seq (W_ops [9] ?_)
  simp only [o24_3, WO_bin, WO_move, binf_mul, binf_quo, WO_nil, PureK_some, geT_put, evO_tmp, evO_const, keep_nil, keep_cons, keepK_eq, Nat.reduceEqDiff, ↓reduceIte, eq_self, e7, e8]
  clear e7 e8
  intro fr e9
  refine SeqK_n ?_
  have hb : fdiv .f64 (fsub .f64 a c) (fmul .f64 4611686018427387904 (fsub .f64 (fadd .f64 a c) (fmul .f64 4611686018427387904 b))) = betX a b c := rfl
  rw [hb] at e9
  have h2 := half_two (x := betX a b c) (fdiv_w _ _)
  refine W_assoc ?_
  refine W_seq (W_opsB [9, 28] (fun fr1 s6 => s = s6 ∧ geT fr1 9 = .float .f64 (betX a b c) ∧ geT fr1 28 = .bool (ford .f64 (fabs (betX a b c)) 4602678819172646912 == some .lt || ford .f64 (fabs (betX a b c)) 4602678819172646912 == some .eq)) ?_ ?_)
  · intro R' hR'
    rw [h2] at hR'
    cases h1 : (ford .f64 (betX a b c) 13826050856027422720 == some .gt || ford .f64 (betX a b c) 13826050856027422720 == some .eq) with
    | true =>
      simp only [o24_4, WO_nil, WO_move, WO_pick, WO_bin, WO_guard, PureK_some, geT_put, evO_tmp, evO_const, want_v, wantB_t, keep_nil, keep_cons, keepK_eq, Nat.reduceEqDiff, ↓reduceIte, pick_b, binf_leq, binf_geq, eq_self, e9, h1]
      intro fr e9 e28
      exact hR' _ _ ⟨rfl, e9, by rw [e28, h1]; rfl⟩
    | false =>
      simp only [o24_4, WO_nil, WO_move, WO_pick, WO_bin, WO_guard, PureK_some, geT_put, evO_tmp, evO_const, want_v, wantB_t, keep_nil, keep_cons, keepK_eq, Nat.reduceEqDiff, ↓reduceIte, pick_b, binf_geq, eq_self, Bool.false_eq_true, e9, h1]
      intro fr e9 e28
      exact hR' _ _ ⟨rfl, e9, by rw [e28, h1]; rfl⟩
  clear e9 fr
  rintro fr _ ⟨rfl, e9, e28⟩
  refine SeqK_n ?_
  cases h : (ford .f64 (fabs (betX a b c)) 4602678819172646912 == some .lt || ford .f64 (fabs (betX a b c)) 4602678819172646912 == some .eq) with
  | true =>
    rw [h] at e28
    refine W_seq (W_cond e28 (fun _ => ?_) (fun h => by cases h))
    refine W_seq (W_ops [6] ?_)
    simp only [o24_5, WO_move, WO_nil, geT_put, evO_tmp, keep_nil, keep_cons, keepK_eq, ↓reduceIte, eq_self, e9]
    clear e9 e28
    intro fr e6
    refine SeqK_n ?_
    exact W_ret (SeqK_r (Ret1 e6 ⟨by rw [betF, if_pos h], rfl⟩))
  | false =>
    rw [h] at e28
    refine W_seq (W_cond e28 (fun h => by cases h) (fun _ => W_skip (SeqK_n ?_)))
    refine W_seq (W_ops [6] ?_)
    simp only [o24_6, WO_move, WO_nil, geT_put, evO_const, keep_nil, keep_cons, keepK_eq, ↓reduceIte, eq_self]
    clear e9 e28
    intro fr e6
    refine SeqK_n ?_
    exact W_ret (Ret1 e6 ⟨by rw [betF, if_neg (by rw [h]; simp)], rfl⟩)

theorem run16 {X : Ctx} (hX : X.fns = fnsOf Try.prog) (ho : ∀ f args, f ≠ 15 → X.orc f args = none) {s0 s : Mm} {l : List HP} {v : Value} {L : List SpI} (H : Hold s0 s l) (a : SlC s0 3 v L.length (L.flatMap eI)) (hn : L.length ≤ 5864062014634) :
    CallP X 16 [v] s (fun r s' => Hold s0 s' (HP.lent 3 r L.length (L.flatMap eI) mk77 :: l)) := by
  refine CallP_of (hX ▸ ir16_eq) (ho _ _ (by decide)) (Nat.le_of_ble_eq_true rfl) ?_
  refine W_seq (W_ops [0] ?_)
  simp only [o16_0, WO_move, WO_nil, geT_put, frame_nil, frame_cons, evO_const, keep_nil, keep_cons, keepK_eq, Nat.reduceEqDiff, ↓reduceIte, eq_self, Nat.zero_add]
  intro fr e0
  refine SeqK_n ?_
  have hb0 : buildSlV s 3 [.int .i64 0, .int .i64 0, .float .f64 0] 0 [] = some (.slice (some ⟨s.nxt, 0, none⟩) 0 0, .cells [] false) := rfl
  have H1 := (H.new []).cellOwn (sz := 3) (n := 0) rfl (by decide)
  have r1 := a.same H1.same (fun _ _ h => h)
  obtain ⟨v1, s2, ap1, H2⟩ := H1.append (bytes := 24) r1.src (eI_len _) (eI_one _) (by omega) (by decide) (by omega) (by omega) (by omega)
  simp only [Nat.zero_add, List.nil_append] at H2
  have hbu : buildV [.int .i64 0, .int .i64 0, .float .f64 0] [(0, 1, .int .i64 77)] = some (.agg #[.int .i64 77, .int .i64 0, .float .f64 0]) := rfl
  have hb1 : buildSlV s2 3 [.int .i64 0, .int .i64 0, .float .f64 0] 1 [(0, 3, .agg #[.int .i64 77, .int .i64 0, .float .f64 0])] = some (.slice (some ⟨s2.nxt, 0, none⟩) 1 1, .cells mk77 false) := rfl
  obtain ⟨v2, s3, ap2, H3⟩ := H2.push (bytes := 24) (new := mk77) rfl rfl (by omega) (by decide) (by omega) (by omega) (by omega)
  refine W_seq (W_ops [0, 3] ?_)
  simp only [o16_1, WO_append, WO_build, WO_buildSlice, WO_move, WO_nil, PureK_some, MemK_some, NewK_some, geT_put, evO_tmp, evO_const, keep_nil, keep_cons, keepK_eq, List.map_cons, List.map_nil, Nat.reduceEqDiff, ↓reduceIte, eq_self, Nat.zero_mul, e0, hb0, ap1, hbu, hb1, ap2]
  clear e0
  intro fr e0 e3
  refine SeqK_n ?_
  have hsl := (H3.own (List.mem_cons_self ..)).slc.sl0 (k2 := .i64) (j := ((L.length : Nat) : Int)) rfl (Nat.le_succ _)
  have r3 := a.same H3.same (fun _ _ h => h)
  refine W_seq (W_ops [2] ?_)
  simp only [o16_2, WO_bu, WO_move, WO_slSl, WO_nil, PureK_some, geT_put, evO_tmp, keep_nil, keep_cons, keepK_eq, List.map_cons, List.map_nil, Option.map_some, Option.map_none, Nat.reduceEqDiff, ↓reduceIte, eq_self, e0, e3, r3.len, hsl]
  clear e0 e3
  intro fr e2
  refine SeqK_n ?_
  exact W_ret (Ret1 e2 (H3.lend rfl))

set_option maxHeartbeats 1000000 in
theorem run13i {X : Ctx} (hX : X.fns = fnsOf Try.prog) (ho : ∀ f args, f ≠ 15 → X.orc f args = none) {s : Mm} {v v' : Value} {L : List SpI} (a1 : SlC s 3 v L.length (L.flatMap eI)) (a2 : SlC s 3 v' L.length (L.flatMap eI)) (hl : L.length ≤ 4611686018427387904) :
    CallP X 13 [v, v'] s (fun r s' => r = .bool true ∧ s = s') := by
  refine CallP_of (hX ▸ ir13_eq) (ho _ _ (by decide)) (Nat.le_of_ble_eq_true rfl) ?_
  refine W_seq (W_ops [0, 1] ?_)
  simp only [o13_0, WO_move, WO_nil, geT_put, frame_nil, frame_cons, evO_const, keep_nil, keep_cons, keepK_eq, Nat.reduceEqDiff, Nat.reduceAdd, ↓reduceIte, eq_self, Nat.zero_add]
  intro fr e0 e1
  refine SeqK_n ?_
  refine W_assoc ?_
  refine W_seq (W_ops [0, 1, 10] ?_)
  simp only [o13_1, WO_bin, WO_bu, WO_move, bin_neq, WO_nil, PureK_some, geT_put, evO_tmp, keep_nil, keep_cons, keepK_eq, List.map_cons, List.map_nil, Nat.reduceEqDiff, ↓reduceIte, Bool.not_true, decide_true, eq_self, e0, e1, a1.len, a2.len]
  clear e0 e1
  intro fr e0 e1 e10
  refine SeqK_n ?_
  refine W_seq (W_cond e10 (fun h => by cases h) (fun _ => W_skip (SeqK_n ?_)))
  refine W_assoc ?_
  refine W_seq (W_ops [0, 1, 5] ?_)
  simp only [o13_3, WO_move, WO_nil, geT_put, evO_const, keep_nil, keep_cons, keepK_eq, Nat.reduceEqDiff, ↓reduceIte, eq_self, e0, e1]
  clear e0 e1 e10
  intro fr e0 e1 e5
  refine SeqK_n ?_
  refine W_seq (W_block (W_loop (fun m fr s1 => ∃ k, k + m = L.length ∧ s = s1 ∧ geT fr 0 = v ∧ geT fr 1 = v' ∧ geT fr 5 = .int .i64 (k : Nat)) L.length ⟨0, by omega, rfl, e0, e1, e5⟩ ?_))
  clear e0 e1 e5 fr
  rintro m fr _ ⟨k, hk, rfl, e0, e1, e5⟩
  refine W_assoc ?_
  refine W_seq (W_ops [0, 1, 5, 14] ?_)
  simp only [o13_5, WO_bin, WO_bu, WO_move, bin_lss, WO_nil, PureK_some, geT_put, evO_tmp, keep_nil, keep_cons, keepK_eq, List.map_cons, List.map_nil, Nat.reduceEqDiff, ↓reduceIte, eq_self, e0, e1, e5, a1.len]
  clear e0 e1 e5
  intro fr e0 e1 e5 e14
  refine SeqK_n ?_
  refine W_while e14 (fun hlt => ?_) (fun hlt => ?_)
  · have hk1 : k < L.length := by omega
    obtain ⟨f0, f1, f2, f3⟩ := flatI hk1
    have q1 := a1.addr (kk := .i64) (i := (k : Int)) rfl hk1
    have q2 := a2.addr (kk := .i64) (i := (k : Int)) rfl hk1
    have p0 := a1.fld (by omega) (k * 3) 0
    have p1 := a1.fld (by omega) (k * 3) 1
    have p2 := a1.fld (by omega) (k * 3) 2
    have r0 := a2.fld (by omega) (k * 3) 0
    have r1 := a2.fld (by omega) (k * 3) 1
    have r2 := a2.fld (by omega) (k * 3) 2
    rw [Nat.add_zero] at p0 r0
    have l0 := a1.load f0
    have l1 := a1.load f1
    have l2 := a1.load f2
    have m0 := a2.load f0
    have m1 := a2.load f1
    have m2 := a2.load f2
    refine W_seq (W_block ?_)
    refine W_seq (W_draw0 [0, 1, 5, 54] rfl ?_)
    simp only [d13_6, WD_addrSl, WD_bin, WD_call, WD_fieldAddr, WD_load, WD_move, WD_pick, pick_b, bin_neq, want_v, wantB_f, DPureK_some, DReadK_some, pastR_nil, joinF_nil, setH_self, geT_put, evO_tmp, evO_const, List.map_cons, List.map_nil, Nat.reduceEqDiff, Nat.reduceAdd, ↓reduceIte, Bool.not_true, Bool.not_false, decide_true, eq_self, Bool.false_eq_true, true_and, Nat.zero_add, e0, e1, e5, WD_yes, q1, q2, p0, p1, p2, r0, r1, r2, l0, l1, l2, m0, m1, m2]
    refine DCallK_of rfl (run22 hX ho) ?_
    rintro _ _ ⟨rfl, rfl⟩
    simp only [WD_pick, pick_b, WD_un, un_not, want_v, wantB_f, WD_nil, DPureK_some, joinF_nil, joinAll_nil, setH_self, Nat.testBit, Nat.reduceShiftRight, Nat.reduceAnd, Nat.reduceBneDiff, List.all_nil, List.all_cons, List.filter_nil, List.filter_cons, geT_put, evO_tmp, evO_const, keep_nil, keep_cons, keepK_eq, Nat.reduceEqDiff, Nat.reduceAdd, ↓reduceIte, Bool.not_true, Bool.not_false, Bool.and_true, Bool.true_or, eq_self, Bool.false_eq_true, true_and, e0, e1, e5, WD_yes]
    clear e0 e1 e5 e14
    intro fr e0 e1 e5 e54
    refine SeqK_n ?_
    refine W_cond e54 (fun h => by cases h) (fun _ => W_skip (BlkK_n (SeqK_n ?_)))
    refine W_ops [0, 1, 5] ?_
    simp only [o13_8, WO_bin, WO_move, bin_add, WO_nil, PureK_some, geT_put, evO_tmp, evO_const, keep_nil, keep_cons, keepK_eq, Nat.reduceEqDiff, ↓reduceIte, eq_self, e0, e1, e5, wrap_i64 (n := (k : Int) + 1) (by omega) (by omega)]
    clear e0 e1 e5 e54
    intro fr e0 e1 e5
    exact LoopK_n (m' := m - 1) (by omega) ⟨k + 1, by omega, rfl, e0, e1, by rw [e5]; rfl⟩
  · refine LoopK_x (BlkK_e (SeqK_n ?_))
    refine W_seq (W_ops [4] ?_)
    simp only [o13_9, WO_move, WO_nil, geT_put, evO_const, keep_nil, keep_cons, keepK_eq, ↓reduceIte, eq_self]
    clear e0 e1 e5 e14
    intro fr e4
    refine SeqK_n ?_
    exact W_ret (Ret1 e4 ⟨rfl, rfl⟩)

theorem run19 {X : Ctx} (hX : X.fns = fnsOf Try.prog) (ho : ∀ f args, f ≠ 15 → X.orc f args = none) {s : Mm} {c v : Value} {L : List SpI} (Le : Lent s 3 c L.length (L.flatMap eI) mk77) (a : SlC s 3 v L.length (L.flatMap eI)) (hl : L.length ≤ 5864062014634) :
    CallP X 19 [c, v] s (fun r s' => r = .bool true ∧ s = s') := by
  obtain ⟨room, hsl, r3⟩ := Le.mark (k := .i64) (i := ((L.length : Nat) : Int) + 1) rfl
  have B3 := r3.addr (kk := .i64) (i := ((L.length : Nat) : Int)) rfl (Nat.lt_succ_self _)
  have p0 := r3.fld (by omega) (L.length * 3) 0
  rw [Nat.add_zero] at p0
  have A3 : loadV s none (elP room (L.length * 3)) = some (.int .i64 77) := by
    refine r3.load ?_
    rw [List.getElem?_append_right (by rw [eI_len]; omega), eI_len, Nat.sub_self]; rfl
  refine CallP_of (hX ▸ ir19_eq) (ho _ _ (by decide)) (Nat.le_of_ble_eq_true rfl) ?_
  refine W_seq (W_ops [0, 1] ?_)
  simp only [o19_0, WO_move, WO_nil, geT_put, frame_nil, frame_cons, evO_const, keep_nil, keep_cons, keepK_eq, Nat.reduceEqDiff, Nat.reduceAdd, ↓reduceIte, eq_self, Nat.zero_add]
  intro fr e0 e1
  refine SeqK_n ?_
  refine W_seq (W_ops [4] ?_)
  simp only [o19_1, WO_call, WO_move, geT_put, evO_tmp, List.map_cons, List.map_nil, Nat.reduceEqDiff, ↓reduceIte, eq_self, e0, e1]
  refine CallK_of (run13i hX ho (Le.slc (eI_len _)) a (by omega)) ?_
  rintro _ _ ⟨rfl, rfl⟩
  simp only [WO_addrSl, WO_bin, WO_bu, WO_fieldAddr, WO_load, WO_move, WO_pick, pick_b, WO_slSl, bin_add, bin_eql, WO_nil, PureK_some, WO_guard, want_v, wantB_t, geT_put, evO_tmp, evO_const, keep_nil, keep_cons, keepK_eq, List.map_cons, List.map_nil, Option.map_some, Option.map_none, Nat.reduceEqDiff, ↓reduceIte, decide_true, eq_self, e0, e1, a.len, wrap_i64 (n := ((L.length : Nat) : Int) + 1) (by omega) (by omega), hsl, B3, p0, A3]
  clear e0 e1
  intro fr e4
  refine SeqK_n ?_
  exact W_ret (Ret1 e4 ⟨rfl, rfl⟩)

end Go.Proofs.Ytpphomoijlilfaa

/- PeaksCentre: the program's Centre, walked. -/
namespace Go.Proofs.Ytpphomoijlilfaa
open Go Go.Vam

def z4 : List Value := [.float .f64 0, .float .f64 0, .float .f64 0, .int .i64 0]
def z3 : List Value := [.int .i64 0, .int .i64 0, .float .f64 0]
def z2 : List Value := [.float .f64 0, .float .f64 0]


set_option maxHeartbeats 4000000 in
theorem run20 {X : Ctx} (hX : X.fns = fnsOf Try.prog) (ho : ∀ f args, f ≠ 15 → X.orc f args = none) {s : Mm} {v : Value} {L : List SpI} {n : Int} (a : SlC s 3 v L.length (L.flatMap eI)) (hl : L.length ≤ 5864062014634) :
    CallP X 20 [v, .int .i64 n] s (fun r s' => r = .agg (cenF L (cl n 0 1073741824)).toArray ∧ Same s s' (fun _ => False)) := by
  have hBb : 0 ≤ cl n 0 1073741824 ∧ cl n 0 1073741824 ≤ 1073741824 := by unfold cl; omega
  refine CallP_of (hX ▸ ir20_eq) (ho _ _ (by decide)) (Nat.le_of_ble_eq_true rfl) ?_
  refine W_seq (W_ops [0, 1, 4] ?_)
  simp only [o20_0, WO_alloc, WO_nil, geT_put, frame_nil, frame_cons, keep_nil, keep_cons, keepK_eq, Nat.reduceEqDiff, Nat.reduceAdd, ↓reduceIte, eq_self, Nat.zero_add]
  intro fr e0 e1 e4
  refine SeqK_n ?_
  have H := (Hold.refl s).new z4
  have hz4 : newAt s (.cells [.float .f64 0, .float .f64 0, .float .f64 0, .int .i64 0] false) = newAt s (.cells z4 false) := rfl
  rw [hz4]
  generalize newAt s (.cells z4 false) = s1 at H ⊢
  obtain ⟨Br, hBr⟩ : ∃ B, B = s.nxt := ⟨_, rfl⟩
  rw [← hBr] at H e4
  clear hz4
  have d0 : decide (((L.length : Nat) : Int) = 0) = decide (L.length = 0) := decide_eq_decide.2 (by omega)
  refine W_assoc ?_
  refine W_seq (W_ops [0, 1, 4, 22] ?_)
  simp only [o20_1, WO_bin, WO_bu, WO_move, bin_eql, WO_nil, PureK_some, geT_put, evO_tmp, evO_const, keep_nil, keep_cons, keepK_eq, List.map_cons, List.map_nil, Nat.reduceEqDiff, ↓reduceIte, eq_self, e0, e1, e4, a.len, d0]
  clear e0 e1 e4
  intro fr e0 e1 e4 e22
  refine SeqK_n ?_
  by_cases h0 : L.length = 0
  · rw [decide_eq_true h0] at e22
    refine W_seq (W_cond e22 (fun _ => ?_) (fun h => by cases h))
    have hb : buildV [.float .f64 0, .float .f64 0, .float .f64 0, .int .i64 0] [] = some (.agg z4.toArray) := rfl
    have st := store_all (n := 4) (vs := z4) (H.cell (List.mem_cons_self ..)) rfl rfl rfl
    have H2 := H.setc (cs' := z4)
    refine W_seq (W_ops [4] ?_)
    simp only [o20_2, WO_build, WO_store, WO_nil, PureK_some, MemK_some, geT_put, puT_none, evO_tmp, keep_nil, keep_cons, keepK_eq, List.map_nil, Nat.reduceEqDiff, ↓reduceIte, eq_self, e4, hb, st]
    clear e0 e1 e4 e22
    intro fr e4
    refine SeqK_n ?_
    have hL : L = [] := List.eq_nil_of_length_eq_zero h0
    exact W_ret (SeqK_r (RetC1 e4 (loadn_all (H2.cell (List.mem_cons_self ..)) rfl) ⟨by rw [cenF, if_pos hL]; rfl, H2.same⟩))
  have hL : L ≠ [] := fun h => h0 (by rw [h]; rfl)
  rw [decide_eq_false h0] at e22
  refine W_seq (W_cond e22 (fun h => by cases h) (fun _ => W_skip (SeqK_n ?_)))
  refine W_seq (W_ops [0, 1, 4] ?_)
  simp only [o20_3, WO_call, WO_move, geT_put, evO_tmp, evO_const, List.map_cons, List.map_nil, ↓reduceIte, eq_self, e1]
  refine CallK_of (run43 hX ho (by decide)) ?_
  rintro _ _ ⟨rfl, rfl⟩
  simp only [WO_move, WO_nil, geT_put, evO_tmp, keep_nil, keep_cons, keepK_eq, Nat.reduceEqDiff, ↓reduceIte, eq_self, e0, e4]
  clear e0 e1 e4 e22
  intro fr e0 e1 e4
  refine SeqK_n ?_
  obtain ⟨B, hB⟩ : ∃ B, B = cl n 0 1073741824 := ⟨_, rfl⟩
  rw [← hB] at e1 hBb ⊢
  refine W_seq (W_ops [0, 1, 4, 5, 6] ?_)
  simp only [o20_4, WO_move, WO_nil, geT_put, evO_const, keep_nil, keep_cons, keepK_eq, Nat.reduceEqDiff, ↓reduceIte, eq_self, e0, e1, e4]
  clear e0 e1 e4
  intro fr e0 e1 e4 e5 e6
  refine SeqK_n ?_
  refine W_assoc ?_
  refine W_seq (W_ops [0, 1, 4, 5, 6, 26, 27, 28] ?_)
  simp only [o20_5, WO_bu, WO_move, WO_nil, PureK_some, geT_put, evO_tmp, evO_const, keep_nil, keep_cons, keepK_eq, List.map_cons, List.map_nil, Nat.reduceEqDiff, ↓reduceIte, eq_self, e0, e1, e4, e5, e6, a.len]
  clear e0 e1 e4 e5 e6
  intro fr e0 e1 e4 e5 e6 e26 e27 e28
  refine SeqK_n ?_
  refine W_seq (W_block (W_loop (fun m fr s1 => ∃ k, k + m = L.length ∧ geT fr 0 = v ∧ geT fr 1 = .int .i64 B ∧ geT fr 4 = .pointer (some ⟨Br, 0, none⟩) ∧ geT fr 5 = .int .i64 (topUp L k : Nat) ∧ geT fr 6 = .float .f64 (sumN (powF L) k) ∧ geT fr 26 = v ∧ geT fr 27 = .int .i64 (L.length : Nat) ∧ geT fr 28 = .int .i64 (k : Nat) ∧
    Hold s s1 [HP.cell Br z4]) L.length ⟨0, by omega, e0, e1, e4, e5, e6, e26, e27, e28, H⟩ ?_))
  clear e0 e1 e4 e5 e6 e26 e27 e28 fr H s1
  rintro m fr s1 ⟨k, hk, e0, e1, e4, e5, e6, e26, e27, e28, H⟩
  refine W_seq (W_ops [0, 1, 4, 5, 6, 26, 27, 28, 29] ?_)
  simp only [o20_7, WO_bin, bin_lss, WO_nil, PureK_some, geT_put, evO_tmp, keep_nil, keep_cons, keepK_eq, Nat.reduceEqDiff, ↓reduceIte, eq_self, e0, e1, e4, e5, e6, e26, e27, e28]
  clear e0 e1 e4 e5 e6 e26 e27 e28
  intro fr e0 e1 e4 e5 e6 e26 e27 e28 e29
  refine SeqK_n ?_
  refine W_while e29 (fun hlt => ?_) (fun hlt => ?_)
  · have hk1 : k < L.length := by omega
    have htl := topUp_lt (L := L) (k := k) (by omega) (by omega)
    obtain ⟨x, hx⟩ : ∃ x, x = atI L k := ⟨_, rfl⟩
    obtain ⟨y, hy⟩ : ∃ y, y = atI L (topUp L k) := ⟨_, rfl⟩
    have aK := a.addr (kk := .i64) (i := (k : Int)) rfl hk1
    have aT := a.addr (kk := .i64) (i := ((topUp L k : Nat) : Int)) rfl htl
    have p2 := a.fld (by omega) (topUp L k * 3) 2
    have lK : loadV s1 (some 3) (elP v (k * 3)) = some (sI x) := by
      rw [(a.same H.same (fun _ _ h => h)).loads (by omega) (by omega), (flatI hk1).2.2.2, hx]; rfl
    have H2 := H.new z3
    have st : storeV (newAt s1 (.cells z3 false)) 3 (.pointer (some ⟨s1.nxt, 0, none⟩)) (sI x) = some (undefV, setBlk (newAt s1 (.cells z3 false)) s1.nxt (.cells (eI x) false)) := store_all (vs := eI x) (H2.cell (List.mem_cons_self ..)) rfl rfl rfl
    have H3 := H2.setc (cs' := eI x)
    have hz : newAt s1 (.cells [.int .i64 0, .int .i64 0, .float .f64 0] false) = newAt s1 (.cells z3 false) := rfl
    refine W_seq (W_block ?_)
    refine W_seq (W_ops [0, 1, 4, 5, 6, 7, 8, 26, 27, 28] ?_)
    simp only [o20_8, WO_addrSl, WO_alloc, WO_load, WO_move, WO_store, WO_nil, PureK_some, MemK_some, geT_put, puT_none, evO_tmp, keep_nil, keep_cons, keepK_eq, Nat.reduceEqDiff, ↓reduceIte, eq_self, e0, e1, e4, e5, e6, e26, e27, e28, aK, lK, hz, st]
    clear e0 e1 e4 e5 e6 e26 e27 e28 e29
    intro fr e0 e1 e4 e5 e6 e7 e8 e26 e27 e28
    refine SeqK_n ?_
    clear H2 st hz
    generalize setBlk (newAt s1 (.cells z3 false)) s1.nxt (.cells (eI x) false) = s2 at H3 ⊢
    generalize s1.nxt = Bs at H3 e8
    have lx : loadV s2 none (.pointer (some ⟨Bs, 2, none⟩)) = some (.float .f64 x.2.2) := load_g (o := 2) (H3.cell (List.mem_cons_self ..))
    have lT : loadV s2 none (elP v (topUp L k * 3 + 2)) = some (.float .f64 y.2.2) := by
      rw [hy]; exact (a.same H3.same (fun _ _ h => h)).load (flatI htl).2.2.1
    have hts : topUp L (k + 1) = if aboveB x.2.2 y.2.2 = true then k else topUp L k := by rw [hx, hy]; rfl
    refine W_seq (W_cutN (fun fr1 s6 => s2 = s6 ∧ geT fr1 0 = v ∧ geT fr1 1 = .int .i64 B ∧ geT fr1 4 = .pointer (some ⟨Br, 0, none⟩) ∧ geT fr1 5 = .int .i64 (topUp L (k + 1) : Nat) ∧ geT fr1 6 = .float .f64 (sumN (powF L) k) ∧ geT fr1 7 = .int .i64 (k : Nat) ∧ geT fr1 8 = .pointer (some ⟨Bs, 0, none⟩) ∧ geT fr1 26 = v ∧ geT fr1 27 = .int .i64 (L.length : Nat) ∧ geT fr1 28 = .int .i64 (k : Nat)) ?_ ?_)
    · intro R' hR'
      refine W_seq (W_ops [0, 1, 4, 5, 6, 7, 8, 9, 26, 27, 28] ?_)
      simp only [o20_9, WO_addrSl, WO_fieldAddr, WO_load, WO_move, WO_nil, PureK_some, geT_put, evO_tmp, keep_nil, keep_cons, keepK_eq, Nat.reduceEqDiff, ↓reduceIte, eq_self, e0, e1, e4, e5, e6, e7, e8, e26, e27, e28, aT, p2, lT]
      clear e0 e1 e4 e5 e6 e7 e8 e26 e27 e28
      intro fr e0 e1 e4 e5 e6 e7 e8 e9 e26 e27 e28
      refine SeqK_n ?_
      refine W_seq (W_opsB [0, 1, 4, 5, 6, 7, 8, 26, 27, 28, 53] (fun fr1 s6 => s2 = s6 ∧ geT fr1 0 = v ∧ geT fr1 1 = .int .i64 B ∧ geT fr1 4 = .pointer (some ⟨Br, 0, none⟩) ∧ geT fr1 5 = .int .i64 (topUp L k : Nat) ∧ geT fr1 6 = .float .f64 (sumN (powF L) k) ∧ geT fr1 7 = .int .i64 (k : Nat) ∧ geT fr1 8 = .pointer (some ⟨Bs, 0, none⟩) ∧ geT fr1 26 = v ∧ geT fr1 27 = .int .i64 (L.length : Nat) ∧ geT fr1 28 = .int .i64 (k : Nat) ∧ geT fr1 53 = .bool (aboveB x.2.2 y.2.2)) ?_ ?_)
      · intro R'' hR''
        cases h1 : (ford .f64 x.2.2 y.2.2 == some .gt) with
        | true =>
          simp only [o20_10, WO_nil, WO_move, WO_pick, WO_bin, WO_fieldAddr, WO_load, WO_guard, PureK_some, geT_put, evO_tmp, evO_const, want_v, wantB_f, keep_nil, keep_cons, keepK_eq, Nat.reduceEqDiff, ↓reduceIte, pick_b, fieldAddr_p, binf_eql, binf_gtr, Bool.not_true, eq_self, Bool.false_eq_true, Nat.zero_add, e0, e1, e4, e5, e6, e7, e8, e9, e26, e27, e28, lx, h1]
          intro fr e0 e1 e4 e5 e6 e7 e8 e26 e27 e28 e53
          exact hR'' _ _ ⟨rfl, e0, e1, e4, e5, e6, e7, e8, e26, e27, e28, by rw [e53, aboveB, h1]; rfl⟩
        | false =>
          cases h2 : (ford .f64 y.2.2 y.2.2 == some .eq) with
          | true =>
            simp only [o20_10, WO_nil, WO_move, WO_pick, WO_bin, WO_fieldAddr, WO_load, WO_guard, PureK_some, geT_put, evO_tmp, evO_const, want_v, wantB_t, wantB_f, keep_nil, keep_cons, keepK_eq, Nat.reduceEqDiff, ↓reduceIte, pick_b, fieldAddr_p, binf_neq, binf_gtr, Bool.not_true, Bool.not_false, eq_self, Bool.false_eq_true, Nat.zero_add, e0, e1, e4, e5, e6, e7, e8, e9, e26, e27, e28, lx, h1, h2]
            intro fr e0 e1 e4 e5 e6 e7 e8 e26 e27 e28 e53
            exact hR'' _ _ ⟨rfl, e0, e1, e4, e5, e6, e7, e8, e26, e27, e28, by rw [e53, aboveB, h1, h2]; rfl⟩
          | false =>
            simp only [o20_10, WO_nil, WO_move, WO_pick, WO_bin, WO_fieldAddr, WO_load, WO_guard, PureK_some, geT_put, evO_tmp, evO_const, want_v, wantB_t, wantB_f, keep_nil, keep_cons, keepK_eq, Nat.reduceEqDiff, ↓reduceIte, pick_b, fieldAddr_p, binf_eql, binf_neq, binf_gtr, Bool.not_false, eq_self, Bool.false_eq_true, Nat.zero_add, e0, e1, e4, e5, e6, e7, e8, e9, e26, e27, e28, lx, h1, h2]
            intro fr e0 e1 e4 e5 e6 e7 e8 e26 e27 e28 e53
            exact hR'' _ _ ⟨rfl, e0, e1, e4, e5, e6, e7, e8, e26, e27, e28, by rw [e53, aboveB, h1, h2]; simp⟩
      clear e0 e1 e4 e5 e6 e7 e8 e9 e26 e27 e28 fr
      rintro fr _ ⟨rfl, e0, e1, e4, e5, e6, e7, e8, e26, e27, e28, e53⟩
      refine SeqK_n ?_
      by_cases hab : aboveB x.2.2 y.2.2 = true
      · rw [hab] at e53
        rw [if_pos hab] at hts
        refine W_cond e53 (fun _ => ?_) (fun h => by cases h)
        refine W_ops [0, 1, 4, 5, 6, 7, 8, 26, 27, 28] ?_
        simp only [o20_11, WO_move, WO_nil, geT_put, evO_tmp, keep_nil, keep_cons, keepK_eq, Nat.reduceEqDiff, ↓reduceIte, eq_self, e0, e1, e4, e6, e7, e8, e26, e27, e28]
        clear e0 e1 e4 e6 e7 e8 e26 e27 e28 e53
        intro fr e0 e1 e4 e5 e6 e7 e8 e26 e27 e28
        exact hR' _ _ ⟨rfl, e0, e1, e4, by rw [e5, hts], e6, e7, e8, e26, e27, e28⟩
      · rw [if_neg hab] at hts
        rw [Bool.not_eq_true] at hab
        rw [hab] at e53
        refine W_cond e53 (fun h => by cases h) (fun _ => W_skip ?_)
        exact hR' _ _ ⟨rfl, e0, e1, e4, by rw [e5, hts], e6, e7, e8, e26, e27, e28⟩
    clear e0 e1 e4 e5 e6 e7 e8 e26 e27 e28 fr
    rintro fr _ ⟨rfl, e0, e1, e4, e5, e6, e7, e8, e26, e27, e28⟩
    refine SeqK_n ?_
    refine W_seq (W_ops [0, 1, 4, 5, 6, 7, 8, 26, 27, 28] ?_)
    simp only [o20_12, WO_bin, WO_fieldAddr, fieldAddr_p, WO_load, WO_move, binf_add, WO_nil, PureK_some, geT_put, evO_tmp, keep_nil, keep_cons, keepK_eq, Nat.reduceEqDiff, ↓reduceIte, eq_self, Nat.zero_add, e0, e1, e4, e5, e6, e7, e8, e26, e27, e28, lx]
    clear e0 e1 e4 e5 e6 e7 e8 e26 e27 e28
    intro fr e0 e1 e4 e5 e6 e7 e8 e26 e27 e28
    refine SeqK_n ?_
    have dk : decide (((k : Nat) : Int) = 0) = decide (k = 0) := decide_eq_decide.2 (by omega)
    have hpx : powF L k = x.2.2 := by rw [hx]; rfl
    refine W_seq (W_ops [0, 1, 4, 5, 6, 8, 26, 27, 28, 60] ?_)
    simp only [o20_13, WO_bin, WO_move, bin_eql, WO_nil, PureK_some, geT_put, evO_tmp, evO_const, keep_nil, keep_cons, keepK_eq, Nat.reduceEqDiff, ↓reduceIte, eq_self, e0, e1, e4, e5, e6, e7, e8, e26, e27, e28, dk]
    clear e0 e1 e4 e5 e6 e7 e8 e26 e27 e28
    intro fr e0 e1 e4 e5 e6 e8 e26 e27 e28 e60
    refine SeqK_n ?_
    by_cases hk0 : k = 0
    · rw [decide_eq_true hk0] at e60
      refine W_cond e60 (fun _ => ?_) (fun h => by cases h)
      refine W_ops [0, 1, 4, 5, 6, 26, 27, 28] ?_
      simp only [o20_14, WO_fieldAddr, fieldAddr_p, WO_load, WO_move, WO_nil, PureK_some, geT_put, evO_tmp, keep_nil, keep_cons, keepK_eq, Nat.reduceEqDiff, ↓reduceIte, eq_self, Nat.zero_add, e0, e1, e4, e5, e8, e26, e27, e28, lx]
      clear e0 e1 e4 e5 e6 e8 e26 e27 e28 e60
      intro fr e0 e1 e4 e5 e6 e26 e27 e28
      refine BlkK_n (SeqK_n ?_)
      refine W_ops [0, 1, 4, 5, 6, 26, 27, 28] ?_
      simp only [o20_15, WO_bin, WO_move, bin_add, WO_nil, PureK_some, geT_put, evO_tmp, evO_const, keep_nil, keep_cons, keepK_eq, Nat.reduceEqDiff, ↓reduceIte, eq_self, e0, e1, e4, e5, e6, e26, e27, e28, wrap_i64 (n := (k : Int) + 1) (by omega) (by omega)]
      clear e0 e1 e4 e5 e6 e26 e27 e28
      intro fr e0 e1 e4 e5 e6 e26 e27 e28
      exact LoopK_n (m' := m - 1) (by omega) ⟨k + 1, by omega, e0, e1, e4, e5, by rw [e6, ← hpx, hk0]; rfl, e26, e27, by rw [e28]; rfl, H3.tail⟩
    · rw [decide_eq_false hk0] at e60
      refine W_cond e60 (fun h => by cases h) (fun _ => W_skip (BlkK_n (SeqK_n ?_)))
      refine W_ops [0, 1, 4, 5, 6, 26, 27, 28] ?_
      simp only [o20_15, WO_bin, WO_move, bin_add, WO_nil, PureK_some, geT_put, evO_tmp, evO_const, keep_nil, keep_cons, keepK_eq, Nat.reduceEqDiff, ↓reduceIte, eq_self, e0, e1, e4, e5, e6, e26, e27, e28, wrap_i64 (n := (k : Int) + 1) (by omega) (by omega)]
      clear e0 e1 e4 e5 e6 e26 e27 e28 e60
      intro fr e0 e1 e4 e5 e6 e26 e27 e28
      exact LoopK_n (m' := m - 1) (by omega) ⟨k + 1, by omega, e0, e1, e4, e5, by rw [e6, sumN_succ (by omega), hpx], e26, e27, by rw [e28]; rfl, H3.tail⟩
  · have hkn : k = L.length := by omega
    subst hkn
    refine LoopK_x (BlkK_e (SeqK_n ?_))
    obtain ⟨t, ht⟩ : ∃ t, t = topUp L L.length := ⟨_, rfl⟩
    have htl : t < L.length := by rw [ht]; exact topUp_lt (Nat.le_refl _) (by omega)
    obtain ⟨S, hS⟩ : ∃ S, S = sumN (powF L) L.length := ⟨_, rfl⟩
    rw [← ht] at e5
    rw [← hS] at e6
    obtain ⟨y, hy⟩ : ∃ y, y = atI L t := ⟨_, rfl⟩
    have hcen : cenF L B = if stopB S = true then cenV (FloatKind.f64.nearest (cz y.1)) (FloatKind.f64.nearest (cz y.2.1)) S L.length
        else cenV (wrapB (fadd .f64 (FloatKind.f64.nearest (cz y.1)) (fdiv .f64 (sumN (mD L t B) L.length) S)) B) (fadd .f64 (FloatKind.f64.nearest (cz y.2.1)) (fdiv .f64 (sumN (mE L t) L.length) S)) S L.length := by
      rw [cenF, if_neg hL]; simp only [hy, ht, hS]
    have aT := a.addr (kk := .i64) (i := ((t : Nat) : Int)) rfl htl
    have p0 := a.fld (by omega) (t * 3) 0
    have p1 := a.fld (by omega) (t * 3) 1
    rw [Nat.add_zero] at p0
    have l0 : loadV s1 none (elP v (t * 3)) = some (.int .i64 y.1) := by rw [hy]; exact (a.same H.same (fun _ _ h => h)).load (flatI htl).1
    have l1 : loadV s1 none (elP v (t * 3 + 1)) = some (.int .i64 y.2.1) := by rw [hy]; exact (a.same H.same (fun _ _ h => h)).load (flatI htl).2.1
    refine W_seq (W_draw0 [0, 1, 4, 6, 10, 11] rfl ?_)
    simp only [d20_16, WD_addrSl, WD_call, WD_fieldAddr, WD_load, WD_move, DPureK_some, DReadK_some, pastR_nil, joinF_nil, setH_self, geT_put, evO_tmp, evO_const, List.map_cons, List.map_nil, Nat.reduceEqDiff, Nat.reduceAdd, ↓reduceIte, eq_self, true_and, Nat.zero_add, e0, e5, aT, p0, l0]
    refine DCallK_of rfl (run43 hX ho (by decide)) ?_
    rintro _ _ ⟨rfl, rfl⟩
    simp only [WD_addrSl, WD_call, WD_fieldAddr, WD_load, WD_move, DPureK_some, DReadK_some, pastR_nil, pastR_cons, joinF_nil, setH_self, Nat.testBit, Nat.reduceShiftRight, Nat.reduceAnd, Nat.reduceBneDiff, List.all_nil, List.all_cons, List.filter_nil, List.filter_cons, sameO_int, bne_self_eq_false, geT_put, evO_tmp, evO_const, List.map_cons, List.map_nil, Nat.reduceEqDiff, Nat.reduceAdd, ↓reduceIte, Bool.not_true, Bool.and_true, Bool.or_true, eq_self, Bool.false_eq_true, true_and, e0, e5, aT, p1, l0, l1]
    refine DCallK_of rfl (run43 hX ho (by decide)) ?_
    rintro _ _ ⟨rfl, rfl⟩
    simp only [WD_move, WD_nil, DPureK_some, joinF_nil, joinAll_nil, setH_self, Nat.testBit, Nat.reduceShiftRight, Nat.reduceAnd, Nat.reduceBneDiff, List.all_nil, List.all_cons, List.filter_nil, List.filter_cons, geT_put, evO_tmp, keep_nil, keep_cons, keepK_eq, Nat.reduceEqDiff, Nat.reduceAdd, ↓reduceIte, Bool.not_true, Bool.and_true, Bool.true_or, eq_self, Bool.false_eq_true, true_and, e0, e1, e4, e6]
    clear e0 e1 e4 e5 e6 e26 e27 e28 e29
    intro fr e0 e1 e4 e6 e10 e11
    refine SeqK_n ?_
    have hcy : cl y.1 (-1073741824) 1073741824 = cz y.1 := rfl
    have hcy2 : cl y.2.1 (-1073741824) 1073741824 = cz y.2.1 := rfl
    rw [hcy] at e10
    rw [hcy2] at e11
    have hby := cz_bd y.1
    have hby2 := cz_bd y.2.1
    clear hcy hcy2 p0 p1 l0 l1 aT hk hlt
    obtain ⟨b0, hb0⟩ : ∃ b, b = FloatKind.f64.nearest (cz y.1) := ⟨_, rfl⟩
    obtain ⟨g0, hg0⟩ : ∃ g, g = FloatKind.f64.nearest (cz y.2.1) := ⟨_, rfl⟩
    rw [← hb0, ← hg0] at hcen
    have hb : buildV [.float .f64 0, .float .f64 0, .float .f64 0, .int .i64 0] [(0, 1, .float .f64 b0), (1, 1, .float .f64 g0), (2, 1, .float .f64 S), (3, 1, .int .i64 (L.length : Nat))] = some (.agg (cenV b0 g0 S L.length).toArray) := rfl
    have H2 := H.new z4
    have st := store_all (n := 4) (vs := cenV b0 g0 S L.length) (H2.cell (List.mem_cons_self ..)) rfl rfl rfl
    have H3 := H2.setc (cs' := cenV b0 g0 S L.length)
    have hz : newAt s1 (.cells [.float .f64 0, .float .f64 0, .float .f64 0, .int .i64 0] false) = newAt s1 (.cells z4 false) := rfl
    refine W_seq (W_ops [0, 1, 4, 6, 10, 11, 12] ?_)
    simp only [o20_17, WO_alloc, WO_bu, WO_build, WO_conv, conv_float, WO_move, WO_store, WO_nil, PureK_some, MemK_some, geT_put, puT_none, evO_tmp, keep_nil, keep_cons, keepK_eq, List.map_cons, List.map_nil, Nat.reduceEqDiff, ↓reduceIte, eq_self, e0, e1, e4, e6, e10, e11, ← hb0, ← hg0, a.len, hb, hz, st]
    clear e0 e1 e4 e6 e10 e11
    intro fr e0 e1 e4 e6 e10 e11 e12
    refine SeqK_n ?_
    clear H2 st hz hb
    generalize setBlk (newAt s1 (.cells z4 false)) s1.nxt (.cells (cenV b0 g0 S L.length) false) = s2 at H3 ⊢
    generalize s1.nxt = Bc at H3 e12
    refine W_assoc ?_
    refine W_seq (W_opsB [0, 1, 4, 6, 10, 11, 12, 90] (fun fr1 s6 => s2 = s6 ∧ geT fr1 0 = v ∧ geT fr1 1 = .int .i64 B ∧ geT fr1 4 = .pointer (some ⟨Br, 0, none⟩) ∧ geT fr1 6 = .float .f64 S ∧ geT fr1 10 = .int .i64 (cz y.1) ∧ geT fr1 11 = .int .i64 (cz y.2.1) ∧ geT fr1 12 = .pointer (some ⟨Bc, 0, none⟩) ∧ geT fr1 90 = .bool (stopB S)) ?_ ?_)
    · intro R' hR'
      cases h1 : (ford .f64 S 0 == some .gt) with
      | false =>
        simp only [o20_18, WO_nil, WO_move, WO_pick, WO_bin, WO_un, WO_guard, PureK_some, geT_put, evO_tmp, evO_const, want_v, wantB_f, keep_nil, keep_cons, keepK_eq, Nat.reduceEqDiff, ↓reduceIte, pick_b, binf_gtr, un_not, Bool.not_true, Bool.not_false, eq_self, Bool.false_eq_true, e0, e1, e4, e6, e10, e11, e12, h1]
        intro fr e0 e1 e4 e6 e10 e11 e12 e90
        exact hR' _ _ ⟨rfl, e0, e1, e4, e6, e10, e11, e12, by rw [e90, stopB, h1]; rfl⟩
      | true =>
        simp only [o20_18, WO_move, WO_bin, WO_un, WO_call, WO_guard, PureK_some, geT_put, evO_tmp, evO_const, want_v, wantB_f, List.map_cons, List.map_nil, Nat.reduceEqDiff, ↓reduceIte, binf_gtr, un_not, Bool.not_true, Bool.not_false, eq_self, e6, h1]
        refine CallK_of (run44 hX ho) ?_
        rintro _ _ ⟨rfl, rfl⟩
        simp only [WO_nil, WO_pick, PureK_some, geT_put, evO_tmp, evO_const, keep_nil, keep_cons, keepK_eq, Nat.reduceEqDiff, ↓reduceIte, pick_b, eq_self, Bool.false_eq_true, e0, e1, e4, e6, e10, e11, e12]
        intro fr e0 e1 e4 e6 e10 e11 e12 e90
        exact hR' _ _ ⟨rfl, e0, e1, e4, e6, e10, e11, e12, by rw [e90, stopB, h1]; rfl⟩
    clear e0 e1 e4 e6 e10 e11 e12 fr
    rintro fr _ ⟨rfl, e0, e1, e4, e6, e10, e11, e12, e90⟩
    refine SeqK_n ?_
    by_cases hst : stopB S = true
    · rw [hst] at e90
      rw [if_pos hst] at hcen
      refine W_seq (W_cond e90 (fun _ => ?_) (fun h => by cases h))
      have lc : loadV s2 (some 4) (.pointer (some ⟨Bc, 0, none⟩)) = some (.agg (cenV b0 g0 S L.length).toArray) := loadn_all (H3.cell (List.mem_cons_self ..)) rfl
      have H4 := H3.up1
      have st := store_all (n := 4) (vs := cenV b0 g0 S L.length) (H4.cell (List.mem_cons_self ..)) rfl rfl rfl
      have H5 := H4.setc (cs' := cenV b0 g0 S L.length)
      refine W_seq (W_ops [4] ?_)
      simp only [o20_19, WO_load, WO_store, WO_nil, PureK_some, MemK_some, geT_put, puT_none, evO_tmp, keep_nil, keep_cons, keepK_eq, Nat.reduceEqDiff, ↓reduceIte, eq_self, e4, e12, lc, st]
      clear e0 e1 e4 e6 e10 e11 e12 e90
      intro fr e4
      refine SeqK_n ?_
      exact W_ret (SeqK_r (RetC1 e4 (loadn_all (H5.cell (List.mem_cons_self ..)) rfl) ⟨by rw [hcen], H5.same⟩))
    · rw [if_neg hst] at hcen
      rw [Bool.not_eq_true] at hst
      rw [hst] at e90
      refine W_seq (W_cond e90 (fun h => by cases h) (fun _ => W_skip (SeqK_n ?_)))
      refine W_seq (W_ops [0, 1, 4, 6, 10, 11, 12, 13] ?_)
      simp only [o20_20, WO_alloc, WO_nil, geT_put, keep_nil, keep_cons, keepK_eq, Nat.reduceEqDiff, ↓reduceIte, eq_self, e0, e1, e4, e6, e10, e11, e12]
      clear e0 e1 e4 e6 e10 e11 e12 e90
      intro fr e0 e1 e4 e6 e10 e11 e12 e13
      refine SeqK_n ?_
      have H4 := H3.new z2
      have hz : newAt s2 (.cells [.float .f64 0, .float .f64 0] false) = newAt s2 (.cells z2 false) := rfl
      rw [hz]
      generalize newAt s2 (.cells z2 false) = s3 at H4 ⊢
      generalize s2.nxt = Bm at H4 e13
      clear H3 H hz
      refine W_assoc ?_
      refine W_seq (W_ops [1, 4, 6, 10, 11, 12, 13, 92, 93, 94] ?_)
      simp only [o20_21, WO_bu, WO_move, WO_nil, PureK_some, geT_put, evO_tmp, evO_const, keep_nil, keep_cons, keepK_eq, List.map_cons, List.map_nil, Nat.reduceEqDiff, ↓reduceIte, eq_self, e0, e1, e4, e6, e10, e11, e12, e13, a.len]
      clear e0 e1 e4 e6 e10 e11 e12 e13
      intro fr e1 e4 e6 e10 e11 e12 e13 e92 e93 e94
      refine SeqK_n ?_
      refine W_seq (W_block (W_loop (fun m fr s1 => ∃ k, k + m = L.length ∧ geT fr 1 = .int .i64 B ∧ geT fr 4 = .pointer (some ⟨Br, 0, none⟩) ∧ geT fr 6 = .float .f64 S ∧ geT fr 10 = .int .i64 (cz y.1) ∧ geT fr 11 = .int .i64 (cz y.2.1) ∧ geT fr 12 = .pointer (some ⟨Bc, 0, none⟩) ∧ geT fr 13 = .pointer (some ⟨Bm, 0, none⟩) ∧ geT fr 92 = v ∧ geT fr 93 = .int .i64 (L.length : Nat) ∧ geT fr 94 = .int .i64 (k : Nat) ∧
        Hold s s1 [HP.cell Bm [.float .f64 (sumN (mD L t B) k), .float .f64 (sumN (mE L t) k)], HP.cell Bc (cenV b0 g0 S L.length), HP.cell Br z4]) L.length ⟨0, by omega, e1, e4, e6, e10, e11, e12, e13, e92, e93, e94, H4⟩ ?_))
      clear e1 e4 e6 e10 e11 e12 e13 e92 e93 e94 fr H4 s3 s2 s1
      rintro m fr s1 ⟨k, hk, e1, e4, e6, e10, e11, e12, e13, e92, e93, e94, H⟩
      refine W_seq (W_ops [1, 4, 6, 10, 11, 12, 13, 92, 93, 94, 95] ?_)
      simp only [o20_23, WO_bin, bin_lss, WO_nil, PureK_some, geT_put, evO_tmp, keep_nil, keep_cons, keepK_eq, Nat.reduceEqDiff, ↓reduceIte, eq_self, e1, e4, e6, e10, e11, e12, e13, e92, e93, e94]
      clear e1 e4 e6 e10 e11 e12 e13 e92 e93 e94
      intro fr e1 e4 e6 e10 e11 e12 e13 e92 e93 e94 e95
      refine SeqK_n ?_
      refine W_while e95 (fun hlt => ?_) (fun hlt => ?_)
      · have hk1 : k < L.length := by omega
        obtain ⟨x, hx⟩ : ∃ x, x = atI L k := ⟨_, rfl⟩
        have hbx := cz_bd x.1
        have hbx2 := cz_bd x.2.1
        have aK := a.addr (kk := .i64) (i := (k : Int)) rfl hk1
        have lK : loadV s1 (some 3) (elP v (k * 3)) = some (sI x) := by
          rw [(a.same H.same (fun _ _ h => h)).loads (by omega) (by omega), (flatI hk1).2.2.2, hx]; rfl
        have H2 := H.new z3
        have st : storeV (newAt s1 (.cells z3 false)) 3 (.pointer (some ⟨s1.nxt, 0, none⟩)) (sI x) = some (undefV, setBlk (newAt s1 (.cells z3 false)) s1.nxt (.cells (eI x) false)) := store_all (vs := eI x) (H2.cell (List.mem_cons_self ..)) rfl rfl rfl
        have H3 := H2.setc (cs' := eI x)
        have hz : newAt s1 (.cells [.int .i64 0, .int .i64 0, .float .f64 0] false) = newAt s1 (.cells z3 false) := rfl
        refine W_seq (W_block ?_)
        refine W_seq (W_ops [1, 4, 6, 10, 11, 12, 13, 14, 15, 92, 93, 94] ?_)
        simp only [o20_24, WO_addrSl, WO_alloc, WO_load, WO_move, WO_store, WO_nil, PureK_some, MemK_some, geT_put, puT_none, evO_tmp, keep_nil, keep_cons, keepK_eq, Nat.reduceEqDiff, ↓reduceIte, eq_self, e1, e4, e6, e10, e11, e12, e13, e92, e93, e94, aK, lK, hz, st]
        clear e1 e4 e6 e10 e11 e12 e13 e92 e93 e94 e95
        intro fr e1 e4 e6 e10 e11 e12 e13 e14 e15 e92 e93 e94
        refine SeqK_n ?_
        clear H2 st hz
        generalize setBlk (newAt s1 (.cells z3 false)) s1.nxt (.cells (eI x) false) = s2 at H3 ⊢
        generalize s1.nxt = Bs at H3 e15
        have lx0 : loadV s2 none (.pointer (some ⟨Bs, 0, none⟩)) = some (.int .i64 x.1) := load_g (o := 0) (H3.cell (List.mem_cons_self ..))
        have lx1 : loadV s2 none (.pointer (some ⟨Bs, 1, none⟩)) = some (.int .i64 x.2.1) := load_g (o := 1) (H3.cell (List.mem_cons_self ..))
        have lx2 : loadV s2 none (.pointer (some ⟨Bs, 2, none⟩)) = some (.float .f64 x.2.2) := load_g (o := 2) (H3.cell (List.mem_cons_self ..))
        have hcx : cl x.1 (-1073741824) 1073741824 = cz x.1 := rfl
        have hcx2 : cl x.2.1 (-1073741824) 1073741824 = cz x.2.1 := rfl
        refine W_seq (W_draw0 [1, 4, 6, 10, 11, 12, 13, 14, 15, 16, 17, 92, 93, 94] rfl ?_)
        simp only [d20_25, WD_call, WD_fieldAddr, fieldAddr_p, WD_load, DPureK_some, DReadK_some, pastR_nil, joinF_nil, setH_self, geT_put, evO_tmp, evO_const, List.map_cons, List.map_nil, Nat.reduceAdd, ↓reduceIte, eq_self, true_and, Nat.zero_add, Nat.add_zero, e15, lx0]
        refine DCallK_of rfl (run43 hX ho (by decide)) ?_
        rintro _ _ ⟨rfl, rfl⟩
        simp only [WD_bin, WD_call, WD_fieldAddr, fieldAddr_p, WD_load, WD_move, bin_sub, DPureK_some, DReadK_some, pastR_nil, pastR_cons, joinF_nil, setH_self, Nat.testBit, Nat.reduceShiftRight, Nat.reduceAnd, Nat.reduceBneDiff, List.all_nil, List.all_cons, List.filter_nil, List.filter_cons, sameO_int, bne_self_eq_false, geT_put, evO_tmp, evO_const, List.map_cons, List.map_nil, Nat.reduceEqDiff, Nat.reduceAdd, ↓reduceIte, Bool.not_true, Bool.and_true, Bool.or_true, eq_self, Bool.false_eq_true, true_and, Nat.zero_add, e10, e15, lx0, lx1, hcx, wrap_i64 (n := cz x.1 - cz y.1) (by omega) (by omega)]
        refine DCallK_of rfl (run43 hX ho (by decide)) ?_
        rintro _ _ ⟨rfl, rfl⟩
        simp only [WD_bin, WD_move, bin_sub, WD_nil, DPureK_some, joinF_nil, joinAll_nil, setH_self, Nat.testBit, Nat.reduceShiftRight, Nat.reduceAnd, Nat.reduceBneDiff, List.all_nil, List.all_cons, List.filter_nil, List.filter_cons, geT_put, evO_tmp, keep_nil, keep_cons, keepK_eq, Nat.reduceEqDiff, Nat.reduceAdd, ↓reduceIte, Bool.not_true, Bool.and_true, Bool.true_or, eq_self, Bool.false_eq_true, true_and, e1, e4, e6, e10, e11, e12, e13, e14, e15, e92, e93, e94, hcx2, wrap_i64 (n := cz x.2.1 - cz y.2.1) (by omega) (by omega)]
        clear e1 e4 e6 e10 e11 e12 e13 e14 e15 e92 e93 e94
        intro fr e1 e4 e6 e10 e11 e12 e13 e14 e15 e16 e17 e92 e93 e94
        refine SeqK_n ?_
        refine W_seq (W_cutN (fun fr1 s6 => s2 = s6 ∧ geT fr1 1 = .int .i64 B ∧ geT fr1 4 = .pointer (some ⟨Br, 0, none⟩) ∧ geT fr1 6 = .float .f64 S ∧ geT fr1 10 = .int .i64 (cz y.1) ∧ geT fr1 11 = .int .i64 (cz y.2.1) ∧ geT fr1 12 = .pointer (some ⟨Bc, 0, none⟩) ∧ geT fr1 13 = .pointer (some ⟨Bm, 0, none⟩) ∧ geT fr1 14 = .int .i64 (k : Nat) ∧ geT fr1 15 = .pointer (some ⟨Bs, 0, none⟩) ∧ geT fr1 16 = .int .i64 (offI (cz x.1) (cz y.1) B) ∧ geT fr1 17 = .int .i64 (cz x.2.1 - cz y.2.1) ∧ geT fr1 92 = v ∧ geT fr1 93 = .int .i64 (L.length : Nat) ∧ geT fr1 94 = .int .i64 (k : Nat)) ?_ ?_)
        · intro R' hR'
          by_cases hp : 0 < B
          · by_cases h1 : B < 2 * (cz x.1 - cz y.1)
            · refine W_seq (W_ops [1, 4, 6, 10, 11, 12, 13, 14, 15, 16, 17, 92, 93, 94, 116] ?_)
              simp only [o20_26, WO_bin, WO_move, WO_pick, pick_b, bin_gtr, bin_mul, WO_nil, PureK_some, WO_guard, want_v, wantB_t, geT_put, evO_tmp, evO_const, keep_nil, keep_cons, keepK_eq, Nat.reduceEqDiff, ↓reduceIte, eq_self, e1, e4, e6, e10, e11, e12, e13, e14, e15, e16, e17, e92, e93, e94, decide_eq_true hp, wrap_i64 (n := 2 * (cz x.1 - cz y.1)) (by omega) (by omega), decide_eq_true h1]
              clear e1 e4 e6 e10 e11 e12 e13 e14 e15 e16 e17 e92 e93 e94
              intro fr e1 e4 e6 e10 e11 e12 e13 e14 e15 e16 e17 e92 e93 e94 e116
              refine SeqK_n ?_
              refine W_cond e116 (fun _ => ?_) (fun h => by cases h)
              refine W_ops [1, 4, 6, 10, 11, 12, 13, 14, 15, 16, 17, 92, 93, 94] ?_
              simp only [o20_27, WO_bin, WO_move, bin_sub, WO_nil, PureK_some, geT_put, evO_tmp, keep_nil, keep_cons, keepK_eq, Nat.reduceEqDiff, ↓reduceIte, eq_self, e1, e4, e6, e10, e11, e12, e13, e14, e15, e16, e17, e92, e93, e94, wrap_i64 (n := cz x.1 - cz y.1 - B) (by omega) (by omega)]
              clear e1 e4 e6 e10 e11 e12 e13 e14 e15 e16 e17 e92 e93 e94 e116
              intro fr e1 e4 e6 e10 e11 e12 e13 e14 e15 e16 e17 e92 e93 e94
              exact hR' _ _ ⟨rfl, e1, e4, e6, e10, e11, e12, e13, e14, e15, by rw [e16, offI, if_pos ⟨hp, h1⟩], e17, e92, e93, e94⟩
            · skip
              refine W_seq (W_ops [1, 4, 6, 10, 11, 12, 13, 14, 15, 16, 17, 92, 93, 94, 116] ?_)
              simp only [o20_26, WO_bin, WO_move, WO_pick, pick_b, bin_gtr, bin_mul, WO_nil, PureK_some, WO_guard, want_v, wantB_t, geT_put, evO_tmp, evO_const, keep_nil, keep_cons, keepK_eq, Nat.reduceEqDiff, ↓reduceIte, eq_self, e1, e4, e6, e10, e11, e12, e13, e14, e15, e16, e17, e92, e93, e94, decide_eq_true hp, wrap_i64 (n := 2 * (cz x.1 - cz y.1)) (by omega) (by omega), decide_eq_false h1]
              clear e1 e4 e6 e10 e11 e12 e13 e14 e15 e16 e17 e92 e93 e94
              intro fr e1 e4 e6 e10 e11 e12 e13 e14 e15 e16 e17 e92 e93 e94 e116
              refine SeqK_n ?_
              refine W_cond e116 (fun h => by cases h) (fun _ => ?_)
              by_cases h2 : 2 * (cz x.1 - cz y.1) ≤ 0 - B
              · skip
                refine W_seq (W_ops [1, 4, 6, 10, 11, 12, 13, 14, 15, 16, 17, 92, 93, 94, 128] ?_)
                simp only [o20_28, WO_bin, WO_move, WO_pick, pick_b, WO_un, un_neg, bin_gtr, bin_leq, bin_mul, WO_nil, PureK_some, WO_guard, want_v, wantB_t, geT_put, evO_tmp, evO_const, keep_nil, keep_cons, keepK_eq, Nat.reduceEqDiff, ↓reduceIte, eq_self, e1, e4, e6, e10, e11, e12, e13, e14, e15, e16, e17, e92, e93, e94, decide_eq_true hp, wrap_i64 (n := 2 * (cz x.1 - cz y.1)) (by omega) (by omega), wrap_i64 (n := 0 - B) (by omega) (by omega), decide_eq_true h2]
                clear e1 e4 e6 e10 e11 e12 e13 e14 e15 e16 e17 e92 e93 e94 e116
                intro fr e1 e4 e6 e10 e11 e12 e13 e14 e15 e16 e17 e92 e93 e94 e128
                refine SeqK_n ?_
                refine W_cond e128 (fun _ => ?_) (fun h => by cases h)
                refine W_ops [1, 4, 6, 10, 11, 12, 13, 14, 15, 16, 17, 92, 93, 94] ?_
                simp only [o20_29, WO_bin, WO_move, bin_add, WO_nil, PureK_some, geT_put, evO_tmp, keep_nil, keep_cons, keepK_eq, Nat.reduceEqDiff, ↓reduceIte, eq_self, e1, e4, e6, e10, e11, e12, e13, e14, e15, e16, e17, e92, e93, e94, wrap_i64 (n := cz x.1 - cz y.1 + B) (by omega) (by omega)]
                clear e1 e4 e6 e10 e11 e12 e13 e14 e15 e16 e17 e92 e93 e94 e128
                intro fr e1 e4 e6 e10 e11 e12 e13 e14 e15 e16 e17 e92 e93 e94
                exact hR' _ _ ⟨rfl, e1, e4, e6, e10, e11, e12, e13, e14, e15, by rw [e16, offI, if_neg (by omega), if_pos ⟨hp, by omega⟩], e17, e92, e93, e94⟩
              · skip
                refine W_seq (W_ops [1, 4, 6, 10, 11, 12, 13, 14, 15, 16, 17, 92, 93, 94, 128] ?_)
                simp only [o20_28, WO_bin, WO_move, WO_pick, pick_b, WO_un, un_neg, bin_gtr, bin_leq, bin_mul, WO_nil, PureK_some, WO_guard, want_v, wantB_t, geT_put, evO_tmp, evO_const, keep_nil, keep_cons, keepK_eq, Nat.reduceEqDiff, ↓reduceIte, eq_self, e1, e4, e6, e10, e11, e12, e13, e14, e15, e16, e17, e92, e93, e94, decide_eq_true hp, wrap_i64 (n := 2 * (cz x.1 - cz y.1)) (by omega) (by omega), wrap_i64 (n := 0 - B) (by omega) (by omega), decide_eq_false h2]
                clear e1 e4 e6 e10 e11 e12 e13 e14 e15 e16 e17 e92 e93 e94 e116
                intro fr e1 e4 e6 e10 e11 e12 e13 e14 e15 e16 e17 e92 e93 e94 e128
                refine SeqK_n ?_
                refine W_cond e128 (fun h => by cases h) (fun _ => W_skip ?_)
                exact hR' _ _ ⟨rfl, e1, e4, e6, e10, e11, e12, e13, e14, e15, by rw [e16, offI, if_neg (by omega), if_neg (by omega)], e17, e92, e93, e94⟩
          · skip
            refine W_seq (W_ops [1, 4, 6, 10, 11, 12, 13, 14, 15, 16, 17, 92, 93, 94, 116] ?_)
            simp only [o20_26, WO_bin, WO_move, WO_pick, pick_b, bin_gtr, WO_nil, PureK_some, WO_guard, want_v, wantB_t, geT_put, evO_tmp, evO_const, keep_nil, keep_cons, keepK_eq, Nat.reduceEqDiff, ↓reduceIte, eq_self, Bool.false_eq_true, e1, e4, e6, e10, e11, e12, e13, e14, e15, e16, e17, e92, e93, e94, decide_eq_false hp]
            clear e1 e4 e6 e10 e11 e12 e13 e14 e15 e16 e17 e92 e93 e94
            intro fr e1 e4 e6 e10 e11 e12 e13 e14 e15 e16 e17 e92 e93 e94 e116
            refine SeqK_n ?_
            refine W_cond e116 (fun h => by cases h) (fun _ => ?_)
            refine W_seq (W_ops [1, 4, 6, 10, 11, 12, 13, 14, 15, 16, 17, 92, 93, 94, 128] ?_)
            simp only [o20_28, WO_bin, WO_move, WO_pick, pick_b, bin_gtr, WO_nil, PureK_some, WO_guard, want_v, wantB_t, geT_put, evO_tmp, evO_const, keep_nil, keep_cons, keepK_eq, Nat.reduceEqDiff, ↓reduceIte, eq_self, Bool.false_eq_true, e1, e4, e6, e10, e11, e12, e13, e14, e15, e16, e17, e92, e93, e94, decide_eq_false hp]
            clear e1 e4 e6 e10 e11 e12 e13 e14 e15 e16 e17 e92 e93 e94 e116
            intro fr e1 e4 e6 e10 e11 e12 e13 e14 e15 e16 e17 e92 e93 e94 e128
            refine SeqK_n ?_
            refine W_cond e128 (fun h => by cases h) (fun _ => W_skip ?_)
            exact hR' _ _ ⟨rfl, e1, e4, e6, e10, e11, e12, e13, e14, e15, by rw [e16, offI, if_neg (by omega), if_neg (by omega)], e17, e92, e93, e94⟩
        clear e1 e4 e6 e10 e11 e12 e13 e14 e15 e16 e17 e92 e93 e94 fr
        rintro fr _ ⟨rfl, e1, e4, e6, e10, e11, e12, e13, e14, e15, e16, e17, e92, e93, e94⟩
        refine SeqK_n ?_
        refine W_seq (W_draw0 [1, 4, 6, 10, 11, 12, 13, 14, 18, 19, 92, 93, 94] rfl ?_)
        simp only [d20_30, WD_bin, WD_conv, conv_float, WD_fieldAddr, fieldAddr_p, WD_load, WD_move, binf_mul, WD_nil, DPureK_some, DReadK_some, pastR_nil, joinAll_nil, setH_self, geT_put, evO_tmp, keep_nil, keep_cons, keepK_eq, Nat.reduceEqDiff, Nat.reduceAdd, ↓reduceIte, eq_self, true_and, Nat.zero_add, e1, e4, e6, e10, e11, e12, e13, e14, e15, e16, e17, e92, e93, e94, lx2]
        clear e1 e4 e6 e10 e11 e12 e13 e14 e15 e16 e17 e92 e93 e94
        intro fr e1 e4 e6 e10 e11 e12 e13 e14 e18 e19 e92 e93 e94
        refine SeqK_n ?_
        have hD : fmul .f64 x.2.2 (FloatKind.f64.nearest (offI (cz x.1) (cz y.1) B)) = mD L t B k := by rw [hx, hy]; rfl
        have hE : fmul .f64 x.2.2 (FloatKind.f64.nearest (cz x.2.1 - cz y.2.1)) = mE L t k := by rw [hx, hy]; rfl
        rw [hD] at e18
        rw [hE] at e19
        have dk : decide (((k : Nat) : Int) = 0) = decide (k = 0) := decide_eq_decide.2 (by omega)
        have H4 := H3.tail
        refine W_assoc ?_
        refine W_seq (W_ops [1, 4, 6, 10, 11, 12, 13, 18, 19, 92, 93, 94, 143] ?_)
        simp only [o20_31, WO_bin, WO_move, bin_eql, WO_nil, PureK_some, geT_put, evO_tmp, evO_const, keep_nil, keep_cons, keepK_eq, Nat.reduceEqDiff, ↓reduceIte, eq_self, e1, e4, e6, e10, e11, e12, e13, e14, e18, e19, e92, e93, e94, dk]
        clear e1 e4 e6 e10 e11 e12 e13 e14 e18 e19 e92 e93 e94
        intro fr e1 e4 e6 e10 e11 e12 e13 e18 e19 e92 e93 e94 e143
        refine SeqK_n ?_
        by_cases hk0 : k = 0
        · rw [decide_eq_true hk0] at e143
          refine W_seq (W_cond e143 (fun _ => ?_) (fun h => by cases h))
          have hbu : buildV [.float .f64 0, .float .f64 0] [(0, 1, .float .f64 (mD L t B k)), (1, 1, .float .f64 (mE L t k))] = some (.agg [.float .f64 (mD L t B k), .float .f64 (mE L t k)].toArray) := rfl
          have st := store_all (n := 2) (vs := [.float .f64 (mD L t B k), .float .f64 (mE L t k)]) (H4.cell (List.mem_cons_self ..)) rfl rfl rfl
          have H5 := H4.setc (cs' := [.float .f64 (mD L t B k), .float .f64 (mE L t k)])
          refine W_seq (W_ops [1, 4, 6, 10, 11, 12, 13, 92, 93, 94] ?_)
          simp only [o20_32, WO_build, WO_move, WO_store, WO_nil, PureK_some, MemK_some, geT_put, puT_none, evO_tmp, keep_nil, keep_cons, keepK_eq, List.map_cons, List.map_nil, Nat.reduceEqDiff, ↓reduceIte, eq_self, e1, e4, e6, e10, e11, e12, e13, e18, e19, e92, e93, e94, hbu, st]
          clear e1 e4 e6 e10 e11 e12 e13 e18 e19 e92 e93 e94 e143
          intro fr e1 e4 e6 e10 e11 e12 e13 e92 e93 e94
          refine SeqK_n ?_
          refine W_exit (SeqK_x (BlkK_e (SeqK_n ?_)))
          refine W_ops [1, 4, 6, 10, 11, 12, 13, 92, 93, 94] ?_
          simp only [o20_35, WO_bin, WO_move, bin_add, WO_nil, PureK_some, geT_put, evO_tmp, evO_const, keep_nil, keep_cons, keepK_eq, Nat.reduceEqDiff, ↓reduceIte, eq_self, e1, e4, e6, e10, e11, e12, e13, e92, e93, e94, wrap_i64 (n := (k : Int) + 1) (by omega) (by omega)]
          clear e1 e4 e6 e10 e11 e12 e13 e92 e93 e94
          intro fr e1 e4 e6 e10 e11 e12 e13 e92 e93 e94
          subst hk0
          exact LoopK_n (m' := m - 1) (by omega) ⟨1, by omega, e1, e4, e6, e10, e11, e12, e13, e92, e93, by rw [e94]; rfl, H5⟩
        · rw [decide_eq_false hk0] at e143
          refine W_seq (W_cond e143 (fun h => by cases h) (fun _ => W_skip (SeqK_n ?_)))
          have A0 : addrArrV 2 1 (.pointer (some ⟨Bm, 0, none⟩)) (.int .i64 0) = some (.pointer (some ⟨Bm, 0, none⟩)) := rfl
          have A1 : addrArrV 2 1 (.pointer (some ⟨Bm, 0, none⟩)) (.int .i64 1) = some (.pointer (some ⟨Bm, 1, none⟩)) := rfl
          have q0 := load_g (o := 0) (H4.cell (List.mem_cons_self ..))
          simp only [List.getElem?_cons_zero] at q0
          have st0 := store_g (o := 0) (x := .float .f64 (fadd .f64 (sumN (mD L t B) k) (mD L t B k))) (H4.cell (List.mem_cons_self ..)) rfl (by simp)
          have H5 := H4.setc (cs' := [.float .f64 (fadd .f64 (sumN (mD L t B) k) (mD L t B k)), .float .f64 (sumN (mE L t) k)])
          simp only [List.set_cons_zero] at st0
          refine W_seq (W_ops [1, 4, 6, 10, 11, 12, 13, 19, 92, 93, 94] ?_)
          simp only [o20_33, WO_addrArr, WO_bin, WO_load, WO_move, WO_store, binf_add, WO_nil, PureK_some, MemK_some, geT_put, puT_none, evO_tmp, evO_const, keep_nil, keep_cons, keepK_eq, Nat.reduceEqDiff, ↓reduceIte, eq_self, e1, e4, e6, e10, e11, e12, e13, e18, e19, e92, e93, e94, A0, q0, st0]
          clear e1 e4 e6 e10 e11 e12 e13 e18 e19 e92 e93 e94 e143
          intro fr e1 e4 e6 e10 e11 e12 e13 e19 e92 e93 e94
          refine SeqK_n ?_
          clear q0 st0 H4
          generalize setBlk s2 Bm (.cells [.float .f64 (fadd .f64 (sumN (mD L t B) k) (mD L t B k)), .float .f64 (sumN (mE L t) k)] false) = s3 at H5 ⊢
          have q1 := load_g (o := 1) (H5.cell (List.mem_cons_self ..))
          simp only [List.getElem?_cons_zero, List.getElem?_cons_succ] at q1
          have st1 := store_g (o := 1) (x := .float .f64 (fadd .f64 (sumN (mE L t) k) (mE L t k))) (H5.cell (List.mem_cons_self ..)) rfl (by simp)
          have H6 := H5.setc (cs' := [.float .f64 (fadd .f64 (sumN (mD L t B) k) (mD L t B k)), .float .f64 (fadd .f64 (sumN (mE L t) k) (mE L t k))])
          simp only [List.set_cons_zero, List.set_cons_succ] at st1
          refine W_ops [1, 4, 6, 10, 11, 12, 13, 92, 93, 94] ?_
          simp only [o20_34, WO_addrArr, WO_bin, WO_load, WO_move, WO_store, binf_add, WO_nil, PureK_some, MemK_some, geT_put, puT_none, evO_tmp, evO_const, keep_nil, keep_cons, keepK_eq, Nat.reduceEqDiff, ↓reduceIte, eq_self, e1, e4, e6, e10, e11, e12, e13, e19, e92, e93, e94, A1, q1, st1]
          clear e1 e4 e6 e10 e11 e12 e13 e19 e92 e93 e94
          intro fr e1 e4 e6 e10 e11 e12 e13 e92 e93 e94
          refine BlkK_n (SeqK_n ?_)
          refine W_ops [1, 4, 6, 10, 11, 12, 13, 92, 93, 94] ?_
          simp only [o20_35, WO_bin, WO_move, bin_add, WO_nil, PureK_some, geT_put, evO_tmp, evO_const, keep_nil, keep_cons, keepK_eq, Nat.reduceEqDiff, ↓reduceIte, eq_self, e1, e4, e6, e10, e11, e12, e13, e92, e93, e94, wrap_i64 (n := (k : Int) + 1) (by omega) (by omega)]
          clear e1 e4 e6 e10 e11 e12 e13 e92 e93 e94
          intro fr e1 e4 e6 e10 e11 e12 e13 e92 e93 e94
          exact LoopK_n (m' := m - 1) (by omega) ⟨k + 1, by omega, e1, e4, e6, e10, e11, e12, e13, e92, e93, by rw [e94]; rfl, by rw [sumN_succ (by omega), sumN_succ (by omega)]; exact H6⟩
      · have hkn : k = L.length := by omega
        subst hkn
        refine LoopK_x (BlkK_e (SeqK_n ?_))
        obtain ⟨D, hD⟩ : ∃ D, D = sumN (mD L t B) L.length := ⟨_, rfl⟩
        obtain ⟨E, hE⟩ : ∃ E, E = sumN (mE L t) L.length := ⟨_, rfl⟩
        rw [← hD, ← hE] at H hcen
        have A0 : addrArrV 2 1 (.pointer (some ⟨Bm, 0, none⟩)) (.int .i64 0) = some (.pointer (some ⟨Bm, 0, none⟩)) := rfl
        have A1 : addrArrV 2 1 (.pointer (some ⟨Bm, 0, none⟩)) (.int .i64 1) = some (.pointer (some ⟨Bm, 1, none⟩)) := rfl
        have H1 := H.up1
        have q0 : loadV s1 none (.pointer (some ⟨Bm, 0, none⟩)) = some (.float .f64 D) := load_g (o := 0) (H.cell (List.mem_cons_self ..))
        have c0 : loadV s1 none (.pointer (some ⟨Bc, 0, none⟩)) = some (.float .f64 b0) := load_g (o := 0) (H1.cell (List.mem_cons_self ..))
        obtain ⟨x0, hx0⟩ : ∃ x, x = fadd .f64 b0 (fdiv .f64 D S) := ⟨_, rfl⟩
        have st0 : storeV s1 1 (.pointer (some ⟨Bc, 0, none⟩)) (.float .f64 (fadd .f64 b0 (fdiv .f64 D S))) = some (undefV, setBlk s1 Bc (.cells (cenV x0 g0 S L.length) false)) := by
          rw [hx0]; exact store_g (o := 0) (H1.cell (List.mem_cons_self ..)) rfl (by simp [cenV])
        have H2 := H1.setc (cs' := cenV x0 g0 S L.length)
        refine W_seq (W_ops [1, 4, 6, 12, 13] ?_)
        simp only [o20_36, WO_addrArr, WO_bin, WO_fieldAddr, fieldAddr_p, WO_load, WO_move, WO_store, binf_add, binf_quo, WO_nil, PureK_some, MemK_some, geT_put, puT_none, evO_tmp, evO_const, keep_nil, keep_cons, keepK_eq, Nat.reduceEqDiff, ↓reduceIte, eq_self, Nat.add_zero, e1, e4, e6, e12, e13, A0, q0, c0, st0]
        clear e1 e4 e6 e10 e11 e12 e13 e92 e93 e94 e95
        intro fr e1 e4 e6 e12 e13
        refine SeqK_n ?_
        clear q0 c0 st0 H1
        generalize setBlk s1 Bc (.cells (cenV x0 g0 S L.length) false) = s2 at H2 ⊢
        have q1 : loadV s2 none (.pointer (some ⟨Bm, 1, none⟩)) = some (.float .f64 E) := load_g (o := 1) (H2.up1.cell (List.mem_cons_self ..))
        have c1 : loadV s2 none (.pointer (some ⟨Bc, 1, none⟩)) = some (.float .f64 g0) := load_g (o := 1) (H2.cell (List.mem_cons_self ..))
        obtain ⟨y0, hy0⟩ : ∃ y, y = fadd .f64 g0 (fdiv .f64 E S) := ⟨_, rfl⟩
        have st1 : storeV s2 1 (.pointer (some ⟨Bc, 1, none⟩)) (.float .f64 (fadd .f64 g0 (fdiv .f64 E S))) = some (undefV, setBlk s2 Bc (.cells (cenV x0 y0 S L.length) false)) := by
          rw [hy0]; exact store_g (o := 1) (H2.cell (List.mem_cons_self ..)) rfl (by simp [cenV])
        have H3 := H2.setc (cs' := cenV x0 y0 S L.length)
        refine W_seq (W_ops [1, 4, 12] ?_)
        simp only [o20_37, WO_addrArr, WO_bin, WO_fieldAddr, fieldAddr_p, WO_load, WO_move, WO_store, binf_add, binf_quo, WO_nil, PureK_some, MemK_some, geT_put, puT_none, evO_tmp, evO_const, keep_nil, keep_cons, keepK_eq, Nat.reduceEqDiff, ↓reduceIte, eq_self, Nat.zero_add, e1, e4, e6, e12, e13, A1, q1, c1, st1]
        clear e1 e4 e6 e12 e13
        intro fr e1 e4 e12
        refine SeqK_n ?_
        clear q1 c1 st1 H2
        generalize setBlk s2 Bc (.cells (cenV x0 y0 S L.length) false) = s3 at H3 ⊢
        rw [← hx0, ← hy0] at hcen
        have c0 : loadV s3 none (.pointer (some ⟨Bc, 0, none⟩)) = some (.float .f64 x0) := load_g (o := 0) (H3.cell (List.mem_cons_self ..))
        have cN : ∀ w, storeV s3 1 (.pointer (some ⟨Bc, 0, none⟩)) (.float .f64 w) = some (undefV, setBlk s3 Bc (.cells (cenV w y0 S L.length) false)) := fun w => store_g (o := 0) (H3.cell (List.mem_cons_self ..)) rfl (by simp [cenV])
        refine W_seq (W_block (W_cutN (fun fr1 s6 => geT fr1 4 = .pointer (some ⟨Br, 0, none⟩) ∧ geT fr1 12 = .pointer (some ⟨Bc, 0, none⟩) ∧ Hold s s6 [HP.cell Bc (cenV (wrapB x0 B) y0 S L.length), HP.cell Bm [.float .f64 D, .float .f64 E], HP.cell Br z4]) ?_ ?_))
        · intro R' hR'
          by_cases hp : 0 < B
          · by_cases h1 : (ford .f64 x0 0 == some .lt) = true
            · refine W_seq (W_ops [1, 4, 12, 174] ?_)
              simp only [o20_38, WO_bin, WO_fieldAddr, fieldAddr_p, WO_load, WO_move, WO_pick, pick_b, bin_gtr, binf_lss, WO_nil, PureK_some, WO_guard, want_v, wantB_t, geT_put, evO_tmp, evO_const, keep_nil, keep_cons, keepK_eq, Nat.reduceEqDiff, ↓reduceIte, eq_self, Nat.add_zero, e1, e4, e12, decide_eq_true hp, c0, h1]
              clear e1 e4 e12
              intro fr e1 e4 e12 e174
              refine SeqK_n ?_
              refine W_cond e174 (fun _ => ?_) (fun h => by cases h)
              have hw : wrapB x0 B = fadd .f64 x0 (FloatKind.f64.nearest B) := by rw [wrapB, if_pos ⟨hp, h1⟩]
              refine W_ops [4, 12] ?_
              simp only [o20_39, WO_bin, WO_conv, conv_float, WO_fieldAddr, fieldAddr_p, WO_load, WO_move, WO_store, binf_add, WO_nil, PureK_some, MemK_some, geT_put, puT_none, evO_tmp, keep_nil, keep_cons, keepK_eq, Nat.reduceEqDiff, ↓reduceIte, eq_self, Nat.add_zero, e1, e4, e12, c0, cN]
              clear e1 e4 e12 e174
              intro fr e4 e12
              exact hR' _ _ ⟨e4, e12, by rw [hw]; exact H3.setc⟩
            · have h1' := h1
              rw [Bool.not_eq_true] at h1'
              refine W_seq (W_ops [1, 4, 12, 174] ?_)
              simp only [o20_38, WO_bin, WO_fieldAddr, fieldAddr_p, WO_load, WO_move, WO_pick, pick_b, bin_gtr, binf_lss, WO_nil, PureK_some, WO_guard, want_v, wantB_t, geT_put, evO_tmp, evO_const, keep_nil, keep_cons, keepK_eq, Nat.reduceEqDiff, ↓reduceIte, eq_self, Nat.add_zero, e1, e4, e12, decide_eq_true hp, c0, h1']
              clear e1 e4 e12
              intro fr e1 e4 e12 e174
              refine SeqK_n ?_
              refine W_cond e174 (fun h => by cases h) (fun _ => ?_)
              by_cases h2 : (ford .f64 x0 (FloatKind.f64.nearest B) == some .gt || ford .f64 x0 (FloatKind.f64.nearest B) == some .eq) = true
              · skip
                refine W_seq (W_ops [1, 4, 12, 188] ?_)
                simp only [o20_40, WO_bin, WO_conv, conv_float, WO_fieldAddr, fieldAddr_p, WO_load, WO_move, WO_pick, pick_b, binf_geq, bin_gtr, WO_nil, PureK_some, WO_guard, want_v, wantB_t, geT_put, evO_tmp, evO_const, keep_nil, keep_cons, keepK_eq, Nat.reduceEqDiff, ↓reduceIte, eq_self, Nat.add_zero, e1, e4, e12, decide_eq_true hp, c0, h2]
                clear e1 e4 e12 e174
                intro fr e1 e4 e12 e188
                refine SeqK_n ?_
                refine W_cond e188 (fun _ => ?_) (fun h => by cases h)
                have hw : wrapB x0 B = fsub .f64 x0 (FloatKind.f64.nearest B) := by rw [wrapB, if_neg (fun h => h1 h.2), if_pos ⟨hp, h2⟩]
                refine W_ops [4, 12] ?_
                simp only [o20_41, WO_bin, WO_conv, conv_float, WO_fieldAddr, fieldAddr_p, WO_load, WO_move, WO_store, binf_sub, WO_nil, PureK_some, MemK_some, geT_put, puT_none, evO_tmp, keep_nil, keep_cons, keepK_eq, Nat.reduceEqDiff, ↓reduceIte, eq_self, Nat.add_zero, e1, e4, e12, c0, cN]
                clear e1 e4 e12 e188
                intro fr e4 e12
                exact hR' _ _ ⟨e4, e12, by rw [hw]; exact H3.setc⟩
              · have h2' := h2
                rw [Bool.not_eq_true] at h2'
                refine W_seq (W_ops [1, 4, 12, 188] ?_)
                simp only [o20_40, WO_bin, WO_conv, conv_float, WO_fieldAddr, fieldAddr_p, WO_load, WO_move, WO_pick, pick_b, binf_geq, bin_gtr, WO_nil, PureK_some, WO_guard, want_v, wantB_t, geT_put, evO_tmp, evO_const, keep_nil, keep_cons, keepK_eq, Nat.reduceEqDiff, ↓reduceIte, eq_self, Nat.add_zero, e1, e4, e12, decide_eq_true hp, c0, h2']
                clear e1 e4 e12 e174
                intro fr e1 e4 e12 e188
                refine SeqK_n ?_
                refine W_cond e188 (fun h => by cases h) (fun _ => W_skip ?_)
                have hw : wrapB x0 B = x0 := by rw [wrapB, if_neg (fun h => h1 h.2), if_neg (fun h => h2 h.2)]
                exact hR' _ _ ⟨e4, e12, by rw [hw]; exact H3⟩
          · skip
            refine W_seq (W_ops [1, 4, 12, 174] ?_)
            simp only [o20_38, WO_bin, WO_move, WO_pick, pick_b, bin_gtr, WO_nil, PureK_some, WO_guard, want_v, wantB_t, geT_put, evO_tmp, evO_const, keep_nil, keep_cons, keepK_eq, Nat.reduceEqDiff, ↓reduceIte, eq_self, Bool.false_eq_true, e1, e4, e12, decide_eq_false hp]
            clear e1 e4 e12
            intro fr e1 e4 e12 e174
            refine SeqK_n ?_
            refine W_cond e174 (fun h => by cases h) (fun _ => ?_)
            refine W_seq (W_ops [1, 4, 12, 188] ?_)
            simp only [o20_40, WO_bin, WO_move, WO_pick, pick_b, bin_gtr, WO_nil, PureK_some, WO_guard, want_v, wantB_t, geT_put, evO_tmp, evO_const, keep_nil, keep_cons, keepK_eq, Nat.reduceEqDiff, ↓reduceIte, eq_self, Bool.false_eq_true, e1, e4, e12, decide_eq_false hp]
            clear e1 e4 e12 e174
            intro fr e1 e4 e12 e188
            refine SeqK_n ?_
            refine W_cond e188 (fun h => by cases h) (fun _ => W_skip ?_)
            have hw : wrapB x0 B = x0 := by rw [wrapB, if_neg (fun h => hp h.1), if_neg (fun h => hp h.1)]
            exact hR' _ _ ⟨e4, e12, by rw [hw]; exact H3⟩
        clear c0 cN H3 e1 e4 e12 fr
        rintro fr s4 ⟨e4, e12, H3⟩
        refine BlkK_n (SeqK_n ?_)
        have lc : loadV s4 (some 4) (.pointer (some ⟨Bc, 0, none⟩)) = some (.agg (cenV (wrapB x0 B) y0 S L.length).toArray) := loadn_all (H3.cell (List.mem_cons_self ..)) rfl
        have H4 := H3.up2
        have st := store_all (n := 4) (vs := cenV (wrapB x0 B) y0 S L.length) (H4.cell (List.mem_cons_self ..)) rfl rfl rfl
        have H5 := H4.setc (cs' := cenV (wrapB x0 B) y0 S L.length)
        refine W_seq (W_ops [4] ?_)
        simp only [o20_42, WO_load, WO_store, WO_nil, PureK_some, MemK_some, geT_put, puT_none, evO_tmp, keep_nil, keep_cons, keepK_eq, Nat.reduceEqDiff, ↓reduceIte, eq_self, e4, e12, lc, st]
        clear e4 e12
        intro fr e4
        refine SeqK_n ?_
        exact W_ret (RetC1 e4 (loadn_all (H5.cell (List.mem_cons_self ..)) rfl) ⟨by rw [hcen], H5.same⟩)

end Go.Proofs.Ytpphomoijlilfaa

/- PeaksCentre: the document's Centre, walked. -/
namespace Go.Proofs.Ytpphomoijlilfaa
open Go Go.Vam

def cS (x : SpI) : SpI := (cz x.1, cz x.2.1, x.2.2)
def czL (L : List SpI) : List SpI := L.map cS

theorem czL_len (L : List SpI) : (czL L).length = L.length := by simp [czL]
theorem czL_at {L : List SpI} {i : Nat} (hi : i < L.length) : atI (czL L) i = cS (atI L i) := by
  rw [atI_eq hi, atI_eq (by rw [czL_len]; exact hi)]; simp [czL]
theorem czL_take {L : List SpI} {k : Nat} (hk : k < L.length) : (czL (L.take k)).flatMap eI ++ eI (cS (atI L k)) = (czL (L.take (k + 1))).flatMap eI := by
  rw [List.take_add_one, List.getElem?_eq_getElem hk, atI_eq hk]
  unfold czL
  rw [List.map_append, List.flatMap_append]
  simp only [Option.toList_some, List.map_cons, List.map_nil, List.flatMap_cons, List.flatMap_nil, List.append_nil]

def flts (f : Nat → Nat) (k : Nat) : List Value := (List.range k).map fun i => .float .f64 (f i)
theorem flts_succ {f : Nat → Nat} {k : Nat} : flts f k ++ [.float .f64 (f k)] = flts f (k + 1) := by
  unfold flts; rw [List.range_succ, List.map_append]; rfl

theorem stop_two {S : Nat} (h : FW S) : (!((ford .f64 S S == some .eq) && ((ford .f64 S 9218868437227405311 == some .lt || ford .f64 S 9218868437227405311 == some .eq) && (ford .f64 S 18442240474082181119 == some .gt || ford .f64 S 18442240474082181119 == some .eq))) || !(ford .f64 S 0 == some .gt)) = stopB S := by
  unfold stopB
  cases hg : ford .f64 S 0 == some .gt with
  | false => simp
  | true =>
    rw [inf_fin h hg]; simp

theorem buildSl_f {s : Mm} {x : Nat} : buildSlV s 1 [.float .f64 0] 1 [(0, 1, .float .f64 x)] = some (.slice (some ⟨s.nxt, 0, none⟩) 1 1, .cells [.float .f64 x] false) := rfl
theorem buildSlD_f {nid x : Nat} : buildSlD nid 1 [.float .f64 0] 1 [(0, 1, .float .f64 x)] = some (.slice (some ⟨nid, 0, none⟩) 1 1, .cells [.float .f64 x] false) := rfl
theorem build_sp {a b : Int} {x : Nat} : buildV [.int .i64 0, .int .i64 0, .float .f64 0] [(0, 1, .int .i64 a), (1, 1, .int .i64 b), (2, 1, .float .f64 x)] = some (.agg #[.int .i64 a, .int .i64 b, .float .f64 x]) := rfl
theorem buildSlD_sp {nid x : Nat} {a b : Int} : buildSlD nid 3 [.int .i64 0, .int .i64 0, .float .f64 0] 1 [(0, 3, .agg #[.int .i64 a, .int .i64 b, .float .f64 x])] = some (.slice (some ⟨nid, 0, none⟩) 1 1, .cells [.int .i64 a, .int .i64 b, .float .f64 x] false) := rfl


set_option maxHeartbeats 8000000 in
theorem run21 {X : Ctx} (hX : X.fns = fnsOf Try.prog) (ho : ∀ f args, f ≠ 15 → X.orc f args = none) {s : Mm} {v : Value} {L : List SpI} {n : Int} (a : SlC s 3 v L.length (L.flatMap eI)) (hl : L.length ≤ 5864062014634) (hf : ∀ i, i < L.length → FW (powF L i)) :
    CallP X 21 [v, .int .i64 n] s (fun r s' => r = .agg (cenF L (cl n 0 1073741824)).toArray ∧ Same s s' (fun _ => False)) := by
  have hBb : 0 ≤ cl n 0 1073741824 ∧ cl n 0 1073741824 ≤ 1073741824 := by unfold cl; omega
  refine CallP_of (hX ▸ ir21_eq) (ho _ _ (by decide)) (Nat.le_of_ble_eq_true rfl) ?_
  refine W_seq (W_ops [0, 1, 4] ?_)
  simp only [o21_0, WO_alloc, WO_nil, geT_put, frame_nil, frame_cons, keep_nil, keep_cons, keepK_eq, Nat.reduceEqDiff, Nat.reduceAdd, ↓reduceIte, eq_self, Nat.zero_add]
  intro fr e0 e1 e4
  refine SeqK_n ?_
  have H := (Hold.refl s).new z4
  have hz4 : newAt s (.cells [.float .f64 0, .float .f64 0, .float .f64 0, .int .i64 0] false) = newAt s (.cells z4 false) := rfl
  rw [hz4]
  generalize newAt s (.cells z4 false) = s1 at H ⊢
  obtain ⟨Br, hBr⟩ : ∃ B, B = s.nxt := ⟨_, rfl⟩
  rw [← hBr] at H e4
  clear hz4
  have d0 : decide (((L.length : Nat) : Int) = 0) = decide (L.length = 0) := decide_eq_decide.2 (by omega)
  refine W_assoc ?_
  refine W_seq (W_ops [0, 1, 4, 21] ?_)
  simp only [o21_1, WO_bin, WO_bu, WO_move, bin_eql, WO_nil, PureK_some, geT_put, evO_tmp, evO_const, keep_nil, keep_cons, keepK_eq, List.map_cons, List.map_nil, Nat.reduceEqDiff, ↓reduceIte, eq_self, e0, e1, e4, a.len, d0]
  clear e0 e1 e4
  intro fr e0 e1 e4 e21
  refine SeqK_n ?_
  by_cases h0 : L.length = 0
  · rw [decide_eq_true h0] at e21
    refine W_seq (W_cond e21 (fun _ => ?_) (fun h => by cases h))
    have hb : buildV [.float .f64 0, .float .f64 0, .float .f64 0, .int .i64 0] [] = some (.agg z4.toArray) := rfl
    have st := store_all (n := 4) (vs := z4) (H.cell (List.mem_cons_self ..)) rfl rfl rfl
    have H2 := H.setc (cs' := z4)
    refine W_seq (W_ops [4] ?_)
    simp only [o21_2, WO_build, WO_store, WO_nil, PureK_some, MemK_some, geT_put, puT_none, evO_tmp, keep_nil, keep_cons, keepK_eq, List.map_nil, Nat.reduceEqDiff, ↓reduceIte, eq_self, e4, hb, st]
    clear e0 e1 e4 e21
    intro fr e4
    refine SeqK_n ?_
    have hL : L = [] := List.eq_nil_of_length_eq_zero h0
    exact W_ret (SeqK_r (RetC1 e4 (loadn_all (H2.cell (List.mem_cons_self ..)) rfl) ⟨by rw [cenF, if_pos hL]; rfl, H2.same⟩))
  have hL : L ≠ [] := fun h => h0 (by rw [h]; rfl)
  rw [decide_eq_false h0] at e21
  refine W_seq (W_cond e21 (fun h => by cases h) (fun _ => W_skip (SeqK_n ?_)))
  refine W_seq (W_ops [0, 4, 5] ?_)
  simp only [o21_3, WO_call, WO_move, geT_put, evO_tmp, evO_const, List.map_cons, List.map_nil, ↓reduceIte, eq_self, e1]
  refine CallK_of (run45 hX ho (by decide)) ?_
  rintro _ _ ⟨rfl, rfl⟩
  simp only [WO_move, WO_nil, geT_put, evO_tmp, keep_nil, keep_cons, keepK_eq, Nat.reduceEqDiff, ↓reduceIte, eq_self, e0, e4]
  clear e0 e1 e4 e21
  intro fr e0 e4 e5
  refine SeqK_n ?_
  obtain ⟨B, hB⟩ : ∃ B, B = cl n 0 1073741824 := ⟨_, rfl⟩
  rw [← hB] at e5 hBb ⊢
  refine W_seq (W_ops [0, 4, 5, 6] ?_)
  simp only [o21_4, WO_move, WO_nil, geT_put, evO_const, keep_nil, keep_cons, keepK_eq, Nat.reduceEqDiff, ↓reduceIte, eq_self, e0, e4, e5]
  clear e0 e4 e5
  intro fr e0 e4 e5 e6
  refine SeqK_n ?_
  refine W_seq (W_ops [0, 4, 5, 6, 7] ?_)
  simp only [o21_5, WO_move, WO_nil, geT_put, evO_const, keep_nil, keep_cons, keepK_eq, Nat.reduceEqDiff, ↓reduceIte, eq_self, e0, e4, e5, e6]
  clear e0 e4 e5 e6
  intro fr e0 e4 e5 e6 e7
  refine SeqK_n ?_
  refine W_seq (W_ops [0, 4, 5, 6, 7, 8] ?_)
  simp only [o21_6, WO_move, WO_nil, geT_put, evO_const, keep_nil, keep_cons, keepK_eq, Nat.reduceEqDiff, ↓reduceIte, eq_self, e0, e4, e5, e6, e7]
  clear e0 e4 e5 e6 e7
  intro fr e0 e4 e5 e6 e7 e8
  refine SeqK_n ?_
  refine W_assoc ?_
  refine W_seq (W_ops [0, 4, 5, 6, 7, 8, 9] ?_)
  simp only [o21_7, WO_move, WO_nil, geT_put, evO_const, keep_nil, keep_cons, keepK_eq, Nat.reduceEqDiff, ↓reduceIte, eq_self, e0, e4, e5, e6, e7, e8]
  clear e0 e4 e5 e6 e7 e8
  intro fr e0 e4 e5 e6 e7 e8 e9
  refine SeqK_n ?_
  refine W_seq (W_block (W_loop (fun m fr s1 => ∃ k lv pv, k + m = L.length ∧ geT fr 0 = v ∧ geT fr 4 = .pointer (some ⟨Br, 0, none⟩) ∧ geT fr 5 = .int .i64 B ∧ geT fr 6 = lv ∧ geT fr 7 = pv ∧ geT fr 8 = .int .i64 (topUp L k : Nat) ∧ geT fr 9 = .int .i64 (k : Nat) ∧
    Hold s s1 [HP.own 3 lv k ((czL (L.take k)).flatMap eI), HP.own 1 pv k (flts (powF L) k), HP.cell Br z4]) L.length ⟨0, _, _, by omega, e0, e4, e5, e6, e7, e8, e9, (H.nil 1).nil 3⟩ ?_))
  clear e0 e4 e5 e6 e7 e8 e9 fr H s1
  rintro m fr s1 ⟨k, lv, pv, hk, e0, e4, e5, e6, e7, e8, e9, H⟩
  refine W_assoc ?_
  refine W_seq (W_ops [0, 4, 5, 6, 7, 8, 9, 28] ?_)
  simp only [o21_9, WO_bin, WO_bu, WO_move, bin_lss, WO_nil, PureK_some, geT_put, evO_tmp, keep_nil, keep_cons, keepK_eq, List.map_cons, List.map_nil, Nat.reduceEqDiff, ↓reduceIte, eq_self, e0, e4, e5, e6, e7, e8, e9, a.len]
  clear e0 e4 e5 e6 e7 e8 e9
  intro fr e0 e4 e5 e6 e7 e8 e9 e28
  refine SeqK_n ?_
  refine W_while e28 (fun hlt => ?_) (fun hlt => ?_)
  · have hk1 : k < L.length := by omega
    have htl := topUp_lt (L := L) (k := k) (by omega) (by omega)
    obtain ⟨x, hx⟩ : ∃ x, x = atI L k := ⟨_, rfl⟩
    obtain ⟨y, hy⟩ : ∃ y, y = atI L (topUp L k) := ⟨_, rfl⟩
    have aK := a.addr (kk := .i64) (i := (k : Int)) rfl hk1
    have aT := a.addr (kk := .i64) (i := ((topUp L k : Nat) : Int)) rfl htl
    have p0 := a.fld (by omega) (k * 3) 0
    have p1 := a.fld (by omega) (k * 3) 1
    have p2 := a.fld (by omega) (k * 3) 2
    have t2 := a.fld (by omega) (topUp L k * 3) 2
    rw [Nat.add_zero] at p0
    have l0 : ∀ s', Same s s' (fun _ => False) → loadV s' none (elP v (k * 3)) = some (.int .i64 x.1) := fun s' hs => by rw [hx]; exact (a.same hs (fun _ _ h => h)).load (flatI hk1).1
    have l1 : ∀ s', Same s s' (fun _ => False) → loadV s' none (elP v (k * 3 + 1)) = some (.int .i64 x.2.1) := fun s' hs => by rw [hx]; exact (a.same hs (fun _ _ h => h)).load (flatI hk1).2.1
    have l2 : ∀ s', Same s s' (fun _ => False) → loadV s' none (elP v (k * 3 + 2)) = some (.float .f64 x.2.2) := fun s' hs => by rw [hx]; exact (a.same hs (fun _ _ h => h)).load (flatI hk1).2.2.1
    have lt2 : ∀ s', Same s s' (fun _ => False) → loadV s' none (elP v (topUp L k * 3 + 2)) = some (.float .f64 y.2.2) := fun s' hs => by rw [hy]; exact (a.same hs (fun _ _ h => h)).load (flatI htl).2.2.1
    have hcx : cl x.1 (-1073741824) 1073741824 = cz x.1 := rfl
    have hcx2 : cl x.2.1 (-1073741824) 1073741824 = cz x.2.1 := rfl
    obtain ⟨lv', s2, ap, H2⟩ := H.push (bytes := 24) (new := eI (cS x)) rfl rfl (by omega) (by decide) (by omega) (by omega) (by omega)
    rw [hx, czL_take hk1] at H2
    refine W_seq (W_block ?_)
    refine W_seq (W_drawM [0, 4, 5, 6, 7, 8, 9] 1 rfl ?_)
    intro s' hh hn hs'
    have hss := (H.keep hs').same
    have sn := setH_new (b := .cells (eI (cS x)) false) hh hn
    simp only [eI, cS] at sn ap
    simp only [d21_10, WD_move, WD_fieldAddr, WD_addrSl, WD_load, WD_call, DPureK_some, DReadK_some, pastR_nil, joinF_nil, setH_self, geT_put, evO_tmp, evO_const, List.map_cons, List.map_nil, Nat.reduceEqDiff, Nat.reduceAdd, ↓reduceIte, eq_self, true_and, Nat.zero_add, e0, e6, e9, aK, p0, l0 s' hss]
    refine DCallK_of rfl (run45 hX ho (by decide)) ?_
    rintro _ _ ⟨rfl, rfl⟩
    simp only [WD_addrSl, WD_call, WD_fieldAddr, WD_load, WD_move, DPureK_some, DReadK_some, pastR_nil, pastR_cons, joinF_nil, setH_self, Nat.testBit, Nat.reduceShiftRight, Nat.reduceAnd, Nat.reduceBneDiff, List.all_nil, List.all_cons, List.filter_nil, List.filter_cons, sameO_int, bne_self_eq_false, geT_put, evO_tmp, evO_const, List.map_cons, List.map_nil, Nat.reduceEqDiff, Nat.reduceAdd, ↓reduceIte, Bool.not_true, Bool.and_true, Bool.true_or, eq_self, Bool.false_eq_true, true_and, e0, e9, aK, p1, l1 s' hss]
    refine DCallK_of rfl (run45 hX ho (by decide)) ?_
    rintro _ _ ⟨rfl, rfl⟩
    simp only [WD_addrSl, WD_append, WD_build, WD_buildSlice, WD_fieldAddr, WD_load, WD_move, WD_nil, DPureK_some, DReadK_some, DActK_some, DNewK_some, pastR_nil, pastR_cons, preHead_cons, joinF_nil, joinF_cons, joinAll_nil, setH_self, Nat.testBit, Nat.reduceShiftRight, Nat.reduceAnd, Nat.reduceBneDiff, List.all_nil, List.all_cons, List.filter_nil, List.filter_cons, sameO_float, bne_self_eq_false, geT_put, evO_tmp, keep_nil, keep_cons, keepK_eq, List.map_cons, List.map_nil, Nat.reduceEqDiff, Nat.reduceAdd, ↓reduceIte, Bool.not_true, Bool.and_true, Bool.true_or, eq_self, Bool.false_eq_true, true_and, Nat.zero_mul, e0, e4, e5, e7, e8, e9, hcx, hcx2, aK, p2, l2 s' hss, build_sp, buildSlD_sp, sn, ap]
    clear e0 e4 e5 e6 e7 e8 e9
    intro fr e0 e4 e5 e6 e7 e8 e9
    refine SeqK_n ?_
    have H3 := H2.up1
    have hss2 := H2.same
    obtain ⟨pv', s3, ap2, H4⟩ := H3.push (bytes := 8) (new := [.float .f64 x.2.2]) rfl rfl (by omega) (by decide) (by omega) (by omega) (by omega)
    have hpx : powF L k = x.2.2 := by rw [hx]; rfl
    rw [← hpx, flts_succ] at H4
    refine W_seq (W_ops [0, 4, 5, 6, 7, 8, 9] ?_)
    simp only [o21_11, WO_addrSl, WO_append, WO_buildSlice, WO_fieldAddr, WO_load, WO_move, WO_nil, PureK_some, MemK_some, NewK_some, geT_put, evO_tmp, keep_nil, keep_cons, keepK_eq, List.map_cons, List.map_nil, Nat.reduceEqDiff, ↓reduceIte, eq_self, Nat.mul_one, e0, e4, e5, e6, e7, e8, e9, aK, p2, l2 s2 hss2, buildSl_f, ap2]
    clear e0 e4 e5 e6 e7 e8 e9
    intro fr e0 e4 e5 e6 e7 e8 e9
    refine SeqK_n ?_
    have hss3 := H4.same
    refine W_seq (W_draw0 [0, 4, 5, 6, 7, 8, 9, 10] rfl ?_)
    simp only [d21_12, WD_addrSl, WD_call, WD_fieldAddr, WD_load, WD_move, DPureK_some, DReadK_some, pastR_nil, joinF_nil, setH_self, geT_put, evO_tmp, List.map_cons, List.map_nil, Nat.reduceEqDiff, Nat.reduceAdd, ↓reduceIte, eq_self, true_and, Nat.zero_add, e0, e8, e9, aK, aT, p2, t2, l2 s3 hss3, lt2 s3 hss3]
    refine DCallK_of rfl (run46 hX ho (x := x.2.2) (y := y.2.2) (by rw [← hpx]; exact hf k hk1) (by rw [hy]; exact hf _ htl)) ?_
    rintro _ _ ⟨rfl, rfl⟩
    simp only [WD_move, WD_nil, DPureK_some, joinF_nil, joinAll_nil, setH_self, Nat.testBit, Nat.reduceShiftRight, Nat.reduceAnd, Nat.reduceBneDiff, List.all_nil, List.all_cons, List.filter_nil, List.filter_cons, geT_put, evO_tmp, keep_nil, keep_cons, keepK_eq, Nat.reduceEqDiff, Nat.reduceAdd, ↓reduceIte, Bool.not_true, Bool.and_true, Bool.true_or, eq_self, Bool.false_eq_true, true_and, e0, e4, e5, e6, e7, e8, e9]
    clear e0 e4 e5 e6 e7 e8 e9
    intro fr e0 e4 e5 e6 e7 e8 e9 e10
    refine SeqK_n ?_
    refine W_seq (W_ops [0, 4, 5, 6, 7, 8, 9, 71] ?_)
    simp only [o21_13, WO_move, WO_nil, geT_put, evO_tmp, keep_nil, keep_cons, keepK_eq, Nat.reduceEqDiff, ↓reduceIte, eq_self, e0, e4, e5, e6, e7, e8, e9, e10]
    clear e0 e4 e5 e6 e7 e8 e9 e10
    intro fr e0 e4 e5 e6 e7 e8 e9 e71
    refine SeqK_n ?_
    have hts : topUp L (k + 1) = if aboveB x.2.2 y.2.2 = true then k else topUp L k := by rw [hx, hy]; rfl
    by_cases hab : aboveB x.2.2 y.2.2 = true
    · rw [hab] at e71
      rw [if_pos hab] at hts
      refine W_cond e71 (fun _ => ?_) (fun h => by cases h)
      refine W_ops [0, 4, 5, 6, 7, 8, 9] ?_
      simp only [o21_14, WO_move, WO_nil, geT_put, evO_tmp, keep_nil, keep_cons, keepK_eq, Nat.reduceEqDiff, ↓reduceIte, eq_self, e0, e4, e5, e6, e7, e9]
      clear e0 e4 e5 e6 e7 e8 e9 e71
      intro fr e0 e4 e5 e6 e7 e8 e9
      refine BlkK_n (SeqK_n ?_)
      refine W_ops [0, 4, 5, 6, 7, 8, 9] ?_
      simp only [o21_15, WO_bin, WO_move, bin_add, WO_nil, PureK_some, geT_put, evO_tmp, evO_const, keep_nil, keep_cons, keepK_eq, Nat.reduceEqDiff, ↓reduceIte, eq_self, e0, e4, e5, e6, e7, e8, e9, wrap_i64 (n := (k : Int) + 1) (by omega) (by omega)]
      clear e0 e4 e5 e6 e7 e8 e9
      intro fr e0 e4 e5 e6 e7 e8 e9
      exact LoopK_n (m' := m - 1) (by omega) ⟨k + 1, lv', pv', by omega, e0, e4, e5, e6, e7, by rw [e8, hts], by rw [e9]; rfl, H4.up1⟩
    · rw [if_neg hab] at hts
      rw [Bool.not_eq_true] at hab
      rw [hab] at e71
      refine W_cond e71 (fun h => by cases h) (fun _ => W_skip (BlkK_n (SeqK_n ?_)))
      refine W_ops [0, 4, 5, 6, 7, 8, 9] ?_
      simp only [o21_15, WO_bin, WO_move, bin_add, WO_nil, PureK_some, geT_put, evO_tmp, evO_const, keep_nil, keep_cons, keepK_eq, Nat.reduceEqDiff, ↓reduceIte, eq_self, e0, e4, e5, e6, e7, e8, e9, wrap_i64 (n := (k : Int) + 1) (by omega) (by omega)]
      clear e0 e4 e5 e6 e7 e8 e9 e71
      intro fr e0 e4 e5 e6 e7 e8 e9
      exact LoopK_n (m' := m - 1) (by omega) ⟨k + 1, lv', pv', by omega, e0, e4, e5, e6, e7, by rw [e8, hts], by rw [e9]; rfl, H4.up1⟩
  · have hkn : k = L.length := by omega
    subst hkn
    rw [List.take_length] at H
    refine LoopK_x (BlkK_e (SeqK_n ?_))
    obtain ⟨t, ht⟩ : ∃ t, t = topUp L L.length := ⟨_, rfl⟩
    have htl : t < L.length := by rw [ht]; exact topUp_lt (Nat.le_refl _) (by omega)
    obtain ⟨S, hS⟩ : ∃ S, S = sumN (powF L) L.length := ⟨_, rfl⟩
    have hSw : FW S := by rw [hS]; exact sumN_w (hf 0 (by omega))
    rw [← ht] at e8
    obtain ⟨y, hy⟩ : ∃ y, y = atI L t := ⟨_, rfl⟩
    have hcen : cenF L B = if stopB S = true then cenV (FloatKind.f64.nearest (cz y.1)) (FloatKind.f64.nearest (cz y.2.1)) S L.length
        else cenV (wrapB (fadd .f64 (FloatKind.f64.nearest (cz y.1)) (fdiv .f64 (sumN (mD L t B) L.length) S)) B) (fadd .f64 (FloatKind.f64.nearest (cz y.2.1)) (fdiv .f64 (sumN (mE L t) L.length) S)) S L.length := by
      rw [cenF, if_neg hL]; simp only [hy, ht, hS]
    refine W_seq (W_ops [4, 5, 6, 8, 11] ?_)
    simp only [o21_16, WO_call, WO_move, geT_put, evO_tmp, List.map_cons, List.map_nil, ↓reduceIte, eq_self, e7]
    refine CallK_of (run47 hX ho (f := powF L) (H.up1.own (List.mem_cons_self ..)).slc (by omega)) ?_
    rintro _ _ ⟨rfl, rfl⟩
    simp only [WO_move, WO_nil, geT_put, evO_tmp, keep_nil, keep_cons, keepK_eq, Nat.reduceEqDiff, ↓reduceIte, eq_self, e4, e5, e6, e8]
    clear e0 e4 e5 e6 e7 e8 e9 e28
    intro fr e4 e5 e6 e8 e11
    refine SeqK_n ?_
    rw [← hS] at e11
    have H1 : Hold s s1 [HP.own 3 lv L.length ((czL L).flatMap eI), HP.cell Br z4] := H.sub (.cons_cons _ (.cons _ (List.Sublist.refl _)))
    clear H
    have hby := cz_bd y.1
    have hby2 := cz_bd y.2.1
    have hcl := czL_len L
    have hat : atI (czL L) t = cS y := by rw [hy]; exact czL_at htl
    have sl := (H1.own (List.mem_cons_self ..)).slc
    have aT := sl.addr (kk := .i64) (i := ((t : Nat) : Int)) rfl htl
    have p0 := sl.fld (by omega) (t * 3) 0
    have p1 := sl.fld (by omega) (t * 3) 1
    rw [Nat.add_zero] at p0
    have fT := flatI (L := czL L) (i := t) (by omega)
    rw [hat] at fT
    obtain ⟨b0, hb0⟩ : ∃ b, b = FloatKind.f64.nearest (cz y.1) := ⟨_, rfl⟩
    obtain ⟨g0, hg0⟩ : ∃ g, g = FloatKind.f64.nearest (cz y.2.1) := ⟨_, rfl⟩
    rw [← hb0, ← hg0] at hcen
    have hb : buildV [.float .f64 0, .float .f64 0, .float .f64 0, .int .i64 0] [(0, 1, .float .f64 b0), (1, 1, .float .f64 g0), (2, 1, .float .f64 S), (3, 1, .int .i64 (L.length : Nat))] = some (.agg (cenV b0 g0 S L.length).toArray) := rfl
    have H2 := H1.new z4
    have st := store_all (n := 4) (vs := cenV b0 g0 S L.length) (H2.cell (List.mem_cons_self ..)) rfl rfl rfl
    have H3 := H2.setc (cs' := cenV b0 g0 S L.length)
    refine W_seq (W_drawM [4, 5, 6, 8, 11, 12] 1 rfl ?_)
    intro s' hh hn hs'
    have sl' := sl.same hs' (fun _ _ h => h)
    have l0 : loadV s' none (elP lv (t * 3)) = some (.int .i64 (cz y.1)) := sl'.load fT.1
    have l1 : loadV s' none (elP lv (t * 3 + 1)) = some (.int .i64 (cz y.2.1)) := sl'.load fT.2.1
    have sn : setH s' (Store.put s'.h s1.nxt (some (.cells [.float .f64 0, .float .f64 0, .float .f64 0, .int .i64 0] false))) = newAt s1 (.cells z4 false) := setH_new (b := .cells z4 false) hh hn
    simp only [d21_17, WD_move, WD_conv, WD_fieldAddr, WD_addrSl, WD_build, WD_bu, WD_load, WD_alloc, WD_store, WD_nil, DPureK_some, DReadK_some, DActK_some, pastR_nil, preHead_nil, joinF_nil, joinF_cons, joinAll_nil, setH_self, Nat.testBit, Nat.reduceShiftRight, Nat.reduceAnd, Nat.reduceBneDiff, List.all_nil, List.all_cons, List.filter_nil, List.filter_cons, geT_put, puT_none, evO_tmp, keep_nil, keep_cons, keepK_eq, List.map_cons, List.map_nil, Nat.reduceEqDiff, Nat.reduceAdd, ↓reduceIte, conv_float, Bool.not_true, Bool.and_true, Bool.true_or, eq_self, Bool.false_eq_true, true_and, Nat.zero_add, e4, e5, e6, e8, e11, aT, p0, p1, l0, l1, sl.len, ← hb0, ← hg0, hb, sn, st]
    clear e4 e5 e6 e8 e11
    intro fr e4 e5 e6 e8 e11 e12
    refine SeqK_n ?_
    clear H2 st sn hb p0 p1 fT aT sl' l0 l1 hs' hn hh s'
    generalize setBlk (newAt s1 (.cells z4 false)) s1.nxt (.cells (cenV b0 g0 S L.length) false) = s2 at H3 ⊢
    generalize s1.nxt = Bc at H3 e12
    refine W_seq (W_ops [4, 5, 6, 8, 11, 12, 13] ?_)
    simp only [o21_18, WO_call, WO_move, geT_put, evO_tmp, List.map_cons, List.map_nil, ↓reduceIte, eq_self, e11]
    refine CallK_of (run48 hX ho) ?_
    rintro _ _ ⟨rfl, rfl⟩
    simp only [WO_move, WO_nil, geT_put, evO_tmp, keep_nil, keep_cons, keepK_eq, Nat.reduceEqDiff, ↓reduceIte, eq_self, e4, e5, e6, e8, e11, e12]
    clear e4 e5 e6 e8 e11 e12
    intro fr e4 e5 e6 e8 e11 e12 e13
    refine SeqK_n ?_
    have h2 := stop_two hSw
    generalize ((ford .f64 S S == some .eq) && ((ford .f64 S 9218868437227405311 == some .lt || ford .f64 S 9218868437227405311 == some .eq) && (ford .f64 S 18442240474082181119 == some .gt || ford .f64 S 18442240474082181119 == some .eq))) = fin at e13 h2
    refine W_assoc ?_
    refine W_seq (W_opsB [4, 5, 6, 8, 11, 12, 99] (fun fr1 s6 => s2 = s6 ∧ geT fr1 4 = .pointer (some ⟨Br, 0, none⟩) ∧ geT fr1 5 = .int .i64 B ∧ geT fr1 6 = lv ∧ geT fr1 8 = .int .i64 (t : Nat) ∧ geT fr1 11 = .float .f64 S ∧ geT fr1 12 = .pointer (some ⟨Bc, 0, none⟩) ∧ geT fr1 99 = .bool (stopB S)) ?_ ?_)
    · intro R' hR'
      cases fin with
      | false =>
        simp only [o21_19, WO_nil, WO_move, WO_pick, WO_un, WO_guard, PureK_some, geT_put, evO_tmp, evO_const, want_v, wantB_f, keep_nil, keep_cons, keepK_eq, Nat.reduceEqDiff, ↓reduceIte, pick_b, un_not, Bool.not_true, Bool.not_false, eq_self, Bool.false_eq_true, e4, e5, e6, e8, e11, e12, e13]
        intro fr e4 e5 e6 e8 e11 e12 e99
        exact hR' _ _ ⟨rfl, e4, e5, e6, e8, e11, e12, by rw [e99, ← h2]; rfl⟩
      | true =>
        simp only [o21_19, WO_nil, WO_move, WO_pick, WO_bin, WO_un, WO_guard, PureK_some, geT_put, evO_tmp, evO_const, want_v, wantB_f, keep_nil, keep_cons, keepK_eq, Nat.reduceEqDiff, ↓reduceIte, pick_b, binf_gtr, un_not, Bool.not_true, Bool.not_false, eq_self, Bool.false_eq_true, e4, e5, e6, e8, e11, e12, e13]
        intro fr e4 e5 e6 e8 e11 e12 e99
        exact hR' _ _ ⟨rfl, e4, e5, e6, e8, e11, e12, by rw [e99, ← h2]; rfl⟩
    clear e4 e5 e6 e8 e11 e12 e13 fr
    rintro fr _ ⟨rfl, e4, e5, e6, e8, e11, e12, e99⟩
    refine SeqK_n ?_
    by_cases hst : stopB S = true
    · rw [hst] at e99
      rw [if_pos hst] at hcen
      refine W_seq (W_cond e99 (fun _ => ?_) (fun h => by cases h))
      have lc : loadV s2 (some 4) (.pointer (some ⟨Bc, 0, none⟩)) = some (.agg (cenV b0 g0 S L.length).toArray) := loadn_all (H3.cell (List.mem_cons_self ..)) rfl
      have H4 := H3.up2
      have st := store_all (n := 4) (vs := cenV b0 g0 S L.length) (H4.cell (List.mem_cons_self ..)) rfl rfl rfl
      have H5 := H4.setc (cs' := cenV b0 g0 S L.length)
      refine W_seq (W_ops [4] ?_)
      simp only [o21_20, WO_load, WO_store, WO_nil, PureK_some, MemK_some, geT_put, puT_none, evO_tmp, keep_nil, keep_cons, keepK_eq, Nat.reduceEqDiff, ↓reduceIte, eq_self, e4, e12, lc, st]
      clear e4 e5 e6 e8 e11 e12 e99
      intro fr e4
      refine SeqK_n ?_
      exact W_ret (SeqK_r (RetC1 e4 (loadn_all (H5.cell (List.mem_cons_self ..)) rfl) ⟨by rw [hcen], H5.same⟩))
    · rw [if_neg hst] at hcen
      rw [Bool.not_eq_true] at hst
      rw [hst] at e99
      refine W_seq (W_cond e99 (fun h => by cases h) (fun _ => W_skip (SeqK_n ?_)))
      refine W_seq (W_ops [4, 5, 6, 8, 11, 12, 14] ?_)
      simp only [o21_21, WO_move, WO_nil, geT_put, evO_const, keep_nil, keep_cons, keepK_eq, Nat.reduceEqDiff, ↓reduceIte, eq_self, e4, e5, e6, e8, e11, e12]
      clear e4 e5 e6 e8 e11 e12 e99
      intro fr e4 e5 e6 e8 e11 e12 e14
      refine SeqK_n ?_
      refine W_seq (W_ops [4, 5, 6, 8, 11, 12, 14, 15] ?_)
      simp only [o21_22, WO_move, WO_nil, geT_put, evO_const, keep_nil, keep_cons, keepK_eq, Nat.reduceEqDiff, ↓reduceIte, eq_self, e4, e5, e6, e8, e11, e12, e14]
      clear e4 e5 e6 e8 e11 e12 e14
      intro fr e4 e5 e6 e8 e11 e12 e14 e15
      refine SeqK_n ?_
      refine W_assoc ?_
      refine W_seq (W_ops [4, 5, 6, 8, 11, 12, 14, 15, 16] ?_)
      simp only [o21_23, WO_move, WO_nil, geT_put, evO_const, keep_nil, keep_cons, keepK_eq, Nat.reduceEqDiff, ↓reduceIte, eq_self, e4, e5, e6, e8, e11, e12, e14, e15]
      clear e4 e5 e6 e8 e11 e12 e14 e15
      intro fr e4 e5 e6 e8 e11 e12 e14 e15 e16
      refine SeqK_n ?_
      have H4 := (H3.nil 1).nil 1
      refine W_seq (W_block (W_loop (fun m fr s1 => ∃ k dv ev, k + m = L.length ∧ geT fr 4 = .pointer (some ⟨Br, 0, none⟩) ∧ geT fr 5 = .int .i64 B ∧ geT fr 6 = lv ∧ geT fr 8 = .int .i64 (t : Nat) ∧ geT fr 11 = .float .f64 S ∧ geT fr 12 = .pointer (some ⟨Bc, 0, none⟩) ∧ geT fr 14 = dv ∧ geT fr 15 = ev ∧ geT fr 16 = .int .i64 (k : Nat) ∧
        Hold s s1 [HP.own 1 dv k (flts (mD L t B) k), HP.own 1 ev k (flts (mE L t) k), HP.cell Bc (cenV b0 g0 S L.length), HP.own 3 lv L.length ((czL L).flatMap eI), HP.cell Br z4]) L.length ⟨0, _, _, by omega, e4, e5, e6, e8, e11, e12, e14, e15, e16, H4⟩ ?_))
      clear e4 e5 e6 e8 e11 e12 e14 e15 e16 fr H4 H3 H1 sl s2 s1 hk
      rintro m fr s1 ⟨k, dv, ev, hk, e4, e5, e6, e8, e11, e12, e14, e15, e16, H⟩
      have sl := (H.own (v := lv) (n := L.length) (sz := 3) (cs := (czL L).flatMap eI) (by simp)).slc
      refine W_assoc ?_
      refine W_seq (W_ops [4, 5, 6, 8, 11, 12, 14, 15, 16, 104] ?_)
      simp only [o21_25, WO_bin, WO_bu, WO_move, bin_lss, WO_nil, PureK_some, geT_put, evO_tmp, keep_nil, keep_cons, keepK_eq, List.map_cons, List.map_nil, Nat.reduceEqDiff, ↓reduceIte, eq_self, e4, e5, e6, e8, e11, e12, e14, e15, e16, sl.len]
      clear e4 e5 e6 e8 e11 e12 e14 e15 e16
      intro fr e4 e5 e6 e8 e11 e12 e14 e15 e16 e104
      refine SeqK_n ?_
      refine W_while e104 (fun hlt => ?_) (fun hlt => ?_)
      · have hk1 : k < L.length := by omega
        obtain ⟨x, hx⟩ : ∃ x, x = atI L k := ⟨_, rfl⟩
        have hbx := cz_bd x.1
        have hbx2 := cz_bd x.2.1
        have hak : atI (czL L) k = cS x := by rw [hx]; exact czL_at hk1
        have fT := flatI (L := czL L) (i := t) (by omega)
        rw [hat] at fT
        have fK := flatI (L := czL L) (i := k) (by omega)
        rw [hak] at fK
        have aT := sl.addr (kk := .i64) (i := ((t : Nat) : Int)) rfl htl
        have aK := sl.addr (kk := .i64) (i := (k : Int)) rfl hk1
        have t0 := sl.fld (by omega) (t * 3) 0
        have t1 := sl.fld (by omega) (t * 3) 1
        have p0 := sl.fld (by omega) (k * 3) 0
        have p1 := sl.fld (by omega) (k * 3) 1
        have p2 := sl.fld (by omega) (k * 3) 2
        rw [Nat.add_zero] at t0 p0
        have ld : ∀ {s'}, Same s1 s' (fun _ => False) → ∀ {o : Nat} {w : Value}, ((czL L).flatMap eI)[o]? = some w → loadV s' none (elP lv o) = some w := fun hs _ _ h => (sl.same hs (fun _ _ h => h)).load h
        refine W_seq (W_block ?_)
        refine W_seq (W_draw0 [4, 5, 6, 8, 11, 12, 14, 15, 16, 17] rfl ?_)
        simp only [d21_26, WD_addrSl, WD_call, WD_fieldAddr, WD_load, WD_move, DPureK_some, DReadK_some, pastR_nil, joinF_nil, setH_self, geT_put, evO_tmp, List.map_cons, List.map_nil, Nat.reduceEqDiff, Nat.reduceAdd, ↓reduceIte, eq_self, true_and, Nat.zero_add, e5, e6, e8, e16, aT, aK, t0, p0, ld (.refl _ _) fT.1, ld (.refl _ _) fK.1]
        refine DCallK_of rfl (run49 hX ho hbx hby hBb) ?_
        rintro _ _ ⟨rfl, rfl⟩
        simp only [WD_move, WD_nil, DPureK_some, joinF_nil, joinAll_nil, setH_self, Nat.testBit, Nat.reduceShiftRight, Nat.reduceAnd, Nat.reduceBneDiff, List.all_nil, List.all_cons, List.filter_nil, List.filter_cons, geT_put, evO_tmp, keep_nil, keep_cons, keepK_eq, Nat.reduceEqDiff, Nat.reduceAdd, ↓reduceIte, Bool.not_true, Bool.and_true, Bool.true_or, eq_self, Bool.false_eq_true, true_and, e4, e5, e6, e8, e11, e12, e14, e15, e16]
        clear e4 e5 e6 e8 e11 e12 e14 e15 e16 e104
        intro fr e4 e5 e6 e8 e11 e12 e14 e15 e16 e17
        refine SeqK_n ?_
        rw [show (cS x).1 = cz x.1 from rfl, show (cS y).1 = cz y.1 from rfl] at e17
        have hD : fmul .f64 x.2.2 (FloatKind.f64.nearest (offI (cz x.1) (cz y.1) B)) = mD L t B k := by rw [hx, hy]; rfl
        have hE : fmul .f64 x.2.2 (FloatKind.f64.nearest (cz x.2.1 - cz y.2.1)) = mE L t k := by rw [hx, hy]; rfl
        obtain ⟨dv', s2, ap, H2⟩ := H.push (bytes := 8) (new := [.float .f64 (mD L t B k)]) rfl rfl (by omega) (by decide) (by omega) (by omega) (by omega)
        rw [flts_succ] at H2
        have l2 := ld (.refl _ _) fK.2.2.1
        have hx2 : (cS x).2.2 = x.2.2 := rfl
        rw [hx2] at l2
        refine W_seq (W_ops [4, 5, 6, 8, 11, 12, 14, 15, 16] ?_)
        simp only [o21_27, WO_addrSl, WO_append, WO_bin, WO_buildSlice, WO_conv, conv_float, WO_fieldAddr, WO_load, WO_move, binf_mul, WO_nil, PureK_some, MemK_some, NewK_some, geT_put, evO_tmp, keep_nil, keep_cons, keepK_eq, List.map_cons, List.map_nil, Nat.reduceEqDiff, ↓reduceIte, eq_self, Nat.mul_one, e4, e5, e6, e8, e11, e12, e14, e15, e16, e17, aK, p2, l2, hD, buildSl_f, ap]
        clear e4 e5 e6 e8 e11 e12 e14 e15 e16 e17
        intro fr e4 e5 e6 e8 e11 e12 e14 e15 e16
        refine SeqK_n ?_
        have H3 := H2.up1
        have sl2 := (H3.own (v := lv) (n := L.length) (sz := 3) (cs := (czL L).flatMap eI) (by simp)).slc
        obtain ⟨ev', s3, ap2, H4⟩ := H3.push (bytes := 8) (new := [.float .f64 (mE L t k)]) rfl rfl (by omega) (by decide) (by omega) (by omega) (by omega)
        rw [flts_succ] at H4
        refine W_drawM [4, 5, 6, 8, 11, 12, 14, 15, 16] 1 rfl ?_
        intro s' hh hn hs'
        have ld2 : ∀ {o : Nat} {w : Value}, ((czL L).flatMap eI)[o]? = some w → loadV s' none (elP lv o) = some w := fun h => (sl2.same hs' (fun _ _ h => h)).load h
        have m2 : loadV s' none (elP lv (k * 3 + 2)) = some (.float .f64 x.2.2) := ld2 fK.2.2.1
        have m1 : loadV s' none (elP lv (k * 3 + 1)) = some (.int .i64 (cz x.2.1)) := ld2 fK.2.1
        have n1 : loadV s' none (elP lv (t * 3 + 1)) = some (.int .i64 (cz y.2.1)) := ld2 fT.2.1
        have sn := setH_new (b := .cells [.float .f64 (mE L t k)] false) hh hn
        simp only [d21_28, WD_move, WD_bin, WD_conv, WD_fieldAddr, WD_addrSl, WD_load, WD_buildSlice, WD_append, WD_nil, DPureK_some, DReadK_some, DActK_some, DNewK_some, pastR_nil, preHead_nil, joinF_nil, joinF_cons, joinAll_nil, setH_self, Nat.testBit, Nat.reduceShiftRight, Nat.reduceAnd, Nat.reduceBneDiff, List.all_nil, List.all_cons, List.filter_nil, List.filter_cons, geT_put, evO_tmp, keep_nil, keep_cons, keepK_eq, List.map_cons, List.map_nil, Nat.reduceEqDiff, Nat.reduceAdd, ↓reduceIte, bin_sub, binf_mul, conv_float, Bool.not_true, Bool.and_true, Bool.true_or, eq_self, Bool.false_eq_true, true_and, Nat.zero_add, Nat.mul_one, e4, e5, e6, e8, e11, e12, e14, e15, e16, aT, aK, t1, p1, p2, m1, m2, n1, wrap_i64 (n := cz x.2.1 - cz y.2.1) (by omega) (by omega), hE, buildSlD_f, sn, ap2]
        clear e4 e5 e6 e8 e11 e12 e14 e15 e16
        intro fr e4 e5 e6 e8 e11 e12 e14 e15 e16
        refine BlkK_n (SeqK_n ?_)
        refine W_ops [4, 5, 6, 8, 11, 12, 14, 15, 16] ?_
        simp only [o21_29, WO_bin, WO_move, bin_add, WO_nil, PureK_some, geT_put, evO_tmp, evO_const, keep_nil, keep_cons, keepK_eq, Nat.reduceEqDiff, ↓reduceIte, eq_self, e4, e5, e6, e8, e11, e12, e14, e15, e16, wrap_i64 (n := (k : Int) + 1) (by omega) (by omega)]
        clear e4 e5 e6 e8 e11 e12 e14 e15 e16
        intro fr e4 e5 e6 e8 e11 e12 e14 e15 e16
        exact LoopK_n (m' := m - 1) (by omega) ⟨k + 1, dv', ev', by omega, e4, e5, e6, e8, e11, e12, e14, e15, by rw [e16]; rfl, H4.up1⟩
      · have hkn : k = L.length := by omega
        subst hkn
        refine LoopK_x (BlkK_e (SeqK_n ?_))
        obtain ⟨D, hD⟩ : ∃ D, D = sumN (mD L t B) L.length := ⟨_, rfl⟩
        obtain ⟨E, hE⟩ : ∃ E, E = sumN (mE L t) L.length := ⟨_, rfl⟩
        rw [← hD, ← hE] at hcen
        obtain ⟨x0, hx0⟩ : ∃ x, x = fadd .f64 b0 (fdiv .f64 D S) := ⟨_, rfl⟩
        obtain ⟨y0, hy0⟩ : ∃ y, y = fadd .f64 g0 (fdiv .f64 E S) := ⟨_, rfl⟩
        rw [← hx0, ← hy0] at hcen
        have H1 := H.up2
        have c1 : loadV s1 none (.pointer (some ⟨Bc, 1, none⟩)) = some (.float .f64 g0) := load_g (o := 1) (H1.cell (List.mem_cons_self ..))
        have st1 : storeV s1 1 (.pointer (some ⟨Bc, 1, none⟩)) (.float .f64 (fadd .f64 g0 (fdiv .f64 E S))) = some (undefV, setBlk s1 Bc (.cells (cenV b0 y0 S L.length) false)) := by
          rw [hy0]; exact store_g (o := 1) (H1.cell (List.mem_cons_self ..)) rfl (by simp [cenV])
        have H2 := H1.setc (cs' := cenV b0 y0 S L.length)
        refine W_seq (W_draw0 [4, 5, 11, 12, 14] rfl ?_)
        simp only [d21_30, WD_call, WD_fieldAddr, fieldAddr_p, WD_load, WD_move, DPureK_some, DReadK_some, pastR_nil, joinF_nil, setH_self, geT_put, evO_tmp, List.map_cons, List.map_nil, Nat.reduceEqDiff, Nat.reduceAdd, ↓reduceIte, eq_self, true_and, Nat.zero_add, e12, e15, c1]
        refine DCallK_of rfl (run47 hX ho (f := mE L t) (H.up1.own (List.mem_cons_self ..)).slc (by omega)) ?_
        rintro _ _ ⟨rfl, rfl⟩
        rw [← hE]
        simp only [WD_bin, WD_fieldAddr, fieldAddr_p, WD_move, WD_store, binf_add, binf_quo, WD_nil, DPureK_some, DActK_some, preHead_cons, joinF_nil, joinAll_nil, setH_self, Nat.testBit, Nat.reduceShiftRight, Nat.reduceAnd, Nat.reduceBneDiff, List.all_nil, List.all_cons, List.filter_nil, List.filter_cons, sameO_float, bne_self_eq_false, geT_put, puT_none, evO_tmp, keep_nil, keep_cons, keepK_eq, Nat.reduceEqDiff, Nat.reduceAdd, ↓reduceIte, Bool.not_true, Bool.not_false, Bool.and_true, Bool.or_true, Bool.true_or, eq_self, Bool.false_eq_true, true_and, Nat.zero_add, e4, e5, e11, e12, e14, c1, st1]
        clear e4 e5 e6 e8 e11 e12 e14 e15 e16 e104
        intro fr e4 e5 e11 e12 e14
        refine SeqK_n ?_
        generalize setBlk s1 Bc (.cells (cenV b0 y0 S L.length) false) = s2 at H2 ⊢
        have c0 : loadV s2 none (.pointer (some ⟨Bc, 0, none⟩)) = some (.float .f64 b0) := load_g (o := 0) (H2.cell (List.mem_cons_self ..))
        refine W_seq (W_draw0 [4, 5, 12, 18] rfl ?_)
        simp only [d21_31, WD_call, WD_fieldAddr, fieldAddr_p, WD_load, WD_move, DPureK_some, DReadK_some, pastR_nil, joinF_nil, setH_self, geT_put, evO_tmp, List.map_cons, List.map_nil, Nat.reduceEqDiff, Nat.reduceAdd, ↓reduceIte, eq_self, true_and, Nat.zero_add, Nat.add_zero, e12, e14, c0]
        refine DCallK_of rfl (run47 hX ho (f := mD L t B) (H2.up1.own (List.mem_cons_self ..)).slc (by omega)) ?_
        rintro _ _ ⟨rfl, rfl⟩
        rw [← hD]
        simp only [WD_bin, WD_move, binf_add, binf_quo, WD_nil, DPureK_some, joinF_nil, joinAll_nil, setH_self, Nat.testBit, Nat.reduceShiftRight, Nat.reduceAnd, List.all_nil, List.all_cons, List.filter_nil, List.filter_cons, sameO_float, bne_self_eq_false, geT_put, evO_tmp, keep_nil, keep_cons, keepK_eq, Nat.reduceEqDiff, Nat.reduceAdd, ↓reduceIte, Bool.not_false, Bool.and_true, Bool.or_true, eq_self, true_and, e4, e5, e11, e12, c0]
        clear e4 e5 e11 e12 e14
        intro fr e4 e5 e12 e18
        refine SeqK_n ?_
        rw [← hx0] at e18
        refine W_seq (W_cutN (fun fr1 s6 => s2 = s6 ∧ geT fr1 4 = .pointer (some ⟨Br, 0, none⟩) ∧ geT fr1 12 = .pointer (some ⟨Bc, 0, none⟩) ∧ geT fr1 18 = .float .f64 (wrapB x0 B)) ?_ ?_)
        · intro R' hR'
          by_cases hp : 0 < B
          · by_cases h1 : (ford .f64 x0 0 == some .lt) = true
            · refine W_seq (W_ops [4, 5, 12, 18, 171] ?_)
              simp only [o21_32, WO_bin, WO_move, WO_pick, pick_b, bin_gtr, binf_lss, WO_nil, PureK_some, WO_guard, want_v, wantB_t, geT_put, evO_tmp, evO_const, keep_nil, keep_cons, keepK_eq, Nat.reduceEqDiff, ↓reduceIte, eq_self, e4, e5, e12, e18, decide_eq_true hp, h1]
              clear e4 e5 e12 e18
              intro fr e4 e5 e12 e18 e171
              refine SeqK_n ?_
              refine W_cond e171 (fun _ => ?_) (fun h => by cases h)
              have hw : wrapB x0 B = fadd .f64 x0 (FloatKind.f64.nearest B) := by rw [wrapB, if_pos ⟨hp, h1⟩]
              refine W_ops [4, 12, 18] ?_
              simp only [o21_33, WO_bin, WO_conv, conv_float, WO_move, binf_add, WO_nil, PureK_some, geT_put, evO_tmp, keep_nil, keep_cons, keepK_eq, Nat.reduceEqDiff, ↓reduceIte, eq_self, e4, e5, e12, e18]
              clear e4 e5 e12 e18 e171
              intro fr e4 e12 e18
              exact hR' _ _ ⟨rfl, e4, e12, by rw [hw]; exact e18⟩
            · have h1' := h1
              rw [Bool.not_eq_true] at h1'
              refine W_seq (W_ops [4, 5, 12, 18, 171] ?_)
              simp only [o21_32, WO_bin, WO_move, WO_pick, pick_b, bin_gtr, binf_lss, WO_nil, PureK_some, WO_guard, want_v, wantB_t, geT_put, evO_tmp, evO_const, keep_nil, keep_cons, keepK_eq, Nat.reduceEqDiff, ↓reduceIte, eq_self, e4, e5, e12, e18, decide_eq_true hp, h1']
              clear e4 e5 e12 e18
              intro fr e4 e5 e12 e18 e171
              refine SeqK_n ?_
              refine W_cond e171 (fun h => by cases h) (fun _ => ?_)
              by_cases h2 : (ford .f64 x0 (FloatKind.f64.nearest B) == some .gt || ford .f64 x0 (FloatKind.f64.nearest B) == some .eq) = true
              · skip
                refine W_seq (W_ops [4, 5, 12, 18, 183] ?_)
                simp only [o21_34, WO_bin, WO_conv, conv_float, WO_move, WO_pick, pick_b, binf_geq, bin_gtr, WO_nil, PureK_some, WO_guard, want_v, wantB_t, geT_put, evO_tmp, evO_const, keep_nil, keep_cons, keepK_eq, Nat.reduceEqDiff, ↓reduceIte, eq_self, e4, e5, e12, e18, decide_eq_true hp, h2]
                clear e4 e5 e12 e18 e171
                intro fr e4 e5 e12 e18 e183
                refine SeqK_n ?_
                refine W_cond e183 (fun _ => ?_) (fun h => by cases h)
                have hw : wrapB x0 B = fsub .f64 x0 (FloatKind.f64.nearest B) := by rw [wrapB, if_neg (fun h => h1 h.2), if_pos ⟨hp, h2⟩]
                refine W_ops [4, 12, 18] ?_
                simp only [o21_35, WO_bin, WO_conv, conv_float, WO_move, binf_sub, WO_nil, PureK_some, geT_put, evO_tmp, keep_nil, keep_cons, keepK_eq, Nat.reduceEqDiff, ↓reduceIte, eq_self, e4, e5, e12, e18]
                clear e4 e5 e12 e18 e183
                intro fr e4 e12 e18
                exact hR' _ _ ⟨rfl, e4, e12, by rw [hw]; exact e18⟩
              · have h2' := h2
                rw [Bool.not_eq_true] at h2'
                refine W_seq (W_ops [4, 5, 12, 18, 183] ?_)
                simp only [o21_34, WO_bin, WO_conv, conv_float, WO_move, WO_pick, pick_b, binf_geq, bin_gtr, WO_nil, PureK_some, WO_guard, want_v, wantB_t, geT_put, evO_tmp, evO_const, keep_nil, keep_cons, keepK_eq, Nat.reduceEqDiff, ↓reduceIte, eq_self, e4, e5, e12, e18, decide_eq_true hp, h2']
                clear e4 e5 e12 e18 e171
                intro fr e4 e5 e12 e18 e183
                refine SeqK_n ?_
                refine W_cond e183 (fun h => by cases h) (fun _ => W_skip ?_)
                have hw : wrapB x0 B = x0 := by rw [wrapB, if_neg (fun h => h1 h.2), if_neg (fun h => h2 h.2)]
                exact hR' _ _ ⟨rfl, e4, e12, by rw [hw]; exact e18⟩
          · skip
            refine W_seq (W_ops [4, 5, 12, 18, 171] ?_)
            simp only [o21_32, WO_bin, WO_move, WO_pick, pick_b, bin_gtr, WO_nil, PureK_some, WO_guard, want_v, wantB_t, geT_put, evO_tmp, evO_const, keep_nil, keep_cons, keepK_eq, Nat.reduceEqDiff, ↓reduceIte, eq_self, Bool.false_eq_true, e4, e5, e12, e18, decide_eq_false hp]
            clear e4 e5 e12 e18
            intro fr e4 e5 e12 e18 e171
            refine SeqK_n ?_
            refine W_cond e171 (fun h => by cases h) (fun _ => ?_)
            refine W_seq (W_ops [4, 5, 12, 18, 183] ?_)
            simp only [o21_34, WO_bin, WO_move, WO_pick, pick_b, bin_gtr, WO_nil, PureK_some, WO_guard, want_v, wantB_t, geT_put, evO_tmp, evO_const, keep_nil, keep_cons, keepK_eq, Nat.reduceEqDiff, ↓reduceIte, eq_self, Bool.false_eq_true, e4, e5, e12, e18, decide_eq_false hp]
            clear e4 e5 e12 e18 e171
            intro fr e4 e5 e12 e18 e183
            refine SeqK_n ?_
            refine W_cond e183 (fun h => by cases h) (fun _ => W_skip ?_)
            have hw : wrapB x0 B = x0 := by rw [wrapB, if_neg (fun h => hp h.1), if_neg (fun h => hp h.1)]
            exact hR' _ _ ⟨rfl, e4, e12, by rw [hw]; exact e18⟩
        clear e4 e5 e12 e18 fr
        rintro fr _ ⟨rfl, e4, e12, e18⟩
        refine SeqK_n ?_
        have st0 : storeV s2 1 (.pointer (some ⟨Bc, 0, none⟩)) (.float .f64 (wrapB x0 B)) = some (undefV, setBlk s2 Bc (.cells (cenV (wrapB x0 B) y0 S L.length) false)) := store_g (o := 0) (H2.cell (List.mem_cons_self ..)) rfl (by simp [cenV])
        have H3 := H2.setc (cs' := cenV (wrapB x0 B) y0 S L.length)
        refine W_seq (W_ops [4, 12] ?_)
        simp only [o21_36, WO_fieldAddr, fieldAddr_p, WO_move, WO_store, WO_nil, PureK_some, MemK_some, geT_put, puT_none, evO_tmp, keep_nil, keep_cons, keepK_eq, Nat.reduceEqDiff, ↓reduceIte, eq_self, Nat.add_zero, e4, e12, e18, st0]
        clear e4 e12 e18
        intro fr e4 e12
        refine SeqK_n ?_
        generalize setBlk s2 Bc (.cells (cenV (wrapB x0 B) y0 S L.length) false) = s3 at H3 ⊢
        have lc : loadV s3 (some 4) (.pointer (some ⟨Bc, 0, none⟩)) = some (.agg (cenV (wrapB x0 B) y0 S L.length).toArray) := loadn_all (H3.cell (List.mem_cons_self ..)) rfl
        have H4 := H3.up4
        have st := store_all (n := 4) (vs := cenV (wrapB x0 B) y0 S L.length) (H4.cell (List.mem_cons_self ..)) rfl rfl rfl
        have H5 := H4.setc (cs' := cenV (wrapB x0 B) y0 S L.length)
        refine W_seq (W_ops [4] ?_)
        simp only [o21_37, WO_load, WO_store, WO_nil, PureK_some, MemK_some, geT_put, puT_none, evO_tmp, keep_nil, keep_cons, keepK_eq, Nat.reduceEqDiff, ↓reduceIte, eq_self, e4, e12, lc, st]
        clear e4 e12
        intro fr e4
        refine SeqK_n ?_
        exact W_ret (RetC1 e4 (loadn_all (H5.cell (List.mem_cons_self ..)) rfl) ⟨by rw [hcen], H5.same⟩)

end Go.Proofs.Ytpphomoijlilfaa

/- PeaksCentre, walked. -/
namespace Go.Proofs.Ytpphomoijlilfaa
open Go Go.Vam

section
variable {X : Ctx} {fr : Fr} {s : Mm} {d : Option Tmp} {pre : Nat} {l : List DOper} {i : Nat} {hist : List Mm} {acts : List Nat} {flt : List (Nat × Nat × ABlk)} {nid : Nat} {ws : List (Nat × (Mm → Bool))} {Q : Fr → Mm → Prop}
/-- WD_call, not by unfolding: many calls in one region would be unfolded again and again by the kernel. -/
theorem WD_callN {f : FuncId} {xs : List Operand} : WD X (⟨⟨.call (.func f) xs, d, none⟩, pre⟩ :: l) i fr s hist acts flt nid ws Q = DCallK X f (xs.map (evO fr)) (setH s (joinF pre flt s.h).1) d pre l i fr s hist acts flt nid ws Q := by
  apply propext; exact ⟨fun h => h, fun h => h⟩
end

theorem cenF_is (L : List SpI) (B : Int) : ∃ b g s m, cenF L B = cenV b g s m := by
  unfold cenF
  split
  · exact ⟨_, _, _, _, rfl⟩
  · simp only
    split
    · exact ⟨_, _, _, _, rfl⟩
    · exact ⟨_, _, _, _, rfl⟩


set_option maxHeartbeats 4000000 in
theorem run5 {X : Ctx} (hX : X.fns = fnsOf Try.prog) (ho : ∀ f args, f ≠ 15 → X.orc f args = none) (hw : X.orc 15 [] = some (.bool true)) {s : Mm} {v : Value} {L : List SpI} {n : Int} {h0 h1 h2 : Nat} (a : SlC s 3 v L.length (L.flatMap eI)) (hl : L.length ≤ 5864062014634) (hf : ∀ i, i < L.length → FW (powF L i)) :
    CallP X 5 [v, .int .i64 n, .agg #[.float .f64 h0, .float .f64 h1, .float .f64 h2]] s (fun r _ => r = .bool true) := by
  have hbx : (Value.agg #[.float .f64 h0, .float .f64 h1, .float .f64 h2]).cells.toList = [.float .f64 h0, .float .f64 h1, .float .f64 h2] := rfl
  refine CallP_of (hX ▸ ir5_eq) (ho _ _ (by decide)) (Nat.le_of_ble_eq_true rfl) ?_
  refine W_seq (W_ops [0, 1, 5] ?_)
  simp only [o5_0, WO_box, WO_move, WO_nil, geT_put, frame_nil, frame_cons, evO_tmp, evO_const, keep_nil, keep_cons, keepK_eq, Nat.reduceEqDiff, Nat.reduceAdd, ↓reduceIte, eq_self, Nat.zero_add, hbx]
  intro fr e0 e1 e5
  refine SeqK_n ?_
  have H := (Hold.refl s).new [.float .f64 h0, .float .f64 h1, .float .f64 h2]
  generalize newAt s (.cells [.float .f64 h0, .float .f64 h1, .float .f64 h2] false) = s1 at H ⊢
  obtain ⟨Bh, hBh⟩ : ∃ B, B = s.nxt := ⟨_, rfl⟩
  rw [← hBh] at H e5
  refine W_seq (W_ops [0, 1, 5, 7] ?_)
  simp only [o5_1, WO_call, WO_move, geT_put, evO_tmp, List.map_cons, List.map_nil, ↓reduceIte, eq_self, e0]
  refine CallK_of (run16 hX ho H a (by omega)) ?_
  rintro c s2 H2
  simp only [WO_move, WO_nil, geT_put, evO_tmp, keep_nil, keep_cons, keepK_eq, Nat.reduceEqDiff, ↓reduceIte, eq_self, e0, e1, e5]
  clear e0 e1 e5
  intro fr e0 e1 e5 e7
  refine SeqK_n ?_
  have Le := H2.lent (List.mem_cons_self ..)
  obtain ⟨b, g, sm, m, hcen⟩ := cenF_is L (cl n 0 1073741824)
  refine W_seq (W_ops [0, 1, 5, 7, 8] ?_)
  simp only [o5_2, WO_call, WO_move, geT_put, evO_tmp, List.map_cons, List.map_nil, Nat.reduceEqDiff, ↓reduceIte, eq_self, e1, e7]
  have r20 := run20 hX ho (n := n) (Le.slc (eI_len _)) (by omega)
  rw [hcen] at r20
  refine CallK_of r20 ?_
  clear r20
  rintro _ s3 ⟨rfl, hs3⟩
  have H3 := (H2.keep hs3).new z4
  have st : storeV (newAt s3 (.cells z4 false)) 4 (.pointer (some ⟨s3.nxt, 0, none⟩)) (.agg (cenV b g sm m).toArray) = some (undefV, setBlk (newAt s3 (.cells z4 false)) s3.nxt (.cells (cenV b g sm m) false)) := by
    exact store_all (H3.cell (List.mem_cons_self ..)) rfl rfl rfl
  have H4 := H3.setc (cs' := cenV b g sm m)
  have hz : newAt s3 (.cells [.float .f64 0, .float .f64 0, .float .f64 0, .int .i64 0] false) = newAt s3 (.cells z4 false) := rfl
  simp only [WO_alloc, WO_store, WO_nil, MemK_some, geT_put, puT_none, evO_tmp, keep_nil, keep_cons, keepK_eq, Nat.reduceEqDiff, ↓reduceIte, eq_self, e0, e1, e5, e7, hz, st]
  clear e0 e1 e5 e7
  intro fr e0 e1 e5 e7 e8
  refine SeqK_n ?_
  clear H3 st hz
  generalize setBlk (newAt s3 (.cells z4 false)) s3.nxt (.cells (cenV b g sm m) false) = s4 at H4 ⊢
  generalize s3.nxt = Bx at H4 e8
  refine W_seq (W_ops [0, 5, 7, 8, 9] ?_)
  simp only [o5_3, WO_call, WO_move, geT_put, evO_tmp, List.map_cons, List.map_nil, Nat.reduceEqDiff, ↓reduceIte, eq_self, e0, e1]
  have r21 := run21 hX ho (n := n) (a.same H4.same (fun _ _ h => h)) (by omega) hf
  rw [hcen] at r21
  refine CallK_of r21 ?_
  clear r21
  rintro _ s5 ⟨rfl, hs5⟩
  have H5 := (H4.keep hs5).new z4
  have st : storeV (newAt s5 (.cells z4 false)) 4 (.pointer (some ⟨s5.nxt, 0, none⟩)) (.agg (cenV b g sm m).toArray) = some (undefV, setBlk (newAt s5 (.cells z4 false)) s5.nxt (.cells (cenV b g sm m) false)) := by
    exact store_all (H5.cell (List.mem_cons_self ..)) rfl rfl rfl
  have H6 := H5.setc (cs' := cenV b g sm m)
  have hz : newAt s5 (.cells [.float .f64 0, .float .f64 0, .float .f64 0, .int .i64 0] false) = newAt s5 (.cells z4 false) := rfl
  simp only [WO_alloc, WO_store, WO_nil, MemK_some, geT_put, puT_none, evO_tmp, keep_nil, keep_cons, keepK_eq, Nat.reduceEqDiff, ↓reduceIte, eq_self, e0, e5, e7, e8, hz, st]
  clear e0 e1 e5 e7 e8
  intro fr e0 e5 e7 e8 e9
  refine SeqK_n ?_
  clear H5 st hz
  generalize setBlk (newAt s5 (.cells z4 false)) s5.nxt (.cells (cenV b g sm m) false) = s6 at H6 ⊢
  generalize s5.nxt = By at H6 e9
  have cy := H6.cell (List.mem_cons_self ..)
  have cx := H6.up1.cell (List.mem_cons_self ..)
  have x0 : loadV s6 none (.pointer (some ⟨Bx, 0, none⟩)) = some (.float .f64 b) := load_g (o := 0) cx
  have x1 : loadV s6 none (.pointer (some ⟨Bx, 1, none⟩)) = some (.float .f64 g) := load_g (o := 1) cx
  have x2 : loadV s6 none (.pointer (some ⟨Bx, 2, none⟩)) = some (.float .f64 sm) := load_g (o := 2) cx
  have x3 : loadV s6 none (.pointer (some ⟨Bx, 3, none⟩)) = some (.int .i64 (m : Nat)) := load_g (o := 3) cx
  have y0 : loadV s6 none (.pointer (some ⟨By, 0, none⟩)) = some (.float .f64 b) := load_g (o := 0) cy
  have y1 : loadV s6 none (.pointer (some ⟨By, 1, none⟩)) = some (.float .f64 g) := load_g (o := 1) cy
  have y2 : loadV s6 none (.pointer (some ⟨By, 2, none⟩)) = some (.float .f64 sm) := load_g (o := 2) cy
  have y3 : loadV s6 none (.pointer (some ⟨By, 3, none⟩)) = some (.int .i64 (m : Nat)) := load_g (o := 3) cy
  refine W_seq (W_ops [0, 5, 7, 10] ?_)
  simp only [o5_4, WO_call, WO_fieldAddr, fieldAddr_p, WO_load, PureK_some, geT_put, evO_tmp, List.map_cons, List.map_nil, Nat.reduceEqDiff, ↓reduceIte, eq_self, Nat.add_zero, e8, e9, x0, y0]
  refine CallK_of (run22 hX ho) ?_
  rintro _ _ ⟨rfl, rfl⟩
  simp only [WO_call, WO_fieldAddr, fieldAddr_p, WO_load, WO_move, PureK_some, WO_guard, want_v, wantB_t, geT_put, evO_tmp, List.map_cons, List.map_nil, Nat.reduceEqDiff, ↓reduceIte, eq_self, Nat.zero_add, e8, e9, x1, y1]
  refine CallK_of (run22 hX ho) ?_
  rintro _ _ ⟨rfl, rfl⟩
  simp only [WO_call, WO_fieldAddr, fieldAddr_p, WO_load, WO_move, WO_pick, pick_b, PureK_some, WO_guard, want_v, wantB_t, geT_put, evO_tmp, evO_const, List.map_cons, List.map_nil, Nat.reduceEqDiff, ↓reduceIte, eq_self, Nat.zero_add, e8, e9, x2, y2]
  refine CallK_of (run22 hX ho) ?_
  rintro _ _ ⟨rfl, rfl⟩
  simp only [WO_bin, WO_fieldAddr, fieldAddr_p, WO_load, WO_move, WO_pick, pick_b, bin_eql, WO_nil, PureK_some, WO_guard, want_v, wantB_t, geT_put, evO_tmp, evO_const, keep_nil, keep_cons, keepK_eq, Nat.reduceEqDiff, ↓reduceIte, decide_true, eq_self, Nat.zero_add, e0, e5, e7, e8, e9, x3, y3]
  clear e0 e5 e7 e8 e9
  intro fr e0 e5 e7 e10
  refine SeqK_n ?_
  have cb := H6.up3.cell (List.mem_cons_self ..)
  have A0 : addrArrV 3 1 (.pointer (some ⟨Bh, 0, none⟩)) (.int .i64 0) = some (.pointer (some ⟨Bh, 0, none⟩)) := rfl
  have A1 : addrArrV 3 1 (.pointer (some ⟨Bh, 0, none⟩)) (.int .i64 1) = some (.pointer (some ⟨Bh, 1, none⟩)) := rfl
  have A2 : addrArrV 3 1 (.pointer (some ⟨Bh, 0, none⟩)) (.int .i64 2) = some (.pointer (some ⟨Bh, 2, none⟩)) := rfl
  have q0 : loadV s6 none (.pointer (some ⟨Bh, 0, none⟩)) = some (.float .f64 h0) := load_g (o := 0) cb
  have q1 : loadV s6 none (.pointer (some ⟨Bh, 1, none⟩)) = some (.float .f64 h1) := load_g (o := 1) cb
  have q2 : loadV s6 none (.pointer (some ⟨Bh, 2, none⟩)) = some (.float .f64 h2) := load_g (o := 2) cb
  have Le6 := H6.up2.lent (List.mem_cons_self ..)
  refine W_seq (W_draw0 [6] rfl ?_)
  simp only [d5_5, WD_move, want_v, wantB_t, DPureK_some, joinF_nil, setH_self, geT_put, evO_tmp, List.map_cons, List.map_nil, Nat.reduceEqDiff, Nat.reduceAdd, ↓reduceIte, eq_self, Nat.zero_add, e0, e7, e10, WD_yes, WD_callN]
  refine DCallK_of rfl (run19 hX ho Le6 (a.same H6.same (fun _ _ h => h)) (by omega)) ?_
  rintro _ _ ⟨rfl, rfl⟩
  simp only [WD_addrArr, WD_load, WD_move, WD_pick, pick_b, want_v, wantB_t, DPureK_some, DReadK_some, pastR_cons, joinF_nil, setH_self, Nat.testBit, Nat.reduceShiftRight, Nat.reduceAnd, Nat.reduceBneDiff, List.all_nil, List.filter_nil, geT_put, evO_tmp, evO_const, List.map_cons, List.map_nil, Nat.reduceEqDiff, Nat.reduceAdd, ↓reduceIte, eq_self, true_and, e5, WD_yes, WD_callN, A0, A1, A2, q0, q1, q2]
  refine DCallK_of rfl (run23 hX ho) ?_
  rintro _ _ ⟨rfl, rfl⟩
  simp only [WD_addrArr, WD_load, want_v, wantB_t, DPureK_some, DReadK_some, pastR_cons, joinF_nil, setH_self, Nat.testBit, Nat.reduceShiftRight, Nat.reduceAnd, Nat.reduceBneDiff, List.all_nil, List.all_cons, List.filter_nil, List.filter_cons, sameO_float, bne_self_eq_false, geT_put, evO_tmp, evO_const, List.map_cons, List.map_nil, Nat.reduceEqDiff, Nat.reduceAdd, ↓reduceIte, Bool.not_true, Bool.and_true, Bool.or_true, eq_self, Bool.false_eq_true, true_and, e5, WD_yes, WD_callN, A0, A1, A2, q0, q1, q2]
  refine DCallK_of rfl (run24 hX ho) ?_
  rintro _ _ ⟨rfl, rfl⟩
  simp only [want_v, wantB_t, joinF_nil, setH_self, Nat.testBit, Nat.reduceShiftRight, Nat.reduceAnd, Nat.reduceBneDiff, List.all_nil, List.all_cons, List.filter_nil, List.filter_cons, geT_put, evO_tmp, List.map_cons, List.map_nil, Nat.reduceEqDiff, Nat.reduceAdd, ↓reduceIte, Bool.not_true, Bool.and_true, Bool.true_or, eq_self, Bool.false_eq_true, true_and, WD_yes, WD_callN]
  refine DCallK_of rfl (run22 hX ho) ?_
  rintro _ _ ⟨rfl, rfl⟩
  simp only [WD_move, WD_pick, pick_b, want_v, wantB_t, DPureK_some, joinF_nil, setH_self, Nat.testBit, List.all_nil, List.filter_nil, geT_put, evO_tmp, evO_const, List.map_nil, Nat.reduceEqDiff, Nat.reduceAdd, ↓reduceIte, eq_self, true_and, WD_yes, WD_callN]
  refine DCallK_of rfl (show CallP X 15 [] s6 (fun r s' => r = .bool true ∧ s6 = s') from ⟨_, _, Call_orc hw, rfl, rfl⟩) ?_
  rintro _ _ ⟨rfl, rfl⟩
  simp only [WD_move, WD_pick, pick_b, WD_nil, DPureK_some, joinF_nil, joinAll_nil, setH_self, Nat.testBit, List.all_nil, List.filter_nil, geT_put, evO_tmp, evO_const, keep_nil, keep_cons, keepK_eq, Nat.reduceEqDiff, Nat.reduceAdd, ↓reduceIte, eq_self, true_and]
  clear e0 e5 e7 e10
  intro fr e6
  refine SeqK_n ?_
  exact W_ret (Ret1 e6 rfl)

end Go.Proofs.Ytpphomoijlilfaa

/- What is handed in: spots, with what they weigh. -/
namespace Go.Vam
open Go Go.ChangeShapes

section
variable {P : Program} {T : Type} {s : Mm}

theorem wt_len {t e : TypeId} (ht : P.underlying t = some (.slice e)) {ds rest : List (DataW T)} {W : Nat} (h : ∀ n ∈ DataW.weights P t (.slice ds rest), n ≤ W) : ds.length * P.bytesOf e ≤ W := by
  have := h ((ds.length + rest.length) * P.bytesOf e) (by simp only [DataW.weights, ht]; exact List.mem_cons_self ..)
  exact Nat.le_trans (Nat.mul_le_mul_right _ (by omega)) this

theorem wt_all {e : TypeId} : ∀ {l : List (DataW T)} {d : DataW T}, d ∈ l → ∀ n ∈ d.weights P e, n ∈ DataW.weightsAll P e l
  | x :: r, d, hd, n, hn => by
    simp only [DataW.weightsAll, List.mem_append]
    rcases List.mem_cons.1 hd with rfl | hd
    · exact .inl hn
    · exact .inr (wt_all hd n hn)

theorem wt_el {t e : TypeId} (ht : P.underlying t = some (.slice e)) {ds rest : List (DataW T)} {W : Nat} (h : ∀ n ∈ DataW.weights P t (.slice ds rest), n ≤ W) {d : DataW T} (hd : d ∈ ds) : ∀ n ∈ d.weights P e, n ≤ W :=
  fun n hn => h n (by simp only [DataW.weights, ht]; exact List.mem_cons_of_mem _ (List.mem_append_left _ (wt_all hd n hn)))

end
end Go.Vam

/- PeaksCentre: its run at any arguments within the reach. -/
namespace Go.Proofs.Ytpphomoijlilfaa
open Go Go.Vam

theorem lists_of {α β : Type} {g : α → List Value} {p : α → Prop} : ∀ (ls : List (List Value)) (ds : List β), ds.length = ls.length → (∀ (i : Nat) (l : List Value) (d : β), ls[i]? = some l → ds[i]? = some d → ∃ x, l = g x ∧ p x) → ∃ xs : List α, ls = xs.map g ∧ ∀ x ∈ xs, p x := by
  intro ls
  induction ls with
  | nil => intro ds _ _; exact ⟨[], rfl, by simp⟩
  | cons l ls ih =>
    intro ds hd h
    cases ds with
    | nil => simp at hd
    | cons d ds =>
      obtain ⟨x, h1, h2⟩ := h 0 l d rfl rfl
      obtain ⟨xs, h3, h4⟩ := ih ds (by simpa using hd) (fun i l d hl hdd => h (i + 1) l d (by simpa using hl) (by simpa using hdd))
      exact ⟨x :: xs, by rw [h1, h3]; rfl, fun y hy => by
        rcases List.mem_cons.1 hy with rfl | hy
        · exact h2
        · exact h4 y hy⟩

theorem Abs.ar {P : Program} {T : Type} {s : Mm} {t e : TypeId} {n : Nat} (ht : P.underlying t = some (.array n e)) {cs : List Value} {d : DataW T} (h : Abs P s t cs d) :
    ∃ ds, d = .agg ds ∧ cs.length = P.cellsOf t ∧ ds.length = n ∧ ∀ (i : Nat) (d : DataW T), i < n → ds[i]? = some d → Abs P s e ((cs.drop (i * P.cellsOf e)).take (P.cellsOf e)) d := by
  cases h with
  | array h hsz hlen hel => rw [ht] at h; cases h; exact ⟨_, rfl, hsz, hlen, hel⟩
  | bool h => rw [ht] at h; cases h
  | int h => rw [ht] at h; cases h
  | float h => rw [ht] at h; cases h
  | string h => rw [ht] at h; cases h
  | nil h => rw [ht] at h; cases h
  | slice h => rw [ht] at h; cases h
  | struct h => rw [ht] at h; cases h

theorem c29 : Try.prog.cellsOf 29 = 3 := by decide +kernel
theorem c3 : Try.prog.cellsOf 3 = 1 := by decide +kernel
theorem c24 : Try.prog.cellsOf 24 = 1 := by decide +kernel
theorem c37 : Try.prog.cellsOf 37 = 3 := by decide +kernel

theorem three {α : Type} {l : List α} (h : l.length = 3) : ∃ a b c, l = [a, b, c] := by
  match l, h with
  | [a, b, c], _ => exact ⟨a, b, c, rfl⟩

set_option maxRecDepth 100000 in
/-- A spot that is handed in. -/
theorem spot_open {T : Type} {s : Mm} {l : List Value} {d : DataW T} (h : Abs Try.prog s 29 l d) : ∃ x : SpI, l = eI x ∧ x.2.2 < 18446744073709551616 := by
  obtain ⟨ds, _, h1, h2, h3⟩ := Abs.st Try.underlying29 h
  rw [c29] at h1
  obtain ⟨a, b, c, rfl⟩ := three h1
  obtain ⟨d0, d1, d2, rfl⟩ := three h2
  have g0 := h3 0 _ d0 rfl rfl
  have g1 := h3 1 _ d1 rfl rfl
  have g2 := h3 2 _ d2 rfl rfl
  simp only [c3, c24] at g0 g1 g2
  obtain ⟨n0, k0, _⟩ := Abs.i Try.underlying3 g0
  obtain ⟨n1, k1, _⟩ := Abs.i Try.underlying3 g1
  obtain ⟨n2, k2, _, k3⟩ := Abs.f Try.underlying24 g2
  simp only [List.drop_zero, List.drop_succ_cons, List.take_succ_cons, List.take_zero, List.cons.injEq, and_true] at k0 k1 k2
  subst k0 k1 k2
  exact ⟨(n0, n1, n2), rfl, wfl n2 k3⟩

set_option maxRecDepth 100000 in
/-- Spots that are handed in, with what they weigh. -/
theorem spots_w {T : Type} {s : Mm} (hs : Lt s) {v : Value} {d : DataW T} (h : AbsV Try.prog s 25 v d) {W : Nat} (hw : ∀ n ∈ d.weights Try.prog 25, n ≤ W) : ∃ L : List SpI, SlC s 3 v L.length (L.flatMap eI) ∧ L.length * 24 ≤ W ∧ ∀ x ∈ L, x.2.2 < 18446744073709551616 := by
  unfold AbsV at h
  rw [Try.underlying25] at h
  have b29 : Try.prog.bytesOf 29 = 24 := by decide +kernel
  obtain ⟨w, ls, ds, h1, h2, h3, h4, h5⟩ := Abs.slW hs Try.underlying25 c29 (by decide) h
  cases h1
  obtain ⟨xs, h6, h7⟩ := lists_of (g := eI) (p := fun x : SpI => x.2.2 < 18446744073709551616) ls ds h3 (fun i l d hl hd => spot_open (h5 i l d hl hd).2)
  subst h6
  rw [List.length_map] at h2 h3
  refine ⟨xs, h2, ?_, h7⟩
  rcases h4 with h4 | ⟨rest, h4⟩
  · subst h4; simp only [List.length_nil] at h3; omega
  · subst h4; rw [← h3, ← b29]; exact wt_len Try.underlying25 hw

set_option maxRecDepth 100000 in
/-- Three heights that are handed in. -/
theorem heights_open {T : Type} {s : Mm} {v : Value} {d : DataW T} (h : AbsV Try.prog s 37 v d) : ∃ a b c, v = .agg #[.float .f64 a, .float .f64 b, .float .f64 c] := by
  unfold AbsV at h
  rw [Try.underlying37] at h
  obtain ⟨cs, rfl, h⟩ := h
  obtain ⟨ds, _, h1, h2, h3⟩ := Abs.ar Try.underlying37 h
  rw [c37] at h1
  obtain ⟨a, b, c, habc⟩ := three h1
  obtain ⟨d0, d1, d2, rfl⟩ := three h2
  have g0 := h3 0 d0 (by omega) rfl
  have g1 := h3 1 d1 (by omega) rfl
  have g2 := h3 2 d2 (by omega) rfl
  simp only [c24, habc] at g0 g1 g2
  obtain ⟨n0, k0, _⟩ := Abs.f Try.underlying24 g0
  obtain ⟨n1, k1, _⟩ := Abs.f Try.underlying24 g1
  obtain ⟨n2, k2, _⟩ := Abs.f Try.underlying24 g2
  simp only [Nat.mul_one, List.drop_zero, List.drop_succ_cons, List.take_succ_cons, List.take_zero, List.cons.injEq, and_true] at k0 k1 k2
  subst k0 k1 k2
  obtain ⟨l⟩ := cs
  simp only at habc
  subst habc
  exact ⟨n0, n1, n2, rfl⟩

set_option maxRecDepth 100000 in
theorem runPeaksCentre {T : Type} {s : Mm} {avs : List Value} {ds : List (DataW T)} (hs : Lt s) (h : AbsL Try.prog s [25, 3, 37] avs ds) (hk : (DataW.weightsEach Try.prog [25, 3, 37] ds).all (· ≤ reachBytes) = true) : CallP ⟨orcW 15, fnsOf Try.prog⟩ 5 avs s (fun v _ => v = .bool true) := by
  obtain ⟨v0, vs, d0, ds, rfl, rfl, h0, h⟩ := AbsL.cons h
  obtain ⟨v1, vs, d1, ds, rfl, rfl, h1, h⟩ := AbsL.cons h
  obtain ⟨v2, vs, d2, ds, rfl, rfl, h2, h⟩ := AbsL.cons h
  obtain ⟨rfl, rfl⟩ := AbsL.nil h
  have hw : ∀ n ∈ d0.weights Try.prog 25, n ≤ 140737488351232 := fun n hn => of_decide_eq_true (List.all_eq_true.1 hk n (DataW.weights_mem_each (j := 0) rfl rfl n hn))
  obtain ⟨L, g1, g2, g3⟩ := spots_w hs h0 hw
  have h1' : ∃ n, v1 = .int .i64 n := by
    unfold AbsV at h1
    rw [Try.underlying3] at h1
    obtain ⟨n, k, _⟩ := Abs.i Try.underlying3 h1
    cases k
    exact ⟨n, rfl⟩
  obtain ⟨n, rfl⟩ := h1'
  obtain ⟨a, b, c, rfl⟩ := heights_open h2
  refine run5 (X := ⟨orcW 15, fnsOf Try.prog⟩) rfl (fun f args hf => orcW_other hf args) (orcW_self 15) g1 (by omega) (fun i hi => .inl ?_)
  unfold powF
  rw [atI_eq hi]
  exact g3 _ (List.getElem_mem hi)

end Go.Proofs.Ytpphomoijlilfaa
