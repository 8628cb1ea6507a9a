/- Floats in their order: one number for each, the same for those that are the same. -/
import Derived.Test.YtcocakiincejaaaGreatFlB
import Derived.Test.YtcocakiincejaaaGreatWpC
namespace Go.Vam
open Go

def kapS (s : Bool) (r : Nat) : Int := if s then -(r : Int) - 1 else (r : Int)
def nanW (x : Nat) : Bool := decide (infR < x % 9223372036854775808)
def kap (x : Nat) : Int := if nanW x = true then 18446744073709551616 else kapS (decide (9223372036854775808 ≤ x)) (x % 9223372036854775808)

theorem sw_lt {s t : Bool} {r p : Nat} (h : sw s r < sw t p) : kapS s r < kapS t p := by
  unfold sw at h
  unfold kapS
  cases s <;> cases t
  · have : sv r < sv p := by simpa using h
    have := sv_lt_inv this
    simp only [Bool.false_eq_true, if_false]; omega
  · simp only [Bool.false_eq_true, if_false, if_true] at h; omega
  · simp only [Bool.false_eq_true, if_false, if_true]; omega
  · have : sv p < sv r := by simp only [if_true] at h; omega
    have := sv_lt_inv this
    simp only [if_true]; omega

theorem sw_eq {s t : Bool} {r p : Nat} (h : sw s r = sw t p) : (s = t ∧ r = p) ∨ (r = 0 ∧ p = 0) := by
  have z : ∀ q, sv q = 0 → q = 0 := fun q hq => by
    rcases Nat.eq_zero_or_pos q with h | h
    · exact h
    · have := sv_pos h; omega
  unfold sw at h
  cases s <;> cases t
  · exact .inl ⟨rfl, sv_inj (by simp only [Bool.false_eq_true, if_false] at h; omega)⟩
  · simp only [Bool.false_eq_true, if_false, if_true] at h
    exact .inr ⟨z _ (by omega), z _ (by omega)⟩
  · simp only [Bool.false_eq_true, if_false, if_true] at h
    exact .inr ⟨z _ (by omega), z _ (by omega)⟩
  · simp only [if_true] at h
    exact .inl ⟨rfl, sv_inj (by omega)⟩

theorem fkey_num {x : Nat} (h : nanW x = false) : fkey x = some (sw (decide (9223372036854775808 ≤ x)) (x % 9223372036854775808)) := by
  unfold fkey
  unfold nanW at h
  have := of_decide_eq_false h
  rw [if_pos (by omega)]
theorem fkey_nan {x : Nat} (h : nanW x = true) : fkey x = none := by
  unfold fkey
  unfold nanW at h
  have := of_decide_eq_true h
  rw [if_neg (by omega)]

theorem eq_self_is {x : Nat} (hx : x < 18446744073709551616) : (ford .f64 x x == some .eq) = !nanW x := by
  cases h : nanW x with
  | true =>
    show (ford .f64 x x == some .eq) = false
    rw [← Bool.not_eq_true, feq_iff hx hx, fkey_nan h]
    simp
  | false => exact (feq_iff hx hx).2 ⟨_, fkey_num h, fkey_num h⟩

theorem flt_iffW {x y : Nat} (hx : x < 18446744073709551616) (hy : y < 18446744073709551616) : (ford .f64 x y == some .lt) = true ↔ ∃ a b, fkey x = some a ∧ fkey y = some b ∧ a < b := by
  rw [ford_key hx hy]
  cases h1 : fkey x with
  | none => simp
  | some a =>
    cases h2 : fkey y with
    | none => simp
    | some b =>
      simp only [Option.bind_some, Option.map_some, cmp_is, beq_iff_eq, Option.some.injEq]
      constructor
      · intro h
        refine ⟨a, b, rfl, rfl, ?_⟩
        split at h
        · omega
        · split at h <;> cases h
      · rintro ⟨_, _, rfl, rfl, h⟩
        rw [if_pos h]

theorem kap_num {x : Nat} (h : nanW x = false) : kap x = kapS (decide (9223372036854775808 ≤ x)) (x % 9223372036854775808) := by
  unfold kap
  rw [h, if_neg (by simp)]
theorem kap_nan {x : Nat} (h : nanW x = true) : kap x = 18446744073709551616 := by
  unfold kap
  rw [h, if_pos rfl]
theorem kap_lt {x : Nat} (h : nanW x = false) : kap x < 9223372036854775808 ∧ -9223372036854775809 < kap x := by
  rw [kap_num h]
  unfold kapS
  have := Nat.mod_lt x (show 0 < 9223372036854775808 by decide)
  split <;> omega

/-- Two numbers: one less, or greater, or both the same, or two noughts. -/
theorem num_three {x y : Nat} (hx : x < 18446744073709551616) (hy : y < 18446744073709551616) (nx : nanW x = false) (ny : nanW y = false) :
    ((ford .f64 x y == some .lt) = true ∧ (ford .f64 x y == some .gt) = false ∧ kap x < kap y) ∨ ((ford .f64 x y == some .lt) = false ∧ (ford .f64 x y == some .gt) = true ∧ kap y < kap x) ∨
      ((ford .f64 x y == some .lt) = false ∧ (ford .f64 x y == some .gt) = false ∧ (x = y ∨ (x = 9223372036854775808 ∧ y = 0) ∨ (x = 0 ∧ y = 9223372036854775808))) := by
  have kx := fkey_num nx
  have ky := fkey_num ny
  have mx := Nat.mod_lt x (show 0 < 9223372036854775808 by decide)
  have my := Nat.mod_lt y (show 0 < 9223372036854775808 by decide)
  have fl : (ford .f64 x y == some .lt) = true ↔ sw (decide (9223372036854775808 ≤ x)) (x % 9223372036854775808) < sw (decide (9223372036854775808 ≤ y)) (y % 9223372036854775808) := by
    rw [flt_iffW hx hy, kx, ky]
    constructor
    · rintro ⟨_, _, h1, h2, h⟩; cases h1; cases h2; exact h
    · intro h; exact ⟨_, _, rfl, rfl, h⟩
  have fg : (ford .f64 x y == some .gt) = true ↔ sw (decide (9223372036854775808 ≤ y)) (y % 9223372036854775808) < sw (decide (9223372036854775808 ≤ x)) (x % 9223372036854775808) := by
    rw [fgt_iff hx hy, kx, ky]
    constructor
    · rintro ⟨_, _, h1, h2, h⟩; cases h1; cases h2; exact h
    · intro h; exact ⟨_, _, rfl, rfl, h⟩
  rw [kap_num nx, kap_num ny]
  rcases Int.lt_trichotomy (sw (decide (9223372036854775808 ≤ x)) (x % 9223372036854775808)) (sw (decide (9223372036854775808 ≤ y)) (y % 9223372036854775808)) with h | h | h
  · exact .inl ⟨fl.2 h, by rw [← Bool.not_eq_true, fg]; omega, sw_lt h⟩
  · refine .inr (.inr ⟨by rw [← Bool.not_eq_true, fl]; omega, by rw [← Bool.not_eq_true, fg]; omega, ?_⟩)
    rcases sw_eq h with ⟨h1, h2⟩ | ⟨h1, h2⟩
    · have := decide_eq_decide.1 h1
      left
      by_cases hs : 9223372036854775808 ≤ x
      · have := this.1 hs; omega
      · have : ¬ 9223372036854775808 ≤ y := fun hh => hs (this.2 hh)
        omega
    · omega
  · exact .inr (.inl ⟨by rw [← Bool.not_eq_true, fl]; omega, fg.2 h, sw_lt h⟩)

theorem kap_inj {x y : Nat} (hx : x < 18446744073709551616) (hy : y < 18446744073709551616) (nx : nanW x = false) (ny : nanW y = false) (h : kap x = kap y) : x = y := by
  rw [kap_num nx, kap_num ny] at h
  unfold kapS at h
  have mx := Nat.mod_lt x (show 0 < 9223372036854775808 by decide)
  have my := Nat.mod_lt y (show 0 < 9223372036854775808 by decide)
  by_cases h1 : 9223372036854775808 ≤ x <;> by_cases h2 : 9223372036854775808 ≤ y
  · rw [decide_eq_true h1, decide_eq_true h2] at h; simp only [if_true] at h; omega
  · rw [decide_eq_true h1, decide_eq_false h2] at h; simp only [if_true, Bool.false_eq_true, if_false] at h; omega
  · rw [decide_eq_false h1, decide_eq_true h2] at h; simp only [if_true, Bool.false_eq_true, if_false] at h; omega
  · rw [decide_eq_false h1, decide_eq_false h2] at h; simp only [Bool.false_eq_true, if_false] at h; omega

theorem kap_zero : kap 0 = 0 := by decide
theorem kap_low : kap 9223372036854775808 = -1 := by decide

theorem bits_is {x : Nat} (hx : x < 18446744073709551616) : extV 0 [.float .f64 x] = some (.int .u64 (x : Nat)) := by
  show (if fknown .f64 x then some (Value.int .u64 (x : Nat)) else none) = _
  have h : 18446744073709551616 ≤ nanF .f64 := by decide
  have hk : fknown .f64 x = true := by
    unfold fknown
    rw [bne_iff_ne]; omega
  rw [hk]; rfl

end Go.Vam

/- Floats: what is finite, told in three ways. -/
namespace Go.Proofs.YtcocakiincejaaaGreat
open Go Go.Vam

def finT (t : Nat) : Bool := ford .f64 (fsub .f64 t t) 0 == some .eq

theorem nan_fsub {x : Nat} (h : nanW x = true) : fsub .f64 x x = nanF .f64 := by
  unfold nanW at h
  obtain ⟨s, f, hr⟩ := nanRead (of_decide_eq_true h)
  show fres .f64 (((Ieee.double.read x).sum (Ieee.double.read x).opposite).map Ieee.double.write) = _
  rw [hr]
  rfl

def fin2 (t : Nat) : Bool := (ford .f64 t t == some .eq) && ((ford .f64 t 9218868437227405311 == some .lt || ford .f64 t 9218868437227405311 == some .eq) && (ford .f64 t 18442240474082181119 == some .gt || ford .f64 t 18442240474082181119 == some .eq))

theorem fle_of {x y : Nat} {a b : Int} (hx : x < 18446744073709551616) (hy : y < 18446744073709551616) (h1 : fkey x = some a) (h2 : fkey y = some b) (h : a ≤ b) : (ford .f64 x y == some .lt || ford .f64 x y == some .eq) = true := by
  rw [Bool.or_eq_true]
  by_cases he : a = b
  · exact .inr ((feq_iff hx hy).2 ⟨a, h1, by rw [h2, he]⟩)
  · exact .inl ((flt_iffW hx hy).2 ⟨a, b, h1, h2, by omega⟩)
theorem fge_of {x y : Nat} {a b : Int} (hx : x < 18446744073709551616) (hy : y < 18446744073709551616) (h1 : fkey x = some a) (h2 : fkey y = some b) (h : b ≤ a) : (ford .f64 x y == some .gt || ford .f64 x y == some .eq) = true := by
  rw [Bool.or_eq_true]
  by_cases he : a = b
  · exact .inr ((feq_iff hx hy).2 ⟨a, h1, by rw [h2, he]⟩)
  · exact .inl ((fgt_iff hx hy).2 ⟨a, b, h1, h2, by omega⟩)

theorem fin_two {t : Nat} (ht : t < 18446744073709551616) : fin2 t = finT t := by
  cases nt : nanW t with
  | true =>
    unfold fin2 finT
    have h0 : (ford .f64 (nanF .f64) 0 == some .eq) = false := by decide
    rw [eq_self_is ht, nt, nan_fsub nt, h0]
    rfl
  | false =>
    have hr : t % 9223372036854775808 ≤ infR := by
      unfold nanW at nt
      have := of_decide_eq_false nt
      omega
    by_cases hi : t % 9223372036854775808 = infR
    · have hI : infR = 9218868437227405312 := rfl
      have hc : t = 9218868437227405312 ∨ t = 18442240474082181120 := by omega
      rcases hc with rfl | rfl
      · decide +kernel
      · decide +kernel
    · have hlt : t % 9223372036854775808 < infR := by omega
      have hw := wordOf ht
      have hf : finT t = true := by
        unfold finT
        obtain ⟨z, h1, h2⟩ := sub_rn hlt hlt (decide (9223372036854775808 ≤ t)) (decide (9223372036854775808 ≤ t))
        rw [← hw] at h1
        rw [Int.sub_self] at h1 h2
        have hz : z = 0 := Nat.le_zero.1 (h2.le 0 (by decide))
        rw [h1, hz, if_pos rfl]
        cases decide (9223372036854775808 ≤ t) <;> decide
      rw [hf]
      have k0 := fkey_num nt
      have hs := sv_le (r := t % 9223372036854775808) (q := infR - 1) (by omega)
      have k1 : fkey 9218868437227405311 = some ((sv (infR - 1) : Nat) : Int) := by
        unfold fkey
        rw [if_pos (by decide)]; rfl
      have k2 : fkey 18442240474082181119 = some (-((sv (infR - 1) : Nat) : Int)) := by
        unfold fkey
        rw [if_pos (by decide)]; rfl
      unfold fin2
      rw [eq_self_is ht, nt, fle_of ht (by decide) k0 k1 (by unfold sw; generalize sv (infR - 1) = b at *; generalize sv (t % 9223372036854775808) = c at *; split <;> omega),
        fge_of ht (by decide) k0 k2 (by unfold sw; generalize sv (infR - 1) = b at *; generalize sv (t % 9223372036854775808) = c at *; split <;> omega)]
      rfl


theorem ext_abs {x : Nat} : extV 5 [.float .f64 x] = some (.float .f64 (fabs x)) := rfl

/-- Finite by its size. -/
theorem fin_abs {t : Nat} (ht : t < 18446744073709551616) : (!(ford .f64 t t != some .eq) && !(ford .f64 (fabs t) 9218868437227405311 == some .gt)) = finT t := by
  have hne : (ford .f64 t t != some .eq) = !(ford .f64 t t == some .eq) := rfl
  rw [hne, Bool.not_not, ← fin_two ht, eq_self_is ht]
  cases nt : nanW t with
  | true => unfold fin2; rw [eq_self_is ht, nt]; rfl
  | false =>
    have hr : t % 9223372036854775808 ≤ infR := by
      unfold nanW at nt
      have := of_decide_eq_false nt
      omega
    have hI : infR = 9218868437227405312 := rfl
    have ha : fabs t = t % 9223372036854775808 := by
      conv => lhs; rw [wordOf ht]
      exact fabs_word _ _ (by rw [d_ir]; omega)
    by_cases hi : t % 9223372036854775808 = infR
    · have hc : t = 9218868437227405312 ∨ t = 18442240474082181120 := by omega
      rcases hc with rfl | rfl
      · decide +kernel
      · decide +kernel
    · have hlt : t % 9223372036854775808 < infR := by omega
      have hs := sv_le (r := t % 9223372036854775808) (q := infR - 1) (by omega)
      have k0 := fkey_num nt
      have k1 : fkey 9218868437227405311 = some ((sv (infR - 1) : Nat) : Int) := by
        unfold fkey
        rw [if_pos (by decide)]; rfl
      have k2 : fkey 18442240474082181119 = some (-((sv (infR - 1) : Nat) : Int)) := by
        unfold fkey
        rw [if_pos (by decide)]; rfl
      have ka : fkey (fabs t) = some ((sv (t % 9223372036854775808) : Nat) : Int) := by
        rw [ha]
        unfold fkey
        rw [Nat.mod_mod, if_pos hr, decide_eq_false (by have := Nat.mod_lt t (show 0 < 9223372036854775808 by decide); omega)]; rfl
      have g : (ford .f64 (fabs t) 9218868437227405311 == some .gt) = false := by
        cases hg : (ford .f64 (fabs t) 9218868437227405311 == some .gt) with
        | false => rfl
        | true =>
          obtain ⟨a, b, h1, h2, h3⟩ := (fgt_iff (by rw [ha]; omega) (by decide)).1 hg
          rw [ka] at h1; rw [k1] at h2
          cases h1; cases h2
          omega
      rw [g]
      unfold fin2
      rw [eq_self_is ht, nt, fle_of ht (by decide) k0 k1 (by unfold sw; generalize sv (infR - 1) = b at *; generalize sv (t % 9223372036854775808) = c at *; split <;> omega),
        fge_of ht (by decide) k0 k2 (by unfold sw; generalize sv (infR - 1) = b at *; generalize sv (t % 9223372036854775808) = c at *; split <;> omega)]
      rfl

end Go.Proofs.YtcocakiincejaaaGreat
