/- Errors of rounding. -/
import Derived.Test.YtmfaodenkghmkaaGreatFlA
namespace Go.Vam
open Go

theorem sv_small {r : Nat} (h : r ≤ 9007199254740992) : sv r = r := by
  have := sv_at (q := 0) (low := r) h (.inl rfl)
  simpa using this

theorem rn_fin {N D z : Nat} (h : RN N D z) (hN : N ≤ sv (infR - 1) * D) : z < infR := by
  have h1 := h.le (infR - 1) hN
  have h2 : infR = 9218868437227405312 := rfl
  omega

/-- How far a rounded number lies from the number: a part of it, or one unit. -/
theorem rn_err {N D z : Nat} (h : RN N D z) (hD : 0 < D) (hz : z < infR) : sv z * D * 4503599627370496 ≤ N * 4503599627370497 + D * 4503599627370496 ∧ N * 4503599627370496 ≤ sv z * D * 4503599627370497 + D * 4503599627370496 := by
  by_cases h1 : 4503599627370496 < z
  · obtain ⟨a, b⟩ := h.rel h1 hz
    constructor <;> omega
  · have hs := sv_small (r := z) (by omega)
    have hs2 := sv_small (r := z + 1) (by omega)
    have g1 : z * D ≤ N + D := by
      rcases Nat.eq_zero_or_pos z with h0 | h0
      · subst h0; omega
      · have hs3 := sv_small (r := z - 1) (by omega)
        have : ¬ N ≤ sv (z - 1) * D := fun hx => by have := h.le (z - 1) hx; omega
        rw [hs3] at this
        have e : z * D = (z - 1) * D + D := by
          obtain ⟨k, rfl⟩ : ∃ k, z = k + 1 := ⟨z - 1, by omega⟩
          rw [Nat.add_sub_cancel, Nat.add_mul, Nat.one_mul]
        omega
    have g2 : N ≤ z * D + D := by
      have : ¬ sv (z + 1) * D ≤ N := fun hx => by have := h.ge (z + 1) (by omega) hx; omega
      rw [hs2, Nat.add_mul, Nat.one_mul] at this
      omega
    rw [hs]
    generalize z * D = K at g1 g2
    constructor <;> omega

/-- A sum: only a part of it. -/
theorem rn_err1 {N z : Nat} (h : RN N 1 z) (hz : z < infR) : sv z * 4503599627370496 ≤ N * 4503599627370497 ∧ N * 4503599627370496 ≤ sv z * 4503599627370497 := by
  by_cases h1 : 4503599627370496 < z
  · obtain ⟨a, b⟩ := h.rel h1 hz
    constructor <;> omega
  · have hs := sv_small (r := z) (by omega)
    have hs2 := sv_small (r := z + 1) (by omega)
    have g1 : z ≤ N := by
      rcases Nat.eq_zero_or_pos z with h0 | h0
      · omega
      · have hs3 := sv_small (r := z - 1) (by omega)
        have : ¬ N ≤ sv (z - 1) * 1 := fun hx => by have := h.le (z - 1) hx; omega
        rw [hs3] at this
        omega
    have g2 : N ≤ z := by
      have : ¬ sv (z + 1) * 1 ≤ N := fun hx => by have := h.ge (z + 1) (by omega) hx; omega
      rw [hs2] at this
      omega
    rw [hs]
    constructor <;> omega

end Go.Vam

/- Sums, products and quotients of finite floats, with their errors. -/
namespace Go.Vam
open Go

/-- A float that is finite, and its value in units. -/
def Fn (x : Nat) : Prop := x < 18446744073709551616 ∧ x % 9223372036854775808 < infR
def fv (x : Nat) : Int := sw (decide (9223372036854775808 ≤ x)) (x % 9223372036854775808)

theorem Fn.key {x : Nat} (h : Fn x) : fkey x = some (fv x) := by
  unfold fkey
  rw [if_pos (Nat.le_of_lt h.2)]; rfl

theorem word_fn {b : Bool} {z : Nat} (h : z < infR) : Fn (Ieee.double.word b z) ∧ fv (Ieee.double.word b z) = sw b z := by
  have hI : infR = 9218868437227405312 := rfl
  unfold Fn fv Ieee.Format.word
  rw [d_sw]
  cases b with
  | false =>
    simp only [Bool.false_eq_true, if_false]
    have h1 : z % 9223372036854775808 = z := Nat.mod_eq_of_lt (by omega)
    rw [h1, decide_eq_false (by omega)]
    exact ⟨⟨by omega, h⟩, rfl⟩
  | true =>
    simp only [if_true]
    have h1 : (9223372036854775808 + z) % 9223372036854775808 = z := by rw [Nat.add_mod_left]; exact Nat.mod_eq_of_lt (by omega)
    first
      | (rw [h1, decide_eq_true (by omega)]; exact ⟨⟨by omega, h⟩, rfl⟩)
      | (rw [Nat.add_comm z, h1, decide_eq_true (by omega)]; exact ⟨⟨by omega, h⟩, rfl⟩)

theorem Fn.word {x : Nat} (h : Fn x) : x = Ieee.double.word (decide (9223372036854775808 ≤ x)) (x % 9223372036854775808) := wordOf h.1

theorem sw_abs (b : Bool) (z : Nat) : (sw b z).natAbs = sv z := by
  unfold sw; cases b <;> simp

theorem near_abs {Z N K : Nat} (g1 : Z * 4503599627370496 ≤ N * 4503599627370497) (g2 : N * 4503599627370496 ≤ Z * 4503599627370497) (h : K = Z - N ∨ K = N - Z) : K * 4503599627370496 ≤ N := by
  rcases h with h | h
  · subst h
    rcases Nat.le_total Z N with h1 | h1
    · rw [Nat.sub_eq_zero_of_le h1, Nat.zero_mul]; exact Nat.zero_le _
    · rw [Nat.sub_mul]; omega
  · subst h
    rcases Nat.le_total N Z with h1 | h1
    · rw [Nat.sub_eq_zero_of_le h1, Nat.zero_mul]; exact Nat.zero_le _
    · rw [Nat.sub_mul]; omega

theorem fadd_err {x y : Nat} (hx : Fn x) (hy : Fn y) (hb : (fv x + fv y).natAbs ≤ sv (infR - 1)) :
    Fn (fadd .f64 x y) ∧ (fv (fadd .f64 x y) - (fv x + fv y)).natAbs * 4503599627370496 ≤ (fv x + fv y).natAbs := by
  obtain ⟨z, h1, h2⟩ := add_rn hx.2 hy.2 (decide (9223372036854775808 ≤ x)) (decide (9223372036854775808 ≤ y))
  rw [← hx.word, ← hy.word] at h1
  have e : sw (decide (9223372036854775808 ≤ x)) (x % 9223372036854775808) + sw (decide (9223372036854775808 ≤ y)) (y % 9223372036854775808) = fv x + fv y := rfl
  rw [e] at h1 h2
  have hz := rn_fin h2 (by rw [Nat.mul_one]; exact hb)
  obtain ⟨g1, g2⟩ := rn_err1 h2 hz
  obtain ⟨k1, k2⟩ := word_fn (b := if fv x + fv y = 0 then (decide (9223372036854775808 ≤ x)) && (decide (9223372036854775808 ≤ y)) else decide (fv x + fv y < 0)) hz
  rw [← h1] at k1 k2
  refine ⟨k1, ?_⟩
  rw [k2]
  clear h1 h2 k1 k2 e hb
  generalize fv x + fv y = S at g1 g2 ⊢
  unfold sw
  generalize sv z = Z at g1 g2 ⊢
  by_cases h0 : S = 0
  · subst h0
    have : Z = 0 := by simp at g1; omega
    subst this
    split <;> simp
  · rw [if_neg h0]
    by_cases hn : S < 0
    · rw [decide_eq_true hn, if_pos rfl]
      obtain ⟨N, hN⟩ : ∃ N, N = S.natAbs := ⟨_, rfl⟩
      rw [← hN] at g1 g2 ⊢
      have hS : S = -(N : Int) := by omega
      exact near_abs g1 g2 (by rw [hS]; omega)
    · rw [decide_eq_false hn, if_neg (by simp)]
      obtain ⟨N, hN⟩ : ∃ N, N = S.natAbs := ⟨_, rfl⟩
      rw [← hN] at g1 g2 ⊢
      have hS : S = (N : Int) := by omega
      exact near_abs g1 g2 (by rw [hS]; omega)

end Go.Vam

/- Quotients, with their errors. -/
namespace Go.Vam
open Go

theorem near_div {Z N S K : Nat} (g1 : Z * S * 4503599627370496 ≤ N * 4503599627370497 + S * 4503599627370496) (g2 : N * 4503599627370496 ≤ Z * S * 4503599627370497 + S * 4503599627370496) (h : K = Z * S - N ∨ K = N - Z * S) :
    K * 4503599627370496 ≤ N + S * 4503599627370496 := by
  generalize Z * S = Q at g1 g2 h
  rcases h with h | h
  · subst h
    rcases Nat.le_total Q N with h1 | h1
    · rw [Nat.sub_eq_zero_of_le h1, Nat.zero_mul]; exact Nat.zero_le _
    · rw [Nat.sub_mul]; omega
  · subst h
    rcases Nat.le_total N Q with h1 | h1
    · rw [Nat.sub_eq_zero_of_le h1, Nat.zero_mul]; exact Nat.zero_le _
    · rw [Nat.sub_mul]; omega

/-- A quotient by a float above 0. -/
theorem fdiv_err {x y : Nat} (hx : Fn x) (hy : Fn y) (hp : 0 < fv y) (hb : (fv x).natAbs * oneU ≤ sv (infR - 1) * (fv y).natAbs) :
    Fn (fdiv .f64 x y) ∧ (fv (fdiv .f64 x y) * fv y - fv x * (oneU : Nat)).natAbs * 4503599627370496 ≤ (fv x).natAbs * oneU + (fv y).natAbs * 4503599627370496 := by
  have hfx : fv x = sw (decide (9223372036854775808 ≤ x)) (x % 9223372036854775808) := rfl
  have hfy : fv y = sw (decide (9223372036854775808 ≤ y)) (y % 9223372036854775808) := rfl
  have hy0 : decide (9223372036854775808 ≤ y) = false := by
    cases h : decide (9223372036854775808 ≤ y) with
    | false => rfl
    | true =>
      rw [hfy, h] at hp
      simp only [sw, if_true] at hp
      omega
  have hsy : fv y = (sv (y % 9223372036854775808) : Nat) := by rw [hfy, hy0]; simp [sw]
  have hp0 : y % 9223372036854775808 ≠ 0 := by
    intro h
    rw [hsy, h, sv_zero] at hp
    simp at hp
  obtain ⟨z, h1, h2⟩ := div_rn hx.2 hy.2 hp0
  have h1' := h1 (decide (9223372036854775808 ≤ x)) (decide (9223372036854775808 ≤ y))
  rw [← hx.word, ← hy.word, hy0, Bool.xor_false] at h1'
  have hax : (fv x).natAbs = sv (x % 9223372036854775808) := sw_abs _ _
  have hay : (fv y).natAbs = sv (y % 9223372036854775808) := sw_abs _ _
  rw [hax, hay] at hb ⊢
  have hD : 0 < sv (y % 9223372036854775808) := sv_pos (by omega)
  have hz := rn_fin h2 hb
  obtain ⟨g1, g2⟩ := rn_err h2 hD hz
  obtain ⟨k1, k2⟩ := word_fn (b := decide (9223372036854775808 ≤ x)) hz
  rw [← h1'] at k1 k2
  refine ⟨k1, ?_⟩
  rw [k2, hsy, hfx]
  refine near_div g1 g2 ?_
  clear h1 h1' h2 hb hax hay hD k1 k2 g1 g2
  generalize sv (y % 9223372036854775808) = S
  generalize decide (9223372036854775808 ≤ x) = s
  generalize x % 9223372036854775808 = r
  have e1 : ((sv z * S : Nat) : Int) = (sv z : Int) * S := by rw [Int.natCast_mul]
  have e2 : ((sv r * oneU : Nat) : Int) = (sv r : Int) * (oneU : Nat) := by rw [Int.natCast_mul]
  cases s with
  | false =>
    simp only [sw, Bool.false_eq_true, if_false]
    rw [← e1, ← e2]
    generalize sv z * S = A
    generalize sv r * oneU = B
    omega
  | true =>
    simp only [sw, if_true, Int.neg_mul]
    rw [← e1, ← e2]
    generalize sv z * S = A
    generalize sv r * oneU = B
    omega

end Go.Vam

/- A rounded sum of moments against a rounded sum of powers: one step. -/
namespace Go.Vam
open Go

theorem mul_abs_le {h w M Y : Int} (h1 : -M ≤ h) (h2 : h ≤ M) (w1 : -Y ≤ w) (w2 : w ≤ Y) (hM : 0 ≤ M) (hY : 0 ≤ Y) : h * w ≤ M * Y := by
  rcases Int.le_total 0 w with hw | hw
  · exact Int.le_trans (Int.mul_le_mul_of_nonneg_right h2 hw) (Int.mul_le_mul_of_nonneg_left w2 hM)
  · have e : h * w = (-h) * (-w) := by rw [Int.neg_mul_neg]
    rw [e]
    exact Int.le_trans (Int.mul_le_mul_of_nonneg_right (show -h ≤ M by omega) (by omega)) (Int.mul_le_mul_of_nonneg_left (show -w ≤ Y by omega) hM)

end Go.Vam

/- Sums of a few finite floats: finite; the mean of whole numbers with powers. -/
namespace Go.Vam
open Go

theorem near_fn {d : Int} (hd : d.natAbs ≤ 9007199254740992) : Fn (FloatKind.f64.nearest d) ∧ fv (FloatKind.f64.nearest d) = d * (oneU : Nat) := by
  obtain ⟨w, h1, h2, h3⟩ := nearest_int d hd
  obtain ⟨g1, g2⟩ := word_fn (b := decide (d < 0)) h3
  rw [← h1] at g1 g2
  refine ⟨g1, ?_⟩
  rw [g2]
  unfold sw
  rw [h2]
  by_cases hn : d < 0
  · rw [decide_eq_true hn, if_pos rfl, Int.natCast_mul, ← Int.neg_mul]
    congr 1; omega
  · rw [decide_eq_false hn, if_neg (by simp), Int.natCast_mul]
    congr 1; omega

end Go.Vam

/- A mean laid beside a whole number; the bounds, each less or more a small part; round a circle. -/
namespace Go.Vam
open Go

theorem many_oneU : 268435456 * oneU ≤ sv (infR - 1) := by
  have h1 : sv (1103 * 4503599627370496 - 4503599627370496 + 4503599627370496) = twoP (52 + 1102) := sv_one (q := 1102)
  have h2 : sv (1103 * 4503599627370496 - 4503599627370496 + 4503599627370496) ≤ sv (infR - 1) := sv_le (by decide)
  have h3 : (268435456 : Nat) = twoP 28 := rfl
  have h4 : twoP 28 * oneU ≤ twoP (52 + 1102) := by
    rw [show oneU = twoP 1074 from rfl, twoP_mul]; exact twoP_le (by decide)
  rw [h3]; rw [h1] at h2; exact Nat.le_trans h4 h2

theorem Fn.neg {x : Nat} (hx : Fn x) : ∃ y, Fn y ∧ fv y = -fv x ∧ ∀ z, Fn z → fsub .f64 z x = fadd .f64 z y := by
  obtain ⟨g1, g2⟩ := word_fn (b := !decide (9223372036854775808 ≤ x)) hx.2
  refine ⟨_, g1, by rw [g2, sw_not]; rfl, fun z hz => ?_⟩
  have := sub_word hz.2 hx.2 (decide (9223372036854775808 ≤ z)) (decide (9223372036854775808 ≤ x))
  rw [← hz.word, ← hx.word] at this
  exact this

theorem fsub_err {x y : Nat} (hx : Fn x) (hy : Fn y) (hb : (fv x - fv y).natAbs ≤ sv (infR - 1)) :
    Fn (fsub .f64 x y) ∧ (fv (fsub .f64 x y) - (fv x - fv y)).natAbs * 4503599627370496 ≤ (fv x - fv y).natAbs := by
  obtain ⟨z, h1, h2, h3⟩ := hy.neg
  have e : fv x + fv z = fv x - fv y := by rw [h2]; omega
  rw [h3 x hx, ← e]
  exact fadd_err hx h1 (by rw [e]; exact hb)

theorem near_sv {k : Int} (h0 : 0 ≤ k) (hk : k ≤ 65536) : ∃ w, w < infR ∧ ((sv w : Nat) : Int) = k * (oneU : Nat) := by
  obtain ⟨w, _, h2, h3⟩ := nearest_int k (by omega)
  refine ⟨w, h3, ?_⟩
  rw [h2, Int.natCast_mul]
  congr 1; omega

end Go.Vam

/- Floats near whole numbers of units: sums, differences, products. -/
namespace Go.Vam
open Go

theorem eU_ex : ∃ E : Nat, oneU = 4503599627370496 * E ∧ 4 ≤ E := by
  have h1 : twoP 52 * twoP 1022 = twoP 1074 := twoP_join rfl
  have h2 : twoP 52 = 4503599627370496 := rfl
  have h3 : twoP 2 ≤ twoP 1022 := twoP_le (by decide)
  have h4 : twoP 2 = 4 := rfl
  have h5 : oneU = twoP 1074 := rfl
  generalize twoP 1022 = E at h1 h3
  exact ⟨E, by rw [h5, ← h1, h2], by omega⟩
/-- A part of one: 2^-52 of it. -/
noncomputable def eU : Nat := Classical.choose eU_ex
theorem one_eU : oneU = 4503599627370496 * eU := (Classical.choose_spec eU_ex).1
theorem eU_big : 4 ≤ eU := (Classical.choose_spec eU_ex).2

theorem near_mul {Z N D : Nat} (g1 : Z * 4503599627370496 ≤ N * 4503599627370497 + D * 4503599627370496) (g2 : N * 4503599627370496 ≤ Z * 4503599627370497 + D * 4503599627370496) : ((Z : Int) - N).natAbs * 2251799813685248 ≤ N + D * 4503599627370496 := by
  rcases Nat.le_total Z N with h | h
  · have e : ((Z : Int) - N).natAbs = N - Z := by omega
    rw [e, Nat.sub_mul]; omega
  · have e : ((Z : Int) - N).natAbs = Z - N := by omega
    rw [e, Nat.sub_mul]; omega

/-- A finite float within k parts of a number. -/
def Ap (x : Nat) (v : Int) (k : Nat) : Prop := Fn x ∧ v - (k : Int) * (eU : Nat) ≤ fv x ∧ fv x ≤ v + (k : Int) * (eU : Nat)

theorem Ap.mono {x : Nat} {v : Int} {k j : Nat} (h : Ap x v k) (hkj : k ≤ j) : Ap x v j := by
  obtain ⟨h1, h2, h3⟩ := h
  have : (k : Int) * (eU : Nat) ≤ (j : Int) * (eU : Nat) := Int.mul_le_mul_of_nonneg_right (by omega) (Int.natCast_nonneg _)
  exact ⟨h1, by omega, by omega⟩

theorem Ap.self {x : Nat} (h : Fn x) : Ap x (fv x) 0 := ⟨h, by simp, by simp⟩

/-- How far: a sum. -/
theorem Ap.add {x y : Nat} {v w : Int} {k j m : Nat} (hx : Ap x v k) (hy : Ap y w j) (hm : (v + w).natAbs ≤ m * oneU) (hm2 : m < 268435455) (hkj : k + j ≤ 4503599627370496) : Ap (fadd .f64 x y) (v + w) (k + j + m + 1) := by
  unfold Ap at hx hy ⊢
  obtain ⟨x1, x2, x3⟩ := hx
  obtain ⟨y1, y2, y3⟩ := hy
  have hmany := many_oneU
  have h1 := one_eU
  have hE := eU_big
  generalize eU = E at *
  have hkj2 : (k : Int) * E + (j : Int) * E ≤ 4503599627370496 * (E : Int) := by
    rw [← Int.add_mul]
    exact Int.mul_le_mul_of_nonneg_right (by omega) (Int.natCast_nonneg _)
  have hm3 : m * oneU ≤ 268435454 * oneU := Nat.mul_le_mul_right _ (by omega)
  have hmE : m * oneU = 4503599627370496 * (m * E) := by rw [h1, Nat.mul_left_comm]
  have hd : ((k + j + m + 1 : Nat) : Int) * (E : Int) = (k : Int) * E + (j : Int) * E + ((m * E : Nat) : Int) + E := by
    push_cast
    rw [Int.add_mul, Int.add_mul, Int.add_mul, Int.one_mul]
  generalize (k : Int) * E = kE at *
  generalize (j : Int) * E = jE at *
  generalize hmm : m * E = mE at *
  have hb : (fv x + fv y).natAbs ≤ sv (infR - 1) := by omega
  obtain ⟨g1, g2⟩ := fadd_err x1 y1 hb
  refine ⟨g1, ?_, ?_⟩ <;> rw [hd] <;> omega

/-- How far: a difference. -/
theorem Ap.neg {x : Nat} {v : Int} {k : Nat} (h : Ap x v k) : ∃ y, Ap y (-v) k ∧ ∀ z, Fn z → fsub .f64 z x = fadd .f64 z y := by
  obtain ⟨h1, h2, h3⟩ := h
  obtain ⟨y, g1, g2, g3⟩ := h1.neg
  exact ⟨y, ⟨g1, by omega, by omega⟩, g3⟩
theorem Ap.sub {x y : Nat} {v w : Int} {k j m : Nat} (hx : Ap x v k) (hy : Ap y w j) (hm : (v - w).natAbs ≤ m * oneU) (hm2 : m < 268435455) (hkj : k + j ≤ 4503599627370496) : Ap (fsub .f64 x y) (v - w) (k + j + m + 1) := by
  obtain ⟨z, g1, g2⟩ := hy.neg
  have e : v - w = v + -w := by omega
  rw [g2 x hx.1, e]
  exact hx.add g1 (by rw [← e]; exact hm) hm2 hkj

/-- A product of finite floats: how far it is off. -/
theorem fmul_any {x y : Nat} (hx : Fn x) (hy : Fn y) (hb : (fv x * fv y).natAbs ≤ sv (infR - 1) * oneU) :
    Fn (fmul .f64 x y) ∧ (fv (fmul .f64 x y) * (oneU : Nat) - fv x * fv y).natAbs * 2251799813685248 ≤ (fv x * fv y).natAbs + oneU * 4503599627370496 := by
  obtain ⟨z, h1, h2⟩ := mul_rn hx.2 hy.2
  have h3 := h1 (decide (9223372036854775808 ≤ x)) (decide (9223372036854775808 ≤ y))
  rw [← hx.word, ← hy.word] at h3
  have ex : fv x = sw (decide (9223372036854775808 ≤ x)) (x % 9223372036854775808) := rfl
  have ey : fv y = sw (decide (9223372036854775808 ≤ y)) (y % 9223372036854775808) := rfl
  generalize decide (9223372036854775808 ≤ x) = s at *
  generalize decide (9223372036854775808 ≤ y) = t at *
  generalize x % 9223372036854775808 = r at *
  generalize y % 9223372036854775808 = p at *
  have hN : (fv x * fv y).natAbs = sv r * sv p := by rw [Int.natAbs_mul, ex, ey, sw_abs, sw_abs]
  have hP : fv x * fv y = if s ^^ t then -((sv r * sv p : Nat) : Int) else ((sv r * sv p : Nat) : Int) := by
    rw [ex, ey]
    unfold sw
    cases s <;> cases t <;> simp [Int.neg_mul, Int.mul_neg]
  have hz := rn_fin h2 (by rw [← hN]; exact hb)
  obtain ⟨g1, g2⟩ := rn_err h2 oneU_pos hz
  obtain ⟨k1, k2⟩ := word_fn (b := s ^^ t) hz
  rw [← h3] at k1 k2
  refine ⟨k1, ?_⟩
  rw [k2, hN, hP]
  clear h1 h2 h3 k1 k2 hb hN hP ex ey
  unfold sw
  generalize sv r * sv p = N at g1 g2 ⊢
  have e : ∀ b : Bool, (if b then -(sv z : Int) else (sv z : Int)) * (oneU : Nat) = if b then -((sv z * oneU : Nat) : Int) else ((sv z * oneU : Nat) : Int) := by
    intro b
    cases b <;> simp [Int.neg_mul]
  rw [e]
  generalize sv z * oneU = Z at g1 g2 ⊢
  generalize oneU = D at g1 g2 ⊢
  have h := near_mul g1 g2
  cases s ^^ t with
  | false => simpa using h
  | true =>
    simp only [if_true]
    have e2 : -(Z : Int) - -(N : Int) = -((Z : Int) - N) := by omega
    rw [e2, Int.natAbs_neg]
    exact h

end Go.Vam

/- Floats near whole numbers of units: products. -/
namespace Go.Vam
open Go

/-- Near two numbers: their product. -/
theorem prod_near {v w α β : Int} {a b k j U E : Nat} (hU : U = 4503599627370496 * E) (hv : v.natAbs ≤ a * U) (hw : w.natAbs ≤ b * U) (hα : α.natAbs ≤ k * E) (hβ : β.natAbs ≤ j * E) (hkj : k * j ≤ 4503599627370496) :
    ((v + α) * (w + β) - v * w).natAbs ≤ U * ((a * j + b * k + 1) * E) := by
  have e : (v + α) * (w + β) - v * w = v * β + (α * w + α * β) := by
    rw [Int.add_mul, Int.mul_add, Int.mul_add]; omega
  have t1 : (v * β).natAbs ≤ U * (a * j * E) := by
    rw [Int.natAbs_mul]
    refine Nat.le_trans (Nat.mul_le_mul hv hβ) (Nat.le_of_eq ?_)
    ac_rfl
  have t2 : (α * w).natAbs ≤ U * (b * k * E) := by
    rw [Int.natAbs_mul]
    refine Nat.le_trans (Nat.mul_le_mul hα hw) (Nat.le_of_eq ?_)
    ac_rfl
  have t3 : (α * β).natAbs ≤ U * E := by
    rw [Int.natAbs_mul]
    refine Nat.le_trans (Nat.mul_le_mul hα hβ) ?_
    have h1 : k * E * (j * E) = k * j * E * E := by ac_rfl
    rw [h1, hU]
    exact Nat.mul_le_mul_right _ (Nat.mul_le_mul_right _ hkj)
  have h2 : U * ((a * j + b * k + 1) * E) = U * (a * j * E) + (U * (b * k * E) + U * E) := by
    rw [Nat.add_mul, Nat.add_mul, Nat.one_mul, Nat.mul_add, Nat.mul_add, Nat.add_assoc]
  rw [e, h2]
  refine Nat.le_trans (Int.natAbs_add_le _ _) (Nat.add_le_add t1 (Nat.le_trans (Int.natAbs_add_le _ _) (Nat.add_le_add t2 t3)))

/-- How far: a product. -/
theorem Ap.mul {x y : Nat} {v w p : Int} {k j a b : Nat} (hx : Ap x v k) (hy : Ap y w j) (hv : v.natAbs ≤ a * oneU) (hw : w.natAbs ≤ b * oneU) (hp : (v * w - p * (oneU : Nat)).natAbs ≤ oneU)
    (hkj : k * j ≤ 4503599627370496) (hab : a * b < 134217727) (hs : a * j + b * k + 1 ≤ 4503599627370496) : Ap (fmul .f64 x y) p (a * j + b * k + 2 * (a * b) + 6) := by
  unfold Ap at hx hy ⊢
  obtain ⟨x1, x2, x3⟩ := hx
  obtain ⟨y1, y2, y3⟩ := hy
  have hmany := many_oneU
  have h1 := one_eU
  have hE := eU_big
  have hU0 := oneU_pos
  have hfm := fmul_any x1 y1
  generalize eU = E at *
  generalize oneU = U at *
  have ex : fv x = v + (fv x - v) := by omega
  have ey : fv y = w + (fv y - w) := by omega
  have hα : (fv x - v).natAbs ≤ k * E := by
    have : ((k * E : Nat) : Int) = (k : Int) * E := by push_cast; rfl
    omega
  have hβ : (fv y - w).natAbs ≤ j * E := by
    have : ((j * E : Nat) : Int) = (j : Int) * E := by push_cast; rfl
    omega
  have hn := prod_near h1 hv hw hα hβ hkj
  rw [← ex, ← ey] at hn
  have hvw : (v * w).natAbs ≤ U * (a * b * U) := by
    rw [Int.natAbs_mul]
    refine Nat.le_trans (Nat.mul_le_mul hv hw) (Nat.le_of_eq ?_)
    ac_rfl
  have hs2 : (a * j + b * k + 1) * E ≤ U := by rw [h1]; exact Nat.mul_le_mul_right _ hs
  have hXY : (fv x * fv y).natAbs ≤ U * ((a * b + 1) * U) := by
    have h2 : fv x * fv y = (fv x * fv y - v * w) + v * w := by omega
    rw [h2]
    refine Nat.le_trans (Int.natAbs_add_le _ _) ?_
    have h3 := Nat.mul_le_mul_left U hs2
    rw [Nat.add_mul, Nat.one_mul, Nat.mul_add]
    omega
  have hbig : (fv x * fv y).natAbs ≤ sv (infR - 1) * U := by
    refine Nat.le_trans hXY ?_
    rw [Nat.mul_comm]
    refine Nat.mul_le_mul_right _ (Nat.le_trans ?_ hmany)
    exact Nat.mul_le_mul_right _ (by omega)
  obtain ⟨g1, g2⟩ := hfm hbig
  refine ⟨g1, ?_⟩
  generalize fv (fmul .f64 x y) = Z at *
  -- all told in units of one unit
  have q1 : (Z * (U : Nat) - fv x * fv y).natAbs ≤ U * (2 * ((a * b + 1) * E) + 2) := by
    have h4 : (a * b + 1) * U = 4503599627370496 * ((a * b + 1) * E) := by rw [h1]; ac_rfl
    have h5 : (Z * (U : Nat) - fv x * fv y).natAbs * 2251799813685248 ≤ U * (2 * ((a * b + 1) * E) + 2) * 2251799813685248 := by
      refine Nat.le_trans g2 (Nat.le_trans (Nat.add_le_add_right hXY _) (Nat.le_of_eq ?_))
      rw [h4]
      generalize (a * b + 1) * E = T
      have h8 : (2 * T + 2) * 2251799813685248 = 4503599627370496 * T + 4503599627370496 := by omega
      rw [Nat.mul_assoc, h8, Nat.mul_add]
    exact Nat.le_of_mul_le_mul_right h5 (by omega)
  have q2 : ((Z - p) * (U : Nat)).natAbs ≤ U * ((a * j + b * k + 2 * (a * b) + 6) * E) := by
    have e : (Z - p) * (U : Nat) = (Z * (U : Nat) - fv x * fv y) + ((fv x * fv y - v * w) + (v * w - p * (U : Nat))) := by rw [Int.sub_mul]; omega
    rw [e]
    refine Nat.le_trans (Int.natAbs_add_le _ _) (Nat.le_trans (Nat.add_le_add q1 (Nat.le_trans (Int.natAbs_add_le _ _) (Nat.add_le_add hn hp))) ?_)
    have h6 : U * (2 * ((a * b + 1) * E) + 2) + (U * ((a * j + b * k + 1) * E) + U) = U * ((2 * ((a * b + 1) * E) + 2) + ((a * j + b * k + 1) * E + 1)) := by
      rw [Nat.mul_add U (2 * ((a * b + 1) * E) + 2), Nat.mul_add U ((a * j + b * k + 1) * E), Nat.mul_one]
    rw [h6]
    refine Nat.mul_le_mul_left _ ?_
    have h7 : (a * j + b * k + 2 * (a * b) + 6) * E = 2 * ((a * b + 1) * E) + (a * j + b * k + 1) * E + 3 * E := by
      simp only [Nat.add_mul, Nat.mul_assoc]
      omega
    rw [h7]
    omega
  rw [Int.natAbs_mul, Int.natAbs_natCast, Nat.mul_comm] at q2
  have q3 := Nat.le_of_mul_le_mul_left q2 hU0
  have e : (((a * j + b * k + 2 * (a * b) + 6) * E : Nat) : Int) = ((a * j + b * k + 2 * (a * b) + 6 : Nat) : Int) * (E : Nat) := Int.natCast_mul _ _
  rw [← e]
  constructor <;> omega

end Go.Vam

/- Sums of powers, by floats: how far they are off; as whole numbers. -/
namespace Go.Vam
open Go

/-- A sum of powers goes on over the next numbers. -/
def hornF (z : Nat) : Nat → List Nat → Nat
  | p, [] => p
  | p, c :: l => hornF z (fadd .f64 (fmul .f64 p z) c) l

/-- The same with whole numbers of units. -/
def hornI (Z U : Int) : Int → List Int → Int
  | v, [] => v
  | v, s :: l => hornI Z U (v * Z / U + s) l

def sumAbs : List Int → Nat
  | [] => 0
  | s :: l => s.natAbs + sumAbs l

theorem floor_le {v Z U : Int} (hU : 0 < U) (h0 : 0 ≤ Z) (h1 : Z ≤ U) : (v * Z / U).natAbs ≤ v.natAbs := by
  by_cases hv : 0 ≤ v
  · have a : v * Z / U ≤ v := by
      refine Int.ediv_le_of_le_mul hU (Int.mul_le_mul_of_nonneg_left h1 hv)
    have b : 0 ≤ v * Z / U := Int.ediv_nonneg (Int.mul_nonneg hv h0) (by omega)
    omega
  · have a : v ≤ v * Z / U := by
      rw [Int.le_ediv_iff_mul_le hU]
      exact Int.mul_le_mul_of_nonpos_left (by omega) h1
    have b : v * Z / U ≤ 0 := by
      have : v * Z / U ≤ 0 / U := Int.ediv_le_ediv hU (by
        have := Int.mul_le_mul_of_nonpos_left (show v ≤ 0 by omega) h0
        simpa using this)
      simpa using this
    omega

theorem floor_near {x U : Int} (hU : 0 < U) : (x - x / U * U).natAbs ≤ U.natAbs := by
  have h1 := Int.emod_nonneg x (show U ≠ 0 by omega)
  have h2 := Int.emod_lt_of_pos x hU
  have h3 := Int.emod_add_ediv_mul x U
  omega

/-- The floats keep by the whole numbers. -/
theorem horn_ap {z : Nat} (hz : Fn z) (h0 : 0 ≤ fv z) (h1 : fv z ≤ (oneU : Nat)) : ∀ (l : List Nat) (p : Nat) (v : Int) (k : Nat), Ap p v k → (∀ c ∈ l, Fn c) → v.natAbs + sumAbs (l.map fv) ≤ 2 * oneU → k + 13 * l.length ≤ 1000000 →
    Ap (hornF z p l) (hornI (fv z) (oneU : Nat) v (l.map fv)) (k + 13 * l.length) := by
  intro l
  induction l with
  | nil => intro p v k hp _ _ _; exact hp
  | cons c l ih =>
    intro p v k hp hc hs hk
    have hU := oneU_pos
    simp only [List.map_cons, sumAbs, List.length_cons] at hs hk
    have hw : (fv z).natAbs ≤ 1 * oneU := by
      rw [Nat.one_mul]
      exact Int.ofNat_le.1 (by rw [Int.natAbs_of_nonneg h0]; exact h1)
    have hv : v.natAbs ≤ 2 * oneU := by
      generalize oneU = U at hs ⊢
      omega
    have hfn : (v * fv z - v * fv z / (oneU : Nat) * (oneU : Nat)).natAbs ≤ oneU := by
      have := floor_near (x := v * fv z) (U := (oneU : Nat)) (Int.natCast_pos.2 hU)
      rwa [Int.natAbs_natCast] at this
    have hfl := floor_le (v := v) (U := (oneU : Nat)) (Int.natCast_pos.2 hU) h0 h1
    have m1 := hp.mul (Ap.self hz) (p := v * fv z / (oneU : Nat)) (a := 2) (b := 1) hv hw hfn (by omega) (by omega) (by omega)
    have hm2 : (v * fv z / (oneU : Nat) + fv c).natAbs ≤ 2 * oneU ∧ (v * fv z / (oneU : Nat) + fv c).natAbs + sumAbs (l.map fv) ≤ 2 * oneU := by
      generalize v * fv z / (oneU : Nat) = f at hfl ⊢
      generalize oneU = U at hs ⊢
      omega
    clear hs hfl hv hw
    have m2 := m1.add (Ap.self (hc c (by simp))) (m := 2) hm2.1 (by omega) (by omega)
    have m3 := ih _ _ _ m2 (fun c hc' => hc c (by simp [hc'])) hm2.2 (by omega)
    show Ap (hornF z (fadd .f64 (fmul .f64 p z) c) l) (hornI (fv z) (oneU : Nat) (v * fv z / (oneU : Nat) + fv c) (l.map fv)) _
    refine m3.mono ?_
    simp only [List.length_cons]
    omega

/-- A sum of powers of Z, made even with powers of U. -/
def evP (Z U : Int) : List Int → Int
  | [] => 0
  | a :: l => a * U ^ l.length + Z * evP Z U l

theorem horn_ev {Z U : Int} (hU : 0 < U) (h0 : 0 ≤ Z) (h1 : Z ≤ U) : ∀ (l : List Int) (i : Int) (q : List Int) (m : Nat), q.length = m + 1 → (i * U ^ m - evP Z U q).natAbs ≤ m * U.natAbs ^ m →
    (hornI Z U i l * U ^ (m + l.length) - evP Z U (l.reverse ++ q)).natAbs ≤ (m + l.length) * U.natAbs ^ (m + l.length) := by
  intro l
  induction l with
  | nil => intro i q m _ h; simpa [hornI] using h
  | cons s l ih =>
    intro i q m hq h
    have := ih (i * Z / U + s) (s :: q) (m + 1) (by simp [hq]) (by
      have e : (i * Z / U + s) * U ^ (m + 1) - evP Z U (s :: q) = -((i * Z - i * Z / U * U) * U ^ m) + (i * U ^ m - evP Z U q) * Z := by
        simp only [evP, hq, Int.pow_succ]
        generalize U ^ m = P
        generalize i * Z / U = f
        generalize evP Z U q = V
        grind
      rw [e]
      refine Nat.le_trans (Int.natAbs_add_le _ _) ?_
      rw [Int.natAbs_neg, Int.natAbs_mul, Int.natAbs_mul, Int.natAbs_pow]
      have hf := floor_near (x := i * Z) hU
      have hZ : Z.natAbs ≤ U.natAbs := by omega
      have a1 := Nat.mul_le_mul_right (U.natAbs ^ m) hf
      have a2 := Nat.mul_le_mul h hZ
      refine Nat.le_trans (Nat.add_le_add a1 a2) (Nat.le_of_eq ?_)
      rw [Nat.pow_succ, Nat.add_mul, Nat.one_mul, Nat.add_comm]
      congr 1
      · ac_rfl
      · ac_rfl)
    rw [List.length_cons, List.reverse_cons, List.append_assoc]
    have e2 : m + 1 + l.length = m + (l.length + 1) := by omega
    rw [e2] at this
    exact this

end Go.Vam

/- Products of sums of powers. -/
namespace Go.Vam
open Go

section
variable {Z U : Int}
theorem evP_zeros (l : List Int) (m : Nat) : evP Z U (l ++ List.replicate m 0) = evP Z U l * U ^ m := by
  induction l with
  | nil =>
    induction m with
    | zero => simp [evP]
    | succ m ih =>
      rw [List.nil_append] at ih ⊢
      rw [List.replicate_succ, show evP Z U (0 :: List.replicate m 0) = 0 * U ^ (List.replicate m (0 : Int)).length + Z * evP Z U (List.replicate m 0) from rfl, ih]
      simp [evP]
  | cons a l ih =>
    rw [List.cons_append, evP, evP, ih, List.length_append, List.length_replicate, Int.pow_add]
    generalize U ^ l.length = A
    generalize U ^ m = B
    generalize evP Z U l = C
    grind
theorem evP_map (a : Int) (l : List Int) : evP Z U (l.map (a * ·)) = a * evP Z U l := by
  induction l with
  | nil => simp [evP]
  | cons b l ih =>
    rw [List.map_cons, evP, evP, ih, List.length_map]
    generalize U ^ l.length = A
    generalize evP Z U l = C
    grind
theorem evP_add : ∀ (l r : List Int), l.length = r.length → evP Z U (List.zipWith (· + ·) l r) = evP Z U l + evP Z U r
  | [], [], _ => by simp [evP]
  | a :: l, b :: r, h => by
    have hl : l.length = r.length := by simpa using h
    rw [List.zipWith_cons_cons, evP, evP, evP, evP_add l r hl, List.length_zipWith, hl, Nat.min_self]
    generalize U ^ r.length = A
    generalize evP Z U l = C
    generalize evP Z U r = D
    grind
  | [], _ :: _, h => by simp at h
  | _ :: _, [], h => by simp at h

def pmul : List Int → List Int → List Int
  | [], _ => []
  | [a], q => q.map (a * ·)
  | a :: b :: p, q => List.zipWith (· + ·) (q.map (a * ·) ++ List.replicate (p.length + 1) 0) (0 :: pmul (b :: p) q)
theorem pmul_len : ∀ (p q : List Int), p ≠ [] → (pmul p q).length + 1 = p.length + q.length
  | [], _, h => absurd rfl h
  | [a], q, _ => by simp [pmul]; omega
  | a :: b :: p, q, _ => by
    have := pmul_len (b :: p) q (by simp)
    simp only [pmul, List.length_zipWith, List.length_append, List.length_map, List.length_replicate, List.length_cons] at this ⊢
    omega
theorem evP_pmul : ∀ (p q : List Int), p ≠ [] → evP Z U (pmul p q) = evP Z U p * evP Z U q
  | [], _, h => absurd rfl h
  | [a], q, _ => by simp [pmul, evP_map, evP]
  | a :: b :: p, q, _ => by
    have h1 := evP_pmul (b :: p) q (by simp)
    have h2 := pmul_len (b :: p) q (by simp)
    rw [pmul, evP_add _ _ (by simp only [List.length_append, List.length_map, List.length_replicate, List.length_cons] at h2 ⊢; omega), evP_zeros, evP_map]
    rw [show evP Z U (0 :: pmul (b :: p) q) = Z * evP Z U (pmul (b :: p) q) by simp [evP], h1, show evP Z U (a :: b :: p) = a * U ^ (b :: p).length + Z * evP Z U (b :: p) from rfl, List.length_cons]
    generalize U ^ (p.length + 1) = A
    generalize evP Z U (b :: p) = C
    generalize evP Z U q = D
    grind

/-- No greater than its numbers. -/
theorem evP_le (h0 : 0 ≤ Z) (h1 : Z ≤ U) : ∀ (l : List Int), (evP Z U l).natAbs * U.natAbs ≤ sumAbs l * U.natAbs ^ l.length
  | [] => by simp [evP, sumAbs]
  | a :: l => by
    have ih := evP_le h0 h1 l
    have hZ : Z.natAbs ≤ U.natAbs := by omega
    rw [evP, sumAbs, List.length_cons, Nat.pow_succ]
    generalize hP : U.natAbs ^ l.length = P at *
    have e : (a * U ^ l.length + Z * evP Z U l).natAbs ≤ a.natAbs * P + U.natAbs * (evP Z U l).natAbs := by
      refine Nat.le_trans (Int.natAbs_add_le _ _) ?_
      rw [Int.natAbs_mul, Int.natAbs_mul, Int.natAbs_pow, hP]
      exact Nat.add_le_add_left (Nat.mul_le_mul_right _ hZ) _
    refine Nat.le_trans (Nat.mul_le_mul_right _ e) ?_
    have e2 : (a.natAbs * P + U.natAbs * (evP Z U l).natAbs) * U.natAbs = a.natAbs * (P * U.natAbs) + ((evP Z U l).natAbs * U.natAbs) * U.natAbs := by
      rw [Nat.add_mul]
      congr 1 <;> ac_rfl
    rw [e2, Nat.add_mul]
    refine Nat.add_le_add_left ?_ _
    refine Nat.le_trans (Nat.mul_le_mul_right _ ih) (Nat.le_of_eq ?_)
    ac_rfl
end

end Go.Vam

/- The program's cosine and sine: a point of the circle. -/
namespace Go.Vam
open Go

/-- The cosine's numbers, the sine's, from the first on; and as whole numbers, of 2^-110. -/
def cosB : List Nat := [4607182418800017408, 13826050856027422720, 4586165620538955093, 13787419979223755799, 4537941361671905306, 13732177094651715420, 4477122120089393304, 13666517717442657437, 4407590220077447199]
def sinB : List Nat := [4607182418800017408, 13818544856648471893, 4575957461383581969, 13774824197408792602, 4523617214285662004, 13716528800881525988, 4460272573143870729, 13648976655441704991, 4389130328383466826]
def cosA : List Int := [1298074214633706907132624082305024, (-649037107316853453566312041152512), 54086425609737784794792918515712, (-1802880853657926328711416643584), 32194300958177254613262008320, (-357714455090858354049810432), 2709957993112563678707712, (-14889879083036063039488), 62041162845983596544]
def sinA : List Int := [1298074214633706907132624082305024, (-216345702438951139179171674062848), 10817285121947557409318546440192, (-257554407665418036906096066560), 3577144550908584090253918208, (-32519495917350764144492544), 208458307162504869969920, (-992658605535737544704), 3649480167410799616]

theorem cos_fv : cosB.map fv = cosA.map (((twoP 964 : Nat) : Int) * ·) := by decide +kernel
theorem sin_fv : sinB.map fv = sinA.map (((twoP 964 : Nat) : Int) * ·) := by decide +kernel
theorem cos_fn : ∀ c ∈ cosB, Fn c := by unfold Fn; decide +kernel
theorem sin_fn : ∀ c ∈ sinB, Fn c := by unfold Fn; decide +kernel
theorem cos_sum : sumAbs (cosB.map fv) ≤ 2 * oneU := by decide +kernel
theorem sin_sum : sumAbs (sinB.map fv) ≤ 2 * oneU := by decide +kernel

/-- A row's sum at z, by floats. -/
def rowF (l : List Nat) (z : Nat) : Nat := match l.reverse with
  | [] => 0
  | p :: r => hornF z p r

/-- What a row of floats comes to. -/
theorem row_near {l : List Nat} {A : List Int} {W : Int} {z : Nat} (hl : l.length = 9) (hfv : l.map fv = A.map (W * ·)) (hfn : ∀ c ∈ l, Fn c) (hs : sumAbs (l.map fv) ≤ 2 * oneU) (hz : Fn z) (h0 : 0 ≤ fv z) (h1 : fv z ≤ (oneU : Nat)) :
    Fn (rowF l z) ∧ (fv (rowF l z) * ((oneU : Nat) : Int) ^ 8 - W * evP (fv z) (oneU : Nat) A).natAbs ≤ 106 * eU * oneU ^ 8 := by
  obtain ⟨p, r, hr⟩ : ∃ p r, l.reverse = p :: r := by
    cases h : l.reverse with
    | nil => have := congrArg List.length h; simp [hl] at this
    | cons p r => exact ⟨p, r, rfl⟩
  have hlr : l = r.reverse ++ [p] := by rw [← List.reverse_reverse l, hr, List.reverse_cons]
  have hrl : r.length = 8 := by
    have := congrArg List.length hr
    rw [List.length_reverse, hl, List.length_cons] at this
    omega
  have hsum : (fv p).natAbs + sumAbs (r.map fv) ≤ 2 * oneU := by
    have e : ∀ a b : List Int, sumAbs (a ++ b) = sumAbs a + sumAbs b := by
      intro a b
      induction a with
      | nil => simp [sumAbs]
      | cons x a ih => rw [List.cons_append, sumAbs, sumAbs, ih, Nat.add_assoc]
    have e2 : ∀ a : List Int, sumAbs a.reverse = sumAbs a := by
      intro a
      induction a with
      | nil => rfl
      | cons x a ih => rw [List.reverse_cons, e, ih, sumAbs, sumAbs, sumAbs, Nat.add_zero, Nat.add_comm]
    rw [hlr, List.map_append, List.map_reverse, e, e2] at hs
    simp only [List.map_cons, List.map_nil, sumAbs, Nat.add_zero] at hs
    rw [Nat.add_comm]
    exact hs
  have hap := horn_ap hz h0 h1 r p (fv p) 0 (Ap.self (hfn p (by rw [hlr]; simp))) (fun c hc => hfn c (by rw [hlr]; simp [hc])) hsum (by omega)
  have hev := horn_ev (U := ((oneU : Nat) : Int)) (Int.natCast_pos.2 oneU_pos) h0 h1 (r.map fv) (fv p) [fv p] 0 rfl (by simp [evP])
  have he : (r.map fv).reverse ++ [fv p] = l.map fv := by rw [hlr, List.map_append, List.map_reverse]; rfl
  rw [he, hfv, evP_map, List.length_map, hrl] at hev
  have hrow : rowF l z = hornF z p r := by unfold rowF; rw [hr]
  rw [hrow]
  rw [hrl] at hap
  refine ⟨hap.1, ?_⟩
  obtain ⟨_, h2, h3⟩ := hap
  simp only [Nat.zero_add, Int.natAbs_natCast] at hev h2 h3
  have hE := eU_big
  generalize hornI (fv z) (oneU : Nat) (fv p) (r.map fv) = H at *
  generalize fv (hornF z p r) = C at *
  generalize W * evP (fv z) (oneU : Nat) A = P at *
  generalize eU = E at *
  have e3 : C * ((oneU : Nat) : Int) ^ 8 - P = (C - H) * ((oneU : Nat) : Int) ^ 8 + (H * ((oneU : Nat) : Int) ^ 8 - P) := by rw [Int.sub_mul]; omega
  rw [e3]
  refine Nat.le_trans (Int.natAbs_add_le _ _) ?_
  rw [Int.natAbs_mul, Int.natAbs_pow, Int.natAbs_natCast]
  have h4 : (C - H).natAbs ≤ 104 * E := by omega
  generalize oneU ^ 8 = M at *
  have h5 := Nat.mul_le_mul_right M h4
  have h6 : 106 * E * M = 104 * E * M + 2 * E * M := by rw [← Nat.add_mul, ← Nat.add_mul]
  have h7 : 8 * M ≤ 2 * E * M := Nat.mul_le_mul_right _ (by omega)
  rw [h6]
  exact Nat.add_le_add h5 (Nat.le_trans hev h7)

end Go.Vam

/- A point of the circle: how far its magnitude is off. -/
namespace Go.Vam
open Go

theorem sq_near {x p : Int} {d s : Nat} (h1 : (x - p).natAbs ≤ d) (h2 : x.natAbs + p.natAbs ≤ s) : (x * x - p * p).natAbs ≤ d * s := by
  have e : x * x - p * p = (x - p) * (x + p) := by grind
  rw [e, Int.natAbs_mul]
  exact Nat.mul_le_mul h1 (Nat.le_trans (Int.natAbs_add_le _ _) h2)

theorem abs_div {x : Int} {M k : Nat} (hM : 0 < M) (h : (x * (M : Nat)).natAbs ≤ k * M) : x.natAbs ≤ k := by
  rw [Int.natAbs_mul, Int.natAbs_natCast] at h
  exact Nat.le_of_mul_le_mul_right h hM

theorem circle_core {U E M : Nat} {C Q T Z Y P R : Int} (hU : U = 4503599627370496 * E) (hE : 4 ≤ E) (hM : 0 < M)
    (hC : (C * (M : Nat) - P).natAbs ≤ 106 * E * M) (hQ : (Q * (M : Nat) - R).natAbs ≤ 106 * E * M) (hP : P.natAbs ≤ 2 * U * M) (hR : R.natAbs ≤ 2 * U * M)
    (hPR : (P * P * (U : Nat) + R * R * Z - (U : Nat) * (U : Nat) * (U : Nat) * ((M : Nat) * (M : Nat))).natAbs ≤ 4 * (E * U * U * (M * M)))
    (hZ : Z.natAbs ≤ U) (hZY : (Z * (U : Nat) - Y * Y).natAbs ≤ 9 * (E * U)) (hY : Y.natAbs ≤ U) (hT : (T * (U : Nat) - Q * Y).natAbs ≤ 13 * (E * U)) :
    C.natAbs ≤ 3 * U ∧ T.natAbs ≤ 4 * U ∧ (C * C + T * T - (U : Nat) * (U : Nat)).natAbs ≤ 1300 * E * U := by
  have hU0 : 0 < U := by omega
  have hEM : 106 * E * M ≤ U * M := Nat.mul_le_mul_right _ (by omega)
  have two : 2 * U * M = 2 * (U * M) := Nat.mul_assoc ..
  have hCM : (C * (M : Nat)).natAbs ≤ 3 * (U * M) := by
    have e : C * (M : Nat) = (C * (M : Nat) - P) + P := by omega
    rw [e]
    refine Nat.le_trans (Int.natAbs_add_le _ _) ?_
    omega
  have hQM : (Q * (M : Nat)).natAbs ≤ 3 * (U * M) := by
    have e : Q * (M : Nat) = (Q * (M : Nat) - R) + R := by omega
    rw [e]
    refine Nat.le_trans (Int.natAbs_add_le _ _) ?_
    omega
  have hC3 : C.natAbs ≤ 3 * U := abs_div hM (by rw [Nat.mul_assoc]; exact hCM)
  have hQ3 : Q.natAbs ≤ 3 * U := abs_div hM (by rw [Nat.mul_assoc]; exact hQM)
  have s1 := sq_near hC (s := 5 * (U * M)) (by omega)
  have s2 := sq_near hQ (s := 5 * (U * M)) (by omega)
  have k1 : 106 * E * M * (5 * (U * M)) = 530 * (E * U * (M * M)) := by
    rw [show (530 : Nat) = 106 * 5 from rfl]; ac_rfl
  rw [k1] at s1 s2
  have s3 : (C * C * (U : Nat) + Q * Q * Z - (U : Nat) * (U : Nat) * (U : Nat)).natAbs ≤ 1064 * (E * U * U) := by
    refine abs_div (M := M * M) (Nat.mul_pos hM hM) ?_
    have e : (C * C * (U : Nat) + Q * Q * Z - (U : Nat) * (U : Nat) * (U : Nat)) * ((M * M : Nat) : Int) =
        (C * (M : Nat) * (C * (M : Nat)) - P * P) * (U : Nat) + ((Q * (M : Nat) * (Q * (M : Nat)) - R * R) * Z + (P * P * (U : Nat) + R * R * Z - (U : Nat) * (U : Nat) * (U : Nat) * ((M : Nat) * (M : Nat)))) := by
      rw [Int.natCast_mul]
      generalize ((M : Nat) : Int) = m
      generalize ((U : Nat) : Int) = u
      grind
    rw [e]
    refine Nat.le_trans (Int.natAbs_add_le _ _) (Nat.le_trans (Nat.add_le_add_left (Int.natAbs_add_le _ _) _) ?_)
    rw [Int.natAbs_mul, Int.natAbs_mul, Int.natAbs_natCast]
    have a1 := Nat.mul_le_mul_right U s1
    have a2 := Nat.mul_le_mul s2 hZ
    have k2 : 530 * (E * U * (M * M)) * U = 530 * (E * U * U * (M * M)) := by rw [Nat.mul_assoc]; congr 1; ac_rfl
    have k3 : 1064 * (E * U * U) * (M * M) = 1064 * (E * U * U * (M * M)) := Nat.mul_assoc ..
    rw [k2] at a1 a2
    rw [k3]
    omega
  have hQY : (Q * Y).natAbs ≤ 3 * (U * U) := by
    rw [Int.natAbs_mul, ← Nat.mul_assoc]; exact Nat.mul_le_mul hQ3 hY
  have hEU : 13 * (E * U) ≤ U * U := by rw [← Nat.mul_assoc]; exact Nat.mul_le_mul_right _ (by omega)
  have hTU : (T * (U : Nat)).natAbs ≤ 4 * (U * U) := by
    have e : T * (U : Nat) = (T * (U : Nat) - Q * Y) + Q * Y := by omega
    rw [e]
    refine Nat.le_trans (Int.natAbs_add_le _ _) ?_
    omega
  have hT4 : T.natAbs ≤ 4 * U := abs_div hU0 (by rw [Nat.mul_assoc]; exact hTU)
  have s4 := sq_near hT (s := 7 * (U * U)) (by omega)
  have k4 : 13 * (E * U) * (7 * (U * U)) = 91 * (E * U * U * U) := by rw [show (91 : Nat) = 13 * 7 from rfl]; ac_rfl
  rw [k4] at s4
  have s5 : (Q * Q * (Z * (U : Nat) - Y * Y)).natAbs ≤ 81 * (E * U * U * U) := by
    rw [Int.natAbs_mul, Int.natAbs_mul]
    refine Nat.le_trans (Nat.mul_le_mul (Nat.mul_le_mul hQ3 hQ3) hZY) (Nat.le_of_eq ?_)
    rw [show (81 : Nat) = 3 * 3 * 9 from rfl]; ac_rfl
  have s6 : (T * T * (U : Nat) - Q * Q * Z).natAbs ≤ 172 * (E * U * U) := by
    refine abs_div hU0 ?_
    have e : (T * T * (U : Nat) - Q * Q * Z) * (U : Nat) = (T * (U : Nat) * (T * (U : Nat)) - Q * Y * (Q * Y)) + -(Q * Q * (Z * (U : Nat) - Y * Y)) := by
      generalize ((U : Nat) : Int) = u
      grind
    rw [e]
    refine Nat.le_trans (Int.natAbs_add_le _ _) ?_
    rw [Int.natAbs_neg]
    have k5 : 172 * (E * U * U) * U = 172 * (E * U * U * U) := by rw [Nat.mul_assoc]
    rw [k5]
    omega
  refine ⟨hC3, hT4, abs_div hU0 ?_⟩
  have e : (C * C + T * T - (U : Nat) * (U : Nat)) * (U : Nat) = (C * C * (U : Nat) + Q * Q * Z - (U : Nat) * (U : Nat) * (U : Nat)) + (T * T * (U : Nat) - Q * Q * Z) := by
    generalize ((U : Nat) : Int) = u
    grind
  rw [e]
  refine Nat.le_trans (Int.natAbs_add_le _ _) ?_
  have k6 : 1300 * E * U * U = 1300 * (E * U * U) := by rw [Nat.mul_assoc, Nat.mul_assoc, Nat.mul_assoc]
  rw [k6]
  omega

end Go.Vam

/- The program's point of the circle. -/
namespace Go.Vam
open Go

theorem evP_leN {Z : Int} {U : Nat} (h0 : 0 ≤ Z) (h1 : Z ≤ (U : Nat)) (l : List Int) : (evP Z (U : Nat) l).natAbs * U ≤ sumAbs l * U ^ l.length := by
  have := evP_le h0 h1 l
  generalize evP Z (U : Nat) l = T at *
  rwa [Int.natAbs_natCast] at this

def sqL : List Int := List.zipWith (· + ·) (pmul cosA cosA ++ List.replicate 1 0) (0 :: pmul sinA sinA)
def k220 : Nat := 1684996666696914987166688442938726917102321526408785780068975640576
theorem sqL_split : sqL = ((k220 : Nat) : Int) :: sqL.tail := by decide +kernel
theorem sqL_tail : sumAbs sqL.tail * 1125899906842624 ≤ k220 := by decide +kernel
theorem sqL_len : sqL.tail.length = 17 := by decide +kernel
theorem w_two : (twoP 964 * twoP 964) * k220 = oneU * oneU := by decide +kernel

theorem sqL_ev {Z U : Int} : evP Z U sqL = evP Z U cosA * evP Z U cosA * U + Z * (evP Z U sinA * evP Z U sinA) := by
  unfold sqL
  rw [evP_add _ _ (by decide +kernel), evP_zeros, evP_pmul _ _ (by decide), show evP Z U (0 :: pmul sinA sinA) = Z * evP Z U (pmul sinA sinA) by simp [evP], evP_pmul _ _ (by decide), Int.pow_one]

theorem circle_id {Z : Int} (h0 : 0 ≤ Z) (h1 : Z ≤ (oneU : Nat)) :
    ((((twoP 964 : Nat) : Int) * evP Z (oneU : Nat) cosA) * (((twoP 964 : Nat) : Int) * evP Z (oneU : Nat) cosA) * (oneU : Nat) + (((twoP 964 : Nat) : Int) * evP Z (oneU : Nat) sinA) * (((twoP 964 : Nat) : Int) * evP Z (oneU : Nat) sinA) * Z
      - (oneU : Nat) * (oneU : Nat) * (oneU : Nat) * (((oneU ^ 8 : Nat) : Int) * ((oneU ^ 8 : Nat) : Int))).natAbs ≤ 4 * (eU * oneU * oneU * (oneU ^ 8 * oneU ^ 8)) := by
  have hev := sqL_ev (Z := Z) (U := ((oneU : Nat) : Int))
  rw [sqL_split, show evP Z (oneU : Nat) (((k220 : Nat) : Int) :: sqL.tail) = ((k220 : Nat) : Int) * ((oneU : Nat) : Int) ^ sqL.tail.length + Z * evP Z (oneU : Nat) sqL.tail from rfl, sqL_len] at hev
  have hle := evP_leN h0 h1 sqL.tail
  rw [sqL_len] at hle
  have ht := sqL_tail
  have hw := w_two
  have hE := one_eU
  have hU0 := oneU_pos
  generalize evP Z (oneU : Nat) sqL.tail = T at *
  generalize sumAbs sqL.tail = t at *
  generalize evP Z (oneU : Nat) cosA = A at *
  generalize evP Z (oneU : Nat) sinA = B at *
  generalize twoP 964 = W at *
  generalize k220 = K at *
  generalize eU = E at *
  generalize oneU = U at *
  have hp : ((U ^ 8 : Nat) : Int) = (U : Int) ^ 8 := Int.natCast_pow ..
  have hw2 : ((W : Nat) : Int) * W * ((K : Nat) : Int) = (U : Nat) * (U : Nat) := by rw [← Int.natCast_mul, ← Int.natCast_mul, hw, Int.natCast_mul]
  have e : ((W : Nat) : Int) * A * (W * A) * (U : Nat) + ((W : Nat) : Int) * B * (W * B) * Z - (U : Nat) * (U : Nat) * (U : Nat) * (((U ^ 8 : Nat) : Int) * ((U ^ 8 : Nat) : Int)) = W * W * (Z * T) := by
    rw [hp, ← hw2]
    have h17 : (U : Int) ^ 17 = U * ((U : Int) ^ 8 * (U : Int) ^ 8) := by rw [← Int.pow_add, Int.mul_comm, ← Int.pow_succ]
    rw [h17] at hev
    generalize (U : Int) ^ 8 = M at *
    generalize (U : Int) = u at *
    generalize (W : Int) = w at *
    generalize (K : Int) = k at *
    clear hle ht hw hE hU0 hp h17 hw2 h0 h1
    have r1 : w * A * (w * A) * u + w * B * (w * B) * Z - w * w * k * u * (M * M) = w * w * ((A * A * u + Z * (B * B)) - k * (u * (M * M))) := by clear hev; grind
    rw [r1, ← hev]
    congr 1
    omega
  rw [e]
  have hZ : Z.natAbs ≤ U := by omega
  have b1 : (((W : Nat) : Int) * W * (Z * T)).natAbs ≤ W * W * (t * U ^ 17) := by
    rw [Int.natAbs_mul, Int.natAbs_mul, Int.natAbs_mul, Int.natAbs_natCast]
    refine Nat.mul_le_mul_left _ (Nat.le_trans (Nat.mul_le_mul_right _ hZ) ?_)
    rw [Nat.mul_comm]
    exact hle
  have b2 : W * W * (t * U ^ 17) * 1125899906842624 ≤ 4 * (E * U * U * (U ^ 8 * U ^ 8)) * 1125899906842624 := by
    have h17 : U ^ 17 = U * (U ^ 8 * U ^ 8) := by rw [← Nat.pow_add, Nat.mul_comm, ← Nat.pow_succ]
    rw [h17]
    generalize U ^ 8 = M
    have c1 : W * W * (t * (U * (M * M))) * 1125899906842624 = (t * 1125899906842624) * (W * W * (U * (M * M))) := by ac_rfl
    have c2 : 4 * (E * U * U * (M * M)) * 1125899906842624 = U * U * (U * (M * M)) := by
      have : 4 * (E * U * U * (M * M)) * 1125899906842624 = (4503599627370496 * E) * (U * (U * (M * M))) := by
        rw [show (4503599627370496 : Nat) = 4 * 1125899906842624 from rfl]; ac_rfl
      rw [this, ← hE]; ac_rfl
    rw [c1, c2]
    refine Nat.le_trans (Nat.mul_le_mul_right _ ht) (Nat.le_of_eq ?_)
    rw [← hw]
    ac_rfl
  exact Nat.le_trans b1 (Nat.le_of_mul_le_mul_right b2 (by omega))

/-- A square of at most 1. -/
theorem sq_range {y : Nat} (hy : Fn y) (h : (fv y).natAbs ≤ oneU) : Fn (fmul .f64 y y) ∧ 0 ≤ fv (fmul .f64 y y) ∧ fv (fmul .f64 y y) ≤ (oneU : Nat) ∧ (fv (fmul .f64 y y) * (oneU : Nat) - fv y * fv y).natAbs ≤ 9 * (eU * oneU) := by
  obtain ⟨z, h1, h2⟩ := mul_rn hy.2 hy.2
  have h3 := h1 (decide (9223372036854775808 ≤ y)) (decide (9223372036854775808 ≤ y))
  rw [← hy.word, Bool.xor_self] at h3
  have hs : sv (y % 9223372036854775808) ≤ oneU := by rw [← sw_abs (decide (9223372036854775808 ≤ y))]; exact h
  obtain ⟨w, hw1, hw2⟩ := near_sv (k := 1) (by omega) (by omega)
  have hw3 : sv w = oneU := by rw [Int.one_mul] at hw2; exact Int.ofNat_inj.1 hw2
  have hz : z ≤ w := h2.le w (by rw [hw3]; exact Nat.mul_le_mul hs hs)
  have hzi : z < infR := Nat.lt_of_le_of_lt hz hw1
  obtain ⟨k1, k2⟩ := word_fn (b := false) hzi
  rw [← h3] at k1 k2
  have hv : fv (fmul .f64 y y) = ((sv z : Nat) : Int) := by rw [k2]; rfl
  have hap := (Ap.self hy).mul (Ap.self hy) (p := fv y * fv y / (oneU : Nat)) (a := 1) (b := 1) (by rw [Nat.one_mul]; exact h) (by rw [Nat.one_mul]; exact h) (by
    have := floor_near (x := fv y * fv y) (U := ((oneU : Nat) : Int)) (Int.natCast_pos.2 oneU_pos)
    rwa [Int.natAbs_natCast] at this) (by omega) (by omega) (by omega)
  have hfl := floor_near (x := fv y * fv y) (U := ((oneU : Nat) : Int)) (Int.natCast_pos.2 oneU_pos)
  rw [Int.natAbs_natCast] at hfl
  have hsz : sv z ≤ oneU := by rw [← hw3]; exact sv_le hz
  refine ⟨k1, by rw [hv]; exact Int.natCast_nonneg _, by rw [hv]; exact Int.ofNat_le.2 hsz, ?_⟩
  obtain ⟨_, h4, h5⟩ := hap
  have hE := eU_big
  generalize fv (fmul .f64 y y) = S at *
  generalize fv y * fv y = N at *
  generalize N / ((oneU : Nat) : Int) = F at *
  generalize eU = E at *
  generalize oneU = U at *
  have e : S * (U : Nat) - N = (S - F) * (U : Nat) + -(N - F * (U : Nat)) := by rw [Int.sub_mul]; omega
  rw [e]
  refine Nat.le_trans (Int.natAbs_add_le _ _) ?_
  rw [Int.natAbs_neg, Int.natAbs_mul, Int.natAbs_natCast]
  have h6 : (S - F).natAbs ≤ 8 * E := by omega
  have h7 := Nat.mul_le_mul_right U h6
  have h8 : 8 * E * U = 8 * (E * U) := Nat.mul_assoc ..
  have h9 : U ≤ E * U := Nat.le_mul_of_pos_left U (by omega)
  omega

/-- The point at y: its parts. -/
def ptC (y : Nat) : Nat := rowF cosB (fmul .f64 y y)
def ptS (y : Nat) : Nat := fmul .f64 (rowF sinB (fmul .f64 y y)) y

theorem pt_circle {y : Nat} (hy : Fn y) (h : (fv y).natAbs ≤ oneU) : Fn (ptC y) ∧ Fn (ptS y) ∧ (fv (ptC y)).natAbs ≤ 3 * oneU ∧ (fv (ptS y)).natAbs ≤ 4 * oneU ∧ (fv (ptC y) * fv (ptC y) + fv (ptS y) * fv (ptS y) - (oneU : Nat) * (oneU : Nat)).natAbs ≤ 1300 * eU * oneU := by
  obtain ⟨z1, z2, z3, z4⟩ := sq_range hy h
  obtain ⟨c1, c2⟩ := row_near (by rfl) cos_fv cos_fn cos_sum z1 z2 z3
  obtain ⟨q1, q2⟩ := row_near (by rfl) sin_fv sin_fn sin_sum z1 z2 z3
  have hid := circle_id z2 z3
  have bd : ∀ {l : List Nat} {A : List Int}, l.length = 9 → l.map fv = A.map (((twoP 964 : Nat) : Int) * ·) → sumAbs (l.map fv) ≤ 2 * oneU → (((twoP 964 : Nat) : Int) * evP (fv (fmul .f64 y y)) (oneU : Nat) A).natAbs ≤ 2 * oneU * oneU ^ 8 := by
    intro l A hl hfv hs
    have h1 := evP_leN z2 z3 (l.map fv)
    rw [List.length_map, hl] at h1
    rw [← evP_map, ← hfv]
    refine Nat.le_of_mul_le_mul_right (Nat.le_trans h1 ?_) oneU_pos
    rw [Nat.pow_succ, Nat.mul_assoc]
    exact Nat.mul_le_mul_right _ hs
  have p1 := bd (by rfl) cos_fv cos_sum
  have p2 := bd (by rfl) sin_fv sin_sum
  have hq3 : (fv (rowF sinB (fmul .f64 y y))).natAbs ≤ 3 * oneU := by
    have hU0 := oneU_pos
    have hE := one_eU
    have hM : ((oneU ^ 8 : Nat) : Int) = ((oneU : Nat) : Int) ^ 8 := Int.natCast_pow ..
    rw [← hM] at q2
    have hM0 : 0 < oneU ^ 8 := Nat.pow_pos hU0
    refine abs_div hM0 ?_
    generalize ((twoP 964 : Nat) : Int) * evP (fv (fmul .f64 y y)) (oneU : Nat) sinA = R at *
    generalize oneU ^ 8 = M at *
    generalize fv (rowF sinB (fmul .f64 y y)) = Q at *
    generalize eU = E at *
    generalize oneU = U at *
    have e : Q * (M : Nat) = (Q * (M : Nat) - R) + R := by omega
    rw [e]
    refine Nat.le_trans (Int.natAbs_add_le _ _) ?_
    have h1 : 106 * E * M ≤ U * M := Nat.mul_le_mul_right _ (by omega)
    have h2 : 3 * U * M = U * M + 2 * U * M := by rw [← Nat.add_mul]; congr 1; omega
    omega
  have hsap := (Ap.self q1).mul (Ap.self hy) (p := fv (rowF sinB (fmul .f64 y y)) * fv y / (oneU : Nat)) (a := 3) (b := 1) hq3 (by rw [Nat.one_mul]; exact h) (by
    have := floor_near (x := fv (rowF sinB (fmul .f64 y y)) * fv y) (U := ((oneU : Nat) : Int)) (Int.natCast_pos.2 oneU_pos)
    rwa [Int.natAbs_natCast] at this) (by omega) (by omega) (by omega)
  have hfl := floor_near (x := fv (rowF sinB (fmul .f64 y y)) * fv y) (U := ((oneU : Nat) : Int)) (Int.natCast_pos.2 oneU_pos)
  rw [Int.natAbs_natCast] at hfl
  obtain ⟨s1, s2, s3⟩ := hsap
  refine ⟨c1, s1, ?_⟩
  have hM : ((oneU ^ 8 : Nat) : Int) = ((oneU : Nat) : Int) ^ 8 := Int.natCast_pow ..
  rw [← hM] at c2 q2
  have hT : (fv (ptS y) * (oneU : Nat) - fv (rowF sinB (fmul .f64 y y)) * fv y).natAbs ≤ 13 * (eU * oneU) := by
    unfold ptS
    have hE := eU_big
    generalize fv (fmul .f64 (rowF sinB (fmul .f64 y y)) y) = S at *
    generalize fv (rowF sinB (fmul .f64 y y)) * fv y = N at *
    generalize N / ((oneU : Nat) : Int) = F at *
    generalize eU = E at *
    generalize oneU = U at *
    have e : S * (U : Nat) - N = (S - F) * (U : Nat) + -(N - F * (U : Nat)) := by rw [Int.sub_mul]; omega
    rw [e]
    refine Nat.le_trans (Int.natAbs_add_le _ _) ?_
    rw [Int.natAbs_neg, Int.natAbs_mul, Int.natAbs_natCast]
    have h6 : (S - F).natAbs ≤ 12 * E := by omega
    have h7 := Nat.mul_le_mul_right U h6
    have h8 : 12 * E * U = 12 * (E * U) := Nat.mul_assoc ..
    have h9 : U ≤ E * U := Nat.le_mul_of_pos_left U (by omega)
    omega
  exact circle_core one_eU eU_big (Nat.pow_pos oneU_pos) c2 q2 p1 p2 hid (by have := Int.natAbs_of_nonneg z2; omega) z4 h hT

end Go.Vam
