/- Errors of rounding. -/
import Derived.Test.YtpphomoijlilfaaFlB
import Derived.Test.YtpphomoijlilfaaPD
import Derived.Test.YtpphomoijlilfaaPkDIr
namespace Go.Vam
open Go

theorem sv_small {r : Nat} (h : r ≤ 9007199254740992) : sv r = r := by
  have := sv_at (q := 0) (low := r) h (.inl rfl)
  simpa using this

theorem rn_fin {N D z : Nat} (h : RN N D z) (hN : N ≤ sv (infR - 1) * D) : z < infR := by
  have h1 := h.le (infR - 1) hN
  have h2 : infR = 9218868437227405312 := rfl
  omega

/-- How far a rounded number lies from the number: a part of it, or one unit. -/
theorem rn_err {N D z : Nat} (h : RN N D z) (hD : 0 < D) (hz : z < infR) : sv z * D * 4503599627370496 ≤ N * 4503599627370497 + D * 4503599627370496 ∧ N * 4503599627370496 ≤ sv z * D * 4503599627370497 + D * 4503599627370496 := by
  by_cases h1 : 4503599627370496 < z
  · obtain ⟨a, b⟩ := h.rel h1 hz
    constructor <;> omega
  · have hs := sv_small (r := z) (by omega)
    have hs2 := sv_small (r := z + 1) (by omega)
    have g1 : z * D ≤ N + D := by
      rcases Nat.eq_zero_or_pos z with h0 | h0
      · subst h0; omega
      · have hs3 := sv_small (r := z - 1) (by omega)
        have : ¬ N ≤ sv (z - 1) * D := fun hx => by have := h.le (z - 1) hx; omega
        rw [hs3] at this
        have e : z * D = (z - 1) * D + D := by
          obtain ⟨k, rfl⟩ : ∃ k, z = k + 1 := ⟨z - 1, by omega⟩
          rw [Nat.add_sub_cancel, Nat.add_mul, Nat.one_mul]
        omega
    have g2 : N ≤ z * D + D := by
      have : ¬ sv (z + 1) * D ≤ N := fun hx => by have := h.ge (z + 1) (by omega) hx; omega
      rw [hs2, Nat.add_mul, Nat.one_mul] at this
      omega
    rw [hs]
    generalize z * D = K at g1 g2
    constructor <;> omega

/-- A sum: only a part of it. -/
theorem rn_err1 {N z : Nat} (h : RN N 1 z) (hz : z < infR) : sv z * 4503599627370496 ≤ N * 4503599627370497 ∧ N * 4503599627370496 ≤ sv z * 4503599627370497 := by
  by_cases h1 : 4503599627370496 < z
  · obtain ⟨a, b⟩ := h.rel h1 hz
    constructor <;> omega
  · have hs := sv_small (r := z) (by omega)
    have hs2 := sv_small (r := z + 1) (by omega)
    have g1 : z ≤ N := by
      rcases Nat.eq_zero_or_pos z with h0 | h0
      · omega
      · have hs3 := sv_small (r := z - 1) (by omega)
        have : ¬ N ≤ sv (z - 1) * 1 := fun hx => by have := h.le (z - 1) hx; omega
        rw [hs3] at this
        omega
    have g2 : N ≤ z := by
      have : ¬ sv (z + 1) * 1 ≤ N := fun hx => by have := h.ge (z + 1) (by omega) hx; omega
      rw [hs2] at this
      omega
    rw [hs]
    constructor <;> omega

end Go.Vam

/- Sums, products and quotients of finite floats, with their errors. -/
namespace Go.Vam
open Go

/-- A float that is finite, and its value in units. -/
def Fn (x : Nat) : Prop := x < 18446744073709551616 ∧ x % 9223372036854775808 < infR
def fv (x : Nat) : Int := sw (decide (9223372036854775808 ≤ x)) (x % 9223372036854775808)

theorem Fn.key {x : Nat} (h : Fn x) : fkey x = some (fv x) := by
  unfold fkey
  rw [if_pos (Nat.le_of_lt h.2)]; rfl

theorem word_fn {b : Bool} {z : Nat} (h : z < infR) : Fn (Ieee.double.word b z) ∧ fv (Ieee.double.word b z) = sw b z := by
  have hI : infR = 9218868437227405312 := rfl
  unfold Fn fv Ieee.Format.word
  rw [d_sw]
  cases b with
  | false =>
    simp only [Bool.false_eq_true, if_false, Nat.zero_add]
    have h1 : z % 9223372036854775808 = z := Nat.mod_eq_of_lt (by omega)
    rw [h1, decide_eq_false (by omega)]
    exact ⟨⟨by omega, h⟩, rfl⟩
  | true =>
    simp only [if_true]
    have h1 : (9223372036854775808 + z) % 9223372036854775808 = z := by rw [Nat.add_mod_left]; exact Nat.mod_eq_of_lt (by omega)
    first
      | (rw [h1, decide_eq_true (by omega)]; exact ⟨⟨by omega, h⟩, rfl⟩)
      | (rw [Nat.add_comm z, h1, decide_eq_true (by omega)]; exact ⟨⟨by omega, h⟩, rfl⟩)

theorem Fn.word {x : Nat} (h : Fn x) : x = Ieee.double.word (decide (9223372036854775808 ≤ x)) (x % 9223372036854775808) := wordOf h.1

theorem sw_abs (b : Bool) (z : Nat) : (sw b z).natAbs = sv z := by
  unfold sw; cases b <;> simp

theorem near_abs {Z N K : Nat} (g1 : Z * 4503599627370496 ≤ N * 4503599627370497) (g2 : N * 4503599627370496 ≤ Z * 4503599627370497) (h : K = Z - N ∨ K = N - Z) : K * 4503599627370496 ≤ N := by
  rcases h with h | h
  · subst h
    rcases Nat.le_total Z N with h1 | h1
    · rw [Nat.sub_eq_zero_of_le h1, Nat.zero_mul]; exact Nat.zero_le _
    · rw [Nat.sub_mul]; omega
  · subst h
    rcases Nat.le_total N Z with h1 | h1
    · rw [Nat.sub_eq_zero_of_le h1, Nat.zero_mul]; exact Nat.zero_le _
    · rw [Nat.sub_mul]; omega

theorem fadd_err {x y : Nat} (hx : Fn x) (hy : Fn y) (hb : (fv x + fv y).natAbs ≤ sv (infR - 1)) :
    Fn (fadd .f64 x y) ∧ (fv (fadd .f64 x y) - (fv x + fv y)).natAbs * 4503599627370496 ≤ (fv x + fv y).natAbs := by
  obtain ⟨z, h1, h2⟩ := add_rn hx.2 hy.2 (decide (9223372036854775808 ≤ x)) (decide (9223372036854775808 ≤ y))
  rw [← hx.word, ← hy.word] at h1
  have e : sw (decide (9223372036854775808 ≤ x)) (x % 9223372036854775808) + sw (decide (9223372036854775808 ≤ y)) (y % 9223372036854775808) = fv x + fv y := rfl
  rw [e] at h1 h2
  have hz := rn_fin h2 (by rw [Nat.mul_one]; exact hb)
  obtain ⟨g1, g2⟩ := rn_err1 h2 hz
  obtain ⟨k1, k2⟩ := word_fn (b := if fv x + fv y = 0 then (decide (9223372036854775808 ≤ x)) && (decide (9223372036854775808 ≤ y)) else decide (fv x + fv y < 0)) hz
  rw [← h1] at k1 k2
  refine ⟨k1, ?_⟩
  rw [k2]
  clear h1 h2 k1 k2 e hb
  generalize fv x + fv y = S at g1 g2 ⊢
  unfold sw
  generalize sv z = Z at g1 g2 ⊢
  by_cases h0 : S = 0
  · subst h0
    have : Z = 0 := by simp at g1; omega
    subst this
    split <;> simp
  · rw [if_neg h0]
    by_cases hn : S < 0
    · rw [decide_eq_true hn, if_pos rfl]
      obtain ⟨N, hN⟩ : ∃ N, N = S.natAbs := ⟨_, rfl⟩
      rw [← hN] at g1 g2 ⊢
      have hS : S = -(N : Int) := by omega
      exact near_abs g1 g2 (by rw [hS]; omega)
    · rw [decide_eq_false hn, if_neg (by simp)]
      obtain ⟨N, hN⟩ : ∃ N, N = S.natAbs := ⟨_, rfl⟩
      rw [← hN] at g1 g2 ⊢
      have hS : S = (N : Int) := by omega
      exact near_abs g1 g2 (by rw [hS]; omega)

end Go.Vam

/- Products with whole numbers, with their errors. -/
namespace Go.Vam
open Go

theorem RN.scale {N K z : Nat} (h : RN (N * K) K z) (hK : 0 < K) : RN N 1 z :=
  ⟨h.inf, fun w hw hx => h.ge w hw (by rw [Nat.mul_one] at hx; exact Nat.mul_le_mul_right _ hx), fun w hx => h.le w (by rw [Nat.mul_one] at hx; exact Nat.mul_le_mul_right _ hx)⟩

theorem sw_near {b : Bool} {z N K : Nat} (g : ∀ K, K = z - N ∨ K = N - z → K * 4503599627370496 ≤ N) {P : Int} (hP : P = if b then -(N : Int) else (N : Int)) (hK : (( if b then -(z : Int) else (z : Int)) - P).natAbs = K) : K * 4503599627370496 ≤ N := by
  refine g K ?_
  subst hP
  cases b <;> simp at hK <;> omega

theorem fmul_err {x y : Nat} {d : Int} (hx : Fn x) (hy : Fn y) (hd : fv y = d * (oneU : Nat)) (hb : (fv x * d).natAbs ≤ sv (infR - 1)) :
    Fn (fmul .f64 x y) ∧ (fv (fmul .f64 x y) - fv x * d).natAbs * 4503599627370496 ≤ (fv x * d).natAbs := by
  obtain ⟨z, h1, h2⟩ := mul_rn hx.2 hy.2
  have h1' := h1 (decide (9223372036854775808 ≤ x)) (decide (9223372036854775808 ≤ y))
  rw [← hx.word, ← hy.word] at h1'
  have hp : sv (y % 9223372036854775808) = d.natAbs * oneU := by
    have := sw_abs (decide (9223372036854775808 ≤ y)) (y % 9223372036854775808)
    have e : sw (decide (9223372036854775808 ≤ y)) (y % 9223372036854775808) = fv y := rfl
    rw [e, hd, Int.natAbs_mul, Int.natAbs_natCast] at this
    exact this.symm
  have hN : (fv x * d).natAbs = sv (x % 9223372036854775808) * d.natAbs := by
    rw [Int.natAbs_mul]
    congr 1
    exact sw_abs _ _
  rw [hp, ← Nat.mul_assoc, ← hN] at h2
  have h3 := h2.scale oneU_pos
  have hz := rn_fin h3 (by rw [Nat.mul_one]; exact hb)
  obtain ⟨g1, g2⟩ := rn_err1 h3 hz
  obtain ⟨k1, k2⟩ := word_fn (b := decide (9223372036854775808 ≤ x) ^^ decide (9223372036854775808 ≤ y)) hz
  rw [← h1'] at k1 k2
  refine ⟨k1, ?_⟩
  rw [k2]
  refine sw_near (b := decide (9223372036854775808 ≤ x) ^^ decide (9223372036854775808 ≤ y)) (z := sv z) (fun K h => near_abs g1 g2 h) ?_ rfl
  -- the sign of the product
  rw [hN]
  have hO : (0 : Int) < (oneU : Nat) := by have := oneU_pos; omega
  have hfx : fv x = sw (decide (9223372036854775808 ≤ x)) (x % 9223372036854775808) := rfl
  have hfy : fv y = sw (decide (9223372036854775808 ≤ y)) (y % 9223372036854775808) := rfl
  rw [hfx]
  rw [hfy] at hd
  generalize x % 9223372036854775808 = r at *
  generalize y % 9223372036854775808 = p at *
  generalize decide (9223372036854775808 ≤ x) = s at *
  generalize decide (9223372036854775808 ≤ y) = t at *
  have hdt : d = if t then -(d.natAbs : Int) else (d.natAbs : Int) := by
    cases t with
    | false =>
      simp only [sw, Bool.false_eq_true, if_false] at hd ⊢
      have : 0 ≤ d := by
        apply Int.not_lt.1
        intro hn
        have := Int.mul_neg_of_neg_of_pos hn hO
        omega
      omega
    | true =>
      simp only [sw, if_true] at hd ⊢
      have : d ≤ 0 := by
        apply Int.not_lt.1
        intro hn
        have := Int.mul_pos hn hO
        omega
      omega
  generalize d.natAbs = D at *
  subst hdt
  cases s <;> cases t <;> simp [sw, Int.mul_neg, Int.neg_mul]

end Go.Vam

/- Quotients, with their errors. -/
namespace Go.Vam
open Go

theorem near_div {Z N S K : Nat} (g1 : Z * S * 4503599627370496 ≤ N * 4503599627370497 + S * 4503599627370496) (g2 : N * 4503599627370496 ≤ Z * S * 4503599627370497 + S * 4503599627370496) (h : K = Z * S - N ∨ K = N - Z * S) :
    K * 4503599627370496 ≤ N + S * 4503599627370496 := by
  generalize Z * S = Q at g1 g2 h
  rcases h with h | h
  · subst h
    rcases Nat.le_total Q N with h1 | h1
    · rw [Nat.sub_eq_zero_of_le h1, Nat.zero_mul]; exact Nat.zero_le _
    · rw [Nat.sub_mul]; omega
  · subst h
    rcases Nat.le_total N Q with h1 | h1
    · rw [Nat.sub_eq_zero_of_le h1, Nat.zero_mul]; exact Nat.zero_le _
    · rw [Nat.sub_mul]; omega

/-- A quotient by a float above 0. -/
theorem fdiv_err {x y : Nat} (hx : Fn x) (hy : Fn y) (hp : 0 < fv y) (hb : (fv x).natAbs * oneU ≤ sv (infR - 1) * (fv y).natAbs) :
    Fn (fdiv .f64 x y) ∧ (fv (fdiv .f64 x y) * fv y - fv x * (oneU : Nat)).natAbs * 4503599627370496 ≤ (fv x).natAbs * oneU + (fv y).natAbs * 4503599627370496 := by
  have hfx : fv x = sw (decide (9223372036854775808 ≤ x)) (x % 9223372036854775808) := rfl
  have hfy : fv y = sw (decide (9223372036854775808 ≤ y)) (y % 9223372036854775808) := rfl
  have hy0 : decide (9223372036854775808 ≤ y) = false := by
    cases h : decide (9223372036854775808 ≤ y) with
    | false => rfl
    | true =>
      rw [hfy, h] at hp
      simp only [sw, if_true] at hp
      omega
  have hsy : fv y = (sv (y % 9223372036854775808) : Nat) := by rw [hfy, hy0]; simp [sw]
  have hp0 : y % 9223372036854775808 ≠ 0 := by
    intro h
    rw [hsy, h, sv_zero] at hp
    simp at hp
  obtain ⟨z, h1, h2⟩ := div_rn hx.2 hy.2 hp0
  have h1' := h1 (decide (9223372036854775808 ≤ x)) (decide (9223372036854775808 ≤ y))
  rw [← hx.word, ← hy.word, hy0, Bool.xor_false] at h1'
  have hax : (fv x).natAbs = sv (x % 9223372036854775808) := sw_abs _ _
  have hay : (fv y).natAbs = sv (y % 9223372036854775808) := sw_abs _ _
  rw [hax, hay] at hb ⊢
  have hD : 0 < sv (y % 9223372036854775808) := sv_pos (by omega)
  have hz := rn_fin h2 hb
  obtain ⟨g1, g2⟩ := rn_err h2 hD hz
  obtain ⟨k1, k2⟩ := word_fn (b := decide (9223372036854775808 ≤ x)) hz
  rw [← h1'] at k1 k2
  refine ⟨k1, ?_⟩
  rw [k2, hsy, hfx]
  refine near_div g1 g2 ?_
  clear h1 h1' h2 hb hax hay hD k1 k2 g1 g2
  generalize sv (y % 9223372036854775808) = S
  generalize decide (9223372036854775808 ≤ x) = s
  generalize x % 9223372036854775808 = r
  have e1 : ((sv z * S : Nat) : Int) = (sv z : Int) * S := by rw [Int.natCast_mul]
  have e2 : ((sv r * oneU : Nat) : Int) = (sv r : Int) * (oneU : Nat) := by rw [Int.natCast_mul]
  cases s with
  | false =>
    simp only [sw, Bool.false_eq_true, if_false]
    rw [← e1, ← e2]
    generalize sv z * S = A
    generalize sv r * oneU = B
    omega
  | true =>
    simp only [sw, if_true, Int.neg_mul]
    rw [← e1, ← e2]
    generalize sv z * S = A
    generalize sv r * oneU = B
    omega

end Go.Vam

/- A rounded sum of moments against a rounded sum of powers: one step. -/
namespace Go.Vam
open Go

theorem mul_abs_le {h w M Y : Int} (h1 : -M ≤ h) (h2 : h ≤ M) (w1 : -Y ≤ w) (w2 : w ≤ Y) (hM : 0 ≤ M) (hY : 0 ≤ Y) : h * w ≤ M * Y := by
  rcases Int.le_total 0 w with hw | hw
  · exact Int.le_trans (Int.mul_le_mul_of_nonneg_right h2 hw) (Int.mul_le_mul_of_nonneg_left w2 hM)
  · have e : h * w = (-h) * (-w) := by rw [Int.neg_mul_neg]
    rw [e]
    exact Int.le_trans (Int.mul_le_mul_of_nonneg_right (show -h ≤ M by omega) (by omega)) (Int.mul_le_mul_of_nonneg_left (show -w ≤ Y by omega) hM)

theorem step_up {R k M hi s q D τ D' s' V : Int} (hk : 1 ≤ k) (hkR : 8 * k + 4 ≤ 2 * R) (hM : 0 ≤ M) (h1 : -M ≤ hi) (h2 : hi ≤ M) (hs : 0 ≤ s) (hq : 0 ≤ q)
    (g1 : R * D ≤ R * (hi * s) + 4 * (k * (M * s))) (g2 : -(4 * (k * (M * s))) - R * (M * s) ≤ R * D) (g3 : R * τ ≤ R * (hi * q) + M * q) (g4 : -(M * q) - R * (M * q) ≤ R * τ)
    (gV : V = D + τ ∨ V = -(D + τ)) (g5 : R * D' ≤ R * (D + τ) + V) (g6 : R * (s + q - s') ≤ s + q) (g7 : -(s + q) ≤ R * (s + q - s')) :
    R * D' ≤ R * (hi * s') + 4 * ((k + 1) * (M * s')) := by
  have hR : 0 < R := by omega
  have hA : hi * (R * (s + q - s')) ≤ M * (s + q) := mul_abs_le h1 h2 g7 g6 hM (by omega)
  have hV : R * V ≤ R * (M * (s + q)) + 4 * (k * (M * (s + q))) := by
    have a1 : 0 ≤ M * s := Int.mul_nonneg hM hs
    have a2 : 0 ≤ M * q := Int.mul_nonneg hM hq
    have b1 : R * (hi * s) ≤ R * (M * s) := Int.mul_le_mul_of_nonneg_left (Int.mul_le_mul_of_nonneg_right h2 hs) (by omega)
    have b2 : R * (hi * q) ≤ R * (M * q) := Int.mul_le_mul_of_nonneg_left (Int.mul_le_mul_of_nonneg_right h2 hq) (by omega)
    have b3 : M * q ≤ k * (M * q) := by
      have := Int.mul_le_mul_of_nonneg_right hk a2
      rwa [Int.one_mul] at this
    have b4 : 0 ≤ k * (M * s) := Int.mul_nonneg (by omega) a1
    rw [Int.mul_add M, Int.mul_add R, Int.mul_add k]
    rcases gV with rfl | rfl
    · rw [Int.mul_add R]; omega
    · rw [Int.mul_neg, Int.mul_add R]; omega
  have hX : R * (D + τ) ≤ R * (hi * (s + q)) + 4 * (k * (M * (s + q))) := by
    have a2 : 0 ≤ M * q := Int.mul_nonneg hM hq
    have b3 : M * q ≤ k * (M * q) := by
      have := Int.mul_le_mul_of_nonneg_right hk a2
      rwa [Int.one_mul] at this
    rw [Int.mul_add hi, Int.mul_add R, Int.mul_add R, Int.mul_add M, Int.mul_add k]
    omega
  have hE : R * D' - R * (hi * s') ≤ M * (s + q) + 4 * (k * (M * (s + q))) + V := by
    have e : hi * (R * (s + q - s')) = R * (hi * (s + q)) - R * (hi * s') := by
      rw [Int.mul_left_comm, Int.mul_sub hi, Int.mul_sub R]
    omega
  have hB : R * (M * (s + q)) - M * (s + q) ≤ R * (M * s') := by
    have g6' : R * (s + q) - (s + q) ≤ R * s' := by rw [Int.mul_sub] at g6; omega
    have := Int.mul_le_mul_of_nonneg_left g6' hM
    rw [Int.mul_sub, Int.mul_left_comm, Int.mul_left_comm M R s'] at this
    exact this
  have hAA : 0 ≤ M * (s + q) := Int.mul_nonneg hM (by omega)
  generalize M * (s + q) = A at hV hE hB hAA hX hA
  generalize M * s' = B at hB ⊢
  generalize hi * s' = C at hE ⊢
  have k1 : R * (R * D' - R * C) ≤ R * A + 4 * (R * (k * A)) + (R * A + 4 * (k * A)) := by
    have := Int.mul_le_mul_of_nonneg_left hE (show 0 ≤ R by omega)
    rw [Int.mul_add, Int.mul_add, Int.mul_left_comm R 4] at this
    omega
  have k2 : 4 * ((k + 1) * (R * A - A)) ≤ R * (4 * ((k + 1) * B)) := by
    have := Int.mul_le_mul_of_nonneg_left hB (show 0 ≤ k + 1 by omega)
    have e : R * (4 * ((k + 1) * B)) = 4 * ((k + 1) * (R * B)) := by
      rw [Int.mul_left_comm, Int.mul_left_comm R]
    rw [e]; omega
  have k3 : 0 ≤ (2 * R - 8 * k - 4) * A := Int.mul_nonneg (by omega) hAA
  have k4 : (2 * R - 8 * k - 4) * A = 2 * (R * A) - 8 * (k * A) - 4 * A := by
    rw [Int.sub_mul, Int.sub_mul, Int.mul_assoc, Int.mul_assoc]
  have k5 : (k + 1) * (R * A - A) = R * (k * A) + R * A - k * A - A := by
    rw [Int.add_mul, Int.one_mul, Int.mul_sub, Int.mul_left_comm]; omega
  have k6 : R * (R * D' - R * C) ≤ R * (4 * ((k + 1) * B)) := by
    rw [k5] at k2
    rw [k4] at k3
    omega
  have := Int.le_of_mul_le_mul_left k6 hR
  omega

end Go.Vam

/- A rounded sum of moments against a rounded sum of powers: all steps. -/
namespace Go.Vam
open Go

structure Sums (R M hi : Int) (s q D τ : Nat → Int) (n : Nat) : Prop where
  q0 : ∀ i, i < n → 0 ≤ q i
  t1 : ∀ i, i < n → R * τ i ≤ R * (hi * q i) + M * q i
  t2 : ∀ i, i < n → R * τ i ≤ R * (M * q i) + M * q i
  t3 : ∀ i, i < n → -(M * q i) - R * (M * q i) ≤ R * τ i
  s1 : s 1 = q 0
  D1 : D 1 = τ 0
  s2 : ∀ k, 1 ≤ k → k < n → R * (s k + q k - s (k + 1)) ≤ s k + q k ∧ -(s k + q k) ≤ R * (s k + q k - s (k + 1))
  D2 : ∀ k, 1 ≤ k → k < n → ∃ V, (V = D k + τ k ∨ V = -(D k + τ k)) ∧ R * D (k + 1) ≤ R * (D k + τ k) + V ∧ R * (D k + τ k) - V ≤ R * D (k + 1)

theorem Sums.up {R M hi : Int} {s q D τ : Nat → Int} {n : Nat} (h : Sums R M hi s q D τ n) (hR : 8 * (n : Int) + 4 ≤ 2 * R) (hM : 0 ≤ M) (h1 : -M ≤ hi) (h2 : hi ≤ M) :
    ∀ k : Nat, 1 ≤ k → k ≤ n → 0 ≤ s k ∧ R * D k ≤ R * (hi * s k) + 4 * ((k : Int) * (M * s k)) ∧ R * D k ≤ R * (M * s k) + 4 * ((k : Int) * (M * s k)) ∧ -(4 * ((k : Int) * (M * s k))) - R * (M * s k) ≤ R * D k := by
  intro k
  induction k with
  | zero => intro h0; omega
  | succ k ih =>
    intro _ hk
    by_cases h0 : k = 0
    · subst h0
      have a0 := h.q0 0 (by omega)
      have a1 := Int.mul_nonneg hM a0
      have b1 := h.t1 0 (by omega)
      have b2 := h.t2 0 (by omega)
      have b3 := h.t3 0 (by omega)
      show 0 ≤ s 1 ∧ R * D 1 ≤ R * (hi * s 1) + 4 * (((0 + 1 : Nat) : Int) * (M * s 1)) ∧ R * D 1 ≤ R * (M * s 1) + 4 * (((0 + 1 : Nat) : Int) * (M * s 1)) ∧ -(4 * (((0 + 1 : Nat) : Int) * (M * s 1))) - R * (M * s 1) ≤ R * D 1
      rw [h.s1, h.D1]
      have e : ((0 + 1 : Nat) : Int) = 1 := rfl
      rw [e, Int.one_mul]
      exact ⟨a0, by omega, by omega, by omega⟩
    · have hk1 : 1 ≤ k := by omega
      obtain ⟨i0, i1, i2, i3⟩ := ih hk1 (by omega)
      have a0 := h.q0 k (by omega)
      have b1 := h.t1 k (by omega)
      have b2 := h.t2 k (by omega)
      have b3 := h.t3 k (by omega)
      obtain ⟨c1, c2⟩ := h.s2 k hk1 (by omega)
      obtain ⟨V, d1, d2, d3⟩ := h.D2 k hk1 (by omega)
      have kk : (1 : Int) ≤ (k : Nat) := by omega
      have kR : 8 * ((k : Nat) : Int) + 4 ≤ 2 * R := by omega
      have e : ((k + 1 : Nat) : Int) = (k : Int) + 1 := by omega
      rw [e]
      have u1 := step_up kk kR hM h1 h2 i0 a0 i1 i3 b1 b3 d1 d2 c1 c2
      have u2 := step_up kk kR hM (show -M ≤ M by omega) (Int.le_refl M) i0 a0 i2 i3 b2 b3 d1 d2 c1 c2
      have u3 := step_up (D := -D k) (τ := -τ k) (D' := -D (k + 1)) (V := V) (R := R) (k := (k : Nat)) (M := M) (hi := M) (s := s k) (q := q k) (s' := s (k + 1)) kk kR hM (show -M ≤ M by omega) (Int.le_refl M) i0 a0
        (by rw [Int.mul_neg]; omega) (by rw [Int.mul_neg]; omega) (by rw [Int.mul_neg]; omega) (by rw [Int.mul_neg]; omega)
        (by rcases d1 with d1 | d1 <;> omega) (by rw [← Int.neg_add, Int.mul_neg, Int.mul_neg]; omega) c1 c2
      refine ⟨?_, u1, u2, by rw [Int.mul_neg] at u3; omega⟩
      -- the powers' sum stays above 0
      apply Int.not_lt.1
      intro hn
      have hY : 0 ≤ s k + q k := by omega
      have hRp : 0 < R := by omega
      have : R * (s k + q k + 1) ≤ R * (s k + q k - s (k + 1)) := Int.mul_le_mul_of_nonneg_left (by omega) (by omega)
      have g : s k + q k + 1 ≤ R * (s k + q k + 1) := by
        have := Int.mul_le_mul_of_nonneg_right (show 1 ≤ R by omega) (show 0 ≤ s k + q k + 1 by omega)
        rwa [Int.one_mul] at this
      omega

end Go.Vam

/- Sums of a few finite floats: finite; the mean of whole numbers with powers. -/
namespace Go.Vam
open Go

def sumR (f : Nat → Nat) : Nat → Nat
  | 0 => 0
  | 1 => f 0
  | k + 2 => fadd .f64 (sumR f (k + 1)) (f (k + 1))
theorem sumR_succ {f : Nat → Nat} {k : Nat} (h : 0 < k) : sumR f (k + 1) = fadd .f64 (sumR f k) (f k) := by
  cases k with
  | zero => omega
  | succ k => rfl

theorem err_two {a b : Int} (h : (a - b).natAbs * 4503599627370496 ≤ b.natAbs) : ∃ V, (V = b ∨ V = -b) ∧ 0 ≤ V ∧ 4503599627370496 * a ≤ 4503599627370496 * b + V ∧ 4503599627370496 * b - V ≤ 4503599627370496 * a := by
  rcases Int.le_total 0 b with hb | hb
  · exact ⟨b, .inl rfl, hb, by omega, by omega⟩
  · exact ⟨-b, .inr rfl, by omega, by omega, by omega⟩

theorem sum_step {K C x y z : Int} (hC : 0 ≤ C) (hK : 0 ≤ K) (hkC : K ≤ 499 * C) (h1 : -(2 * K) ≤ x) (h2 : x ≤ 2 * K) (h3 : -C ≤ y) (h4 : y ≤ C) (h : (z - (x + y)).natAbs * 4503599627370496 ≤ (x + y).natAbs) :
    -(2 * (K + C)) ≤ z ∧ z ≤ 2 * (K + C) := by
  obtain ⟨V, h5, h6, h7, h8⟩ := err_two h
  have hV : V ≤ 2 * K + C := by omega
  constructor <;> omega

theorem sum_fin {f : Nat → Nat} {C : Int} {N : Nat} (hC : 0 ≤ C) (hB : 1024 * C ≤ (sv (infR - 1) : Nat)) (hN : N ≤ 500) (hf : ∀ i, i < N → Fn (f i) ∧ -C ≤ fv (f i) ∧ fv (f i) ≤ C) :
    ∀ k : Nat, 1 ≤ k → k ≤ N → Fn (sumR f k) ∧ -(2 * ((k : Int) * C)) ≤ fv (sumR f k) ∧ fv (sumR f k) ≤ 2 * ((k : Int) * C) := by
  intro k
  induction k with
  | zero => intro h0; omega
  | succ k ih =>
    intro _ hk
    by_cases h0 : k = 0
    · subst h0
      obtain ⟨a, b, c⟩ := hf 0 (by omega)
      have e : ((0 + 1 : Nat) : Int) * C = C := by simp
      refine ⟨a, ?_, ?_⟩
      · rw [e]; show _ ≤ fv (f 0); omega
      · rw [e]; show fv (f 0) ≤ _; omega
    · obtain ⟨i1, i2, i3⟩ := ih (by omega) (by omega)
      obtain ⟨a, b, c⟩ := hf k (by omega)
      have hkC : ((k : Nat) : Int) * C ≤ 499 * C := Int.mul_le_mul_of_nonneg_right (by omega) hC
      have hk0 : 0 ≤ ((k : Nat) : Int) * C := Int.mul_nonneg (by omega) hC
      have e : ((k + 1 : Nat) : Int) * C = k * C + C := by
        have : ((k + 1 : Nat) : Int) = (k : Int) + 1 := by omega
        rw [this, Int.add_mul, Int.one_mul]
      rw [sumR_succ (by omega), e]
      generalize ((k : Nat) : Int) * C = K at i2 i3 hkC hk0
      obtain ⟨g1, g2⟩ := fadd_err i1 a (by generalize sv (infR - 1) = B at hB ⊢; omega)
      exact ⟨g1, sum_step hC hk0 hkC i2 i3 b c g2⟩

theorem sum_pos {f : Nat → Nat} {C : Int} {N : Nat} (hC : 0 ≤ C) (hB : 1024 * C ≤ (sv (infR - 1) : Nat)) (hN : N ≤ 500) (hf : ∀ i, i < N → Fn (f i) ∧ 0 ≤ fv (f i) ∧ fv (f i) ≤ C) :
    ∀ k : Nat, 1 ≤ k → k ≤ N → 0 ≤ fv (sumR f k) ∧ ((∃ i, i < k ∧ 0 < fv (f i)) → 0 < fv (sumR f k)) := by
  have hf' : ∀ i, i < N → Fn (f i) ∧ -C ≤ fv (f i) ∧ fv (f i) ≤ C := fun i hi => by
    obtain ⟨a, b, c⟩ := hf i hi
    exact ⟨a, by omega, c⟩
  intro k
  induction k with
  | zero => intro h0; omega
  | succ k ih =>
    intro _ hk
    by_cases h0 : k = 0
    · subst h0
      obtain ⟨a, b, c⟩ := hf 0 (by omega)
      refine ⟨b, fun ⟨i, hi, hp⟩ => ?_⟩
      have : i = 0 := by omega
      subst this; exact hp
    · obtain ⟨j1, j2⟩ := ih (by omega) (by omega)
      obtain ⟨i1, i2, i3⟩ := sum_fin hC hB hN hf' k (by omega) (by omega)
      obtain ⟨a, b, c⟩ := hf k (by omega)
      have hkC : ((k : Nat) : Int) * C ≤ 499 * C := Int.mul_le_mul_of_nonneg_right (by omega) hC
      rw [sumR_succ (by omega)]
      generalize ((k : Nat) : Int) * C = K at i2 i3 hkC
      obtain ⟨g1, g2⟩ := fadd_err i1 a (by generalize sv (infR - 1) = B at hB ⊢; omega)
      obtain ⟨V, h5, h6, h7, h8⟩ := err_two g2
      refine ⟨by omega, fun ⟨i, hi, hp⟩ => ?_⟩
      by_cases hik : i = k
      · subst hik; omega
      · have := j2 ⟨i, by omega, hp⟩
        omega

theorem near_fn {d : Int} (hd : d.natAbs ≤ 9007199254740992) : Fn (FloatKind.f64.nearest d) ∧ fv (FloatKind.f64.nearest d) = d * (oneU : Nat) := by
  obtain ⟨w, h1, h2, h3⟩ := nearest_int d hd
  obtain ⟨g1, g2⟩ := word_fn (b := decide (d < 0)) h3
  rw [← h1] at g1 g2
  refine ⟨g1, ?_⟩
  rw [g2]
  unfold sw
  rw [h2]
  by_cases hn : d < 0
  · rw [decide_eq_true hn, if_pos rfl, Int.natCast_mul, ← Int.neg_mul]
    congr 1; omega
  · rw [decide_eq_false hn, if_neg (by simp), Int.natCast_mul]
    congr 1; omega

/-- A product with a whole number. -/
theorem mul_small {x : Nat} {d M C : Int} (hx : Fn x) (h0 : 0 ≤ fv x) (h1 : fv x ≤ C) (hM : M ≤ 65536) (d1 : -M ≤ d) (d2 : d ≤ M) (hB : 65536 * C ≤ (sv (infR - 1) : Nat)) :
    Fn (fmul .f64 x (FloatKind.f64.nearest d)) ∧ ∃ V, 0 ≤ V ∧ V ≤ M * fv x ∧ (V = fv x * d ∨ V = -(fv x * d)) ∧ 4503599627370496 * fv (fmul .f64 x (FloatKind.f64.nearest d)) ≤ 4503599627370496 * (fv x * d) + V ∧ 4503599627370496 * (fv x * d) - V ≤ 4503599627370496 * fv (fmul .f64 x (FloatKind.f64.nearest d)) := by
  obtain ⟨n1, n2⟩ := near_fn (d := d) (by omega)
  have b1 : fv x * d ≤ fv x * M := Int.mul_le_mul_of_nonneg_left d2 h0
  have b2 : fv x * -M ≤ fv x * d := Int.mul_le_mul_of_nonneg_left d1 h0
  have b3 : fv x * M ≤ fv x * 65536 := Int.mul_le_mul_of_nonneg_left hM h0
  rw [Int.mul_neg] at b2
  obtain ⟨g1, g2⟩ := fmul_err hx n1 n2 (by generalize sv (infR - 1) = B at hB ⊢; omega)
  obtain ⟨V, h5, h6, h7, h8⟩ := err_two g2
  refine ⟨g1, V, h6, ?_, h5, h7, h8⟩
  rw [Int.mul_comm M]; omega

end Go.Vam

/- The mean of whole numbers with powers lies between the least and the greatest, but for a small part. -/
namespace Go.Vam
open Go

def momR (f : Nat → Nat) (d : Nat → Int) (i : Nat) : Nat := fmul .f64 (f i) (FloatKind.f64.nearest (d i))

/-- Powers and whole numbers: few, none great. -/
structure Few (f : Nat → Nat) (d : Nat → Int) (N : Nat) (M C lo hi : Int) : Prop where
  n1 : 1 ≤ N
  n2 : N ≤ 500
  c0 : 0 ≤ C
  c1 : 268435456 * C ≤ (sv (infR - 1) : Nat)
  m0 : 0 ≤ M
  m1 : M ≤ 65536
  f1 : ∀ i, i < N → Fn (f i) ∧ 0 ≤ fv (f i) ∧ fv (f i) ≤ C
  d1 : ∀ i, i < N → lo ≤ d i ∧ d i ≤ hi
  l1 : -M ≤ lo ∧ lo ≤ M
  h1 : -M ≤ hi ∧ hi ≤ M

theorem Few.mom {f : Nat → Nat} {d : Nat → Int} {N : Nat} {M C lo hi : Int} (h : Few f d N M C lo hi) (i : Nat) (hi' : i < N) :
    Fn (momR f d i) ∧ ∃ V, 0 ≤ V ∧ V ≤ M * fv (f i) ∧ (V = fv (f i) * d i ∨ V = -(fv (f i) * d i)) ∧ 4503599627370496 * fv (momR f d i) ≤ 4503599627370496 * (fv (f i) * d i) + V ∧ 4503599627370496 * (fv (f i) * d i) - V ≤ 4503599627370496 * fv (momR f d i) := by
  obtain ⟨a, b, c⟩ := h.f1 i hi'
  have hd := h.d1 i hi'
  have hl := h.l1
  have hh := h.h1
  have hc := h.c1
  have hc0 := h.c0
  exact mul_small a b c h.m1 (by omega) (by omega) (by generalize sv (infR - 1) = B at hc ⊢; omega)

theorem Few.momC {f : Nat → Nat} {d : Nat → Int} {N : Nat} {M C lo hi : Int} (h : Few f d N M C lo hi) (i : Nat) (hi' : i < N) :
    Fn (momR f d i) ∧ -(131072 * C) ≤ fv (momR f d i) ∧ fv (momR f d i) ≤ 131072 * C := by
  obtain ⟨a, b, c⟩ := h.f1 i hi'
  obtain ⟨g1, V, g2, g3, g4, g5, g6⟩ := h.mom i hi'
  have hM : M * fv (f i) ≤ 65536 * C := Int.le_trans (Int.mul_le_mul_of_nonneg_right h.m1 b) (Int.mul_le_mul_of_nonneg_left c (by omega))
  have hc0 := h.c0
  refine ⟨g1, ?_, ?_⟩ <;> rcases g4 with g4 | g4 <;> omega

theorem Few.fin {f : Nat → Nat} {d : Nat → Int} {N : Nat} {M C lo hi : Int} (h : Few f d N M C lo hi) {k : Nat} (h1 : 1 ≤ k) (h2 : k ≤ N) :
    (Fn (sumR f k) ∧ 0 ≤ fv (sumR f k) ∧ fv (sumR f k) ≤ 2 * ((k : Int) * C)) ∧ Fn (sumR (momR f d) k) ∧ -(2 * ((k : Int) * (131072 * C))) ≤ fv (sumR (momR f d) k) ∧ fv (sumR (momR f d) k) ≤ 2 * ((k : Int) * (131072 * C)) := by
  have hc := h.c1
  have hc0 := h.c0
  have hf' : ∀ i, i < N → Fn (f i) ∧ -C ≤ fv (f i) ∧ fv (f i) ≤ C := fun i hi => by
    obtain ⟨a, b, c⟩ := h.f1 i hi
    exact ⟨a, by omega, c⟩
  have e1 : 1024 * C ≤ (sv (infR - 1) : Nat) := by generalize sv (infR - 1) = B at hc ⊢; omega
  have e2 : 1024 * (131072 * C) ≤ (sv (infR - 1) : Nat) := by generalize sv (infR - 1) = B at hc ⊢; omega
  obtain ⟨a, b, c⟩ := sum_fin hc0 e1 h.n2 hf' k h1 h2
  obtain ⟨p, _⟩ := sum_pos hc0 e1 h.n2 h.f1 k h1 h2
  obtain ⟨a', b', c'⟩ := sum_fin (f := momR f d) (C := 131072 * C) (by omega) e2 h.n2 (fun i hi' => h.momC i hi') k h1 h2
  exact ⟨⟨a, p, c⟩, a', b', c'⟩

theorem Few.step {f : Nat → Nat} {d : Nat → Int} {N : Nat} {M C lo hi : Int} (h : Few f d N M C lo hi) {k : Nat} (h1 : 1 ≤ k) (h2 : k < N) :
    (4503599627370496 * (fv (sumR f k) + fv (f k) - fv (sumR f (k + 1))) ≤ fv (sumR f k) + fv (f k) ∧ -(fv (sumR f k) + fv (f k)) ≤ 4503599627370496 * (fv (sumR f k) + fv (f k) - fv (sumR f (k + 1)))) ∧
    ∃ V, (V = fv (sumR (momR f d) k) + fv (momR f d k) ∨ V = -(fv (sumR (momR f d) k) + fv (momR f d k))) ∧ 4503599627370496 * fv (sumR (momR f d) (k + 1)) ≤ 4503599627370496 * (fv (sumR (momR f d) k) + fv (momR f d k)) + V ∧ 4503599627370496 * (fv (sumR (momR f d) k) + fv (momR f d k)) - V ≤ 4503599627370496 * fv (sumR (momR f d) (k + 1)) := by
  obtain ⟨⟨a1, a2, a3⟩, b1, b2, b3⟩ := h.fin h1 (Nat.le_of_lt h2)
  obtain ⟨p1, p2, p3⟩ := h.f1 k h2
  obtain ⟨m1, m2, m3⟩ := h.momC k h2
  have hc := h.c1
  have hc0 := h.c0
  have hn := h.n2
  have hkC : ((k : Nat) : Int) * C ≤ 499 * C := Int.mul_le_mul_of_nonneg_right (by omega) hc0
  have hkC2 : ((k : Nat) : Int) * (131072 * C) ≤ 499 * (131072 * C) := Int.mul_le_mul_of_nonneg_right (by omega) (by omega)
  rw [sumR_succ (by omega), sumR_succ (by omega)]
  generalize ((k : Nat) : Int) * (131072 * C) = K2 at b2 b3 hkC2
  generalize ((k : Nat) : Int) * C = K at a3 hkC
  obtain ⟨_, g2⟩ := fadd_err a1 p1 (by generalize sv (infR - 1) = B at hc ⊢; omega)
  obtain ⟨V, v1, v2, v3, v4⟩ := err_two g2
  obtain ⟨_, g4⟩ := fadd_err b1 m1 (by generalize sv (infR - 1) = B at hc ⊢; omega)
  obtain ⟨W, w1, w2, w3, w4⟩ := err_two g4
  refine ⟨⟨by omega, by omega⟩, W, w1, w3, w4⟩

theorem Few.up {f : Nat → Nat} {d : Nat → Int} {N : Nat} {M C lo hi : Int} (h : Few f d N M C lo hi) :
    Sums 4503599627370496 M hi (fun k => fv (sumR f k)) (fun i => fv (f i)) (fun k => fv (sumR (momR f d) k)) (fun i => fv (momR f d i)) N where
  q0 := fun i hi' => (h.f1 i hi').2.1
  t1 := fun i hi' => by
    obtain ⟨_, V, _, g3, _, g5, _⟩ := h.mom i hi'
    have := Int.mul_le_mul_of_nonneg_left (h.d1 i hi').2 (h.f1 i hi').2.1
    rw [Int.mul_comm hi]; omega
  t2 := fun i hi' => by
    obtain ⟨_, V, _, g3, _, g5, _⟩ := h.mom i hi'
    have := Int.mul_le_mul_of_nonneg_left (Int.le_trans (h.d1 i hi').2 h.h1.2) (h.f1 i hi').2.1
    have e := Int.mul_comm M (fv (f i))
    omega
  t3 := fun i hi' => by
    obtain ⟨_, V, _, g3, _, g5, g6⟩ := h.mom i hi'
    have := Int.mul_le_mul_of_nonneg_left (Int.le_trans h.l1.1 (h.d1 i hi').1) (h.f1 i hi').2.1
    rw [Int.mul_neg] at this
    have e := Int.mul_comm M (fv (f i))
    omega
  s1 := rfl
  D1 := rfl
  s2 := fun k h1 h2 => (h.step h1 h2).1
  D2 := fun k h1 h2 => (h.step h1 h2).2

theorem Few.down {f : Nat → Nat} {d : Nat → Int} {N : Nat} {M C lo hi : Int} (h : Few f d N M C lo hi) :
    Sums 4503599627370496 M (-lo) (fun k => fv (sumR f k)) (fun i => fv (f i)) (fun k => -fv (sumR (momR f d) k)) (fun i => -fv (momR f d i)) N where
  q0 := fun i hi' => (h.f1 i hi').2.1
  t1 := fun i hi' => by
    obtain ⟨_, V, _, g3, _, g5, g6⟩ := h.mom i hi'
    have := Int.mul_le_mul_of_nonneg_left (h.d1 i hi').1 (h.f1 i hi').2.1
    rw [Int.neg_mul, Int.mul_neg, Int.mul_neg, Int.mul_comm lo]; omega
  t2 := fun i hi' => by
    obtain ⟨_, V, _, g3, _, g5, g6⟩ := h.mom i hi'
    have := Int.mul_le_mul_of_nonneg_left (Int.le_trans h.l1.1 (h.d1 i hi').1) (h.f1 i hi').2.1
    rw [Int.mul_neg] at this
    have e := Int.mul_comm M (fv (f i))
    rw [Int.mul_neg]; omega
  t3 := fun i hi' => by
    obtain ⟨_, V, _, g3, _, g5, _⟩ := h.mom i hi'
    have := Int.mul_le_mul_of_nonneg_left (Int.le_trans (h.d1 i hi').2 h.h1.2) (h.f1 i hi').2.1
    have e := Int.mul_comm M (fv (f i))
    rw [Int.mul_neg]; omega
  s1 := rfl
  D1 := rfl
  s2 := fun k h1 h2 => (h.step h1 h2).1
  D2 := fun k h1 h2 => by
    obtain ⟨_, V, v1, v2, v3⟩ := h.step h1 h2
    refine ⟨V, by rcases v1 with v1 | v1 <;> omega, ?_, ?_⟩
    · show 4503599627370496 * (-fv (sumR (momR f d) (k + 1))) ≤ 4503599627370496 * (-fv (sumR (momR f d) k) + -fv (momR f d k)) + V
      omega
    · show 4503599627370496 * (-fv (sumR (momR f d) k) + -fv (momR f d k)) - V ≤ 4503599627370496 * (-fv (sumR (momR f d) (k + 1)))
      omega

theorem quot_up {N M S D U X hi : Int} (hS : 0 < S) (hN : N ≤ 500) (hM0 : 0 ≤ M) (hM : M ≤ 65536) (hU : 4503599627370496 ≤ U)
    (h1 : 4503599627370496 * D ≤ 4503599627370496 * (hi * S) + 4 * (N * (M * S))) {W : Int} (hW : W ≤ 2 * (M * S)) (h2 : 4503599627370496 * (X * S) ≤ 4503599627370496 * (D * U) + W * U + S * 4503599627370496) :
    4503599627370496 * X ≤ 4503599627370496 * (hi * U) + 134217728 * U := by
  have a1 : N * (M * S) ≤ 500 * (M * S) := Int.mul_le_mul_of_nonneg_right hN (Int.mul_nonneg hM0 (by omega))
  have a2 : M * S ≤ 65536 * S := Int.mul_le_mul_of_nonneg_right hM (by omega)
  have a3 : 4503599627370496 * D + W ≤ 4503599627370496 * (hi * S) + 131203072 * S := by omega
  have a4 := Int.mul_le_mul_of_nonneg_right a3 (show 0 ≤ U by omega)
  have a5 : S * 4503599627370496 ≤ S * U := Int.mul_le_mul_of_nonneg_left hU (by omega)
  rw [Int.add_mul, Int.add_mul, Int.mul_assoc, Int.mul_assoc, Int.mul_assoc] at a4
  have e1 : hi * (S * U) = S * (hi * U) := Int.mul_left_comm _ _ _
  have e5 : 131203072 * S * U = 131203072 * (S * U) := Int.mul_assoc _ _ _
  have e2 : X * S = S * X := Int.mul_comm _ _
  have e3 : 4503599627370496 * (S * X) = S * (4503599627370496 * X) := Int.mul_left_comm _ _ _
  have e4 : S * (4503599627370496 * (hi * U) + 134217728 * U) = 4503599627370496 * (S * (hi * U)) + 134217728 * (S * U) := by
    rw [Int.mul_add, Int.mul_left_comm S 4503599627370496, Int.mul_left_comm S 134217728]
  have a6 : 0 ≤ S * U := Int.mul_nonneg (by omega) (by omega)
  rw [e1, e5] at a4
  rw [e2] at h2
  apply Int.le_of_mul_le_mul_left _ hS
  rw [← e3, e4]
  omega

/-- The mean: finite, and within its numbers but for a small part. -/
theorem Few.mean {f : Nat → Nat} {d : Nat → Int} {N : Nat} {M C lo hi : Int} (h : Few f d N M C lo hi) (hp : 0 < fv (sumR f N)) :
    Fn (fdiv .f64 (sumR (momR f d) N) (sumR f N)) ∧ 4503599627370496 * fv (fdiv .f64 (sumR (momR f d) N) (sumR f N)) ≤ 4503599627370496 * (hi * (oneU : Nat)) + 134217728 * ((oneU : Nat) : Int) ∧
      4503599627370496 * (lo * (oneU : Nat)) - 134217728 * ((oneU : Nat) : Int) ≤ 4503599627370496 * fv (fdiv .f64 (sumR (momR f d) N) (sumR f N)) := by
  have hn2 := h.n2
  obtain ⟨u0, u1, u2, u3⟩ := h.up.up (by omega) h.m0 h.h1.1 h.h1.2 N h.n1 (Nat.le_refl _)
  obtain ⟨_, v1, _, _⟩ := h.down.up (by omega) h.m0 (by have := h.l1; omega) (by have := h.l1; omega) N h.n1 (Nat.le_refl _)
  obtain ⟨⟨a1, _, _⟩, b1, _, _⟩ := h.fin h.n1 (Nat.le_refl _)
  replace u1 : 4503599627370496 * fv (sumR (momR f d) N) ≤ 4503599627370496 * (hi * fv (sumR f N)) + 4 * ((N : Int) * (M * fv (sumR f N))) := u1
  replace u2 : 4503599627370496 * fv (sumR (momR f d) N) ≤ 4503599627370496 * (M * fv (sumR f N)) + 4 * ((N : Int) * (M * fv (sumR f N))) := u2
  replace u3 : -(4 * ((N : Int) * (M * fv (sumR f N)))) - 4503599627370496 * (M * fv (sumR f N)) ≤ 4503599627370496 * fv (sumR (momR f d) N) := u3
  replace v1 : 4503599627370496 * -fv (sumR (momR f d) N) ≤ 4503599627370496 * (-lo * fv (sumR f N)) + 4 * ((N : Int) * (M * fv (sumR f N))) := v1
  have hU : (4503599627370496 : Int) ≤ ((oneU : Nat) : Int) := by
    have h1 : twoP 52 ≤ twoP 1074 := twoP_le (by decide)
    have h2 : twoP 52 = 4503599627370496 := rfl
    have h3 : oneU = twoP 1074 := rfl
    omega
  have hBU : 268435456 * oneU ≤ sv (infR - 1) := by
    have h1 : sv (1103 * 4503599627370496 - 4503599627370496 + 4503599627370496) = twoP (52 + 1102) := sv_one (q := 1102)
    have h2 : sv (1103 * 4503599627370496 - 4503599627370496 + 4503599627370496) ≤ sv (infR - 1) := sv_le (by decide)
    have h3 : (268435456 : Nat) = twoP 28 := rfl
    have h4 : twoP 28 * oneU ≤ twoP (52 + 1102) := by
      rw [show oneU = twoP 1074 from rfl, twoP_mul]; exact twoP_le (by decide)
    rw [h3]; rw [h1] at h2; exact Nat.le_trans h4 h2
  have q1 : (N : Int) * (M * fv (sumR f N)) ≤ 500 * (M * fv (sumR f N)) := Int.mul_le_mul_of_nonneg_right (by omega) (Int.mul_nonneg h.m0 (by omega))
  have q2 : 0 ≤ M * fv (sumR f N) := Int.mul_nonneg h.m0 (by omega)
  have hD : -(2 * (M * fv (sumR f N))) ≤ fv (sumR (momR f d) N) ∧ fv (sumR (momR f d) N) ≤ 2 * (M * fv (sumR f N)) := by constructor <;> omega
  have q3 : M * fv (sumR f N) ≤ 65536 * fv (sumR f N) := Int.mul_le_mul_of_nonneg_right h.m1 (by omega)
  obtain ⟨g1, g2⟩ := fdiv_err b1 a1 hp (by
    have hDn : (fv (sumR (momR f d) N)).natAbs ≤ 268435456 * (fv (sumR f N)).natAbs := by omega
    calc (fv (sumR (momR f d) N)).natAbs * oneU ≤ 268435456 * (fv (sumR f N)).natAbs * oneU := Nat.mul_le_mul_right _ hDn
      _ = 268435456 * oneU * (fv (sumR f N)).natAbs := by rw [Nat.mul_assoc, Nat.mul_assoc, Nat.mul_comm oneU]
      _ ≤ _ := Nat.mul_le_mul_right _ hBU)
  refine ⟨g1, ?_⟩
  have hS := Int.natAbs_of_nonneg (Int.le_of_lt hp)
  generalize fv (sumR f N) = S at *
  generalize fv (sumR (momR f d) N) = D at *
  generalize fv (fdiv .f64 (sumR (momR f d) N) (sumR f N)) = X at *
  have g3 : ∀ W : Int, W = (D.natAbs : Nat) → ((X * S - D * (oneU : Nat)).natAbs : Int) * 4503599627370496 ≤ W * (oneU : Nat) + S * 4503599627370496 := by
    intro W hW
    have := Int.ofNat_le.2 g2
    rw [Int.natCast_mul, Int.natCast_add, Int.natCast_mul, Int.natCast_mul, hS] at this
    rw [hW]; exact this
  have g4 := g3 _ rfl
  have hW : ((D.natAbs : Nat) : Int) ≤ 2 * (M * S) := by omega
  generalize ((D.natAbs : Nat) : Int) = W at g4 hW
  have n5 : (N : Int) ≤ 500 := by omega
  generalize (N : Int) = N' at *
  generalize ((oneU : Nat) : Int) = U at *
  constructor
  · refine quot_up hp n5 h.m0 h.m1 hU u1 hW ?_
    generalize D * U = DU at *
    generalize X * S = XS at *
    generalize W * U = WU at *
    omega
  · have := quot_up (X := -X) (D := -D) (hi := -lo) hp n5 h.m0 h.m1 hU v1 hW (by
      rw [Int.neg_mul, Int.neg_mul]
      generalize D * U = DU at *
      generalize X * S = XS at *
      generalize W * U = WU at *
      omega)
    rw [Int.neg_mul] at this
    omega

end Go.Vam

/- A mean laid beside a whole number; the bounds, each less or more a small part; round a circle. -/
namespace Go.Vam
open Go

theorem oneU_big : (4503599627370496 : Int) ≤ ((oneU : Nat) : Int) := by
  have h1 : twoP 52 ≤ twoP 1074 := twoP_le (by decide)
  have h2 : twoP 52 = 4503599627370496 := rfl
  have h3 : oneU = twoP 1074 := rfl
  omega

theorem many_oneU : 268435456 * oneU ≤ sv (infR - 1) := by
  have h1 : sv (1103 * 4503599627370496 - 4503599627370496 + 4503599627370496) = twoP (52 + 1102) := sv_one (q := 1102)
  have h2 : sv (1103 * 4503599627370496 - 4503599627370496 + 4503599627370496) ≤ sv (infR - 1) := sv_le (by decide)
  have h3 : (268435456 : Nat) = twoP 28 := rfl
  have h4 : twoP 28 * oneU ≤ twoP (52 + 1102) := by
    rw [show oneU = twoP 1074 from rfl, twoP_mul]; exact twoP_le (by decide)
  rw [h3]; rw [h1] at h2; exact Nat.le_trans h4 h2

theorem bigI : (268435456 : Int) * ((oneU : Nat) : Int) ≤ (sv (infR - 1) : Nat) := by
  have := Int.ofNat_le.2 many_oneU
  rwa [Int.natCast_mul] at this

theorem Fn.neg {x : Nat} (hx : Fn x) : ∃ y, Fn y ∧ fv y = -fv x ∧ ∀ z, Fn z → fsub .f64 z x = fadd .f64 z y := by
  obtain ⟨g1, g2⟩ := word_fn (b := !decide (9223372036854775808 ≤ x)) hx.2
  refine ⟨_, g1, by rw [g2, sw_not]; rfl, fun z hz => ?_⟩
  have := sub_word hz.2 hx.2 (decide (9223372036854775808 ≤ z)) (decide (9223372036854775808 ≤ x))
  rw [← hz.word, ← hx.word] at this
  exact this

theorem fsub_err {x y : Nat} (hx : Fn x) (hy : Fn y) (hb : (fv x - fv y).natAbs ≤ sv (infR - 1)) :
    Fn (fsub .f64 x y) ∧ (fv (fsub .f64 x y) - (fv x - fv y)).natAbs * 4503599627370496 ≤ (fv x - fv y).natAbs := by
  obtain ⟨z, h1, h2, h3⟩ := hy.neg
  have e : fv x + fv z = fv x - fv y := by rw [h2]; omega
  rw [h3 x hx, ← e]
  exact fadd_err hx h1 (by rw [e]; exact hb)

/-- A sum is no greater than a float that the number isn't greater than. -/
theorem fadd_top {x y w : Nat} (hx : Fn x) (hy : Fn y) (hw : w < infR) (h : (fv x + fv y).natAbs ≤ sv w) : fv (fadd .f64 x y) ≤ (sv w : Nat) := by
  obtain ⟨z, h1, h2⟩ := add_rn hx.2 hy.2 (decide (9223372036854775808 ≤ x)) (decide (9223372036854775808 ≤ y))
  rw [← hx.word, ← hy.word] at h1
  have e : sw (decide (9223372036854775808 ≤ x)) (x % 9223372036854775808) + sw (decide (9223372036854775808 ≤ y)) (y % 9223372036854775808) = fv x + fv y := rfl
  rw [e] at h1 h2
  have hz : z ≤ w := h2.le w (by rw [Nat.mul_one]; exact h)
  have hs := sv_le hz
  rw [h1, (word_fn (Nat.lt_of_le_of_lt hz hw)).2]
  unfold sw
  generalize sv z = a at *
  generalize sv w = b at *
  split <;> omega

theorem near_sv {k : Int} (h0 : 0 ≤ k) (hk : k ≤ 65536) : ∃ w, w < infR ∧ ((sv w : Nat) : Int) = k * (oneU : Nat) := by
  obtain ⟨w, _, h2, h3⟩ := nearest_int k (by omega)
  refine ⟨w, h3, ?_⟩
  rw [h2, Int.natCast_mul]
  congr 1; omega

/-- A thousandth of a thousandth. -/
def tinyE : Nat := 4517329193108106637
theorem tinyE_fn : Fn tinyE ∧ ((oneU : Nat) : Int) ≤ 1048576 * fv tinyE ∧ fv tinyE ≤ ((oneU : Nat) : Int) := by
  have h1 : sv (1002 * 4503599627370496 + 4503599627370496) = twoP (52 + 1002) := sv_one (q := 1002)
  have h2 : sv (1002 * 4503599627370496 + 4503599627370496) ≤ sv tinyE := sv_le (by decide)
  have h3 : sv (1022 * 4503599627370496 + 4503599627370496) = twoP (52 + 1022) := sv_one (q := 1022)
  have h4 : sv tinyE ≤ sv (1022 * 4503599627370496 + 4503599627370496) := sv_le (by decide)
  have h5 : twoP 20 * twoP (52 + 1002) = oneU := by rw [show oneU = twoP 1074 from rfl, twoP_mul]
  have h6 : twoP (52 + 1022) = oneU := rfl
  have h7 : twoP 20 = 1048576 := rfl
  rw [h1] at h2
  rw [h3, h6] at h4
  rw [h7] at h5
  have e : fv tinyE = (sv tinyE : Nat) := rfl
  refine ⟨⟨by decide, by decide⟩, ?_, ?_⟩
  · rw [e]
    generalize twoP (52 + 1002) = a at *
    generalize sv tinyE = b at *
    omega
  · rw [e]; omega

theorem less_e {k : Int} (h0 : 0 ≤ k) (hk : k ≤ 65536) : Fn (fsub .f64 (FloatKind.f64.nearest k) tinyE) ∧ 4503599627370496 * fv (fsub .f64 (FloatKind.f64.nearest k) tinyE) ≤ 4503599627370496 * (k * (oneU : Nat)) - 2147483648 * ((oneU : Nat) : Int) := by
  obtain ⟨n1, n2⟩ := near_fn (d := k) (by omega)
  obtain ⟨t1, t2, t3⟩ := tinyE_fn
  have hB := bigI
  have hU := oneU_big
  have a1 : 0 ≤ k * ((oneU : Nat) : Int) := Int.mul_nonneg h0 (by omega)
  have a2 : k * ((oneU : Nat) : Int) ≤ 65536 * ((oneU : Nat) : Int) := Int.mul_le_mul_of_nonneg_right hk (by omega)
  have key := fsub_err n1 t1
  rw [n2] at key
  generalize k * ((oneU : Nat) : Int) = K at *
  generalize ((oneU : Nat) : Int) = U at *
  generalize fv tinyE = e at *
  obtain ⟨g1, g2⟩ := key (by generalize sv (infR - 1) = B at *; omega)
  obtain ⟨V, v1, v2, v3, v4⟩ := err_two g2
  exact ⟨g1, by omega⟩

theorem more_e {k : Int} (h0 : 0 ≤ k) (hk : k ≤ 65536) : Fn (fadd .f64 (FloatKind.f64.nearest k) tinyE) ∧ 4503599627370496 * (k * (oneU : Nat)) + 2147483648 * ((oneU : Nat) : Int) ≤ 4503599627370496 * fv (fadd .f64 (FloatKind.f64.nearest k) tinyE) := by
  obtain ⟨n1, n2⟩ := near_fn (d := k) (by omega)
  obtain ⟨t1, t2, t3⟩ := tinyE_fn
  have hB := bigI
  have hU := oneU_big
  have a1 : 0 ≤ k * ((oneU : Nat) : Int) := Int.mul_nonneg h0 (by omega)
  have a2 : k * ((oneU : Nat) : Int) ≤ 65536 * ((oneU : Nat) : Int) := Int.mul_le_mul_of_nonneg_right hk (by omega)
  have key := fadd_err n1 t1
  rw [n2] at key
  generalize k * ((oneU : Nat) : Int) = K at *
  generalize ((oneU : Nat) : Int) = U at *
  generalize fv tinyE = e at *
  obtain ⟨g1, g2⟩ := key (by generalize sv (infR - 1) = B at *; omega)
  obtain ⟨V, v1, v2, v3, v4⟩ := err_two g2
  exact ⟨g1, by omega⟩

/-- The mean beside a whole number. -/
theorem Few.beside {f : Nat → Nat} {d : Nat → Int} {N : Nat} {M C lo hi b : Int} (h : Few f d N M C lo hi) (hp : 0 < fv (sumR f N)) (b0 : 0 ≤ b) (b1 : b ≤ 65536) :
    Fn (fadd .f64 (FloatKind.f64.nearest b) (fdiv .f64 (sumR (momR f d) N) (sumR f N))) ∧
      4503599627370496 * fv (fadd .f64 (FloatKind.f64.nearest b) (fdiv .f64 (sumR (momR f d) N) (sumR f N))) ≤ 4503599627370496 * ((b + hi) * (oneU : Nat)) + 268435456 * ((oneU : Nat) : Int) ∧
      4503599627370496 * ((b + lo) * (oneU : Nat)) - 268435456 * ((oneU : Nat) : Int) ≤ 4503599627370496 * fv (fadd .f64 (FloatKind.f64.nearest b) (fdiv .f64 (sumR (momR f d) N) (sumR f N))) := by
  obtain ⟨x1, x2, x3⟩ := h.mean hp
  obtain ⟨n1, n2⟩ := near_fn (d := b) (by omega)
  have hB := bigI
  have hU := oneU_big
  have hm := h.m1
  have hh := h.h1
  have hl := h.l1
  have a1 : 0 ≤ b * ((oneU : Nat) : Int) := Int.mul_nonneg b0 (by omega)
  have a2 : b * ((oneU : Nat) : Int) ≤ 65536 * ((oneU : Nat) : Int) := Int.mul_le_mul_of_nonneg_right b1 (by omega)
  have a3 : hi * ((oneU : Nat) : Int) ≤ 65536 * ((oneU : Nat) : Int) := Int.mul_le_mul_of_nonneg_right (by omega) (by omega)
  have a4 : -65536 * ((oneU : Nat) : Int) ≤ lo * ((oneU : Nat) : Int) := Int.mul_le_mul_of_nonneg_right (by omega) (by omega)
  have key := fadd_err n1 x1
  rw [n2] at key
  rw [Int.add_mul, Int.add_mul]
  generalize b * ((oneU : Nat) : Int) = BU at *
  generalize hi * ((oneU : Nat) : Int) = HU at *
  generalize lo * ((oneU : Nat) : Int) = LU at *
  generalize ((oneU : Nat) : Int) = U at *
  generalize fv (fdiv .f64 (sumR (momR f d) N) (sumR f N)) = X at *
  obtain ⟨g1, g2⟩ := key (by generalize sv (infR - 1) = B at *; omega)
  obtain ⟨V, v1, v2, v3, v4⟩ := err_two g2
  exact ⟨g1, by omega, by omega⟩

/-- Brought round from below. -/
theorem round_up {y : Nat} {n h : Int} (hy : Fn y) (hn : 1 ≤ n) (hn2 : n ≤ 65536) (hh : 2 * h ≤ n) (y0 : fv y < 0) (y1 : -(4503599627370496 * (h * (oneU : Nat))) - 268435456 * ((oneU : Nat) : Int) ≤ 4503599627370496 * fv y) :
    Fn (fadd .f64 y (FloatKind.f64.nearest n)) ∧ 0 ≤ fv (fadd .f64 y (FloatKind.f64.nearest n)) ∧ fv (fadd .f64 y (FloatKind.f64.nearest n)) ≤ n * (oneU : Nat) ∧
      4503599627370496 * (fv y + n * (oneU : Nat)) - 65536 * ((oneU : Nat) : Int) ≤ 4503599627370496 * fv (fadd .f64 y (FloatKind.f64.nearest n)) := by
  obtain ⟨n1, n2⟩ := near_fn (d := n) (by omega)
  obtain ⟨w, w1, w2⟩ := near_sv (k := n) (by omega) hn2
  have hB := bigI
  have hU := oneU_big
  have a1 : ((oneU : Nat) : Int) ≤ n * ((oneU : Nat) : Int) := by
    have := Int.mul_le_mul_of_nonneg_right hn (show 0 ≤ ((oneU : Nat) : Int) by omega)
    rwa [Int.one_mul] at this
  have a2 : n * ((oneU : Nat) : Int) ≤ 65536 * ((oneU : Nat) : Int) := Int.mul_le_mul_of_nonneg_right hn2 (by omega)
  have a3 : 2 * (h * ((oneU : Nat) : Int)) ≤ n * ((oneU : Nat) : Int) := by
    have := Int.mul_le_mul_of_nonneg_right hh (show 0 ≤ ((oneU : Nat) : Int) by omega)
    rwa [Int.mul_assoc] at this
  have key := fadd_err hy n1
  have top := fadd_top (w := w) hy n1 w1
  rw [n2] at key top
  rw [w2] at top
  generalize h * ((oneU : Nat) : Int) = HU at *
  generalize n * ((oneU : Nat) : Int) = NU at *
  generalize ((oneU : Nat) : Int) = U at *
  obtain ⟨g1, g2⟩ := key (by generalize sv (infR - 1) = B at *; omega)
  have g3 := top (by generalize sv w = B at *; omega)
  obtain ⟨V, v1, v2, v3, v4⟩ := err_two g2
  exact ⟨g1, by omega, g3, by omega⟩

/-- Brought round from above. -/
theorem round_down {y : Nat} {n h : Int} (hy : Fn y) (hn : 1 ≤ n) (hn2 : n ≤ 65536) (hh : 2 * h ≤ n) (y0 : n * (oneU : Nat) ≤ fv y) (y1 : 4503599627370496 * fv y ≤ 4503599627370496 * ((n - 1 + h) * (oneU : Nat)) + 268435456 * ((oneU : Nat) : Int)) :
    Fn (fsub .f64 y (FloatKind.f64.nearest n)) ∧ 0 ≤ fv (fsub .f64 y (FloatKind.f64.nearest n)) ∧ fv (fsub .f64 y (FloatKind.f64.nearest n)) ≤ n * (oneU : Nat) := by
  obtain ⟨n1, n2⟩ := near_fn (d := n) (by omega)
  have hB := bigI
  have hU := oneU_big
  have a1 : ((oneU : Nat) : Int) ≤ n * ((oneU : Nat) : Int) := by
    have := Int.mul_le_mul_of_nonneg_right hn (show 0 ≤ ((oneU : Nat) : Int) by omega)
    rwa [Int.one_mul] at this
  have a2 : n * ((oneU : Nat) : Int) ≤ 65536 * ((oneU : Nat) : Int) := Int.mul_le_mul_of_nonneg_right hn2 (by omega)
  have a3 : 2 * (h * ((oneU : Nat) : Int)) ≤ n * ((oneU : Nat) : Int) := by
    have := Int.mul_le_mul_of_nonneg_right hh (show 0 ≤ ((oneU : Nat) : Int) by omega)
    rwa [Int.mul_assoc] at this
  have key := fsub_err hy n1
  rw [n2] at key
  rw [Int.add_mul, Int.sub_mul, Int.one_mul] at y1
  generalize h * ((oneU : Nat) : Int) = HU at *
  generalize n * ((oneU : Nat) : Int) = NU at *
  generalize ((oneU : Nat) : Int) = U at *
  obtain ⟨g1, g2⟩ := key (by generalize sv (infR - 1) = B at *; omega)
  obtain ⟨V, v1, v2, v3, v4⟩ := err_two g2
  exact ⟨g1, by omega, by omega⟩

end Go.Vam

/- PeaksWithin: the plain law. -/
namespace Go.Proofs.Ytpphomoijlilfaa
open Go Go.Vam

def fgeB (x y : Nat) : Bool := ford .f64 x y == some .gt || ford .f64 x y == some .eq
def fleB (x y : Nat) : Bool := ford .f64 x y == some .lt || ford .f64 x y == some .eq
def powC : Nat := sv 8660422083433463808

theorem powC_big : 268435456 * ((powC : Nat) : Int) ≤ (sv (infR - 1) : Nat) := by
  have h1 : sv (1922 * 4503599627370496 + 4503599627370496) = twoP (52 + 1922) := sv_one (q := 1922)
  have h2 : sv (2045 * 4503599627370496 + 4503599627370496) = twoP (52 + 2045) := sv_one (q := 2045)
  have h3 : sv (2045 * 4503599627370496 + 4503599627370496) ≤ sv (infR - 1) := sv_le (by decide)
  have h4 : twoP 28 * twoP (52 + 1922) ≤ twoP (52 + 2045) := by rw [twoP_mul]; exact twoP_le (by decide)
  have h5 : powC = sv (1922 * 4503599627370496 + 4503599627370496) := rfl
  have h6 : twoP 28 = 268435456 := rfl
  rw [h1] at h5
  rw [h2] at h3
  rw [← h5, h6] at h4
  have := Int.ofNat_le.2 (Nat.le_trans h4 h3)
  rwa [Int.natCast_mul] at this

theorem fnW {x : Nat} (h : Vam.Fn x) : FW x := .inl h.1
theorem fge_fn {x y : Nat} (hx : Vam.Fn x) (hy : Vam.Fn y) : fgeB x y = true ↔ fv y ≤ fv x := by
  unfold fgeB
  rw [fge_iff (fnW hx) (fnW hy), hx.key, hy.key]
  constructor
  · rintro ⟨a, b, h1, h2, h3⟩; cases h1; cases h2; exact h3
  · intro h; exact ⟨_, _, rfl, rfl, h⟩
theorem fle_fn {x y : Nat} (hx : Vam.Fn x) (hy : Vam.Fn y) : fleB x y = true ↔ fv x ≤ fv y := by
  unfold fleB
  rw [fle_iff (fnW hx) (fnW hy), hx.key, hy.key]
  constructor
  · rintro ⟨a, b, h1, h2, h3⟩; cases h1; cases h2; exact h3
  · intro h; exact ⟨_, _, rfl, rfl, h⟩
theorem fgt_fn {x y : Nat} (hx : Vam.Fn x) (hy : Vam.Fn y) : (ford .f64 x y == some .gt) = true ↔ fv y < fv x := by
  rw [ford_gt (fnW hx) (fnW hy), hx.key, hy.key]
  constructor
  · rintro ⟨a, b, h1, h2, h3⟩; cases h1; cases h2; exact h3
  · intro h; exact ⟨_, _, rfl, rfl, h⟩
theorem flt_fn {x y : Nat} (hx : Vam.Fn x) (hy : Vam.Fn y) : (ford .f64 x y == some .lt) = true ↔ fv x < fv y := by
  rw [ford_lt (fnW hx) (fnW hy), hx.key, hy.key]
  constructor
  · rintro ⟨a, b, h1, h2, h3⟩; cases h1; cases h2; exact h3
  · intro h; exact ⟨_, _, rfl, rfl, h⟩
theorem zero_fn : Vam.Fn 0 ∧ fv 0 = 0 := ⟨⟨by decide, by decide⟩, by decide⟩
theorem max_fn : Vam.Fn 9218868437227405311 ∧ fv 9218868437227405311 = (sv (infR - 1) : Nat) := ⟨⟨by decide, by decide⟩, rfl⟩

theorem fv_le {x : Nat} (h : Vam.Fn x) : fv x ≤ (sv (infR - 1) : Nat) := by
  have hr : x % 9223372036854775808 ≤ infR - 1 := by have := h.2; omega
  have := sv_le hr
  unfold fv sw
  generalize sv (infR - 1) = B at *
  generalize sv (x % 9223372036854775808) = A at *
  split <;> omega

/-- A power that the law lets in. -/
theorem pow_ok {p : Nat} (hp : p < 18446744073709551616) (h1 : fgeB p 0 = true) (h2 : fleB p 8660422083433463808 = true) : Vam.Fn p ∧ 0 ≤ fv p ∧ fv p ≤ (powC : Nat) := by
  obtain ⟨a, b, k1, k2, k3⟩ := (fge_iff (.inl hp) (fnW zero_fn.1)).1 h1
  obtain ⟨a', b', l1, l2, l3⟩ := (fle_iff (.inl hp) (.inl (by decide))).1 h2
  rw [fkey_zero] at k2
  cases k2
  have hb : fkey 8660422083433463808 = some ((powC : Nat) : Int) := by
    unfold fkey
    rw [if_pos (by decide)]; rfl
  rw [hb] at l2
  cases l2
  rw [k1] at l1
  cases l1
  have hr : p % 9223372036854775808 ≤ infR := by
    by_cases h : p % 9223372036854775808 ≤ infR
    · exact h
    · unfold fkey at k1
      rw [if_neg h] at k1; cases k1
  have ka : a = fv p := by
    unfold fkey at k1
    rw [if_pos hr] at k1
    exact (Option.some.inj k1).symm
  subst ka
  refine ⟨⟨hp, ?_⟩, k3, l3⟩
  refine Nat.lt_of_le_of_ne hr (fun he => ?_)
  have hlt : powC < sv infR := sv_lt (by decide)
  unfold fv sw at k3 l3
  rw [he] at k3 l3
  generalize sv infR = B at *
  generalize powC = C at *
  split at k3 <;> rename_i hs
  · omega
  · rw [if_neg hs] at l3; omega

theorem sumN_R {f : Nat → Nat} : ∀ k, sumN f k = sumR f k
  | 0 => rfl
  | 1 => rfl
  | k + 2 => by show fadd .f64 _ _ = fadd .f64 _ _; rw [sumN_R (k + 1)]

/-- The spots that were brought in, and what is told of them. -/
structure InOk (n : Int) (M : List SpI) (ab : Bool) (lo hi le ri : Int) : Prop where
  e : ∀ x ∈ M, (lo ≤ x.1 ∧ x.1 ≤ hi) ∧ (le ≤ x.2.1 ∧ x.2.1 ≤ ri) ∧ (0 ≤ x.1 ∧ x.1 < n) ∧ (0 ≤ x.2.1 ∧ x.2.1 < 1000) ∧ Vam.Fn x.2.2 ∧ 0 ≤ fv x.2.2 ∧ fv x.2.2 ≤ (powC : Nat)
  b : 0 ≤ lo ∧ hi < n ∧ 0 ≤ le ∧ ri < 1000
  c : 0 ≤ hi ∧ lo < n ∧ 0 ≤ ri ∧ le < 1000
  a : ab = true → ∃ x ∈ M, 0 < fv x.2.2

theorem InOk.nil {n : Int} (hn : 1 ≤ n) : InOk n [] false 0 0 0 0 := ⟨fun x h => (List.not_mem_nil h).elim, by omega, by omega, fun h => by cases h⟩

theorem InOk.push {n : Int} {M : List SpI} {ab : Bool} {lo hi le ri : Int} (h : InOk n M ab lo hi le ri) {x : SpI} (h1 : 0 ≤ x.1 ∧ x.1 < n) (h2 : 0 ≤ x.2.1 ∧ x.2.1 < 1000) (h3 : Vam.Fn x.2.2 ∧ 0 ≤ fv x.2.2 ∧ fv x.2.2 ≤ (powC : Nat))
    {lo' hi' le' ri' : Int} (hs : (lo' = lo ∧ hi' = hi ∧ le' = le ∧ ri' = ri) ∨ (M = [] ∧ lo' = x.1 ∧ hi' = x.1 ∧ le' = x.2.1 ∧ ri' = x.2.1)) :
    InOk n (M ++ [x]) (ab || (ford .f64 x.2.2 0 == some .gt)) (if x.1 < lo' then x.1 else lo') (if x.1 > hi' then x.1 else hi') (if x.2.1 < le' then x.2.1 else le') (if x.2.1 > ri' then x.2.1 else ri') := by
  obtain ⟨he, hb, hc, ha⟩ := h
  refine ⟨fun y hy => ?_, ?_, ?_, fun hab => ?_⟩
  · rcases List.mem_append.1 hy with hy | hy
    · obtain ⟨g1, g2, g3⟩ := he y hy
      rcases hs with ⟨rfl, rfl, rfl, rfl⟩ | ⟨rfl, _⟩
      · exact ⟨by omega, by omega, g3⟩
      · exact (List.not_mem_nil hy).elim
    · obtain rfl : y = x := by simpa using hy
      exact ⟨by omega, by omega, h1, h2, h3⟩
  · rcases hs with ⟨rfl, rfl, rfl, rfl⟩ | ⟨rfl, rfl, rfl, rfl, rfl⟩ <;> omega
  · rcases hs with ⟨rfl, rfl, rfl, rfl⟩ | ⟨rfl, rfl, rfl, rfl, rfl⟩ <;> omega
  · rw [Bool.or_eq_true] at hab
    rcases hab with hab | hab
    · obtain ⟨y, hy, hp⟩ := ha hab
      exact ⟨y, List.mem_append_left _ hy, hp⟩
    · refine ⟨x, by simp, ?_⟩
      have := (fgt_fn h3.1 zero_fn.1).1 hab
      rw [zero_fn.2] at this; exact this

theorem offI_half {a b n : Int} (hn : 1 ≤ n) (ha : 0 ≤ a ∧ a < n) (hb : 0 ≤ b ∧ b < n) : -(n / 2) ≤ offI a b n ∧ offI a b n ≤ n / 2 := by
  unfold offI
  split
  · omega
  · split <;> omega

theorem offI_plain {a b n : Int} (hn : 1 ≤ n) (h1 : 3 * (a - b) ≤ n) (h2 : 3 * (b - a) ≤ n) : offI a b n = a - b := by
  unfold offI
  rw [if_neg (by omega), if_neg (by omega)]

end Go.Proofs.Ytpphomoijlilfaa

/- PeaksWithin: a middle lies among its spots. -/
namespace Go.Proofs.Ytpphomoijlilfaa
open Go Go.Vam

theorem cz_id {a : Int} (h : 0 ≤ a ∧ a < 65536) : cz a = a := by unfold cz cl; omega

theorem few_of {n : Int} {M : List SpI} {ab : Bool} {lo hi le ri : Int} (h : InOk n M ab lo hi le ri) (hM : M.length ≤ 500) (h1 : 1 ≤ M.length) {d : Nat → Int} {l u : Int} (hd : ∀ i, i < M.length → l ≤ d i ∧ d i ≤ u) (hl : -65536 ≤ l ∧ l ≤ 65536) (hu : -65536 ≤ u ∧ u ≤ 65536) :
    Few (powF M) d M.length 65536 ((powC : Nat) : Int) l u where
  n1 := h1
  n2 := hM
  c0 := by omega
  c1 := powC_big
  m0 := by omega
  m1 := by omega
  f1 := fun i hi => by
    unfold powF
    rw [atI_eq hi]
    obtain ⟨_, _, _, _, g⟩ := h.e _ (List.getElem_mem hi)
    exact g
  d1 := hd
  l1 := hl
  h1 := hu

theorem within {n : Int} {M : List SpI} {ab : Bool} {lo hi le ri : Int} (hn : 1 ≤ n ∧ n ≤ 65536) (hM : M.length ≤ 500) (h : InOk n M ab lo hi le ri) (hab : ab = true) :
    ∃ b g s, cenF M n = cenV b g s M.length ∧ fgeB g (fsub .f64 (FloatKind.f64.nearest le) tinyE) = true ∧ fleB g (fadd .f64 (FloatKind.f64.nearest ri) tinyE) = true ∧ fgeB b 0 = true ∧ fleB b (FloatKind.f64.nearest n) = true ∧
      ((hi - lo) * 3 ≤ n → (fgeB b (fsub .f64 (FloatKind.f64.nearest lo) tinyE) = true ∧ fleB b (fadd .f64 (FloatKind.f64.nearest hi) tinyE) = true) ∨ (lo = 0 ∧ fgeB b (fsub .f64 (FloatKind.f64.nearest n) tinyE) = true)) := by
  obtain ⟨x0, hx0, hp0⟩ := h.a hab
  have hne : M ≠ [] := fun hh => by rw [hh] at hx0; exact List.not_mem_nil hx0
  have hlen : 1 ≤ M.length := by
    cases M with
    | nil => exact absurd rfl hne
    | cons _ _ => simp
  have hb := h.b
  have hc := h.c
  obtain ⟨t, ht⟩ : ∃ t, t = topUp M M.length := ⟨_, rfl⟩
  have htl : t < M.length := by rw [ht]; exact topUp_lt (Nat.le_refl _) (by omega)
  obtain ⟨y, hy⟩ : ∃ y, y = atI M t := ⟨_, rfl⟩
  have hyM : y ∈ M := by rw [hy, atI_eq htl]; exact List.getElem_mem htl
  obtain ⟨y1, y2, y3, y4, _⟩ := h.e y hyM
  have hz1 : cz y.1 = y.1 := cz_id (by omega)
  have hz2 : cz y.2.1 = y.2.1 := cz_id (by omega)
  have hcz : ∀ i, cz (atI M i).1 = (atI M i).1 ∧ cz (atI M i).2.1 = (atI M i).2.1 := fun i => by
    by_cases hi : i < M.length
    · obtain ⟨_, _, z3, z4, _⟩ := h.e (atI M i) (by rw [atI_eq hi]; exact List.getElem_mem hi)
      exact ⟨cz_id (by omega), cz_id (by omega)⟩
    · have : atI M i = (0, 0, 0) := by unfold atI; rw [List.getElem?_eq_none (by omega)]; rfl
      rw [this]; show cz 0 = 0 ∧ cz 0 = 0; exact ⟨cz_id (by omega), cz_id (by omega)⟩
  obtain ⟨dD, hdD⟩ : ∃ d : Nat → Int, d = fun i => offI (atI M i).1 y.1 n := ⟨_, rfl⟩
  obtain ⟨dE, hdE⟩ : ∃ d : Nat → Int, d = fun i => (atI M i).2.1 - y.2.1 := ⟨_, rfl⟩
  have mD_is : mD M t n = momR (powF M) dD := by
    funext i
    unfold mD momR
    rw [(hcz i).1, ← hy, hz1, hdD]
  have mE_is : mE M t = momR (powF M) dE := by
    funext i
    unfold mE momR
    rw [(hcz i).2, ← hy, hz2, hdE]
  -- the powers' sum is above 0
  have few0 := few_of h hM hlen (d := fun _ => 0) (l := 0) (u := 0) (fun _ _ => ⟨by omega, by omega⟩) (by omega) (by omega)
  have hpos : 0 < fv (sumR (powF M) M.length) := by
    have hC := powC_big
    have := (sum_pos (f := powF M) (C := ((powC : Nat) : Int)) (N := M.length) (by omega) (by generalize sv (infR - 1) = B at *; omega) hM few0.f1 M.length hlen (Nat.le_refl _)).2
    obtain ⟨i, hi, hxi⟩ := List.getElem_of_mem hx0
    refine this ⟨i, hi, ?_⟩
    unfold powF
    rw [atI_eq hi, hxi]; exact hp0
  have hSf : Vam.Fn (sumR (powF M) M.length) := (few0.fin hlen (Nat.le_refl _)).1.1
  have hstop : stopB (sumN (powF M) M.length) = false := by
    rw [sumN_R]
    unfold stopB
    have e1 : (ford .f64 (sumR (powF M) M.length) 0 == some .gt) = true := (fgt_fn hSf zero_fn.1).2 (by rw [zero_fn.2]; exact hpos)
    have e2 : (ford .f64 (sumR (powF M) M.length) 9218868437227405311 == some .gt) = false := by
      rw [← Bool.not_eq_true, fgt_fn hSf max_fn.1, max_fn.2]
      have := fv_le hSf
      omega
    rw [e1, e2]; rfl
  have hcen : cenF M n = cenV (wrapB (fadd .f64 (FloatKind.f64.nearest y.1) (fdiv .f64 (sumR (momR (powF M) dD) M.length) (sumR (powF M) M.length))) n) (fadd .f64 (FloatKind.f64.nearest y.2.1) (fdiv .f64 (sumR (momR (powF M) dE) M.length) (sumR (powF M) M.length))) (sumR (powF M) M.length) M.length := by
    unfold cenF
    rw [if_neg hne]
    simp only [← ht]
    rw [if_neg (by rw [hstop]; simp), ← hy, hz1, hz2, mD_is, mE_is, sumN_R, sumN_R, sumN_R]
  refine ⟨_, _, _, hcen, ?_⟩
  -- the gates
  have fewE := few_of h hM hlen (d := dE) (l := le - y.2.1) (u := ri - y.2.1) (fun i hi => by
    obtain ⟨_, z2, _⟩ := h.e (atI M i) (by rw [atI_eq hi]; exact List.getElem_mem hi)
    rw [hdE]; exact ⟨by show _ ≤ (atI M i).2.1 - y.2.1; omega, by show (atI M i).2.1 - y.2.1 ≤ _; omega⟩) (by omega) (by omega)
  obtain ⟨gE1, gE2, gE3⟩ := fewE.beside hpos (b := y.2.1) (by omega) (by omega)
  have eE1 : y.2.1 + (ri - y.2.1) = ri := by omega
  have eE2 : y.2.1 + (le - y.2.1) = le := by omega
  rw [eE1] at gE2
  rw [eE2] at gE3
  have hU := oneU_big
  have A1 : fgeB (fadd .f64 (FloatKind.f64.nearest y.2.1) (fdiv .f64 (sumR (momR (powF M) dE) M.length) (sumR (powF M) M.length))) (fsub .f64 (FloatKind.f64.nearest le) tinyE) = true := by
    obtain ⟨k1, k2⟩ := less_e (k := le) (by omega) (by omega)
    rw [fge_fn gE1 k1]
    generalize le * ((oneU : Nat) : Int) = K at *
    generalize ri * ((oneU : Nat) : Int) = K' at *
    generalize ((oneU : Nat) : Int) = U at *
    omega
  have A2 : fleB (fadd .f64 (FloatKind.f64.nearest y.2.1) (fdiv .f64 (sumR (momR (powF M) dE) M.length) (sumR (powF M) M.length))) (fadd .f64 (FloatKind.f64.nearest ri) tinyE) = true := by
    obtain ⟨k1, k2⟩ := more_e (k := ri) (by omega) (by omega)
    rw [fle_fn gE1 k1]
    generalize le * ((oneU : Nat) : Int) = K at *
    generalize ri * ((oneU : Nat) : Int) = K' at *
    generalize ((oneU : Nat) : Int) = U at *
    omega
  refine ⟨A1, A2, ?_⟩
  clear A1 A2 gE1 gE2 gE3 eE1 eE2 fewE hcen hstop mD_is mE_is
  -- the bins: all of the circle
  have hoff : ∀ i, i < M.length → -(n / 2) ≤ dD i ∧ dD i ≤ n / 2 := fun i hi => by
    obtain ⟨_, _, z3, _⟩ := h.e (atI M i) (by rw [atI_eq hi]; exact List.getElem_mem hi)
    rw [hdD]; exact offI_half hn.1 z3 y3
  have fewD := few_of h hM hlen (d := dD) (l := -(n / 2)) (u := n / 2) hoff (by omega) (by omega)
  obtain ⟨gD1, gD2, gD3⟩ := fewD.beside hpos (b := y.1) (by omega) (by omega)
  have fewP : (hi - lo) * 3 ≤ n → 4503599627370496 * fv (fadd .f64 (FloatKind.f64.nearest y.1) (fdiv .f64 (sumR (momR (powF M) dD) M.length) (sumR (powF M) M.length))) ≤ 4503599627370496 * (hi * (oneU : Nat)) + 268435456 * ((oneU : Nat) : Int) ∧
      4503599627370496 * (lo * (oneU : Nat)) - 268435456 * ((oneU : Nat) : Int) ≤ 4503599627370496 * fv (fadd .f64 (FloatKind.f64.nearest y.1) (fdiv .f64 (sumR (momR (powF M) dD) M.length) (sumR (powF M) M.length))) := fun h3 => by
    have fewQ := few_of h hM hlen (d := dD) (l := lo - y.1) (u := hi - y.1) (fun i hi => by
      obtain ⟨z1, _, z3, _⟩ := h.e (atI M i) (by rw [atI_eq hi]; exact List.getElem_mem hi)
      have e : dD i = (atI M i).1 - y.1 := by rw [hdD]; exact offI_plain hn.1 (by omega) (by omega)
      rw [e]; constructor <;> omega) (by omega) (by omega)
    obtain ⟨_, q2, q3⟩ := fewQ.beside hpos (b := y.1) (by omega) (by omega)
    have e1 : y.1 + (hi - y.1) = hi := by omega
    have e2 : y.1 + (lo - y.1) = lo := by omega
    rw [e1] at q2
    rw [e2] at q3
    exact ⟨q2, q3⟩
  generalize fadd .f64 (FloatKind.f64.nearest y.1) (fdiv .f64 (sumR (momR (powF M) dD) M.length) (sumR (powF M) M.length)) = Y at *
  have hh : 2 * (n / 2) ≤ n := by omega
  obtain ⟨n1, n2⟩ := near_fn (d := n) (by omega)
  have hY1 : 4503599627370496 * fv Y ≤ 4503599627370496 * ((n - 1 + n / 2) * (oneU : Nat)) + 268435456 * ((oneU : Nat) : Int) := by
    have := Int.mul_le_mul_of_nonneg_right (show y.1 + n / 2 ≤ n - 1 + n / 2 by omega) (show 0 ≤ ((oneU : Nat) : Int) by omega)
    omega
  have hY2 : -(4503599627370496 * (n / 2 * (oneU : Nat))) - 268435456 * ((oneU : Nat) : Int) ≤ 4503599627370496 * fv Y := by
    have := Int.mul_le_mul_of_nonneg_right (show -(n / 2) ≤ y.1 + -(n / 2) by omega) (show 0 ≤ ((oneU : Nat) : Int) by omega)
    rw [Int.neg_mul] at this
    omega
  clear gD2 gD3 hoff fewD few0 hdD hdE hpos hSf hcz
  have hlo : lo * ((oneU : Nat) : Int) = 0 ∧ lo = 0 ∨ ((oneU : Nat) : Int) ≤ lo * ((oneU : Nat) : Int) := by
    by_cases h0 : lo = 0
    · exact .inl ⟨by rw [h0, Int.zero_mul], h0⟩
    · have := Int.mul_le_mul_of_nonneg_right (show 1 ≤ lo by omega) (show 0 ≤ ((oneU : Nat) : Int) by omega)
      rw [Int.one_mul] at this
      exact .inr this
  have hhi : hi * ((oneU : Nat) : Int) ≤ n * ((oneU : Nat) : Int) - ((oneU : Nat) : Int) := by
    have := Int.mul_le_mul_of_nonneg_right (show hi ≤ n - 1 by omega) (show 0 ≤ ((oneU : Nat) : Int) by omega)
    rw [Int.sub_mul, Int.one_mul] at this
    exact this
  obtain ⟨k1, k2⟩ := less_e (k := lo) (by omega) (by omega)
  obtain ⟨k3, k4⟩ := more_e (k := hi) (by omega) (by omega)
  obtain ⟨k5, k6⟩ := less_e (k := n) (by omega) (by omega)
  by_cases c1 : fv Y < 0
  · have hw : wrapB Y n = fadd .f64 Y (FloatKind.f64.nearest n) := by
      unfold wrapB
      rw [if_pos ⟨by omega, (flt_fn gD1 zero_fn.1).2 (by rw [zero_fn.2]; exact c1)⟩]
    rw [hw]
    obtain ⟨r1, r2, r3, r4⟩ := round_up gD1 hn.1 hn.2 hh c1 hY2
    refine ⟨(fge_fn r1 zero_fn.1).2 (by rw [zero_fn.2]; exact r2), (fle_fn r1 n1).2 (by rw [n2]; exact r3), fun h3 => .inr ?_⟩
    obtain ⟨q2, q3⟩ := fewP h3
    have hl0 : lo = 0 := by
      rcases hlo with ⟨_, h0⟩ | h0
      · exact h0
      · exfalso
        generalize lo * ((oneU : Nat) : Int) = K at *
        generalize ((oneU : Nat) : Int) = U at *
        omega
    refine ⟨hl0, (fge_fn r1 k5).2 ?_⟩
    rw [hl0, Int.zero_mul] at q3
    generalize n * ((oneU : Nat) : Int) = NU at *
    generalize ((oneU : Nat) : Int) = U at *
    omega
  · have hn0 : ¬ (0 < n ∧ (ford .f64 Y 0 == some .lt) = true) := fun hx => c1 (by have := (flt_fn gD1 zero_fn.1).1 hx.2; rwa [zero_fn.2] at this)
    by_cases c2 : n * ((oneU : Nat) : Int) ≤ fv Y
    · have hw : wrapB Y n = fsub .f64 Y (FloatKind.f64.nearest n) := by
        unfold wrapB
        rw [if_neg hn0, if_pos ⟨by omega, (fge_fn gD1 n1).2 (by rw [n2]; exact c2)⟩]
      rw [hw]
      obtain ⟨r1, r2, r3⟩ := round_down gD1 hn.1 hn.2 hh c2 hY1
      refine ⟨(fge_fn r1 zero_fn.1).2 (by rw [zero_fn.2]; exact r2), (fle_fn r1 n1).2 (by rw [n2]; exact r3), fun h3 => ?_⟩
      obtain ⟨q2, q3⟩ := fewP h3
      exfalso
      generalize hi * ((oneU : Nat) : Int) = K at *
      generalize n * ((oneU : Nat) : Int) = NU at *
      generalize ((oneU : Nat) : Int) = U at *
      omega
    · have hw : wrapB Y n = Y := by
        unfold wrapB
        rw [if_neg hn0, if_neg (fun hx => c2 (by have := (fge_fn gD1 n1).1 hx.2; rwa [n2] at this))]
      rw [hw]
      refine ⟨(fge_fn gD1 zero_fn.1).2 (by rw [zero_fn.2]; omega), (fle_fn gD1 n1).2 (by rw [n2]; omega), fun h3 => .inl ?_⟩
      obtain ⟨q2, q3⟩ := fewP h3
      refine ⟨(fge_fn gD1 k1).2 ?_, (fle_fn gD1 k3).2 ?_⟩
      · generalize lo * ((oneU : Nat) : Int) = K at *
        generalize ((oneU : Nat) : Int) = U at *
        omega
      · generalize hi * ((oneU : Nat) : Int) = K at *
        generalize ((oneU : Nat) : Int) = U at *
        omega

end Go.Proofs.Ytpphomoijlilfaa

/- PeaksWithin, walked. -/
namespace Go.Proofs.Ytpphomoijlilfaa
open Go Go.Vam

/-- A spot brought into the map. -/
def brI (n : Int) (x : SpI) : SpI := ((x.1.tmod n + n).tmod n, (x.2.1.tmod 1000 + 1000).tmod 1000, x.2.2)

theorem tmod_in {a n : Int} (hn : 0 < n) : -n < a.tmod n ∧ a.tmod n < n ∧ 0 ≤ (a.tmod n + n).tmod n ∧ (a.tmod n + n).tmod n < n := by
  have h1 := Int.lt_tmod_of_pos a hn
  have h2 := Int.tmod_lt_of_pos a hn
  exact ⟨h1, h2, Int.tmod_nonneg _ (by omega), Int.tmod_lt_of_pos _ hn⟩

theorem cenF_len (L : List SpI) (B : Int) : ∃ b g s, cenF L B = cenV b g s L.length := by
  unfold cenF
  split
  · rename_i h; subst h; exact ⟨_, _, _, rfl⟩
  · simp only
    split
    · exact ⟨_, _, _, rfl⟩
    · exact ⟨_, _, _, rfl⟩


set_option maxHeartbeats 4000000 in
theorem run8 {X : Ctx} (hX : X.fns = fnsOf Try.prog) (ho : ∀ f args, f ≠ 15 → X.orc f args = none) (hw : X.orc 15 [] = some (.bool true)) {s : Mm} {v : Value} {L : List SpI} {b : Int} (a : SlC s 3 v L.length (L.flatMap eI)) (hf : ∀ x ∈ L, x.2.2 < 18446744073709551616) (hb : 0 ≤ b ∧ b ≤ 65535) :
    CallP X 8 [v, .int .u16 b] s (fun r _ => r = .bool true) := by
  refine CallP_of (hX ▸ ir8_eq) (ho _ _ (by decide)) (Nat.le_of_ble_eq_true rfl) ?_
  refine W_seq (W_ops [0, 1] ?_)
  simp only [o8_0, WO_move, WO_nil, geT_put, frame_nil, frame_cons, evO_const, keep_nil, keep_cons, keepK_eq, Nat.reduceEqDiff, Nat.reduceAdd, ↓reduceIte, eq_self, Nat.zero_add]
  intro fr e0 e1
  refine SeqK_n ?_
  refine W_seq (W_ops [0, 5] ?_)
  simp only [o8_1, WO_bin, WO_conv, conv_int, WO_move, bin_add, WO_nil, PureK_some, geT_put, evO_tmp, evO_const, keep_nil, keep_cons, keepK_eq, Nat.reduceEqDiff, ↓reduceIte, eq_self, e0, e1, wrap_i64 (n := b) (by omega) (by omega), wrap_i64 (n := b + 1) (by omega) (by omega)]
  clear e0 e1
  intro fr e0 e5
  refine SeqK_n ?_
  obtain ⟨n, hn⟩ : ∃ n, n = b + 1 := ⟨_, rfl⟩
  rw [← hn] at e5
  have hn1 : 1 ≤ n ∧ n ≤ 65536 := by omega
  clear hn hb b
  refine W_seq (W_ops [0, 5, 6] ?_)
  simp only [o8_2, WO_move, WO_nil, geT_put, evO_const, keep_nil, keep_cons, keepK_eq, Nat.reduceEqDiff, ↓reduceIte, eq_self, e0, e5]
  clear e0 e5
  intro fr e0 e5 e6
  refine SeqK_n ?_
  refine W_seq (W_ops [0, 5, 6, 7] ?_)
  simp only [o8_3, WO_move, WO_nil, geT_put, evO_const, keep_nil, keep_cons, keepK_eq, Nat.reduceEqDiff, ↓reduceIte, eq_self, e0, e5, e6]
  clear e0 e5 e6
  intro fr e0 e5 e6 e7
  refine SeqK_n ?_
  refine W_seq (W_ops [0, 5, 6, 7, 8, 9, 10, 11] ?_)
  simp only [o8_4, WO_move, WO_nil, geT_put, evO_const, keep_nil, keep_cons, keepK_eq, Nat.reduceEqDiff, ↓reduceIte, eq_self, e0, e5, e6, e7]
  clear e0 e5 e6 e7
  intro fr e0 e5 e6 e7 e8 e9 e10 e11
  refine SeqK_n ?_
  refine W_assoc ?_
  refine W_seq (W_ops [0, 5, 6, 7, 8, 9, 10, 11, 12] ?_)
  simp only [o8_5, WO_move, WO_nil, geT_put, evO_const, keep_nil, keep_cons, keepK_eq, Nat.reduceEqDiff, ↓reduceIte, eq_self, e0, e5, e6, e7, e8, e9, e10, e11]
  clear e0 e5 e6 e7 e8 e9 e10 e11
  intro fr e0 e5 e6 e7 e8 e9 e10 e11 e12
  refine SeqK_n ?_
  refine W_seq (W_block (W_loop (fun m fr s1 => ∃ k w M ab lo hi le ri, k + m = L.length ∧ k ≤ 500 ∧ List.length M ≤ k ∧ InOk n M ab lo hi le ri ∧ geT fr 0 = v ∧ geT fr 5 = .int .i64 n ∧ geT fr 6 = w ∧ geT fr 7 = .bool ab ∧ geT fr 8 = .int .i64 lo ∧ geT fr 9 = .int .i64 hi ∧ geT fr 10 = .int .i64 le ∧ geT fr 11 = .int .i64 ri ∧ geT fr 12 = .int .i64 (k : Nat) ∧
    Hold s s1 [HP.own 3 w M.length (M.flatMap eI)]) L.length ⟨0, _, [], _, _, _, _, _, by omega, by omega, Nat.le_refl _, .nil hn1.1, e0, e5, e6, e7, e8, e9, e10, e11, e12, (Hold.refl s).nil 3⟩ ?_))
  clear e0 e5 e6 e7 e8 e9 e10 e11 e12 fr
  rintro m fr s1 ⟨k, w, M, ab, lo, hi, le, ri, hk, hk5, hMk, hI, e0, e5, e6, e7, e8, e9, e10, e11, e12, H⟩
  refine W_assoc ?_
  have hlen := (a.same H.same (fun _ _ h => h)).len
  refine W_seq (W_opsB [0, 5, 6, 7, 8, 9, 10, 11, 12, 28] (fun fr1 s6 => s1 = s6 ∧ geT fr1 0 = v ∧ geT fr1 5 = .int .i64 n ∧ geT fr1 6 = w ∧ geT fr1 7 = .bool ab ∧ geT fr1 8 = .int .i64 lo ∧ geT fr1 9 = .int .i64 hi ∧ geT fr1 10 = .int .i64 le ∧ geT fr1 11 = .int .i64 ri ∧ geT fr1 12 = .int .i64 (k : Nat) ∧ geT fr1 28 = .bool (decide (k < L.length ∧ k < 500))) ?_ ?_)
  · intro R' hR'
    by_cases h1 : k < L.length
    · skip
      simp only [o8_7, WO_bin, WO_bu, WO_move, WO_pick, pick_b, bin_lss, WO_nil, PureK_some, WO_guard, want_v, wantB_t, geT_put, evO_tmp, evO_const, keep_nil, keep_cons, keepK_eq, List.map_cons, List.map_nil, Nat.reduceEqDiff, ↓reduceIte, eq_self, e0, e5, e6, e7, e8, e9, e10, e11, e12, hlen, decide_eq_true (show ((k : Nat) : Int) < ((L.length : Nat) : Int) by omega)]
      intro fr e0 e5 e6 e7 e8 e9 e10 e11 e12 e28
      exact hR' _ _ ⟨rfl, e0, e5, e6, e7, e8, e9, e10, e11, e12, by rw [e28]; exact congrArg Value.bool (decide_eq_decide.2 (by omega))⟩
    · skip
      simp only [o8_7, WO_bin, WO_bu, WO_move, WO_pick, pick_b, bin_lss, WO_nil, PureK_some, WO_guard, want_v, wantB_t, geT_put, evO_tmp, evO_const, keep_nil, keep_cons, keepK_eq, List.map_cons, List.map_nil, Nat.reduceEqDiff, ↓reduceIte, eq_self, Bool.false_eq_true, e0, e5, e6, e7, e8, e9, e10, e11, e12, hlen, decide_eq_false (show ¬ ((k : Nat) : Int) < ((L.length : Nat) : Int) by omega)]
      intro fr e0 e5 e6 e7 e8 e9 e10 e11 e12 e28
      exact hR' _ _ ⟨rfl, e0, e5, e6, e7, e8, e9, e10, e11, e12, by rw [e28]; exact congrArg Value.bool (decide_eq_false (by omega)).symm⟩
  clear e0 e5 e6 e7 e8 e9 e10 e11 e12 fr
  rintro fr _ ⟨rfl, e0, e5, e6, e7, e8, e9, e10, e11, e12, e28⟩
  refine SeqK_n ?_
  refine W_while e28 (fun hlt => ?_) (fun hlt => ?_)
  · obtain ⟨hk1, hk2⟩ := hlt
    obtain ⟨x, hx⟩ : ∃ x, x = atI L k := ⟨_, rfl⟩
    have hxw : x.2.2 < 18446744073709551616 := by rw [hx, atI_eq hk1]; exact hf _ (List.getElem_mem hk1)
    obtain ⟨y, hy⟩ : ∃ y, y = brI n x := ⟨_, rfl⟩
    obtain ⟨t1, t2, t3, t4⟩ := tmod_in (a := x.1) (n := n) (by omega)
    obtain ⟨u1, u2, u3, u4⟩ := tmod_in (a := x.2.1) (n := 1000) (by omega)
    have hy1 : 0 ≤ y.1 ∧ y.1 < n := by rw [hy]; exact ⟨t3, t4⟩
    have hy2 : 0 ≤ y.2.1 ∧ y.2.1 < 1000 := by rw [hy]; exact ⟨u3, u4⟩
    have hy3 : y.2.2 < 18446744073709551616 := by rw [hy]; exact hxw
    have aK := a.addr (kk := .i64) (i := (k : Int)) rfl hk1
    have p0 := a.fld (by omega) (k * 3) 0
    have p1 := a.fld (by omega) (k * 3) 1
    have p2 := a.fld (by omega) (k * 3) 2
    rw [Nat.add_zero] at p0
    have l0 : ∀ s', Same s s' (fun _ => False) → loadV s' none (elP v (k * 3)) = some (.int .i64 x.1) := fun s' hs => by rw [hx]; exact (a.same hs (fun _ _ h => h)).load (flatI hk1).1
    have l1 : ∀ s', Same s s' (fun _ => False) → loadV s' none (elP v (k * 3 + 1)) = some (.int .i64 x.2.1) := fun s' hs => by rw [hx]; exact (a.same hs (fun _ _ h => h)).load (flatI hk1).2.1
    have l2 : ∀ s', Same s s' (fun _ => False) → loadV s' none (elP v (k * 3 + 2)) = some (.float .f64 x.2.2) := fun s' hs => by rw [hx]; exact (a.same hs (fun _ _ h => h)).load (flatI hk1).2.2.1
    have hbu : buildV [.int .i64 0, .int .i64 0, .float .f64 0] [(0, 1, .int .i64 ((x.1.tmod n + n).tmod n)), (1, 1, .int .i64 ((x.2.1.tmod 1000 + 1000).tmod 1000)), (2, 1, .float .f64 x.2.2)] = some (sI y) := by rw [hy]; rfl
    have H2 := H.new z3
    have st : storeV (newAt s1 (.cells z3 false)) 3 (.pointer (some ⟨s1.nxt, 0, none⟩)) (sI y) = some (undefV, setBlk (newAt s1 (.cells z3 false)) s1.nxt (.cells (eI y) false)) := store_all (vs := eI y) (H2.cell (List.mem_cons_self ..)) rfl rfl rfl
    have H3 := H2.setc (cs' := eI y)
    have hn0 : ¬ n = 0 := by omega
    refine W_seq (W_block ?_)
    refine W_seq (W_drawM [0, 5, 6, 7, 8, 9, 10, 11, 12, 13] 1 rfl ?_)
    intro s' hh hns hs'
    have hss := (H.keep hs').same
    have sn : setH s' (Store.put s'.h s1.nxt (some (.cells [.int .i64 0, .int .i64 0, .float .f64 0] false))) = newAt s1 (.cells z3 false) := setH_new (b := .cells z3 false) hh hns
    simp only [d8_8, WD_move, WD_bin, WD_fieldAddr, WD_addrSl, WD_build, WD_load, WD_alloc, WD_store, WD_nil, DPureK_some, DReadK_some, DActK_some, pastR_nil, preHead_nil, joinF_nil, joinF_cons, joinAll_nil, setH_self, Nat.testBit, Nat.reduceShiftRight, Nat.reduceAnd, Nat.reduceBneDiff, List.all_nil, List.all_cons, List.filter_nil, List.filter_cons, geT_put, puT_none, evO_tmp, evO_const, keep_nil, keep_cons, keepK_eq, List.map_cons, List.map_nil, Nat.reduceEqDiff, Nat.reduceAdd, ↓reduceIte, bin_add, bin_rem, Bool.not_true, Bool.and_true, Bool.true_or, Int.reduceEq, eq_self, Bool.false_eq_true, true_and, Nat.zero_add, e0, e5, e6, e7, e8, e9, e10, e11, e12, aK, p0, p1, p2, l0 s' hss, l1 s' hss, l2 s' hss, hn0, wrap_i64 (n := x.1.tmod n + n) (by omega) (by omega), wrap_i64 (n := x.2.1.tmod 1000 + 1000) (by omega) (by omega), hbu, sn, st]
    clear e0 e5 e6 e7 e8 e9 e10 e11 e12
    intro fr e0 e5 e6 e7 e8 e9 e10 e11 e12 e13
    refine SeqK_n ?_
    clear H2 st sn hbu p0 p1 p2 aK l0 l1 l2 hs' hns hh hss s' t1 t2 t3 t4 u1 u2 u3 u4
    generalize setBlk (newAt s1 (.cells z3 false)) s1.nxt (.cells (eI y) false) = s2 at H3 ⊢
    generalize s1.nxt = Bs at H3 e13
    have lx0 : loadV s2 none (.pointer (some ⟨Bs, 0, none⟩)) = some (.int .i64 y.1) := load_g (o := 0) (H3.cell (List.mem_cons_self ..))
    have lx1 : loadV s2 none (.pointer (some ⟨Bs, 1, none⟩)) = some (.int .i64 y.2.1) := load_g (o := 1) (H3.cell (List.mem_cons_self ..))
    have lx2 : loadV s2 none (.pointer (some ⟨Bs, 2, none⟩)) = some (.float .f64 y.2.2) := load_g (o := 2) (H3.cell (List.mem_cons_self ..))
    have lx3 : loadV s2 (some 3) (.pointer (some ⟨Bs, 0, none⟩)) = some (sI y) := loadn_all (H3.cell (List.mem_cons_self ..)) rfl
    refine W_assoc ?_
    refine W_seq (W_opsB [0, 5, 6, 7, 8, 9, 10, 11, 12, 13, 64] (fun fr1 s6 => s2 = s6 ∧ geT fr1 0 = v ∧ geT fr1 5 = .int .i64 n ∧ geT fr1 6 = w ∧ geT fr1 7 = .bool ab ∧ geT fr1 8 = .int .i64 lo ∧ geT fr1 9 = .int .i64 hi ∧ geT fr1 10 = .int .i64 le ∧ geT fr1 11 = .int .i64 ri ∧ geT fr1 12 = .int .i64 (k : Nat) ∧ geT fr1 13 = .pointer (some ⟨Bs, 0, none⟩) ∧ geT fr1 64 = .bool (!(fgeB y.2.2 0 && fleB y.2.2 8660422083433463808))) ?_ ?_)
    · intro R' hR'
      cases h1 : fgeB y.2.2 0 with
      | true =>
        have h1' : (ford .f64 y.2.2 0 == some .gt || ford .f64 y.2.2 0 == some .eq) = true := h1
        simp only [o8_9, WO_bin, WO_fieldAddr, fieldAddr_p, WO_load, WO_move, WO_pick, pick_b, WO_un, un_not, binf_geq, binf_leq, WO_nil, PureK_some, WO_guard, want_v, wantB_t, geT_put, evO_tmp, evO_const, keep_nil, keep_cons, keepK_eq, Nat.reduceEqDiff, ↓reduceIte, eq_self, Nat.zero_add, e0, e5, e6, e7, e8, e9, e10, e11, e12, e13, lx2, h1']
        intro fr e0 e5 e6 e7 e8 e9 e10 e11 e12 e13 e64
        exact hR' _ _ ⟨rfl, e0, e5, e6, e7, e8, e9, e10, e11, e12, e13, by rw [e64, h1]; rfl⟩
      | false =>
        have h1' : (ford .f64 y.2.2 0 == some .gt || ford .f64 y.2.2 0 == some .eq) = false := h1
        simp only [o8_9, WO_bin, WO_fieldAddr, fieldAddr_p, WO_load, WO_move, WO_pick, pick_b, WO_un, un_not, binf_geq, WO_nil, PureK_some, WO_guard, want_v, wantB_t, geT_put, evO_tmp, evO_const, keep_nil, keep_cons, keepK_eq, Nat.reduceEqDiff, ↓reduceIte, Bool.not_false, eq_self, Bool.false_eq_true, Nat.zero_add, e0, e5, e6, e7, e8, e9, e10, e11, e12, e13, lx2, h1']
        intro fr e0 e5 e6 e7 e8 e9 e10 e11 e12 e13 e64
        exact hR' _ _ ⟨rfl, e0, e5, e6, e7, e8, e9, e10, e11, e12, e13, by rw [e64, h1]; rfl⟩
    clear e0 e5 e6 e7 e8 e9 e10 e11 e12 e13 fr
    rintro fr _ ⟨rfl, e0, e5, e6, e7, e8, e9, e10, e11, e12, e13, e64⟩
    refine SeqK_n ?_
    by_cases hok : (fgeB y.2.2 0 && fleB y.2.2 8660422083433463808) = true
    · rw [hok] at e64
      rw [Bool.and_eq_true] at hok
      have hpow := pow_ok hy3 hok.1 hok.2
      refine W_seq (W_cond e64 (fun h => by cases h) (fun _ => W_skip (SeqK_n ?_)))
      refine W_seq (W_opsB [0, 5, 6, 7, 8, 9, 10, 11, 12, 13] (fun fr1 s6 => s2 = s6 ∧ geT fr1 0 = v ∧ geT fr1 5 = .int .i64 n ∧ geT fr1 6 = w ∧ geT fr1 7 = .bool (ab || (ford .f64 y.2.2 0 == some .gt)) ∧ geT fr1 8 = .int .i64 lo ∧ geT fr1 9 = .int .i64 hi ∧ geT fr1 10 = .int .i64 le ∧ geT fr1 11 = .int .i64 ri ∧ geT fr1 12 = .int .i64 (k : Nat) ∧ geT fr1 13 = .pointer (some ⟨Bs, 0, none⟩)) ?_ ?_)
      · intro R' hR'
        cases ab with
        | true =>
          simp only [o8_10, WO_move, WO_pick, pick_b, WO_nil, PureK_some, WO_guard, want_v, wantB_f, geT_put, evO_tmp, evO_const, keep_nil, keep_cons, keepK_eq, Nat.reduceEqDiff, ↓reduceIte, Bool.not_true, eq_self, Bool.false_eq_true, e0, e5, e6, e7, e8, e9, e10, e11, e12, e13]
          intro fr e0 e5 e6 e7 e8 e9 e10 e11 e12 e13
          exact hR' _ _ ⟨rfl, e0, e5, e6, by rw [e7]; rfl, e8, e9, e10, e11, e12, e13⟩
        | false =>
          simp only [o8_10, WO_bin, WO_fieldAddr, fieldAddr_p, WO_load, WO_move, WO_pick, pick_b, binf_gtr, WO_nil, PureK_some, WO_guard, want_v, wantB_f, geT_put, evO_tmp, evO_const, keep_nil, keep_cons, keepK_eq, Nat.reduceEqDiff, ↓reduceIte, Bool.not_false, eq_self, Bool.false_eq_true, Nat.zero_add, e0, e5, e6, e7, e8, e9, e10, e11, e12, e13, lx2]
          intro fr e0 e5 e6 e7 e8 e9 e10 e11 e12 e13
          exact hR' _ _ ⟨rfl, e0, e5, e6, by rw [e7]; rfl, e8, e9, e10, e11, e12, e13⟩
      clear e0 e5 e6 e7 e8 e9 e10 e11 e12 e13 e64 fr
      rintro fr _ ⟨rfl, e0, e5, e6, e7, e8, e9, e10, e11, e12, e13⟩
      refine SeqK_n ?_
      refine W_assoc ?_
      have hMl := (H3.own (v := w) (n := M.length) (sz := 3) (cs := M.flatMap eI) (by simp)).slc.len
      have d0 : decide (((M.length : Nat) : Int) = 0) = decide (M.length = 0) := decide_eq_decide.2 (by omega)
      refine W_seq (W_ops [0, 5, 6, 7, 8, 9, 10, 11, 12, 13, 73] ?_)
      simp only [o8_11, WO_bin, WO_bu, WO_move, bin_eql, WO_nil, PureK_some, geT_put, evO_tmp, evO_const, keep_nil, keep_cons, keepK_eq, List.map_cons, List.map_nil, Nat.reduceEqDiff, ↓reduceIte, eq_self, e0, e5, e6, e7, e8, e9, e10, e11, e12, e13, hMl, d0]
      clear e0 e5 e6 e7 e8 e9 e10 e11 e12 e13
      intro fr e0 e5 e6 e7 e8 e9 e10 e11 e12 e13 e73
      refine SeqK_n ?_
      refine W_seq (W_cutN (fun fr1 s6 => ∃ lo' hi' le' ri', s2 = s6 ∧ ((lo' = lo ∧ hi' = hi ∧ le' = le ∧ ri' = ri) ∨ (M = [] ∧ lo' = y.1 ∧ hi' = y.1 ∧ le' = y.2.1 ∧ ri' = y.2.1)) ∧ geT fr1 0 = v ∧ geT fr1 5 = .int .i64 n ∧ geT fr1 6 = w ∧ geT fr1 7 = .bool (ab || (ford .f64 y.2.2 0 == some .gt)) ∧ geT fr1 8 = .int .i64 lo' ∧ geT fr1 9 = .int .i64 hi' ∧ geT fr1 10 = .int .i64 le' ∧ geT fr1 11 = .int .i64 ri' ∧ geT fr1 12 = .int .i64 (k : Nat) ∧ geT fr1 13 = .pointer (some ⟨Bs, 0, none⟩)) ?_ ?_)
      · intro R' hR'
        by_cases h0 : M.length = 0
        · rw [decide_eq_true h0] at e73
          refine W_cond e73 (fun _ => ?_) (fun h => by cases h)
          refine W_draw0 [0, 5, 6, 7, 8, 9, 10, 11, 12, 13] rfl ?_
          simp only [d8_12, WD_fieldAddr, fieldAddr_p, WD_load, WD_move, WD_nil, DPureK_some, DReadK_some, pastR_nil, joinAll_nil, setH_self, geT_put, evO_tmp, keep_nil, keep_cons, keepK_eq, Nat.reduceEqDiff, Nat.reduceAdd, ↓reduceIte, eq_self, true_and, Nat.zero_add, Nat.add_zero, e0, e5, e6, e7, e12, e13, lx0, lx1]
          clear e0 e5 e6 e7 e8 e9 e10 e11 e12 e13 e73
          intro fr e0 e5 e6 e7 e8 e9 e10 e11 e12 e13
          exact hR' _ _ ⟨_, _, _, _, rfl, .inr ⟨List.eq_nil_of_length_eq_zero h0, rfl, rfl, rfl, rfl⟩, e0, e5, e6, e7, e8, e9, e10, e11, e12, e13⟩
        · rw [decide_eq_false h0] at e73
          refine W_cond e73 (fun h => by cases h) (fun _ => W_skip ?_)
          exact hR' _ _ ⟨_, _, _, _, rfl, .inl ⟨rfl, rfl, rfl, rfl⟩, e0, e5, e6, e7, e8, e9, e10, e11, e12, e13⟩
      clear e0 e5 e6 e7 e8 e9 e10 e11 e12 e13 e73 fr
      rintro fr _ ⟨lo', hi', le', ri', rfl, hlh, e0, e5, e6, e7, e8, e9, e10, e11, e12, e13⟩
      refine SeqK_n ?_
      have hI' := hI.push hy1 hy2 hpow hlh
      refine W_seq (W_draw0 [0, 5, 6, 7, 8, 9, 10, 11, 12, 13] rfl ?_)
      simp only [d8_13, WD_bu, bu_min, bu_max, WD_fieldAddr, fieldAddr_p, WD_load, WD_move, WD_nil, DPureK_some, DReadK_some, pastR_nil, joinAll_nil, setH_self, geT_put, evO_tmp, keep_nil, keep_cons, keepK_eq, List.map_cons, List.map_nil, Nat.reduceEqDiff, Nat.reduceAdd, ↓reduceIte, eq_self, true_and, Nat.zero_add, Nat.add_zero, e0, e5, e6, e7, e8, e9, e10, e11, e12, e13, lx0, lx1]
      clear e0 e5 e6 e7 e8 e9 e10 e11 e12 e13
      intro fr e0 e5 e6 e7 e8 e9 e10 e11 e12 e13
      refine SeqK_n ?_
      have hbs : buildSlV s2 3 [.int .i64 0, .int .i64 0, .float .f64 0] 1 [(0, 3, sI y)] = some (.slice (some ⟨s2.nxt, 0, none⟩) 1 1, .cells (eI y) false) := rfl
      obtain ⟨w', s3, ap, H4⟩ := H3.up1.push (bytes := 24) (new := eI y) rfl rfl (by omega) (by decide) (by omega) (by omega) (by omega)
      have hfm : M.flatMap eI ++ eI y = (M ++ [y]).flatMap eI := by rw [List.flatMap_append]; simp
      have hfl : M.length + 1 = (M ++ [y]).length := by simp
      rw [hfm, hfl] at H4
      refine W_ops [0, 5, 6, 7, 8, 9, 10, 11, 12] ?_
      simp only [o8_14, WO_append, WO_buildSlice, WO_load, WO_move, WO_nil, PureK_some, MemK_some, NewK_some, geT_put, evO_tmp, keep_nil, keep_cons, keepK_eq, List.map_cons, List.map_nil, Nat.reduceEqDiff, ↓reduceIte, eq_self, Nat.zero_mul, e0, e5, e6, e7, e8, e9, e10, e11, e12, e13, lx3, hbs, ap]
      clear e0 e5 e6 e7 e8 e9 e10 e11 e12 e13
      intro fr e0 e5 e6 e7 e8 e9 e10 e11 e12
      refine BlkK_n (SeqK_n ?_)
      refine W_ops [0, 5, 6, 7, 8, 9, 10, 11, 12] ?_
      simp only [o8_15, WO_bin, WO_move, bin_add, WO_nil, PureK_some, geT_put, evO_tmp, evO_const, keep_nil, keep_cons, keepK_eq, Nat.reduceEqDiff, ↓reduceIte, eq_self, e0, e5, e6, e7, e8, e9, e10, e11, e12, wrap_i64 (n := (k : Int) + 1) (by omega) (by omega)]
      clear e0 e5 e6 e7 e8 e9 e10 e11 e12
      intro fr e0 e5 e6 e7 e8 e9 e10 e11 e12
      exact LoopK_n (m' := m - 1) (by omega) ⟨k + 1, w', M ++ [y], _, _, _, _, _, by omega, by omega, by rw [← hfl]; omega, hI', e0, e5, e6, e7, e8, e9, e10, e11, by rw [e12]; rfl, H4.up1.tail⟩
    · rw [Bool.not_eq_true] at hok
      rw [hok] at e64
      refine W_seq (W_cond e64 (fun _ => W_exit (SeqK_x (BlkK_e (SeqK_n ?_)))) (fun h => by cases h))
      refine W_ops [0, 5, 6, 7, 8, 9, 10, 11, 12] ?_
      simp only [o8_15, WO_bin, WO_move, bin_add, WO_nil, PureK_some, geT_put, evO_tmp, evO_const, keep_nil, keep_cons, keepK_eq, Nat.reduceEqDiff, ↓reduceIte, eq_self, e0, e5, e6, e7, e8, e9, e10, e11, e12, wrap_i64 (n := (k : Int) + 1) (by omega) (by omega)]
      clear e0 e5 e6 e7 e8 e9 e10 e11 e12
      intro fr e0 e5 e6 e7 e8 e9 e10 e11 e12
      exact LoopK_n (m' := m - 1) (by omega) ⟨k + 1, w, M, ab, lo, hi, le, ri, by omega, by omega, by omega, hI, e0, e5, e6, e7, e8, e9, e10, e11, by rw [e12]; rfl, H3.tail⟩
  · refine LoopK_x (BlkK_e (SeqK_n ?_))
    have hM5 : M.length ≤ 500 := by omega
    have hB : cl n 0 1073741824 = n := by unfold cl; omega
    refine W_seq (W_ops [5, 6, 7, 8, 9, 10, 11, 14] ?_)
    simp only [o8_16, WO_call, WO_move, geT_put, evO_tmp, List.map_cons, List.map_nil, Nat.reduceEqDiff, ↓reduceIte, eq_self, e5, e6]
    have r20 := run20 hX ho (n := n) (H.own (List.mem_cons_self ..)).slc (by omega)
    rw [hB] at r20
    have hwi := fun h : ab = true => within hn1 hM5 hI h
    obtain ⟨cb, cg, cs, hcen, hwi⟩ : ∃ cb cg cs, cenF M n = cenV cb cg cs M.length ∧ (ab = true → fgeB cg (fsub .f64 (FloatKind.f64.nearest le) tinyE) = true ∧ fleB cg (fadd .f64 (FloatKind.f64.nearest ri) tinyE) = true ∧ fgeB cb 0 = true ∧ fleB cb (FloatKind.f64.nearest n) = true ∧
        ((hi - lo) * 3 ≤ n → (fgeB cb (fsub .f64 (FloatKind.f64.nearest lo) tinyE) = true ∧ fleB cb (fadd .f64 (FloatKind.f64.nearest hi) tinyE) = true) ∨ (lo = 0 ∧ fgeB cb (fsub .f64 (FloatKind.f64.nearest n) tinyE) = true))) := by
      cases ab with
      | true =>
        obtain ⟨p, q, r, g1, g2⟩ := hwi rfl
        exact ⟨p, q, r, g1, fun _ => g2⟩
      | false =>
        obtain ⟨p, q, r, g1⟩ := cenF_len M n
        exact ⟨p, q, r, g1, fun h => by cases h⟩
    rw [hcen] at r20
    refine CallK_of r20 ?_
    clear r20
    rintro _ s3 ⟨rfl, hs3⟩
    have H3 := (H.keep hs3).new z4
    have st : storeV (newAt s3 (.cells z4 false)) 4 (.pointer (some ⟨s3.nxt, 0, none⟩)) (.agg (cenV cb cg cs M.length).toArray) = some (undefV, setBlk (newAt s3 (.cells z4 false)) s3.nxt (.cells (cenV cb cg cs M.length) false)) := by
      exact store_all (H3.cell (List.mem_cons_self ..)) rfl rfl rfl
    have H4 := H3.setc (cs' := cenV cb cg cs M.length)
    have hz : newAt s3 (.cells [.float .f64 0, .float .f64 0, .float .f64 0, .int .i64 0] false) = newAt s3 (.cells z4 false) := rfl
    simp only [WO_alloc, WO_store, WO_nil, MemK_some, geT_put, puT_none, evO_tmp, keep_nil, keep_cons, keepK_eq, Nat.reduceEqDiff, ↓reduceIte, eq_self, e5, e6, e7, e8, e9, e10, e11, hz, st]
    clear e0 e5 e6 e7 e8 e9 e10 e11 e12 e28
    intro fr e5 e6 e7 e8 e9 e10 e11 e14
    refine SeqK_n ?_
    clear H3 st hz
    generalize setBlk (newAt s3 (.cells z4 false)) s3.nxt (.cells (cenV cb cg cs M.length) false) = s4 at H4 ⊢
    generalize s3.nxt = Bc at H4 e14
    have lx0 : loadV s4 none (.pointer (some ⟨Bc, 0, none⟩)) = some (.float .f64 cb) := load_g (o := 0) (H4.cell (List.mem_cons_self ..))
    have lx1 : loadV s4 none (.pointer (some ⟨Bc, 1, none⟩)) = some (.float .f64 cg) := load_g (o := 1) (H4.cell (List.mem_cons_self ..))
    have lx3 : loadV s4 none (.pointer (some ⟨Bc, 3, none⟩)) = some (.int .i64 (M.length : Nat)) := load_g (o := 3) (H4.cell (List.mem_cons_self ..))
    have hMl := (H4.own (v := w) (n := M.length) (sz := 3) (cs := M.flatMap eI) (by simp)).slc.len
    refine W_assoc ?_
    cases ab with
    | false =>
      refine W_seq (W_ops [5, 6, 8, 9, 10, 11, 14, 106] ?_)
      simp only [o8_17, WO_move, WO_un, un_not, WO_nil, PureK_some, geT_put, evO_tmp, keep_nil, keep_cons, keepK_eq, Nat.reduceEqDiff, ↓reduceIte, Bool.not_false, eq_self, e5, e6, e7, e8, e9, e10, e11, e14]
      clear e5 e6 e7 e8 e9 e10 e11 e14
      intro fr e5 e6 e8 e9 e10 e11 e14 e106
      refine SeqK_n ?_
      refine W_seq (W_cond e106 (fun _ => ?_) (fun h => by cases h))
      refine W_seq (W_ops [4] ?_)
      simp only [o8_18, WO_bin, WO_bu, WO_call, WO_fieldAddr, fieldAddr_p, WO_load, WO_move, bin_eql, PureK_some, WO_guard, want_v, wantB_t, geT_put, evO_tmp, List.map_cons, List.map_nil, Nat.reduceEqDiff, ↓reduceIte, decide_true, eq_self, Nat.zero_add, e6, e14, lx3, hMl]
      refine CallK_of (show CallP X 15 [] s4 (fun r s' => r = .bool true ∧ s4 = s') from ⟨_, _, Call_orc hw, rfl, rfl⟩) ?_
      rintro _ _ ⟨rfl, rfl⟩
      simp only [WO_move, WO_pick, pick_b, WO_nil, PureK_some, geT_put, evO_tmp, evO_const, keep_nil, keep_cons, keepK_eq, Nat.reduceEqDiff, ↓reduceIte, eq_self]
      clear e5 e6 e8 e9 e10 e11 e14 e106
      intro fr e4
      refine SeqK_n ?_
      exact W_ret (SeqK_r (Ret1 e4 rfl))
    | true =>
      obtain ⟨A1, A2, A3, A4, A5⟩ := hwi rfl
      replace A1 : (ford .f64 cg (fsub .f64 (FloatKind.f64.nearest le) 4517329193108106637) == some .gt || ford .f64 cg (fsub .f64 (FloatKind.f64.nearest le) 4517329193108106637) == some .eq) = true := A1
      replace A2 : (ford .f64 cg (fadd .f64 (FloatKind.f64.nearest ri) 4517329193108106637) == some .lt || ford .f64 cg (fadd .f64 (FloatKind.f64.nearest ri) 4517329193108106637) == some .eq) = true := A2
      replace A3 : (ford .f64 cb 0 == some .gt || ford .f64 cb 0 == some .eq) = true := A3
      replace A4 : (ford .f64 cb (FloatKind.f64.nearest n) == some .lt || ford .f64 cb (FloatKind.f64.nearest n) == some .eq) = true := A4
      have hIb := hI.b
      have hIc := hI.c
      refine W_seq (W_ops [5, 6, 8, 9, 10, 11, 14, 106] ?_)
      simp only [o8_17, WO_move, WO_un, un_not, WO_nil, PureK_some, geT_put, evO_tmp, keep_nil, keep_cons, keepK_eq, Nat.reduceEqDiff, ↓reduceIte, Bool.not_true, eq_self, e5, e6, e7, e8, e9, e10, e11, e14]
      clear e5 e6 e7 e8 e9 e10 e11 e14
      intro fr e5 e6 e8 e9 e10 e11 e14 e106
      refine SeqK_n ?_
      refine W_seq (W_cond e106 (fun h => by cases h) (fun _ => W_skip (SeqK_n ?_)))
      refine W_seq (W_ops [5, 8, 9, 10, 11, 14, 15] ?_)
      simp only [o8_19, WO_move, WO_nil, geT_put, evO_const, keep_nil, keep_cons, keepK_eq, Nat.reduceEqDiff, ↓reduceIte, eq_self, e5, e8, e9, e10, e11, e14]
      clear e5 e6 e8 e9 e10 e11 e14 e106
      intro fr e5 e8 e9 e10 e11 e14 e15
      refine SeqK_n ?_
      refine W_seq (W_ops [5, 8, 9, 14, 15, 16] ?_)
      simp only [o8_20, WO_bin, WO_conv, conv_float, WO_fieldAddr, fieldAddr_p, WO_load, WO_move, WO_pick, pick_b, binf_add, binf_geq, binf_leq, binf_sub, WO_nil, PureK_some, WO_guard, want_v, wantB_t, geT_put, evO_tmp, evO_const, keep_nil, keep_cons, keepK_eq, Nat.reduceEqDiff, ↓reduceIte, eq_self, Nat.zero_add, Nat.add_zero, e5, e8, e9, e10, e11, e14, e15, lx0, lx1, A1, A2, A3, A4]
      clear e5 e8 e9 e10 e11 e14 e15
      intro fr e5 e8 e9 e14 e15 e16
      refine SeqK_n ?_
      refine W_assoc ?_
      refine W_seq (W_ops [5, 8, 9, 14, 15, 16, 148] ?_)
      simp only [o8_21, WO_bin, WO_move, bin_gtr, bin_mul, bin_sub, WO_nil, PureK_some, geT_put, evO_tmp, evO_const, keep_nil, keep_cons, keepK_eq, Nat.reduceEqDiff, ↓reduceIte, eq_self, e5, e8, e9, e14, e15, e16, wrap_i64 (n := hi - lo) (by omega) (by omega), wrap_i64 (n := (hi - lo) * 3) (by omega) (by omega)]
      clear e5 e8 e9 e14 e15 e16
      intro fr e5 e8 e9 e14 e15 e16 e148
      refine SeqK_n ?_
      refine W_seq (W_if e148 (fun hgt => ?_) (fun hgt => W_skip (SeqK_n ?_)))
      · refine W_seq (W_ops [4] ?_)
        simp only [o8_22, WO_call, WO_move, WO_guard, want_v, wantB_t, geT_put, evO_tmp, List.map_nil, ↓reduceIte, eq_self, e16]
        refine CallK_of (show CallP X 15 [] s4 (fun r s' => r = .bool true ∧ s4 = s') from ⟨_, _, Call_orc hw, rfl, rfl⟩) ?_
        rintro _ _ ⟨rfl, rfl⟩
        simp only [WO_move, WO_pick, pick_b, WO_nil, PureK_some, geT_put, evO_tmp, evO_const, keep_nil, keep_cons, keepK_eq, Nat.reduceEqDiff, ↓reduceIte, eq_self]
        clear e5 e8 e9 e14 e15 e16 e148
        intro fr e4
        refine SeqK_n ?_
        exact W_ret (SeqK_r (Ret1 e4 rfl))
      have A6 := A5 (by omega)
      refine W_seq (W_opsB [16, 17] (fun fr1 s6 => s4 = s6 ∧ geT fr1 16 = .bool true ∧ geT fr1 17 = .bool true) ?_ ?_)
      · intro R' hR'
        by_cases hB : fgeB cb (fsub .f64 (FloatKind.f64.nearest lo) tinyE) = true ∧ fleB cb (fadd .f64 (FloatKind.f64.nearest hi) tinyE) = true
        · have B1 : (ford .f64 cb (fsub .f64 (FloatKind.f64.nearest lo) 4517329193108106637) == some .gt || ford .f64 cb (fsub .f64 (FloatKind.f64.nearest lo) 4517329193108106637) == some .eq) = true := hB.1
          have B2 : (ford .f64 cb (fadd .f64 (FloatKind.f64.nearest hi) 4517329193108106637) == some .lt || ford .f64 cb (fadd .f64 (FloatKind.f64.nearest hi) 4517329193108106637) == some .eq) = true := hB.2
          simp only [o8_23, WO_bin, WO_conv, conv_float, WO_fieldAddr, fieldAddr_p, WO_load, WO_move, WO_pick, pick_b, binf_add, binf_geq, binf_leq, binf_sub, WO_nil, PureK_some, WO_guard, want_v, wantB_t, wantB_f, geT_put, evO_tmp, evO_const, keep_nil, keep_cons, keepK_eq, Nat.reduceEqDiff, ↓reduceIte, Bool.not_true, eq_self, Bool.false_eq_true, Nat.add_zero, e5, e8, e9, e14, e15, e16, lx0, B1, B2]
          intro fr e16 e17
          exact hR' _ _ ⟨rfl, e16, e17⟩
        · rcases A6 with A6 | ⟨hl0, A6⟩
          · exact absurd A6 hB
          have B3 : (ford .f64 cb (fsub .f64 (FloatKind.f64.nearest n) 4517329193108106637) == some .gt || ford .f64 cb (fsub .f64 (FloatKind.f64.nearest n) 4517329193108106637) == some .eq) = true := A6
          have hl1 : decide (lo = 0) = true := decide_eq_true hl0
          cases B1 : fgeB cb (fsub .f64 (FloatKind.f64.nearest lo) tinyE) with
          | false =>
            replace B1 : (ford .f64 cb (fsub .f64 (FloatKind.f64.nearest lo) 4517329193108106637) == some .gt || ford .f64 cb (fsub .f64 (FloatKind.f64.nearest lo) 4517329193108106637) == some .eq) = false := B1
            simp only [o8_23, WO_bin, WO_conv, conv_float, WO_fieldAddr, fieldAddr_p, WO_load, WO_move, WO_pick, pick_b, bin_eql, binf_geq, binf_sub, WO_nil, PureK_some, WO_guard, want_v, wantB_t, wantB_f, geT_put, evO_tmp, evO_const, keep_nil, keep_cons, keepK_eq, Nat.reduceEqDiff, ↓reduceIte, Bool.not_false, eq_self, Bool.false_eq_true, Nat.add_zero, e5, e8, e14, e15, e16, lx0, B1, hl1, B3]
            intro fr e16 e17
            exact hR' _ _ ⟨rfl, e16, e17⟩
          | true =>
            have B2 : (ford .f64 cb (fadd .f64 (FloatKind.f64.nearest hi) 4517329193108106637) == some .lt || ford .f64 cb (fadd .f64 (FloatKind.f64.nearest hi) 4517329193108106637) == some .eq) = false := by
              rw [← Bool.not_eq_true]; exact fun h => hB ⟨B1, h⟩
            replace B1 : (ford .f64 cb (fsub .f64 (FloatKind.f64.nearest lo) 4517329193108106637) == some .gt || ford .f64 cb (fsub .f64 (FloatKind.f64.nearest lo) 4517329193108106637) == some .eq) = true := B1
            simp only [o8_23, WO_bin, WO_conv, conv_float, WO_fieldAddr, fieldAddr_p, WO_load, WO_move, WO_pick, pick_b, binf_add, bin_eql, binf_geq, binf_leq, binf_sub, WO_nil, PureK_some, WO_guard, want_v, wantB_t, wantB_f, geT_put, evO_tmp, evO_const, keep_nil, keep_cons, keepK_eq, Nat.reduceEqDiff, ↓reduceIte, Bool.not_false, eq_self, Bool.false_eq_true, Nat.add_zero, e5, e8, e9, e14, e15, e16, lx0, B1, B2, hl1, B3]
            intro fr e16 e17
            exact hR' _ _ ⟨rfl, e16, e17⟩
      clear e5 e8 e9 e14 e15 e16 e148 fr
      rintro fr _ ⟨rfl, e16, e17⟩
      refine SeqK_n ?_
      refine W_seq (W_ops [4] ?_)
      simp only [o8_24, WO_call, WO_move, WO_pick, pick_b, PureK_some, WO_guard, want_v, wantB_t, geT_put, evO_tmp, evO_const, List.map_nil, Nat.reduceEqDiff, ↓reduceIte, eq_self, e16, e17]
      refine CallK_of (show CallP X 15 [] s4 (fun r s' => r = .bool true ∧ s4 = s') from ⟨_, _, Call_orc hw, rfl, rfl⟩) ?_
      rintro _ _ ⟨rfl, rfl⟩
      simp only [WO_move, WO_pick, pick_b, WO_nil, PureK_some, geT_put, evO_tmp, evO_const, keep_nil, keep_cons, keepK_eq, Nat.reduceEqDiff, ↓reduceIte, eq_self]
      clear e16 e17
      intro fr e4
      refine SeqK_n ?_
      exact W_ret (Ret1 e4 rfl)

end Go.Proofs.Ytpphomoijlilfaa

/- PeaksWithin: its run at any arguments. -/
namespace Go.Proofs.Ytpphomoijlilfaa
open Go Go.Vam

set_option maxRecDepth 100000 in
theorem runPeaksWithin {T : Type} {s : Mm} {avs : List Value} {ds : List (DataW T)} (hs : Lt s) (h : AbsL Try.prog s [25, 50] avs ds) : CallP ⟨orcW 15, fnsOf Try.prog⟩ 8 avs s (fun v _ => v = .bool true) := by
  obtain ⟨v0, vs, d0, ds, rfl, rfl, h0, h⟩ := AbsL.cons h
  obtain ⟨v1, vs, d1, ds, rfl, rfl, h1, h⟩ := AbsL.cons h
  obtain ⟨rfl, rfl⟩ := AbsL.nil h
  obtain ⟨L, g1, _, g3⟩ := spots_open hs h0
  unfold AbsV at h1
  rw [Try.underlying50] at h1
  obtain ⟨b, g2, _, w2⟩ := Abs.i Try.underlying50 h1
  cases g2
  have hb : 0 ≤ b ∧ b ≤ 65535 := by
    simp only [Lit.wf, IntKind.min, IntKind.max, IntKind.bits, IntKind.signed] at w2
    simpa using w2
  exact run8 (X := ⟨orcW 15, fnsOf Try.prog⟩) rfl (fun f args hf => orcW_other hf args) (orcW_self 15) g1 g3 hb

end Go.Proofs.Ytpphomoijlilfaa
