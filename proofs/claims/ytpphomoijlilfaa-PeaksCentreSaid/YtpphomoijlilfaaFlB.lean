/- Rounding, told by the rungs: a rung is below the rounded one iff its value is below the exact one's rounding. -/
import Derived.Test.YtpphomoijlilfaaFlA
namespace Go.Vam
open Go

theorem d_fb : Ieee.double.fractionBits = 52 := rfl
theorem d_lp : Ieee.double.leastPlace = -1074 := by decide

/-- What a rung is worth, in units of the least place. -/
def sv (r : Nat) : Nat := if r < 4503599627370496 then r else (4503599627370496 + r % 4503599627370496) * 2 ^ (r / 4503599627370496 - 1)

theorem sv_at {q low : Nat} (h1 : low ≤ 9007199254740992) (h2 : q = 0 ∨ 4503599627370496 ≤ low) : sv (q * 4503599627370496 + low) = low * 2 ^ q := by
  unfold sv
  by_cases h3 : low < 4503599627370496
  · have : q = 0 := by omega
    subst this
    rw [if_pos (by omega)]; simp
  · rw [if_neg (by omega)]
    by_cases h4 : low = 9007199254740992
    · have e1 : (q * 4503599627370496 + low) / 4503599627370496 - 1 = q + 1 := by omega
      have e2 : (q * 4503599627370496 + low) % 4503599627370496 = 0 := by omega
      rw [e1, e2, Nat.pow_succ, h4, Nat.add_zero, Nat.mul_comm (2 ^ q) 2, ← Nat.mul_assoc]
    · have e1 : (q * 4503599627370496 + low) / 4503599627370496 - 1 = q := by omega
      have e2 : 4503599627370496 + (q * 4503599627370496 + low) % 4503599627370496 = low := by omega
      rw [e1, e2]

theorem sv_dec (r : Nat) : ∃ q low, r = q * 4503599627370496 + low ∧ low < 9007199254740992 ∧ (q = 0 ∨ 4503599627370496 ≤ low) ∧ sv r = low * 2 ^ q := by
  by_cases h : r < 4503599627370496
  · exact ⟨0, r, by omega, by omega, .inl rfl, by rw [sv, if_pos h]; simp⟩
  · refine ⟨r / 4503599627370496 - 1, 4503599627370496 + r % 4503599627370496, by omega, by omega, .inr (by omega), by rw [sv, if_neg h]⟩

theorem sv_succ (r : Nat) : sv r < sv (r + 1) := by
  obtain ⟨q, low, h1, h2, h3, h4⟩ := sv_dec r
  have h5 := sv_at (q := q) (low := low + 1) (by omega) (by omega)
  rw [← Nat.add_assoc, ← h1] at h5
  rw [h4, h5]
  exact Nat.mul_lt_mul_of_pos_right (by omega) (Nat.two_pow_pos q)

theorem sv_lt {r q : Nat} (h : r < q) : sv r < sv q := by
  obtain ⟨d, rfl⟩ : ∃ d, q = r + 1 + d := ⟨q - r - 1, by omega⟩
  clear h
  induction d with
  | zero => exact sv_succ r
  | succ d ih => exact Nat.lt_trans ih (sv_succ _)

theorem sv_le {r q : Nat} (h : r ≤ q) : sv r ≤ sv q := by
  rcases Nat.lt_or_eq_of_le h with h | h
  · exact Nat.le_of_lt (sv_lt h)
  · rw [h]; exact Nat.le_refl _

theorem sv_lt_inv {r q : Nat} (h : sv r < sv q) : r < q := Nat.lt_of_not_le fun hx => absurd (sv_le hx) (Nat.not_le.2 h)
theorem sv_le_inv {r q : Nat} (h : sv r ≤ sv q) : r ≤ q := Nat.le_of_not_lt fun hx => absurd (sv_lt hx) (Nat.not_lt.2 h)
theorem sv_inj {r q : Nat} (h : sv r = sv q) : r = q := Nat.le_antisymm (sv_le_inv (Nat.le_of_eq h)) (sv_le_inv (Nat.le_of_eq h.symm))
theorem sv_zero : sv 0 = 0 := rfl
theorem sv_pos {r : Nat} (h : 0 < r) : 0 < sv r := by have := sv_lt h; rwa [sv_zero] at this

/-- A value of some size is a multiple of so much. -/
theorem sv_dvd {r K : Nat} (h : 2 ^ (K + 52) ≤ sv r) : ∃ t, sv r = t * 2 ^ K := by
  obtain ⟨q, low, h1, h2, h3, h4⟩ := sv_dec r
  rw [h4] at h ⊢
  have hq : K ≤ q := by
    apply Nat.le_of_not_lt
    intro hlt
    have e1 : low * 2 ^ q < 2 ^ 53 * 2 ^ q := Nat.mul_lt_mul_of_pos_right (by omega) (Nat.two_pow_pos q)
    rw [← Nat.pow_add] at e1
    have e2 : 2 ^ (53 + q) ≤ 2 ^ (K + 52) := Nat.pow_le_pow_right (by omega) (by omega)
    omega
  refine ⟨low * 2 ^ (q - K), ?_⟩
  rw [Nat.mul_assoc, ← Nat.pow_add]
  congr 2; omega

theorem log2_le {n : Nat} (h : n ≠ 0) : 2 ^ n.log2 ≤ n := Nat.log2_self_le h
theorem log2_lt {n : Nat} : n < 2 ^ (n.log2 + 1) := Nat.lt_log2_self

theorem cut_spec (n d : Nat) : Ieee.Toward.even.cut true n d = n / 2 ^ d ∨ (Ieee.Toward.even.cut true n d = n / 2 ^ d + 1 ∧ n % 2 ^ d ≠ 0) := by
  unfold Ieee.Toward.cut
  simp only [Nat.one_shiftLeft]
  by_cases hd : d ≤ n.log2 + 2
  · rw [Nat.min_eq_left hd]
    have hp := Nat.two_pow_pos d
    generalize 2 ^ d = g at hp ⊢
    cases hb : (decide (g < 2 * (n % g)) || (g == 2 * (n % g) && n / g % 2 == 1)) with
    | false => left; simp
    | true =>
      right
      refine ⟨by simp, fun h0 => ?_⟩
      rw [h0] at hb
      simp at hb
      omega
  · have hl : n < 2 ^ (n.log2 + 1) := log2_lt
    rw [Nat.min_eq_right (by omega)]
    have e1 : 2 ^ (n.log2 + 2) = 2 * 2 ^ (n.log2 + 1) := by rw [Nat.pow_succ, Nat.mul_comm]
    have e2 : 2 ^ (n.log2 + 2) ≤ 2 ^ d := Nat.pow_le_pow_right (by omega) (by omega)
    left
    have z1 : n / 2 ^ (n.log2 + 2) = 0 := Nat.div_eq_of_lt (by omega)
    have z2 : n % 2 ^ (n.log2 + 2) = n := Nat.mod_eq_of_lt (by omega)
    have z3 : n / 2 ^ d = 0 := Nat.div_eq_of_lt (by omega)
    rw [z1, z2, z3]
    have b1 : decide (2 ^ (n.log2 + 2) < 2 * n) = false := decide_eq_false (by omega)
    simp [b1]

/-- The two rungs about a number, and the one that is taken. -/
theorem rung_spec {m : Nat} (hm : m ≠ 0) (i : Int) : ∃ q low, low < 9007199254740992 ∧ (q = 0 ∨ 4503599627370496 ≤ low) ∧ low * 2 ^ q * 2 ^ (-1074 - i).toNat ≤ m * 2 ^ (i + 1074).toNat ∧ m * 2 ^ (i + 1074).toNat < (low + 1) * 2 ^ q * 2 ^ (-1074 - i).toNat ∧
    (rungN m i = min (q * 4503599627370496 + low) Ieee.double.infRung ∨ (rungN m i = min (q * 4503599627370496 + low + 1) Ieee.double.infRung ∧ low * 2 ^ q * 2 ^ (-1074 - i).toNat < m * 2 ^ (i + 1074).toNat)) := by
  have h1 := log2_le hm
  have h2 := log2_lt (n := m)
  unfold rungN
  rw [if_neg hm, d_fb, d_lp, d_bi]
  generalize m.log2 = l at h1 h2 ⊢
  obtain ⟨q, hq⟩ : ∃ q : Nat, max (i + l - (52 : Nat)) (-1074) = (q : Int) - 1074 := ⟨(max (i + l - (52 : Nat)) (-1074) + 1074).toNat, by omega⟩
  rw [hq]
  have e0 : ((q : Int) - 1074 - -1074).toNat = q := by omega
  rw [e0, Nat.shiftLeft_eq]
  by_cases hi : (q : Int) - 1074 ≤ i
  · -- nothing is dropped
    obtain ⟨u, hu⟩ : ∃ u : Nat, i = (q : Int) - 1074 + u := ⟨(i - ((q : Int) - 1074)).toNat, by omega⟩
    have e1 : (i - ((q : Int) - 1074)).toNat = u := by omega
    have e2 : ((q : Int) - 1074 - i).toNat = 0 := by omega
    have e3 : (-1074 - i).toNat = 0 := by omega
    have e4 : (i + 1074).toNat = u + q := by omega
    rw [e1, e2, e3, e4]
    have hul : u + l ≤ 52 := by omega
    have hlow : m * 2 ^ u < 9007199254740992 := by
      have a : m * 2 ^ u < 2 ^ (l + 1) * 2 ^ u := Nat.mul_lt_mul_of_pos_right h2 (Nat.two_pow_pos u)
      rw [← Nat.pow_add] at a
      have b : 2 ^ (l + 1 + u) ≤ 2 ^ 53 := Nat.pow_le_pow_right (by omega) (by omega)
      omega
    have hge : q = 0 ∨ 4503599627370496 ≤ m * 2 ^ u := by
      by_cases hq0 : q = 0
      · exact .inl hq0
      · right
        have hul' : u + l = 52 := by omega
        have a : 2 ^ l * 2 ^ u ≤ m * 2 ^ u := Nat.mul_le_mul_right _ h1
        rw [← Nat.pow_add, show l + u = 52 by omega] at a
        omega
    have hex : m * 2 ^ (u + q) = m * 2 ^ u * 2 ^ q := by rw [Nat.pow_add, Nat.mul_assoc]
    refine ⟨q, m * 2 ^ u, hlow, hge, by rw [hex]; simp, ?_, .inl ?_⟩
    · rw [hex, Nat.pow_zero, Nat.mul_one]
      exact Nat.mul_lt_mul_of_pos_right (by omega) (Nat.two_pow_pos q)
    · have : Ieee.Toward.even.cut true (m * 2 ^ u) 0 = m * 2 ^ u := by
        rcases cut_spec (m * 2 ^ u) 0 with h | ⟨_, h⟩
        · rw [h]; simp
        · exact absurd (by simp [Nat.mod_one]) h
      rw [this]
  · obtain ⟨d, hd⟩ : ∃ d : Nat, (q : Int) - 1074 = i + d := ⟨((q : Int) - 1074 - i).toNat, by omega⟩
    have e1 : (i - ((q : Int) - 1074)).toNat = 0 := by omega
    have e2 : ((q : Int) - 1074 - i).toNat = d := by omega
    rw [e1, e2, Nat.pow_zero, Nat.mul_one]
    have hlow : m / 2 ^ d < 9007199254740992 := by
      rw [Nat.div_lt_iff_lt_mul (Nat.two_pow_pos d)]
      have b : 2 ^ (l + 1) ≤ 2 ^ (53 + d) := Nat.pow_le_pow_right (by omega) (by omega)
      rw [Nat.pow_add 2 53 d] at b
      omega
    have hge : q = 0 ∨ 4503599627370496 ≤ m / 2 ^ d := by
      by_cases hq0 : q = 0
      · exact .inl hq0
      · right
        rw [Nat.le_div_iff_mul_le (Nat.two_pow_pos d)]
        have : l = 52 + d := by omega
        rw [this, Nat.pow_add 2 52 d] at h1
        omega
    have hdm := Nat.div_add_mod m (2 ^ d)
    have hmod := Nat.mod_lt m (Nat.two_pow_pos d)
    have hqAB : 2 ^ q * 2 ^ (-1074 - i).toNat = 2 ^ d * 2 ^ (i + 1074).toNat := by
      rw [← Nat.pow_add, ← Nat.pow_add]; congr 1; omega
    have k1 : m / 2 ^ d * 2 ^ q * 2 ^ (-1074 - i).toNat = 2 ^ d * (m / 2 ^ d) * 2 ^ (i + 1074).toNat := by
      rw [Nat.mul_assoc, hqAB, ← Nat.mul_assoc, Nat.mul_comm (m / 2 ^ d)]
    have k2 : (m / 2 ^ d + 1) * 2 ^ q * 2 ^ (-1074 - i).toNat = (2 ^ d * (m / 2 ^ d) + 2 ^ d) * 2 ^ (i + 1074).toNat := by
      rw [Nat.mul_assoc, hqAB, ← Nat.mul_assoc, Nat.add_mul (m / 2 ^ d), Nat.mul_comm (m / 2 ^ d), Nat.one_mul]
    refine ⟨q, m / 2 ^ d, hlow, hge, ?_, ?_, ?_⟩
    · rw [k1]; exact Nat.mul_le_mul_right _ (by omega)
    · rw [k2]; exact Nat.mul_lt_mul_of_pos_right (by omega) (Nat.two_pow_pos _)
    · rcases cut_spec m d with h | ⟨h, h0⟩
      · left; rw [h]
      · right
        rw [h, ← Nat.add_assoc]
        refine ⟨rfl, ?_⟩
        rw [k1]
        exact Nat.mul_lt_mul_of_pos_right (by omega) (Nat.two_pow_pos _)

theorem rungN_zero (i : Int) : rungN 0 i = 0 := by unfold rungN; simp

theorem rung_ge {m : Nat} {i : Int} {w : Nat} (hw : w ≤ Ieee.double.infRung) (h : sv w * 2 ^ (-1074 - i).toNat ≤ m * 2 ^ (i + 1074).toNat) : w ≤ rungN m i := by
  by_cases hm : m = 0
  · subst hm
    rw [rungN_zero]
    rcases Nat.eq_zero_or_pos w with h0 | h0
    · omega
    · have := Nat.mul_pos (sv_pos h0) (Nat.two_pow_pos (-1074 - i).toNat)
      simp at h; omega
  · obtain ⟨q, low, h1, h2, h3, h4, h5⟩ := rung_spec hm i
    have e := sv_at (q := q) (low := low + 1) (by omega) (by omega)
    have hlt : sv w * 2 ^ (-1074 - i).toNat < sv (q * 4503599627370496 + (low + 1)) * 2 ^ (-1074 - i).toNat := by rw [e]; exact Nat.lt_of_le_of_lt h h4
    have := sv_lt_inv (Nat.lt_of_mul_lt_mul_right hlt)
    rcases h5 with h | ⟨h, _⟩ <;> rw [h] <;> exact Nat.le_min.2 ⟨by omega, hw⟩

theorem rung_le {m : Nat} {i : Int} {w : Nat} (h : m * 2 ^ (i + 1074).toNat ≤ sv w * 2 ^ (-1074 - i).toNat) : rungN m i ≤ w := by
  by_cases hm : m = 0
  · subst hm; rw [rungN_zero]; omega
  · obtain ⟨q, low, h1, h2, h3, h4, h5⟩ := rung_spec hm i
    have e := sv_at (q := q) (low := low) (by omega) (by omega)
    rcases h5 with h5 | ⟨h5, h6⟩
    · have hle : sv (q * 4503599627370496 + low) * 2 ^ (-1074 - i).toNat ≤ sv w * 2 ^ (-1074 - i).toNat := by rw [e]; exact Nat.le_trans h3 h
      have := sv_le_inv (Nat.le_of_mul_le_mul_right hle (Nat.two_pow_pos _))
      rw [h5]; exact Nat.le_trans (Nat.min_le_left _ _) this
    · have hlt : sv (q * 4503599627370496 + low) * 2 ^ (-1074 - i).toNat < sv w * 2 ^ (-1074 - i).toNat := by rw [e]; exact Nat.lt_of_lt_of_le h6 h
      have := sv_lt_inv (Nat.lt_of_mul_lt_mul_right hlt)
      rw [h5]; exact Nat.le_trans (Nat.min_le_left _ _) this

end Go.Vam

/- The operations of floats, told by rungs. -/
namespace Go.Vam
open Go

abbrev infR : Nat := 9218868437227405312

/-- How many units one is. -/
def twoP (k : Nat) : Nat := 2 ^ k
theorem twoP_def (k : Nat) : twoP k = 2 ^ k := rfl
theorem twoP_pos (k : Nat) : 0 < twoP k := Nat.two_pow_pos k
theorem twoP_mul (a b : Nat) : twoP a * twoP b = twoP (a + b) := (Nat.pow_add 2 a b).symm
theorem twoP_join {a b c : Nat} (h : a + b = c) : twoP a * twoP b = twoP c := by subst h; exact twoP_mul a b
theorem twoP_lt {a b : Nat} (h : a < b) : twoP a < twoP b := Nat.pow_lt_pow_right (by omega) h
theorem twoP_le {a b : Nat} (h : a ≤ b) : twoP a ≤ twoP b := Nat.pow_le_pow_right (by omega) h
theorem twoP_add (k j : Nat) : 2 ^ k * twoP j = 2 ^ (k + j) := (Nat.pow_add 2 k j).symm

def oneU : Nat := twoP 1074
theorem oneU_pos : 0 < oneU := twoP_pos 1074
theorem oneU_add (k : Nat) : 2 ^ k * oneU = 2 ^ (k + 1074) := twoP_add k 1074

/-- z is what N / D units come to. -/
structure RN (N D z : Nat) : Prop where
  inf : z ≤ infR
  ge : ∀ w, w ≤ infR → sv w * D ≤ N → w ≤ z
  le : ∀ w, N ≤ sv w * D → z ≤ w

theorem rungN_inf (m : Nat) (i : Int) : rungN m i ≤ infR := by
  unfold rungN
  split
  · exact Nat.zero_le _
  · rw [d_ir]; exact Nat.min_le_right _ _

theorem rn_of {N D m : Nat} {i : Int} (hD : 0 < D) (h : N * 2 ^ (-1074 - i).toNat = m * 2 ^ (i + 1074).toNat * D) : RN N D (rungN m i) := by
  refine ⟨rungN_inf m i, fun w hw hs => rung_ge (by rw [d_ir]; exact hw) ?_, fun w hs => rung_le ?_⟩
  · have h1 : sv w * D * 2 ^ (-1074 - i).toNat ≤ N * 2 ^ (-1074 - i).toNat := Nat.mul_le_mul_right _ hs
    rw [h] at h1
    have h2 : sv w * 2 ^ (-1074 - i).toNat * D ≤ m * 2 ^ (i + 1074).toNat * D := by rw [Nat.mul_right_comm]; exact h1
    exact Nat.le_of_mul_le_mul_right h2 hD
  · have h1 : N * 2 ^ (-1074 - i).toNat ≤ sv w * D * 2 ^ (-1074 - i).toNat := Nat.mul_le_mul_right _ hs
    rw [h, Nat.mul_right_comm (sv w)] at h1
    exact Nat.le_of_mul_le_mul_right h1 hD

theorem RN.exact {N D z w : Nat} (h : RN N D z) (hw : w ≤ infR) (e : sv w * D = N) : z = w :=
  Nat.le_antisymm (h.le w (Nat.le_of_eq e.symm)) (h.ge w hw (Nat.le_of_eq e))

theorem rungD_fin {r : Nat} (h : r < infR) : ∃ m q : Nat, (∀ s, rungD s r = .number s m (-1074 + (q : Int))) ∧ m * 2 ^ q = sv r ∧ m < 9007199254740992 := by
  unfold rungD sv
  rw [d_bi, d_ir, d_lp]
  by_cases h1 : r < 4503599627370496
  · exact ⟨r, 0, fun s => by rw [if_pos h1]; rfl, by rw [if_pos h1]; simp, by omega⟩
  · exact ⟨4503599627370496 + r % 4503599627370496, r / 4503599627370496 - 1, fun s => by rw [if_neg h1, if_pos h], by rw [if_neg h1], by omega⟩

theorem write_N (s : Bool) (m : Nat) (i : Int) : Ieee.double.write (.number s m i) = Ieee.double.word s (rungN m i) := by
  unfold Ieee.Format.write Ieee.Format.nearest rungN
  by_cases hm : m = 0
  · simp [hm]
  · simp only [hm, if_false, cut_even s]

theorem mul_rn {r p : Nat} (hr : r < infR) (hp : p < infR) : ∃ z, (∀ s t, fmul .f64 (Ieee.double.word s r) (Ieee.double.word t p) = Ieee.double.word (s ^^ t) z) ∧ RN (sv r * sv p) oneU z := by
  obtain ⟨m, q, h1, h2, h3⟩ := rungD_fin hr
  obtain ⟨n, q', g1, g2, g3⟩ := rungD_fin hp
  refine ⟨rungN (m * n) (-1074 + (q : Int) + (-1074 + (q' : Int))), fun s t => ?_, rn_of oneU_pos ?_⟩
  · show fres .f64 (((Ieee.double.read _).product (Ieee.double.read _)).map Ieee.double.write) = _
    rw [read_word _ _ (by rw [d_ir]; exact Nat.le_of_lt hr), read_word _ _ (by rw [d_ir]; exact Nat.le_of_lt hp), h1, g1]
    simp only [Ieee.Datum.product, Option.map_some, fres, write_N]
  · rw [← h2, ← g2]
    have e : m * 2 ^ q * (n * 2 ^ q') = m * n * 2 ^ (q + q') := by rw [Nat.pow_add]; ac_rfl
    rw [e, Nat.mul_assoc (m * n), Nat.mul_assoc (m * n), ← Nat.pow_add, oneU_add]
    congr 2
    omega

theorem quot_core {x n q0 rem A B : Nat} (hx : 2 * q0 * 2 ^ A < x * 2 ^ B) (hx2 : x * 2 ^ B < (2 * q0 + 2) * 2 ^ A) (hq : 9007199254740992 ≤ q0) (hAB : A = 0 ∨ B = 0) (w : Nat) (hw : x = sv w) : x * 2 ^ B = (2 * q0 + 1) * 2 ^ A := by
  rcases hAB with h | h
  · subst h
    simp only [Nat.pow_zero, Nat.mul_one] at hx hx2 ⊢
    omega
  · subst h
    simp only [Nat.pow_zero, Nat.mul_one] at hx hx2 ⊢
    have h1 : 2 ^ (A + 2 + 52) ≤ sv w := by
      have e : 2 ^ (A + 2 + 52) = 18014398509481984 * 2 ^ A := by rw [Nat.add_assoc, Nat.pow_add, Nat.mul_comm]
      have : 18014398509481984 * 2 ^ A ≤ 2 * q0 * 2 ^ A := Nat.mul_le_mul_right _ (by omega)
      omega
    obtain ⟨t, ht⟩ := sv_dvd h1
    have e : t * 2 ^ (A + 2) = 4 * t * 2 ^ A := by rw [Nat.pow_add]; show t * (2 ^ A * 4) = 4 * t * 2 ^ A; ac_rfl
    rw [hw, ht, e] at hx hx2
    have a := Nat.lt_of_mul_lt_mul_right hx
    have b := Nat.lt_of_mul_lt_mul_right hx2
    omega

theorem div_rn {r p : Nat} (hr : r < infR) (hp : p < infR) (hp0 : p ≠ 0) : ∃ z, (∀ s t, fdiv .f64 (Ieee.double.word s r) (Ieee.double.word t p) = Ieee.double.word (s ^^ t) z) ∧ RN (sv r * oneU) (sv p) z := by
  obtain ⟨m, q, h1, h2, h3⟩ := rungD_fin hr
  obtain ⟨n, q', g1, g2, g3⟩ := rungD_fin hp
  have hpp : 0 < sv p := sv_pos (by omega)
  have hn : n ≠ 0 := by rintro rfl; simp at g2; omega
  obtain ⟨more, hmore⟩ : ∃ more, more = 52 + 2 + n.log2 - m.log2 := ⟨_, rfl⟩
  obtain ⟨dv, hdv⟩ : ∃ dv, dv = m <<< more := ⟨_, rfl⟩
  refine ⟨rungN (2 * (dv / n) + (dv % n != 0).toNat) (-1074 + (q : Int) - (-1074 + (q' : Int)) - more - 1), fun s t => ?_, ?_⟩
  · show fres .f64 (((Ieee.double.read _).quotient (Ieee.double.fractionBits + 2) (Ieee.double.read _)).map Ieee.double.write) = _
    rw [read_word _ _ (by rw [d_ir]; exact Nat.le_of_lt hr), read_word _ _ (by rw [d_ir]; exact Nat.le_of_lt hp), h1, g1, d_fb]
    simp only [Ieee.Datum.quotient, if_neg hn, Option.map_some, fres, write_N, hdv, hmore]
  · by_cases hm : m = 0
    · have hdv0 : dv = 0 := by rw [hdv, hm]; simp
      rw [hdv0]
      have hr0 : sv r = 0 := by rw [← h2, hm]; simp
      have e0 : 2 * (0 / n) + (0 % n != 0).toNat = 0 := by simp
      rw [e0, rungN_zero, hr0, Nat.zero_mul]
      refine ⟨Nat.zero_le _, fun w _ h => ?_, fun w _ => Nat.zero_le _⟩
      rcases Nat.eq_zero_or_pos w with h0 | h0
      · omega
      · have := Nat.mul_pos (sv_pos h0) hpp; omega
    · rw [Nat.shiftLeft_eq] at hdv
      have hl1 := log2_le hm
      have hl2 := log2_lt (n := m)
      have hl3 := log2_le hn
      have hl4 := log2_lt (n := n)
      have hml : m.log2 ≤ 52 := by
        apply Nat.le_of_not_lt
        intro h
        have : 2 ^ 53 ≤ 2 ^ m.log2 := Nat.pow_le_pow_right (by omega) (by omega)
        omega
      have hq0 : 9007199254740992 ≤ dv / n := by
        rw [Nat.le_div_iff_mul_le (by omega), hdv]
        have a : 2 ^ m.log2 * 2 ^ more ≤ m * 2 ^ more := Nat.mul_le_mul_right _ hl1
        rw [← Nat.pow_add, show m.log2 + more = 53 + (n.log2 + 1) by omega, Nat.pow_add] at a
        have b : 9007199254740992 * n ≤ 2 ^ 53 * 2 ^ (n.log2 + 1) := Nat.mul_le_mul (by omega) (by omega)
        omega
      have hdm := Nat.div_add_mod dv n
      have hmod := Nat.mod_lt dv (Nat.pos_of_ne_zero hn)
      generalize dv / n = q0 at hq0 hdm ⊢
      generalize dv % n = rem at hdm hmod ⊢
      obtain ⟨A, hA⟩ : ∃ A, A = (-1074 + (q : Int) - (-1074 + (q' : Int)) - more - 1 + 1074).toNat := ⟨_, rfl⟩
      obtain ⟨B, hB⟩ : ∃ B, B = (-1074 - (-1074 + (q : Int) - (-1074 + (q' : Int)) - more - 1)).toNat := ⟨_, rfl⟩
      have hAB : A = 0 ∨ B = 0 := by omega
      have hsum : q + 1074 + B = A + (q' + more + 1) := by omega
      -- the exact quotient, in the unit of the digits
      have key : ∀ x, (x * sv p) * 2 ^ (B + more + 1) = x * 2 ^ B * n * 2 ^ (q' + more + 1) := fun x => by
        rw [← g2, show B + more + 1 = B + (more + 1) by omega, Nat.pow_add 2 B, show q' + more + 1 = q' + (more + 1) by omega, Nat.pow_add 2 q']
        ac_rfl
      have key2 : (sv r * oneU) * 2 ^ (B + more + 1) = 2 * dv * 2 ^ A * 2 ^ (q' + more + 1) := by
        rw [← h2, hdv]
        have e1 : m * 2 ^ q * oneU * 2 ^ (B + more + 1) = m * 2 ^ (q + 1074 + (B + more + 1)) := by rw [Nat.mul_assoc m, oneU_add, Nat.mul_assoc, ← Nat.pow_add]
        have e2 : 2 * (m * 2 ^ more) * 2 ^ A * 2 ^ (q' + more + 1) = m * 2 ^ (1 + more + A + (q' + more + 1)) := by
          rw [Nat.pow_add 2 (1 + more + A), Nat.pow_add 2 (1 + more), Nat.pow_add 2 1, Nat.pow_one]
          ac_rfl
        rw [e1, e2]; congr 2; omega
      have hpw : 0 < 2 ^ (B + more + 1) := Nat.two_pow_pos _
      have hpw2 : 0 < 2 ^ (q' + more + 1) := Nat.two_pow_pos _
      have hA2 : 0 < 2 ^ A := Nat.two_pow_pos _
      refine ⟨rungN_inf _ _, fun w hw hs => rung_ge (by rw [d_ir]; exact hw) ?_, fun w hs => rung_le ?_⟩
      · rw [← hA, ← hB]
        have f1 : (sv w * sv p) * 2 ^ (B + more + 1) ≤ (sv r * oneU) * 2 ^ (B + more + 1) := Nat.mul_le_mul_right _ hs
        rw [key, key2] at f1
        have f2 := Nat.le_of_mul_le_mul_right f1 hpw2
        by_cases h0 : rem = 0
        · have e1 : 2 * dv * 2 ^ A = (2 * q0) * 2 ^ A * n := by rw [← hdm, h0, Nat.add_zero]; ac_rfl
          rw [e1] at f2
          have := Nat.le_of_mul_le_mul_right f2 (Nat.pos_of_ne_zero hn)
          simpa [h0] using this
        · have e1 : (rem != 0) = true := by simpa using h0
          rw [e1]
          show sv w * 2 ^ B ≤ (2 * q0 + 1) * 2 ^ A
          apply Nat.le_of_not_lt
          intro hlt
          have f3 : 2 * dv * 2 ^ A < (2 * q0 + 2) * 2 ^ A * n := by
            have : 2 * dv < (2 * q0 + 2) * n := by rw [← hdm, Nat.mul_comm n q0, Nat.add_mul, Nat.mul_assoc]; omega
            calc 2 * dv * 2 ^ A < (2 * q0 + 2) * n * 2 ^ A := Nat.mul_lt_mul_of_pos_right this hA2
              _ = (2 * q0 + 2) * 2 ^ A * n := Nat.mul_right_comm ..
          have f4 := Nat.lt_of_mul_lt_mul_right (Nat.lt_of_le_of_lt f2 f3)
          have f5 : 2 * q0 * 2 ^ A ≤ (2 * q0 + 1) * 2 ^ A := Nat.mul_le_mul_right _ (by omega)
          have := quot_core (n := n) (rem := rem) (by omega : 2 * q0 * 2 ^ A < sv w * 2 ^ B) f4 hq0 hAB w rfl
          omega
      · rw [← hA, ← hB]
        have f1 : (sv r * oneU) * 2 ^ (B + more + 1) ≤ (sv w * sv p) * 2 ^ (B + more + 1) := Nat.mul_le_mul_right _ hs
        rw [key, key2] at f1
        have f2 := Nat.le_of_mul_le_mul_right f1 hpw2
        by_cases h0 : rem = 0
        · have e1 : 2 * dv * 2 ^ A = (2 * q0) * 2 ^ A * n := by rw [← hdm, h0, Nat.add_zero]; ac_rfl
          rw [e1] at f2
          have := Nat.le_of_mul_le_mul_right f2 (Nat.pos_of_ne_zero hn)
          simpa [h0] using this
        · have e1 : (rem != 0) = true := by simpa using h0
          rw [e1]
          show (2 * q0 + 1) * 2 ^ A ≤ sv w * 2 ^ B
          apply Nat.le_of_not_lt
          intro hlt
          have f3 : (2 * q0) * 2 ^ A * n < 2 * dv * 2 ^ A := by
            have : (2 * q0) * n < 2 * dv := by rw [← hdm, Nat.mul_comm n q0, Nat.mul_assoc]; omega
            calc (2 * q0) * 2 ^ A * n = (2 * q0) * n * 2 ^ A := Nat.mul_right_comm ..
              _ < 2 * dv * 2 ^ A := Nat.mul_lt_mul_of_pos_right this hA2
          have f4 := Nat.lt_of_mul_lt_mul_right (Nat.lt_of_lt_of_le f3 f2)
          have f5 : (2 * q0 + 1) * 2 ^ A ≤ (2 * q0 + 2) * 2 ^ A := Nat.mul_le_mul_right _ (by omega)
          have := quot_core (n := n) (rem := rem) f4 (by omega : sv w * 2 ^ B < (2 * q0 + 2) * 2 ^ A) hq0 hAB w rfl
          omega

/-- The signed worth. -/
def sw (s : Bool) (r : Nat) : Int := if s then -(sv r : Int) else (sv r : Int)

theorem signed_mul (s : Bool) (m u q : Nat) : Ieee.signed s m u * (2 ^ q : Nat) = if s then -((m * 2 ^ (u + q) : Nat) : Int) else ((m * 2 ^ (u + q) : Nat) : Int) := by
  unfold Ieee.signed
  rw [Nat.shiftLeft_eq, Nat.pow_add, ← Nat.mul_assoc]
  cases s
  · simp only [Bool.false_eq_true, if_false, Int.natCast_mul]
  · simp only [if_true, Int.natCast_mul, Int.neg_mul]

theorem order_sw {r p : Nat} (hr : r < infR) (hp : p < infR) (s t : Bool) : ford .f64 (Ieee.double.word s r) (Ieee.double.word t p) = some (compare (sw s r) (sw t p)) := by
  obtain ⟨m, q, h1, h2, h3⟩ := rungD_fin hr
  obtain ⟨n, q', g1, g2, g3⟩ := rungD_fin hp
  show (Ieee.double.read _).order (Ieee.double.read _) = _
  rw [read_word _ _ (by rw [d_ir]; exact Nat.le_of_lt hr), read_word _ _ (by rw [d_ir]; exact Nat.le_of_lt hp), h1, g1]
  simp only [Ieee.Datum.order]
  have e1 : (-1074 + (q : Int) - min (-1074 + (q : Int)) (-1074 + (q' : Int))).toNat = q - min q q' := by omega
  have e2 : (-1074 + (q' : Int) - min (-1074 + (q : Int)) (-1074 + (q' : Int))).toNat = q' - min q q' := by omega
  rw [e1, e2]
  have a1 := signed_mul s m (q - min q q') (min q q')
  have a2 := signed_mul t n (q' - min q q') (min q q')
  rw [show q - min q q' + min q q' = q by omega, h2] at a1
  rw [show q' - min q q' + min q q' = q' by omega, g2] at a2
  have b1 : sw s r = Ieee.signed s m (q - min q q') * (2 ^ min q q' : Nat) := a1.symm
  have b2 : sw t p = Ieee.signed t n (q' - min q q') * (2 ^ min q q' : Nat) := a2.symm
  rw [b1, b2]
  have hpos : (0 : Int) < (2 ^ min q q' : Nat) := by have := Nat.two_pow_pos (min q q'); omega
  generalize Ieee.signed s m (q - min q q') = x
  generalize Ieee.signed t n (q' - min q q') = y
  generalize ((2 ^ min q q' : Nat) : Int) = k at hpos
  congr 1
  show compareOfLessAndEq x y = compareOfLessAndEq (x * k) (y * k)
  unfold compareOfLessAndEq
  by_cases hlt : x < y
  · rw [if_pos hlt, if_pos (Int.mul_lt_mul_of_pos_right hlt hpos)]
  · rw [if_neg hlt, if_neg (fun h => hlt (Int.lt_of_mul_lt_mul_right h (Int.le_of_lt hpos)))]
    by_cases he : x = y
    · rw [if_pos he, if_pos (by rw [he])]
    · rw [if_neg he, if_neg (fun h => he (Int.eq_of_mul_eq_mul_right (by omega) h))]

theorem add_rn {r p : Nat} (hr : r < infR) (hp : p < infR) (s t : Bool) : ∃ z, fadd .f64 (Ieee.double.word s r) (Ieee.double.word t p) = Ieee.double.word (if sw s r + sw t p = 0 then s && t else decide (sw s r + sw t p < 0)) z ∧ RN (sw s r + sw t p).natAbs 1 z := by
  obtain ⟨m, q, h1, h2, h3⟩ := rungD_fin hr
  obtain ⟨n, q', g1, g2, g3⟩ := rungD_fin hp
  have e1 : (-1074 + (q : Int) - (-1074 + ((min q q' : Nat) : Int))).toNat = q - min q q' := by omega
  have e2 : (-1074 + (q' : Int) - (-1074 + ((min q q' : Nat) : Int))).toNat = q' - min q q' := by omega
  have e3 : min (-1074 + (q : Int)) (-1074 + (q' : Int)) = -1074 + ((min q q' : Nat) : Int) := by omega
  have a1 := signed_mul s m (q - min q q') (min q q')
  have a2 := signed_mul t n (q' - min q q') (min q q')
  rw [show q - min q q' + min q q' = q by omega, h2] at a1
  rw [show q' - min q q' + min q q' = q' by omega, g2] at a2
  have b1 : sw s r = Ieee.signed s m (q - min q q') * (2 ^ min q q' : Nat) := a1.symm
  have b2 : sw t p = Ieee.signed t n (q' - min q q') * (2 ^ min q q' : Nat) := a2.symm
  have hpos : (0 : Int) < (2 ^ min q q' : Nat) := by have := Nat.two_pow_pos (min q q'); omega
  obtain ⟨T, hT⟩ : ∃ T, T = Ieee.signed s m (q - min q q') + Ieee.signed t n (q' - min q q') := ⟨_, rfl⟩
  have hS : sw s r + sw t p = T * (2 ^ min q q' : Nat) := by rw [b1, b2, hT, Int.add_mul]
  refine ⟨rungN T.natAbs (-1074 + ((min q q' : Nat) : Int)), ?_, rn_of Nat.one_pos ?_⟩
  · show fres .f64 (((Ieee.double.read _).sum (Ieee.double.read _)).map Ieee.double.write) = _
    rw [read_word _ _ (by rw [d_ir]; exact Nat.le_of_lt hr), read_word _ _ (by rw [d_ir]; exact Nat.le_of_lt hp), h1, g1]
    simp only [Ieee.Datum.sum, Option.map_some, fres, write_N, e1, e2, e3, ← hT]
    congr 1
    rw [hS]
    by_cases h0 : T = 0
    · rw [if_pos h0, if_pos (by rw [h0]; simp)]
    · rw [if_neg h0, if_neg (fun h => by rcases Int.mul_eq_zero.1 h with h | h <;> omega)]
      congr 1
      apply propext
      constructor
      · intro h; exact Int.mul_neg_of_neg_of_pos h hpos
      · intro h
        apply Int.lt_of_not_ge
        intro hge
        have := Int.mul_nonneg hge (Int.le_of_lt hpos)
        omega
  · rw [hS, Int.natAbs_mul, Int.natAbs_natCast, Nat.mul_one]
    have e4 : (-1074 - (-1074 + ((min q q' : Nat) : Int))).toNat = 0 := by omega
    have e5 : (-1074 + ((min q q' : Nat) : Int) + 1074).toNat = min q q' := by omega
    rw [e4, e5, Nat.pow_zero, Nat.mul_one]

theorem sw_not (t : Bool) (p : Nat) : sw (!t) p = -sw t p := by
  cases t <;> simp [sw]

theorem sub_word {r p : Nat} (hr : r < infR) (hp : p < infR) (s t : Bool) : fsub .f64 (Ieee.double.word s r) (Ieee.double.word t p) = fadd .f64 (Ieee.double.word s r) (Ieee.double.word (!t) p) := by
  show fres .f64 (((Ieee.double.read _).sum (Ieee.double.read _).opposite).map Ieee.double.write) = fres .f64 (((Ieee.double.read _).sum (Ieee.double.read _)).map Ieee.double.write)
  rw [read_word _ _ (by rw [d_ir]; exact Nat.le_of_lt hr), read_word _ _ (by rw [d_ir]; exact Nat.le_of_lt hp), read_word _ _ (by rw [d_ir]; exact Nat.le_of_lt hp), rungD_opp]

theorem sub_rn {r p : Nat} (hr : r < infR) (hp : p < infR) (s t : Bool) : ∃ z, fsub .f64 (Ieee.double.word s r) (Ieee.double.word t p) = Ieee.double.word (if sw s r - sw t p = 0 then s && !t else decide (sw s r - sw t p < 0)) z ∧ RN (sw s r - sw t p).natAbs 1 z := by
  rw [sub_word hr hp]
  have := add_rn hr hp s (!t)
  rw [sw_not, ← Int.sub_eq_add_neg] at this
  exact this

/-- A value of few digits is some rung's. -/
theorem sv_repr : ∀ (k n : Nat), n ≤ 9007199254740992 → ∃ w, sv w = n * twoP k := by
  intro k
  induction k with
  | zero =>
    intro n hn
    exact ⟨0 * 4503599627370496 + n, sv_at hn (.inl rfl)⟩
  | succ k ih =>
    intro n hn
    by_cases h : 4503599627370496 ≤ n
    · exact ⟨(k + 1) * 4503599627370496 + n, sv_at hn (.inr h)⟩
    · obtain ⟨w, hw⟩ := ih (2 * n) (by omega)
      refine ⟨w, ?_⟩
      rw [hw, ← twoP_join (show 1 + k = k + 1 by omega)]
      show 2 * n * twoP k = n * (2 * twoP k)
      ac_rfl

theorem sv_one {q : Nat} : sv (q * 4503599627370496 + 4503599627370496) = twoP (52 + q) := by
  rw [sv_at (by decide) (.inr (Nat.le_refl _)), ← twoP_mul]; rfl

theorem sv_inf : sv infR = twoP 2098 := sv_one (q := 2046)

theorem repr_lt {w : Nat} (h : sv w < twoP 2098) : w < infR := sv_lt_inv (by rw [sv_inf]; exact h)

theorem rn_int (F : Nat) : RN (F * oneU) 1 (rungN F 0) := by
  refine rn_of Nat.one_pos ?_
  have e1 : (-1074 - (0 : Int)).toNat = 0 := by decide
  have e2 : ((0 : Int) + 1074).toNat = 1074 := by decide
  obtain ⟨k, hk⟩ : ∃ k, k = ((0 : Int) + 1074).toNat := ⟨_, rfl⟩
  rw [← hk, e1, Nat.pow_zero, Nat.mul_one, Nat.mul_one, ← twoP_def k, hk, e2]
  unfold oneU
  rfl

/-- A whole number as a float. -/
theorem nearest_int (n : Int) (hn : n.natAbs ≤ 9007199254740992) : ∃ w, FloatKind.f64.nearest n = Ieee.double.word (decide (n < 0)) w ∧ sv w = n.natAbs * oneU ∧ w < infR := by
  obtain ⟨w, hw⟩ := sv_repr 1074 n.natAbs hn
  have hw' : sv w = n.natAbs * oneU := hw
  have hlt : w < infR := by
    apply repr_lt
    rw [hw]
    have h1 : n.natAbs * twoP 1074 < twoP 54 * twoP 1074 := Nat.mul_lt_mul_of_pos_right (Nat.lt_of_le_of_lt hn (by decide)) (twoP_pos _)
    rw [twoP_join (c := 1128) rfl] at h1
    exact Nat.lt_of_lt_of_le h1 (twoP_le (by decide))
  have := (rn_int n.natAbs).exact (Nat.le_of_lt hlt) (by rw [hw', Nat.mul_one])
  refine ⟨w, ?_, hw', hlt⟩
  show Ieee.double.write (.number (decide (n < 0)) n.natAbs 0) = _
  rw [write_N, this]

end Go.Vam

/- Floors, whole numbers of floats; how far a product and a quotient may be off. -/
namespace Go.Vam
open Go

theorem cut_toward (way : Ieee.Toward) (hw : way = .down ∨ way = .zero) (s : Bool) (n d : Nat) : way.cut s n d = n / 2 ^ d + (if way = .down ∧ s = true ∧ n % 2 ^ d ≠ 0 then 1 else 0) := by
  unfold Ieee.Toward.cut
  simp only [Nat.one_shiftLeft]
  have key : ∃ g, g = 2 ^ min d (n.log2 + 2) ∧ n / g = n / 2 ^ d ∧ n % g = n % 2 ^ d := by
    refine ⟨_, rfl, ?_⟩
    by_cases hd : d ≤ n.log2 + 2
    · rw [Nat.min_eq_left hd]; exact ⟨rfl, rfl⟩
    · have hl : n < 2 ^ (n.log2 + 1) := log2_lt
      rw [Nat.min_eq_right (by omega)]
      have e1 : 2 ^ (n.log2 + 2) = 2 * 2 ^ (n.log2 + 1) := by rw [Nat.pow_succ, Nat.mul_comm]
      have e2 : 2 ^ (n.log2 + 2) ≤ 2 ^ d := Nat.pow_le_pow_right (by omega) (by omega)
      rw [Nat.div_eq_of_lt (by omega), Nat.div_eq_of_lt (by omega), Nat.mod_eq_of_lt (by omega), Nat.mod_eq_of_lt (by omega)]
      exact ⟨rfl, rfl⟩
  obtain ⟨g, hg, k1, k2⟩ := key
  rw [← hg, k1, k2]
  rcases hw with rfl | rfl
  · cases s
    · simp
    · by_cases h : n % 2 ^ d = 0
      · simp [h]
      · simp [h]
  · simp

/-- A float's whole part, with its bounds. -/
theorem whole_of {r : Nat} (hr : r < infR) : ∃ N d : Nat, (∀ (s : Bool) (way : Ieee.Toward), (Ieee.double.read (Ieee.double.word s r)).integral way = .number s (way.cut s N d) 0) ∧ N * oneU = sv r * 2 ^ d := by
  obtain ⟨m, q, h1, h2, h3⟩ := rungD_fin hr
  refine ⟨m <<< (-1074 + (q : Int)).toNat, (-(-1074 + (q : Int))).toNat, fun s way => ?_, ?_⟩
  · rw [read_word _ _ (by rw [d_ir]; exact Nat.le_of_lt hr), h1]; rfl
  · rw [← h2, Nat.shiftLeft_eq, Nat.mul_assoc, oneU_add, Nat.mul_assoc, ← Nat.pow_add]
    congr 2; omega

theorem frac_bounds {N d S : Nat} (h : N * oneU = S * 2 ^ d) : N / 2 ^ d * oneU ≤ S ∧ S < (N / 2 ^ d + 1) * oneU ∧ (N % 2 ^ d = 0 → N / 2 ^ d * oneU = S) ∧ (N % 2 ^ d ≠ 0 → N / 2 ^ d * oneU < S) := by
  have hp := Nat.two_pow_pos d
  have hdm := Nat.div_add_mod N (2 ^ d)
  have hmod := Nat.mod_lt N hp
  generalize 2 ^ d = g at *
  generalize N / g = F at *
  generalize N % g = R at *
  have hU := oneU_pos
  generalize oneU = U at *
  have e1 : F * U * g = g * F * U := by ac_rfl
  have e2 : (F + 1) * U * g = (g * F + g) * U := by rw [Nat.add_mul F, Nat.add_mul, Nat.add_mul, Nat.one_mul, e1, Nat.mul_comm U g]
  refine ⟨Nat.le_of_mul_le_mul_right (c := g) ?_ hp, Nat.lt_of_mul_lt_mul_right (a := g) ?_, fun h0 => Nat.eq_of_mul_eq_mul_right hp ?_, fun h0 => Nat.lt_of_mul_lt_mul_right (a := g) ?_⟩
  · rw [e1, ← h]; exact Nat.mul_le_mul_right _ (by omega)
  · rw [e2, ← h]; exact Nat.mul_lt_mul_of_pos_right (by omega) hU
  · rw [e1, ← h]; congr 1; omega
  · rw [e1, ← h]; exact Nat.mul_lt_mul_of_pos_right (by omega) hU

/-- math.Floor: the greatest whole number that is not above. -/
theorem floor_word {r : Nat} (hr : r < infR) (s : Bool) : ∃ F : Nat, extV 2 [.float .f64 (Ieee.double.word s r)] = some (.float .f64 (Ieee.double.word s (rungN F 0))) ∧
    (if s then -(F : Int) else (F : Int)) * (oneU : Nat) ≤ sw s r ∧ sw s r < ((if s then -(F : Int) else (F : Int)) + 1) * (oneU : Nat) := by
  obtain ⟨N, d, h1, h2⟩ := whole_of hr
  obtain ⟨b1, b2, b3, b4⟩ := frac_bounds h2
  refine ⟨Ieee.Toward.down.cut s N d, ?_, ?_⟩
  · have hd : Ieee.double.read (Ieee.double.word s r) = rungD s r := read_word _ _ (by rw [d_ir]; exact Nat.le_of_lt hr)
    obtain ⟨m, q, g1, _, _⟩ := rungD_fin hr
    show (match FloatKind.f64.decode (Ieee.double.word s r) with
      | .nan _ _ => some (Value.float .f64 (nanF .f64))
      | d => some (Value.float .f64 (FloatKind.f64.encode (d.integral .down)))) = _
    have hi := h1 s .down
    have hdec : FloatKind.f64.decode (Ieee.double.word s r) = .number s m (-1074 + (q : Int)) := by
      show Ieee.double.read (Ieee.double.word s r) = _
      rw [hd, g1]
    rw [hdec]
    rw [hd, g1] at hi
    show some (Value.float .f64 (Ieee.double.write (Ieee.Datum.integral .down (.number s m (-1074 + (q : Int)))))) = _
    rw [hi, write_N]
  · rw [cut_toward _ (.inl rfl)]
    have hU : (0 : Int) < (oneU : Nat) := by have := oneU_pos; omega
    cases s with
    | false =>
      simp only [Bool.false_eq_true, false_and, and_false, if_false, Nat.add_zero, sw]
      constructor
      · exact_mod_cast b1
      · exact_mod_cast b2
    | true =>
      simp only [if_true, true_and, sw]
      by_cases h0 : N % 2 ^ d = 0
      · have := b3 h0
        rw [if_neg (by simp [h0]), Nat.add_zero, ← this, Int.add_mul, Int.neg_mul, Int.natCast_mul]
        omega
      · have := b4 h0
        rw [if_pos h0]
        have e1 : (-(((N / 2 ^ d + 1 : Nat)) : Int)) * (oneU : Nat) = -(((N / 2 ^ d + 1) * oneU : Nat) : Int) := by rw [Int.neg_mul, Int.natCast_mul]
        have e2 : (-(((N / 2 ^ d + 1 : Nat)) : Int) + 1) * (oneU : Nat) = -((N / 2 ^ d * oneU : Nat) : Int) := by
          rw [show (-(((N / 2 ^ d + 1 : Nat)) : Int) + 1) = -((N / 2 ^ d : Nat) : Int) by omega, Int.neg_mul, Int.natCast_mul]
        rw [e1, e2]
        omega

/-- A whole number that is a float, as an integer. -/
theorem toInt_word {r : Nat} (hr : r < infR) (s : Bool) {F : Nat} (h : sv r = F * oneU) (h1 : F ≤ 4611686018427387904) : convV (.toInt .i64) (.float .f64 (Ieee.double.word s r)) = some (.int .i64 (if s then -(F : Int) else (F : Int))) := by
  obtain ⟨N, d, g1, g2⟩ := whole_of hr
  obtain ⟨b1, b2, _, _⟩ := frac_bounds g2
  have hF : N / 2 ^ d = F := by
    rw [h] at b1 b2
    have a := Nat.le_of_mul_le_mul_right b1 oneU_pos
    have b := Nat.lt_of_mul_lt_mul_right b2
    omega
  have hi := g1 s .zero
  rw [cut_toward _ (.inr rfl), hF] at hi
  have ht : (FloatKind.f64.decode (Ieee.double.word s r)).toInt .zero = some (Ieee.signed s F 0) := by
    show (match (Ieee.double.read (Ieee.double.word s r)).integral .zero with
      | .number s m _ => some (Ieee.signed s m 0)
      | _ => none) = _
    rw [hi]
    simp
  have hs : Ieee.signed s F 0 = if s then -(F : Int) else (F : Int) := by
    unfold Ieee.signed
    simp
  show (match (FloatKind.f64.decode (Ieee.double.word s r)).toInt .zero with
    | some n => if IntKind.i64.min ≤ n ∧ n ≤ IntKind.i64.max then some (Value.int .i64 n) else none
    | none => none) = _
  rw [ht, hs]
  simp only
  rw [if_pos]
  have m1 : IntKind.i64.min = -9223372036854775808 := by decide
  have m2 : IntKind.i64.max = 9223372036854775807 := by decide
  rw [m1, m2]
  cases s <;> simp <;> omega

theorem rungN_int {F : Nat} (h : F ≤ 9007199254740992) : rungN F 0 < infR ∧ sv (rungN F 0) = F * oneU := by
  obtain ⟨w, _, h2, h3⟩ := nearest_int (F : Int) (by simpa using h)
  rw [Int.natAbs_natCast] at h2
  have := (rn_int F).exact (Nat.le_of_lt h3) (by rw [h2, Nat.mul_one])
  rw [this]
  exact ⟨h3, h2⟩

/-- How far the rounded is from the exact, where it is no small one. -/
theorem RN.rel {N D z : Nat} (h : RN N D z) (h1 : 4503599627370496 < z) (h2 : z < infR) : sv z * D * 4503599627370496 < N * 4503599627370497 ∧ N * 4503599627370496 < sv z * D * 4503599627370497 := by
  have step : ∀ x, 4503599627370496 ≤ x → sv (x + 1) * 4503599627370496 ≤ sv x * 4503599627370497 := fun x hx => by
    obtain ⟨q, low, a1, a2, a3, a4⟩ := sv_dec x
    have a5 := sv_at (q := q) (low := low + 1) (by omega) (by omega)
    rw [← Nat.add_assoc, ← a1] at a5
    rw [a4, a5, Nat.mul_right_comm, Nat.mul_right_comm low]
    exact Nat.mul_le_mul_right _ (by omega)
  have hD : 0 < D := by
    rcases Nat.eq_zero_or_pos D with h0 | h0
    · subst h0
      have := h.ge infR (Nat.le_refl _) (by simp)
      omega
    · exact h0
  have up : N < sv (z + 1) * D := Nat.lt_of_not_le fun hle => by have := h.ge (z + 1) (by omega) hle; omega
  have dn : sv (z - 1) * D < N := Nat.lt_of_not_le fun hle => by have := h.le (z - 1) hle; omega
  have s1 := step z (by omega)
  have s2 := step (z - 1) (by omega)
  rw [show z - 1 + 1 = z by omega] at s2
  have z1 : 0 < sv (z - 1) := sv_pos (by omega)
  constructor
  · have a : sv z * D * 4503599627370496 ≤ sv (z - 1) * D * 4503599627370497 := by
      rw [Nat.mul_right_comm, Nat.mul_right_comm (sv (z - 1))]; exact Nat.mul_le_mul_right _ s2
    have b : sv (z - 1) * D * 4503599627370497 < N * 4503599627370497 := Nat.mul_lt_mul_of_pos_right dn (by decide)
    exact Nat.lt_of_le_of_lt a b
  · have a : sv (z + 1) * D * 4503599627370496 ≤ sv z * D * 4503599627370497 := by
      rw [Nat.mul_right_comm, Nat.mul_right_comm (sv z)]; exact Nat.mul_le_mul_right _ s1
    have b : N * 4503599627370496 < sv (z + 1) * D * 4503599627370496 := Nat.mul_lt_mul_of_pos_right up (by decide)
    exact Nat.lt_of_lt_of_le b a

end Go.Vam

/- A small whole number times a unit, and by it again. -/
namespace Go.Vam
open Go

def epsU : Nat := twoP 1037
theorem oneU_eps : oneU = 137438953472 * epsU := by
  have e : twoP 37 = 137438953472 := by decide
  unfold oneU epsU
  rw [← e, twoP_join (c := 1074) rfl]

theorem ac_1 (a o v c : Nat) : a * o * v * c = a * v * c * o := by ac_rfl
theorem ac_2 (a u c t e : Nat) : a * u * c * (t * e) = a * (e * u) * c * t := by ac_rfl
theorem ac_3 (a t e u : Nat) : a * (t * e) * u = a * (e * u) * t := by ac_rfl

theorem epsU_pos : 0 < epsU := twoP_pos 1037

set_option maxRecDepth 10000 in
theorem there_back {a : Int} (ha : a.natAbs ≤ 32768) {u : Nat} (h1 : twoP 574 ≤ sv u) (h2 : sv u ≤ twoP 1574) :
    ∃ s y, fdiv .f64 (fmul .f64 (FloatKind.f64.nearest a) (Ieee.double.word false u)) (Ieee.double.word false u) = Ieee.double.word s y ∧ y < infR ∧ a * (oneU : Nat) - (epsU : Nat) ≤ sw s y ∧ sw s y ≤ a * (oneU : Nat) + (epsU : Nat) := by
  have hu : u < infR := repr_lt (Nat.lt_of_le_of_lt h2 (twoP_lt (by decide)))
  have hsu : 0 < sv u := Nat.lt_of_lt_of_le (twoP_pos _) h1
  have hu0 : u ≠ 0 := by rintro rfl; rw [sv_zero] at hsu; omega
  obtain ⟨w, e1, e2, e3⟩ := nearest_int a (by omega)
  rw [e1]
  obtain ⟨z, m1, m2⟩ := mul_rn e3 hu
  rw [m1, e2] at *
  obtain ⟨A, hA⟩ : ∃ A, A = a.natAbs := ⟨_, rfl⟩
  rw [← hA] at ha m2
  have hU := oneU_pos
  have hzi : z < infR := by
    obtain ⟨w1, g1⟩ := sv_repr 1600 1 (by omega)
    have hw1 : w1 < infR := repr_lt (by rw [g1, Nat.one_mul]; exact twoP_lt (by decide))
    refine Nat.lt_of_le_of_lt (m2.le w1 ?_) hw1
    rw [g1, Nat.one_mul, Nat.mul_right_comm]
    refine Nat.mul_le_mul_right _ ?_
    have k1 : A * sv u ≤ twoP 15 * twoP 1574 := Nat.mul_le_mul ha h2
    rw [twoP_join (c := 1589) rfl] at k1
    exact Nat.le_trans k1 (twoP_le (by decide))
  obtain ⟨y, d1, d2⟩ := div_rn hzi hu hu0
  rw [d1]
  refine ⟨_, y, rfl, ?_⟩
  have hsig : ((decide (a < 0) ^^ false) ^^ false) = decide (a < 0) := by simp
  rw [hsig]
  by_cases hA0 : A = 0
  · have hz0 : z = 0 := Nat.le_zero.1 (m2.le 0 (by rw [hA0]; simp))
    have hy0 : y = 0 := Nat.le_zero.1 (d2.le 0 (by rw [hz0, sv_zero]; simp))
    have ha0 : a = 0 := by omega
    subst hy0 ha0
    refine ⟨by decide, ?_, ?_⟩ <;> simp [sw, sv_zero]
  · have hz1 : 4503599627370496 < z := by
      obtain ⟨w0, g0⟩ := sv_repr 574 1 (by omega)
      have hw0 : w0 < infR := repr_lt (by rw [g0, Nat.one_mul]; exact twoP_lt (by decide))
      have hge : w0 ≤ z := m2.ge w0 (Nat.le_of_lt hw0) (by
        rw [g0, Nat.one_mul, Nat.mul_right_comm]
        refine Nat.mul_le_mul_right _ (Nat.le_trans h1 ?_)
        exact Nat.le_mul_of_pos_left _ (by omega))
      have hs52 : sv 4503599627370496 < sv w0 := by
        rw [g0, Nat.one_mul]
        have := sv_at (q := 0) (low := 4503599627370496) (by omega) (.inl rfl)
        rw [Nat.zero_mul, Nat.zero_add, Nat.pow_zero, Nat.mul_one] at this
        rw [this, show (4503599627370496 : Nat) = twoP 52 from rfl]
        exact twoP_lt (by decide)
      exact Nat.lt_of_lt_of_le (sv_lt_inv hs52) hge
    obtain ⟨r1, r2⟩ := m2.rel hz1 hzi
    have q1 : sv z * oneU * 4503599627370496 < A * sv u * 4503599627370497 * oneU := Nat.lt_of_lt_of_eq r1 (ac_1 A oneU (sv u) 4503599627370497)
    have q2 : A * sv u * 4503599627370496 * oneU < sv z * oneU * 4503599627370497 := Nat.lt_of_le_of_lt (Nat.le_of_eq (ac_1 A oneU (sv u) 4503599627370496).symm) r2
    obtain ⟨K, hK⟩ : ∃ K, K = epsU * sv u := ⟨_, rfl⟩
    obtain ⟨M, hM⟩ : ∃ M, M = A * K := ⟨_, rfl⟩
    have hKp : 0 < K := by rw [hK]; exact Nat.mul_pos epsU_pos hsu
    have hMK : M ≤ 32768 * K := by rw [hM]; exact Nat.mul_le_mul_right _ ha
    have hMK2 : K ≤ M := by rw [hM]; exact Nat.le_mul_of_pos_left _ (by omega)
    have c1 : ∀ c, A * sv u * c * oneU = M * c * 137438953472 := fun c => by rw [hM, hK, oneU_eps, ac_2]
    rw [c1] at q1 q2
    have hE := epsU_pos
    obtain ⟨w2, g2⟩ := sv_repr 1037 (A * 137438953472 + 1) (by omega)
    obtain ⟨w3, g3⟩ := sv_repr 1037 (A * 137438953472 - 1) (by omega)
    have p1 : (A * 137438953472 + 1) * twoP 1037 = A * oneU + epsU := by rw [show twoP 1037 = epsU from rfl, oneU_eps, Nat.add_mul, Nat.one_mul, Nat.mul_assoc]
    have p2 : (A * 137438953472 - 1) * twoP 1037 = A * oneU - epsU := by rw [show twoP 1037 = epsU from rfl, oneU_eps, Nat.sub_mul, Nat.one_mul, Nat.mul_assoc]
    have f1 : (A * oneU + epsU) * sv u = M * 137438953472 + K := by rw [Nat.add_mul, hM, hK, oneU_eps, ac_3]
    have f2 : (A * oneU - epsU) * sv u = M * 137438953472 - K := by rw [Nat.sub_mul, hM, hK, oneU_eps, ac_3]
    have y1 : y ≤ w2 := d2.le w2 (by rw [g2, p1, f1]; clear g2 g3 p1 p2 f1 f2; generalize sv z * oneU = Z at *; omega)
    have hle : A * oneU + epsU < twoP 2098 := by
      have hl : A * oneU + epsU ≤ twoP 54 * twoP 1037 := by
        rw [← p1]; exact Nat.mul_le_mul_right _ (Nat.le_trans (by clear p1 p2 f1 f2 g2 g3; omega : A * 137438953472 + 1 ≤ 9007199254740992) (by decide))
      rw [twoP_join (c := 1091) rfl] at hl
      exact Nat.lt_of_le_of_lt hl (twoP_lt (by decide))
    have hw2 : w2 < infR := repr_lt (by rw [g2, p1]; exact hle)
    have hw3 : w3 < infR := repr_lt (by rw [g3, p2]; exact Nat.lt_of_le_of_lt (Nat.le_trans (Nat.sub_le _ _) (Nat.le_add_right _ _)) hle)
    have y2 : w3 ≤ y := d2.ge w3 (Nat.le_of_lt hw3) (by rw [g3, p2, f2]; clear g2 g3 p1 p2 f1 f2 y1; generalize sv z * oneU = Z at *; omega)
    have v1 := sv_le y1
    have v2 := sv_le y2
    rw [g2, p1] at v1
    rw [g3, p2] at v2
    refine ⟨Nat.lt_of_le_of_lt y1 hw2, ?_⟩
    have hAU : (A : Int) * (oneU : Nat) = ((A * oneU : Nat) : Int) := by rw [Int.natCast_mul]
    have hEU : epsU ≤ A * oneU := by
      rw [oneU_eps]
      have : 1 * epsU ≤ A * 137438953472 * epsU := Nat.mul_le_mul_right _ (by omega)
      rw [Nat.mul_assoc] at this; omega
    generalize A * oneU = AU at *
    generalize epsU = ε at *
    by_cases hneg : a < 0
    · rw [decide_eq_true hneg]
      have haA : a = -(A : Int) := by omega
      rw [haA, Int.neg_mul, hAU]
      simp only [sw, if_true]
      omega
    · rw [decide_eq_false hneg]
      have haA : a = (A : Int) := by omega
      rw [haA, hAU]
      simp only [sw, Bool.false_eq_true, if_false]
      omega

end Go.Vam

/- Floats as whole numbers, to be compared: all but those that are none. -/
namespace Go.Vam
open Go

theorem order_swI {r p : Nat} (hr : r ≤ infR) (hp : p ≤ infR) (s t : Bool) : ford .f64 (Ieee.double.word s r) (Ieee.double.word t p) = some (compare (sw s r) (sw t p)) := by
  have hinf : ∀ s, rungD s infR = .infinity s := fun s => by
    unfold rungD
    rw [if_neg (by decide), if_neg (by decide)]
  have cmpd : ∀ a b : Int, compare a b = if a < b then .lt else if a = b then .eq else .gt := fun a b => rfl
  have bnd : ∀ (q : Nat) (t : Bool), q < infR → sw t q < (sv infR : Int) ∧ -(sv infR : Int) < sw t q := fun q t hq => by
    have := sv_lt hq
    cases t <;> simp only [sw, if_true, Bool.false_eq_true, if_false] <;> omega
  rcases Nat.lt_or_eq_of_le hr with hr1 | hr1 <;> rcases Nat.lt_or_eq_of_le hp with hp1 | hp1
  · exact order_sw hr1 hp1 s t
  · subst hp1
    obtain ⟨m, q, h1, _, _⟩ := rungD_fin hr1
    obtain ⟨b1, b2⟩ := bnd r s hr1
    show (Ieee.double.read _).order (Ieee.double.read _) = _
    rw [read_word _ _ (by rw [d_ir]; exact hr), read_word _ _ (by rw [d_ir]; exact hp), h1, hinf, cmpd]
    cases t
    · simp only [Ieee.Datum.order, sw, Bool.false_eq_true, if_false]
      simp only [sw] at b1
      rw [if_pos b1]
    · simp only [Ieee.Datum.order, if_true]
      have e : sw true infR = -(sv infR : Int) := rfl
      rw [e, if_neg (by omega), if_neg (by omega)]
  · subst hr1
    obtain ⟨m, q, h1, _, _⟩ := rungD_fin hp1
    obtain ⟨b1, b2⟩ := bnd p t hp1
    show (Ieee.double.read _).order (Ieee.double.read _) = _
    rw [read_word _ _ (by rw [d_ir]; exact hr), read_word _ _ (by rw [d_ir]; exact hp), h1, hinf, cmpd]
    cases s
    · simp only [Ieee.Datum.order, Bool.false_eq_true, if_false]
      have e : sw false infR = (sv infR : Int) := rfl
      rw [e, if_neg (by omega), if_neg (by omega)]
    · simp only [Ieee.Datum.order, if_true]
      have e : sw true infR = -(sv infR : Int) := rfl
      rw [e, if_pos (by omega)]
  · subst hr1 hp1
    have hpos : 0 < sv infR := sv_pos (by decide)
    show (Ieee.double.read _).order (Ieee.double.read _) = _
    rw [read_word _ _ (by rw [d_ir]; exact hr), read_word _ _ (by rw [d_ir]; exact hp), hinf, hinf, cmpd]
    have e1 : sw true infR = -(sv infR : Int) := rfl
    have e2 : sw false infR = (sv infR : Int) := rfl
    cases s <;> cases t
    · simp [Ieee.Datum.order]
    · rw [e1, e2, if_neg (by omega), if_neg (by omega)]; rfl
    · rw [e1, e2, if_pos (by omega)]; rfl
    · simp [Ieee.Datum.order]

/-- A float, as a whole number of units; none: it is no number. -/
def fkey (x : Nat) : Option Int := if x % 9223372036854775808 ≤ infR then some (sw (decide (9223372036854775808 ≤ x)) (x % 9223372036854775808)) else none

theorem wordOf {x : Nat} (hx : x < 18446744073709551616) : x = Ieee.double.word (decide (9223372036854775808 ≤ x)) (x % 9223372036854775808) := by
  unfold Ieee.Format.word
  rw [d_sw]
  by_cases h : 9223372036854775808 ≤ x
  · rw [decide_eq_true h]; simp only [if_true]; omega
  · rw [decide_eq_false h]; simp only [Bool.false_eq_true, if_false]; omega

theorem nanRead {x : Nat} (h : infR < x % 9223372036854775808) : ∃ s f, Ieee.double.read x = .nan s f := by
  unfold Ieee.Format.read
  have hI : infR = 9218868437227405312 := rfl
  have h1 : ¬ x % Ieee.double.signWeight < Ieee.double.binade := by rw [d_sw, d_bi]; omega
  have h2 : ¬ x % Ieee.double.signWeight < Ieee.double.infRung := by rw [d_sw, d_ir]; omega
  have h3 : ¬ x % Ieee.double.signWeight = Ieee.double.infRung := by rw [d_sw, d_ir]; omega
  simp only [if_neg h1, if_neg h2, if_neg h3]
  exact ⟨_, _, rfl⟩

theorem ford_key {x y : Nat} (hx : x < 18446744073709551616) (hy : y < 18446744073709551616) : ford .f64 x y = (fkey x).bind fun a => (fkey y).map fun b => compare a b := by
  unfold fkey
  by_cases h1 : x % 9223372036854775808 ≤ infR
  · by_cases h2 : y % 9223372036854775808 ≤ infR
    · rw [if_pos h1, if_pos h2]
      simp only [Option.bind_some, Option.map_some]
      rw [wordOf hx, wordOf hy]
      have := order_swI h1 h2 (decide (9223372036854775808 ≤ x)) (decide (9223372036854775808 ≤ y))
      rw [this, ← wordOf hx, ← wordOf hy]
    · rw [if_pos h1, if_neg h2]
      simp only [Option.bind_some, Option.map_none]
      obtain ⟨s, f, h⟩ := nanRead (Nat.lt_of_not_le h2)
      show (Ieee.double.read x).order (Ieee.double.read y) = none
      rw [h]
      cases Ieee.double.read x <;> rfl
  · rw [if_neg h1]
    obtain ⟨s, f, h⟩ := nanRead (Nat.lt_of_not_le h1)
    show (Ieee.double.read x).order (Ieee.double.read y) = none
    rw [h]; rfl

theorem cmp_is (a b : Int) : compare a b = if a < b then .lt else if a = b then .eq else .gt := rfl

theorem fgt_iff {x y : Nat} (hx : x < 18446744073709551616) (hy : y < 18446744073709551616) : (ford .f64 x y == some .gt) = true ↔ ∃ a b, fkey x = some a ∧ fkey y = some b ∧ b < a := by
  rw [ford_key hx hy]
  cases h1 : fkey x with
  | none => simp
  | some a =>
    cases h2 : fkey y with
    | none => simp
    | some b =>
      simp only [Option.bind_some, Option.map_some, cmp_is, beq_iff_eq, Option.some.injEq]
      constructor
      · intro h
        refine ⟨a, b, rfl, rfl, ?_⟩
        split at h
        · cases h
        · split at h
          · cases h
          · omega
      · rintro ⟨_, _, rfl, rfl, h⟩
        rw [if_neg (show ¬ a < b by omega), if_neg (show ¬ a = b by omega)]

theorem feq_iff {x y : Nat} (hx : x < 18446744073709551616) (hy : y < 18446744073709551616) : (ford .f64 x y == some .eq) = true ↔ ∃ a, fkey x = some a ∧ fkey y = some a := by
  rw [ford_key hx hy]
  cases h1 : fkey x with
  | none => simp
  | some a =>
    cases h2 : fkey y with
    | none => simp
    | some b =>
      simp only [Option.bind_some, Option.map_some, cmp_is, beq_iff_eq, Option.some.injEq]
      constructor
      · intro h
        refine ⟨a, rfl, ?_⟩
        split at h
        · cases h
        · split at h
          · omega
          · cases h
      · rintro ⟨_, rfl, h⟩
        rw [if_neg (show ¬ a < b by omega), if_pos (show a = b by omega)]

theorem fkey_zero : fkey 0 = some 0 := by decide

end Go.Vam
