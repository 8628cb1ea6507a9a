/- Rounding is monotone: the nearest number, of two the even one. -/
import Derived.Test.YtfjdihfflghfpaaFlB
import Derived.Test.YtfjdihfflghfpaaSI
import Derived.Laws.FloatBits
namespace Go.Vam
open Go

/-- Twice the middle between a rung and the next. -/
def mid (w : Nat) : Nat := sv w + sv (w + 1)

/-- z is the rung nearest to N / D units. -/
structure NE (N D z : Nat) : Prop where
  inf : z ≤ infR
  lo : ∀ w, w < infR → 2 * N < mid w * D → z ≤ w
  hi : ∀ w, w < infR → mid w * D < 2 * N → w < z
  tie : ∀ w, w < infR → 2 * N = mid w * D → z = w + w % 2

theorem NE.mono {N D N' D' z z' : Nat} (h : NE N D z) (h' : NE N' D' z') (hD : 0 < D) (hD' : 0 < D') (hle : N * D' ≤ N' * D) : z ≤ z' := by
  apply Nat.le_of_not_lt
  intro hlt
  have hw : z' < infR := Nat.lt_of_lt_of_le hlt h.inf
  have a : mid z' * D' ≥ 2 * N' := Nat.le_of_not_lt fun h2 => absurd (h'.hi z' hw h2) (Nat.lt_irrefl _)
  have b : mid z' * D ≤ 2 * N := Nat.le_of_not_lt fun h2 => absurd (h.lo z' hw h2) (Nat.not_le.2 hlt)
  have c : 2 * N' * D ≤ mid z' * D' * D := Nat.mul_le_mul_right _ a
  have d : mid z' * D * D' ≤ 2 * N * D' := Nat.mul_le_mul_right _ b
  have e : 2 * N * D' ≤ 2 * N' * D := by rw [Nat.mul_assoc, Nat.mul_assoc]; exact Nat.mul_le_mul_left _ hle
  have f : mid z' * D' * D = mid z' * D * D' := Nat.mul_right_comm ..
  have t := h.tie z' hw (Nat.eq_of_mul_eq_mul_right hD' (Nat.le_antisymm (by rw [← f]; exact Nat.le_trans e c) d))
  have t' := h'.tie z' hw (Nat.eq_of_mul_eq_mul_right hD (Nat.le_antisymm c (by rw [f]; exact Nat.le_trans d e)))
  omega

theorem mid_lt (w : Nat) : 2 * sv w < mid w ∧ mid w < 2 * sv (w + 1) := by
  have := sv_succ w
  unfold mid
  omega

theorem NE.ge {N D z w : Nat} (h : NE N D z) (hD : 0 < D) (hw : w ≤ infR) (e : sv w * D ≤ N) : w ≤ z := by
  cases w with
  | zero => exact Nat.zero_le _
  | succ w =>
    refine h.hi w hw (Nat.lt_of_lt_of_le (Nat.mul_lt_mul_of_pos_right (mid_lt w).2 hD) ?_)
    rw [Nat.mul_assoc]; exact Nat.mul_le_mul_left _ e
theorem NE.le {N D z w : Nat} (h : NE N D z) (hD : 0 < D) (e : N ≤ sv w * D) : z ≤ w := by
  by_cases hw : w < infR
  · refine h.lo w hw (Nat.lt_of_le_of_lt ?_ (Nat.mul_lt_mul_of_pos_right (mid_lt w).1 hD))
    rw [Nat.mul_assoc]; exact Nat.mul_le_mul_left _ e
  · exact Nat.le_trans h.inf (Nat.le_of_not_lt hw)
theorem NE.rn {N D z : Nat} (h : NE N D z) (hD : 0 < D) : RN N D z := ⟨h.inf, fun _ hw e => h.ge hD hw e, fun _ e => h.le hD e⟩

theorem cut_half (n d : Nat) : (Ieee.Toward.even.cut true n d = n / 2 ^ d ∧ 2 * (n % 2 ^ d) ≤ 2 ^ d ∧ (2 * (n % 2 ^ d) = 2 ^ d → n / 2 ^ d % 2 = 0)) ∨
    (Ieee.Toward.even.cut true n d = n / 2 ^ d + 1 ∧ 2 ^ d ≤ 2 * (n % 2 ^ d) ∧ (2 * (n % 2 ^ d) = 2 ^ d → n / 2 ^ d % 2 = 1)) := by
  unfold Ieee.Toward.cut
  simp only [Nat.one_shiftLeft]
  by_cases hd : d ≤ n.log2 + 2
  · rw [Nat.min_eq_left hd]
    generalize 2 ^ d = g
    cases hb : (decide (g < 2 * (n % g)) || (g == 2 * (n % g) && n / g % 2 == 1)) with
    | false =>
      left
      rw [Bool.or_eq_false_iff, Bool.and_eq_false_iff, decide_eq_false_iff_not] at hb
      refine ⟨by simp, by omega, fun he => ?_⟩
      rcases hb.2 with h | h
      · simp at h; omega
      · simp at h; omega
    | true =>
      right
      rw [Bool.or_eq_true, Bool.and_eq_true, decide_eq_true_eq, beq_iff_eq, beq_iff_eq] at hb
      refine ⟨by simp, by omega, fun he => by omega⟩
  · have hl : n < 2 ^ (n.log2 + 1) := log2_lt
    rw [Nat.min_eq_right (by omega)]
    have e1 : 2 ^ (n.log2 + 2) = 2 * 2 ^ (n.log2 + 1) := by rw [Nat.pow_succ, Nat.mul_comm]
    have e2 : 2 ^ (n.log2 + 2) ≤ 2 ^ d := Nat.pow_le_pow_right (by omega) (by omega)
    left
    have z1 : n / 2 ^ (n.log2 + 2) = 0 := Nat.div_eq_of_lt (by omega)
    have z2 : n % 2 ^ (n.log2 + 2) = n := Nat.mod_eq_of_lt (by omega)
    have z3 : n / 2 ^ d = 0 := Nat.div_eq_of_lt (by omega)
    have z4 : n % 2 ^ d = n := Nat.mod_eq_of_lt (by omega)
    rw [z1, z2, z3, z4]
    have b1 : decide (2 ^ (n.log2 + 2) < 2 * n) = false := decide_eq_false (by omega)
    refine ⟨by simp [b1], by omega, fun _ => rfl⟩

theorem rung_half {m : Nat} (hm : m ≠ 0) (i : Int) : ∃ q low c, low < 9007199254740992 ∧ (q = 0 ∨ 4503599627370496 ≤ low) ∧ low * 2 ^ q * 2 ^ (-1074 - i).toNat ≤ m * 2 ^ (i + 1074).toNat ∧ m * 2 ^ (i + 1074).toNat < (low + 1) * 2 ^ q * 2 ^ (-1074 - i).toNat ∧
    rungN m i = min (q * 4503599627370496 + low + c) Ieee.double.infRung ∧
    ((c = 0 ∧ 2 * (m * 2 ^ (i + 1074).toNat) ≤ (2 * low + 1) * 2 ^ q * 2 ^ (-1074 - i).toNat ∧ (2 * (m * 2 ^ (i + 1074).toNat) = (2 * low + 1) * 2 ^ q * 2 ^ (-1074 - i).toNat → low % 2 = 0)) ∨
     (c = 1 ∧ (2 * low + 1) * 2 ^ q * 2 ^ (-1074 - i).toNat ≤ 2 * (m * 2 ^ (i + 1074).toNat) ∧ (2 * (m * 2 ^ (i + 1074).toNat) = (2 * low + 1) * 2 ^ q * 2 ^ (-1074 - i).toNat → low % 2 = 1))) := by
  have h1 := log2_le hm
  have h2 := log2_lt (n := m)
  unfold rungN
  rw [if_neg hm, d_fb, d_lp, d_bi]
  generalize m.log2 = l at h1 h2 ⊢
  obtain ⟨q, hq⟩ : ∃ q : Nat, max (i + l - (52 : Nat)) (-1074) = (q : Int) - 1074 := ⟨(max (i + l - (52 : Nat)) (-1074) + 1074).toNat, by omega⟩
  rw [hq]
  have e0 : ((q : Int) - 1074 - -1074).toNat = q := by omega
  rw [e0, Nat.shiftLeft_eq]
  by_cases hi : (q : Int) - 1074 ≤ i
  · obtain ⟨u, hu⟩ : ∃ u : Nat, i = (q : Int) - 1074 + u := ⟨(i - ((q : Int) - 1074)).toNat, by omega⟩
    have e1 : (i - ((q : Int) - 1074)).toNat = u := by omega
    have e2 : ((q : Int) - 1074 - i).toNat = 0 := by omega
    have e3 : (-1074 - i).toNat = 0 := by omega
    have e4 : (i + 1074).toNat = u + q := by omega
    rw [e1, e2, e3, e4]
    have hul : u + l ≤ 52 := by omega
    have hlow : m * 2 ^ u < 9007199254740992 := by
      have a : m * 2 ^ u < 2 ^ (l + 1) * 2 ^ u := Nat.mul_lt_mul_of_pos_right h2 (Nat.two_pow_pos u)
      rw [← Nat.pow_add] at a
      have b : 2 ^ (l + 1 + u) ≤ 2 ^ 53 := Nat.pow_le_pow_right (by omega) (by omega)
      omega
    have hge : q = 0 ∨ 4503599627370496 ≤ m * 2 ^ u := by
      by_cases hq0 : q = 0
      · exact .inl hq0
      · right
        have hul' : u + l = 52 := by omega
        have a : 2 ^ l * 2 ^ u ≤ m * 2 ^ u := Nat.mul_le_mul_right _ h1
        rw [← Nat.pow_add, show l + u = 52 by omega] at a
        omega
    have hex : m * 2 ^ (u + q) = m * 2 ^ u * 2 ^ q := by rw [Nat.pow_add, Nat.mul_assoc]
    have hp := Nat.two_pow_pos q
    have hlt : 2 * (m * 2 ^ (u + q)) < (2 * (m * 2 ^ u) + 1) * 2 ^ q := by
      rw [hex, ← Nat.mul_assoc]; exact Nat.mul_lt_mul_of_pos_right (by omega) hp
    refine ⟨q, m * 2 ^ u, 0, hlow, hge, by rw [hex]; simp, ?_, ?_, .inl ⟨rfl, ?_, fun h => ?_⟩⟩
    · rw [hex, Nat.pow_zero, Nat.mul_one]
      exact Nat.mul_lt_mul_of_pos_right (by omega) hp
    · have : Ieee.Toward.even.cut true (m * 2 ^ u) 0 = m * 2 ^ u := by
        rcases cut_spec (m * 2 ^ u) 0 with h | ⟨_, h⟩
        · rw [h]; simp
        · exact absurd (by simp [Nat.mod_one]) h
      rw [this, Nat.add_zero]
    · rw [Nat.pow_zero, Nat.mul_one]; exact Nat.le_of_lt hlt
    · rw [Nat.pow_zero, Nat.mul_one] at h; omega
  · obtain ⟨d, hd⟩ : ∃ d : Nat, (q : Int) - 1074 = i + d := ⟨((q : Int) - 1074 - i).toNat, by omega⟩
    have e1 : (i - ((q : Int) - 1074)).toNat = 0 := by omega
    have e2 : ((q : Int) - 1074 - i).toNat = d := by omega
    rw [e1, e2, Nat.pow_zero, Nat.mul_one]
    have hlow : m / 2 ^ d < 9007199254740992 := by
      rw [Nat.div_lt_iff_lt_mul (Nat.two_pow_pos d)]
      have b : 2 ^ (l + 1) ≤ 2 ^ (53 + d) := Nat.pow_le_pow_right (by omega) (by omega)
      rw [Nat.pow_add 2 53 d] at b
      omega
    have hge : q = 0 ∨ 4503599627370496 ≤ m / 2 ^ d := by
      by_cases hq0 : q = 0
      · exact .inl hq0
      · right
        rw [Nat.le_div_iff_mul_le (Nat.two_pow_pos d)]
        have : l = 52 + d := by omega
        rw [this, Nat.pow_add 2 52 d] at h1
        omega
    have hdm := Nat.div_add_mod m (2 ^ d)
    have hmod := Nat.mod_lt m (Nat.two_pow_pos d)
    have hqAB : 2 ^ q * 2 ^ (-1074 - i).toNat = 2 ^ d * 2 ^ (i + 1074).toNat := by
      rw [← Nat.pow_add, ← Nat.pow_add]; congr 1; omega
    have hA := Nat.two_pow_pos (i + 1074).toNat
    have hc := cut_half m d
    generalize m / 2 ^ d = low at hlow hge hdm hc ⊢
    generalize m % 2 ^ d = r at hdm hmod hc ⊢
    have k1 : low * 2 ^ q * 2 ^ (-1074 - i).toNat = 2 ^ d * low * 2 ^ (i + 1074).toNat := by
      rw [Nat.mul_assoc, hqAB, ← Nat.mul_assoc, Nat.mul_comm low]
    have k2 : (low + 1) * 2 ^ q * 2 ^ (-1074 - i).toNat = (2 ^ d * low + 2 ^ d) * 2 ^ (i + 1074).toNat := by
      rw [Nat.mul_assoc, hqAB, ← Nat.mul_assoc, Nat.add_mul low, Nat.mul_comm low, Nat.one_mul]
    have k3 : (2 * low + 1) * 2 ^ q * 2 ^ (-1074 - i).toNat = (2 * (2 ^ d * low) + 2 ^ d) * 2 ^ (i + 1074).toNat := by
      rw [Nat.mul_assoc, hqAB, ← Nat.mul_assoc, Nat.add_mul (2 * low), Nat.one_mul, Nat.mul_assoc 2, Nat.mul_comm low]
    have k4 : 2 * (m * 2 ^ (i + 1074).toNat) = (2 * m) * 2 ^ (i + 1074).toNat := by rw [Nat.mul_assoc]
    rcases hc with ⟨h, a, b⟩ | ⟨h, a, b⟩
    · refine ⟨q, low, 0, hlow, hge, ?_, ?_, by rw [h, Nat.add_zero], .inl ⟨rfl, ?_, fun he => b ?_⟩⟩
      · rw [k1]; exact Nat.mul_le_mul_right _ (by omega)
      · rw [k2]; exact Nat.mul_lt_mul_of_pos_right (by omega) hA
      · rw [k3, k4]; exact Nat.mul_le_mul_right _ (by omega)
      · rw [k3, k4] at he
        have := Nat.eq_of_mul_eq_mul_right hA he; omega
    · refine ⟨q, low, 1, hlow, hge, ?_, ?_, by rw [h, ← Nat.add_assoc], .inr ⟨rfl, ?_, fun he => b ?_⟩⟩
      · rw [k1]; exact Nat.mul_le_mul_right _ (by omega)
      · rw [k2]; exact Nat.mul_lt_mul_of_pos_right (by omega) hA
      · rw [k3, k4]; exact Nat.mul_le_mul_right _ (by omega)
      · rw [k3, k4] at he
        have := Nat.eq_of_mul_eq_mul_right hA he; omega

theorem mid_pos (w : Nat) : 0 < mid w := by have := mid_lt w; omega

theorem rung_ne {m : Nat} {i : Int} {w : Nat} (hw : w < infR) :
    (2 * (m * 2 ^ (i + 1074).toNat) < mid w * 2 ^ (-1074 - i).toNat → rungN m i ≤ w) ∧ (mid w * 2 ^ (-1074 - i).toNat < 2 * (m * 2 ^ (i + 1074).toNat) → w < rungN m i) ∧
    (2 * (m * 2 ^ (i + 1074).toNat) = mid w * 2 ^ (-1074 - i).toNat → rungN m i = w + w % 2) := by
  have hB := Nat.two_pow_pos (-1074 - i).toNat
  by_cases hm : m = 0
  · subst hm
    rw [rungN_zero, Nat.zero_mul, Nat.mul_zero]
    have := Nat.mul_pos (mid_pos w) hB
    exact ⟨fun _ => Nat.zero_le _, fun h => by omega, fun h => by omega⟩
  · obtain ⟨q, low, c, h1, h2, h3, h4, h5, h6⟩ := rung_half hm i
    have e1 := sv_at (q := q) (low := low) (by omega) h2
    have e2 := sv_at (q := q) (low := low + 1) (by omega) (by omega)
    rw [d_ir] at h5
    replace h5 : rungN m i = min (q * 4503599627370496 + low + c) infR := h5
    generalize infR = I at hw h5
    generalize 2 ^ (-1074 - i).toNat = B at hB h3 h4 h6 ⊢
    generalize m * 2 ^ (i + 1074).toNat = V at h3 h4 h6 ⊢
    generalize rungN m i = z at h5 ⊢
    obtain ⟨p, hp⟩ : ∃ p, p = q * 4503599627370496 + low := ⟨_, rfl⟩
    rw [← hp] at h5 e1
    rw [show q * 4503599627370496 + (low + 1) = p + 1 by omega] at e2
    have hpar : p % 2 = low % 2 := by omega
    clear hp
    have hmp : mid p = (2 * low + 1) * 2 ^ q := by unfold mid; rw [e1, e2, ← Nat.add_mul]; congr 1; omega
    rcases Nat.lt_trichotomy w p with hlt | heq | hgt
    · have a1 : mid w < 2 * sv p := Nat.lt_of_lt_of_le (mid_lt w).2 (Nat.mul_le_mul_left _ (sv_le hlt))
      have a2 : mid w * B < 2 * sv p * B := Nat.mul_lt_mul_of_pos_right a1 hB
      rw [Nat.mul_assoc, e1] at a2
      have a3 : mid w * B < 2 * V := by omega
      exact ⟨fun h => by omega, fun _ => by omega, fun h => by omega⟩
    · subst heq
      rw [hmp]
      rcases h6 with ⟨rfl, a, b⟩ | ⟨rfl, a, b⟩
      · exact ⟨fun _ => by omega, fun h => by omega, fun h => by have := b h; omega⟩
      · exact ⟨fun h => by omega, fun _ => by omega, fun h => by have := b h; omega⟩
    · have a1 : 2 * sv (p + 1) < mid w := Nat.lt_of_le_of_lt (Nat.mul_le_mul_left _ (sv_le hgt)) (mid_lt w).1
      have a2 : 2 * sv (p + 1) * B < mid w * B := Nat.mul_lt_mul_of_pos_right a1 hB
      rw [Nat.mul_assoc, e2] at a2
      have a3 : 2 * V < mid w * B := by omega
      exact ⟨fun _ => by omega, fun h => by omega, fun h => by omega⟩

theorem ne_of {N D m : Nat} {i : Int} (hD : 0 < D) (h : N * 2 ^ (-1074 - i).toNat = m * 2 ^ (i + 1074).toNat * D) : NE N D (rungN m i) := by
  have hB := Nat.two_pow_pos (-1074 - i).toNat
  have e : ∀ w, mid w * D * 2 ^ (-1074 - i).toNat = mid w * 2 ^ (-1074 - i).toNat * D := fun w => Nat.mul_right_comm ..
  have e' : 2 * N * 2 ^ (-1074 - i).toNat = 2 * (m * 2 ^ (i + 1074).toNat) * D := by rw [Nat.mul_assoc, h, ← Nat.mul_assoc]
  refine ⟨rungN_inf m i, fun w hw hs => (rung_ne hw).1 ?_, fun w hw hs => (rung_ne hw).2.1 ?_, fun w hw hs => (rung_ne hw).2.2 ?_⟩
  · have h1 := Nat.mul_lt_mul_of_pos_right hs hB
    rw [e, e'] at h1
    exact Nat.lt_of_mul_lt_mul_right h1
  · have h1 := Nat.mul_lt_mul_of_pos_right hs hB
    rw [e, e'] at h1
    exact Nat.lt_of_mul_lt_mul_right h1
  · have h1 : 2 * N * 2 ^ (-1074 - i).toNat = mid w * D * 2 ^ (-1074 - i).toNat := by rw [hs]
    rw [e, e'] at h1
    exact Nat.eq_of_mul_eq_mul_right hD h1

theorem mul_ne {r p : Nat} (hr : r < infR) (hp : p < infR) : ∃ z, (∀ s t, fmul .f64 (Ieee.double.word s r) (Ieee.double.word t p) = Ieee.double.word (s ^^ t) z) ∧ NE (sv r * sv p) oneU z := by
  obtain ⟨m, q, h1, h2, h3⟩ := rungD_fin hr
  obtain ⟨n, q', g1, g2, g3⟩ := rungD_fin hp
  refine ⟨rungN (m * n) (-1074 + (q : Int) + (-1074 + (q' : Int))), fun s t => ?_, ne_of oneU_pos ?_⟩
  · show fres .f64 (((Ieee.double.read _).product (Ieee.double.read _)).map Ieee.double.write) = _
    rw [read_word _ _ (by rw [d_ir]; exact Nat.le_of_lt hr), read_word _ _ (by rw [d_ir]; exact Nat.le_of_lt hp), h1, g1]
    simp only [Ieee.Datum.product, Option.map_some, fres, write_N]
  · rw [← h2, ← g2]
    have e : m * 2 ^ q * (n * 2 ^ q') = m * n * 2 ^ (q + q') := by rw [Nat.pow_add]; ac_rfl
    rw [e, Nat.mul_assoc (m * n), Nat.mul_assoc (m * n), ← Nat.pow_add, oneU_add]
    congr 2
    omega

/-- Far up the middles have many noughts behind. -/
theorem mid_dvd {w K : Nat} (h : 2 ^ (K + 53) < mid w) : ∃ t, mid w = t * 2 ^ K := by
  have e1 : sv (K * 4503599627370496 + 4503599627370496) = 2 ^ (K + 52) := by rw [sv_one, twoP_def, Nat.add_comm]
  have e2 : 2 ^ (K + 53) = 2 * 2 ^ (K + 52) := by rw [show K + 53 = K + 52 + 1 by omega, Nat.pow_succ, Nat.mul_comm]
  have h1 := (mid_lt w).2
  have h2 : sv (K * 4503599627370496 + 4503599627370496) < sv (w + 1) := by rw [e1]; omega
  have h3 : K * 4503599627370496 + 4503599627370496 ≤ w := by have := sv_lt_inv h2; omega
  have h4 := sv_le h3
  rw [e1] at h4
  obtain ⟨t, ht⟩ := sv_dvd h4
  obtain ⟨t', ht'⟩ := sv_dvd (Nat.le_trans h4 (Nat.le_of_lt (sv_succ w)))
  exact ⟨t + t', by rw [mid, ht, ht', Nat.add_mul]⟩

theorem quot_mid {q0 A B w : Nat} (hx : 4 * q0 * 2 ^ A < mid w * 2 ^ B) (hx2 : mid w * 2 ^ B < (4 * q0 + 4) * 2 ^ A) (hq : 9007199254740992 ≤ q0) (hAB : A = 0 ∨ B = 0) : False := by
  by_cases hB0 : B = 0
  · subst hB0
    rw [Nat.pow_zero, Nat.mul_one] at hx hx2
    have e : 2 ^ (A + 2 + 53) = 36028797018963968 * 2 ^ A := by rw [Nat.add_assoc, Nat.pow_add, Nat.mul_comm]
    have h1 : 2 ^ (A + 2 + 53) < mid w := by
      have : 36028797018963968 * 2 ^ A ≤ 4 * q0 * 2 ^ A := Nat.mul_le_mul_right _ (by omega)
      omega
    obtain ⟨t, ht⟩ := mid_dvd h1
    have e2 : t * 2 ^ (A + 2) = 4 * t * 2 ^ A := by rw [Nat.pow_add]; show t * (2 ^ A * 4) = 4 * t * 2 ^ A; ac_rfl
    rw [ht, e2] at hx hx2
    have a := Nat.lt_of_mul_lt_mul_right hx
    have b := Nat.lt_of_mul_lt_mul_right hx2
    omega
  · have hA0 : A = 0 := by omega
    subst hA0
    simp only [Nat.pow_zero, Nat.mul_one] at hx hx2
    by_cases hB1 : B = 1
    · subst hB1
      have h1 : 2 ^ (1 + 53) < mid w := by
        have : (2 : Nat) ^ (1 + 53) = 18014398509481984 := by decide
        omega
      obtain ⟨t, ht⟩ := mid_dvd h1
      rw [ht] at hx hx2
      omega
    · obtain ⟨C, rfl⟩ : ∃ C, B = C + 2 := ⟨B - 2, by omega⟩
      have e3 : mid w * 2 ^ (C + 2) = 4 * (mid w * 2 ^ C) := by rw [Nat.pow_add]; show mid w * (2 ^ C * 4) = _; ac_rfl
      rw [e3] at hx hx2
      omega

theorem div_ne {r p : Nat} (hr : r < infR) (hp : p < infR) (hp0 : p ≠ 0) : ∃ z, (∀ s t, fdiv .f64 (Ieee.double.word s r) (Ieee.double.word t p) = Ieee.double.word (s ^^ t) z) ∧ NE (sv r * oneU) (sv p) z := by
  obtain ⟨m, q, h1, h2, h3⟩ := rungD_fin hr
  obtain ⟨n, q', g1, g2, g3⟩ := rungD_fin hp
  have hpp : 0 < sv p := sv_pos (by omega)
  have hn : n ≠ 0 := by rintro rfl; simp at g2; omega
  obtain ⟨more, hmore⟩ : ∃ more, more = 52 + 2 + n.log2 - m.log2 := ⟨_, rfl⟩
  obtain ⟨dv, hdv⟩ : ∃ dv, dv = m <<< more := ⟨_, rfl⟩
  refine ⟨rungN (2 * (dv / n) + (dv % n != 0).toNat) (-1074 + (q : Int) - (-1074 + (q' : Int)) - more - 1), fun s t => ?_, ?_⟩
  · show fres .f64 (((Ieee.double.read _).quotient (Ieee.double.fractionBits + 2) (Ieee.double.read _)).map Ieee.double.write) = _
    rw [read_word _ _ (by rw [d_ir]; exact Nat.le_of_lt hr), read_word _ _ (by rw [d_ir]; exact Nat.le_of_lt hp), h1, g1, d_fb]
    simp only [Ieee.Datum.quotient, if_neg hn, Option.map_some, fres, write_N, hdv, hmore]
  · by_cases hm : m = 0
    · have hdv0 : dv = 0 := by rw [hdv, hm]; simp
      rw [hdv0]
      have hr0 : sv r = 0 := by rw [← h2, hm]; simp
      have e0 : 2 * (0 / n) + (0 % n != 0).toNat = 0 := by simp
      rw [e0, rungN_zero, hr0, Nat.zero_mul]
      refine ⟨Nat.zero_le _, fun w _ _ => Nat.zero_le _, fun w _ h => by omega, fun w _ h => ?_⟩
      have := Nat.mul_pos (mid_pos w) hpp; omega
    · rw [Nat.shiftLeft_eq] at hdv
      have hl1 := log2_le hm
      have hl2 := log2_lt (n := m)
      have hl3 := log2_le hn
      have hl4 := log2_lt (n := n)
      have hml : m.log2 ≤ 52 := by
        apply Nat.le_of_not_lt
        intro h
        have : 2 ^ 53 ≤ 2 ^ m.log2 := Nat.pow_le_pow_right (by omega) (by omega)
        omega
      have hq0 : 9007199254740992 ≤ dv / n := by
        rw [Nat.le_div_iff_mul_le (by omega), hdv]
        have a : 2 ^ m.log2 * 2 ^ more ≤ m * 2 ^ more := Nat.mul_le_mul_right _ hl1
        rw [← Nat.pow_add, show m.log2 + more = 53 + (n.log2 + 1) by omega, Nat.pow_add] at a
        have b : 9007199254740992 * n ≤ 2 ^ 53 * 2 ^ (n.log2 + 1) := Nat.mul_le_mul (by omega) (by omega)
        omega
      have hdm := Nat.div_add_mod dv n
      have hmod := Nat.mod_lt dv (Nat.pos_of_ne_zero hn)
      generalize dv / n = q0 at hq0 hdm ⊢
      generalize dv % n = rem at hdm hmod ⊢
      obtain ⟨A, hA⟩ : ∃ A, A = (-1074 + (q : Int) - (-1074 + (q' : Int)) - more - 1 + 1074).toNat := ⟨_, rfl⟩
      obtain ⟨B, hB⟩ : ∃ B, B = (-1074 - (-1074 + (q : Int) - (-1074 + (q' : Int)) - more - 1)).toNat := ⟨_, rfl⟩
      have hAB : A = 0 ∨ B = 0 := by omega
      have hsum : q + 1074 + B = A + (q' + more + 1) := by omega
      have key : ∀ x, (x * sv p) * 2 ^ (B + more + 1) = x * 2 ^ B * n * 2 ^ (q' + more + 1) := fun x => by
        rw [← g2, show B + more + 1 = B + (more + 1) by omega, Nat.pow_add 2 B, show q' + more + 1 = q' + (more + 1) by omega, Nat.pow_add 2 q']
        ac_rfl
      have key2 : (2 * (sv r * oneU)) * 2 ^ (B + more + 1) = 4 * dv * 2 ^ A * 2 ^ (q' + more + 1) := by
        rw [← h2, hdv]
        have e1 : m * 2 ^ q * oneU * 2 ^ (B + more + 1) = m * 2 ^ (q + 1074 + (B + more + 1)) := by rw [Nat.mul_assoc m, oneU_add, Nat.mul_assoc, ← Nat.pow_add]
        have e2 : 2 * (m * 2 ^ more) * 2 ^ A * 2 ^ (q' + more + 1) = m * 2 ^ (1 + more + A + (q' + more + 1)) := by
          rw [Nat.pow_add 2 (1 + more + A), Nat.pow_add 2 (1 + more), Nat.pow_add 2 1, Nat.pow_one]
          ac_rfl
        have e3 : m * 2 ^ q * oneU * 2 ^ (B + more + 1) = 2 * (m * 2 ^ more) * 2 ^ A * 2 ^ (q' + more + 1) := by
          rw [e1, e2]; congr 2; omega
        have e4 : 4 * (m * 2 ^ more) * 2 ^ A * 2 ^ (q' + more + 1) = 2 * (2 * (m * 2 ^ more) * 2 ^ A * 2 ^ (q' + more + 1)) := by
          generalize m * 2 ^ more = U
          generalize 2 ^ A = V
          generalize 2 ^ (q' + more + 1) = W
          rw [show (4 : Nat) = 2 * 2 from rfl]
          simp only [Nat.mul_assoc]
        exact (Nat.mul_assoc 2 _ _).trans ((congrArg (2 * ·) e3).trans e4.symm)
      have hpw : 0 < 2 ^ (B + more + 1) := Nat.two_pow_pos _
      have hpw2 : 0 < 2 ^ (q' + more + 1) := Nat.two_pow_pos _
      have hA2 : 0 < 2 ^ A := Nat.two_pow_pos _
      have hn0 := Nat.pos_of_ne_zero hn
      -- the three ways, in the unit of the digits
      have k1 : ∀ w, 2 * (sv r * oneU) < mid w * sv p → 4 * dv * 2 ^ A < mid w * 2 ^ B * n := fun w hs => by
        have := Nat.mul_lt_mul_of_pos_right hs hpw
        rw [key, key2] at this
        exact Nat.lt_of_mul_lt_mul_right this
      have k2 : ∀ w, mid w * sv p < 2 * (sv r * oneU) → mid w * 2 ^ B * n < 4 * dv * 2 ^ A := fun w hs => by
        have := Nat.mul_lt_mul_of_pos_right hs hpw
        rw [key, key2] at this
        exact Nat.lt_of_mul_lt_mul_right this
      have k3 : ∀ w, 2 * (sv r * oneU) = mid w * sv p → 4 * dv * 2 ^ A = mid w * 2 ^ B * n := fun w hs => by
        have : 2 * (sv r * oneU) * 2 ^ (B + more + 1) = mid w * sv p * 2 ^ (B + more + 1) := by rw [hs]
        rw [key, key2] at this
        exact Nat.eq_of_mul_eq_mul_right hpw2 this
      by_cases h0 : rem = 0
      · have em : 2 * q0 + (rem != 0).toNat = 2 * q0 := by simp [h0]
        rw [em]
        have e1 : 4 * dv * 2 ^ A = 2 * (2 * q0 * 2 ^ A) * n := by rw [← hdm, h0, Nat.add_zero, show (4 : Nat) = 2 * 2 from rfl]; ac_rfl
        refine ⟨rungN_inf _ _, fun w hw hs => (rung_ne hw).1 ?_, fun w hw hs => (rung_ne hw).2.1 ?_, fun w hw hs => (rung_ne hw).2.2 ?_⟩
        · rw [← hA, ← hB]
          have := k1 w hs
          rw [e1] at this
          exact Nat.lt_of_mul_lt_mul_right this
        · rw [← hA, ← hB]
          have := k2 w hs
          rw [e1] at this
          exact Nat.lt_of_mul_lt_mul_right this
        · rw [← hA, ← hB]
          have := k3 w hs
          rw [e1] at this
          exact Nat.eq_of_mul_eq_mul_right hn0 this
      · have em : 2 * q0 + (rem != 0).toNat = 2 * q0 + 1 := by
          have : (rem != 0) = true := by simpa using h0
          rw [this]; rfl
        rw [em]
        -- strictly between two neighbours there is no middle
        have lo' : 4 * q0 * 2 ^ A * n < 4 * dv * 2 ^ A := by
          have : (4 * q0) * n < 4 * dv := by rw [← hdm, Nat.mul_comm n q0, Nat.mul_assoc]; omega
          calc (4 * q0) * 2 ^ A * n = (4 * q0) * n * 2 ^ A := Nat.mul_right_comm ..
            _ < 4 * dv * 2 ^ A := Nat.mul_lt_mul_of_pos_right this hA2
        have hi' : 4 * dv * 2 ^ A < (4 * q0 + 4) * 2 ^ A * n := by
          have : 4 * dv < (4 * q0 + 4) * n := by rw [← hdm, Nat.mul_comm n q0, Nat.add_mul, Nat.mul_assoc]; omega
          calc 4 * dv * 2 ^ A < (4 * q0 + 4) * n * 2 ^ A := Nat.mul_lt_mul_of_pos_right this hA2
            _ = (4 * q0 + 4) * 2 ^ A * n := Nat.mul_right_comm ..
        have two : ∀ w, mid w * 2 ^ B ≤ 4 * q0 * 2 ^ A ∨ (4 * q0 + 4) * 2 ^ A ≤ mid w * 2 ^ B := fun w => by
          by_cases h : mid w * 2 ^ B ≤ 4 * q0 * 2 ^ A
          · exact .inl h
          · right
            apply Nat.le_of_not_lt
            intro hlt
            exact quot_mid (Nat.lt_of_not_le h) hlt hq0 hAB
        have m1 : 2 * ((2 * q0 + 1) * 2 ^ A) = (4 * q0 + 2) * 2 ^ A := by
          have h4 : 2 * (2 * q0 + 1) = 4 * q0 + 2 := by omega
          rw [← Nat.mul_assoc, h4]
        have m2 : 4 * q0 * 2 ^ A < (4 * q0 + 2) * 2 ^ A := Nat.mul_lt_mul_of_pos_right (by omega) hA2
        have m3 : (4 * q0 + 2) * 2 ^ A < (4 * q0 + 4) * 2 ^ A := Nat.mul_lt_mul_of_pos_right (by omega) hA2
        refine ⟨rungN_inf _ _, fun w hw hs => (rung_ne hw).1 ?_, fun w hw hs => (rung_ne hw).2.1 ?_, fun w hw hs => (rung_ne hw).2.2 ?_⟩
        · rw [← hA, ← hB, m1]
          rcases two w with h | h
          · have a := Nat.mul_le_mul_right n h
            have b := k1 w hs
            omega
          · omega
        · rw [← hA, ← hB, m1]
          rcases two w with h | h
          · omega
          · have a := Nat.mul_le_mul_right n h
            have b := k2 w hs
            omega
        · rw [← hA, ← hB, m1]
          rcases two w with h | h
          · have a := Nat.mul_le_mul_right n h
            have b := k3 w hs
            omega
          · have a := Nat.mul_le_mul_right n h
            have b := k3 w hs
            omega

end Go.Vam

/- Floats that are not negative, by their rungs: sums, means, products. -/
namespace Go.Proofs.Ytfjdihfflghfpaa
open Go Go.Vam Go.Sort

/-- A float that is not negative, and its rung. -/
def Rg (x r : Nat) : Prop := r ≤ infR ∧ ∃ s, x = Ieee.double.word s r ∧ (s = true → r = 0)

theorem word_lt {s : Bool} {r : Nat} (h : r ≤ infR) : Ieee.double.word s r < 18446744073709551616 ∧ Ieee.double.word s r % 9223372036854775808 = r ∧ decide (9223372036854775808 ≤ Ieee.double.word s r) = s := by
  have hI : infR = 9218868437227405312 := rfl
  unfold Ieee.Format.word
  rw [d_sw]
  cases s
  · simp only [Bool.false_eq_true, if_false]
    exact ⟨by omega, by omega, decide_eq_false (by omega)⟩
  · simp only [if_true]
    exact ⟨by omega, by omega, decide_eq_true (by omega)⟩

theorem Rg.lt {x r : Nat} (h : Rg x r) : x < 18446744073709551616 := by
  obtain ⟨h1, s, rfl, _⟩ := h
  exact (word_lt h1).1
theorem Rg.key {x r : Nat} (h : Rg x r) : fkey x = some (sv r : Int) := by
  obtain ⟨h1, s, rfl, h2⟩ := h
  obtain ⟨a, b, c⟩ := word_lt (s := s) h1
  unfold fkey
  rw [b, if_pos h1, c]
  cases s with
  | false => rfl
  | true => rw [h2 rfl]; rfl
theorem rg_of {x : Nat} (hx : x < 18446744073709551616) {a : Int} (hk : fkey x = some a) (ha : 0 ≤ a) : Rg x (x % 9223372036854775808) ∧ a = (sv (x % 9223372036854775808) : Int) := by
  unfold fkey at hk
  split at hk
  · rename_i h1
    obtain ⟨z, hz⟩ : ∃ z, z = decide (9223372036854775808 ≤ x) := ⟨_, rfl⟩
    have hw := wordOf hx
    rw [← hz] at hk hw
    cases hk
    refine ⟨⟨h1, z, hw, fun hs => ?_⟩, ?_⟩
    · rw [hs] at ha
      simp only [sw, if_true] at ha
      rcases Nat.eq_zero_or_pos (x % 9223372036854775808) with h0 | h0
      · exact h0
      · have := sv_pos h0; omega
    · cases z with
      | false => rfl
      | true =>
        simp only [sw, if_true] at ha ⊢
        omega
  · cases hk

theorem Rg.inj {x r q : Nat} (h : Rg x r) (h' : Rg x q) : r = q := by
  have h1 := h.key
  rw [h'.key] at h1
  exact (sv_inj (by have := Option.some.inj h1; omega)).symm

theorem Rg.gt {x y r q : Nat} (h : Rg x r) (h' : Rg y q) : gtB x y = decide (q < r) := by
  rw [Bool.eq_iff_iff, decide_eq_true_eq]
  unfold gtB
  rw [fgt_iff h.lt h'.lt]
  constructor
  · rintro ⟨a, b, h1, h2, h3⟩
    rw [h.key] at h1; rw [h'.key] at h2
    cases h1; cases h2
    exact sv_lt_inv (by omega)
  · intro hlt
    exact ⟨_, _, h.key, h'.key, by have := sv_lt hlt; omega⟩
theorem Rg.ltB {x y r q : Nat} (h : Rg x r) (h' : Rg y q) : ltB x y = decide (r < q) := by
  rw [Bool.eq_iff_iff, decide_eq_true_eq]
  unfold Go.Proofs.Ytfjdihfflghfpaa.ltB
  rw [flt_iffW h.lt h'.lt]
  constructor
  · rintro ⟨a, b, h1, h2, h3⟩
    rw [h.key] at h1; rw [h'.key] at h2
    cases h1; cases h2
    exact sv_lt_inv (by omega)
  · intro hlt
    exact ⟨_, _, h.key, h'.key, by have := sv_lt hlt; omega⟩

theorem few_lt {n w : Nat} (hn : n ≤ 9007199254740992) (hw : sv w = n * oneU) : w < infR := by
  apply repr_lt
  rw [hw]
  have h1 : n * twoP 1074 < twoP 54 * twoP 1074 := Nat.mul_lt_mul_of_pos_right (Nat.lt_of_le_of_lt hn (by decide)) (twoP_pos _)
  rw [twoP_join (c := 1128) rfl] at h1
  exact Nat.lt_of_lt_of_le h1 (twoP_le (by decide))

theorem add_rg {x y r q a b : Nat} (h : Rg x r) (h' : Rg y q) (ha : sv r = a * oneU) (hb : sv q = b * oneU) (hn : a + b ≤ 9007199254740992) : ∃ z, Rg (fadd .f64 x y) z ∧ sv z = (a + b) * oneU := by
  have r1 := few_lt (by omega : a ≤ 9007199254740992) ha
  have q1 := few_lt (by omega : b ≤ 9007199254740992) hb
  obtain ⟨_, s, rfl, h2⟩ := h
  obtain ⟨_, t, rfl, h3⟩ := h'
  obtain ⟨z, e, hz⟩ := add_rn r1 q1 s t
  have s1 : sw s r = (sv r : Int) := by cases s with
    | false => rfl
    | true => rw [h2 rfl]; rfl
  have s2 : sw t q = (sv q : Int) := by cases t with
    | false => rfl
    | true => rw [h3 rfl]; rfl
  rw [s1, s2] at e hz
  have hs : ((sv r : Int) + (sv q : Int)).natAbs = (a + b) * oneU := by rw [Nat.add_mul]; omega
  rw [hs] at hz
  obtain ⟨w, hw⟩ := sv_repr 1074 (a + b) hn
  have hw1 : sv w = (a + b) * oneU := hw
  have hwi := few_lt hn hw1
  have hzw := hz.exact (Nat.le_of_lt hwi) (by rw [hw1, Nat.mul_one])
  subst hzw
  refine ⟨z, ⟨Nat.le_of_lt hwi, _, e, fun hs => ?_⟩, hw1⟩
  split at hs
  · rename_i h0
    rcases Nat.eq_zero_or_pos z with hz0 | hz0
    · exact hz0
    · have := sv_pos hz0; omega
  · have := of_decide_eq_true hs; omega

theorem NE.zero {D z : Nat} (h : NE 0 D z) (hD : 0 < D) : z = 0 := by
  have := h.le (w := 0) hD (Nat.zero_le _)
  omega

theorem div_rg {x y r q : Nat} (h : Rg x r) (h' : Rg y q) (hr : r < infR) (hq : q < infR) (h0 : q ≠ 0) : ∃ z, Rg (fdiv .f64 x y) z ∧ NE (sv r * oneU) (sv q) z := by
  obtain ⟨_, s, rfl, h2⟩ := h
  obtain ⟨_, t, rfl, h3⟩ := h'
  obtain ⟨z, e, hz⟩ := div_ne hr hq h0
  refine ⟨z, ⟨hz.inf, _, e s t, fun hs => ?_⟩, hz⟩
  have ht : t = false := by cases t with
    | false => rfl
    | true => exact absurd (h3 rfl) h0
  subst ht
  have hs' : s = true := by simpa using hs
  have hr0 := h2 hs'
  rw [hr0, sv_zero, Nat.zero_mul] at hz
  exact NE.zero hz (sv_pos (by omega))

theorem mul_rg {x y r q : Nat} (h : Rg x r) (h' : Rg y q) (hr : r < infR) (hq : q < infR) : ∃ z, Rg (fmul .f64 x y) z ∧ NE (sv r * sv q) oneU z := by
  obtain ⟨_, s, rfl, h2⟩ := h
  obtain ⟨_, t, rfl, h3⟩ := h'
  obtain ⟨z, e, hz⟩ := mul_ne hr hq
  refine ⟨z, ⟨hz.inf, _, e s t, fun hs => ?_⟩, hz⟩
  have h0 : sv r * sv q = 0 := by
    cases s with
    | true => rw [h2 rfl, sv_zero, Nat.zero_mul]
    | false => cases t with
      | true => rw [h3 rfl, sv_zero, Nat.mul_zero]
      | false => cases hs
  rw [h0] at hz
  exact NE.zero hz oneU_pos

theorem NE.scale {N D K z : Nat} (hK : 0 < K) (h : NE (N * K) (D * K) z) : NE N D z := by
  have e1 : ∀ w, mid w * (D * K) = mid w * D * K := fun w => (Nat.mul_assoc ..).symm
  have e2 : 2 * (N * K) = 2 * N * K := (Nat.mul_assoc ..).symm
  refine ⟨h.inf, fun w hw hs => h.lo w hw ?_, fun w hw hs => h.hi w hw ?_, fun w hw hs => h.tie w hw ?_⟩
  · rw [e1, e2]; exact Nat.mul_lt_mul_of_pos_right hs hK
  · rw [e1, e2]; exact Nat.mul_lt_mul_of_pos_right hs hK
  · rw [e1, e2, hs]

theorem repr_n {n : Nat} (hn : n ≤ 9007199254740992) : ∃ w, sv w = n * oneU := sv_repr 1074 n hn

theorem near_rg {n : Nat} (hn : n ≤ 9007199254740992) : ∃ w, Rg (FloatKind.f64.nearest ((n : Nat) : Int)) w ∧ sv w = n * oneU ∧ w < infR := by
  obtain ⟨w, h1, h2, h3⟩ := nearest_int (n : Int) (by omega)
  refine ⟨w, ⟨Nat.le_of_lt h3, _, h1, fun hs => ?_⟩, by simpa using h2, h3⟩
  have := of_decide_eq_true hs; omega

/-! ## Whole numbers -/

/-- A whole number of no great size, not negative. -/
def WH (x n : Nat) : Prop := n ≤ 1073741824 ∧ ∃ r, Rg x r ∧ sv r = n * oneU
/-- Such a list, and its numbers. -/
def WL (A : List UInt64) (ns : UInt64 → Nat) : Prop := ∀ x ∈ A, WH x.toNat (ns x)
def sm (ns : UInt64 → Nat) (A : List UInt64) : Nat := (A.map ns).sum

theorem sm_app (ns : UInt64 → Nat) (A B : List UInt64) : sm ns (A ++ B) = sm ns A + sm ns B := by unfold sm; rw [List.map_append, List.sum_append]
theorem sm_le {ns : UInt64 → Nat} {A : List UInt64} (h : WL A ns) : sm ns A ≤ A.length * 1073741824 := by
  induction A with
  | nil => simp [sm]
  | cons x A ih =>
    have h1 := (h x (List.mem_cons_self ..)).1
    have h2 := ih (fun y hy => h y (List.mem_cons_of_mem _ hy))
    show ns x + sm ns A ≤ _
    rw [List.length_cons, Nat.add_mul]; omega

theorem sum_rg {A : List UInt64} {ns : UInt64 → Nat} (h : WL A ns) (hl : A.length ≤ 32768) : ∀ k, 1 ≤ k → k ≤ A.length → ∃ z, Rg (sumQ A.toArray k) z ∧ sv z = sm ns (A.take k) * oneU := by
  intro k
  induction k with
  | zero => intro h1; omega
  | succ k ih =>
    intro _ hk
    have hget : (A.toArray[k]!) = A[k] := by simp [show k < A.length by omega]
    have hwk := h A[k] (List.getElem_mem (by omega))
    have hts : A.take (k + 1) = A.take k ++ [A[k]] := by rw [List.take_add_one, List.getElem?_eq_getElem (by omega)]; rfl
    rcases Nat.eq_zero_or_pos k with h0 | h0
    · subst h0
      obtain ⟨_, r, h1, h2⟩ := hwk
      refine ⟨r, ?_, ?_⟩
      · show Rg (A.toArray[0]!).toNat r
        rw [hget]; exact h1
      · rw [hts, h2]; simp [sm]
    · obtain ⟨z, h1, h2⟩ := ih h0 (by omega)
      obtain ⟨hn, r, h3, h4⟩ := hwk
      have hsl := sm_le (ns := ns) (A := A.take k) (fun x hx => h x (List.mem_of_mem_take hx))
      rw [List.length_take] at hsl
      have hb : min k A.length * 1073741824 ≤ 32768 * 1073741824 := Nat.mul_le_mul_right _ (by omega)
      obtain ⟨z', g1, g2⟩ := add_rg h1 h3 h2 h4 (by omega)
      refine ⟨z', by rw [sumQ_succ h0, hget]; exact g1, ?_⟩
      rw [g2, hts, sm_app]; simp [sm]

theorem mean_rg {A : List UInt64} {ns : UInt64 → Nat} (h : WL A ns) (hl : A.length ≤ 32768) (h0 : A ≠ []) : ∃ z, Rg (meanL A) z ∧ NE (sm ns A * oneU) A.length z ∧ z < infR := by
  have hp : 1 ≤ A.length := List.length_pos_iff.2 h0
  obtain ⟨z, h1, h2⟩ := sum_rg h hl A.length hp (Nat.le_refl _)
  rw [List.take_length] at h2
  obtain ⟨w, g1, g2, g3⟩ := near_rg (n := A.length) (by omega)
  have hsl := sm_le h
  have hb : A.length * 1073741824 ≤ 32768 * 1073741824 := Nat.mul_le_mul_right _ (by omega)
  have hw0 : w ≠ 0 := by
    rintro rfl
    rw [sv_zero] at g2
    have := Nat.mul_pos hp oneU_pos; omega
  obtain ⟨y, e1, e2⟩ := div_rg h1 g1 (few_lt (by omega) h2) g3 hw0
  rw [h2, g2] at e2
  have e3 := NE.scale oneU_pos e2
  refine ⟨y, e1, e3, ?_⟩
  obtain ⟨v, hv1⟩ := repr_n (n := 1073741824) (by decide)
  have hvi := few_lt (by decide) hv1
  have hle : y ≤ v := e3.le (by omega) (by
    rw [hv1, Nat.mul_right_comm, Nat.mul_comm 1073741824 A.length]
    exact Nat.mul_le_mul_right _ hsl)
  omega

end Go.Proofs.Ytfjdihfflghfpaa

/- CfarMore: the plain law. -/
namespace Go.Proofs.Ytfjdihfflghfpaa
open Go Go.Vam Go.Sort

theorem fmul_w (x y : Nat) : fmul .f64 x y < 18446744073709551616 ∨ fmul .f64 x y = nanF .f64 := by
  cases h : Ieee.double.mul x y with
  | none => exact .inr (by show fres .f64 (Ieee.double.mul x y) = _; rw [h]; rfl)
  | some r => exact .inl (by show fres .f64 (Ieee.double.mul x y) < _; rw [h]; exact Ieee.Format.mul_lt _ h)

theorem gt_nan {x : Nat} : gtB x (nanF .f64) = false := by
  obtain ⟨s, f, h⟩ := nanRead (show infR < nanF .f64 % 9223372036854775808 by decide)
  have e : ford .f64 x (nanF .f64) = none := by
    show (Ieee.double.read x).order (Ieee.double.read _) = none
    rw [h]
    cases Ieee.double.read x <;> rfl
  unfold gtB
  rw [e]; rfl

theorem sg_mem {L : List UInt64} {lo hi : Int} {x : UInt64} (h : x ∈ sg L lo hi) : x ∈ L := by
  unfold sg at h; exact List.mem_of_mem_drop (List.mem_of_mem_take h)

theorem sg_set {L : List UInt64} {at_ : Nat} {v : UInt64} {lo hi : Int} (h : (at_ : Int) < lo ∨ hi ≤ at_) : sg (L.set at_ v) lo hi = sg L lo hi := by
  unfold sg
  rw [List.length_set]
  refine List.ext_getElem? fun i => ?_
  rw [List.getElem?_take, List.getElem?_take, List.getElem?_drop, List.getElem?_drop]
  split
  · rw [List.getElem?_set_ne (by omega)]
  · rfl

theorem LnR.ok {L : List UInt64} {way g t nth : Int} {times : Nat} {bs : List Bool} {e : Int} (h : LnR L way g t nth times bs e) (h1 : L.length ≤ 16384) (h2 : ¬ badN g t nth) (h3 : finT times = true) :
    e = 0 ∧ bs.length = L.length ∧ ∀ i (hi : i < L.length), ∃ x, LV L (i : Nat) way g t nth x ∧ bs[i]? = some (gtB (L[i]).toNat (fmul .f64 x times)) := by
  unfold LnR at h
  have h4 : lkE L.length g t nth = 0 := by unfold lkE; rw [if_neg (by omega), if_neg h2]
  rw [if_neg (by rw [h4]; simp), if_neg (by rw [h3]; simp)] at h
  exact h

section
variable {L : List UInt64} {ns : UInt64 → Nat} {g t nth : Int}

/-! ## One number alone -/

theorem inf_times {t q : Nat} (ht : Rg t q) (hq : q < infR) (h0 : q ≠ 0) : fmul .f64 9218868437227405312 t = Ieee.double.word false infR := by
  obtain ⟨_, s, rfl, h2⟩ := ht
  have hs : s = false := by cases s with
    | false => rfl
    | true => exact absurd (h2 rfl) h0
  subst hs
  obtain ⟨m, i, g1, g2, g3⟩ := rungD_fin hq
  have hm : m ≠ 0 := by
    rintro rfl
    have := sv_pos (show 0 < q by omega)
    rw [Nat.zero_mul] at g2; omega
  have hi : Ieee.double.read 9218868437227405312 = .infinity false := by decide
  show fres .f64 (((Ieee.double.read _).product (Ieee.double.read _)).map Ieee.double.write) = _
  rw [hi, read_word _ _ (by rw [d_ir]; exact Nat.le_of_lt hq), g1]
  simp only [Ieee.Datum.product, if_neg hm, Option.map_some, fres]
  rfl

end

end Go.Proofs.Ytfjdihfflghfpaa

/- Floats times a power of two: sums, means, products. -/
namespace Go.Proofs.Ytfjdihfflghfpaa
open Go Go.Vam Go.Sort

theorem ne_uniq {N D z z' : Nat} (h : NE N D z) (h' : NE N D z') (hD : 0 < D) : z = z' := Nat.le_antisymm (h.mono h' hD hD (Nat.le_refl _)) (h'.mono h hD hD (Nat.le_refl _))

theorem sv_shift {z p : Nat} (hz : 4503599627370496 ≤ z) : sv (z + p * 4503599627370496) = sv z * twoP p := by
  obtain ⟨q, low, h1, h2, h3, h4⟩ := sv_dec z
  have hl : 4503599627370496 ≤ low := by omega
  rw [show z + p * 4503599627370496 = (q + p) * 4503599627370496 + low by omega, sv_at (by omega) (.inr hl), h4, Nat.pow_add, ← Nat.mul_assoc]
  rfl
theorem mid_shift {w p : Nat} (hw : 4503599627370496 ≤ w) : mid (w + p * 4503599627370496) = mid w * twoP p := by
  unfold mid
  rw [sv_shift hw, show w + p * 4503599627370496 + 1 = (w + 1) + p * 4503599627370496 by omega, sv_shift (by omega), Nat.add_mul]
theorem sv_52 : sv 4503599627370496 = 4503599627370496 := by decide

theorem ne_shift {N D z p : Nat} (h : NE N D z) (hD : 0 < D) (hn : 4503599627370496 * D ≤ N) (hz : z + p * 4503599627370496 ≤ infR) : NE (N * twoP p) D (z + p * 4503599627370496) := by
  have hz1 : 4503599627370496 ≤ z := h.ge hD (by decide) (by rw [sv_52]; exact hn)
  have hP := twoP_pos p
  have e1 : 2 * (N * twoP p) = 2 * N * twoP p := (Nat.mul_assoc ..).symm
  have low : ∀ w, w < 4503599627370496 + p * 4503599627370496 → mid w * D < 2 * (N * twoP p) := fun w hw => by
    have a1 : mid w < 2 * sv (4503599627370496 + p * 4503599627370496) := Nat.lt_of_lt_of_le (mid_lt w).2 (Nat.mul_le_mul_left _ (sv_le hw))
    rw [sv_shift (Nat.le_refl _), sv_52] at a1
    have a2 := Nat.mul_lt_mul_of_pos_right a1 hD
    have a3 : 2 * (4503599627370496 * twoP p) * D = 2 * (4503599627370496 * D * twoP p) := by rw [Nat.mul_assoc 2, Nat.mul_right_comm 4503599627370496]
    rw [a3] at a2
    exact Nat.lt_of_lt_of_le a2 (Nat.mul_le_mul_left _ (Nat.mul_le_mul_right _ hn))
  have e2 : ∀ v, mid v * twoP p * D = mid v * D * twoP p := fun v => Nat.mul_right_comm ..
  refine ⟨hz, fun w hw hs => ?_, fun w hw hs => ?_, fun w hw hs => ?_⟩
  · by_cases hlw : w < 4503599627370496 + p * 4503599627370496
    · have := low w hlw; omega
    · obtain ⟨v, rfl⟩ : ∃ v, w = v + p * 4503599627370496 := ⟨w - p * 4503599627370496, by omega⟩
      rw [mid_shift (by omega), e1, e2] at hs
      have := h.lo v (by omega) (Nat.lt_of_mul_lt_mul_right hs)
      omega
  · by_cases hlw : w < 4503599627370496 + p * 4503599627370496
    · omega
    · obtain ⟨v, rfl⟩ : ∃ v, w = v + p * 4503599627370496 := ⟨w - p * 4503599627370496, by omega⟩
      rw [mid_shift (by omega), e1, e2] at hs
      have := h.hi v (by omega) (Nat.lt_of_mul_lt_mul_right hs)
      omega
  · by_cases hlw : w < 4503599627370496 + p * 4503599627370496
    · have := low w hlw; omega
    · obtain ⟨v, rfl⟩ : ∃ v, w = v + p * 4503599627370496 := ⟨w - p * 4503599627370496, by omega⟩
      rw [mid_shift (by omega), e1, e2] at hs
      have := h.tie v (by omega) (Nat.eq_of_mul_eq_mul_right hP hs)
      omega

theorem ne_exact {N D z w : Nat} (h : NE N D z) (hD : 0 < D) (hw : w ≤ infR) (e : sv w * D = N) : z = w := (h.rn hD).exact hw e

theorem few_rung {k n : Nat} (hn : n ≤ 9007199254740992) (hk : k ≤ 2000) : ∃ w, sv w = n * twoP k ∧ w < infR := by
  obtain ⟨w, hw⟩ := sv_repr k n hn
  refine ⟨w, hw, repr_lt ?_⟩
  rw [hw]
  have h1 : n * twoP k < twoP 54 * twoP k := Nat.mul_lt_mul_of_pos_right (Nat.lt_of_le_of_lt hn (by decide)) (twoP_pos _)
  rw [twoP_mul] at h1
  exact Nat.lt_of_lt_of_le h1 (twoP_le (by omega))
theorem pow_rung {k : Nat} (hk : k ≤ 2000) : ∃ w, sv w = twoP k ∧ w < infR := by
  obtain ⟨w, h1, h2⟩ := few_rung (k := k) (n := 1) (by decide) hk
  exact ⟨w, by rw [h1, Nat.one_mul], h2⟩

theorem scale_ne {N D z z' p : Nat} (hp : p ≤ 100) (hD : 0 < D) (h : NE N D z) (h' : NE (N * twoP p) D z') (hb : N ≤ twoP 1900 * D) (hc : N = 0 ∨ 4503599627370496 * D ≤ N ∨ D = 1) : sv z' = sv z * twoP p ∧ z < infR ∧ z' < infR := by
  have hI : infR = 2047 * 4503599627370496 := rfl
  have hU : sv (1848 * 4503599627370496 + 4503599627370496) = twoP (52 + 1848) := sv_one
  have hzU : z ≤ 1848 * 4503599627370496 + 4503599627370496 := h.le hD (by rw [hU]; exact hb)
  have big : 4503599627370496 * D ≤ N → sv z' = sv z * twoP p ∧ z < infR ∧ z' < infR := fun hn => by
    have hs := ne_shift (p := p) h hD hn (by omega)
    have e := ne_uniq h' hs hD
    have hz1 : 4503599627370496 ≤ z := h.ge hD (by decide) (by rw [sv_52]; exact hn)
    exact ⟨by rw [e]; exact sv_shift hz1, by omega, by omega⟩
  rcases hc with rfl | hn | rfl
  · have e1 := NE.zero h hD
    rw [Nat.zero_mul] at h'
    have e2 := NE.zero h' hD
    subst e1 e2
    exact ⟨by rw [sv_zero, Nat.zero_mul], by decide, by decide⟩
  · exact big hn
  · by_cases hn : 4503599627370496 * 1 ≤ N
    · exact big hn
    · obtain ⟨w, w1, w2⟩ := few_rung (k := 0) (n := N) (by omega) (by omega)
      obtain ⟨w', v1, v2⟩ := few_rung (k := p) (n := N) (by omega) (by omega)
      have t0 : twoP 0 = 1 := rfl
      rw [t0, Nat.mul_one] at w1
      have e1 := ne_exact h hD (Nat.le_of_lt w2) (by rw [w1, Nat.mul_one])
      have e2 := ne_exact h' hD (Nat.le_of_lt v2) (by rw [v1, Nat.mul_one])
      subst e1 e2
      exact ⟨by rw [v1, w1], w2, v2⟩

theorem add_ne {r p : Nat} (hr : r < infR) (hp : p < infR) (s t : Bool) : ∃ z, fadd .f64 (Ieee.double.word s r) (Ieee.double.word t p) = Ieee.double.word (if sw s r + sw t p = 0 then s && t else decide (sw s r + sw t p < 0)) z ∧ NE (sw s r + sw t p).natAbs 1 z := by
  obtain ⟨m, q, h1, h2, h3⟩ := rungD_fin hr
  obtain ⟨n, q', g1, g2, g3⟩ := rungD_fin hp
  have e1 : (-1074 + (q : Int) - (-1074 + ((min q q' : Nat) : Int))).toNat = q - min q q' := by omega
  have e2 : (-1074 + (q' : Int) - (-1074 + ((min q q' : Nat) : Int))).toNat = q' - min q q' := by omega
  have e3 : min (-1074 + (q : Int)) (-1074 + (q' : Int)) = -1074 + ((min q q' : Nat) : Int) := by omega
  have a1 := signed_mul s m (q - min q q') (min q q')
  have a2 := signed_mul t n (q' - min q q') (min q q')
  rw [show q - min q q' + min q q' = q by omega, h2] at a1
  rw [show q' - min q q' + min q q' = q' by omega, g2] at a2
  have b1 : sw s r = Ieee.signed s m (q - min q q') * (2 ^ min q q' : Nat) := a1.symm
  have b2 : sw t p = Ieee.signed t n (q' - min q q') * (2 ^ min q q' : Nat) := a2.symm
  have hpos : (0 : Int) < (2 ^ min q q' : Nat) := by have := Nat.two_pow_pos (min q q'); omega
  obtain ⟨T, hT⟩ : ∃ T, T = Ieee.signed s m (q - min q q') + Ieee.signed t n (q' - min q q') := ⟨_, rfl⟩
  have hS : sw s r + sw t p = T * (2 ^ min q q' : Nat) := by rw [b1, b2, hT, Int.add_mul]
  refine ⟨rungN T.natAbs (-1074 + ((min q q' : Nat) : Int)), ?_, ne_of Nat.one_pos ?_⟩
  · show fres .f64 (((Ieee.double.read _).sum (Ieee.double.read _)).map Ieee.double.write) = _
    rw [read_word _ _ (by rw [d_ir]; exact Nat.le_of_lt hr), read_word _ _ (by rw [d_ir]; exact Nat.le_of_lt hp), h1, g1]
    simp only [Ieee.Datum.sum, Option.map_some, fres, write_N, e1, e2, e3, ← hT]
    congr 1
    rw [hS]
    by_cases h0 : T = 0
    · rw [if_pos h0, if_pos (by rw [h0]; simp)]
    · rw [if_neg h0, if_neg (fun h => by rcases Int.mul_eq_zero.1 h with h | h <;> omega)]
      congr 1
      apply propext
      constructor
      · intro h; exact Int.mul_neg_of_neg_of_pos h hpos
      · intro h
        apply Int.lt_of_not_ge
        intro hge
        have := Int.mul_nonneg hge (Int.le_of_lt hpos)
        omega
  · rw [hS, Int.natAbs_mul, Int.natAbs_natCast, Nat.mul_one]
    have e4 : (-1074 - (-1074 + ((min q q' : Nat) : Int))).toNat = 0 := by omega
    have e5 : (-1074 + ((min q q' : Nat) : Int) + 1074).toNat = min q q' := by omega
    rw [e4, e5, Nat.pow_zero, Nat.mul_one]

/-! ## What is so many times what it was -/

/-- Finite, and 2^p times so much. -/
def Sc (p x x' : Nat) : Prop := ∃ s r r', x = Ieee.double.word s r ∧ x' = Ieee.double.word s r' ∧ r < infR ∧ r' < infR ∧ sv r' = sv r * twoP p
/-- The like of a sum of k numbers. -/
def SumOK (p k x x' : Nat) : Prop := ∃ s r r' c, x = Ieee.double.word s r ∧ x' = Ieee.double.word s r' ∧ r < infR ∧ r' < infR ∧ sv r' = sv r * twoP p ∧ sv r = c * twoP 622 ∧ sv r ≤ k * twoP 1474
/-- The like of a level. -/
def LevOK (p x x' : Nat) : Prop := ∃ s r r', x = Ieee.double.word s r ∧ x' = Ieee.double.word s r' ∧ r < infR ∧ r' < infR ∧ sv r' = sv r * twoP p ∧ (r = 0 ∨ (twoP 600 ≤ sv r ∧ sv r ≤ twoP 1500))
/-- Nought, or of no great and no small size. -/
def TM (x : Nat) : Prop := ∃ s r, x = Ieee.double.word s r ∧ r < infR ∧ (r = 0 ∨ (twoP 774 ≤ sv r ∧ sv r ≤ twoP 1374))

theorem LevOK.sc {p x x' : Nat} (h : LevOK p x x') : Sc p x x' := by
  obtain ⟨s, r, r', h1, h2, h3, h4, h5, _⟩ := h
  exact ⟨s, r, r', h1, h2, h3, h4, h5⟩
theorem SumOK.sc {p k x x' : Nat} (h : SumOK p k x x') : Sc p x x' := by
  obtain ⟨s, r, r', c, h1, h2, h3, h4, h5, _⟩ := h
  exact ⟨s, r, r', h1, h2, h3, h4, h5⟩

theorem sw_mul {s : Bool} {r r' p : Nat} (h : sv r' = sv r * twoP p) : sw s r' = sw s r * (twoP p : Int) := by
  unfold sw
  cases s
  · simp only [Bool.false_eq_true, if_false, h, Int.natCast_mul]
  · simp only [if_true, h, Int.natCast_mul, Int.neg_mul]

theorem Sc.cmp {p x x' y y' : Nat} (h : Sc p x x') (g : Sc p y y') : ford .f64 x' y' = ford .f64 x y := by
  obtain ⟨s, r, r', rfl, rfl, h3, h4, h5⟩ := h
  obtain ⟨t, q, q', rfl, rfl, g3, g4, g5⟩ := g
  rw [order_sw h3 g3, order_sw h4 g4, sw_mul h5, sw_mul g5]
  have hP : (0 : Int) < (twoP p : Nat) := by have := twoP_pos p; omega
  generalize sw s r = a
  generalize sw t q = b
  generalize ((twoP p : Nat) : Int) = k at hP
  congr 1
  rw [cmp_is, cmp_is]
  by_cases hlt : a < b
  · rw [if_pos hlt, if_pos (Int.mul_lt_mul_of_pos_right hlt hP)]
  · rw [if_neg hlt, if_neg (fun h => hlt (Int.lt_of_mul_lt_mul_right h (Int.le_of_lt hP)))]
    by_cases he : a = b
    · rw [if_pos he, if_pos (by rw [he])]
    · rw [if_neg he, if_neg (fun h => he (Int.eq_of_mul_eq_mul_right (by omega) h))]
theorem Sc.gt {p x x' y y' : Nat} (h : Sc p x x') (g : Sc p y y') : gtB x' y' = gtB x y := by unfold gtB; rw [h.cmp g]
theorem Sc.lt {p x x' y y' : Nat} (h : Sc p x x') (g : Sc p y y') : ltB x' y' = ltB x y := by unfold ltB; rw [h.cmp g]

theorem natAbs_mulT {a T : Int} {n : Nat} (hT : T = (n : Nat)) : (a * T).natAbs = a.natAbs * n := by rw [Int.natAbs_mul, hT, Int.natAbs_natCast]

theorem mul_of_ge {z K : Nat} (h : twoP (K + 52) ≤ sv z) : ∃ t, sv z = t * twoP K := sv_dvd h

theorem sum_step2 {p k x x' y y' : Nat} (hp : p ≤ 100) (hk : k + 1 ≤ 32768) (h : SumOK p k x x') (g : SumOK p 1 y y') : SumOK p (k + 1) (fadd .f64 x y) (fadd .f64 x' y') := by
  obtain ⟨s, r, r', c, rfl, rfl, h3, h4, h5, h6, h7⟩ := h
  obtain ⟨t, q, q', d, rfl, rfl, g3, g4, g5, g6, g7⟩ := g
  obtain ⟨z, e1, e2⟩ := add_ne h3 g3 s t
  obtain ⟨z', f1, f2⟩ := add_ne h4 g4 s t
  rw [sw_mul h5, sw_mul g5, ← Int.add_mul] at f1 f2
  have hP : (0 : Int) < (twoP p : Nat) := by have := twoP_pos p; omega
  rw [natAbs_mulT rfl] at f2
  -- how great the sum is
  have hb1 : (sw s r + sw t q).natAbs ≤ sv r + sv q := by
    unfold sw
    cases s <;> cases t <;> simp only [Bool.false_eq_true, if_false, if_true] <;> omega
  have hbn : (sw s r + sw t q).natAbs ≤ (k + 1) * twoP 1474 := by rw [Nat.add_mul]; omega
  have hb19 : (sw s r + sw t q).natAbs ≤ twoP 1900 * 1 := by
    have a1 : (k + 1) * twoP 1474 ≤ twoP 15 * twoP 1474 := Nat.mul_le_mul_right _ (Nat.le_trans hk (by decide))
    rw [twoP_mul] at a1
    have a2 : twoP (15 + 1474) ≤ twoP 1900 := twoP_le (by decide)
    omega
  -- a multiple
  obtain ⟨C, hC⟩ : ∃ C, (sw s r + sw t q).natAbs = C * twoP 622 := by
    have s1 : sw s r = (if s then -(c : Int) else c) * (twoP 622 : Nat) := by
      unfold sw; rw [h6]; cases s
      · simp only [Bool.false_eq_true, if_false, Int.natCast_mul]
      · simp only [if_true, Int.natCast_mul, Int.neg_mul]
    have s2 : sw t q = (if t then -(d : Int) else d) * (twoP 622 : Nat) := by
      unfold sw; rw [g6]; cases t
      · simp only [Bool.false_eq_true, if_false, Int.natCast_mul]
      · simp only [if_true, Int.natCast_mul, Int.neg_mul]
    rw [s1, s2, ← Int.add_mul, natAbs_mulT rfl]
    exact ⟨_, rfl⟩
  obtain ⟨k1, k2, k3⟩ := scale_ne hp Nat.one_pos e2 f2 hb19 (.inr (.inr rfl))
  have hsg : (if (sw s r + sw t q) * ((twoP p : Nat) : Int) = 0 then s && t else decide ((sw s r + sw t q) * ((twoP p : Nat) : Int) < 0)) = (if sw s r + sw t q = 0 then s && t else decide (sw s r + sw t q < 0)) := by
    generalize sw s r + sw t q = v
    by_cases h0 : v = 0
    · rw [h0, Int.zero_mul]
    · rw [if_neg h0, if_neg (fun h => by rcases Int.mul_eq_zero.1 h with h | h <;> omega)]
      congr 1
      apply propext
      constructor
      · intro h
        refine Int.not_le.1 fun hge => ?_
        have := Int.mul_nonneg hge (Int.le_of_lt hP)
        omega
      · intro h; exact Int.mul_neg_of_neg_of_pos h hP
  rw [hsg] at f1
  obtain ⟨w, w1, w2⟩ := few_rung (k := 1474) (n := k + 1) (by omega) (by omega)
  have hzb : sv z ≤ (k + 1) * twoP 1474 := by
    rw [← w1]
    exact sv_le (e2.le Nat.one_pos (by rw [w1, Nat.mul_one]; exact hbn))
  have hmul : ∃ c, sv z = c * twoP 622 := by
    by_cases hsm : C ≤ 9007199254740992
    · obtain ⟨v, v1, v2⟩ := few_rung (k := 622) (n := C) hsm (by omega)
      have := ne_exact e2 Nat.one_pos (Nat.le_of_lt v2) (by rw [v1, hC, Nat.mul_one])
      exact ⟨C, by rw [this, v1]⟩
    · obtain ⟨v, v1, v2⟩ := few_rung (k := 622) (n := 9007199254740992) (Nat.le_refl _) (by omega)
      have hv : v ≤ z := e2.ge Nat.one_pos (Nat.le_of_lt v2) (by rw [v1, hC, Nat.mul_one]; exact Nat.mul_le_mul_right _ (by omega))
      have hvs := sv_le hv
      rw [v1] at hvs
      have h53 : twoP 53 = 9007199254740992 := by decide
      rw [← h53, twoP_mul] at hvs
      obtain ⟨u, hu⟩ := mul_of_ge (K := 622) (Nat.le_trans (twoP_le (by decide)) hvs)
      exact ⟨u, hu⟩
  obtain ⟨c', hc'⟩ := hmul
  exact ⟨_, z, z', c', e1, f1, k2, k3, k1, hc', hzb⟩

/-- The elements of a list, and so many times so much. -/
def ListSc (p : Nat) (f g : UInt64 → UInt64) (A : List UInt64) : Prop := ∀ x ∈ A, SumOK p 1 (f x).toNat (g x).toNat

theorem sum_sc {p : Nat} {f g : UInt64 → UInt64} {A : List UInt64} (hp : p ≤ 100) (h : ListSc p f g A) (hl : A.length ≤ 32768) : ∀ k, 1 ≤ k → k ≤ A.length → SumOK p k (sumQ (A.map f).toArray k) (sumQ (A.map g).toArray k) := by
  intro k
  induction k with
  | zero => intro h1; omega
  | succ k ih =>
    intro _ hk
    have hf : ((A.map f).toArray[k]!) = f A[k] := by simp [show k < A.length by omega]
    have hg : ((A.map g).toArray[k]!) = g A[k] := by simp [show k < A.length by omega]
    have hx := h A[k] (List.getElem_mem (by omega))
    rcases Nat.eq_zero_or_pos k with h0 | h0
    · subst h0
      show SumOK p 1 ((A.map f).toArray[0]!).toNat ((A.map g).toArray[0]!).toNat
      rw [hf, hg]; exact hx
    · rw [sumQ_succ h0, sumQ_succ h0, hf, hg]
      exact sum_step2 hp (by omega) (ih h0 (by omega)) hx

theorem mean_sc {p : Nat} {f g : UInt64 → UInt64} {A : List UInt64} (hp : p ≤ 100) (h : ListSc p f g A) (hl : A.length ≤ 32768) (h0 : A ≠ []) : LevOK p (meanL (A.map f)) (meanL (A.map g)) := by
  have hpos : 1 ≤ A.length := List.length_pos_iff.2 h0
  have hs := sum_sc hp h hl A.length hpos (Nat.le_refl _)
  unfold meanL
  rw [List.length_map, List.length_map]
  obtain ⟨s, r, r', c, e1, e2, h3, h4, h5, h6, h7⟩ := hs
  rw [e1, e2]
  obtain ⟨w, g1, g2, g3⟩ := near_rg (n := A.length) (by omega)
  obtain ⟨_, t, ht, ht2⟩ := g1
  have hw0 : w ≠ 0 := by
    rintro rfl
    rw [sv_zero] at g2
    have := Nat.mul_pos hpos oneU_pos; omega
  rw [ht]
  obtain ⟨z, a1, a2⟩ := div_ne h3 g3 hw0
  obtain ⟨z', b1, b2⟩ := div_ne h4 g3 hw0
  rw [g2] at a2 b2
  have a3 := NE.scale oneU_pos a2
  have b3 := NE.scale oneU_pos b2
  rw [h5] at b3
  have hlen : A.length ≤ twoP 15 := Nat.le_trans hl (by decide)
  have t52 : twoP 52 = 4503599627370496 := by decide
  have hb : sv r ≤ twoP 1900 * A.length := by
    have a : A.length * twoP 1474 ≤ A.length * twoP 1900 := Nat.mul_le_mul_left _ (twoP_le (by decide))
    rw [Nat.mul_comm (twoP 1900)]; omega
  have hr0 : r = 0 ∨ twoP 622 ≤ sv r := by
    rcases Nat.eq_zero_or_pos c with hc | hc
    · left
      rw [hc, Nat.zero_mul] at h6
      rcases Nat.eq_zero_or_pos r with h | h
      · exact h
      · have := sv_pos h; omega
    · right
      rw [h6]; exact Nat.le_mul_of_pos_left _ hc
  have hc : sv r = 0 ∨ 4503599627370496 * A.length ≤ sv r ∨ A.length = 1 := by
    rcases hr0 with rfl | h
    · exact .inl sv_zero
    · right; left
      have a : 4503599627370496 * A.length ≤ twoP 52 * twoP 15 := by rw [t52]; exact Nat.mul_le_mul_left _ hlen
      rw [twoP_mul] at a
      exact Nat.le_trans a (Nat.le_trans (twoP_le (by decide)) h)
  obtain ⟨k1, k2, k3⟩ := scale_ne hp (by omega) a3 b3 hb hc
  refine ⟨s ^^ t, z, z', a1 s t, b1 s t, k2, k3, k1, ?_⟩
  rcases hr0 with rfl | h
  · left
    rw [sv_zero] at a3
    exact NE.zero a3 (by omega)
  · right
    obtain ⟨v, v1, v2⟩ := pow_rung (k := 600) (by decide)
    obtain ⟨u, u1, u2⟩ := pow_rung (k := 1500) (by decide)
    constructor
    · rw [← v1]
      refine sv_le (a3.ge (by omega) (Nat.le_of_lt v2) ?_)
      rw [v1]
      have a : twoP 600 * A.length ≤ twoP 600 * twoP 15 := Nat.mul_le_mul_left _ hlen
      rw [twoP_mul] at a
      exact Nat.le_trans a (Nat.le_trans (twoP_le (by decide)) h)
    · rw [← u1]
      refine sv_le (a3.le (by omega) ?_)
      rw [u1]
      have a : A.length * twoP 1474 ≤ A.length * twoP 1500 := Nat.mul_le_mul_left _ (twoP_le (by decide))
      rw [Nat.mul_comm (twoP 1500)]; omega

theorem mul_sc {p x x' t : Nat} (hp : p ≤ 100) (h : LevOK p x x') (ht : TM t) : Sc p (fmul .f64 x t) (fmul .f64 x' t) := by
  obtain ⟨s, r, r', rfl, rfl, h3, h4, h5, h6⟩ := h
  obtain ⟨τ, q, rfl, g2, g3⟩ := ht
  obtain ⟨z, a1, a2⟩ := mul_ne h3 g2
  obtain ⟨z', b1, b2⟩ := mul_ne h4 g2
  rw [h5, Nat.mul_right_comm] at b2
  have t52 : twoP 52 = 4503599627370496 := by decide
  have hO : oneU = twoP 1074 := rfl
  have hb : sv r * sv q ≤ twoP 1900 * oneU := by
    rcases h6 with rfl | ⟨_, h6⟩
    · rw [sv_zero, Nat.zero_mul]; exact Nat.zero_le _
    · rcases g3 with rfl | ⟨_, g3⟩
      · rw [sv_zero, Nat.mul_zero]; exact Nat.zero_le _
      · refine Nat.le_trans (Nat.mul_le_mul h6 g3) ?_
        rw [hO, twoP_mul, twoP_mul]; exact twoP_le (by decide)
  have hc : sv r * sv q = 0 ∨ 4503599627370496 * oneU ≤ sv r * sv q ∨ oneU = 1 := by
    rcases h6 with rfl | ⟨h6, _⟩
    · left; rw [sv_zero, Nat.zero_mul]
    · rcases g3 with rfl | ⟨g3, _⟩
      · left; rw [sv_zero, Nat.mul_zero]
      · right; left
        refine Nat.le_trans ?_ (Nat.mul_le_mul h6 g3)
        rw [← t52, hO, twoP_mul, twoP_mul]; exact twoP_le (by decide)
  obtain ⟨k1, k2, k3⟩ := scale_ne hp oneU_pos a2 b2 hb hc
  exact ⟨s ^^ τ, z, z', a1 s τ, b1 s τ, k2, k3, k1⟩

/-- A product that is exact. -/
theorem mul_exact {s : Bool} {r r' q : Nat} (hr : r < infR) (hr' : r' < infR) (hq : q < infR) (h : sv r * sv q = sv r' * oneU) : fmul .f64 (Ieee.double.word s r) (Ieee.double.word false q) = Ieee.double.word s r' := by
  obtain ⟨z, a1, a2⟩ := mul_ne hr hq
  rw [h] at a2
  have := ne_exact a2 oneU_pos (Nat.le_of_lt hr') rfl
  rw [a1, this, Bool.xor_false]

end Go.Proofs.Ytfjdihfflghfpaa

/- Levels and lines of a list times a power of two. -/
namespace Go.Proofs.Ytfjdihfflghfpaa
open Go Go.Vam Go.Sort

theorem sg_map {f : UInt64 → UInt64} {L : List UInt64} {lo hi : Int} : sg (L.map f) lo hi = (sg L lo hi).map f := by
  unfold sg
  rw [List.length_map, List.map_take, List.map_drop]

section
variable {p : Nat} {f g : UInt64 → UInt64}

theorem of_sc {bt : Nat → Nat → Bool} (hbt : ∀ {x y x' y' : Nat}, Sc p x x' → Sc p y y' → bt x' y' = bt x y) {A B : List UInt64} (hp : p ≤ 100) (hA : ListSc p f g A) (hB : ListSc p f g B) (la : A.length ≤ 32768) (lb : B.length ≤ 32768) (h0 : A ++ B ≠ []) :
    LevOK p (ofF bt (A.map f) (B.map f)) (ofF bt (A.map g) (B.map g)) := by
  unfold ofF
  by_cases ha : A = []
  · rw [if_pos (List.map_eq_nil_iff.2 ha), if_pos (List.map_eq_nil_iff.2 ha)]
    exact mean_sc hp hB lb (fun hb => h0 (by rw [ha, hb]; rfl))
  · rw [if_neg (fun h => ha (List.map_eq_nil_iff.1 h)), if_neg (fun h => ha (List.map_eq_nil_iff.1 h))]
    by_cases hb : B = []
    · rw [if_pos (List.map_eq_nil_iff.2 hb), if_pos (List.map_eq_nil_iff.2 hb)]
      exact mean_sc hp hA la ha
    · rw [if_neg (fun h => hb (List.map_eq_nil_iff.1 h)), if_neg (fun h => hb (List.map_eq_nil_iff.1 h))]
      have mA := mean_sc hp hA la ha
      have mB := mean_sc hp hB lb hb
      rw [hbt mB.sc mA.sc]
      by_cases hc : bt (meanL (B.map f)) (meanL (A.map f)) = true
      · rw [if_pos hc, if_pos hc]; exact mB
      · rw [if_neg hc, if_neg hc]; exact mA

theorem kap_word {s : Bool} {r : Nat} (h : r < infR) : kap (Ieee.double.word s r) = kapS s r ∧ nanW (Ieee.double.word s r) = false := by
  obtain ⟨a, b, c⟩ := word_lt (s := s) (Nat.le_of_lt h)
  have hn : nanW (Ieee.double.word s r) = false := by
    unfold nanW
    rw [b]; exact decide_eq_false (by omega)
  rw [kap_num hn, b, c]
  exact ⟨rfl, hn⟩

theorem Sc.kap_le {x x' y y' : Nat} (h : Sc p x x') (k : Sc p y y') (hle : kap x ≤ kap y) : kap x' ≤ kap y' := by
  obtain ⟨s, r, r', rfl, rfl, h3, h4, h5⟩ := h
  obtain ⟨t, q, q', rfl, rfl, g3, g4, g5⟩ := k
  rw [(kap_word h3).1, (kap_word g3).1] at hle
  rw [(kap_word h4).1, (kap_word g4).1]
  have up : ∀ {a b a' b' : Nat}, sv a' = sv a * twoP p → sv b' = sv b * twoP p → a ≤ b → a' ≤ b' := fun {a b a' b'} ha hb h => by
    refine sv_le_inv ?_
    rw [ha, hb]
    exact Nat.mul_le_mul_right _ (sv_le h)
  unfold kapS at hle ⊢
  cases s <;> cases t <;> simp only [Bool.false_eq_true, if_false, if_true] at hle ⊢
  · have := up h5 g5 (by omega); omega
  · omega
  · omega
  · have := up g5 h5 (by omega); omega

theorem Sc.nn {x x' : Nat} (h : Sc p x x') : (x < 18446744073709551616 ∧ nanW x = false) ∧ (x' < 18446744073709551616 ∧ nanW x' = false) := by
  obtain ⟨s, r, r', rfl, rfl, h3, h4, h5⟩ := h
  exact ⟨⟨(word_lt (Nat.le_of_lt h3)).1, (kap_word h3).2⟩, ⟨(word_lt (Nat.le_of_lt h4)).1, (kap_word h4).2⟩⟩

theorem kap_word_eq {x y : Nat} (hx : x < 18446744073709551616) (hy : y < 18446744073709551616) (ny : nanW y = false) (h : kap y = kap x) : x = y := by
  have nx : nanW x = false := by
    cases hn : nanW x with
    | false => rfl
    | true => have := kap_lt ny; rw [kap_nan hn] at h; omega
  exact (kap_inj hy hx ny nx h).symm

theorem SumOK.lev {x x' : Nat} (h : SumOK p 1 x x') : LevOK p x x' := by
  obtain ⟨s, r, r', c, h1, h2, h3, h4, h5, h6, h7⟩ := h
  refine ⟨s, r, r', h1, h2, h3, h4, h5, ?_⟩
  rcases Nat.eq_zero_or_pos c with hc | hc
  · left
    rw [hc, Nat.zero_mul] at h6
    rcases Nat.eq_zero_or_pos r with h | h
    · exact h
    · have := sv_pos h; omega
  · right
    rw [Nat.one_mul] at h7
    refine ⟨?_, Nat.le_trans h7 (twoP_le (by decide))⟩
    rw [h6]
    exact Nat.le_trans (twoP_le (by decide)) (Nat.le_mul_of_pos_left _ hc)

/-- The numbers sorted: those of any list sorted by them. -/
theorem srt_by {Q Q' : List UInt64} {h : UInt64 → UInt64} (hq : Q'.Perm Q) (hs : Q'.Pairwise (fun u v => kap (h u).toNat ≤ kap (h v).toNat)) : srt (Q.map h).toArray = Q'.map (fun u => kap (h u).toNat) := by
  refine List.Perm.eq_of_pairwise (le := fun a b : Int => a ≤ b) (fun a b _ _ h1 h2 => Int.le_antisymm h1 h2) ?_ ?_ ?_
  · have := List.pairwise_mergeSort (le := fun x y : Int => !ltInt y x) (fun a b c h1 h2 => by
      simp only [ltInt, Bool.not_eq_true', decide_eq_false_iff_not] at *
      omega) (fun a b => by
      simp only [ltInt, Bool.or_eq_true, Bool.not_eq_true', decide_eq_false_iff_not]
      omega) ((Q.map h).toArray.toList.map fun x => kap x.toNat)
    refine List.Pairwise.imp (fun {a b} hab => ?_) this
    simp only [ltInt, Bool.not_eq_true', decide_eq_false_iff_not] at hab
    omega
  · exact List.pairwise_map.2 hs
  · refine (srt_perm _).trans ?_
    rw [show (Q.map h).toArray.toList = Q.map h from rfl, List.map_map]
    exact (hq.map _).symm

theorem nv_sc {Q : List UInt64} (h : ListSc p f g Q) {z : Int} {x y : Nat} (hx : x < 18446744073709551616) (hy : y < 18446744073709551616) (hz : 0 ≤ z ∧ z < (Q.length : Int)) {e e' : Int} (h1 : NV (Q.map f).toArray z x e) (h2 : NV (Q.map g).toArray z y e') : LevOK p x y := by
  have s1 : ((Q.map f).toArray.size : Int) = (Q.length : Int) := by simp
  have s2 : ((Q.map g).toArray.size : Int) = (Q.length : Int) := by simp
  rcases h1 with ⟨_, _, _, a⟩ | ⟨a, _⟩
  · rcases h2 with ⟨_, _, _, b⟩ | ⟨b, _⟩
    · obtain ⟨Q', hQ⟩ : ∃ Q', Q' = Q.mergeSort (fun u v => decide (kap (f u).toNat ≤ kap (f v).toNat)) := ⟨_, rfl⟩
      have hp : Q'.Perm Q := by rw [hQ]; exact List.mergeSort_perm _ _
      have hs : Q'.Pairwise (fun u v => kap (f u).toNat ≤ kap (f v).toNat) := by
        rw [hQ]
        have := List.pairwise_mergeSort (le := fun u v : UInt64 => decide (kap (f u).toNat ≤ kap (f v).toNat)) (fun a b c h1 h2 => by
          simp only [decide_eq_true_eq] at *; omega) (fun a b => by
          simp only [Bool.or_eq_true, decide_eq_true_eq]; omega) Q
        exact List.Pairwise.imp (fun {a b} hab => of_decide_eq_true hab) this
      have hs' : Q'.Pairwise (fun u v => kap (g u).toNat ≤ kap (g v).toNat) := by
        refine List.Pairwise.imp_of_mem (fun {u v} hu hv huv => ?_) hs
        exact Sc.kap_le (h u (hp.mem_iff.1 hu)).sc (h v (hp.mem_iff.1 hv)).sc huv
      rw [srt_by hp hs, List.getElem?_map] at a
      rw [srt_by hp hs', List.getElem?_map] at b
      obtain ⟨u, hu⟩ : ∃ u, Q'[z.toNat]? = some u := by
        cases hq : Q'[z.toNat]? with
        | none => rw [hq] at a; cases a
        | some u => exact ⟨u, rfl⟩
      rw [hu] at a b
      have hm := h u (hp.mem_iff.1 (List.mem_of_getElem? hu))
      obtain ⟨⟨c1, c2⟩, c3, c4⟩ := Sc.nn hm.sc
      have e1 := kap_word_eq hx c1 c2 (Option.some.inj a)
      have e2 := kap_word_eq hy c3 c4 (Option.some.inj b)
      rw [e1, e2]
      exact hm.lev
    · omega
  · omega

variable {L : List UInt64} {way g' t nth : Int}

theorem lev_sc (hp : p ≤ 100) (h : ListSc p f g L) (hl : L.length ≤ 16384) (hnth : 0 ≤ nth) {i : Int} {x y : Nat} (hx : LV (L.map f) i way g' t nth x) (hy : LV (L.map g) i way g' t nth y) : (x = 9218868437227405312 ∧ y = 9218868437227405312) ∨ LevOK p x y := by
  unfold LV at hx hy
  rw [sg_map, sg_map] at hx hy
  have hA : ListSc p f g (sg L (i - g' - t) (i - g')) := fun x hx => h x (sg_mem hx)
  have hB : ListSc p f g (sg L (i + g' + 1) (i + g' + t + 1)) := fun x hx => h x (sg_mem hx)
  have la := sg_len L (i - g' - t) (i - g')
  have lb := sg_len L (i + g' + 1) (i + g' + t + 1)
  generalize sg L (i - g' - t) (i - g') = A at *
  generalize sg L (i + g' + 1) (i + g' + t + 1) = B at *
  rw [← List.map_append] at hx hy
  by_cases h0 : A ++ B = []
  · rw [if_pos (List.map_eq_nil_iff.2 h0)] at hx hy
    exact .inl ⟨hx, hy⟩
  · rw [if_neg (fun h => h0 (List.map_eq_nil_iff.1 h))] at hx hy
    have hAB : ListSc p f g (A ++ B) := fun x hx => (List.mem_append.1 hx).elim (hA x) (hB x)
    have lab : 0 < (A ++ B).length := List.length_pos_iff.2 h0
    right
    unfold RV at hx hy
    rw [← List.map_append] at hx hy
    by_cases h3 : way = 3
    · rw [if_pos h3] at hx hy
      rw [List.length_map] at hx hy
      exact nv_sc hAB hx.1 hy.1 (by omega) hx.2 hy.2
    · rw [if_neg h3] at hx hy
      by_cases h1 : way = 1
      · rw [if_pos h1] at hx hy
        rw [hx, hy]
        exact of_sc (fun h k => h.gt k) hp hA hB (by omega) (by omega) h0
      · rw [if_neg h1] at hx hy
        by_cases h2 : way = 2
        · rw [if_pos h2] at hx hy
          rw [hx, hy]
          exact of_sc (fun h k => h.lt k) hp hA hB (by omega) (by omega) h0
        · rw [if_neg h2] at hx hy
          rw [hx, hy]
          exact mean_sc hp hAB (by rw [List.length_append]; omega) h0

/-- Where there are no cells, how great a number is counts for nothing. -/
theorem inf_gt {t : Nat} (ht : TM t) : ∃ b, ∀ (s : Bool) (r : Nat), r < infR → gtB (Ieee.double.word s r) (fmul .f64 9218868437227405312 t) = b := by
  obtain ⟨τ, q, rfl, hq, _⟩ := ht
  have hi : Ieee.double.read 9218868437227405312 = .infinity false := by decide
  obtain ⟨m, i, g1, g2, g3⟩ := rungD_fin hq
  have e : fmul .f64 9218868437227405312 (Ieee.double.word τ q) = if m = 0 then nanF .f64 else Ieee.double.word τ infR := by
    show fres .f64 (((Ieee.double.read _).product (Ieee.double.read _)).map Ieee.double.write) = _
    rw [hi, read_word _ _ (by rw [d_ir]; exact Nat.le_of_lt hq), g1]
    simp only [Ieee.Datum.product]
    by_cases hm : m = 0
    · rw [if_pos hm, if_pos hm]; rfl
    · rw [if_neg hm, if_neg hm, Bool.false_xor]; rfl
  rw [e]
  by_cases hm : m = 0
  · rw [if_pos hm]
    exact ⟨false, fun s r _ => gt_nan⟩
  · rw [if_neg hm]
    refine ⟨τ, fun s r hr => ?_⟩
    unfold gtB
    rw [order_swI (Nat.le_of_lt hr) (Nat.le_refl _), cmp_is]
    have hlt := sv_lt hr
    cases τ with
    | false =>
      have : sw s r < sw false infR := by
        unfold sw
        cases s <;> simp only [Bool.false_eq_true, if_false, if_true] <;> omega
      rw [if_pos this]; rfl
    | true =>
      have : sw true infR < sw s r := by
        unfold sw
        cases s <;> simp only [Bool.false_eq_true, if_false, if_true] <;> omega
      rw [if_neg (by omega), if_neg (by omega)]; rfl

theorem line_sc (hp : p ≤ 100) (h : ListSc p f g L) (hl : L.length ≤ 16384) (hb : ¬ badN g' t nth) {times : Nat} (ht : finT times = true) (hT : TM times) {bs cs : List Bool} {e e' : Int} (h1 : LnR (L.map f) way g' t nth times bs e) (h2 : LnR (L.map g) way g' t nth times cs e') : bs = cs := by
  obtain ⟨_, b2, b3⟩ := h1.ok (by rw [List.length_map]; exact hl) hb ht
  obtain ⟨_, c2, c3⟩ := h2.ok (by rw [List.length_map]; exact hl) hb ht
  rw [List.length_map] at b2 c2
  have hnth : 0 ≤ nth := by unfold badN at hb; omega
  refine List.ext_getElem? fun i => ?_
  by_cases hi : i < L.length
  · obtain ⟨x, hx, gx⟩ := b3 i (by rw [List.length_map]; exact hi)
    obtain ⟨y, hy, gy⟩ := c3 i (by rw [List.length_map]; exact hi)
    rw [gx, gy, List.getElem_map, List.getElem_map]
    have hu := h L[i] (List.getElem_mem hi)
    congr 1
    rcases lev_sc hp h hl hnth hx hy with ⟨rfl, rfl⟩ | hlv
    · obtain ⟨b, hb⟩ := inf_gt hT
      obtain ⟨s, r, r', k1, k2, k3, k4, _⟩ := hu.sc
      rw [k1, k2, hb s r k3, hb s r' k4]
    · exact (Sc.gt hu.sc (mul_sc hp hlv hT)).symm
  · rw [List.getElem?_eq_none (by omega), List.getElem?_eq_none (by omega)]

end

/-! ## The power of two -/

/-- A list of tame numbers, each times 2^p (p of either sign): S is that power. -/
structure Pow2 (P : Int) (S : Nat) : Prop where
  lo : -100 ≤ P
  hi : P ≤ 100
  is : S = Ieee.double.word false (((P + 1023).toNat) * 4503599627370496)

def phi (S : Nat) (u : UInt64) : UInt64 := UInt64.ofNat (fmul .f64 u.toNat S)

theorem pow_sv {k : Nat} (h1 : 1 ≤ k) : sv (k * 4503599627370496) = twoP (51 + k) := by
  obtain ⟨j, rfl⟩ : ∃ j, k = j + 1 := ⟨k - 1, by omega⟩
  rw [show (j + 1) * 4503599627370496 = j * 4503599627370496 + 4503599627370496 by omega, sv_one]
  congr 1
  omega

theorem phi_word {S : Nat} {u : UInt64} {s : Bool} {r : Nat} (h : fmul .f64 u.toNat S = Ieee.double.word s r) (hr : r < infR) : (phi S u).toNat = Ieee.double.word s r := by
  unfold phi
  rw [h, UInt64.toNat_ofNat', Nat.mod_eq_of_lt (word_lt (Nat.le_of_lt hr)).1]

theorem pow2_sc {P : Int} {S : Nat} (hS : Pow2 P S) {L : List UInt64} (hL : ∀ u ∈ L, TM u.toNat) : (0 ≤ P → ListSc P.toNat id (phi S) L) ∧ (P < 0 → ListSc (-P).toNat (phi S) id L) ∧ S < 18446744073709551616 ∧
    (∀ s r r', r < infR → r' < infR → (0 ≤ P → sv r' = sv r * twoP P.toNat) → (P < 0 → sv r = sv r' * twoP (-P).toNat) → fmul .f64 (Ieee.double.word s r) S = Ieee.double.word s r') ∧ fmul .f64 9218868437227405312 S = 9218868437227405312 := by
  obtain ⟨lo, hi, rfl⟩ := hS
  have hI : infR = 2047 * 4503599627370496 := rfl
  have hq : (P + 1023).toNat * 4503599627370496 < infR := by omega
  have hsq : sv ((P + 1023).toNat * 4503599627370496) = twoP (51 + (P + 1023).toNat) := pow_sv (by omega)
  have hO : oneU = twoP 1074 := rfl
  have ex : ∀ s r r', r < infR → r' < infR → (0 ≤ P → sv r' = sv r * twoP P.toNat) → (P < 0 → sv r = sv r' * twoP (-P).toNat) → fmul .f64 (Ieee.double.word s r) (Ieee.double.word false ((P + 1023).toNat * 4503599627370496)) = Ieee.double.word s r' := by
    intro s r r' h1 h2 h3 h4
    refine mul_exact h1 h2 hq ?_
    rw [hsq, hO]
    by_cases h0 : 0 ≤ P
    · have e : 51 + (P + 1023).toNat = P.toNat + 1074 := by omega
      rw [h3 h0, e, ← twoP_mul, Nat.mul_assoc]
    · have e : (-P).toNat + (51 + (P + 1023).toNat) = 1074 := by omega
      rw [h4 (by omega), Nat.mul_assoc, twoP_mul, e]
  obtain ⟨v, v1, v2⟩ := pow_rung (k := 774) (by decide)
  have hv : v = 722 * 4503599627370496 + 4503599627370496 := sv_inj (by rw [v1, sv_one])
  refine ⟨fun h0 u hu => ?_, fun h0 u hu => ?_, (word_lt (Nat.le_of_lt hq)).1, ex, ?_⟩
  · obtain ⟨s, r, h1, h2, h3⟩ := hL u hu
    rcases h3 with rfl | ⟨h3, h4⟩
    · have e := ex s 0 0 h2 h2 (fun _ => by rw [sv_zero, Nat.zero_mul]) (fun _ => by rw [sv_zero, Nat.zero_mul])
      replace e := (congrArg (fun w => fmul .f64 w (Ieee.double.word false ((P + 1023).toNat * 4503599627370496))) h1).trans e
      exact ⟨s, 0, 0, 0, h1, phi_word e h2, h2, h2, by rw [sv_zero, Nat.zero_mul], by rw [sv_zero, Nat.zero_mul], by rw [sv_zero]; exact Nat.zero_le _⟩
    · have hr : v ≤ r := sv_le_inv (by rw [v1]; exact h3)
      obtain ⟨w, w1, w2⟩ := pow_rung (k := 1374) (by decide)
      have hw : w = 1322 * 4503599627370496 + 4503599627370496 := sv_inj (by rw [w1, sv_one])
      have hrw : r ≤ w := sv_le_inv (by rw [w1]; exact h4)
      have hs := sv_shift (z := r) (p := P.toNat) (by omega)
      have hr' : r + P.toNat * 4503599627370496 < infR := by omega
      have e := ex s r (r + P.toNat * 4503599627370496) h2 hr' (fun _ => hs) (fun h => by omega)
      replace e := (congrArg (fun w => fmul .f64 w (Ieee.double.word false ((P + 1023).toNat * 4503599627370496))) h1).trans e
      obtain ⟨c, hc⟩ := mul_of_ge (K := 622) (Nat.le_trans (twoP_le (by decide)) h3)
      exact ⟨s, r, _, c, h1, phi_word e hr', h2, hr', hs, hc, by rw [Nat.one_mul]; exact Nat.le_trans h4 (twoP_le (by decide))⟩
  · obtain ⟨s, r, h1, h2, h3⟩ := hL u hu
    rcases h3 with rfl | ⟨h3, h4⟩
    · have e := ex s 0 0 h2 h2 (fun _ => by rw [sv_zero, Nat.zero_mul]) (fun _ => by rw [sv_zero, Nat.zero_mul])
      replace e := (congrArg (fun w => fmul .f64 w (Ieee.double.word false ((P + 1023).toNat * 4503599627370496))) h1).trans e
      exact ⟨s, 0, 0, 0, phi_word e h2, h1, h2, h2, by rw [sv_zero, Nat.zero_mul], by rw [sv_zero, Nat.zero_mul], by rw [sv_zero]; exact Nat.zero_le _⟩
    · have hr : v ≤ r := sv_le_inv (by rw [v1]; exact h3)
      obtain ⟨r', hr'⟩ : ∃ r', r = r' + (-P).toNat * 4503599627370496 := ⟨r - (-P).toNat * 4503599627370496, by omega⟩
      have hs : sv r = sv r' * twoP (-P).toNat := by rw [hr']; exact sv_shift (by omega)
      have hri : r' < infR := by omega
      have e := ex s r r' h2 hri (fun h => by omega) (fun _ => hs)
      replace e := (congrArg (fun w => fmul .f64 w (Ieee.double.word false ((P + 1023).toNat * 4503599627370496))) h1).trans e
      have hle : sv r' ≤ sv r := sv_le (by omega)
      have hge : twoP 674 ≤ sv r' := by
        apply Nat.le_of_mul_le_mul_right (c := twoP (-P).toNat) _ (twoP_pos _)
        rw [← hs, twoP_mul]
        exact Nat.le_trans (twoP_le (by omega)) h3
      obtain ⟨c, hc⟩ := mul_of_ge (K := 622) (Nat.le_trans (twoP_le (by decide)) hge)
      exact ⟨s, r', r, c, phi_word e hri, h1, hri, h2, hs, hc, by rw [Nat.one_mul]; exact Nat.le_trans hle (Nat.le_trans h4 (twoP_le (by decide)))⟩
  · have hz : (P + 1023).toNat * 4503599627370496 ≠ 0 := by omega
    rw [inf_times ⟨Nat.le_of_lt hq, false, rfl, fun h => by cases h⟩ hq hz]
    rfl

theorem pow2_level {P : Int} {S : Nat} (hS : Pow2 P S) {L : List UInt64} (hL : ∀ u ∈ L, TM u.toNat) {way g t nth i : Int} (hl : L.length ≤ 16384) (hnth : 0 ≤ nth) {x y : Nat} (hx : LV L i way g t nth x) (hy : LV (L.map (phi S)) i way g t nth y) : y = fmul .f64 x S := by
  obtain ⟨h1, h2, _, ex, hinf⟩ := pow2_sc hS hL
  have hlo := hS.lo
  have hhi := hS.hi
  by_cases h0 : 0 ≤ P
  · have hx' : LV (L.map id) i way g t nth x := by rw [List.map_id]; exact hx
    rcases lev_sc (by omega) (h1 h0) hl hnth hx' hy with ⟨rfl, rfl⟩ | hlv
    · exact hinf.symm
    · obtain ⟨s, r, r', rfl, rfl, k3, k4, k5⟩ := hlv.sc
      exact (ex s r r' k3 k4 (fun _ => k5) (fun h => by omega)).symm
  · have hx' : LV (L.map id) i way g t nth x := by rw [List.map_id]; exact hx
    rcases lev_sc (by omega) (h2 (by omega)) hl hnth hy hx' with ⟨rfl, rfl⟩ | hlv
    · exact hinf.symm
    · obtain ⟨s, r, r', rfl, rfl, k3, k4, k5⟩ := hlv.sc
      exact (ex s r' r k4 k3 (fun h => by omega) (fun _ => k5)).symm

theorem pow2_line {P : Int} {S : Nat} (hS : Pow2 P S) {L : List UInt64} (hL : ∀ u ∈ L, TM u.toNat) {way g t nth : Int} (hl : L.length ≤ 16384) (hb : ¬ badN g t nth) {times : Nat} (ht : finT times = true) (hT : TM times) {bs cs : List Bool} {e e' : Int} (h1 : LnR L way g t nth times bs e) (h2 : LnR (L.map (phi S)) way g t nth times cs e') : bs = cs := by
  obtain ⟨k1, k2, _⟩ := pow2_sc hS hL
  have hlo := hS.lo
  have hhi := hS.hi
  have h1' : LnR (L.map id) way g t nth times bs e := by rw [List.map_id]; exact h1
  by_cases h0 : 0 ≤ P
  · exact line_sc (by omega) (k1 h0) hl hb ht hT h1' h2
  · exact (line_sc (by omega) (k2 (by omega)) hl hb ht hT h2 h1').symm

end Go.Proofs.Ytfjdihfflghfpaa

/- CfarCells: cells changed about, cells swapped. -/
namespace Go.Proofs.Ytfjdihfflghfpaa
open Go Go.Vam Go.Sort

/-- A place of a cell. -/
def cellP (at_ g t j : Int) : Prop := (at_ - g - t ≤ j ∧ j < at_ - g) ∨ (at_ + g + 1 ≤ j ∧ j < at_ + g + t + 1)

theorem sg_eq {L M : List UInt64} {lo hi : Int} (hl : M.length = L.length) (h : ∀ j : Nat, lo ≤ (j : Int) → (j : Int) < hi → M[j]? = L[j]?) : sg M lo hi = sg L lo hi := by
  unfold sg
  rw [hl]
  refine List.ext_getElem? fun i => ?_
  rw [List.getElem?_take, List.getElem?_take, List.getElem?_drop, List.getElem?_drop]
  split
  · exact h _ (by omega) (by omega)
  · rfl

theorem LV_cells {L M : List UInt64} {at_ way g t nth : Int} {x : Nat} (hl : M.length = L.length) (h : ∀ j : Nat, cellP at_ g t j → M[j]? = L[j]?) (hx : LV M at_ way g t nth x) : LV L at_ way g t nth x := by
  unfold LV at hx ⊢
  rw [sg_eq (L := L) hl (fun j h1 h2 => h j (.inl ⟨h1, h2⟩)), sg_eq (L := L) hl (fun j h1 h2 => h j (.inr ⟨h1, h2⟩))] at hx
  exact hx

theorem srt_perm_eq {Q Q' : List UInt64} (hq : Q'.Perm Q) : srt Q'.toArray = srt Q.toArray := by
  have key : ∀ R : List UInt64, (srt R.toArray).Pairwise (fun a b : Int => a ≤ b) := fun R => by
    have := List.pairwise_mergeSort (le := fun x y : Int => !ltInt y x) (fun a b c h1 h2 => by
      simp only [ltInt, Bool.not_eq_true', decide_eq_false_iff_not] at *
      omega) (fun a b => by
      simp only [ltInt, Bool.or_eq_true, Bool.not_eq_true', decide_eq_false_iff_not]
      omega) (R.toArray.toList.map fun x => kap x.toNat)
    refine List.Pairwise.imp (fun {a b} hab => ?_) this
    simp only [ltInt, Bool.not_eq_true', decide_eq_false_iff_not] at hab
    omega
  refine List.Perm.eq_of_pairwise (le := fun a b : Int => a ≤ b) (fun a b _ _ h1 h2 => Int.le_antisymm h1 h2) (key _) (key _) ?_
  exact (srt_perm _).trans ((hq.map _).trans (srt_perm _).symm)

theorem set_perm {A : List UInt64} {p : Nat} {b : UInt64} (hp : p < A.length) : (A[p] :: A.set p b).Perm (b :: A) := by
  have e1 : A = A.take p ++ A[p] :: A.drop (p + 1) := by
    rw [List.getElem_cons_drop, List.take_append_drop]
  have e2 : A.set p b = A.take p ++ b :: A.drop (p + 1) := by rw [List.set_eq_take_append_cons_drop, if_pos hp]
  rw [e2]
  have p1 : (A.take p ++ b :: A.drop (p + 1)).Perm (b :: (A.take p ++ A.drop (p + 1))) := List.perm_middle
  have p2 : (A.take p ++ A[p] :: A.drop (p + 1)).Perm (A[p] :: (A.take p ++ A.drop (p + 1))) := List.perm_middle
  rw [← e1] at p2
  exact (p1.cons _).trans ((List.Perm.swap ..).trans (p2.symm.cons _))

theorem swap_perm {A B : List UInt64} {p q : Nat} (hp : p < A.length) (hq : q < B.length) : (A.set p B[q] ++ B.set q A[p]).Perm (A ++ B) := by
  have h1 := set_perm (b := B[q]) hp
  have h2 := set_perm (b := A[p]) hq
  -- both with the two elements ahead
  have e : (A[p] :: B[q] :: (A.set p B[q] ++ B.set q A[p])).Perm (A[p] :: B[q] :: (A ++ B)) := by
    have a1 : (A[p] :: B[q] :: (A.set p B[q] ++ B.set q A[p])).Perm ((A[p] :: A.set p B[q]) ++ (B[q] :: B.set q A[p])) := by
      refine List.Perm.cons _ ?_
      exact List.perm_middle.symm
    have a2 : ((B[q] :: A) ++ (A[p] :: B)).Perm (A[p] :: B[q] :: (A ++ B)) := by
      refine (List.Perm.cons _ List.perm_middle).trans (List.Perm.swap ..)
    exact a1.trans ((h1.append h2).trans a2)
  exact ((List.perm_cons _).1 ((List.perm_cons _).1 e))

theorem sg_get {L : List UInt64} {lo hi : Int} {i : Nat} (hlo : lo ≤ i) (hhi : (i : Int) < hi) (hi' : i < L.length) : ∃ h : i - (max lo 0).toNat < (sg L lo hi).length, (sg L lo hi)[i - (max lo 0).toNat] = L[i] := by
  have hlen : (sg L lo hi).length = min (min hi ((L.length : Nat) : Int) - max lo 0).toNat (L.length - (max lo 0).toNat) := by unfold sg; rw [List.length_take, List.length_drop]
  refine ⟨by omega, ?_⟩
  unfold sg
  rw [List.getElem_take, List.getElem_drop]
  congr 1
  omega

theorem sg_set_in {L : List UInt64} {lo hi : Int} {i : Nat} {v : UInt64} (hlo : lo ≤ i) : sg (L.set i v) lo hi = (sg L lo hi).set (i - (max lo 0).toNat) v := by
  unfold sg
  rw [List.length_set, List.drop_set, if_neg (by omega), List.take_set]

/-- Two cells swapped, one at each side: in order the level is the same. -/
theorem swap_level {L : List UInt64} {at_ g t nth : Int} {i j : Nat} (hg : 0 ≤ g) (hnth : 0 ≤ nth) (hi : at_ + g + 1 ≤ i ∧ (i : Int) < at_ + g + t + 1) (hj : at_ - g - t ≤ j ∧ (j : Int) < at_ - g) (hiL : i < L.length) (hjL : j < L.length) (hat : 0 ≤ at_) {x y : Nat} (hx : LV L at_ 3 g t nth x) (hy : LV ((L.set i L[j]).set j L[i]) at_ 3 g t nth y) : FE x y := by
  unfold LV at hx hy
  have s1 : sg ((L.set i L[j]).set j L[i]) (at_ - g - t) (at_ - g) = (sg L (at_ - g - t) (at_ - g)).set (j - (max (at_ - g - t) 0).toNat) L[i] := by
    rw [sg_set_in hj.1, sg_set (.inr (by omega))]
  have s2 : sg ((L.set i L[j]).set j L[i]) (at_ + g + 1) (at_ + g + t + 1) = (sg L (at_ + g + 1) (at_ + g + t + 1)).set (i - (max (at_ + g + 1) 0).toNat) L[j] := by
    rw [sg_set (.inl (by omega)), sg_set_in hi.1]
  obtain ⟨g1, g2⟩ := sg_get (L := L) (lo := at_ - g - t) (hi := at_ - g) (i := j) hj.1 hj.2 hjL
  obtain ⟨k1, k2⟩ := sg_get (L := L) (lo := at_ + g + 1) (hi := at_ + g + t + 1) (i := i) hi.1 hi.2 hiL
  rw [s1, s2] at hy
  generalize sg L (at_ - g - t) (at_ - g) = A at *
  generalize sg L (at_ + g + 1) (at_ + g + t + 1) = B at *
  generalize j - (max (at_ - g - t) 0).toNat = p at *
  generalize i - (max (at_ + g + 1) 0).toNat = q at *
  have hsw := swap_perm g1 k1
  rw [g2, k2] at hsw
  have h0 : A ++ B ≠ [] := by
    intro h
    have : A = [] := (List.append_eq_nil_iff.1 h).1
    rw [this] at g1; simp at g1
  rw [if_neg h0] at hx
  rw [if_neg (by intro h; exact h0 (List.nil_perm.1 (by rw [← h]; exact hsw)))] at hy
  unfold RV at hx hy
  rw [if_pos rfl] at hx hy
  have hlen := hsw.length_eq
  obtain ⟨x1, x2⟩ := hx
  obtain ⟨y1, y2⟩ := hy
  refine .inr ⟨x1, y1, ?_⟩
  unfold NV at x2 y2
  rw [srt_perm_eq hsw] at y2
  rw [hlen] at y2
  have hpos : 0 < (A ++ B).length := List.length_pos_iff.2 h0
  have z1 : ((A ++ B).toArray.size : Int) = ((A ++ B).length : Nat) := rfl
  rcases x2 with ⟨_, _, _, a⟩ | ⟨a, _⟩
  · rcases y2 with ⟨_, _, _, b⟩ | ⟨_, b, _⟩
    · rw [a] at b; exact Option.some.inj b
    · omega
  · omega

end Go.Proofs.Ytfjdihfflghfpaa
