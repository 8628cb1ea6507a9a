/- Rounding is monotone: the nearest number, of two the even one. -/
import Derived.Test.YtfjdihfflghfpaaFlB
import Derived.Test.YtfjdihfflghfpaaSI
import Derived.Laws.FloatBits
namespace Go.Vam
open Go

/-- Twice the middle between a rung and the next. -/
def mid (w : Nat) : Nat := sv w + sv (w + 1)

/-- z is the rung nearest to N / D units. -/
structure NE (N D z : Nat) : Prop where
  inf : z ≤ infR
  lo : ∀ w, w < infR → 2 * N < mid w * D → z ≤ w
  hi : ∀ w, w < infR → mid w * D < 2 * N → w < z
  tie : ∀ w, w < infR → 2 * N = mid w * D → z = w + w % 2

theorem NE.mono {N D N' D' z z' : Nat} (h : NE N D z) (h' : NE N' D' z') (hD : 0 < D) (hD' : 0 < D') (hle : N * D' ≤ N' * D) : z ≤ z' := by
  apply Nat.le_of_not_lt
  intro hlt
  have hw : z' < infR := Nat.lt_of_lt_of_le hlt h.inf
  have a : mid z' * D' ≥ 2 * N' := Nat.le_of_not_lt fun h2 => absurd (h'.hi z' hw h2) (Nat.lt_irrefl _)
  have b : mid z' * D ≤ 2 * N := Nat.le_of_not_lt fun h2 => absurd (h.lo z' hw h2) (Nat.not_le.2 hlt)
  have c : 2 * N' * D ≤ mid z' * D' * D := Nat.mul_le_mul_right _ a
  have d : mid z' * D * D' ≤ 2 * N * D' := Nat.mul_le_mul_right _ b
  have e : 2 * N * D' ≤ 2 * N' * D := by rw [Nat.mul_assoc, Nat.mul_assoc]; exact Nat.mul_le_mul_left _ hle
  have f : mid z' * D' * D = mid z' * D * D' := Nat.mul_right_comm ..
  have t := h.tie z' hw (Nat.eq_of_mul_eq_mul_right hD' (Nat.le_antisymm (by rw [← f]; exact Nat.le_trans e c) d))
  have t' := h'.tie z' hw (Nat.eq_of_mul_eq_mul_right hD (Nat.le_antisymm c (by rw [f]; exact Nat.le_trans d e)))
  omega

theorem mid_lt (w : Nat) : 2 * sv w < mid w ∧ mid w < 2 * sv (w + 1) := by
  have := sv_succ w
  unfold mid
  omega

theorem NE.ge {N D z w : Nat} (h : NE N D z) (hD : 0 < D) (hw : w ≤ infR) (e : sv w * D ≤ N) : w ≤ z := by
  cases w with
  | zero => exact Nat.zero_le _
  | succ w =>
    refine h.hi w hw (Nat.lt_of_lt_of_le (Nat.mul_lt_mul_of_pos_right (mid_lt w).2 hD) ?_)
    rw [Nat.mul_assoc]; exact Nat.mul_le_mul_left _ e
theorem NE.le {N D z w : Nat} (h : NE N D z) (hD : 0 < D) (e : N ≤ sv w * D) : z ≤ w := by
  by_cases hw : w < infR
  · refine h.lo w hw (Nat.lt_of_le_of_lt ?_ (Nat.mul_lt_mul_of_pos_right (mid_lt w).1 hD))
    rw [Nat.mul_assoc]; exact Nat.mul_le_mul_left _ e
  · exact Nat.le_trans h.inf (Nat.le_of_not_lt hw)
theorem NE.rn {N D z : Nat} (h : NE N D z) (hD : 0 < D) : RN N D z := ⟨h.inf, fun _ hw e => h.ge hD hw e, fun _ e => h.le hD e⟩

theorem cut_half (n d : Nat) : (Ieee.Toward.even.cut true n d = n / 2 ^ d ∧ 2 * (n % 2 ^ d) ≤ 2 ^ d ∧ (2 * (n % 2 ^ d) = 2 ^ d → n / 2 ^ d % 2 = 0)) ∨
    (Ieee.Toward.even.cut true n d = n / 2 ^ d + 1 ∧ 2 ^ d ≤ 2 * (n % 2 ^ d) ∧ (2 * (n % 2 ^ d) = 2 ^ d → n / 2 ^ d % 2 = 1)) := by
  unfold Ieee.Toward.cut
  simp only [Nat.one_shiftLeft]
  by_cases hd : d ≤ n.log2 + 2
  · rw [Nat.min_eq_left hd]
    generalize 2 ^ d = g
    cases hb : (decide (g < 2 * (n % g)) || (g == 2 * (n % g) && n / g % 2 == 1)) with
    | false =>
      left
      rw [Bool.or_eq_false_iff, Bool.and_eq_false_iff, decide_eq_false_iff_not] at hb
      refine ⟨by simp, by omega, fun he => ?_⟩
      rcases hb.2 with h | h
      · simp at h; omega
      · simp at h; omega
    | true =>
      right
      rw [Bool.or_eq_true, Bool.and_eq_true, decide_eq_true_eq, beq_iff_eq, beq_iff_eq] at hb
      refine ⟨by simp, by omega, fun he => by omega⟩
  · have hl : n < 2 ^ (n.log2 + 1) := log2_lt
    rw [Nat.min_eq_right (by omega)]
    have e1 : 2 ^ (n.log2 + 2) = 2 * 2 ^ (n.log2 + 1) := by rw [Nat.pow_succ, Nat.mul_comm]
    have e2 : 2 ^ (n.log2 + 2) ≤ 2 ^ d := Nat.pow_le_pow_right (by omega) (by omega)
    left
    have z1 : n / 2 ^ (n.log2 + 2) = 0 := Nat.div_eq_of_lt (by omega)
    have z2 : n % 2 ^ (n.log2 + 2) = n := Nat.mod_eq_of_lt (by omega)
    have z3 : n / 2 ^ d = 0 := Nat.div_eq_of_lt (by omega)
    have z4 : n % 2 ^ d = n := Nat.mod_eq_of_lt (by omega)
    rw [z1, z2, z3, z4]
    have b1 : decide (2 ^ (n.log2 + 2) < 2 * n) = false := decide_eq_false (by omega)
    refine ⟨by simp [b1], by omega, fun _ => rfl⟩

theorem rung_half {m : Nat} (hm : m ≠ 0) (i : Int) : ∃ q low c, low < 9007199254740992 ∧ (q = 0 ∨ 4503599627370496 ≤ low) ∧ low * 2 ^ q * 2 ^ (-1074 - i).toNat ≤ m * 2 ^ (i + 1074).toNat ∧ m * 2 ^ (i + 1074).toNat < (low + 1) * 2 ^ q * 2 ^ (-1074 - i).toNat ∧
    rungN m i = min (q * 4503599627370496 + low + c) Ieee.double.infRung ∧
    ((c = 0 ∧ 2 * (m * 2 ^ (i + 1074).toNat) ≤ (2 * low + 1) * 2 ^ q * 2 ^ (-1074 - i).toNat ∧ (2 * (m * 2 ^ (i + 1074).toNat) = (2 * low + 1) * 2 ^ q * 2 ^ (-1074 - i).toNat → low % 2 = 0)) ∨
     (c = 1 ∧ (2 * low + 1) * 2 ^ q * 2 ^ (-1074 - i).toNat ≤ 2 * (m * 2 ^ (i + 1074).toNat) ∧ (2 * (m * 2 ^ (i + 1074).toNat) = (2 * low + 1) * 2 ^ q * 2 ^ (-1074 - i).toNat → low % 2 = 1))) := by
  have h1 := log2_le hm
  have h2 := log2_lt (n := m)
  unfold rungN
  rw [if_neg hm, d_fb, d_lp, d_bi]
  generalize m.log2 = l at h1 h2 ⊢
  obtain ⟨q, hq⟩ : ∃ q : Nat, max (i + l - (52 : Nat)) (-1074) = (q : Int) - 1074 := ⟨(max (i + l - (52 : Nat)) (-1074) + 1074).toNat, by omega⟩
  rw [hq]
  have e0 : ((q : Int) - 1074 - -1074).toNat = q := by omega
  rw [e0, Nat.shiftLeft_eq]
  by_cases hi : (q : Int) - 1074 ≤ i
  · obtain ⟨u, hu⟩ : ∃ u : Nat, i = (q : Int) - 1074 + u := ⟨(i - ((q : Int) - 1074)).toNat, by omega⟩
    have e1 : (i - ((q : Int) - 1074)).toNat = u := by omega
    have e2 : ((q : Int) - 1074 - i).toNat = 0 := by omega
    have e3 : (-1074 - i).toNat = 0 := by omega
    have e4 : (i + 1074).toNat = u + q := by omega
    rw [e1, e2, e3, e4]
    have hul : u + l ≤ 52 := by omega
    have hlow : m * 2 ^ u < 9007199254740992 := by
      have a : m * 2 ^ u < 2 ^ (l + 1) * 2 ^ u := Nat.mul_lt_mul_of_pos_right h2 (Nat.two_pow_pos u)
      rw [← Nat.pow_add] at a
      have b : 2 ^ (l + 1 + u) ≤ 2 ^ 53 := Nat.pow_le_pow_right (by omega) (by omega)
      omega
    have hge : q = 0 ∨ 4503599627370496 ≤ m * 2 ^ u := by
      by_cases hq0 : q = 0
      · exact .inl hq0
      · right
        have hul' : u + l = 52 := by omega
        have a : 2 ^ l * 2 ^ u ≤ m * 2 ^ u := Nat.mul_le_mul_right _ h1
        rw [← Nat.pow_add, show l + u = 52 by omega] at a
        omega
    have hex : m * 2 ^ (u + q) = m * 2 ^ u * 2 ^ q := by rw [Nat.pow_add, Nat.mul_assoc]
    have hp := Nat.two_pow_pos q
    have hlt : 2 * (m * 2 ^ (u + q)) < (2 * (m * 2 ^ u) + 1) * 2 ^ q := by
      rw [hex, ← Nat.mul_assoc]; exact Nat.mul_lt_mul_of_pos_right (by omega) hp
    refine ⟨q, m * 2 ^ u, 0, hlow, hge, by rw [hex]; simp, ?_, ?_, .inl ⟨rfl, ?_, fun h => ?_⟩⟩
    · rw [hex, Nat.pow_zero, Nat.mul_one]
      exact Nat.mul_lt_mul_of_pos_right (by omega) hp
    · have : Ieee.Toward.even.cut true (m * 2 ^ u) 0 = m * 2 ^ u := by
        rcases cut_spec (m * 2 ^ u) 0 with h | ⟨_, h⟩
        · rw [h]; simp
        · exact absurd (by simp [Nat.mod_one]) h
      rw [this, Nat.add_zero]
    · rw [Nat.pow_zero, Nat.mul_one]; exact Nat.le_of_lt hlt
    · rw [Nat.pow_zero, Nat.mul_one] at h; omega
  · obtain ⟨d, hd⟩ : ∃ d : Nat, (q : Int) - 1074 = i + d := ⟨((q : Int) - 1074 - i).toNat, by omega⟩
    have e1 : (i - ((q : Int) - 1074)).toNat = 0 := by omega
    have e2 : ((q : Int) - 1074 - i).toNat = d := by omega
    rw [e1, e2, Nat.pow_zero, Nat.mul_one]
    have hlow : m / 2 ^ d < 9007199254740992 := by
      rw [Nat.div_lt_iff_lt_mul (Nat.two_pow_pos d)]
      have b : 2 ^ (l + 1) ≤ 2 ^ (53 + d) := Nat.pow_le_pow_right (by omega) (by omega)
      rw [Nat.pow_add 2 53 d] at b
      omega
    have hge : q = 0 ∨ 4503599627370496 ≤ m / 2 ^ d := by
      by_cases hq0 : q = 0
      · exact .inl hq0
      · right
        rw [Nat.le_div_iff_mul_le (Nat.two_pow_pos d)]
        have : l = 52 + d := by omega
        rw [this, Nat.pow_add 2 52 d] at h1
        omega
    have hdm := Nat.div_add_mod m (2 ^ d)
    have hmod := Nat.mod_lt m (Nat.two_pow_pos d)
    have hqAB : 2 ^ q * 2 ^ (-1074 - i).toNat = 2 ^ d * 2 ^ (i + 1074).toNat := by
      rw [← Nat.pow_add, ← Nat.pow_add]; congr 1; omega
    have hA := Nat.two_pow_pos (i + 1074).toNat
    have hc := cut_half m d
    generalize m / 2 ^ d = low at hlow hge hdm hc ⊢
    generalize m % 2 ^ d = r at hdm hmod hc ⊢
    have k1 : low * 2 ^ q * 2 ^ (-1074 - i).toNat = 2 ^ d * low * 2 ^ (i + 1074).toNat := by
      rw [Nat.mul_assoc, hqAB, ← Nat.mul_assoc, Nat.mul_comm low]
    have k2 : (low + 1) * 2 ^ q * 2 ^ (-1074 - i).toNat = (2 ^ d * low + 2 ^ d) * 2 ^ (i + 1074).toNat := by
      rw [Nat.mul_assoc, hqAB, ← Nat.mul_assoc, Nat.add_mul low, Nat.mul_comm low, Nat.one_mul]
    have k3 : (2 * low + 1) * 2 ^ q * 2 ^ (-1074 - i).toNat = (2 * (2 ^ d * low) + 2 ^ d) * 2 ^ (i + 1074).toNat := by
      rw [Nat.mul_assoc, hqAB, ← Nat.mul_assoc, Nat.add_mul (2 * low), Nat.one_mul, Nat.mul_assoc 2, Nat.mul_comm low]
    have k4 : 2 * (m * 2 ^ (i + 1074).toNat) = (2 * m) * 2 ^ (i + 1074).toNat := by rw [Nat.mul_assoc]
    rcases hc with ⟨h, a, b⟩ | ⟨h, a, b⟩
    · refine ⟨q, low, 0, hlow, hge, ?_, ?_, by rw [h, Nat.add_zero], .inl ⟨rfl, ?_, fun he => b ?_⟩⟩
      · rw [k1]; exact Nat.mul_le_mul_right _ (by omega)
      · rw [k2]; exact Nat.mul_lt_mul_of_pos_right (by omega) hA
      · rw [k3, k4]; exact Nat.mul_le_mul_right _ (by omega)
      · rw [k3, k4] at he
        have := Nat.eq_of_mul_eq_mul_right hA he; omega
    · refine ⟨q, low, 1, hlow, hge, ?_, ?_, by rw [h, ← Nat.add_assoc], .inr ⟨rfl, ?_, fun he => b ?_⟩⟩
      · rw [k1]; exact Nat.mul_le_mul_right _ (by omega)
      · rw [k2]; exact Nat.mul_lt_mul_of_pos_right (by omega) hA
      · rw [k3, k4]; exact Nat.mul_le_mul_right _ (by omega)
      · rw [k3, k4] at he
        have := Nat.eq_of_mul_eq_mul_right hA he; omega

theorem mid_pos (w : Nat) : 0 < mid w := by have := mid_lt w; omega

theorem rung_ne {m : Nat} {i : Int} {w : Nat} (hw : w < infR) :
    (2 * (m * 2 ^ (i + 1074).toNat) < mid w * 2 ^ (-1074 - i).toNat → rungN m i ≤ w) ∧ (mid w * 2 ^ (-1074 - i).toNat < 2 * (m * 2 ^ (i + 1074).toNat) → w < rungN m i) ∧
    (2 * (m * 2 ^ (i + 1074).toNat) = mid w * 2 ^ (-1074 - i).toNat → rungN m i = w + w % 2) := by
  have hB := Nat.two_pow_pos (-1074 - i).toNat
  by_cases hm : m = 0
  · subst hm
    rw [rungN_zero, Nat.zero_mul, Nat.mul_zero]
    have := Nat.mul_pos (mid_pos w) hB
    exact ⟨fun _ => Nat.zero_le _, fun h => by omega, fun h => by omega⟩
  · obtain ⟨q, low, c, h1, h2, h3, h4, h5, h6⟩ := rung_half hm i
    have e1 := sv_at (q := q) (low := low) (by omega) h2
    have e2 := sv_at (q := q) (low := low + 1) (by omega) (by omega)
    rw [d_ir] at h5
    replace h5 : rungN m i = min (q * 4503599627370496 + low + c) infR := h5
    generalize infR = I at hw h5
    generalize 2 ^ (-1074 - i).toNat = B at hB h3 h4 h6 ⊢
    generalize m * 2 ^ (i + 1074).toNat = V at h3 h4 h6 ⊢
    generalize rungN m i = z at h5 ⊢
    obtain ⟨p, hp⟩ : ∃ p, p = q * 4503599627370496 + low := ⟨_, rfl⟩
    rw [← hp] at h5 e1
    rw [show q * 4503599627370496 + (low + 1) = p + 1 by omega] at e2
    have hpar : p % 2 = low % 2 := by omega
    clear hp
    have hmp : mid p = (2 * low + 1) * 2 ^ q := by unfold mid; rw [e1, e2, ← Nat.add_mul]; congr 1; omega
    rcases Nat.lt_trichotomy w p with hlt | heq | hgt
    · have a1 : mid w < 2 * sv p := Nat.lt_of_lt_of_le (mid_lt w).2 (Nat.mul_le_mul_left _ (sv_le hlt))
      have a2 : mid w * B < 2 * sv p * B := Nat.mul_lt_mul_of_pos_right a1 hB
      rw [Nat.mul_assoc, e1] at a2
      have a3 : mid w * B < 2 * V := by omega
      exact ⟨fun h => by omega, fun _ => by omega, fun h => by omega⟩
    · subst heq
      rw [hmp]
      rcases h6 with ⟨rfl, a, b⟩ | ⟨rfl, a, b⟩
      · exact ⟨fun _ => by omega, fun h => by omega, fun h => by have := b h; omega⟩
      · exact ⟨fun h => by omega, fun _ => by omega, fun h => by have := b h; omega⟩
    · have a1 : 2 * sv (p + 1) < mid w := Nat.lt_of_le_of_lt (Nat.mul_le_mul_left _ (sv_le hgt)) (mid_lt w).1
      have a2 : 2 * sv (p + 1) * B < mid w * B := Nat.mul_lt_mul_of_pos_right a1 hB
      rw [Nat.mul_assoc, e2] at a2
      have a3 : 2 * V < mid w * B := by omega
      exact ⟨fun _ => by omega, fun h => by omega, fun h => by omega⟩

theorem ne_of {N D m : Nat} {i : Int} (hD : 0 < D) (h : N * 2 ^ (-1074 - i).toNat = m * 2 ^ (i + 1074).toNat * D) : NE N D (rungN m i) := by
  have hB := Nat.two_pow_pos (-1074 - i).toNat
  have e : ∀ w, mid w * D * 2 ^ (-1074 - i).toNat = mid w * 2 ^ (-1074 - i).toNat * D := fun w => Nat.mul_right_comm ..
  have e' : 2 * N * 2 ^ (-1074 - i).toNat = 2 * (m * 2 ^ (i + 1074).toNat) * D := by rw [Nat.mul_assoc, h, ← Nat.mul_assoc]
  refine ⟨rungN_inf m i, fun w hw hs => (rung_ne hw).1 ?_, fun w hw hs => (rung_ne hw).2.1 ?_, fun w hw hs => (rung_ne hw).2.2 ?_⟩
  · have h1 := Nat.mul_lt_mul_of_pos_right hs hB
    rw [e, e'] at h1
    exact Nat.lt_of_mul_lt_mul_right h1
  · have h1 := Nat.mul_lt_mul_of_pos_right hs hB
    rw [e, e'] at h1
    exact Nat.lt_of_mul_lt_mul_right h1
  · have h1 : 2 * N * 2 ^ (-1074 - i).toNat = mid w * D * 2 ^ (-1074 - i).toNat := by rw [hs]
    rw [e, e'] at h1
    exact Nat.eq_of_mul_eq_mul_right hD h1

theorem mul_ne {r p : Nat} (hr : r < infR) (hp : p < infR) : ∃ z, (∀ s t, fmul .f64 (Ieee.double.word s r) (Ieee.double.word t p) = Ieee.double.word (s ^^ t) z) ∧ NE (sv r * sv p) oneU z := by
  obtain ⟨m, q, h1, h2, h3⟩ := rungD_fin hr
  obtain ⟨n, q', g1, g2, g3⟩ := rungD_fin hp
  refine ⟨rungN (m * n) (-1074 + (q : Int) + (-1074 + (q' : Int))), fun s t => ?_, ne_of oneU_pos ?_⟩
  · show fres .f64 (((Ieee.double.read _).product (Ieee.double.read _)).map Ieee.double.write) = _
    rw [read_word _ _ (by rw [d_ir]; exact Nat.le_of_lt hr), read_word _ _ (by rw [d_ir]; exact Nat.le_of_lt hp), h1, g1]
    simp only [Ieee.Datum.product, Option.map_some, fres, write_N]
  · rw [← h2, ← g2]
    have e : m * 2 ^ q * (n * 2 ^ q') = m * n * 2 ^ (q + q') := by rw [Nat.pow_add]; ac_rfl
    rw [e, Nat.mul_assoc (m * n), Nat.mul_assoc (m * n), ← Nat.pow_add, oneU_add]
    congr 2
    omega

/-- Far up the middles have many noughts behind. -/
theorem mid_dvd {w K : Nat} (h : 2 ^ (K + 53) < mid w) : ∃ t, mid w = t * 2 ^ K := by
  have e1 : sv (K * 4503599627370496 + 4503599627370496) = 2 ^ (K + 52) := by rw [sv_one, twoP_def, Nat.add_comm]
  have e2 : 2 ^ (K + 53) = 2 * 2 ^ (K + 52) := by rw [show K + 53 = K + 52 + 1 by omega, Nat.pow_succ, Nat.mul_comm]
  have h1 := (mid_lt w).2
  have h2 : sv (K * 4503599627370496 + 4503599627370496) < sv (w + 1) := by rw [e1]; omega
  have h3 : K * 4503599627370496 + 4503599627370496 ≤ w := by have := sv_lt_inv h2; omega
  have h4 := sv_le h3
  rw [e1] at h4
  obtain ⟨t, ht⟩ := sv_dvd h4
  obtain ⟨t', ht'⟩ := sv_dvd (Nat.le_trans h4 (Nat.le_of_lt (sv_succ w)))
  exact ⟨t + t', by rw [mid, ht, ht', Nat.add_mul]⟩

theorem quot_mid {q0 A B w : Nat} (hx : 4 * q0 * 2 ^ A < mid w * 2 ^ B) (hx2 : mid w * 2 ^ B < (4 * q0 + 4) * 2 ^ A) (hq : 9007199254740992 ≤ q0) (hAB : A = 0 ∨ B = 0) : False := by
  by_cases hB0 : B = 0
  · subst hB0
    rw [Nat.pow_zero, Nat.mul_one] at hx hx2
    have e : 2 ^ (A + 2 + 53) = 36028797018963968 * 2 ^ A := by rw [Nat.add_assoc, Nat.pow_add, Nat.mul_comm]
    have h1 : 2 ^ (A + 2 + 53) < mid w := by
      have : 36028797018963968 * 2 ^ A ≤ 4 * q0 * 2 ^ A := Nat.mul_le_mul_right _ (by omega)
      omega
    obtain ⟨t, ht⟩ := mid_dvd h1
    have e2 : t * 2 ^ (A + 2) = 4 * t * 2 ^ A := by rw [Nat.pow_add]; show t * (2 ^ A * 4) = 4 * t * 2 ^ A; ac_rfl
    rw [ht, e2] at hx hx2
    have a := Nat.lt_of_mul_lt_mul_right hx
    have b := Nat.lt_of_mul_lt_mul_right hx2
    omega
  · have hA0 : A = 0 := by omega
    subst hA0
    simp only [Nat.pow_zero, Nat.mul_one] at hx hx2
    by_cases hB1 : B = 1
    · subst hB1
      have h1 : 2 ^ (1 + 53) < mid w := by
        have : (2 : Nat) ^ (1 + 53) = 18014398509481984 := by decide
        omega
      obtain ⟨t, ht⟩ := mid_dvd h1
      rw [ht] at hx hx2
      omega
    · obtain ⟨C, rfl⟩ : ∃ C, B = C + 2 := ⟨B - 2, by omega⟩
      have e3 : mid w * 2 ^ (C + 2) = 4 * (mid w * 2 ^ C) := by rw [Nat.pow_add]; show mid w * (2 ^ C * 4) = _; ac_rfl
      rw [e3] at hx hx2
      omega

theorem div_ne {r p : Nat} (hr : r < infR) (hp : p < infR) (hp0 : p ≠ 0) : ∃ z, (∀ s t, fdiv .f64 (Ieee.double.word s r) (Ieee.double.word t p) = Ieee.double.word (s ^^ t) z) ∧ NE (sv r * oneU) (sv p) z := by
  obtain ⟨m, q, h1, h2, h3⟩ := rungD_fin hr
  obtain ⟨n, q', g1, g2, g3⟩ := rungD_fin hp
  have hpp : 0 < sv p := sv_pos (by omega)
  have hn : n ≠ 0 := by rintro rfl; simp at g2; omega
  obtain ⟨more, hmore⟩ : ∃ more, more = 52 + 2 + n.log2 - m.log2 := ⟨_, rfl⟩
  obtain ⟨dv, hdv⟩ : ∃ dv, dv = m <<< more := ⟨_, rfl⟩
  refine ⟨rungN (2 * (dv / n) + (dv % n != 0).toNat) (-1074 + (q : Int) - (-1074 + (q' : Int)) - more - 1), fun s t => ?_, ?_⟩
  · show fres .f64 (((Ieee.double.read _).quotient (Ieee.double.fractionBits + 2) (Ieee.double.read _)).map Ieee.double.write) = _
    rw [read_word _ _ (by rw [d_ir]; exact Nat.le_of_lt hr), read_word _ _ (by rw [d_ir]; exact Nat.le_of_lt hp), h1, g1, d_fb]
    simp only [Ieee.Datum.quotient, if_neg hn, Option.map_some, fres, write_N, hdv, hmore]
  · by_cases hm : m = 0
    · have hdv0 : dv = 0 := by rw [hdv, hm]; simp
      rw [hdv0]
      have hr0 : sv r = 0 := by rw [← h2, hm]; simp
      have e0 : 2 * (0 / n) + (0 % n != 0).toNat = 0 := by simp
      rw [e0, rungN_zero, hr0, Nat.zero_mul]
      refine ⟨Nat.zero_le _, fun w _ _ => Nat.zero_le _, fun w _ h => by omega, fun w _ h => ?_⟩
      have := Nat.mul_pos (mid_pos w) hpp; omega
    · rw [Nat.shiftLeft_eq] at hdv
      have hl1 := log2_le hm
      have hl2 := log2_lt (n := m)
      have hl3 := log2_le hn
      have hl4 := log2_lt (n := n)
      have hml : m.log2 ≤ 52 := by
        apply Nat.le_of_not_lt
        intro h
        have : 2 ^ 53 ≤ 2 ^ m.log2 := Nat.pow_le_pow_right (by omega) (by omega)
        omega
      have hq0 : 9007199254740992 ≤ dv / n := by
        rw [Nat.le_div_iff_mul_le (by omega), hdv]
        have a : 2 ^ m.log2 * 2 ^ more ≤ m * 2 ^ more := Nat.mul_le_mul_right _ hl1
        rw [← Nat.pow_add, show m.log2 + more = 53 + (n.log2 + 1) by omega, Nat.pow_add] at a
        have b : 9007199254740992 * n ≤ 2 ^ 53 * 2 ^ (n.log2 + 1) := Nat.mul_le_mul (by omega) (by omega)
        omega
      have hdm := Nat.div_add_mod dv n
      have hmod := Nat.mod_lt dv (Nat.pos_of_ne_zero hn)
      generalize dv / n = q0 at hq0 hdm ⊢
      generalize dv % n = rem at hdm hmod ⊢
      obtain ⟨A, hA⟩ : ∃ A, A = (-1074 + (q : Int) - (-1074 + (q' : Int)) - more - 1 + 1074).toNat := ⟨_, rfl⟩
      obtain ⟨B, hB⟩ : ∃ B, B = (-1074 - (-1074 + (q : Int) - (-1074 + (q' : Int)) - more - 1)).toNat := ⟨_, rfl⟩
      have hAB : A = 0 ∨ B = 0 := by omega
      have hsum : q + 1074 + B = A + (q' + more + 1) := by omega
      have key : ∀ x, (x * sv p) * 2 ^ (B + more + 1) = x * 2 ^ B * n * 2 ^ (q' + more + 1) := fun x => by
        rw [← g2, show B + more + 1 = B + (more + 1) by omega, Nat.pow_add 2 B, show q' + more + 1 = q' + (more + 1) by omega, Nat.pow_add 2 q']
        ac_rfl
      have key2 : (2 * (sv r * oneU)) * 2 ^ (B + more + 1) = 4 * dv * 2 ^ A * 2 ^ (q' + more + 1) := by
        rw [← h2, hdv]
        have e1 : m * 2 ^ q * oneU * 2 ^ (B + more + 1) = m * 2 ^ (q + 1074 + (B + more + 1)) := by rw [Nat.mul_assoc m, oneU_add, Nat.mul_assoc, ← Nat.pow_add]
        have e2 : 2 * (m * 2 ^ more) * 2 ^ A * 2 ^ (q' + more + 1) = m * 2 ^ (1 + more + A + (q' + more + 1)) := by
          rw [Nat.pow_add 2 (1 + more + A), Nat.pow_add 2 (1 + more), Nat.pow_add 2 1, Nat.pow_one]
          ac_rfl
        have e3 : m * 2 ^ q * oneU * 2 ^ (B + more + 1) = 2 * (m * 2 ^ more) * 2 ^ A * 2 ^ (q' + more + 1) := by
          rw [e1, e2]; congr 2; omega
        have e4 : 4 * (m * 2 ^ more) * 2 ^ A * 2 ^ (q' + more + 1) = 2 * (2 * (m * 2 ^ more) * 2 ^ A * 2 ^ (q' + more + 1)) := by
          generalize m * 2 ^ more = U
          generalize 2 ^ A = V
          generalize 2 ^ (q' + more + 1) = W
          rw [show (4 : Nat) = 2 * 2 from rfl]
          simp only [Nat.mul_assoc]
        exact (Nat.mul_assoc 2 _ _).trans ((congrArg (2 * ·) e3).trans e4.symm)
      have hpw : 0 < 2 ^ (B + more + 1) := Nat.two_pow_pos _
      have hpw2 : 0 < 2 ^ (q' + more + 1) := Nat.two_pow_pos _
      have hA2 : 0 < 2 ^ A := Nat.two_pow_pos _
      have hn0 := Nat.pos_of_ne_zero hn
      -- the three ways, in the unit of the digits
      have k1 : ∀ w, 2 * (sv r * oneU) < mid w * sv p → 4 * dv * 2 ^ A < mid w * 2 ^ B * n := fun w hs => by
        have := Nat.mul_lt_mul_of_pos_right hs hpw
        rw [key, key2] at this
        exact Nat.lt_of_mul_lt_mul_right this
      have k2 : ∀ w, mid w * sv p < 2 * (sv r * oneU) → mid w * 2 ^ B * n < 4 * dv * 2 ^ A := fun w hs => by
        have := Nat.mul_lt_mul_of_pos_right hs hpw
        rw [key, key2] at this
        exact Nat.lt_of_mul_lt_mul_right this
      have k3 : ∀ w, 2 * (sv r * oneU) = mid w * sv p → 4 * dv * 2 ^ A = mid w * 2 ^ B * n := fun w hs => by
        have : 2 * (sv r * oneU) * 2 ^ (B + more + 1) = mid w * sv p * 2 ^ (B + more + 1) := by rw [hs]
        rw [key, key2] at this
        exact Nat.eq_of_mul_eq_mul_right hpw2 this
      by_cases h0 : rem = 0
      · have em : 2 * q0 + (rem != 0).toNat = 2 * q0 := by simp [h0]
        rw [em]
        have e1 : 4 * dv * 2 ^ A = 2 * (2 * q0 * 2 ^ A) * n := by rw [← hdm, h0, Nat.add_zero, show (4 : Nat) = 2 * 2 from rfl]; ac_rfl
        refine ⟨rungN_inf _ _, fun w hw hs => (rung_ne hw).1 ?_, fun w hw hs => (rung_ne hw).2.1 ?_, fun w hw hs => (rung_ne hw).2.2 ?_⟩
        · rw [← hA, ← hB]
          have := k1 w hs
          rw [e1] at this
          exact Nat.lt_of_mul_lt_mul_right this
        · rw [← hA, ← hB]
          have := k2 w hs
          rw [e1] at this
          exact Nat.lt_of_mul_lt_mul_right this
        · rw [← hA, ← hB]
          have := k3 w hs
          rw [e1] at this
          exact Nat.eq_of_mul_eq_mul_right hn0 this
      · have em : 2 * q0 + (rem != 0).toNat = 2 * q0 + 1 := by
          have : (rem != 0) = true := by simpa using h0
          rw [this]; rfl
        rw [em]
        -- strictly between two neighbours there is no middle
        have lo' : 4 * q0 * 2 ^ A * n < 4 * dv * 2 ^ A := by
          have : (4 * q0) * n < 4 * dv := by rw [← hdm, Nat.mul_comm n q0, Nat.mul_assoc]; omega
          calc (4 * q0) * 2 ^ A * n = (4 * q0) * n * 2 ^ A := Nat.mul_right_comm ..
            _ < 4 * dv * 2 ^ A := Nat.mul_lt_mul_of_pos_right this hA2
        have hi' : 4 * dv * 2 ^ A < (4 * q0 + 4) * 2 ^ A * n := by
          have : 4 * dv < (4 * q0 + 4) * n := by rw [← hdm, Nat.mul_comm n q0, Nat.add_mul, Nat.mul_assoc]; omega
          calc 4 * dv * 2 ^ A < (4 * q0 + 4) * n * 2 ^ A := Nat.mul_lt_mul_of_pos_right this hA2
            _ = (4 * q0 + 4) * 2 ^ A * n := Nat.mul_right_comm ..
        have two : ∀ w, mid w * 2 ^ B ≤ 4 * q0 * 2 ^ A ∨ (4 * q0 + 4) * 2 ^ A ≤ mid w * 2 ^ B := fun w => by
          by_cases h : mid w * 2 ^ B ≤ 4 * q0 * 2 ^ A
          · exact .inl h
          · right
            apply Nat.le_of_not_lt
            intro hlt
            exact quot_mid (Nat.lt_of_not_le h) hlt hq0 hAB
        have m1 : 2 * ((2 * q0 + 1) * 2 ^ A) = (4 * q0 + 2) * 2 ^ A := by
          have h4 : 2 * (2 * q0 + 1) = 4 * q0 + 2 := by omega
          rw [← Nat.mul_assoc, h4]
        have m2 : 4 * q0 * 2 ^ A < (4 * q0 + 2) * 2 ^ A := Nat.mul_lt_mul_of_pos_right (by omega) hA2
        have m3 : (4 * q0 + 2) * 2 ^ A < (4 * q0 + 4) * 2 ^ A := Nat.mul_lt_mul_of_pos_right (by omega) hA2
        refine ⟨rungN_inf _ _, fun w hw hs => (rung_ne hw).1 ?_, fun w hw hs => (rung_ne hw).2.1 ?_, fun w hw hs => (rung_ne hw).2.2 ?_⟩
        · rw [← hA, ← hB, m1]
          rcases two w with h | h
          · have a := Nat.mul_le_mul_right n h
            have b := k1 w hs
            omega
          · omega
        · rw [← hA, ← hB, m1]
          rcases two w with h | h
          · omega
          · have a := Nat.mul_le_mul_right n h
            have b := k2 w hs
            omega
        · rw [← hA, ← hB, m1]
          rcases two w with h | h
          · have a := Nat.mul_le_mul_right n h
            have b := k3 w hs
            omega
          · have a := Nat.mul_le_mul_right n h
            have b := k3 w hs
            omega

end Go.Vam

/- Floats that are not negative, by their rungs: sums, means, products. -/
namespace Go.Proofs.Ytfjdihfflghfpaa
open Go Go.Vam Go.Sort

/-- A float that is not negative, and its rung. -/
def Rg (x r : Nat) : Prop := r ≤ infR ∧ ∃ s, x = Ieee.double.word s r ∧ (s = true → r = 0)

theorem word_lt {s : Bool} {r : Nat} (h : r ≤ infR) : Ieee.double.word s r < 18446744073709551616 ∧ Ieee.double.word s r % 9223372036854775808 = r ∧ decide (9223372036854775808 ≤ Ieee.double.word s r) = s := by
  have hI : infR = 9218868437227405312 := rfl
  unfold Ieee.Format.word
  rw [d_sw]
  cases s
  · simp only [Bool.false_eq_true, if_false]
    exact ⟨by omega, by omega, decide_eq_false (by omega)⟩
  · simp only [if_true]
    exact ⟨by omega, by omega, decide_eq_true (by omega)⟩

theorem Rg.lt {x r : Nat} (h : Rg x r) : x < 18446744073709551616 := by
  obtain ⟨h1, s, rfl, _⟩ := h
  exact (word_lt h1).1
theorem Rg.key {x r : Nat} (h : Rg x r) : fkey x = some (sv r : Int) := by
  obtain ⟨h1, s, rfl, h2⟩ := h
  obtain ⟨a, b, c⟩ := word_lt (s := s) h1
  unfold fkey
  rw [b, if_pos h1, c]
  cases s with
  | false => rfl
  | true => rw [h2 rfl]; rfl
theorem rg_of {x : Nat} (hx : x < 18446744073709551616) {a : Int} (hk : fkey x = some a) (ha : 0 ≤ a) : Rg x (x % 9223372036854775808) ∧ a = (sv (x % 9223372036854775808) : Int) := by
  unfold fkey at hk
  split at hk
  · rename_i h1
    obtain ⟨z, hz⟩ : ∃ z, z = decide (9223372036854775808 ≤ x) := ⟨_, rfl⟩
    have hw := wordOf hx
    rw [← hz] at hk hw
    cases hk
    refine ⟨⟨h1, z, hw, fun hs => ?_⟩, ?_⟩
    · rw [hs] at ha
      simp only [sw, if_true] at ha
      rcases Nat.eq_zero_or_pos (x % 9223372036854775808) with h0 | h0
      · exact h0
      · have := sv_pos h0; omega
    · cases z with
      | false => rfl
      | true =>
        simp only [sw, if_true] at ha ⊢
        omega
  · cases hk

theorem Rg.inj {x r q : Nat} (h : Rg x r) (h' : Rg x q) : r = q := by
  have h1 := h.key
  rw [h'.key] at h1
  exact (sv_inj (by have := Option.some.inj h1; omega)).symm

theorem Rg.gt {x y r q : Nat} (h : Rg x r) (h' : Rg y q) : gtB x y = decide (q < r) := by
  rw [Bool.eq_iff_iff, decide_eq_true_eq]
  unfold gtB
  rw [fgt_iff h.lt h'.lt]
  constructor
  · rintro ⟨a, b, h1, h2, h3⟩
    rw [h.key] at h1; rw [h'.key] at h2
    cases h1; cases h2
    exact sv_lt_inv (by omega)
  · intro hlt
    exact ⟨_, _, h.key, h'.key, by have := sv_lt hlt; omega⟩
theorem Rg.ltB {x y r q : Nat} (h : Rg x r) (h' : Rg y q) : ltB x y = decide (r < q) := by
  rw [Bool.eq_iff_iff, decide_eq_true_eq]
  unfold Go.Proofs.Ytfjdihfflghfpaa.ltB
  rw [flt_iffW h.lt h'.lt]
  constructor
  · rintro ⟨a, b, h1, h2, h3⟩
    rw [h.key] at h1; rw [h'.key] at h2
    cases h1; cases h2
    exact sv_lt_inv (by omega)
  · intro hlt
    exact ⟨_, _, h.key, h'.key, by have := sv_lt hlt; omega⟩

theorem few_lt {n w : Nat} (hn : n ≤ 9007199254740992) (hw : sv w = n * oneU) : w < infR := by
  apply repr_lt
  rw [hw]
  have h1 : n * twoP 1074 < twoP 54 * twoP 1074 := Nat.mul_lt_mul_of_pos_right (Nat.lt_of_le_of_lt hn (by decide)) (twoP_pos _)
  rw [twoP_join (c := 1128) rfl] at h1
  exact Nat.lt_of_lt_of_le h1 (twoP_le (by decide))

theorem add_rg {x y r q a b : Nat} (h : Rg x r) (h' : Rg y q) (ha : sv r = a * oneU) (hb : sv q = b * oneU) (hn : a + b ≤ 9007199254740992) : ∃ z, Rg (fadd .f64 x y) z ∧ sv z = (a + b) * oneU := by
  have r1 := few_lt (by omega : a ≤ 9007199254740992) ha
  have q1 := few_lt (by omega : b ≤ 9007199254740992) hb
  obtain ⟨_, s, rfl, h2⟩ := h
  obtain ⟨_, t, rfl, h3⟩ := h'
  obtain ⟨z, e, hz⟩ := add_rn r1 q1 s t
  have s1 : sw s r = (sv r : Int) := by cases s with
    | false => rfl
    | true => rw [h2 rfl]; rfl
  have s2 : sw t q = (sv q : Int) := by cases t with
    | false => rfl
    | true => rw [h3 rfl]; rfl
  rw [s1, s2] at e hz
  have hs : ((sv r : Int) + (sv q : Int)).natAbs = (a + b) * oneU := by rw [Nat.add_mul]; omega
  rw [hs] at hz
  obtain ⟨w, hw⟩ := sv_repr 1074 (a + b) hn
  have hw1 : sv w = (a + b) * oneU := hw
  have hwi := few_lt hn hw1
  have hzw := hz.exact (Nat.le_of_lt hwi) (by rw [hw1, Nat.mul_one])
  subst hzw
  refine ⟨z, ⟨Nat.le_of_lt hwi, _, e, fun hs => ?_⟩, hw1⟩
  split at hs
  · rename_i h0
    rcases Nat.eq_zero_or_pos z with hz0 | hz0
    · exact hz0
    · have := sv_pos hz0; omega
  · have := of_decide_eq_true hs; omega

theorem NE.zero {D z : Nat} (h : NE 0 D z) (hD : 0 < D) : z = 0 := by
  have := h.le (w := 0) hD (Nat.zero_le _)
  omega

theorem div_rg {x y r q : Nat} (h : Rg x r) (h' : Rg y q) (hr : r < infR) (hq : q < infR) (h0 : q ≠ 0) : ∃ z, Rg (fdiv .f64 x y) z ∧ NE (sv r * oneU) (sv q) z := by
  obtain ⟨_, s, rfl, h2⟩ := h
  obtain ⟨_, t, rfl, h3⟩ := h'
  obtain ⟨z, e, hz⟩ := div_ne hr hq h0
  refine ⟨z, ⟨hz.inf, _, e s t, fun hs => ?_⟩, hz⟩
  have ht : t = false := by cases t with
    | false => rfl
    | true => exact absurd (h3 rfl) h0
  subst ht
  have hs' : s = true := by simpa using hs
  have hr0 := h2 hs'
  rw [hr0, sv_zero, Nat.zero_mul] at hz
  exact NE.zero hz (sv_pos (by omega))

theorem mul_rg {x y r q : Nat} (h : Rg x r) (h' : Rg y q) (hr : r < infR) (hq : q < infR) : ∃ z, Rg (fmul .f64 x y) z ∧ NE (sv r * sv q) oneU z := by
  obtain ⟨_, s, rfl, h2⟩ := h
  obtain ⟨_, t, rfl, h3⟩ := h'
  obtain ⟨z, e, hz⟩ := mul_ne hr hq
  refine ⟨z, ⟨hz.inf, _, e s t, fun hs => ?_⟩, hz⟩
  have h0 : sv r * sv q = 0 := by
    cases s with
    | true => rw [h2 rfl, sv_zero, Nat.zero_mul]
    | false => cases t with
      | true => rw [h3 rfl, sv_zero, Nat.mul_zero]
      | false => cases hs
  rw [h0] at hz
  exact NE.zero hz oneU_pos

theorem NE.scale {N D K z : Nat} (hK : 0 < K) (h : NE (N * K) (D * K) z) : NE N D z := by
  have e1 : ∀ w, mid w * (D * K) = mid w * D * K := fun w => (Nat.mul_assoc ..).symm
  have e2 : 2 * (N * K) = 2 * N * K := (Nat.mul_assoc ..).symm
  refine ⟨h.inf, fun w hw hs => h.lo w hw ?_, fun w hw hs => h.hi w hw ?_, fun w hw hs => h.tie w hw ?_⟩
  · rw [e1, e2]; exact Nat.mul_lt_mul_of_pos_right hs hK
  · rw [e1, e2]; exact Nat.mul_lt_mul_of_pos_right hs hK
  · rw [e1, e2, hs]

theorem repr_n {n : Nat} (hn : n ≤ 9007199254740992) : ∃ w, sv w = n * oneU := sv_repr 1074 n hn

theorem near_rg {n : Nat} (hn : n ≤ 9007199254740992) : ∃ w, Rg (FloatKind.f64.nearest ((n : Nat) : Int)) w ∧ sv w = n * oneU ∧ w < infR := by
  obtain ⟨w, h1, h2, h3⟩ := nearest_int (n : Int) (by omega)
  refine ⟨w, ⟨Nat.le_of_lt h3, _, h1, fun hs => ?_⟩, by simpa using h2, h3⟩
  have := of_decide_eq_true hs; omega

/-! ## Whole numbers -/

/-- A whole number of no great size, not negative. -/
def WH (x n : Nat) : Prop := n ≤ 1073741824 ∧ ∃ r, Rg x r ∧ sv r = n * oneU
/-- Such a list, and its numbers. -/
def WL (A : List UInt64) (ns : UInt64 → Nat) : Prop := ∀ x ∈ A, WH x.toNat (ns x)
def sm (ns : UInt64 → Nat) (A : List UInt64) : Nat := (A.map ns).sum

theorem sm_app (ns : UInt64 → Nat) (A B : List UInt64) : sm ns (A ++ B) = sm ns A + sm ns B := by unfold sm; rw [List.map_append, List.sum_append]
theorem sm_le {ns : UInt64 → Nat} {A : List UInt64} (h : WL A ns) : sm ns A ≤ A.length * 1073741824 := by
  induction A with
  | nil => simp [sm]
  | cons x A ih =>
    have h1 := (h x (List.mem_cons_self ..)).1
    have h2 := ih (fun y hy => h y (List.mem_cons_of_mem _ hy))
    show ns x + sm ns A ≤ _
    rw [List.length_cons, Nat.add_mul]; omega

theorem sum_rg {A : List UInt64} {ns : UInt64 → Nat} (h : WL A ns) (hl : A.length ≤ 32768) : ∀ k, 1 ≤ k → k ≤ A.length → ∃ z, Rg (sumQ A.toArray k) z ∧ sv z = sm ns (A.take k) * oneU := by
  intro k
  induction k with
  | zero => intro h1; omega
  | succ k ih =>
    intro _ hk
    have hget : (A.toArray[k]!) = A[k] := by simp [show k < A.length by omega]
    have hwk := h A[k] (List.getElem_mem (by omega))
    have hts : A.take (k + 1) = A.take k ++ [A[k]] := by rw [List.take_add_one, List.getElem?_eq_getElem (by omega)]; rfl
    rcases Nat.eq_zero_or_pos k with h0 | h0
    · subst h0
      obtain ⟨_, r, h1, h2⟩ := hwk
      refine ⟨r, ?_, ?_⟩
      · show Rg (A.toArray[0]!).toNat r
        rw [hget]; exact h1
      · rw [hts, h2]; simp [sm]
    · obtain ⟨z, h1, h2⟩ := ih h0 (by omega)
      obtain ⟨hn, r, h3, h4⟩ := hwk
      have hsl := sm_le (ns := ns) (A := A.take k) (fun x hx => h x (List.mem_of_mem_take hx))
      rw [List.length_take] at hsl
      have hb : min k A.length * 1073741824 ≤ 32768 * 1073741824 := Nat.mul_le_mul_right _ (by omega)
      obtain ⟨z', g1, g2⟩ := add_rg h1 h3 h2 h4 (by omega)
      refine ⟨z', by rw [sumQ_succ h0, hget]; exact g1, ?_⟩
      rw [g2, hts, sm_app]; simp [sm]

theorem mean_rg {A : List UInt64} {ns : UInt64 → Nat} (h : WL A ns) (hl : A.length ≤ 32768) (h0 : A ≠ []) : ∃ z, Rg (meanL A) z ∧ NE (sm ns A * oneU) A.length z ∧ z < infR := by
  have hp : 1 ≤ A.length := List.length_pos_iff.2 h0
  obtain ⟨z, h1, h2⟩ := sum_rg h hl A.length hp (Nat.le_refl _)
  rw [List.take_length] at h2
  obtain ⟨w, g1, g2, g3⟩ := near_rg (n := A.length) (by omega)
  have hsl := sm_le h
  have hb : A.length * 1073741824 ≤ 32768 * 1073741824 := Nat.mul_le_mul_right _ (by omega)
  have hw0 : w ≠ 0 := by
    rintro rfl
    rw [sv_zero] at g2
    have := Nat.mul_pos hp oneU_pos; omega
  obtain ⟨y, e1, e2⟩ := div_rg h1 g1 (few_lt (by omega) h2) g3 hw0
  rw [h2, g2] at e2
  have e3 := NE.scale oneU_pos e2
  refine ⟨y, e1, e3, ?_⟩
  obtain ⟨v, hv1⟩ := repr_n (n := 1073741824) (by decide)
  have hvi := few_lt (by decide) hv1
  have hle : y ≤ v := e3.le (by omega) (by
    rw [hv1, Nat.mul_right_comm, Nat.mul_comm 1073741824 A.length]
    exact Nat.mul_le_mul_right _ hsl)
  omega

end Go.Proofs.Ytfjdihfflghfpaa

/- CfarMore: the plain law. -/
namespace Go.Proofs.Ytfjdihfflghfpaa
open Go Go.Vam Go.Sort

theorem fmul_w (x y : Nat) : fmul .f64 x y < 18446744073709551616 ∨ fmul .f64 x y = nanF .f64 := by
  cases h : Ieee.double.mul x y with
  | none => exact .inr (by show fres .f64 (Ieee.double.mul x y) = _; rw [h]; rfl)
  | some r => exact .inl (by show fres .f64 (Ieee.double.mul x y) < _; rw [h]; exact Ieee.Format.mul_lt _ h)

theorem gt_nan {x : Nat} : gtB x (nanF .f64) = false := by
  obtain ⟨s, f, h⟩ := nanRead (show infR < nanF .f64 % 9223372036854775808 by decide)
  have e : ford .f64 x (nanF .f64) = none := by
    show (Ieee.double.read x).order (Ieee.double.read _) = none
    rw [h]
    cases Ieee.double.read x <;> rfl
  unfold gtB
  rw [e]; rfl

/-- More at its place is found still. -/
theorem gt_more {l m x t : Nat} (hl : l < 18446744073709551616) (hm : m < 18446744073709551616) (h : gtB l (fmul .f64 x t) = true) (hge : (ford .f64 m l == some .gt || ford .f64 m l == some .eq) = true) : gtB m (fmul .f64 x t) = true := by
  rcases fmul_w x t with hT | hT
  · unfold gtB at h ⊢
    rw [fgt_iff hl hT] at h
    obtain ⟨a, b, h1, h2, h3⟩ := h
    rw [Bool.or_eq_true, fgt_iff hm hl, feq_iff hm hl] at hge
    rw [fgt_iff hm hT]
    rcases hge with ⟨c, d, g1, g2, g3⟩ | ⟨c, g1, g2⟩
    · rw [h1] at g2; cases g2; exact ⟨c, b, g1, h2, by omega⟩
    · rw [h1] at g2; cases g2; exact ⟨_, b, g1, h2, by omega⟩
  · rw [hT, gt_nan] at h; cases h

theorem sg_mem {L : List UInt64} {lo hi : Int} {x : UInt64} (h : x ∈ sg L lo hi) : x ∈ L := by
  unfold sg at h; exact List.mem_of_mem_drop (List.mem_of_mem_take h)

theorem sg_set {L : List UInt64} {at_ : Nat} {v : UInt64} {lo hi : Int} (h : (at_ : Int) < lo ∨ hi ≤ at_) : sg (L.set at_ v) lo hi = sg L lo hi := by
  unfold sg
  rw [List.length_set]
  refine List.ext_getElem? fun i => ?_
  rw [List.getElem?_take, List.getElem?_take, List.getElem?_drop, List.getElem?_drop]
  split
  · rw [List.getElem?_set_ne (by omega)]
  · rfl

theorem LV_set {L : List UInt64} {at_ : Nat} {v : UInt64} {way g t nth : Int} {x : Nat} (hg : 0 ≤ g) (h : LV (L.set at_ v) (at_ : Nat) way g t nth x) : LV L (at_ : Nat) way g t nth x := by
  unfold LV at h ⊢
  rw [sg_set (.inr (by omega)), sg_set (.inl (by omega))] at h
  exact h

theorem LnR.ok {L : List UInt64} {way g t nth : Int} {times : Nat} {bs : List Bool} {e : Int} (h : LnR L way g t nth times bs e) (h1 : L.length ≤ 16384) (h2 : ¬ badN g t nth) (h3 : finT times = true) :
    e = 0 ∧ bs.length = L.length ∧ ∀ i (hi : i < L.length), ∃ x, LV L (i : Nat) way g t nth x ∧ bs[i]? = some (gtB (L[i]).toNat (fmul .f64 x times)) := by
  unfold LnR at h
  have h4 : lkE L.length g t nth = 0 := by unfold lkE; rw [if_neg (by omega), if_neg h2]
  rw [if_neg (by rw [h4]; simp), if_neg (by rw [h3]; simp)] at h
  exact h

theorem more_found {L : List UInt64} {way g t nth : Int} {times : Nat} {bs cs : List Bool} {e f : Int} {at_ : Nat} {more : UInt64} (h1 : L.length ≤ 16384) (h2 : ¬ badN g t nth) (h3 : finT times = true) (hb : LnR L way g t nth times bs e) (hc : LnR (L.set at_ more) way g t nth times cs f)
    (hat : at_ < L.length) (hm : bs[at_]? = some true) (hge : (ford .f64 more.toNat (L[at_]).toNat == some .gt || ford .f64 more.toNat (L[at_]).toNat == some .eq) = true) : f = 0 ∧ cs.length = L.length ∧ cs[at_]? = some true := by
  obtain ⟨_, _, b3⟩ := hb.ok h1 h2 h3
  obtain ⟨c1, c2, c3⟩ := hc.ok (by rw [List.length_set]; exact h1) h2 h3
  rw [List.length_set] at c2
  refine ⟨c1, c2, ?_⟩
  obtain ⟨x, hx, gx⟩ := b3 at_ hat
  obtain ⟨y, hy, gy⟩ := c3 at_ (by rw [List.length_set]; exact hat)
  rw [List.getElem_set_self] at gy
  have hg : 0 ≤ g := by unfold badN at h2; omega
  rw [hm] at gx
  rw [gy, ← ((LV.same hx (LV_set hg hy)).gt), gt_more (UInt64.toNat_lt _) (UInt64.toNat_lt _) (Option.some.inj gx).symm hge]

/-- The means of both sides and of all. -/
theorem three_means {A B : List UInt64} {ns : UInt64 → Nat} (hA : WL A ns) (hB : WL B ns) (la : A.length ≤ 16384) (lb : B.length ≤ 16384) (h0 : A ++ B ≠ []) :
    ∃ rG rM rS, Rg (ofF gtB A B) rG ∧ Rg (meanL (A ++ B)) rM ∧ Rg (ofF ltB A B) rS ∧ rS ≤ rM ∧ rM ≤ rG ∧ rG < infR := by
  have hAB : WL (A ++ B) ns := fun x hx => (List.mem_append.1 hx).elim (hA x) (hB x)
  obtain ⟨zM, m1, m2, m3⟩ := mean_rg hAB (by rw [List.length_append]; omega) h0
  unfold ofF
  by_cases ha : A = []
  · rw [if_pos ha, if_pos ha]
    rw [ha, List.nil_append] at m1 ⊢
    exact ⟨_, _, _, m1, m1, m1, Nat.le_refl _, Nat.le_refl _, m3⟩
  · rw [if_neg ha, if_neg ha]
    by_cases hb : B = []
    · rw [if_pos hb, if_pos hb]
      rw [hb, List.append_nil] at m1 ⊢
      exact ⟨_, _, _, m1, m1, m1, Nat.le_refl _, Nat.le_refl _, m3⟩
    · rw [if_neg hb, if_neg hb]
      obtain ⟨zA, a1, a2, a3⟩ := mean_rg hA (by omega) ha
      obtain ⟨zB, b1, b2, b3⟩ := mean_rg hB (by omega) hb
      have pa : 0 < A.length := List.length_pos_iff.2 ha
      have pb : 0 < B.length := List.length_pos_iff.2 hb
      rw [sm_app, List.length_append] at m2
      generalize sm ns A = a at a2 m2
      generalize sm ns B = b at b2 m2
      generalize A.length = p at a2 m2 pa
      generalize B.length = q at b2 m2 pb
      have up : ∀ {x y u v : Nat}, x * v ≤ y * u → x * oneU * v ≤ y * oneU * u := fun {x y u v} h => by
        rw [Nat.mul_right_comm, Nat.mul_right_comm y]; exact Nat.mul_le_mul_right _ h
      rw [b1.gt a1, b1.ltB a1]
      by_cases hc : a * q ≤ b * p
      · have e1 : a * (p + q) ≤ (a + b) * p := by rw [Nat.mul_add, Nat.add_mul]; omega
        have e2 : (a + b) * q ≤ b * (p + q) := by rw [Nat.mul_add, Nat.add_mul]; omega
        have l1 : zA ≤ zM := a2.mono m2 pa (by omega) (up e1)
        have l2 : zM ≤ zB := m2.mono b2 (by omega) pb (up e2)
        by_cases hlt : zA < zB
        · rw [if_pos (decide_eq_true hlt), if_neg (by rw [decide_eq_true_eq]; omega)]
          exact ⟨_, _, _, b1, m1, a1, l1, l2, b3⟩
        · rw [if_neg (by rw [decide_eq_true_eq]; omega), if_neg (by rw [decide_eq_true_eq]; omega)]
          exact ⟨_, _, _, a1, m1, a1, l1, by omega, a3⟩
      · have e1 : b * (p + q) ≤ (a + b) * q := by rw [Nat.mul_add, Nat.add_mul]; omega
        have e2 : (a + b) * p ≤ a * (p + q) := by rw [Nat.mul_add, Nat.add_mul]; omega
        have l1 : zB ≤ zM := b2.mono m2 pb (by omega) (up e1)
        have l2 : zM ≤ zA := m2.mono a2 (by omega) pa (up e2)
        by_cases hlt : zB < zA
        · rw [if_neg (by rw [decide_eq_true_eq]; omega), if_pos (decide_eq_true hlt)]
          exact ⟨_, _, _, a1, m1, b1, l1, l2, a3⟩
        · rw [if_neg (by rw [decide_eq_true_eq]; omega), if_neg (by rw [decide_eq_true_eq]; omega)]
          exact ⟨_, _, _, a1, m1, a1, by omega, l2, a3⟩

/-- A greater level, a greater mark. -/
theorem less_found {x y r r' t q l k : Nat} (h : Rg x r) (h' : Rg y r') (hr : r ≤ r') (hi : r' < infR) (ht : Rg t q) (hq : q < infR) (hl : Rg l k) (hf : gtB l (fmul .f64 y t) = true) : gtB l (fmul .f64 x t) = true := by
  obtain ⟨z, a1, a2⟩ := mul_rg h ht (by omega) hq
  obtain ⟨z', b1, b2⟩ := mul_rg h' ht hi hq
  have hz : z ≤ z' := a2.mono b2 oneU_pos oneU_pos (Nat.mul_le_mul_right _ (Nat.mul_le_mul_right _ (sv_le hr)))
  rw [hl.gt b1, decide_eq_true_eq] at hf
  rw [hl.gt a1, decide_eq_true_eq]
  omega

section
variable {L : List UInt64} {ns : UInt64 → Nat} {g t nth : Int}

theorem three_levels (hW : WL L ns) (hl : L.length ≤ 16384) {i : Int} {xG xM xS : Nat} (hG : LV L i 1 g t nth xG) (hM : LV L i 0 g t nth xM) (hS : LV L i 2 g t nth xS) :
    (xG = xM ∧ xM = xS) ∨ ∃ rG rM rS, Rg xG rG ∧ Rg xM rM ∧ Rg xS rS ∧ rS ≤ rM ∧ rM ≤ rG ∧ rG < infR := by
  unfold LV at hG hM hS
  have hA : WL (sg L (i - g - t) (i - g)) ns := fun x hx => hW x (sg_mem hx)
  have hB : WL (sg L (i + g + 1) (i + g + t + 1)) ns := fun x hx => hW x (sg_mem hx)
  have la := sg_len L (i - g - t) (i - g)
  have lb := sg_len L (i + g + 1) (i + g + t + 1)
  generalize sg L (i - g - t) (i - g) = A at *
  generalize sg L (i + g + 1) (i + g + t + 1) = B at *
  by_cases h0 : A ++ B = []
  · rw [if_pos h0] at hG hM hS
    exact .inl ⟨by rw [hG, hM], by rw [hM, hS]⟩
  · rw [if_neg h0] at hG hM hS
    unfold RV at hG hM hS
    rw [if_neg (by decide), if_pos rfl] at hG
    rw [if_neg (by decide), if_neg (by decide), if_neg (by decide)] at hM
    rw [if_neg (by decide), if_neg (by decide), if_pos rfl] at hS
    subst hG hM hS
    exact .inr (three_means hA hB (by omega) (by omega) h0)

theorem three_found (hW : WL L ns) (h1 : L.length ≤ 16384) (h2 : ¬ badN g t nth) {times q : Nat} (h3 : finT times = true) (ht : Rg times q) (hq : q < infR) {G M S : List Bool} {e1 e2 e3 : Int} (hG : LnR L 1 g t nth times G e1) (hM : LnR L 0 g t nth times M e2) (hS : LnR L 2 g t nth times S e3)
    {i : Nat} (hi : i < L.length) : ∃ a b c, G[i]? = some a ∧ M[i]? = some b ∧ S[i]? = some c ∧ (a = true → b = true) ∧ (b = true → c = true) := by
  obtain ⟨x, hx, gx⟩ := (hG.ok h1 h2 h3).2.2 i hi
  obtain ⟨y, hy, gy⟩ := (hM.ok h1 h2 h3).2.2 i hi
  obtain ⟨z, hz, gz⟩ := (hS.ok h1 h2 h3).2.2 i hi
  obtain ⟨_, k, hk, _⟩ := hW L[i] (List.getElem_mem hi)
  refine ⟨_, _, _, gx, gy, gz, ?_⟩
  rcases three_levels hW h1 hx hy hz with ⟨rfl, rfl⟩ | ⟨rG, rM, rS, a1, a2, a3, a4, a5, a6⟩
  · exact ⟨id, id⟩
  · exact ⟨less_found a2 a1 a5 a6 ht hq hk, less_found a3 a2 a4 (by omega) ht hq hk⟩

/-! ## One number alone -/

theorem sm_one (n : Nat) : ∀ A : List UInt64, sm (fun _ => n) A = A.length * n := by
  intro A
  induction A with
  | nil => rw [List.length_nil, Nat.zero_mul]; rfl
  | cons x A ih => rw [List.length_cons, Nat.add_mul, Nat.one_mul, ← ih, Nat.add_comm]; rfl

theorem mean_one {A : List UInt64} {n r : Nat} (hn : n ≤ 1073741824) (hr : sv r = n * oneU) (hA : ∀ x ∈ A, Rg x.toNat r) (hl : A.length ≤ 32768) (h0 : A ≠ []) : Rg (meanL A) r := by
  have hW : WL A (fun _ => n) := fun x hx => ⟨hn, r, hA x hx, hr⟩
  obtain ⟨z, a1, a2, a3⟩ := mean_rg hW hl h0
  have hs : sm (fun _ => n) A = A.length * n := sm_one n A
  have hp : 0 < A.length := List.length_pos_iff.2 h0
  have e : sv r * A.length = sm (fun _ => n) A * oneU := by rw [hs, hr, Nat.mul_comm, Nat.mul_assoc]
  have hzr : z = r := Nat.le_antisymm (a2.le hp (Nat.le_of_eq e.symm)) (a2.ge hp (Nat.le_of_lt (few_lt (by omega) hr)) (Nat.le_of_eq e))
  rw [← hzr]; exact a1

theorem of_one {bt : Nat → Nat → Bool} {A B : List UInt64} {n r : Nat} (hn : n ≤ 1073741824) (hr : sv r = n * oneU) (hA : ∀ x ∈ A, Rg x.toNat r) (hB : ∀ x ∈ B, Rg x.toNat r) (la : A.length ≤ 16384) (lb : B.length ≤ 16384) (h0 : A ++ B ≠ []) : Rg (ofF bt A B) r := by
  unfold ofF
  by_cases ha : A = []
  · rw [if_pos ha]
    exact mean_one hn hr hB (by omega) (fun hb => h0 (by rw [ha, hb]; rfl))
  · rw [if_neg ha]
    by_cases hb : B = []
    · rw [if_pos hb]; exact mean_one hn hr hA (by omega) ha
    · rw [if_neg hb]
      split
      · exact mean_one hn hr hB (by omega) hb
      · exact mean_one hn hr hA (by omega) ha

theorem nv_one {A : List UInt64} {z e : Int} {x r : Nat} (hA : ∀ y ∈ A, Rg y.toNat r) (hx : x < 18446744073709551616) (hz : 0 ≤ z ∧ z < (A.length : Int)) (h : NV A.toArray z x e) : Rg x r := by
  have hsz : (A.toArray.size : Int) = (A.length : Int) := rfl
  rcases h with ⟨_, _, _, h4⟩ | ⟨h1, _⟩
  · have hm := List.mem_of_getElem? h4
    rw [(srt_perm A.toArray).mem_iff] at hm
    obtain ⟨y, hy, hk⟩ := List.mem_map.1 hm
    have hr := hA y (by simpa using hy)
    have ny : nanW y.toNat = false := by
      unfold nanW
      refine decide_eq_false ?_
      obtain ⟨h5, s, h6, _⟩ := hr
      rw [h6, (word_lt h5).2.1]; omega
    have nx : nanW x = false := by
      cases hn : nanW x with
      | false => rfl
      | true => have := kap_lt ny; rw [kap_nan hn] at hk; omega
    rw [← kap_inj (UInt64.toNat_lt y) hx ny nx hk]
    exact hr
  · omega

theorem inf_times {t q : Nat} (ht : Rg t q) (hq : q < infR) (h0 : q ≠ 0) : fmul .f64 9218868437227405312 t = Ieee.double.word false infR := by
  obtain ⟨_, s, rfl, h2⟩ := ht
  have hs : s = false := by cases s with
    | false => rfl
    | true => exact absurd (h2 rfl) h0
  subst hs
  obtain ⟨m, i, g1, g2, g3⟩ := rungD_fin hq
  have hm : m ≠ 0 := by
    rintro rfl
    have := sv_pos (show 0 < q by omega)
    rw [Nat.zero_mul] at g2; omega
  have hi : Ieee.double.read 9218868437227405312 = .infinity false := by decide
  show fres .f64 (((Ieee.double.read _).product (Ieee.double.read _)).map Ieee.double.write) = _
  rw [hi, read_word _ _ (by rw [d_ir]; exact Nat.le_of_lt hq), g1]
  simp only [Ieee.Datum.product, if_neg hm, Option.map_some, fres]
  rfl

theorem none_found {way : Int} {times q n r : Nat} (hn : n ≤ 1073741824) (hr : sv r = n * oneU) (hA : ∀ x ∈ L, Rg x.toNat r) (h1 : L.length ≤ 16384) (h2 : ¬ badN g t nth) (h3 : finT times = true) (ht : Rg times q) (hq : q < infR) (h5 : oneU ≤ sv q) {bs : List Bool} {e : Int} (hb : LnR L way g t nth times bs e)
    {i : Nat} (hi : i < L.length) : bs[i]? = some false := by
  obtain ⟨x, hx, gx⟩ := (hb.ok h1 h2 h3).2.2 i hi
  have hnth : 0 ≤ nth := by unfold badN at h2; omega
  have hl := hA L[i] (List.getElem_mem hi)
  have hri := few_lt (by omega) hr
  rw [gx]
  congr 1
  unfold LV at hx
  have hSA : ∀ x ∈ sg L ((i : Nat) - g - t) ((i : Nat) - g), Rg x.toNat r := fun x hx => hA x (sg_mem hx)
  have hSB : ∀ x ∈ sg L ((i : Nat) + g + 1) ((i : Nat) + g + t + 1), Rg x.toNat r := fun x hx => hA x (sg_mem hx)
  have la := sg_len L ((i : Nat) - g - t) ((i : Nat) - g)
  have lb := sg_len L ((i : Nat) + g + 1) ((i : Nat) + g + t + 1)
  generalize sg L ((i : Nat) - g - t) ((i : Nat) - g) = A at *
  generalize sg L ((i : Nat) + g + 1) ((i : Nat) + g + t + 1) = B at *
  by_cases h0 : A ++ B = []
  · rw [if_pos h0] at hx
    have hq0 : q ≠ 0 := by
      rintro rfl
      rw [sv_zero] at h5
      have := oneU_pos; omega
    rw [hx, inf_times ht hq hq0, hl.gt (⟨Nat.le_refl _, false, rfl, fun h => by cases h⟩ : Rg (Ieee.double.word false infR) infR)]
    exact decide_eq_false (by omega)
  · rw [if_neg h0] at hx
    have hC : ∀ x ∈ A ++ B, Rg x.toNat r := fun x hx => (List.mem_append.1 hx).elim (hSA x) (hSB x)
    have hxr : Rg x r := by
      unfold RV at hx
      have lab : 0 < (A ++ B).length := List.length_pos_iff.2 h0
      split at hx
      · exact nv_one hC hx.1 (by omega) hx.2
      · subst hx
        split
        · exact of_one hn hr hSA hSB (by omega) (by omega) h0
        · split
          · exact of_one hn hr hSA hSB (by omega) (by omega) h0
          · exact mean_one hn hr hC (by rw [List.length_append]; omega) h0
    obtain ⟨z, a1, a2⟩ := mul_rg hxr ht hri hq
    have hz : r ≤ z := a2.ge oneU_pos (Nat.le_of_lt hri) (Nat.mul_le_mul_left _ h5)
    rw [hl.gt a1]
    exact decide_eq_false (by omega)
end

end Go.Proofs.Ytfjdihfflghfpaa
