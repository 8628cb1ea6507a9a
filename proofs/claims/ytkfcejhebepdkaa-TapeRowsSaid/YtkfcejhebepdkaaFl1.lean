/- Three heights, turned about: the float arithmetic of it. No program in sight. -/
import Derived.Test.YtkfcejhebepdkaaVam25
namespace Go.Vam
open Go

/-! ## Words by sign and rung -/

theorem d_sw : Ieee.double.signWeight = 9223372036854775808 := by decide
theorem d_bi : Ieee.double.binade = 4503599627370496 := by decide
theorem d_ir : Ieee.double.infRung = 9218868437227405312 := by decide

/-- What a rung stands for. -/
def rungD (s : Bool) (r : Nat) : Ieee.Datum :=
  if r < Ieee.double.binade then .number s r Ieee.double.leastPlace
  else if r < Ieee.double.infRung then .number s (Ieee.double.binade + r % Ieee.double.binade) (Ieee.double.leastPlace + (r / Ieee.double.binade - 1 : Nat))
  else .infinity s

theorem read_word (s : Bool) (r : Nat) (hr : r ≤ Ieee.double.infRung) : Ieee.double.read (Ieee.double.word s r) = rungD s r := by
  have h1 : Ieee.double.word s r / Ieee.double.signWeight % 2 = s.toNat := by
    rw [d_ir] at hr
    unfold Ieee.Format.word
    rw [d_sw]
    cases s <;> simp <;> omega
  have h2 : Ieee.double.word s r % Ieee.double.signWeight = r := by
    rw [d_ir] at hr
    unfold Ieee.Format.word
    rw [d_sw]
    cases s <;> simp <;> omega
  unfold Ieee.Format.read rungD
  simp only [h1, h2]
  have h3 : (s.toNat == 1) = s := by cases s <;> rfl
  rw [h3]
  split
  · rfl
  · split
    · rfl
    · rw [if_pos (by omega)]

theorem rungD_opp (s : Bool) (r : Nat) : rungD (!s) r = (rungD s r).opposite := by
  unfold rungD
  split
  · rfl
  · split <;> rfl

/-- The rung that a number comes to. -/
def rungN (m : Nat) (i : Int) : Nat :=
  if m = 0 then 0 else
  min (((max (i + m.log2 - Ieee.double.fractionBits) Ieee.double.leastPlace) - Ieee.double.leastPlace).toNat * Ieee.double.binade +
    Ieee.Toward.even.cut true (m <<< (i - (max (i + m.log2 - Ieee.double.fractionBits) Ieee.double.leastPlace)).toNat) ((max (i + m.log2 - Ieee.double.fractionBits) Ieee.double.leastPlace) - i).toNat) Ieee.double.infRung

theorem cut_even (s : Bool) (n d : Nat) : Ieee.Toward.even.cut s n d = Ieee.Toward.even.cut true n d := rfl

theorem write_number (m : Nat) (i : Int) : ∃ r, r ≤ Ieee.double.infRung ∧ (∀ s, Ieee.double.write (.number s m i) = Ieee.double.word s r) ∧ (m = 0 → r = 0) := by
  refine ⟨rungN m i, ?_, fun s => ?_, fun h => by simp [rungN, h]⟩
  · unfold rungN; split
    · exact Nat.zero_le _
    · exact Nat.min_le_right _ _
  · unfold Ieee.Format.write Ieee.Format.nearest rungN
    by_cases hm : m = 0
    · simp [hm]
    · simp only [hm, if_false, cut_even s]

/-- Two words that differ in their sign at most, and where they are the same in it, are nought. -/
def Turn (x y : Nat) : Prop := ∃ s s' r, r ≤ Ieee.double.infRung ∧ x = Ieee.double.word s r ∧ y = Ieee.double.word s' r ∧ (s' = !s ∨ r = 0)

/-- What two outcomes are, if one is the other one turned about. -/
def TurnO (x y : Option Nat) : Prop := (x = none ∧ y = none) ∨ ∃ a b, x = some a ∧ y = some b ∧ Turn a b

theorem sum_comm (d e : Ieee.Datum) : d.sum e = e.sum d := by
  cases d <;> cases e <;> simp [Ieee.Datum.sum]
  · rename_i s m i t n j
    rw [Int.min_comm i j, Int.add_comm, Bool.and_comm]
    simp
  · rename_i s t
    by_cases h : s = t
    · subst h; simp
    · rw [if_neg h, if_neg (Ne.symm h)]

theorem signed_opp (s : Bool) (m u : Nat) : Ieee.signed (!s) m u = - Ieee.signed s m u := by
  cases s <;> simp [Ieee.signed]

theorem sub_turn (a c : Nat) : TurnO (Ieee.double.sub a c) (Ieee.double.sub c a) := by
  unfold Ieee.Format.sub
  generalize Ieee.double.read a = A
  generalize Ieee.double.read c = C
  cases A with
  | nan s t => left; cases C <;> simp [Ieee.Datum.sum, Ieee.Datum.opposite]
  | infinity s =>
    cases C with
    | nan t n => left; simp [Ieee.Datum.sum, Ieee.Datum.opposite]
    | infinity t =>
      simp only [Ieee.Datum.sum, Ieee.Datum.opposite]
      by_cases h : s = !t
      · right
        subst h
        refine ⟨_, _, by simp; rfl, by simp; rfl, !t, t, Ieee.double.infRung, Nat.le_refl _, rfl, rfl, .inl (by simp)⟩
      · left
        rw [if_neg h, if_neg (fun e => h (by rw [e]; simp))]
        exact ⟨rfl, rfl⟩
    | number t n j =>
      right
      exact ⟨_, _, rfl, rfl, s, !s, Ieee.double.infRung, Nat.le_refl _, rfl, rfl, .inl rfl⟩
  | number s m i =>
    cases C with
    | nan t n => left; simp [Ieee.Datum.sum, Ieee.Datum.opposite]
    | infinity t =>
      right
      exact ⟨_, _, rfl, rfl, !t, t, Ieee.double.infRung, Nat.le_refl _, rfl, rfl, .inl (by simp)⟩
    | number t n j =>
      right
      simp only [Ieee.Datum.sum, Ieee.Datum.opposite]
      rw [Int.min_comm j i]
      have hneg : Ieee.signed t n (j - min i j).toNat + Ieee.signed (!s) m (i - min i j).toNat = -(Ieee.signed s m (i - min i j).toNat + Ieee.signed (!t) n (j - min i j).toNat) := by
        rw [signed_opp, signed_opp]; omega
      rw [hneg]
      generalize Ieee.signed s m (i - min i j).toNat + Ieee.signed (!t) n (j - min i j).toNat = T
      obtain ⟨r, h1, h2, h3⟩ := write_number T.natAbs (min i j)
      refine ⟨_, _, rfl, rfl, _, _, r, h1, h2 _, by rw [Int.natAbs_neg]; exact h2 _, ?_⟩
      by_cases hT : T = 0
      · right; exact h3 (by simp [hT])
      · left
        rw [if_neg (by omega), if_neg hT]
        by_cases hl : T < 0
        · simp [hl]; omega
        · simp [hl]; omega

theorem opp_rung {x y : Nat} {s : Bool} {r : Nat} (hr : r ≤ Ieee.double.infRung) (hx : x = Ieee.double.word s r) (hy : y = Ieee.double.word (!s) r) : Ieee.double.read y = (Ieee.double.read x).opposite := by
  rw [hx, hy, read_word _ _ hr, read_word _ _ hr, rungD_opp]

theorem rungD_zero (s : Bool) : rungD s 0 = .number s 0 Ieee.double.leastPlace := by
  unfold rungD
  rw [if_pos (by decide)]

theorem div_turn {x y : Nat} (z : Nat) (h : Turn x y) : TurnO (Ieee.double.div x z) (Ieee.double.div y z) := by
  obtain ⟨s, s', r, hr, hx, hy, hs⟩ := h
  unfold Ieee.Format.div
  rw [hx, hy, read_word _ _ hr, read_word _ _ hr]
  generalize Ieee.double.read z = Z
  rcases hs with rfl | rfl
  · rw [rungD_opp]
    generalize rungD s r = X
    cases X with
    | nan t n => left; exact ⟨rfl, rfl⟩
    | infinity t =>
      cases Z with
      | nan u n => left; exact ⟨rfl, rfl⟩
      | infinity u => left; exact ⟨rfl, rfl⟩
      | number u n j =>
        right
        exact ⟨_, _, rfl, rfl, t ^^ u, (!t) ^^ u, Ieee.double.infRung, Nat.le_refl _, rfl, rfl, .inl (by cases t <;> cases u <;> rfl)⟩
    | number t m i =>
      cases Z with
      | nan u n => left; exact ⟨rfl, rfl⟩
      | infinity u =>
        right
        obtain ⟨r, h1, h2, h3⟩ := write_number 0 0
        exact ⟨_, _, rfl, rfl, _, _, r, h1, h2 _, h2 _, .inr (h3 rfl)⟩
      | number u n j =>
        simp only [Ieee.Datum.quotient, Ieee.Datum.opposite]
        by_cases hn : n = 0
        · rw [if_pos hn, if_pos hn]
          by_cases hm : m = 0
          · left; rw [if_pos hm, if_pos hm]; exact ⟨rfl, rfl⟩
          · right
            rw [if_neg hm, if_neg hm]
            exact ⟨_, _, rfl, rfl, t ^^ u, (!t) ^^ u, Ieee.double.infRung, Nat.le_refl _, rfl, rfl, .inl (by cases t <;> cases u <;> rfl)⟩
        · right
          rw [if_neg hn, if_neg hn]
          obtain ⟨r, h1, h2, h3⟩ := write_number (2 * ((m <<< (Ieee.double.fractionBits + 2 + n.log2 - m.log2)) / n) + ((m <<< (Ieee.double.fractionBits + 2 + n.log2 - m.log2)) % n != 0).toNat) (i - j - (Ieee.double.fractionBits + 2 + n.log2 - m.log2 : Nat) - 1)
          exact ⟨_, _, rfl, rfl, _, _, r, h1, h2 _, h2 _, .inl (by cases t <;> cases u <;> rfl)⟩
  · rw [rungD_zero, rungD_zero]
    cases Z with
    | nan u n => left; exact ⟨rfl, rfl⟩
    | infinity u =>
      right
      obtain ⟨r, h1, h2, h3⟩ := write_number 0 0
      exact ⟨_, _, rfl, rfl, _, _, r, h1, h2 _, h2 _, .inr (h3 rfl)⟩
    | number u n j =>
      simp only [Ieee.Datum.quotient]
      by_cases hn : n = 0
      · left; simp [hn]
      · right
        rw [if_neg hn, if_neg hn]
        have hz : 2 * ((0 <<< (Ieee.double.fractionBits + 2 + n.log2 - Nat.log2 0)) / n) + ((0 <<< (Ieee.double.fractionBits + 2 + n.log2 - Nat.log2 0)) % n != 0).toNat = 0 := by simp
        simp only [hz]
        obtain ⟨r, h1, h2, h3⟩ := write_number 0 (Ieee.double.leastPlace - j - (Ieee.double.fractionBits + 2 + n.log2 - Nat.log2 0 : Nat) - 1)
        exact ⟨_, _, rfl, rfl, _, _, r, h1, h2 _, h2 _, .inr (h3 rfl)⟩

end Go.Vam
