/- Three heights, turned about: the float arithmetic of it. No program in sight. -/
import Derived.Test.YtpphomoijlilfaaVam25
namespace Go.Vam
open Go

/-! ## Words by sign and rung -/

theorem d_sw : Ieee.double.signWeight = 9223372036854775808 := by decide
theorem d_bi : Ieee.double.binade = 4503599627370496 := by decide
theorem d_ir : Ieee.double.infRung = 9218868437227405312 := by decide

/-- What a rung stands for. -/
def rungD (s : Bool) (r : Nat) : Ieee.Datum :=
  if r < Ieee.double.binade then .number s r Ieee.double.leastPlace
  else if r < Ieee.double.infRung then .number s (Ieee.double.binade + r % Ieee.double.binade) (Ieee.double.leastPlace + (r / Ieee.double.binade - 1 : Nat))
  else .infinity s

theorem read_word (s : Bool) (r : Nat) (hr : r ≤ Ieee.double.infRung) : Ieee.double.read (Ieee.double.word s r) = rungD s r := by
  have h1 : Ieee.double.word s r / Ieee.double.signWeight % 2 = s.toNat := by
    rw [d_ir] at hr
    unfold Ieee.Format.word
    rw [d_sw]
    cases s <;> simp <;> omega
  have h2 : Ieee.double.word s r % Ieee.double.signWeight = r := by
    rw [d_ir] at hr
    unfold Ieee.Format.word
    rw [d_sw]
    cases s <;> simp <;> omega
  unfold Ieee.Format.read rungD
  simp only [h1, h2]
  have h3 : (s.toNat == 1) = s := by cases s <;> rfl
  rw [h3]
  split
  · rfl
  · split
    · rfl
    · rw [if_pos (by omega)]

theorem rungD_opp (s : Bool) (r : Nat) : rungD (!s) r = (rungD s r).opposite := by
  unfold rungD
  split
  · rfl
  · split <;> rfl

/-- The rung that a number comes to. -/
def rungN (m : Nat) (i : Int) : Nat :=
  if m = 0 then 0 else
  min (((max (i + m.log2 - Ieee.double.fractionBits) Ieee.double.leastPlace) - Ieee.double.leastPlace).toNat * Ieee.double.binade +
    Ieee.Toward.even.cut true (m <<< (i - (max (i + m.log2 - Ieee.double.fractionBits) Ieee.double.leastPlace)).toNat) ((max (i + m.log2 - Ieee.double.fractionBits) Ieee.double.leastPlace) - i).toNat) Ieee.double.infRung

theorem cut_even (s : Bool) (n d : Nat) : Ieee.Toward.even.cut s n d = Ieee.Toward.even.cut true n d := rfl

theorem write_number (m : Nat) (i : Int) : ∃ r, r ≤ Ieee.double.infRung ∧ (∀ s, Ieee.double.write (.number s m i) = Ieee.double.word s r) ∧ (m = 0 → r = 0) := by
  refine ⟨rungN m i, ?_, fun s => ?_, fun h => by simp [rungN, h]⟩
  · unfold rungN; split
    · exact Nat.zero_le _
    · exact Nat.min_le_right _ _
  · unfold Ieee.Format.write Ieee.Format.nearest rungN
    by_cases hm : m = 0
    · simp [hm]
    · simp only [hm, if_false, cut_even s]

/-- Two words that differ in their sign at most, and where they are the same in it, are nought. -/
def Turn (x y : Nat) : Prop := ∃ s s' r, r ≤ Ieee.double.infRung ∧ x = Ieee.double.word s r ∧ y = Ieee.double.word s' r ∧ (s' = !s ∨ r = 0)

/-- What two outcomes are, if one is the other one turned about. -/
def TurnO (x y : Option Nat) : Prop := (x = none ∧ y = none) ∨ ∃ a b, x = some a ∧ y = some b ∧ Turn a b

theorem sum_comm (d e : Ieee.Datum) : d.sum e = e.sum d := by
  cases d <;> cases e <;> simp [Ieee.Datum.sum]
  · rename_i s m i t n j
    rw [Int.min_comm i j, Int.add_comm, Bool.and_comm]
    simp
  · rename_i s t
    by_cases h : s = t
    · subst h; simp
    · rw [if_neg h, if_neg (Ne.symm h)]

theorem signed_opp (s : Bool) (m u : Nat) : Ieee.signed (!s) m u = - Ieee.signed s m u := by
  cases s <;> simp [Ieee.signed]

theorem sub_turn (a c : Nat) : TurnO (Ieee.double.sub a c) (Ieee.double.sub c a) := by
  unfold Ieee.Format.sub
  generalize Ieee.double.read a = A
  generalize Ieee.double.read c = C
  cases A with
  | nan s t => left; cases C <;> simp [Ieee.Datum.sum, Ieee.Datum.opposite]
  | infinity s =>
    cases C with
    | nan t n => left; simp [Ieee.Datum.sum, Ieee.Datum.opposite]
    | infinity t =>
      simp only [Ieee.Datum.sum, Ieee.Datum.opposite]
      by_cases h : s = !t
      · right
        subst h
        refine ⟨_, _, by simp; rfl, by simp; rfl, !t, t, Ieee.double.infRung, Nat.le_refl _, rfl, rfl, .inl (by simp)⟩
      · left
        rw [if_neg h, if_neg (fun e => h (by rw [e]; simp))]
        exact ⟨rfl, rfl⟩
    | number t n j =>
      right
      exact ⟨_, _, rfl, rfl, s, !s, Ieee.double.infRung, Nat.le_refl _, rfl, rfl, .inl rfl⟩
  | number s m i =>
    cases C with
    | nan t n => left; simp [Ieee.Datum.sum, Ieee.Datum.opposite]
    | infinity t =>
      right
      exact ⟨_, _, rfl, rfl, !t, t, Ieee.double.infRung, Nat.le_refl _, rfl, rfl, .inl (by simp)⟩
    | number t n j =>
      right
      simp only [Ieee.Datum.sum, Ieee.Datum.opposite]
      rw [Int.min_comm j i]
      have hneg : Ieee.signed t n (j - min i j).toNat + Ieee.signed (!s) m (i - min i j).toNat = -(Ieee.signed s m (i - min i j).toNat + Ieee.signed (!t) n (j - min i j).toNat) := by
        rw [signed_opp, signed_opp]; omega
      rw [hneg]
      generalize Ieee.signed s m (i - min i j).toNat + Ieee.signed (!t) n (j - min i j).toNat = T
      obtain ⟨r, h1, h2, h3⟩ := write_number T.natAbs (min i j)
      refine ⟨_, _, rfl, rfl, _, _, r, h1, h2 _, by rw [Int.natAbs_neg]; exact h2 _, ?_⟩
      by_cases hT : T = 0
      · right; exact h3 (by simp [hT])
      · left
        rw [if_neg (by omega), if_neg hT]
        by_cases hl : T < 0
        · simp [hl]; omega
        · simp [hl]; omega

theorem opp_rung {x y : Nat} {s : Bool} {r : Nat} (hr : r ≤ Ieee.double.infRung) (hx : x = Ieee.double.word s r) (hy : y = Ieee.double.word (!s) r) : Ieee.double.read y = (Ieee.double.read x).opposite := by
  rw [hx, hy, read_word _ _ hr, read_word _ _ hr, rungD_opp]

theorem rungD_zero (s : Bool) : rungD s 0 = .number s 0 Ieee.double.leastPlace := by
  unfold rungD
  rw [if_pos (by decide)]

theorem div_turn {x y : Nat} (z : Nat) (h : Turn x y) : TurnO (Ieee.double.div x z) (Ieee.double.div y z) := by
  obtain ⟨s, s', r, hr, hx, hy, hs⟩ := h
  unfold Ieee.Format.div
  rw [hx, hy, read_word _ _ hr, read_word _ _ hr]
  generalize Ieee.double.read z = Z
  rcases hs with rfl | rfl
  · rw [rungD_opp]
    generalize rungD s r = X
    cases X with
    | nan t n => left; exact ⟨rfl, rfl⟩
    | infinity t =>
      cases Z with
      | nan u n => left; exact ⟨rfl, rfl⟩
      | infinity u => left; exact ⟨rfl, rfl⟩
      | number u n j =>
        right
        exact ⟨_, _, rfl, rfl, t ^^ u, (!t) ^^ u, Ieee.double.infRung, Nat.le_refl _, rfl, rfl, .inl (by cases t <;> cases u <;> rfl)⟩
    | number t m i =>
      cases Z with
      | nan u n => left; exact ⟨rfl, rfl⟩
      | infinity u =>
        right
        obtain ⟨r, h1, h2, h3⟩ := write_number 0 0
        exact ⟨_, _, rfl, rfl, _, _, r, h1, h2 _, h2 _, .inr (h3 rfl)⟩
      | number u n j =>
        simp only [Ieee.Datum.quotient, Ieee.Datum.opposite]
        by_cases hn : n = 0
        · rw [if_pos hn, if_pos hn]
          by_cases hm : m = 0
          · left; rw [if_pos hm, if_pos hm]; exact ⟨rfl, rfl⟩
          · right
            rw [if_neg hm, if_neg hm]
            exact ⟨_, _, rfl, rfl, t ^^ u, (!t) ^^ u, Ieee.double.infRung, Nat.le_refl _, rfl, rfl, .inl (by cases t <;> cases u <;> rfl)⟩
        · right
          rw [if_neg hn, if_neg hn]
          obtain ⟨r, h1, h2, h3⟩ := write_number (2 * ((m <<< (Ieee.double.fractionBits + 2 + n.log2 - m.log2)) / n) + ((m <<< (Ieee.double.fractionBits + 2 + n.log2 - m.log2)) % n != 0).toNat) (i - j - (Ieee.double.fractionBits + 2 + n.log2 - m.log2 : Nat) - 1)
          exact ⟨_, _, rfl, rfl, _, _, r, h1, h2 _, h2 _, .inl (by cases t <;> cases u <;> rfl)⟩
  · rw [rungD_zero, rungD_zero]
    cases Z with
    | nan u n => left; exact ⟨rfl, rfl⟩
    | infinity u =>
      right
      obtain ⟨r, h1, h2, h3⟩ := write_number 0 0
      exact ⟨_, _, rfl, rfl, _, _, r, h1, h2 _, h2 _, .inr (h3 rfl)⟩
    | number u n j =>
      simp only [Ieee.Datum.quotient]
      by_cases hn : n = 0
      · left; simp [hn]
      · right
        rw [if_neg hn, if_neg hn]
        have hz : 2 * ((0 <<< (Ieee.double.fractionBits + 2 + n.log2 - Nat.log2 0)) / n) + ((0 <<< (Ieee.double.fractionBits + 2 + n.log2 - Nat.log2 0)) % n != 0).toNat = 0 := by simp
        simp only [hz]
        obtain ⟨r, h1, h2, h3⟩ := write_number 0 (Ieee.double.leastPlace - j - (Ieee.double.fractionBits + 2 + n.log2 - Nat.log2 0 : Nat) - 1)
        exact ⟨_, _, rfl, rfl, _, _, r, h1, h2 _, h2 _, .inr (h3 rfl)⟩

end Go.Vam

/- Three heights, turned about: the plain law. -/
namespace Go.Vam
open Go

def T2 : Nat := 4611686018427387904
def H5 : Nat := 4602678819172646912
def N5 : Nat := 13826050856027422720

def le05 (x : Nat) : Bool := ford .f64 (fabs x) H5 == some .lt || ford .f64 (fabs x) H5 == some .eq

def btwX (a b c : Nat) : Nat := fdiv .f64 (fsub .f64 a c) (fmul .f64 T2 (fsub .f64 (fadd .f64 a c) (fmul .f64 T2 b)))

/-- What stands between three heights. -/
def btw (a b c : Nat) : Nat := if le05 (btwX a b c) then btwX a b c else 0

theorem fabs_word (s : Bool) (r : Nat) (hr : r ≤ Ieee.double.infRung) : fabs (Ieee.double.word s r) = r := by
  have hn : fisNaN .f64 (Ieee.double.word s r) = false := by
    show (Ieee.double.read (Ieee.double.word s r)).isNaN = false
    rw [read_word _ _ hr]
    unfold rungD
    split
    · rfl
    · split <;> rfl
  unfold fabs
  rw [hn]
  rw [d_ir] at hr
  simp only [Bool.false_eq_true, if_false, Ieee.Format.word, d_sw]
  cases s <;> simp <;> omega

theorem le05_nan : le05 (nanF .f64) = false := by decide +kernel

theorem ford_word (s t : Bool) (r q : Nat) (hr : r ≤ Ieee.double.infRung) (hq : q ≤ Ieee.double.infRung) : ford .f64 (Ieee.double.word s r) (Ieee.double.word t q) = (rungD s r).order (rungD t q) := by
  show (Ieee.double.read _).order (Ieee.double.read _) = _
  rw [read_word _ _ hr, read_word _ _ hq]

theorem order_self (s : Bool) (r : Nat) : (rungD s r).order (rungD s r) = some .eq := by
  unfold rungD
  split
  · simp [Ieee.Datum.order]
  · split
    · simp [Ieee.Datum.order]
    · simp [Ieee.Datum.order]

theorem order_zero (s t : Bool) : (rungD s 0).order (rungD t 0) = some .eq := by
  rw [rungD_zero, rungD_zero]
  cases s <;> cases t <;> simp [Ieee.Datum.order, Ieee.signed]

theorem fneg_word (s : Bool) (r : Nat) (hr : r ≤ Ieee.double.infRung) : fneg .f64 (Ieee.double.word s r) = Ieee.double.word (!s) r := by
  unfold fneg
  have hne : ¬ Ieee.double.word s r = nanF .f64 := by
    rw [d_ir] at hr
    unfold Ieee.Format.word nanF
    rw [d_sw]
    cases s <;> simp <;> omega
  rw [if_neg hne]
  show Ieee.double.word s r ^^^ 2 ^ 63 = _
  rw [d_ir] at hr
  have hlt : r < 2 ^ 63 := by omega
  have key : ∀ n, n < 2 ^ 63 → n ^^^ 2 ^ 63 = 2 ^ 63 + n := fun n hn => by
    apply Nat.eq_of_testBit_eq
    intro j
    rw [Nat.testBit_xor, Nat.testBit_two_pow]
    rcases Nat.lt_trichotomy j 63 with h | h | h
    · rw [Nat.testBit_two_pow_add_gt h]
      have : ¬ 63 = j := by omega
      simp [this]
    · subst h
      rw [Nat.testBit_two_pow_add_eq, Nat.testBit_lt_two_pow hn]
      simp
    · have h1 : n.testBit j = false := Nat.testBit_lt_two_pow (Nat.lt_of_lt_of_le hn (Nat.pow_le_pow_right (by decide) (by omega)))
      have h2 : (2 ^ 63 + n).testBit j = false := Nat.testBit_lt_two_pow (Nat.lt_of_lt_of_le (by omega : 2 ^ 63 + n < 2 ^ 64) (Nat.pow_le_pow_right (by decide) (by omega)))
      rw [h1, h2]
      have : ¬ 63 = j := by omega
      simp [this]
  unfold Ieee.Format.word
  rw [d_sw]
  cases s with
  | false => simp only [Bool.false_eq_true, if_false, Bool.not_false, if_true]; exact key r hlt
  | true =>
    simp only [if_true, Bool.not_true, Bool.false_eq_true, if_false]
    have := key r hlt
    rw [show (9223372036854775808 : Nat) = 2 ^ 63 from rfl, ← this, Nat.xor_assoc, Nat.xor_self, Nat.xor_zero]

theorem H5_word : H5 = Ieee.double.word false H5 ∧ H5 ≤ Ieee.double.infRung := by decide
theorem N5_word : N5 = Ieee.double.word true H5 := by decide
theorem zero_word : (0 : Nat) = Ieee.double.word false 0 := by decide

theorem rung_cases (r : Nat) : (∃ m i, ∀ s, rungD s r = .number s m i) ∨ (∀ s, rungD s r = .infinity s) := by
  unfold rungD
  by_cases h : r < Ieee.double.binade
  · exact .inl ⟨_, _, fun s => by rw [if_pos h]⟩
  · by_cases h2 : r < Ieee.double.infRung
    · exact .inl ⟨_, _, fun s => by rw [if_neg h, if_pos h2]⟩
    · exact .inr fun s => by rw [if_neg h, if_neg h2]

theorem bounds05 (s : Bool) (r : Nat) (hr : r ≤ Ieee.double.infRung) (h : le05 (Ieee.double.word s r) = true) :
    (ford .f64 (Ieee.double.word s r) N5 == some .gt || ford .f64 (Ieee.double.word s r) N5 == some .eq) = true ∧
    (ford .f64 (Ieee.double.word s r) H5 == some .lt || ford .f64 (Ieee.double.word s r) H5 == some .eq) = true := by
  unfold le05 at h
  rw [fabs_word _ _ hr] at h
  have hH := H5_word.2
  have f1 : ford .f64 r H5 = (rungD false r).order (rungD false H5) := ford_word false false r H5 hr hH
  have f2 : ford .f64 (Ieee.double.word s r) H5 = (rungD s r).order (rungD false H5) := ford_word s false r H5 hr hH
  have f3 : ford .f64 (Ieee.double.word s r) N5 = (rungD s r).order (rungD true H5) := by rw [N5_word]; exact ford_word s true r H5 hr hH
  rw [f1] at h
  rw [f2, f3]
  obtain ⟨n, j, hn⟩ : ∃ n j, ∀ s, rungD s H5 = .number s n j := by
    rcases rung_cases H5 with x | x
    · exact x
    · exact absurd (x false) (by decide)
  rcases rung_cases r with ⟨m, i, hm⟩ | hi
  · rw [hm, hn] at h
    rw [hm, hn, hn]
    simp only [Ieee.Datum.order] at h ⊢
    generalize (i - min i j).toNat = u at *
    generalize (j - min i j).toNat = v at *
    simp only [Ieee.signed] at h ⊢
    generalize m <<< u = x at *
    generalize n <<< v = y at *
    have hle : x ≤ y := by
      simp only [Bool.false_eq_true, if_false] at h
      rcases Int.lt_trichotomy (x : Int) (y : Int) with z | z | z
      · omega
      · omega
      · rw [show compare (x : Int) (y : Int) = .gt from Int.compare_eq_gt.2 z] at h
        simp at h
    have lt_or : ∀ x y : Int, x ≤ y → (some (compare x y) == some Ordering.lt || some (compare x y) == some Ordering.eq) = true := fun x y hxy => by
      rcases Int.lt_or_eq_of_le hxy with z | z
      · rw [Int.compare_eq_lt.2 z]; rfl
      · rw [Int.compare_eq_eq.2 z]; rfl
    have gt_or : ∀ x y : Int, y ≤ x → (some (compare x y) == some Ordering.gt || some (compare x y) == some Ordering.eq) = true := fun x y hxy => by
      rcases Int.lt_or_eq_of_le hxy with z | z
      · rw [Int.compare_eq_gt.2 z]; rfl
      · rw [Int.compare_eq_eq.2 z.symm]; rfl
    refine ⟨gt_or _ _ ?_, lt_or _ _ ?_⟩
    · cases s <;> simp only [Bool.false_eq_true, if_false, if_true] <;> omega
    · cases s <;> simp only [Bool.false_eq_true, if_false, if_true] <;> omega
  · rw [hi, hn] at h
    simp [Ieee.Datum.order] at h

theorem add_comm (a c : Nat) : fadd .f64 a c = fadd .f64 c a := by
  unfold fadd
  show fres .f64 (((Ieee.double.read a).sum (Ieee.double.read c)).map _) = fres .f64 (((Ieee.double.read c).sum (Ieee.double.read a)).map _)
  rw [sum_comm]

theorem fdiv_nan (z : Nat) : fdiv .f64 (nanF .f64) z = nanF .f64 := by
  unfold fdiv
  rw [div_nan (.inl (nanF_nan .f64))]
  rfl

theorem fres_turn {x y : Option Nat} (h : TurnO x y) : (fres .f64 x = nanF .f64 ∧ fres .f64 y = nanF .f64) ∨ Turn (fres .f64 x) (fres .f64 y) := by
  rcases h with ⟨rfl, rfl⟩ | ⟨a, b, rfl, rfl, h⟩
  · exact .inl ⟨rfl, rfl⟩
  · exact .inr h

theorem btwX_turn (a b c : Nat) : (btwX a b c = nanF .f64 ∧ btwX c b a = nanF .f64) ∨ Turn (btwX a b c) (btwX c b a) := by
  unfold btwX
  rw [add_comm c a]
  generalize fmul .f64 T2 (fsub .f64 (fadd .f64 a c) (fmul .f64 T2 b)) = M
  rcases fres_turn (sub_turn a c) with ⟨h1, h2⟩ | h
  · have e1 : fsub .f64 a c = nanF .f64 := h1
    have e2 : fsub .f64 c a = nanF .f64 := h2
    rw [e1, e2, fdiv_nan]
    exact .inl ⟨rfl, rfl⟩
  · exact fres_turn (div_turn M h)

/-- x == -y, -0.5 <= x, x <= 0.5. -/
theorem btw_law (a b c : Nat) : (ford .f64 (btw a b c) (fneg .f64 (btw c b a)) == some .eq) = true ∧
    (ford .f64 (btw a b c) N5 == some .gt || ford .f64 (btw a b c) N5 == some .eq) = true ∧
    (ford .f64 (btw a b c) H5 == some .lt || ford .f64 (btw a b c) H5 == some .eq) = true := by
  unfold btw
  rcases btwX_turn a b c with ⟨h1, h2⟩ | ⟨s, s', r, hr, hx, hy, hs⟩
  · rw [h1, h2, le05_nan]
    decide +kernel
  · rw [hx, hy]
    have e : le05 (Ieee.double.word s' r) = le05 (Ieee.double.word s r) := by
      unfold le05; rw [fabs_word _ _ hr, fabs_word _ _ hr]
    rw [e]
    cases hl : le05 (Ieee.double.word s r) with
    | false => simp only [Bool.false_eq_true, if_false]; decide +kernel
    | true =>
      simp only [if_true]
      refine ⟨?_, bounds05 s r hr hl⟩
      rw [fneg_word _ _ hr, ford_word _ _ _ _ hr hr]
      rcases hs with rfl | rfl
      · rw [Bool.not_not, order_self]; rfl
      · rw [order_zero]; rfl

/-- What is no difference: of heights that are equal. -/
theorem btw_same (a b c : Nat) (h : (ford .f64 a c == some .eq) = true) : (ford .f64 (btw a b c) 0 == some .eq) = true := by
  -- the difference is a NaN, or nought
  have hP : fsub .f64 a c = nanF .f64 ∨ ∃ s, fsub .f64 a c = Ieee.double.word s 0 := by
    have h' : (Ieee.double.read a).order (Ieee.double.read c) = some .eq := eq_of_beq h
    unfold fsub
    show fres .f64 (((Ieee.double.read a).sum (Ieee.double.read c).opposite).map _) = _ ∨ ∃ s, fres .f64 (((Ieee.double.read a).sum (Ieee.double.read c).opposite).map _) = _
    generalize Ieee.double.read a = A at *
    generalize Ieee.double.read c = C at *
    cases A with
    | nan s t => simp [Ieee.Datum.order] at h'
    | infinity s =>
      cases C with
      | nan t n => simp [Ieee.Datum.order] at h'
      | infinity t =>
        left
        have : s = t := by revert h'; cases s <;> cases t <;> decide
        subst this
        simp only [Ieee.Datum.sum, Ieee.Datum.opposite]
        rw [if_neg (by cases s <;> simp)]
        rfl
      | number t n j => cases s <;> simp [Ieee.Datum.order] at h'
    | number s m i =>
      cases C with
      | nan t n => simp [Ieee.Datum.order] at h'
      | infinity t => cases t <;> simp [Ieee.Datum.order] at h'
      | number t n j =>
        right
        simp only [Ieee.Datum.order, Option.some.injEq] at h'
        have he := Int.compare_eq_eq.1 h'
        simp only [Ieee.Datum.sum, Ieee.Datum.opposite]
        rw [signed_opp, he, Int.add_right_neg]
        obtain ⟨r, h1, h2, h3⟩ := write_number 0 (min i j)
        have := h3 rfl
        subst this
        exact ⟨_, h2 _⟩
  have hX : btwX a b c = nanF .f64 ∨ ∃ s, btwX a b c = Ieee.double.word s 0 := by
    unfold btwX
    generalize fmul .f64 T2 (fsub .f64 (fadd .f64 a c) (fmul .f64 T2 b)) = M
    rcases hP with h | ⟨s, h⟩
    · rw [h, fdiv_nan]; exact .inl rfl
    · rw [h]
      have ht : Turn (Ieee.double.word s 0) (Ieee.double.word s 0) := ⟨s, s, 0, Nat.zero_le _, rfl, rfl, .inr rfl⟩
      unfold fdiv
      show fres .f64 (Ieee.double.div _ M) = _ ∨ ∃ t, fres .f64 (Ieee.double.div _ M) = _
      unfold Ieee.Format.div
      rw [read_word _ _ (Nat.zero_le _), rungD_zero]
      cases Ieee.double.read M with
      | nan u n => exact .inl rfl
      | infinity u =>
        right
        obtain ⟨r, h1, h2, h3⟩ := write_number 0 0
        have := h3 rfl
        subst this
        exact ⟨_, h2 _⟩
      | number u n j =>
        simp only [Ieee.Datum.quotient]
        by_cases hn : n = 0
        · left; simp [hn, fres]
        · right
          rw [if_neg hn]
          have hz : 2 * ((0 <<< (Ieee.double.fractionBits + 2 + n.log2 - Nat.log2 0)) / n) + ((0 <<< (Ieee.double.fractionBits + 2 + n.log2 - Nat.log2 0)) % n != 0).toNat = 0 := by simp
          simp only [hz]
          obtain ⟨r, h1, h2, h3⟩ := write_number 0 (Ieee.double.leastPlace - j - (Ieee.double.fractionBits + 2 + n.log2 - Nat.log2 0 : Nat) - 1)
          have := h3 rfl
          subst this
          exact ⟨_, h2 _⟩
  unfold btw
  rcases hX with h | ⟨s, h⟩
  · rw [h, le05_nan]; decide +kernel
  · rw [h]
    cases hl : le05 (Ieee.double.word s 0) with
    | false => simp only [Bool.false_eq_true, if_false]; decide +kernel
    | true =>
      simp only [if_true]
      have : ford .f64 (Ieee.double.word s 0) 0 = (rungD s 0).order (rungD false 0) := ford_word s false 0 0 (Nat.zero_le _) (Nat.zero_le _)
      rw [this, order_zero]; rfl

end Go.Vam
