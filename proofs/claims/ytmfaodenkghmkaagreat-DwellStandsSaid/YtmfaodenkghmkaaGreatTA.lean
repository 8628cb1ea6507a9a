/- Bits of floats: magnitudes and signs. -/
import Derived.Test.YtmfaodenkghmkaaGreatWpB
import Derived.Test.YtmfaodenkghmkaaGreatWZ
import Derived.Test.YtmfaodenkghmkaaGreatFlA
namespace Go.Vam
open Go

theorem ofInt_nat (x : Nat) : BitVec.ofInt 64 ((x : Nat) : Int) = BitVec.ofNat 64 x := by
  apply BitVec.eq_of_toNat_eq
  simp []
theorem top_bit {x i : Nat} (hx : x < 18446744073709551616) : (x / 9223372036854775808 * 9223372036854775808).testBit i = (x.testBit i && decide (i = 63)) := by
  have e : (9223372036854775808 : Nat) = 2 ^ 63 := by decide
  rw [e, Nat.testBit_mul_two_pow, Nat.testBit_div_two_pow]
  by_cases h : 63 ≤ i
  · rw [show i - 63 + 63 = i by omega, decide_eq_true h, Bool.true_and]
    by_cases h2 : i = 63
    · simp [h2]
    · have : x.testBit i = false := Nat.testBit_lt_two_pow (Nat.lt_of_lt_of_le hx (by
        have : (18446744073709551616 : Nat) = 2 ^ 64 := by decide
        rw [this]; exact Nat.pow_le_pow_right (by omega) (by omega)))
      rw [this]; simp
  · rw [decide_eq_false h, decide_eq_false (by omega)]; simp
theorem and_top {x : Nat} (hx : x < 18446744073709551616) : x &&& 9223372036854775808 = x / 9223372036854775808 * 9223372036854775808 := by
  apply Nat.eq_of_testBit_eq
  intro i
  rw [Nat.testBit_and, top_bit hx, show (9223372036854775808 : Nat) = 2 ^ 63 by decide, Nat.testBit_two_pow]
  congr 1
  exact decide_eq_decide.2 ⟨fun h => h.symm, fun h => h.symm⟩
theorem or_top {a b : Nat} (ha : a < 9223372036854775808) (hb : b < 2) : a ||| b * 9223372036854775808 = a + b * 9223372036854775808 := by
  have h := Nat.two_pow_add_eq_or_of_lt (i := 63) (b := a) (by simpa using ha) b
  rw [show (2 : Nat) ^ 63 = 9223372036854775808 by decide] at h
  rw [Nat.or_comm, Nat.mul_comm, ← h, Nat.add_comm]

theorem bits_and {x : Nat} (hx : x < 18446744073709551616) : intBitsV .and .u64 (x : Nat) 9223372036854775808 = some ((x / 9223372036854775808 * 9223372036854775808 : Nat) : Int) := by
  show some (wrapK .u64 ((BitVec.ofInt 64 (x : Nat) &&& BitVec.ofInt 64 ((9223372036854775808 : Nat) : Int)).toNat)) = _
  rw [ofInt_nat, ofInt_nat, BitVec.toNat_and, BitVec.toNat_ofNat, BitVec.toNat_ofNat, Nat.mod_eq_of_lt hx, Nat.mod_eq_of_lt (by decide), and_top hx, wrap_u64 (by omega) (by omega)]
theorem bits_or {a b : Nat} (ha : a < 9223372036854775808) (hb : b < 2) : intBitsV .or .u64 (a : Nat) ((b * 9223372036854775808 : Nat) : Int) = some ((a + b * 9223372036854775808 : Nat) : Int) := by
  show some (wrapK .u64 ((BitVec.ofInt 64 (a : Nat) ||| BitVec.ofInt 64 ((b * 9223372036854775808 : Nat) : Int)).toNat)) = _
  rw [ofInt_nat, ofInt_nat, BitVec.toNat_or, BitVec.toNat_ofNat, BitVec.toNat_ofNat, Nat.mod_eq_of_lt (by omega), Nat.mod_eq_of_lt (by omega), or_top ha hb, wrap_u64 (by omega) (by omega)]

theorem bits_not {b : Nat} : binV .andNot (.int .u64 (b : Nat)) (.int .u64 9223372036854775808) = some (.int .u64 ((b % 9223372036854775808 : Nat) : Int)) := by
  have h : (BitVec.ofInt 64 (b : Int) &&& ~~~ BitVec.ofInt 64 9223372036854775808).toNat = b % 9223372036854775808 := by
    apply Nat.eq_of_testBit_eq
    intro i
    have e : (9223372036854775808 : Nat) = 2 ^ 63 := rfl
    rw [e, Nat.testBit_mod_two_pow]
    simp only [BitVec.toNat_and, BitVec.toNat_not, BitVec.toNat_ofInt]
    rw [Nat.testBit_and, show ((b : Int) % ((2 ^ 64 : Nat) : Int)).toNat = b % 2 ^ 64 by omega, show (2 ^ 64 - 1 - ((9223372036854775808 : Int) % ((2 ^ 64 : Nat) : Int)).toNat) = 2 ^ 63 - 1 by decide,
      Nat.testBit_mod_two_pow, Nat.testBit_two_pow_sub_one]
    by_cases hi : i < 63
    · simp [hi, show i < 64 by omega]
    · simp [hi]
  have e : binV .andNot (.int .u64 (b : Nat)) (.int .u64 9223372036854775808) = (intBitsV .andNot .u64 (b : Nat) 9223372036854775808).map (.int .u64) := by simp [binV]
  rw [e]
  show some (Value.int .u64 (wrapK .u64 ((BitVec.ofInt 64 (b : Int) &&& ~~~ BitVec.ofInt 64 9223372036854775808).toNat))) = _
  rw [h, wrap_u64 (by omega) (by omega)]
theorem ext_word {n : Nat} (h : n < 18446744073709551616) : extV 1 [.int .u64 (n : Nat)] = some (.float .f64 n) := by
  unfold extV
  simp only
  rw [if_pos (by omega)]
  rfl
theorem ext_bits0 {x : Nat} (h : fknown .f64 x = true) : extV 0 [.float .f64 x] = some (.int .u64 (x : Nat)) := by
  unfold extV
  simp only [h, if_true]

end Go.Vam

/- A float's whole part and what is left. -/
namespace Go.Vam
open Go

theorem dvd_two {r K : Nat} (h : twoP (K + 52) ≤ sv r) : ∃ t, sv r = t * twoP K := sv_dvd h
theorem big_whole {r : Nat} (h : 9007199254740992 * oneU ≤ sv r) : ∃ t, sv r = t * oneU := by
  have e : (9007199254740992 : Nat) * oneU = twoP (53 + 1074) := by
    rw [← twoP_mul]
    congr 1
  have h1 : twoP (1074 + 52) ≤ sv r := by
    refine Nat.le_trans ?_ h
    rw [e]
    exact twoP_le (by omega)
  obtain ⟨t, ht⟩ := dvd_two h1
  exact ⟨t, ht⟩

theorem trunc_word {r : Nat} (hr : r < infR) (s : Bool) : ∃ w : Nat, extV 3 [.float .f64 (Ieee.double.word s r)] = some (.float .f64 (Ieee.double.word s w)) ∧ w < infR ∧ sv w ≤ sv r ∧ sv r < sv w + oneU ∧ ∃ F, sv w = F * oneU := by
  obtain ⟨N, d, h1, h2⟩ := whole_of hr
  obtain ⟨b1, b2, b3, b4⟩ := frac_bounds h2
  refine ⟨rungN (Ieee.Toward.zero.cut s N d) 0, ?_, ?_⟩
  · have hd : Ieee.double.read (Ieee.double.word s r) = rungD s r := read_word _ _ (by rw [d_ir]; exact Nat.le_of_lt hr)
    obtain ⟨m, q, g1, _, _⟩ := rungD_fin hr
    show (match FloatKind.f64.decode (Ieee.double.word s r) with
      | .nan _ _ => some (Value.float .f64 (nanF .f64))
      | d => some (Value.float .f64 (FloatKind.f64.encode (d.integral .zero)))) = _
    have hi := h1 s .zero
    have hdec : FloatKind.f64.decode (Ieee.double.word s r) = .number s m (-1074 + (q : Int)) := by
      show Ieee.double.read (Ieee.double.word s r) = _
      rw [hd, g1]
    rw [hdec]
    rw [hd, g1] at hi
    show some (Value.float .f64 (Ieee.double.write (Ieee.Datum.integral .zero (.number s m (-1074 + (q : Int)))))) = _
    rw [hi, write_N]
  · rw [cut_toward _ (.inr rfl), if_neg (by simp), Nat.add_zero]
    generalize hF : N / 2 ^ d = F at *
    have key : rungN F 0 < infR ∧ sv (rungN F 0) = F * oneU := by
      by_cases hb : F ≤ 9007199254740992
      · exact rungN_int hb
      · have hbig : 9007199254740992 * oneU ≤ sv r := Nat.le_trans (Nat.mul_le_mul_right _ (by omega)) b1
        obtain ⟨t, ht⟩ := big_whole hbig
        have hFt : F = t := by
          rw [ht] at b1 b2
          have c1 := Nat.le_of_mul_le_mul_right b1 oneU_pos
          have c2 := Nat.lt_of_mul_lt_mul_right b2
          omega
        have hex : rungN F 0 = r := (rn_int F).exact (Nat.le_of_lt hr) (by rw [Nat.mul_one, ht, hFt])
        rw [hex]
        exact ⟨hr, by rw [ht, hFt]⟩
    refine ⟨key.1, by rw [key.2]; exact b1, ?_, F, key.2⟩
    rw [key.2]
    rw [Nat.add_mul, Nat.one_mul] at b2
    exact b2

/-- The whole part, as the library tells it. -/
def truncF (x : Nat) : Nat := match extV 3 [.float .f64 x] with
  | some (.float _ t) => t
  | _ => 0
theorem trunc_fn {x : Nat} (hx : Fn x) : extV 3 [.float .f64 x] = some (.float .f64 (truncF x)) ∧ Fn (truncF x) ∧ (fv x - fv (truncF x)).natAbs < oneU ∧ ((fv x).natAbs < oneU → fv (truncF x) = 0) := by
  obtain ⟨w, h1, h2, h3, h4, F, h5⟩ := trunc_word hx.2 (decide (9223372036854775808 ≤ x))
  rw [← hx.word] at h1
  have ht : truncF x = Ieee.double.word (decide (9223372036854775808 ≤ x)) w := by unfold truncF; rw [h1]
  obtain ⟨k1, k2⟩ := word_fn (b := decide (9223372036854775808 ≤ x)) h2
  rw [← ht] at k1 k2 h1
  refine ⟨h1, k1, ?_, ?_⟩
  · rw [k2]
    unfold fv sw
    generalize sv w = W at *
    generalize sv (x % 9223372036854775808) = R at *
    generalize oneU = U at *
    split <;> omega
  · intro h
    rw [k2]
    have e : (fv x).natAbs = sv (x % 9223372036854775808) := sw_abs _ _
    rw [e] at h
    have hF : F = 0 := by
      rcases Nat.eq_zero_or_pos F with h0 | h0
      · exact h0
      · have : 1 * oneU ≤ F * oneU := Nat.mul_le_mul_right _ h0
        generalize oneU = U at *
        omega
    unfold sw
    rw [h5, hF, Nat.zero_mul]
    split <;> rfl

/-- A float with the sign of another one. -/
def copyF (f x : Nat) : Nat := f % 9223372036854775808 + x / 9223372036854775808 * 9223372036854775808
theorem copy_fn {f x : Nat} (hf : Fn f) (hx : x < 18446744073709551616) : Fn (copyF f x) ∧ (fv (copyF f x)).natAbs = (fv f).natAbs := by
  obtain ⟨h1, h2⟩ := hf
  have hq : x / 9223372036854775808 < 2 := by omega
  have hm : copyF f x % 9223372036854775808 = f % 9223372036854775808 := by unfold copyF; omega
  refine ⟨⟨by unfold copyF; omega, by rw [hm]; exact h2⟩, ?_⟩
  unfold fv
  rw [sw_abs, sw_abs, hm]

/-- What is left of a float, and how it is wrapped into a half. -/
def fracF (x : Nat) : Nat := copyF (fsub .f64 x (truncF x)) x
def wrapF (x : Nat) : Nat := fadd .f64 (if (ford .f64 (fracF x) 4602678819172646912 == some .gt || ford .f64 (fracF x) 4602678819172646912 == some .eq) = true then fsub .f64 (fracF x) 4607182418800017408
  else if (ford .f64 (fracF x) 13826050856027422720 == some .lt) = true then fadd .f64 (fracF x) 4607182418800017408 else fracF x) 0

theorem feq_fn {x y : Nat} (hx : Fn x) (hy : Fn y) : (ford .f64 x y == some .eq) = true ↔ fv x = fv y := by
  rw [feq_iff hx.1 hy.1]
  constructor
  · rintro ⟨a, h1, h2⟩
    exact (Option.some.inj (hx.key.symm.trans h1)).trans (Option.some.inj (hy.key.symm.trans h2)).symm
  · intro h
    exact ⟨fv x, hx.key, by rw [h]; exact hy.key⟩
theorem zero_fn : Fn 0 ∧ fv 0 = 0 := ⟨⟨by decide, by decide⟩, by decide⟩
theorem sub_self {x : Nat} (hx : Fn x) : (ford .f64 (fsub .f64 x x) 0 == some .eq) = true := by
  obtain ⟨g1, g2⟩ := fsub_err hx hx (by simp)
  rw [feq_fn g1 zero_fn.1, zero_fn.2]
  simp at g2
  omega

theorem Fn.known {x : Nat} (h : Fn x) : fknown .f64 x = true := by
  unfold fknown
  have h2 : x % 9223372036854775808 < 9218868437227405312 := h.2
  have h1 := h.1
  simp only [bne_iff_ne, ne_eq]
  intro e
  have : nanF .f64 = 18446744073709551616 ∨ 9218868437227405312 ≤ nanF .f64 % 9223372036854775808 := by decide
  rw [← e] at this
  omega

theorem frac_fn {x : Nat} (hx : Fn x) : Fn (fsub .f64 x (truncF x)) ∧ Fn (fracF x) ∧ (fv (fracF x)).natAbs ≤ oneU + eU := by
  obtain ⟨h1, h2, h3, h4⟩ := trunc_fn hx
  have hmany := many_oneU
  have hE := one_eU
  obtain ⟨g1, g2⟩ := fsub_err hx h2 (by generalize oneU = U at *; omega)
  obtain ⟨c1, c2⟩ := copy_fn g1 hx.1
  refine ⟨g1, c1, ?_⟩
  unfold fracF
  rw [c2]
  generalize fv (fsub .f64 x (truncF x)) = S at *
  generalize fv x - fv (truncF x) = D at *
  generalize eU = E at *
  generalize oneU = U at *
  omega

end Go.Vam

/- The point of the circle at a turn, as the program finds it: plain. -/
namespace Go.Vam
open Go

/-- A row's sum, on its way. -/
def upF (l : List Nat) (z : Nat) (j : Nat) : Nat := hornF z (l.getD 8 0) ((List.range j).map fun i => l.getD (7 - i) 0)
theorem horn_snoc (z : Nat) : ∀ (a : List Nat) (p c : Nat), hornF z p (a ++ [c]) = fadd .f64 (fmul .f64 (hornF z p a) z) c
  | [], _, _ => rfl
  | _ :: a, _, c => horn_snoc z a _ c
theorem upF_succ {l : List Nat} {z j : Nat} : upF l z (j + 1) = fadd .f64 (fmul .f64 (upF l z j) z) (l.getD (7 - j) 0) := by
  unfold upF
  rw [List.range_succ, List.map_append, List.map_cons, List.map_nil, horn_snoc]
def cos24 : List Nat := cosB ++ List.replicate 15 0
def sin24 : List Nat := sinB ++ List.replicate 15 0
theorem up_cos {z : Nat} : upF cos24 z 8 = rowF cosB z := rfl
theorem up_sin {z : Nat} : upF sin24 z 8 = rowF sinB z := rfl

def sqrtF (x : Nat) : Nat := fres .f64 (FloatKind.f64.format.sqrt x)
def half2 : Nat := 4604544271217802189
theorem sqrt_half : sqrtF 4602678819172646912 = half2 := by decide +kernel

def eighC (a : Nat) : Nat := if (ford .f64 a 4593671619917905920 == some .eq) = true then half2 else ptC (fmul .f64 a 4618760256179416344)
def eighS (a : Nat) : Nat := if (ford .f64 a 4593671619917905920 == some .eq) = true then half2 else ptS (fmul .f64 a 4618760256179416344)
def leftB (w : Nat) : Bool := ford .f64 (fabs w) 4598175219545276416 == some .gt
def leftF (w : Nat) : Nat := if leftB w = true then fsub .f64 4602678819172646912 (fabs w) else fabs w
def steepB (w : Nat) : Bool := ford .f64 (leftF w) 4593671619917905920 == some .gt
def steepF (w : Nat) : Nat := if steepB w = true then fsub .f64 4598175219545276416 (leftF w) else leftF w
def tC1 (w : Nat) : Nat := if steepB w = true then eighS (steepF w) else eighC (steepF w)
def tS1 (w : Nat) : Nat := if steepB w = true then eighC (steepF w) else eighS (steepF w)
def tC2 (w : Nat) : Nat := if leftB w = true then fneg .f64 (tC1 w) else tC1 w
def tS3 (w : Nat) : Nat := if (ford .f64 w 0 == some .lt) = true then fneg .f64 (tS1 w) else tS1 w
/-- The point at a turn that is wrapped. -/
def turnC (w : Nat) : Nat := fadd .f64 (tC2 w) 0
def turnS (w : Nat) : Nat := fadd .f64 (tS3 w) 0

end Go.Vam

/- The point of the circle at a turn: its magnitude. -/
namespace Go.Vam
open Go

theorem fgt_fn {x y : Nat} (hx : Fn x) (hy : Fn y) : (ford .f64 x y == some .gt) = true ↔ fv y < fv x := by
  rw [fgt_iff hx.1 hy.1]
  constructor
  · rintro ⟨a, b, h1, h2, h3⟩
    rw [Option.some.inj (hx.key.symm.trans h1), Option.some.inj (hy.key.symm.trans h2)]
    exact h3
  · intro h
    exact ⟨fv x, fv y, hx.key, hy.key, h⟩
theorem fge_fn {x y : Nat} (hx : Fn x) (hy : Fn y) : (ford .f64 x y == some .gt || ford .f64 x y == some .eq) = true ↔ fv y ≤ fv x := by
  rw [Bool.or_eq_true, fgt_fn hx hy, feq_fn hx hy]
  omega
theorem flt_fn {x y : Nat} (hx : Fn x) (hy : Fn y) : (ford .f64 x y == some .lt) = true ↔ fv x < fv y := by
  have h := ford_key hx.1 hy.1
  rw [hx.key, hy.key] at h
  rw [h]
  show (some (compare (fv x) (fv y)) == some Ordering.lt) = true ↔ _
  rw [cmp_is]
  by_cases h1 : fv x < fv y
  · simp [h1]
  · rw [if_neg h1]
    by_cases h2 : fv x = fv y
    · simp [h2]
    · simp [h1, h2]

theorem one_fn : Fn 4607182418800017408 ∧ fv 4607182418800017408 = (oneU : Nat) := ⟨⟨by decide, by decide⟩, by decide +kernel⟩
theorem half_fn : Fn 4602678819172646912 ∧ 2 * fv 4602678819172646912 = (oneU : Nat) := ⟨⟨by decide, by decide⟩, by decide +kernel⟩
theorem nhalf_fn : Fn 13826050856027422720 ∧ 2 * fv 13826050856027422720 = -((oneU : Nat) : Int) := ⟨⟨by decide, by decide⟩, by decide +kernel⟩
theorem quart_fn : Fn 4598175219545276416 ∧ 4 * fv 4598175219545276416 = (oneU : Nat) := ⟨⟨by decide, by decide⟩, by decide +kernel⟩
theorem eight_fn : Fn 4593671619917905920 ∧ 8 * fv 4593671619917905920 = (oneU : Nat) := ⟨⟨by decide, by decide⟩, by decide +kernel⟩

theorem fadd_zero {x : Nat} (hx : Fn x) : Fn (fadd .f64 x 0) ∧ fv (fadd .f64 x 0) = fv x := by
  obtain ⟨z, h1, h2⟩ := add_rn hx.2 zero_fn.1.2 (decide (9223372036854775808 ≤ x)) (decide (9223372036854775808 ≤ 0))
  rw [← hx.word, ← zero_fn.1.word] at h1
  have e0 : sw (decide (9223372036854775808 ≤ 0)) (0 % 9223372036854775808) = 0 := by decide
  have e1 : sw (decide (9223372036854775808 ≤ x)) (x % 9223372036854775808) = fv x := rfl
  rw [e0, e1, Int.add_zero] at h1 h2
  have hab : (fv x).natAbs = sv (x % 9223372036854775808) := sw_abs _ _
  have hz : z = x % 9223372036854775808 := h2.exact (Nat.le_of_lt hx.2) (by rw [Nat.mul_one, hab])
  rw [hz] at h1
  obtain ⟨k1, k2⟩ := word_fn (b := if fv x = 0 then (decide (9223372036854775808 ≤ x)) && (decide (9223372036854775808 ≤ 0)) else decide (fv x < 0)) hx.2
  rw [← h1] at k1 k2
  refine ⟨k1, ?_⟩
  rw [k2]
  unfold sw
  rw [← hab]
  by_cases h0 : fv x = 0
  · rw [if_pos h0, h0]; simp
  · rw [if_neg h0]
    by_cases hn : fv x < 0
    · rw [decide_eq_true hn]; simp only [if_true]; omega
    · rw [decide_eq_false hn]; simp only [Bool.false_eq_true, if_false]; omega

theorem fneg_fn {x : Nat} (hx : Fn x) : Fn (fneg .f64 x) ∧ fv (fneg .f64 x) = -fv x := by
  have h := fneg_word (decide (9223372036854775808 ≤ x)) (x % 9223372036854775808) (by rw [d_ir]; exact Nat.le_of_lt hx.2)
  rw [← hx.word] at h
  obtain ⟨k1, k2⟩ := word_fn (b := !decide (9223372036854775808 ≤ x)) hx.2
  rw [← h] at k1 k2
  exact ⟨k1, by rw [k2, sw_not]; rfl⟩

theorem fabs_fn {x : Nat} (hx : Fn x) : Fn (fabs x) ∧ fv (fabs x) = ((fv x).natAbs : Nat) := by
  have h := fabs_word (decide (9223372036854775808 ≤ x)) (x % 9223372036854775808) (by rw [d_ir]; exact Nat.le_of_lt hx.2)
  rw [← hx.word] at h
  rw [h]
  have hr := hx.2
  have hI : infR = 9218868437227405312 := rfl
  have h1 : x % 9223372036854775808 % 9223372036854775808 = x % 9223372036854775808 := Nat.mod_eq_of_lt (by omega)
  refine ⟨⟨by omega, by rw [h1]; exact hr⟩, ?_⟩
  have e : (fv x).natAbs = sv (x % 9223372036854775808) := sw_abs _ _
  rw [e]
  unfold fv
  rw [h1, decide_eq_false (by omega)]
  rfl

/-- A wrapped turn. -/
theorem wrap_fn {x : Nat} (hx : Fn x) : Fn (wrapF x) ∧ 2 * (fv (wrapF x)).natAbs ≤ oneU + 8 * eU := by
  obtain ⟨_, r1, r2⟩ := frac_fn hx
  have hE := one_eU
  have hmany := many_oneU
  have key : ∀ y, Fn y → 2 * (fv y).natAbs ≤ oneU + 8 * eU → Fn (fadd .f64 y 0) ∧ 2 * (fv (fadd .f64 y 0)).natAbs ≤ oneU + 8 * eU := fun y h1 h2 => by
    obtain ⟨g1, g2⟩ := fadd_zero h1
    exact ⟨g1, by rw [g2]; exact h2⟩
  unfold wrapF
  split
  · rename_i h
    rw [fge_fn r1 half_fn.1] at h
    have hh := half_fn.2
    have h1 := one_fn.2
    obtain ⟨g1, g2⟩ := fsub_err r1 one_fn.1 (by rw [h1]; generalize oneU = U at *; generalize eU = E at *; omega)
    refine key _ g1 ?_
    rw [h1] at g2
    generalize fv (fsub .f64 (fracF x) 4607182418800017408) = S at *
    generalize fv 4602678819172646912 = H at *
    generalize fv (fracF x) = R at *
    generalize oneU = U at *
    generalize eU = E at *
    omega
  · rename_i h
    rw [fge_fn r1 half_fn.1] at h
    have hh := half_fn.2
    have hn := nhalf_fn.2
    have h1 := one_fn.2
    split
    · rename_i h2
      rw [flt_fn r1 nhalf_fn.1] at h2
      obtain ⟨g1, g2⟩ := fadd_err r1 one_fn.1 (by rw [h1]; generalize oneU = U at *; generalize eU = E at *; omega)
      refine key _ g1 ?_
      rw [h1] at g2
      generalize fv (fadd .f64 (fracF x) 4607182418800017408) = S at *
      generalize fv 4602678819172646912 = H at *
      generalize fv 13826050856027422720 = H' at *
      generalize fv (fracF x) = R at *
      generalize oneU = U at *
      generalize eU = E at *
      omega
    · rename_i h2
      rw [flt_fn r1 nhalf_fn.1] at h2
      refine key _ r1 ?_
      generalize fv 4602678819172646912 = H at *
      generalize fv 13826050856027422720 = H' at *
      generalize fv (fracF x) = R at *
      generalize oneU = U at *
      generalize eU = E at *
      omega

end Go.Vam

/- The point of the circle at a turn: its magnitude, told. -/
namespace Go.Vam
open Go

/-- Nearly on the circle. -/
def OnC (c s : Nat) : Prop := Fn c ∧ Fn s ∧ (fv c * fv c + fv s * fv s - (oneU : Nat) * (oneU : Nat)).natAbs ≤ 1300 * eU * oneU

theorem half2_on : OnC half2 half2 := by
  have h1 : Fn half2 := ⟨by decide, by decide⟩
  refine ⟨h1, h1, ?_⟩
  have h2 : (fv half2 * fv half2 + fv half2 * fv half2 - (oneU : Nat) * (oneU : Nat)).natAbs * 4503599627370496 ≤ 1300 * (oneU * oneU) := by decide +kernel
  have hE := one_eU
  generalize (fv half2 * fv half2 + fv half2 * fv half2 - (oneU : Nat) * (oneU : Nat)).natAbs = D at *
  generalize eU = E at *
  generalize oneU = U at *
  have e : 1300 * (U * U) = 1300 * E * U * 4503599627370496 := by
    conv => lhs; rw [show U * U = (4503599627370496 * E) * U by rw [← hE]]
    rw [Nat.mul_assoc 4503599627370496, Nat.mul_comm 4503599627370496, ← Nat.mul_assoc, ← Nat.mul_assoc]
  rw [e] at h2
  exact Nat.le_of_mul_le_mul_right h2 (by omega)

theorem steep_fn {w : Nat} (hw : Fn w) (h : 2 * (fv w).natAbs ≤ oneU + 8 * eU) : Fn (steepF w) ∧ 8 * (fv (steepF w)).natAbs ≤ oneU + 40 * eU := by
  obtain ⟨a1, a2⟩ := fabs_fn hw
  have hE := one_eU
  have hmany := many_oneU
  have hh := half_fn.2
  have hq := quart_fn.2
  have h8 := eight_fn.2
  have hl : Fn (leftF w) ∧ -(5 * (eU : Nat)) ≤ fv (leftF w) ∧ 4 * fv (leftF w) ≤ (oneU : Nat) + 4 * (eU : Nat) := by
    unfold leftF leftB
    split
    · rename_i hc
      rw [fgt_fn a1 quart_fn.1] at hc
      obtain ⟨g1, g2⟩ := fsub_err half_fn.1 a1 (by rw [a2]; generalize fv 4602678819172646912 = H at *; generalize fv 4598175219545276416 = Q at *; generalize oneU = U at *; generalize eU = E at *; omega)
      refine ⟨g1, ?_⟩
      rw [a2] at g2 hc
      generalize fv (fsub .f64 4602678819172646912 (fabs w)) = S at *
      generalize fv 4602678819172646912 = H at *
      generalize fv 4598175219545276416 = Q at *
      generalize oneU = U at *
      generalize eU = E at *
      omega
    · rename_i hc
      rw [fgt_fn a1 quart_fn.1] at hc
      refine ⟨a1, ?_⟩
      rw [a2] at hc ⊢
      generalize fv 4598175219545276416 = Q at *
      generalize oneU = U at *
      generalize eU = E at *
      omega
  obtain ⟨l1, l2, l3⟩ := hl
  unfold steepF steepB
  split
  · rename_i hc
    rw [fgt_fn l1 eight_fn.1] at hc
    obtain ⟨g1, g2⟩ := fsub_err quart_fn.1 l1 (by generalize fv 4598175219545276416 = Q at *; generalize fv 4593671619917905920 = Q8 at *; generalize oneU = U at *; generalize eU = E at *; omega)
    refine ⟨g1, ?_⟩
    generalize fv (fsub .f64 4598175219545276416 (leftF w)) = S at *
    generalize fv 4598175219545276416 = Q at *
    generalize fv 4593671619917905920 = Q8 at *
    generalize oneU = U at *
    generalize eU = E at *
    omega
  · rename_i hc
    rw [fgt_fn l1 eight_fn.1] at hc
    refine ⟨l1, ?_⟩
    generalize fv 4593671619917905920 = Q8 at *
    generalize oneU = U at *
    generalize eU = E at *
    omega

theorem circ_fn : Fn 4618760256179416344 ∧ (fv 4618760256179416344).natAbs ≤ 7 * oneU := ⟨⟨by decide, by decide⟩, by decide +kernel⟩

/-- An eighth's angle. -/
theorem angle_fn {a : Nat} (ha : Fn a) (h : 8 * (fv a).natAbs ≤ oneU + 40 * eU) : Fn (fmul .f64 a 4618760256179416344) ∧ (fv (fmul .f64 a 4618760256179416344)).natAbs ≤ oneU ∧
    (fv (fmul .f64 a 4618760256179416344) * (oneU : Nat) - fv a * fv 4618760256179416344).natAbs ≤ 21 * (eU * oneU) := by
  have hE := one_eU
  have hE4 := eU_big
  obtain ⟨c1, c2⟩ := circ_fn
  have hf := floor_near (x := fv a * fv 4618760256179416344) (U := ((oneU : Nat) : Int)) (Int.natCast_pos.2 oneU_pos)
  rw [Int.natAbs_natCast] at hf
  have hap := (Ap.self ha).mul (Ap.self c1) (p := fv a * fv 4618760256179416344 / (oneU : Nat)) (a := 1) (b := 7) (by generalize oneU = U at *; generalize eU = E at *; omega) c2 hf (by omega) (by omega) (by omega)
  have hN : (fv a * fv 4618760256179416344).natAbs * 8 ≤ (oneU + 40 * eU) * (7 * oneU) := by
    rw [Int.natAbs_mul, Nat.mul_right_comm]
    refine Nat.mul_le_mul ?_ c2
    rw [Nat.mul_comm]; exact h
  obtain ⟨k1, k2, k3⟩ := hap
  refine ⟨k1, ?_⟩
  have hU0 := oneU_pos
  generalize fv (fmul .f64 a 4618760256179416344) = Y at *
  generalize fv a * fv 4618760256179416344 = N at *
  generalize N / ((oneU : Nat) : Int) = F at *
  generalize eU = E at *
  generalize oneU = U at *
  have h6 : (Y - F).natAbs ≤ 20 * E := by omega
  have e : Y * (U : Nat) - N = (Y - F) * (U : Nat) + -(N - F * (U : Nat)) := by rw [Int.sub_mul]; omega
  have hYN : (Y * (U : Nat) - N).natAbs ≤ 21 * (E * U) := by
    rw [e]
    refine Nat.le_trans (Int.natAbs_add_le _ _) ?_
    rw [Int.natAbs_neg, Int.natAbs_mul, Int.natAbs_natCast]
    have h7 := Nat.mul_le_mul_right U h6
    have h8 : 20 * E * U = 20 * (E * U) := Nat.mul_assoc ..
    have h9 : U ≤ E * U := Nat.le_mul_of_pos_left U (by omega)
    omega
  refine ⟨?_, hYN⟩
  refine abs_div hU0 ?_
  have e2 : Y * (U : Nat) = (Y * (U : Nat) - N) + N := by omega
  rw [e2]
  refine Nat.le_trans (Int.natAbs_add_le _ _) ?_
  have h10 : (U + 40 * E) * (7 * U) = 7 * (U * U) + 280 * (E * U) := by
    rw [Nat.add_mul]
    congr 1
    · ac_rfl
    · rw [show (280 : Nat) = 40 * 7 from rfl]; ac_rfl
  rw [h10] at hN
  have h11 : 448 * (E * U) ≤ U * U := by rw [← Nat.mul_assoc]; exact Nat.mul_le_mul_right _ (by omega)
  omega

theorem eighth_on {a : Nat} (ha : Fn a) (h : 8 * (fv a).natAbs ≤ oneU + 40 * eU) : OnC (eighC a) (eighS a) := by
  unfold eighC eighS
  split
  · exact half2_on
  · obtain ⟨y1, y2, -⟩ := angle_fn ha h
    obtain ⟨p1, p2, _, _, p5⟩ := pt_circle y1 y2
    exact ⟨p1, p2, p5⟩

theorem OnC.swap {c s : Nat} (h : OnC c s) : OnC s c := ⟨h.2.1, h.1, by rw [Int.add_comm]; exact h.2.2⟩
theorem OnC.of {c s c' s' : Nat} (h : OnC c s) (hc : Fn c') (hs : Fn s') (h1 : fv c' = fv c ∨ fv c' = -fv c) (h2 : fv s' = fv s ∨ fv s' = -fv s) : OnC c' s' := by
  refine ⟨hc, hs, ?_⟩
  have e1 : fv c' * fv c' = fv c * fv c := by rcases h1 with h1 | h1 <;> rw [h1] <;> simp [Int.neg_mul, Int.mul_neg]
  have e2 : fv s' * fv s' = fv s * fv s := by rcases h2 with h2 | h2 <;> rw [h2] <;> simp [Int.neg_mul, Int.mul_neg]
  rw [e1, e2]
  exact h.2.2

/-- The point at any turn lies nearly on the circle. -/
theorem turn_on {w : Nat} (hw : Fn w) (h : 2 * (fv w).natAbs ≤ oneU + 8 * eU) : OnC (turnC w) (turnS w) := by
  obtain ⟨a1, a2⟩ := steep_fn hw h
  have h1 : OnC (tC1 w) (tS1 w) := by
    unfold tC1 tS1
    split
    · exact (eighth_on a1 a2).swap
    · exact eighth_on a1 a2
  have hC : Fn (tC2 w) ∧ (fv (tC2 w) = fv (tC1 w) ∨ fv (tC2 w) = -fv (tC1 w)) := by
    unfold tC2
    split
    · exact ⟨(fneg_fn h1.1).1, .inr (fneg_fn h1.1).2⟩
    · exact ⟨h1.1, .inl rfl⟩
  have hS : Fn (tS3 w) ∧ (fv (tS3 w) = fv (tS1 w) ∨ fv (tS3 w) = -fv (tS1 w)) := by
    unfold tS3
    split
    · exact ⟨(fneg_fn h1.2.1).1, .inr (fneg_fn h1.2.1).2⟩
    · exact ⟨h1.2.1, .inl rfl⟩
  obtain ⟨c1, c2⟩ := fadd_zero hC.1
  obtain ⟨s1, s2⟩ := fadd_zero hS.1
  exact h1.of c1 s1 (by unfold turnC; rw [c2]; exact hC.2) (by unfold turnS; rw [s2]; exact hS.2)

end Go.Vam

/- The cosine falls away from 1; the sine goes with its angle. -/
namespace Go.Vam
open Go

/-- A row of nine: its first two numbers, and the rest little. -/
theorem row_two {Z s1 : Int} {r : List Int} {U : Nat} (hU : 0 < U) (h0 : 0 ≤ Z) (h1 : 8 * Z ≤ 5 * (U : Nat)) (hr : r.length = 7) :
    (evP Z (U : Nat) ((U : Nat) :: s1 :: r) - ((U : Nat) * (U : Nat) + Z * s1) * ((U ^ 7 : Nat) : Int)).natAbs * 8 ≤ 5 * (sumAbs r * Z.natAbs * U ^ 7) := by
  have hZU : Z ≤ (U : Nat) := by omega
  have hle := evP_leN h0 hZU r
  rw [hr] at hle
  have hp7 : ((U ^ 7 : Nat) : Int) = (U : Int) ^ 7 := Int.natCast_pow ..
  have e : evP Z (U : Nat) ((U : Nat) :: s1 :: r) - ((U : Nat) * (U : Nat) + Z * s1) * ((U ^ 7 : Nat) : Int) = Z * (Z * evP Z (U : Nat) r) := by
    rw [hp7]
    show (U : Int) * (U : Int) ^ (s1 :: r).length + Z * (s1 * (U : Int) ^ r.length + Z * evP Z (U : Nat) r) - _ = _
    rw [List.length_cons, hr]
    have h8 : (U : Int) ^ (7 + 1) = (U : Int) ^ 7 * U := Int.pow_succ ..
    rw [h8]
    generalize (U : Int) ^ 7 = M
    generalize (U : Int) = u
    generalize evP Z u r = T
    grind
  rw [e, Int.natAbs_mul, Int.natAbs_mul]
  generalize (evP Z (U : Nat) r).natAbs = T at *
  generalize sumAbs r = σ at *
  generalize U ^ 7 = M at *
  have hz : Z.natAbs * 8 ≤ 5 * U := by omega
  have a1 : Z.natAbs * (Z.natAbs * T) * 8 = Z.natAbs * ((Z.natAbs * 8) * T) := by rw [Nat.mul_assoc]; congr 1; ac_rfl
  rw [a1]
  have a2 : (Z.natAbs * 8) * T ≤ 5 * (T * U) := by
    refine Nat.le_trans (Nat.mul_le_mul_right _ hz) (Nat.le_of_eq ?_)
    rw [Nat.mul_assoc, Nat.mul_comm U T]
  have a3 : 5 * (T * U) ≤ 5 * (σ * M) := Nat.mul_le_mul_left _ hle
  refine Nat.le_trans (Nat.mul_le_mul_left _ (Nat.le_trans a2 a3)) (Nat.le_of_eq ?_)
  ac_rfl

theorem cos_parts : cosB.map fv = ((oneU : Nat) : Int) :: fv 13826050856027422720 :: (cosB.map fv).drop 2 := by decide +kernel
theorem cos_rest : ((cosB.map fv).drop 2).length = 7 ∧ 20 * sumAbs ((cosB.map fv).drop 2) ≤ oneU := by decide +kernel
theorem sin_parts : sinB.map fv = ((oneU : Nat) : Int) :: fv 13818544856648471893 :: (sinB.map fv).drop 2 := by decide +kernel
theorem sin_rest : ((sinB.map fv).drop 2).length = 7 ∧ 100 * sumAbs ((sinB.map fv).drop 2) ≤ oneU := by decide +kernel
theorem sin_one : fv 13818544856648471893 ≤ 0 ∧ -((oneU : Nat) : Int) ≤ 5 * fv 13818544856648471893 := by decide +kernel

/-- From the row's sum to the float. -/
theorem row_from {C Z s1 : Int} {P : Int} {U E σ k : Nat} (hU : 0 < U) (h0 : 0 ≤ Z) (hk : k * σ ≤ U)
    (hC : (C * ((U ^ 8 : Nat) : Int) - P).natAbs ≤ 106 * E * U ^ 8) (hP : (P - ((U : Nat) * (U : Nat) + Z * s1) * ((U ^ 7 : Nat) : Int)).natAbs * 8 ≤ 5 * (σ * Z.natAbs * U ^ 7)) :
    ((C * (U : Nat) - ((U : Nat) * (U : Nat) + Z * s1)).natAbs) * (8 * k) ≤ (5 * Z.natAbs + 848 * E * k) * U := by
  have hM : 0 < U ^ 7 := Nat.pow_pos hU
  have h8 : U ^ 8 = U * U ^ 7 := by rw [Nat.pow_succ, Nat.mul_comm]
  rw [h8] at hC
  generalize U ^ 7 = M at *
  have e : (C * (U : Nat) - ((U : Nat) * (U : Nat) + Z * s1)) * (M : Nat) = (C * ((U * M : Nat) : Int) - P) + (P - ((U : Nat) * (U : Nat) + Z * s1) * (M : Nat)) := by
    rw [Int.natCast_mul]
    generalize ((U : Nat) : Int) = u
    generalize ((M : Nat) : Int) = m
    grind
  have h1 : ((C * (U : Nat) - ((U : Nat) * (U : Nat) + Z * s1)) * (M : Nat)).natAbs * 8 ≤ 848 * E * U * M + 5 * (σ * Z.natAbs * M) := by
    rw [e]
    have h2 := Int.natAbs_add_le (C * ((U * M : Nat) : Int) - P) (P - ((U : Nat) * (U : Nat) + Z * s1) * (M : Nat))
    have h3 : 848 * E * U * M = 106 * E * (U * M) * 8 := by rw [show (848 : Nat) = 106 * 8 from rfl]; ac_rfl
    rw [h3]
    omega
  rw [Int.natAbs_mul, Int.natAbs_natCast] at h1
  generalize (C * (U : Nat) - ((U : Nat) * (U : Nat) + Z * s1)).natAbs = D at *
  refine Nat.le_of_mul_le_mul_right ?_ hM
  have h4 := Nat.mul_le_mul_right k h1
  have h5 : D * (8 * k) * M = D * M * 8 * k := by ac_rfl
  rw [h5]
  refine Nat.le_trans h4 ?_
  have h6 : (848 * E * U * M + 5 * (σ * Z.natAbs * M)) * k = 848 * E * k * U * M + 5 * Z.natAbs * (k * σ) * M := by
    rw [Nat.add_mul]
    congr 1 <;> ac_rfl
  have h7 : (5 * Z.natAbs + 848 * E * k) * U * M = 848 * E * k * U * M + 5 * Z.natAbs * U * M := by
    rw [Nat.add_mul, Nat.add_mul, Nat.add_comm]
  rw [h6, h7]
  exact Nat.add_le_add_left (Nat.mul_le_mul_right _ (Nat.mul_le_mul_left _ hk)) _

end Go.Vam

/- A unit that is not 1 lies to the left of 1. -/
namespace Go.Vam
open Go

theorem cos_bd {z : Nat} (hz : Fn z) (h0 : 0 ≤ fv z) (h1 : 8 * fv z ≤ 5 * (oneU : Nat)) : 32 * fv (rowF cosB z) ≤ 32 * (oneU : Nat) - 15 * fv z + 3392 * (eU : Nat) ∧ 32 * (oneU : Nat) - 17 * fv z - 3392 * (eU : Nat) ≤ 32 * fv (rowF cosB z) := by
  have hU0 := oneU_pos
  have hle : fv z ≤ (oneU : Nat) := by generalize oneU = U at *; omega
  obtain ⟨-, c2⟩ := row_near (by rfl) cos_fv cos_fn cos_sum hz h0 hle
  have hp8 : ((oneU ^ 8 : Nat) : Int) = ((oneU : Nat) : Int) ^ 8 := Int.natCast_pow ..
  rw [← hp8, ← evP_map, ← cos_fv, cos_parts] at c2
  have h2 := row_two (s1 := fv 13826050856027422720) hU0 h0 h1 cos_rest.1
  have h3 := row_from hU0 h0 cos_rest.2 c2 h2
  have hn := nhalf_fn.2
  generalize fv (rowF cosB z) = C at *
  generalize fv 13826050856027422720 = s1 at *
  generalize fv z = Z at *
  clear c2 h2 hp8 hz
  generalize eU = E at *
  generalize oneU = U at *
  have e1 : 2 * (C * (U : Nat) - ((U : Nat) * (U : Nat) + Z * s1)) = (2 * C - 2 * (U : Nat) + Z) * (U : Nat) := by
    have : Z * (2 * s1) = -(Z * (U : Nat)) := by rw [hn, Int.mul_neg]
    generalize ((U : Nat) : Int) = u at *
    grind
  have h4 : ((2 * C - 2 * (U : Nat) + Z) * (U : Nat)).natAbs * (8 * 20) ≤ 2 * (5 * Z.natAbs + 848 * E * 20) * U := by
    rw [← e1, Int.natAbs_mul]
    have : (2 : Int).natAbs = 2 := rfl
    rw [this, Nat.mul_assoc 2, Nat.mul_assoc 2]
    exact Nat.mul_le_mul_left _ h3
  rw [Int.natAbs_mul, Int.natAbs_natCast, Nat.mul_right_comm] at h4
  have h5 := Nat.le_of_mul_le_mul_right h4 hU0
  omega

theorem sin_bd {z : Nat} (hz : Fn z) (h0 : 0 ≤ fv z) (h1 : 8 * fv z ≤ 5 * (oneU : Nat)) : 160 * fv (rowF sinB z) ≤ 160 * (oneU : Nat) + fv z + 16960 * (eU : Nat) ∧ 160 * (oneU : Nat) - 33 * fv z - 16960 * (eU : Nat) ≤ 160 * fv (rowF sinB z) := by
  have hU0 := oneU_pos
  have hle : fv z ≤ (oneU : Nat) := by generalize oneU = U at *; omega
  obtain ⟨-, c2⟩ := row_near (by rfl) sin_fv sin_fn sin_sum hz h0 hle
  have hp8 : ((oneU ^ 8 : Nat) : Int) = ((oneU : Nat) : Int) ^ 8 := Int.natCast_pow ..
  rw [← hp8, ← evP_map, ← sin_fv, sin_parts] at c2
  have h2 := row_two (s1 := fv 13818544856648471893) hU0 h0 h1 sin_rest.1
  have h3 := row_from hU0 h0 sin_rest.2 c2 h2
  obtain ⟨n1, n2⟩ := sin_one
  generalize fv (rowF sinB z) = C at *
  generalize fv 13818544856648471893 = s1 at *
  generalize fv z = Z at *
  clear c2 h2 hp8 hz
  generalize eU = E at *
  generalize oneU = U at *
  have hUi : (0 : Int) < (U : Nat) := Int.natCast_pos.2 hU0
  have m1 : Z * s1 ≤ 0 := by
    have := Int.mul_le_mul_of_nonneg_left n1 h0
    simpa using this
  have m2 : -(Z * (U : Nat)) ≤ 5 * (Z * s1) := by
    have := Int.mul_le_mul_of_nonneg_left n2 h0
    have e : Z * (5 * s1) = 5 * (Z * s1) := by grind
    rw [e, Int.mul_neg] at this
    exact this
  have h4 : ((C * (U : Nat) - ((U : Nat) * (U : Nat) + Z * s1)).natAbs : Int) * 800 ≤ (5 * Z + 84800 * (E : Nat)) * (U : Nat) := by
    have h5 : ((C * (U : Nat) - ((U : Nat) * (U : Nat) + Z * s1)).natAbs * (8 * 100) : Int) ≤ (((5 * Z.natAbs + 848 * E * 100) * U : Nat) : Int) := by exact_mod_cast h3
    have e : (((5 * Z.natAbs + 848 * E * 100) * U : Nat) : Int) = (5 * Z + 84800 * (E : Nat)) * (U : Nat) := by
      rw [Int.natCast_mul]
      congr 1
      omega
    rw [e] at h5
    exact h5
  have u1 : (160 * C) * (U : Nat) ≤ (160 * (U : Nat) + Z + 16960 * (E : Nat)) * (U : Nat) := by
    have e1 : (160 * C) * (U : Nat) = 160 * (C * (U : Nat)) := by grind
    have e2 : (160 * (U : Nat) + Z + 16960 * (E : Nat)) * (U : Nat) = 160 * ((U : Nat) * (U : Nat)) + (Z + 16960 * (E : Nat)) * ((U : Nat) : Int) := by grind
    have e3 : (5 * Z + 84800 * (E : Nat)) * ((U : Nat) : Int) = 5 * ((Z + 16960 * (E : Nat)) * ((U : Nat) : Int)) := by grind
    rw [e1, e2]
    rw [e3] at h4
    generalize (Z + 16960 * (E : Nat)) * ((U : Nat) : Int) = K at *
    generalize C * ((U : Nat) : Int) = c at *
    generalize ((U : Nat) : Int) * (U : Nat) = uu at *
    generalize Z * s1 = zs at *
    omega
  have u2 : (160 * (U : Nat) - 33 * Z - 16960 * (E : Nat)) * (U : Nat) ≤ (160 * C) * ((U : Nat) : Int) := by
    have e1 : (160 * C) * (U : Nat) = 160 * (C * (U : Nat)) := by grind
    have e2 : (160 * (U : Nat) - 33 * Z - 16960 * (E : Nat)) * ((U : Nat) : Int) = 160 * ((U : Nat) * (U : Nat)) - 32 * (Z * (U : Nat)) - (Z + 16960 * (E : Nat)) * ((U : Nat) : Int) := by grind
    have e3 : (5 * Z + 84800 * (E : Nat)) * ((U : Nat) : Int) = 5 * ((Z + 16960 * (E : Nat)) * ((U : Nat) : Int)) := by grind
    rw [e1, e2]
    rw [e3] at h4
    generalize (Z + 16960 * (E : Nat)) * ((U : Nat) : Int) = K at *
    generalize C * ((U : Nat) : Int) = c at *
    generalize ((U : Nat) : Int) * (U : Nat) = uu at *
    generalize Z * ((U : Nat) : Int) = zu at *
    generalize Z * s1 = zs at *
    omega
  exact ⟨Int.le_of_mul_le_mul_right u1 hUi, Int.le_of_mul_le_mul_right u2 hUi⟩

end Go.Vam

/- A unit that is not 1 lies to the left of 1, told. -/
namespace Go.Vam
open Go

theorem circ_bd : 628 * (oneU : Nat) ≤ 100 * fv 4618760256179416344 ∧ 10000 * fv 4618760256179416344 ≤ 62832 * (oneU : Nat) := by decide +kernel

/-- An eighth's angle: bounds. -/
theorem angle_bd {a : Nat} (ha : Fn a) (h : 8 * (fv a).natAbs ≤ oneU + 40 * eU) :
    100 * (fv (fmul .f64 a 4618760256179416344)).natAbs ≤ 79 * oneU ∧ (-(8 * (eU : Nat)) ≤ fv a → -(80 * (eU : Nat)) ≤ fv (fmul .f64 a 4618760256179416344)) ∧
    (((oneU : Nat) : Int) ≤ 257 * fv a → ((oneU : Nat) : Int) ≤ 41 * fv (fmul .f64 a 4618760256179416344)) := by
  obtain ⟨y1, y2, y3⟩ := angle_fn ha h
  obtain ⟨b1, b2⟩ := circ_bd
  have hE := one_eU
  have hE4 := eU_big
  have hU0 := oneU_pos
  generalize fv (fmul .f64 a 4618760256179416344) = Y at *
  generalize fv 4618760256179416344 = c at *
  generalize fv a = A at *
  generalize eU = E at *
  generalize oneU = U at *
  have hUi : (0 : Int) < (U : Nat) := Int.natCast_pos.2 hU0
  have hEU : ((E * U : Nat) : Int) = (E : Nat) * ((U : Nat) : Int) := Int.natCast_mul ..
  have k1 : (A * c).natAbs * 10000 ≤ A.natAbs * (62832 * U) := by
    rw [Int.natAbs_mul, Nat.mul_assoc]
    exact Nat.mul_le_mul_left _ (by omega)
  refine ⟨?_, fun hA => ?_, fun hA => ?_⟩
  · have g : (Y * (U : Nat)).natAbs * 100 ≤ 79 * U * U := by
      have e : Y * (U : Nat) = (Y * (U : Nat) - A * c) + A * c := by omega
      have g1 : (Y * (U : Nat)).natAbs ≤ 21 * (E * U) + (A * c).natAbs := by
        rw [e]; exact Nat.le_trans (Int.natAbs_add_le _ _) (Nat.add_le_add_right y3 _)
      have g2 : A.natAbs * (62832 * U) * 8 ≤ (U + 40 * E) * (62832 * U) := by
        rw [Nat.mul_right_comm]; exact Nat.mul_le_mul_right _ (by omega)
      have g3 : (U + 40 * E) * (62832 * U) = 62832 * (U * U) + 2513280 * (E * U) := by
        rw [Nat.add_mul]
        congr 1
        · ac_rfl
        · rw [show (2513280 : Nat) = 40 * 62832 from rfl]; ac_rfl
      have g4 : 100000000 * (E * U) ≤ U * U := by rw [← Nat.mul_assoc]; exact Nat.mul_le_mul_right _ (by omega)
      rw [g3] at g2
      rw [Nat.mul_assoc 79]
      omega
    rw [Int.natAbs_mul, Int.natAbs_natCast, Nat.mul_right_comm] at g
    have := Nat.le_of_mul_le_mul_right g hU0
    omega
  · have g : -(80 * (E : Nat)) * ((U : Nat) : Int) ≤ Y * (U : Nat) := by
      have g1 : -(8 * (E : Nat)) * (7 * ((U : Nat) : Int)) ≤ A * c := by
        by_cases h0 : 0 ≤ A
        · have : 0 ≤ A * c := Int.mul_nonneg h0 (by omega)
          have h2 : -(8 * (E : Nat)) * (7 * ((U : Nat) : Int)) ≤ 0 := Int.mul_nonpos_of_nonpos_of_nonneg (by omega) (by omega)
          omega
        · have h1 : A * (7 * ((U : Nat) : Int)) ≤ A * c := Int.mul_le_mul_of_nonpos_left (by omega) (by omega)
          have h2 : -(8 * (E : Nat)) * (7 * ((U : Nat) : Int)) ≤ A * (7 * ((U : Nat) : Int)) := Int.mul_le_mul_of_nonneg_right hA (by omega)
          omega
      have e1 : -(8 * (E : Nat)) * (7 * ((U : Nat) : Int)) = -(56 * ((E : Nat) * ((U : Nat) : Int))) := by grind
      have e2 : -(80 * (E : Nat)) * ((U : Nat) : Int) = -(80 * ((E : Nat) * ((U : Nat) : Int))) := by grind
      rw [e1] at g1
      rw [e2]
      rw [← hEU] at g1 ⊢
      generalize E * U = EU at *
      generalize A * c = N at *
      generalize Y * ((U : Nat) : Int) = YU at *
      omega
    exact Int.le_of_mul_le_mul_right g hUi
  · have g : ((U : Nat) : Int) * ((U : Nat) : Int) ≤ (41 * Y) * ((U : Nat) : Int) := by
      have h1 : ((U : Nat) : Int) * (628 * ((U : Nat) : Int)) ≤ (257 * A) * (100 * c) := Int.mul_le_mul hA b1 (by omega) (by omega)
      have e1 : ((U : Nat) : Int) * (628 * ((U : Nat) : Int)) = 628 * (((U : Nat) : Int) * ((U : Nat) : Int)) := by grind
      have e2 : (257 * A) * (100 * c) = 25700 * (A * c) := by grind
      have e3 : (41 * Y) * ((U : Nat) : Int) = 41 * (Y * ((U : Nat) : Int)) := by grind
      have g4 : ((100000000 * (E * U) : Nat) : Int) ≤ ((U * U : Nat) : Int) := by
        have : 100000000 * (E * U) ≤ U * U := by rw [← Nat.mul_assoc]; exact Nat.mul_le_mul_right _ (by omega)
        exact Int.ofNat_le.2 this
      have e5 : ((U * U : Nat) : Int) = ((U : Nat) : Int) * ((U : Nat) : Int) := Int.natCast_mul ..
      rw [e1, e2] at h1
      rw [e3]
      rw [e5] at g4
      generalize ((U : Nat) : Int) * ((U : Nat) : Int) = uu at *
      generalize A * c = N at *
      generalize Y * ((U : Nat) : Int) = YU at *
      generalize E * U = EU at *
      omega
    exact Int.le_of_mul_le_mul_right g hUi

/-- A square's bounds. -/
theorem sq_bd {y : Nat} (hy : Fn y) (h : 100 * (fv y).natAbs ≤ 79 * oneU) : Fn (fmul .f64 y y) ∧ 0 ≤ fv (fmul .f64 y y) ∧ 8 * fv (fmul .f64 y y) ≤ 5 * (oneU : Nat) ∧ (((oneU : Nat) : Int) ≤ 41 * fv y → ((oneU : Nat) : Int) ≤ 1690 * fv (fmul .f64 y y)) := by
  obtain ⟨z1, z2, z3, z4⟩ := sq_range hy (by generalize oneU = U at *; omega)
  have hE := one_eU
  have hE4 := eU_big
  have hU0 := oneU_pos
  refine ⟨z1, z2, ?_⟩
  generalize fv (fmul .f64 y y) = Z at *
  generalize fv y = Y at *
  generalize eU = E at *
  generalize oneU = U at *
  have hUi : (0 : Int) < (U : Nat) := Int.natCast_pos.2 hU0
  have g4 : 100000000 * (E * U) ≤ U * U := by rw [← Nat.mul_assoc]; exact Nat.mul_le_mul_right _ (by omega)
  have e5 : ((U * U : Nat) : Int) = ((U : Nat) : Int) * ((U : Nat) : Int) := Int.natCast_mul ..
  have hYY : Y * Y = ((Y.natAbs * Y.natAbs : Nat) : Int) := Int.natAbs_mul_self.symm ▸ rfl
  constructor
  · have k : (Y.natAbs * Y.natAbs) * 10000 ≤ 6241 * (U * U) := by
      have := Nat.mul_le_mul h h
      have e1 : 100 * Y.natAbs * (100 * Y.natAbs) = (Y.natAbs * Y.natAbs) * 10000 := by rw [show (10000 : Nat) = 100 * 100 from rfl]; ac_rfl
      have e2 : 79 * U * (79 * U) = 6241 * (U * U) := by rw [show (6241 : Nat) = 79 * 79 from rfl]; ac_rfl
      omega
    have g : (8 * Z) * ((U : Nat) : Int) ≤ (5 * ((U : Nat) : Int)) * ((U : Nat) : Int) := by
      have e3 : (8 * Z) * ((U : Nat) : Int) = 8 * (Z * ((U : Nat) : Int)) := by grind
      have e6 : (5 * ((U : Nat) : Int)) * ((U : Nat) : Int) = 5 * ((U * U : Nat) : Int) := by rw [e5]; grind
      rw [e3, e6]
      rw [hYY] at z4
      generalize Y.natAbs * Y.natAbs = yy at *
      generalize Z * ((U : Nat) : Int) = zu at *
      generalize E * U = EU at *
      generalize U * U = uu at *
      omega
    exact Int.le_of_mul_le_mul_right g hUi
  · intro hY
    have k : U * U ≤ 1681 * (Y.natAbs * Y.natAbs) := by
      have h1 : U ≤ 41 * Y.natAbs := by omega
      have := Nat.mul_le_mul h1 h1
      have e1 : 41 * Y.natAbs * (41 * Y.natAbs) = 1681 * (Y.natAbs * Y.natAbs) := by rw [show (1681 : Nat) = 41 * 41 from rfl]; ac_rfl
      omega
    have g : ((U : Nat) : Int) * ((U : Nat) : Int) ≤ (1690 * Z) * ((U : Nat) : Int) := by
      have e3 : (1690 * Z) * ((U : Nat) : Int) = 1690 * (Z * ((U : Nat) : Int)) := by grind
      rw [e3, ← e5]
      rw [hYY] at z4
      generalize Y.natAbs * Y.natAbs = yy at *
      generalize Z * ((U : Nat) : Int) = zu at *
      generalize E * U = EU at *
      generalize U * U = uu at *
      omega
    exact Int.le_of_mul_le_mul_right g hUi

end Go.Vam

/- A unit that is not 1: its real part. -/
namespace Go.Vam
open Go

theorem mul_near {q y : Nat} (hq : Fn q) (hy : Fn y) (h1 : (fv q).natAbs ≤ 3 * oneU) (h2 : (fv y).natAbs ≤ oneU) : Fn (fmul .f64 q y) ∧ (fv (fmul .f64 q y) * (oneU : Nat) - fv q * fv y).natAbs ≤ 13 * (eU * oneU) := by
  have hf := floor_near (x := fv q * fv y) (U := ((oneU : Nat) : Int)) (Int.natCast_pos.2 oneU_pos)
  rw [Int.natAbs_natCast] at hf
  obtain ⟨s1, s2, s3⟩ := (Ap.self hq).mul (Ap.self hy) (p := fv q * fv y / (oneU : Nat)) (a := 3) (b := 1) h1 (by rw [Nat.one_mul]; exact h2) hf (by omega) (by omega) (by omega)
  refine ⟨s1, ?_⟩
  have hE := eU_big
  generalize fv (fmul .f64 q y) = S at *
  generalize fv q * fv y = N at *
  generalize N / ((oneU : Nat) : Int) = F at *
  generalize eU = E at *
  generalize oneU = U at *
  have e : S * (U : Nat) - N = (S - F) * (U : Nat) + -(N - F * (U : Nat)) := by rw [Int.sub_mul]; omega
  rw [e]
  refine Nat.le_trans (Int.natAbs_add_le _ _) ?_
  rw [Int.natAbs_neg, Int.natAbs_mul, Int.natAbs_natCast]
  have h6 : (S - F).natAbs ≤ 12 * E := by omega
  have h7 := Nat.mul_le_mul_right U h6
  have h8 : 12 * E * U = 12 * (E * U) := Nat.mul_assoc ..
  have h9 : U ≤ E * U := Nat.le_mul_of_pos_left U (by omega)
  omega

theorem half2_bd : 100 * fv half2 ≤ 71 * (oneU : Nat) ∧ 0 ≤ fv half2 := by decide +kernel

theorem eigh_bd {a : Nat} (ha : Fn a) (h : 8 * (fv a).natAbs ≤ oneU + 40 * eU) :
    0 ≤ fv (eighC a) ∧ (((oneU : Nat) : Int) ≤ 257 * fv a → 4096 * fv (eighC a) ≤ 4095 * (oneU : Nat)) ∧ (-(8 * (eU : Nat)) ≤ fv a → -(200 * (eU : Nat)) ≤ fv (eighS a)) ∧ 100 * fv (eighS a) ≤ 90 * (oneU : Nat) := by
  have hE := one_eU
  have hE4 := eU_big
  have hU0 := oneU_pos
  unfold eighC eighS
  split
  · obtain ⟨g1, g2⟩ := half2_bd
    generalize fv half2 = H at *
    generalize eU = E at *
    generalize oneU = U at *
    generalize fv a = A at *
    refine ⟨g2, fun _ => by omega, fun _ => by omega, by omega⟩
  · obtain ⟨y1, y2, -⟩ := angle_fn ha h
    obtain ⟨b1, b2, b3⟩ := angle_bd ha h
    generalize fmul .f64 a 4618760256179416344 = y at *
    obtain ⟨z1, z2, z3, z4⟩ := sq_bd y1 b1
    obtain ⟨c1, c2⟩ := cos_bd z1 z2 z3
    obtain ⟨d1, d2⟩ := sin_bd z1 z2 z3
    obtain ⟨q1, -⟩ := row_near (by rfl) sin_fv sin_fn sin_sum z1 z2 (by generalize oneU = U at *; omega)
    have hq : (fv (rowF sinB (fmul .f64 y y))).natAbs ≤ 3 * oneU := by
      generalize fv (rowF sinB (fmul .f64 y y)) = Q at *
      generalize eU = E at *
      generalize oneU = U at *
      omega
    obtain ⟨m1, m2⟩ := mul_near q1 y1 hq y2
    unfold ptC ptS
    generalize fv (fmul .f64 (rowF sinB (fmul .f64 y y)) y) = S at *
    generalize fv (rowF cosB (fmul .f64 y y)) = C at *
    generalize fv (rowF sinB (fmul .f64 y y)) = Q at *
    generalize fv (fmul .f64 y y) = Z at *
    generalize fv y = Y at *
    generalize fv a = A at *
    generalize eU = E at *
    generalize oneU = U at *
    have hUi : (0 : Int) < (U : Nat) := Int.natCast_pos.2 hU0
    have hQ0 : 0 ≤ Q := by omega
    refine ⟨by omega, fun hA => ?_, fun hA => ?_, ?_⟩
    · have h5 := z4 (b3 hA)
      omega
    · have h6 := b2 hA
      have g : -(200 * (E : Nat)) * ((U : Nat) : Int) ≤ S * (U : Nat) := by
        have g1 : (2 * ((U : Nat) : Int)) * -(80 * (E : Nat)) ≤ Q * Y := by
          by_cases h0 : 0 ≤ Y
          · have : 0 ≤ Q * Y := Int.mul_nonneg hQ0 h0
            have h2 : (2 * ((U : Nat) : Int)) * -(80 * (E : Nat)) ≤ 0 := Int.mul_nonpos_of_nonneg_of_nonpos (by omega) (by omega)
            omega
          · have h1 : (2 * ((U : Nat) : Int)) * Y ≤ Q * Y := Int.mul_le_mul_of_nonpos_right (by omega) (by omega)
            have h2 : (2 * ((U : Nat) : Int)) * -(80 * (E : Nat)) ≤ (2 * ((U : Nat) : Int)) * Y := Int.mul_le_mul_of_nonneg_left h6 (by omega)
            omega
        have e1 : (2 * ((U : Nat) : Int)) * -(80 * (E : Nat)) = -(160 * ((E * U : Nat) : Int)) := by rw [Int.natCast_mul]; grind
        have e2 : -(200 * (E : Nat)) * ((U : Nat) : Int) = -(200 * ((E * U : Nat) : Int)) := by rw [Int.natCast_mul]; grind
        rw [e1] at g1
        rw [e2]
        generalize E * U = EU at *
        generalize Q * Y = N at *
        generalize S * ((U : Nat) : Int) = su at *
        omega
      exact Int.le_of_mul_le_mul_right g hUi
    · have g : (100 * S) * ((U : Nat) : Int) ≤ (90 * ((U : Nat) : Int)) * ((U : Nat) : Int) := by
        have g1 : (100 * Y) * (100 * Q) ≤ (79 * ((U : Nat) : Int)) * (101 * ((U : Nat) : Int)) := by
          by_cases h0 : 0 ≤ Y
          · exact Int.mul_le_mul (by omega) (by omega) (by omega) (by omega)
          · have h1 : (100 * Y) * (100 * Q) ≤ 0 := Int.mul_nonpos_of_nonpos_of_nonneg (by omega) (by omega)
            have h2 : 0 ≤ (79 * ((U : Nat) : Int)) * (101 * ((U : Nat) : Int)) := Int.mul_nonneg (by omega) (by omega)
            omega
        have e1 : (100 * Y) * (100 * Q) = 10000 * (Q * Y) := by grind
        have e2 : (79 * ((U : Nat) : Int)) * (101 * ((U : Nat) : Int)) = 7979 * ((U * U : Nat) : Int) := by rw [Int.natCast_mul]; grind
        have e3 : (100 * S) * ((U : Nat) : Int) = 100 * (S * ((U : Nat) : Int)) := by grind
        have e4 : (90 * ((U : Nat) : Int)) * ((U : Nat) : Int) = 90 * ((U * U : Nat) : Int) := by rw [Int.natCast_mul]; grind
        have g4 : 100000000 * (E * U) ≤ U * U := by rw [← Nat.mul_assoc]; exact Nat.mul_le_mul_right _ (by omega)
        rw [e1, e2] at g1
        rw [e3, e4]
        generalize E * U = EU at *
        generalize U * U = uu at *
        generalize Q * Y = N at *
        generalize S * ((U : Nat) : Int) = su at *
        omega
      exact Int.le_of_mul_le_mul_right g hUi

theorem left_fn {w : Nat} (hw : Fn w) (h : 2 * (fv w).natAbs ≤ oneU + 8 * eU) : Fn (leftF w) ∧ -(5 * (eU : Nat)) ≤ fv (leftF w) ∧ 4 * fv (leftF w) ≤ (oneU : Nat) + 4 * (eU : Nat) := by
  obtain ⟨a1, a2⟩ := fabs_fn hw
  have hE := one_eU
  have hmany := many_oneU
  have hh := half_fn.2
  have hq := quart_fn.2
  unfold leftF leftB
  split
  · rename_i hc
    rw [fgt_fn a1 quart_fn.1] at hc
    obtain ⟨g1, g2⟩ := fsub_err half_fn.1 a1 (by rw [a2]; generalize fv 4602678819172646912 = H at *; generalize fv 4598175219545276416 = Q at *; generalize oneU = U at *; generalize eU = E at *; omega)
    refine ⟨g1, ?_⟩
    rw [a2] at g2 hc
    generalize fv (fsub .f64 4602678819172646912 (fabs w)) = S at *
    generalize fv 4602678819172646912 = H at *
    generalize fv 4598175219545276416 = Q at *
    generalize oneU = U at *
    generalize eU = E at *
    omega
  · rename_i hc
    rw [fgt_fn a1 quart_fn.1] at hc
    refine ⟨a1, ?_⟩
    rw [a2] at hc ⊢
    generalize fv 4598175219545276416 = Q at *
    generalize oneU = U at *
    generalize eU = E at *
    omega

theorem steep_lo {w : Nat} (hw : Fn w) (h : 2 * (fv w).natAbs ≤ oneU + 8 * eU) : -(8 * (eU : Nat)) ≤ fv (steepF w) := by
  obtain ⟨l1, l2, l3⟩ := left_fn hw h
  have hE := one_eU
  have hmany := many_oneU
  have hq := quart_fn.2
  have h8 := eight_fn.2
  unfold steepF steepB
  split
  · rename_i hc
    rw [fgt_fn l1 eight_fn.1] at hc
    obtain ⟨g1, g2⟩ := fsub_err quart_fn.1 l1 (by generalize fv 4598175219545276416 = Q at *; generalize fv 4593671619917905920 = Q8 at *; generalize oneU = U at *; generalize eU = E at *; omega)
    generalize fv (fsub .f64 4598175219545276416 (leftF w)) = S at *
    generalize fv 4598175219545276416 = Q at *
    generalize fv 4593671619917905920 = Q8 at *
    generalize oneU = U at *
    generalize eU = E at *
    omega
  · omega

/-- A unit that is not 1. -/
theorem unit_left {w : Nat} (hw : Fn w) (h : 2 * (fv w).natAbs ≤ oneU + 8 * eU) (hl : oneU ≤ 257 * (fv w).natAbs) : 4096 * fv (turnC w) ≤ 4095 * (oneU : Nat) := by
  obtain ⟨a1, a2⟩ := steep_fn hw h
  have a3 := steep_lo hw h
  obtain ⟨e1, e2, e3, e4⟩ := eigh_bd a1 a2
  have h3 := e3 a3
  have hon : OnC (tC1 w) (tS1 w) := by
    unfold tC1 tS1
    split
    · exact (eighth_on a1 a2).swap
    · exact eighth_on a1 a2
  have hC : Fn (tC2 w) := by
    unfold tC2
    split
    · exact (fneg_fn hon.1).1
    · exact hon.1
  have ht : fv (turnC w) = fv (tC2 w) := (fadd_zero hC).2
  have hE := one_eU
  have hE4 := eU_big
  rw [ht]
  unfold tC2
  split
  · rw [(fneg_fn hon.1).2]
    unfold tC1
    split
    · generalize fv (eighS (steepF w)) = S at *
      generalize eU = E at *
      generalize oneU = U at *
      omega
    · generalize fv (eighC (steepF w)) = C at *
      generalize oneU = U at *
      omega
  · rename_i hL
    unfold tC1
    split
    · generalize fv (eighS (steepF w)) = S at *
      generalize oneU = U at *
      omega
    · rename_i hS
      refine e2 ?_
      have hv : steepF w = fabs w := by
        unfold steepF leftF
        rw [if_neg hS, if_neg hL]
      rw [hv, (fabs_fn hw).2]
      generalize oneU = U at *
      omega

end Go.Vam

/- Units: k of n. -/
namespace Go.Vam
open Go

def qF (k n : Int) : Nat := fdiv .f64 (FloatKind.f64.nearest k) (FloatKind.f64.nearest n)

theorem qF_fn {k n : Int} (hn : 1 ≤ n ∧ n ≤ 256) (hk : 2 * k.natAbs ≤ n.natAbs) : Fn (qF k n) ∧ 2 * (fv (qF k n)).natAbs ≤ oneU + 4 * eU ∧ (k ≠ 0 → oneU ≤ 256 * (fv (qF k n)).natAbs + 600 * eU) := by
  obtain ⟨k1, k2⟩ := near_fn (d := k) (by omega)
  obtain ⟨n1, n2⟩ := near_fn (d := n) (by omega)
  have hU0 := oneU_pos
  have hE := one_eU
  have hE4 := eU_big
  have hmany := many_oneU
  have hp : 0 < fv (FloatKind.f64.nearest n) := by rw [n2]; exact Int.mul_pos (by omega) (Int.natCast_pos.2 hU0)
  have ka : (fv (FloatKind.f64.nearest k)).natAbs = k.natAbs * oneU := by rw [k2, Int.natAbs_mul, Int.natAbs_natCast]
  have na : (fv (FloatKind.f64.nearest n)).natAbs = n.natAbs * oneU := by rw [n2, Int.natAbs_mul, Int.natAbs_natCast]
  obtain ⟨g1, g2⟩ := fdiv_err k1 n1 hp (by
    rw [ka, na]
    have h1 : k.natAbs * oneU ≤ sv (infR - 1) := Nat.le_trans (Nat.mul_le_mul_right _ (by omega)) hmany
    have h2 : oneU ≤ n.natAbs * oneU := Nat.le_mul_of_pos_left _ (by omega)
    exact Nat.mul_le_mul h1 h2)
  refine ⟨g1, ?_⟩
  rw [ka, na, n2, k2] at g2
  unfold qF
  generalize fv (fdiv .f64 (FloatKind.f64.nearest k) (FloatKind.f64.nearest n)) = Q at *
  clear g1 k1 n1 hp hmany k2 n2 ka na
  generalize eU = E at *
  generalize oneU = U at *
  have e1 : Q * (n * (U : Nat)) - k * (U : Nat) * (U : Nat) = (Q * n - k * (U : Nat)) * (U : Nat) := by
    generalize ((U : Nat) : Int) = u
    grind
  rw [e1, Int.natAbs_mul, Int.natAbs_natCast] at g2
  have e2 : k.natAbs * U * U + n.natAbs * U * 4503599627370496 = (k.natAbs * U + n.natAbs * 4503599627370496) * U := by
    rw [Nat.add_mul]
    congr 1
    ac_rfl
  rw [e2, Nat.mul_right_comm] at g2
  have g3 := Nat.le_of_mul_le_mul_right g2 hU0
  have hQn : (Q * n).natAbs = Q.natAbs * n.natAbs := Int.natAbs_mul ..
  have hkU : (k * (U : Nat)).natAbs = k.natAbs * U := by rw [Int.natAbs_mul, Int.natAbs_natCast]
  have g4 : (Q * n - k * (U : Nat)).natAbs ≤ k.natAbs * E + n.natAbs := by
    have e3 : k.natAbs * U + n.natAbs * 4503599627370496 = (k.natAbs * E + n.natAbs) * 4503599627370496 := by
      rw [hE, Nat.add_mul]
      congr 1
      rw [Nat.mul_assoc, Nat.mul_comm E]
    rw [e3] at g3
    exact Nat.le_of_mul_le_mul_right g3 (by omega)
  have t1 : Q.natAbs * n.natAbs ≤ k.natAbs * U + (k.natAbs * E + n.natAbs) := by
    rw [← hQn, ← hkU]
    omega
  have t2 : k.natAbs * U ≤ Q.natAbs * n.natAbs + (k.natAbs * E + n.natAbs) := by
    rw [← hQn, ← hkU]
    omega
  have hn1 : 1 ≤ n.natAbs := by omega
  have hn2 : n.natAbs ≤ 256 := by omega
  have hkn : k ≠ 0 → 1 ≤ k.natAbs := by omega
  generalize n.natAbs = N at *
  generalize k.natAbs = K at *
  constructor
  · have a1 : 2 * K * U ≤ N * U := Nat.mul_le_mul_right _ hk
    have a2 : 2 * K * E ≤ N * E := Nat.mul_le_mul_right _ hk
    have a3 : (2 * Q.natAbs) * N ≤ (U + 4 * E) * N := by
      have b1 : (2 * Q.natAbs) * N = 2 * (Q.natAbs * N) := Nat.mul_assoc ..
      have b2 : (U + 4 * E) * N = N * U + 4 * (N * E) := by rw [Nat.add_mul]; congr 1 <;> ac_rfl
      have b3 : 2 * K * U = 2 * (K * U) := Nat.mul_assoc ..
      have b4 : 2 * K * E = 2 * (K * E) := Nat.mul_assoc ..
      have b5 : N * 4 ≤ N * E := Nat.mul_le_mul_left _ hE4
      rw [b1, b2]
      omega
    exact Nat.le_of_mul_le_mul_right a3 hn1
  · intro h0
    have hK1 := hkn h0
    have a1 : 1 * U ≤ K * U := Nat.mul_le_mul_right _ hK1
    have a2 : Q.natAbs * N ≤ Q.natAbs * 256 := Nat.mul_le_mul_left _ hn2
    have a3 : 2 * K * E ≤ N * E := Nat.mul_le_mul_right _ hk
    have a4 : N * E ≤ 256 * E := Nat.mul_le_mul_right _ hn2
    have b4 : 2 * K * E = 2 * (K * E) := Nat.mul_assoc ..
    omega

/-- A little turn, wrapped: no less. -/
theorem wrap_low {q : Nat} (hq : Fn q) (h1 : 2 * (fv q).natAbs ≤ oneU + 4 * eU) (h2 : oneU ≤ 256 * (fv q).natAbs + 600 * eU) : oneU ≤ 257 * (fv (wrapF q)).natAbs := by
  have hE := one_eU
  have hmany := many_oneU
  have hE4 := eU_big
  obtain ⟨t1, t2, t3, t4⟩ := trunc_fn hq
  have t5 := t4 (by generalize oneU = U at *; generalize eU = E at *; omega)
  obtain ⟨g1, g2⟩ := fsub_err hq t2 (by generalize oneU = U at *; omega)
  obtain ⟨c1, c2⟩ := copy_fn g1 hq.1
  rw [t5] at g2
  have r1 : Fn (fracF q) := c1
  have r2 : (fv (fracF q)).natAbs = (fv (fsub .f64 q (truncF q))).natAbs := c2
  have hh := half_fn.2
  have hn := nhalf_fn.2
  have ho := one_fn.2
  unfold wrapF
  clear c1 c2 t1 t2 t3 t4 t5 g1
  generalize fracF q = f at *
  generalize fv (fsub .f64 q (truncF q)) = g at *
  generalize fv q = Q0 at *
  split
  · rename_i h
    rw [fge_fn r1 half_fn.1] at h
    obtain ⟨k1, k2⟩ := fsub_err r1 one_fn.1 (by rw [ho]; generalize oneU = U at *; generalize eU = E at *; omega)
    rw [(fadd_zero k1).2]
    rw [ho] at k2
    generalize fv (fsub .f64 f 4607182418800017408) = S at *
    generalize fv 4602678819172646912 = H at *
    generalize fv f = R at *
    generalize oneU = U at *
    generalize eU = E at *
    omega
  · rename_i h
    split
    · rename_i h'
      rw [flt_fn r1 nhalf_fn.1] at h'
      obtain ⟨k1, k2⟩ := fadd_err r1 one_fn.1 (by rw [ho]; generalize oneU = U at *; generalize eU = E at *; omega)
      rw [(fadd_zero k1).2]
      rw [ho] at k2
      generalize fv (fadd .f64 f 4607182418800017408) = S at *
      generalize fv 13826050856027422720 = H' at *
      generalize fv f = R at *
      generalize oneU = U at *
      generalize eU = E at *
      omega
    · rw [(fadd_zero r1).2]
      generalize fv f = R at *
      generalize oneU = U at *
      generalize eU = E at *
      omega

/-- The unit at the centred k of n. -/
def uC (k n : Int) : Nat := turnC (wrapF (qF k n))
def uS (k n : Int) : Nat := turnS (wrapF (qF k n))
theorem unit_on {k n : Int} (hn : 1 ≤ n ∧ n ≤ 256) (hk : 2 * k.natAbs ≤ n.natAbs) : OnC (uC k n) (uS k n) ∧ (k ≠ 0 → 4096 * fv (uC k n) ≤ 4095 * (oneU : Nat)) := by
  obtain ⟨q1, q2, q3⟩ := qF_fn hn hk
  obtain ⟨w1, w2⟩ := wrap_fn q1
  exact ⟨turn_on w1 w2, fun h0 => unit_left w1 w2 (wrap_low q1 q2 (q3 h0))⟩

end Go.Vam

/- Square roots of floats: how far they are off. -/
namespace Go.Vam
open Go

theorem rootFrom_spec (n : Nat) : ∀ (todo root : Nat), root * root ≤ n → n < (root + 2 ^ todo) * (root + 2 ^ todo) →
    Ieee.Datum.rootFrom n todo root * Ieee.Datum.rootFrom n todo root ≤ n ∧ n < (Ieee.Datum.rootFrom n todo root + 1) * (Ieee.Datum.rootFrom n todo root + 1) := by
  intro todo
  induction todo with
  | zero => intro root h1 h2; exact ⟨h1, h2⟩
  | succ t ih =>
    intro root h1 h2
    unfold Ieee.Datum.rootFrom
    simp only [Nat.one_shiftLeft]
    have e : root + 2 ^ (t + 1) = root + 2 ^ t + 2 ^ t := by rw [Nat.pow_succ]; omega
    split
    · rename_i h
      exact ih _ h (by rw [← e]; exact h2)
    · rename_i h
      exact ih _ h1 (by omega)

theorem whole_big {n : Nat} {w T : Nat} (hT : 1 ≤ T) (h : T * T ≤ n) (h2 : n < (w + 1) * (w + 1)) : T ≤ w := by
  rcases Nat.lt_or_ge w T with hw | hw
  · have := Nat.mul_le_mul (show w + 1 ≤ T by omega) (show w + 1 ≤ T by omega)
    omega
  · exact hw

theorem sticky_near {n w t : Nat} (hw : 9007199254740992 ≤ w) (h1 : w * w ≤ n) (h2 : n < (w + 1) * (w + 1)) (ht : t ≤ 1) :
    (((2 * w + t) * (2 * w + t) : Nat) - (4 * n : Nat) : Int).natAbs * 2251799813685248 ≤ 4 * n := by
  have e1 : (w + 1) * (w + 1) = w * w + 2 * w + 1 := by grind
  have e2 : (2 * w + t) * (2 * w + t) ≤ 4 * (w * w) + 4 * w + 1 := by
    have := Nat.mul_le_mul (show 2 * w + t ≤ 2 * w + 1 by omega) (show 2 * w + t ≤ 2 * w + 1 by omega)
    grind
  have e3 : 4 * (w * w) ≤ (2 * w + t) * (2 * w + t) := by
    have := Nat.mul_le_mul (show 2 * w ≤ 2 * w + t by omega) (show 2 * w ≤ 2 * w + t by omega)
    grind
  have e4 : 9007199254740992 * w ≤ w * w := Nat.mul_le_mul_right w hw
  generalize (2 * w + t) * (2 * w + t) = A at *
  generalize (w + 1) * (w + 1) = B at *
  generalize w * w = C at *
  omega

theorem sqrt_near {x : Nat} (hx : Fn x) (h0 : 0 < fv x) (h2 : fv x ≤ 16777216 * (oneU : Nat)) :
    ∃ N : Nat, Fn (sqrtF x) ∧ 0 ≤ fv (sqrtF x) ∧ (fv (sqrtF x) - (N : Nat)).natAbs * 4503599627370496 ≤ N ∧ (((N * N : Nat) : Int) - fv x * (oneU : Nat)).natAbs * 2251799813685248 ≤ (fv x * (oneU : Nat)).natAbs := by
  have hw := hx.word
  have hs : decide (9223372036854775808 ≤ x) = false := by
    cases h : decide (9223372036854775808 ≤ x) with
    | false => rfl
    | true =>
      have : fv x = sw true (x % 9223372036854775808) := by rw [← h]; rfl
      unfold sw at this
      simp only [if_true] at this
      omega
  rw [hs] at hw
  have hfv : fv x = ((sv (x % 9223372036854775808) : Nat) : Int) := by
    unfold fv; rw [hs]; rfl
  obtain ⟨r, hr⟩ : ∃ r, r = x % 9223372036854775808 := ⟨_, rfl⟩
  have hrI : r < infR := by rw [hr]; exact hx.2
  rw [← hr] at hw hfv
  obtain ⟨m, q, g1, g2, g3⟩ := rungD_fin hrI
  have hm : m ≠ 0 := by
    rintro rfl
    rw [Nat.zero_mul] at g2
    omega
  obtain ⟨more, hmore⟩ : ∃ more, more = 108 - m.log2 + (((-1074 + (q : Int)) - ((108 - m.log2 : Nat) : Int)) % 2).toNat := ⟨_, rfl⟩
  obtain ⟨n, hn⟩ : ∃ n, n = m * 2 ^ more := ⟨_, rfl⟩
  obtain ⟨w, hww⟩ : ∃ w, w = Ieee.Datum.rootFrom n (n.log2 / 2 + 1) 0 := ⟨_, rfl⟩
  obtain ⟨t, ht⟩ : ∃ t, t = (w * w != n).toNat := ⟨_, rfl⟩
  have hroot : (rungD false r).root 54 = some (.number false (2 * w + t) ((-1074 + (q : Int) - (more : Nat)) / 2 - 1)) := by
    rw [g1, Ieee.Datum.root, if_neg hm, if_neg (by decide)]
    simp only [Nat.shiftLeft_eq, Nat.reduceMul]
    rw [ht, hww, hn, hmore]
  have hsq : sqrtF x = Ieee.double.word false (rungN (2 * w + t) ((-1074 + (q : Int) - (more : Nat)) / 2 - 1)) := by
    unfold sqrtF
    show fres .f64 (((Ieee.double.read x).root (Ieee.double.fractionBits + 2)).map Ieee.double.write) = _
    rw [hw, read_word _ _ (by rw [d_ir]; exact Nat.le_of_lt hrI), d_fb, hroot, Option.map_some, write_N]
    rfl
  have hlog : m.log2 ≤ 52 := by
    have h := Nat.log2_self_le hm
    rcases Nat.lt_or_ge 52 m.log2 with h1 | h1
    · have := Nat.pow_le_pow_right (show 0 < 2 by omega) (show 53 ≤ m.log2 from h1)
      have e : 2 ^ 53 = 9007199254740992 := rfl
      omega
    · exact h1
  have hmod : 0 ≤ ((-1074 + (q : Int)) - ((108 - m.log2 : Nat) : Int)) % 2 ∧ ((-1074 + (q : Int)) - ((108 - m.log2 : Nat) : Int)) % 2 < 2 := ⟨Int.emod_nonneg _ (by decide), Int.emod_lt_of_pos _ (by decide)⟩
  have hmb : 108 - m.log2 ≤ more ∧ more ≤ 109 := by omega
  have heven : (-1074 + (q : Int) - (more : Nat)) % 2 = 0 := by omega
  -- the digits
  have hnT : (2 ^ 54) * (2 ^ 54) ≤ n := by
    rw [hn, ← Nat.pow_add]
    have h1 := Nat.log2_self_le hm
    have h3 : 2 ^ (54 + 54) ≤ 2 ^ (m.log2 + more) := Nat.pow_le_pow_right (by omega) (by omega)
    rw [Nat.pow_add 2 m.log2] at h3
    exact Nat.le_trans h3 (Nat.mul_le_mul_right _ h1)
  have hnT' : 18014398509481984 * 18014398509481984 ≤ n := hnT
  have hr2 := rootFrom_spec n (n.log2 / 2 + 1) 0 (Nat.zero_le _) (by
    rw [Nat.zero_add, ← Nat.pow_add]
    have h1 : n < 2 ^ (n.log2 + 1) := Nat.lt_log2_self
    exact Nat.lt_of_lt_of_le h1 (Nat.pow_le_pow_right (by omega) (by omega)))
  rw [← hww] at hr2
  have hwb := whole_big (by omega) hnT' hr2.2
  have ht1 : t ≤ 1 := by rw [ht]; cases (w * w != n) <;> decide
  have hst := sticky_near (by omega) hr2.1 hr2.2 ht1
  -- the number in units
  obtain ⟨u, hu⟩ : ∃ u : Nat, ((-1074 + (q : Int) - (more : Nat)) / 2 - 1) + 1074 = (u : Nat) := ⟨(((-1074 + (q : Int) - (more : Nat)) / 2 - 1) + 1074).toNat, by omega⟩
  obtain ⟨N, hN⟩ : ∃ N, N = (2 * w + t) * 2 ^ u := ⟨_, rfl⟩
  have hrn : RN N 1 (rungN (2 * w + t) ((-1074 + (q : Int) - (more : Nat)) / 2 - 1)) := by
    refine rn_of Nat.one_pos ?_
    rw [hu, Int.toNat_natCast, show (-1074 - ((-1074 + (q : Int) - (more : Nat)) / 2 - 1)).toNat = 0 by omega, hN]
  have hK : 2 * u + 2 + more = q + 1074 := by omega
  have hNN : N * N = (2 * w + t) * (2 * w + t) * (2 ^ u * 2 ^ u) := by rw [hN]; ac_rfl
  obtain ⟨T, hT⟩ : ∃ T, T = 1074 := ⟨_, rfl⟩
  have hoT : oneU = 2 ^ T := by rw [← twoP_def, hT]; rfl
  rw [← hT] at hK
  have hSU : sv r * oneU = 4 * n * (2 ^ u * 2 ^ u) := by
    rw [← g2, hoT, hn, Nat.mul_assoc, ← Nat.pow_add, ← hK, ← Nat.pow_add]
    rw [Nat.pow_add 2 (2 * u + 2), Nat.pow_add 2 (2 * u), show u + u = 2 * u by omega, show (2 : Nat) ^ 2 = 4 from rfl]
    ac_rfl
  have hnear : (((N * N : Nat) : Int) - ((sv r * oneU : Nat) : Int)).natAbs * 2251799813685248 ≤ sv r * oneU := by
    rw [hNN, hSU]
    have hpos : 0 < 2 ^ u * 2 ^ u := Nat.mul_pos (Nat.two_pow_pos u) (Nat.two_pow_pos u)
    generalize 2 ^ u * 2 ^ u = K at *
    have e : (((2 * w + t) * (2 * w + t) * K : Nat) : Int) - ((4 * n * K : Nat) : Int) = ((((2 * w + t) * (2 * w + t) : Nat) : Int) - ((4 * n : Nat) : Int)) * (K : Nat) := by
      rw [Int.sub_mul, Int.natCast_mul _ K, Int.natCast_mul _ K]
    rw [e, Int.natAbs_mul, Int.natAbs_natCast, Nat.mul_right_comm]
    exact Nat.mul_le_mul_right _ hst
  have hNb : N ≤ sv (infR - 1) := by
    refine Nat.le_trans ?_ many_oneU
    have hsr : sv r ≤ 16777216 * oneU := by omega
    have h5 : sv r * oneU ≤ 16777216 * oneU * oneU := Nat.mul_le_mul_right _ hsr
    have h6 : N * N ≤ (268435456 * oneU) * (268435456 * oneU) := by
      have e : (268435456 * oneU) * (268435456 * oneU) = 72057594037927936 * (oneU * oneU) := by rw [Nat.mul_mul_mul_comm]
      have e2 : 16777216 * oneU * oneU = 16777216 * (oneU * oneU) := Nat.mul_assoc ..
      rw [e]
      rw [e2] at h5
      generalize oneU * oneU = UU at *
      generalize N * N = NN at *
      generalize sv r * oneU = SU at *
      omega
    exact Nat.mul_self_le_mul_self_iff.1 h6
  have hz := rn_fin hrn (by rw [Nat.mul_one]; exact hNb)
  obtain ⟨k1, k2⟩ := rn_err1 hrn hz
  obtain ⟨f1, f2⟩ := word_fn (b := false) hz
  rw [← hsq] at f1 f2
  refine ⟨N, f1, by rw [f2]; unfold sw; simp, ?_, ?_⟩
  · rw [f2]
    unfold sw
    simp only [Bool.false_eq_true, if_false]
    exact near_abs k1 k2 (by omega)
  · rw [hfv]
    have e : ((sv r : Nat) : Int) * (oneU : Nat) = ((sv r * oneU : Nat) : Int) := (Int.natCast_mul ..).symm
    rw [e, Int.natAbs_natCast]
    exact hnear

end Go.Vam

/- Floats: sums and products that are exact; pairs of floats. -/
namespace Go.Vam
open Go

theorem fv_abs {x : Nat} : (fv x).natAbs = sv (x % 9223372036854775808) := sw_abs _ _

theorem fadd_exact {x y w : Nat} (hx : Fn x) (hy : Fn y) (hw : w < infR) (h : (fv x + fv y).natAbs = sv w) : Fn (fadd .f64 x y) ∧ fv (fadd .f64 x y) = fv x + fv y := by
  obtain ⟨z, h1, h2⟩ := add_rn hx.2 hy.2 (decide (9223372036854775808 ≤ x)) (decide (9223372036854775808 ≤ y))
  rw [← hx.word, ← hy.word] at h1
  have e : sw (decide (9223372036854775808 ≤ x)) (x % 9223372036854775808) + sw (decide (9223372036854775808 ≤ y)) (y % 9223372036854775808) = fv x + fv y := rfl
  rw [e] at h1 h2
  have hz : z = w := h2.exact (Nat.le_of_lt hw) (by rw [Nat.mul_one]; exact h.symm)
  subst hz
  obtain ⟨f1, f2⟩ := word_fn (b := if fv x + fv y = 0 then decide (9223372036854775808 ≤ x) && decide (9223372036854775808 ≤ y) else decide (fv x + fv y < 0)) hw
  rw [← h1] at f1 f2
  refine ⟨f1, ?_⟩
  rw [f2]
  unfold sw
  by_cases h0 : fv x + fv y = 0
  · rw [h0] at h ⊢
    have : sv z = 0 := by omega
    simp [this]
  · rw [if_neg h0]
    by_cases hn : fv x + fv y < 0
    · rw [decide_eq_true hn]; simp only [if_true]; omega
    · rw [decide_eq_false hn]; simp only [Bool.false_eq_true, if_false]; omega

theorem fsub_exact {x y w : Nat} (hx : Fn x) (hy : Fn y) (hw : w < infR) (h : (fv x - fv y).natAbs = sv w) : Fn (fsub .f64 x y) ∧ fv (fsub .f64 x y) = fv x - fv y := by
  obtain ⟨v, g1, g2, g3⟩ := hy.neg
  rw [g3 x hx]
  have := fadd_exact hx g1 hw (by rw [g2]; exact h)
  rw [g2] at this
  exact this

theorem fmul_exact {x y w : Nat} (hx : Fn x) (hy : Fn y) (hw : w < infR) (h : (fv x * fv y).natAbs = sv w * oneU) : Fn (fmul .f64 x y) ∧ fv (fmul .f64 x y) * (oneU : Nat) = fv x * fv y := by
  obtain ⟨z, h1, h2⟩ := mul_rn hx.2 hy.2
  have h3 := h1 (decide (9223372036854775808 ≤ x)) (decide (9223372036854775808 ≤ y))
  rw [← hx.word, ← hy.word] at h3
  have hN : (fv x * fv y).natAbs = sv (x % 9223372036854775808) * sv (y % 9223372036854775808) := by rw [Int.natAbs_mul, fv_abs, fv_abs]
  have hz : z = w := h2.exact (Nat.le_of_lt hw) (by rw [← hN]; exact h.symm)
  subst hz
  obtain ⟨f1, f2⟩ := word_fn (b := decide (9223372036854775808 ≤ x) ^^ decide (9223372036854775808 ≤ y)) hw
  rw [← h3] at f1 f2
  refine ⟨f1, ?_⟩
  have ex : fv x = sw (decide (9223372036854775808 ≤ x)) (x % 9223372036854775808) := rfl
  have ey : fv y = sw (decide (9223372036854775808 ≤ y)) (y % 9223372036854775808) := rfl
  rw [f2, ex, ey]
  rw [hN] at h
  clear h1 h2 h3 f1 f2 hN
  unfold sw
  have e2 : ((sv z : Nat) : Int) * ((oneU : Nat) : Int) = ((sv (x % 9223372036854775808) : Nat) : Int) * ((sv (y % 9223372036854775808) : Nat) : Int) := by
    rw [← Int.natCast_mul, ← Int.natCast_mul, h]
  cases decide (9223372036854775808 ≤ x) <;> cases decide (9223372036854775808 ≤ y) <;> simp [Int.neg_mul, Int.mul_neg, e2]

/-- A product with one, with minus one, with nought. -/
theorem fmul_unit {x y : Nat} {σ : Int} (hx : Fn x) (hy : Fn y) (h : fv y = σ * (oneU : Nat)) (hσ : σ = 1 ∨ σ = -1 ∨ σ = 0) : Fn (fmul .f64 x y) ∧ fv (fmul .f64 x y) = σ * fv x := by
  have hU : ((oneU : Nat) : Int) ≠ 0 := by have := oneU_pos; omega
  have hd : ∃ w, w < infR ∧ (fv x * fv y).natAbs = sv w * oneU := by
    rw [h]
    rcases hσ with rfl | rfl | rfl
    · exact ⟨_, hx.2, by rw [Int.natAbs_mul, fv_abs]; simp⟩
    · exact ⟨_, hx.2, by rw [Int.natAbs_mul, fv_abs]; simp⟩
    · exact ⟨0, by decide, by rw [Int.zero_mul, Int.mul_zero, sv_zero, Nat.zero_mul]; rfl⟩
  obtain ⟨w, hw, e⟩ := hd
  obtain ⟨f1, f2⟩ := fmul_exact hx hy hw e
  refine ⟨f1, ?_⟩
  rw [h] at f2
  exact Int.eq_of_mul_eq_mul_right hU (by rw [f2]; grind)

theorem fadd_z {x y : Nat} (hx : Fn x) (hy : Fn y) (h : fv x = 0 ∨ fv y = 0) : Fn (fadd .f64 x y) ∧ fv (fadd .f64 x y) = fv x + fv y := by
  rcases h with h | h
  · exact fadd_exact hx hy hy.2 (by rw [h, Int.zero_add, fv_abs])
  · exact fadd_exact hx hy hx.2 (by rw [h, Int.add_zero, fv_abs])
theorem fsub_z {x y : Nat} (hx : Fn x) (hy : Fn y) (h : fv x = 0 ∨ fv y = 0) : Fn (fsub .f64 x y) ∧ fv (fsub .f64 x y) = fv x - fv y := by
  rcases h with h | h
  · exact fsub_exact hx hy hy.2 (by rw [h, Int.zero_sub, Int.natAbs_neg, fv_abs])
  · exact fsub_exact hx hy hx.2 (by rw [h, Int.sub_zero, fv_abs])

/-- Floats that tell the same number, which is not nought, are one. -/
theorem fv_inj {x y : Nat} (hx : Fn x) (hy : Fn y) (h : fv x = fv y) (h0 : fv x ≠ 0) : x = y := by
  rw [hx.word, hy.word]
  have ex : fv x = sw (decide (9223372036854775808 ≤ x)) (x % 9223372036854775808) := rfl
  have ey : fv y = sw (decide (9223372036854775808 ≤ y)) (y % 9223372036854775808) := rfl
  have ha : sv (x % 9223372036854775808) = sv (y % 9223372036854775808) := by rw [← fv_abs, ← fv_abs, h]
  rw [ex, ey] at h
  rw [ex] at h0
  rw [sv_inj ha] at h h0 ⊢
  unfold sw at h h0
  generalize decide (9223372036854775808 ≤ x) = s at *
  generalize decide (9223372036854775808 ≤ y) = t at *
  cases s <;> cases t <;> simp at h h0 ⊢ <;> omega

end Go.Vam

/- Floats in their order: one number for each, the same for those that are the same. -/
namespace Go.Vam
open Go

def kapS (s : Bool) (r : Nat) : Int := if s then -(r : Int) - 1 else (r : Int)
def nanW (x : Nat) : Bool := decide (infR < x % 9223372036854775808)
def kap (x : Nat) : Int := if nanW x = true then 18446744073709551616 else kapS (decide (9223372036854775808 ≤ x)) (x % 9223372036854775808)

theorem fkey_num {x : Nat} (h : nanW x = false) : fkey x = some (sw (decide (9223372036854775808 ≤ x)) (x % 9223372036854775808)) := by
  unfold fkey
  unfold nanW at h
  have := of_decide_eq_false h
  rw [if_pos (by omega)]
theorem fkey_nan {x : Nat} (h : nanW x = true) : fkey x = none := by
  unfold fkey
  unfold nanW at h
  have := of_decide_eq_true h
  rw [if_neg (by omega)]

theorem eq_self_is {x : Nat} (hx : x < 18446744073709551616) : (ford .f64 x x == some .eq) = !nanW x := by
  cases h : nanW x with
  | true =>
    show (ford .f64 x x == some .eq) = false
    rw [← Bool.not_eq_true, feq_iff hx hx, fkey_nan h]
    simp
  | false => exact (feq_iff hx hx).2 ⟨_, fkey_num h, fkey_num h⟩

theorem flt_iffW {x y : Nat} (hx : x < 18446744073709551616) (hy : y < 18446744073709551616) : (ford .f64 x y == some .lt) = true ↔ ∃ a b, fkey x = some a ∧ fkey y = some b ∧ a < b := by
  rw [ford_key hx hy]
  cases h1 : fkey x with
  | none => simp
  | some a =>
    cases h2 : fkey y with
    | none => simp
    | some b =>
      simp only [Option.bind_some, Option.map_some, cmp_is, beq_iff_eq, Option.some.injEq]
      constructor
      · intro h
        refine ⟨a, b, rfl, rfl, ?_⟩
        split at h
        · omega
        · split at h <;> cases h
      · rintro ⟨_, _, rfl, rfl, h⟩
        rw [if_pos h]

end Go.Vam

/- Floats: the gate of an echo. -/
namespace Go.Vam
open Go

theorem vast_oneU : 1180591620717411303424 * oneU ≤ sv (infR - 1) := by
  have h1 : sv (1103 * 4503599627370496 - 4503599627370496 + 4503599627370496) = twoP (52 + 1102) := sv_one (q := 1102)
  have h2 : sv (1103 * 4503599627370496 - 4503599627370496 + 4503599627370496) ≤ sv (infR - 1) := sv_le (by decide)
  have h3 : (1180591620717411303424 : Nat) = twoP 70 := rfl
  have h4 : twoP 70 * oneU ≤ twoP (52 + 1102) := by
    rw [show oneU = twoP 1074 from rfl, twoP_mul]; exact twoP_le (by decide)
  rw [h3]; rw [h1] at h2; exact Nat.le_trans h4 h2

theorem fmul_zero_l {x : Nat} (hx : Fn x) : Fn (fmul .f64 0 x) ∧ fv (fmul .f64 0 x) = 0 := by
  have z := fmul_exact (w := 0) zero_fn.1 hx (by decide) (by rw [zero_fn.2, Int.zero_mul, sv_zero, Nat.zero_mul]; rfl)
  refine ⟨z.1, ?_⟩
  have h := z.2
  rw [zero_fn.2, Int.zero_mul] at h
  have hU : ((oneU : Nat) : Int) ≠ 0 := by have := oneU_pos; omega
  exact (Int.mul_eq_zero.1 h).resolve_right hU

theorem fle_fn {x y : Nat} (hx : Fn x) (hy : Fn y) : (ford .f64 x y == some .lt || ford .f64 x y == some .eq) = true ↔ fv x ≤ fv y := by
  rw [Bool.or_eq_true, flt_fn hx hy, feq_fn hx hy]
  omega

/-- A float between two finite ones is finite. -/
theorem between_fn {x lo hi : Nat} (hx : x < 18446744073709551616) (hlo : Fn lo) (hhi : Fn hi) (h1 : (ford .f64 x lo == some .gt || ford .f64 x lo == some .eq) = true) (h2 : (ford .f64 x hi == some .lt || ford .f64 x hi == some .eq) = true) :
    Fn x ∧ fv lo ≤ fv x ∧ fv x ≤ fv hi := by
  have k1 : ∃ a, fkey x = some a ∧ fv lo ≤ a := by
    rcases (Bool.or_eq_true_iff).1 h1 with h | h
    · obtain ⟨a, b, g1, g2, g3⟩ := (fgt_iff hx hlo.1).1 h
      rw [hlo.key] at g2; cases g2
      exact ⟨a, g1, by omega⟩
    · obtain ⟨a, g1, g2⟩ := (feq_iff hx hlo.1).1 h
      rw [hlo.key] at g2; cases g2
      exact ⟨_, g1, Int.le_refl _⟩
  have k2 : ∃ a, fkey x = some a ∧ a ≤ fv hi := by
    rcases (Bool.or_eq_true_iff).1 h2 with h | h
    · obtain ⟨a, b, g1, g2, g3⟩ := (flt_iffW hx hhi.1).1 h
      rw [hhi.key] at g2; cases g2
      exact ⟨a, g1, by omega⟩
    · obtain ⟨a, g1, g2⟩ := (feq_iff hx hhi.1).1 h
      rw [hhi.key] at g2; cases g2
      exact ⟨_, g1, Int.le_refl _⟩
  obtain ⟨a, ha, h3⟩ := k1
  obtain ⟨b, hb, h4⟩ := k2
  rw [ha] at hb; cases hb
  have hle : x % 9223372036854775808 ≤ infR := by
    unfold fkey at ha
    split at ha
    · assumption
    · cases ha
  have hv : a = sw (decide (9223372036854775808 ≤ x)) (x % 9223372036854775808) := by
    unfold fkey at ha
    rw [if_pos hle] at ha
    cases ha; rfl
  have hne : x % 9223372036854775808 ≠ infR := by
    intro e
    rw [e] at hv
    have b1 := fv_abs (x := lo)
    have b2 := fv_abs (x := hi)
    have s1 := sv_lt hlo.2
    have s2 := sv_lt hhi.2
    unfold sw at hv
    generalize sv infR = I at *
    split at hv <;> omega
  have hf : Fn x := ⟨hx, by omega⟩
  have hv2 : fv x = a := hv.symm
  exact ⟨hf, by rw [hv2]; exact h3, by rw [hv2]; exact h4⟩

theorem pos_sign {x : Nat} (h : 0 < fv x) : decide (9223372036854775808 ≤ x) = false := by
  cases hs : decide (9223372036854775808 ≤ x) with
  | false => rfl
  | true =>
    have : fv x = sw true (x % 9223372036854775808) := by rw [← hs]; rfl
    unfold sw at this
    simp only [if_true] at this
    omega

theorem gate_arith {U E C a H X Y Z g : Int} (hU : U = 4503599627370496 * E) (hE : 4 ≤ E) (hC1 : U ≤ 1048576 * C) (g0 : 0 ≤ g) (g1 : g ≤ 4096) (hH : 2 * H = U)
    (ha : (a - (g * U + H)).natAbs * 4503599627370496 ≤ (g * U + H).natAbs) (hX : X = a * C) (hY : (Y - X).natAbs * 2251799813685248 ≤ X.natAbs + U.natAbs * 4503599627370496) (hZ : (Z - Y).natAbs * 4503599627370496 ≤ Y.natAbs + C.natAbs * 4503599627370496) :
    g * (U * C) ≤ Z ∧ Z < (g + 1) * (U * C) ∧ 0 < Y ∧ 0 < Z := by
  have hC : 0 < C := by omega
  obtain ⟨K, hK⟩ : ∃ K, K = E * C := ⟨_, rfl⟩
  have hUC : U * C = 4503599627370496 * K := by rw [hU, hK]; grind
  have hCK : 4 * C ≤ K := by rw [hK]; exact Int.mul_le_mul_of_nonneg_right hE (by omega)
  obtain ⟨gK, hgK⟩ : ∃ gK, gK = g * K := ⟨_, rfl⟩
  have q1 : 0 ≤ gK := by rw [hgK]; exact Int.mul_nonneg g0 (by omega)
  have q2 : gK ≤ 4096 * K := by rw [hgK]; exact Int.mul_le_mul_of_nonneg_right g1 (by omega)
  obtain ⟨V, hV⟩ : ∃ V, V = (g * U + H) * C := ⟨_, rfl⟩
  have hV2 : V = 4503599627370496 * gK + 2251799813685248 * K := by
    have : 2 * V = 2 * (4503599627370496 * gK + 2251799813685248 * K) := by rw [hV, hgK, hK]; grind
    omega
  have hv0 : 0 ≤ g * U + H := by
    have := Int.mul_nonneg g0 (show 0 ≤ U by omega)
    omega
  have hXV : (X - V).natAbs * 4503599627370496 ≤ V.natAbs := by
    have e : X - V = (a - (g * U + H)) * C := by rw [hX, hV]; grind
    rw [e, hV, Int.natAbs_mul, Int.natAbs_mul, Nat.mul_right_comm]
    exact Nat.mul_le_mul_right _ ha
  have e1 : g * (U * C) = 4503599627370496 * gK := by rw [hUC, hgK]; grind
  have e2 : (g + 1) * (U * C) = 4503599627370496 * gK + 4503599627370496 * K := by rw [hUC, hgK]; grind
  rw [e1, e2]
  clear e1 e2 hV hX hgK hK hUC ha hv0
  omega

end Go.Vam

/- Floats: what is finite, told in three ways. -/
namespace Go.Proofs.YtmfaodenkghmkaaGreat
open Go Go.Vam

def finT (t : Nat) : Bool := ford .f64 (fsub .f64 t t) 0 == some .eq

theorem nan_fsub {x : Nat} (h : nanW x = true) : fsub .f64 x x = nanF .f64 := by
  unfold nanW at h
  obtain ⟨s, f, hr⟩ := nanRead (of_decide_eq_true h)
  show fres .f64 (((Ieee.double.read x).sum (Ieee.double.read x).opposite).map Ieee.double.write) = _
  rw [hr]
  rfl

def fin2 (t : Nat) : Bool := (ford .f64 t t == some .eq) && ((ford .f64 t 9218868437227405311 == some .lt || ford .f64 t 9218868437227405311 == some .eq) && (ford .f64 t 18442240474082181119 == some .gt || ford .f64 t 18442240474082181119 == some .eq))

theorem fle_of {x y : Nat} {a b : Int} (hx : x < 18446744073709551616) (hy : y < 18446744073709551616) (h1 : fkey x = some a) (h2 : fkey y = some b) (h : a ≤ b) : (ford .f64 x y == some .lt || ford .f64 x y == some .eq) = true := by
  rw [Bool.or_eq_true]
  by_cases he : a = b
  · exact .inr ((feq_iff hx hy).2 ⟨a, h1, by rw [h2, he]⟩)
  · exact .inl ((flt_iffW hx hy).2 ⟨a, b, h1, h2, by omega⟩)
theorem fge_of {x y : Nat} {a b : Int} (hx : x < 18446744073709551616) (hy : y < 18446744073709551616) (h1 : fkey x = some a) (h2 : fkey y = some b) (h : b ≤ a) : (ford .f64 x y == some .gt || ford .f64 x y == some .eq) = true := by
  rw [Bool.or_eq_true]
  by_cases he : a = b
  · exact .inr ((feq_iff hx hy).2 ⟨a, h1, by rw [h2, he]⟩)
  · exact .inl ((fgt_iff hx hy).2 ⟨a, b, h1, h2, by omega⟩)

theorem fin_two {t : Nat} (ht : t < 18446744073709551616) : fin2 t = finT t := by
  cases nt : nanW t with
  | true =>
    unfold fin2 finT
    have h0 : (ford .f64 (nanF .f64) 0 == some .eq) = false := by decide
    rw [eq_self_is ht, nt, nan_fsub nt, h0]
    rfl
  | false =>
    have hr : t % 9223372036854775808 ≤ infR := by
      unfold nanW at nt
      have := of_decide_eq_false nt
      omega
    by_cases hi : t % 9223372036854775808 = infR
    · have hI : infR = 9218868437227405312 := rfl
      have hc : t = 9218868437227405312 ∨ t = 18442240474082181120 := by omega
      rcases hc with rfl | rfl
      · decide +kernel
      · decide +kernel
    · have hlt : t % 9223372036854775808 < infR := by omega
      have hw := wordOf ht
      have hf : finT t = true := by
        unfold finT
        obtain ⟨z, h1, h2⟩ := sub_rn hlt hlt (decide (9223372036854775808 ≤ t)) (decide (9223372036854775808 ≤ t))
        rw [← hw] at h1
        rw [Int.sub_self] at h1 h2
        have hz : z = 0 := Nat.le_zero.1 (h2.le 0 (by decide))
        rw [h1, hz, if_pos rfl]
        cases decide (9223372036854775808 ≤ t) <;> decide
      rw [hf]
      have k0 := fkey_num nt
      have hs := sv_le (r := t % 9223372036854775808) (q := infR - 1) (by omega)
      have k1 : fkey 9218868437227405311 = some ((sv (infR - 1) : Nat) : Int) := by
        unfold fkey
        rw [if_pos (by decide)]; rfl
      have k2 : fkey 18442240474082181119 = some (-((sv (infR - 1) : Nat) : Int)) := by
        unfold fkey
        rw [if_pos (by decide)]; rfl
      unfold fin2
      rw [eq_self_is ht, nt, fle_of ht (by decide) k0 k1 (by unfold sw; generalize sv (infR - 1) = b at *; generalize sv (t % 9223372036854775808) = c at *; split <;> omega),
        fge_of ht (by decide) k0 k2 (by unfold sw; generalize sv (infR - 1) = b at *; generalize sv (t % 9223372036854775808) = c at *; split <;> omega)]
      rfl


theorem ext_abs {x : Nat} : extV 5 [.float .f64 x] = some (.float .f64 (fabs x)) := rfl

/-- Finite by its size. -/
theorem fin_abs {t : Nat} (ht : t < 18446744073709551616) : (!(ford .f64 t t != some .eq) && !(ford .f64 (fabs t) 9218868437227405311 == some .gt)) = finT t := by
  have hne : (ford .f64 t t != some .eq) = !(ford .f64 t t == some .eq) := rfl
  rw [hne, Bool.not_not, ← fin_two ht, eq_self_is ht]
  cases nt : nanW t with
  | true => unfold fin2; rw [eq_self_is ht, nt]; rfl
  | false =>
    have hr : t % 9223372036854775808 ≤ infR := by
      unfold nanW at nt
      have := of_decide_eq_false nt
      omega
    have hI : infR = 9218868437227405312 := rfl
    have ha : fabs t = t % 9223372036854775808 := by
      conv => lhs; rw [wordOf ht]
      exact fabs_word _ _ (by rw [d_ir]; omega)
    by_cases hi : t % 9223372036854775808 = infR
    · have hc : t = 9218868437227405312 ∨ t = 18442240474082181120 := by omega
      rcases hc with rfl | rfl
      · decide +kernel
      · decide +kernel
    · have hlt : t % 9223372036854775808 < infR := by omega
      have hs := sv_le (r := t % 9223372036854775808) (q := infR - 1) (by omega)
      have k0 := fkey_num nt
      have k1 : fkey 9218868437227405311 = some ((sv (infR - 1) : Nat) : Int) := by
        unfold fkey
        rw [if_pos (by decide)]; rfl
      have k2 : fkey 18442240474082181119 = some (-((sv (infR - 1) : Nat) : Int)) := by
        unfold fkey
        rw [if_pos (by decide)]; rfl
      have ka : fkey (fabs t) = some ((sv (t % 9223372036854775808) : Nat) : Int) := by
        rw [ha]
        unfold fkey
        rw [Nat.mod_mod, if_pos hr, decide_eq_false (by have := Nat.mod_lt t (show 0 < 9223372036854775808 by decide); omega)]; rfl
      have g : (ford .f64 (fabs t) 9218868437227405311 == some .gt) = false := by
        cases hg : (ford .f64 (fabs t) 9218868437227405311 == some .gt) with
        | false => rfl
        | true =>
          obtain ⟨a, b, h1, h2, h3⟩ := (fgt_iff (by rw [ha]; omega) (by decide)).1 hg
          rw [ka] at h1; rw [k1] at h2
          cases h1; cases h2
          omega
      rw [g]
      unfold fin2
      rw [eq_self_is ht, nt, fle_of ht (by decide) k0 k1 (by unfold sw; generalize sv (infR - 1) = b at *; generalize sv (t % 9223372036854775808) = c at *; split <;> omega),
        fge_of ht (by decide) k0 k2 (by unfold sw; generalize sv (infR - 1) = b at *; generalize sv (t % 9223372036854775808) = c at *; split <;> omega)]
      rfl

end Go.Proofs.YtmfaodenkghmkaaGreat
