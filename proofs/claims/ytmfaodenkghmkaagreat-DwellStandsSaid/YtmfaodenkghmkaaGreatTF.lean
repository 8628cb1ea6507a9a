/- The law, walked. -/
import Derived.Test.YtmfaodenkghmkaaGreatTE
import Derived.Test.YtmfaodenkghmkaaGreatTA
namespace Go.Proofs.YtmfaodenkghmkaaGreat
open Go Go.Vam

def set2 (c w r : Nat) (ev ro : Int) (k : Nat) : St := ⟨c, w, r, ev, ro, (k : Nat), 0, 0, 0, 1, 4, 0, 4620693217682128896, 0⟩
def lowF : Nat := 4517110426252607488
def topF : Nat := 4697254411347427328
def geB (x y : Nat) : Bool := ford .f64 x y == some .gt || ford .f64 x y == some .eq
def leB (x y : Nat) : Bool := ford .f64 x y == some .lt || ford .f64 x y == some .eq
def inB (x : Nat) : Bool := geB x lowF && leB x topF

/-- What the law asks of a beat. -/
structure Good (c w r m n k gt : Nat) : Prop where
  hk : 1 ≤ k ∧ k ≤ 7
  hc : chkE (set1 c w r n m k) = 0
  hm : 1 ≤ m ∧ m ≤ 256
  hn : 1 ≤ n ∧ n ≤ 4096
  hmn : m * n ≤ 4096
  hq : gt + bkN k < n
  hC : inB c = true
  hW : inB w = true
  hR : inB r = true
  h64 : c < 18446744073709551616 ∧ w < 18446744073709551616 ∧ r < 18446744073709551616
def TopAt (m n gt : Nat) (P : Nat → Nat → Nat) : Prop :=
  (∀ i j, i < m → j < n → Vam.Fn (P i j) ∧ (¬ (i = 0 ∧ j = gt) → fv (P i j) < fv (P 0 gt))) ∧ 0 < fv (P 0 gt)
def trF (c gt : Nat) : Nat := fmul .f64 (fadd .f64 (FloatKind.f64.nearest ((gt : Nat) : Int)) 4602678819172646912) c
def topP (m n k gt y : Nat) : Nat → Nat → Nat := cellF m n k (ecF (scaC (turnC y, turnS y) oneF) (bkF k) gt (bkN k) m 0)
def nearB (x m q : Nat) : Bool := leB (fabs (fsub .f64 (sqrtF x) (FloatKind.f64.nearest ((m * q : Nat) : Int)))) (fmul .f64 4427038433705197568 (FloatKind.f64.nearest ((m * q : Nat) : Int)))
/-- What the law comes to. -/
def Concl (c w r m n k gt : Nat) : Prop := ∃ R d y, Ech c w r 0 0 oneF 0 m n (bkN k) gt R d y (trF c gt) ∧ TopAt m n gt (topP m n k gt y) ∧ nearB (topP m n k gt y 0 gt) m (bkN k) = true

theorem store_head {s : Mm} {B n : Nat} {cs vs : List Value} {p : Bool} (hg : Store.get s.h B = some (.cells cs p)) (hv : vs.length = n) (hn : n ≤ cs.length) (h1 : vs.all oneCell = true) :
    storeV s n (.pointer (some ⟨B, 0, none⟩)) (.agg vs.toArray) = some (undefV, setBlk s B (.cells (putL cs 0 vs) p)) := by
  have hc : (Value.agg vs.toArray).cells = vs.toArray := rfl
  simp only [storeV, hc, putCells, hg]
  rw [if_pos (by simpa using hv), if_neg (by simp), if_pos (by simp [hv, hn]), if_pos h1, Option.map_some]
  rfl

/-- How far the search for the greatest has come. -/
def Seek (gt : Nat) (P : Nat → Nat → Nat) (i j x : Nat) (b a : Int) : Prop :=
  (0 < i ∨ gt < j → x = P 0 gt ∧ b = 0 ∧ a = (gt : Nat)) ∧ (i = 0 ∧ j ≤ gt → Vam.Fn x ∧ fv x < fv (P 0 gt))
theorem Seek.keep {m n gt i j x : Nat} {b a : Int} {P : Nat → Nat → Nat} (h : Seek gt P i j x b a) (hp : TopAt m n gt P) (hi : i < m) (hj : j < n) (hm : 0 < m) (hg : gt < n) (hgt : (ford .f64 (P i j) x == some .gt) = false) : Seek gt P i (j + 1) x b a := by
  have hne : ¬ (i = 0 ∧ j = gt) := by
    rintro ⟨rfl, rfl⟩
    obtain ⟨h1, h2⟩ := h.2 ⟨rfl, Nat.le_refl _⟩
    rw [(fgt_fn (hp.1 0 j hi hj).1 h1).2 h2] at hgt
    cases hgt
  exact ⟨fun q => h.1 (by omega), fun q => h.2 (by omega)⟩
theorem Seek.turn {m n gt i j x : Nat} {b a : Int} {P : Nat → Nat → Nat} (h : Seek gt P i j x b a) (hp : TopAt m n gt P) (hi : i < m) (hj : j < n) (hm : 0 < m) (hg : gt < n) (hgt : (ford .f64 (P i j) x == some .gt) = true) : Seek gt P i (j + 1) (P i j) (i : Nat) (j : Nat) := by
  by_cases he : i = 0 ∧ j = gt
  · obtain ⟨rfl, rfl⟩ := he
    exact ⟨fun _ => ⟨rfl, rfl, rfl⟩, fun q => by omega⟩
  · have hlt := (hp.1 i j hi hj).2 he
    refine ⟨fun q => ?_, fun q => ⟨(hp.1 i j hi hj).1, hlt⟩⟩
    obtain ⟨rfl, _, _⟩ := h.1 (by omega)
    have := (fgt_fn (hp.1 i j hi hj).1 (hp.1 0 gt hm hg).1).1 hgt
    omega
theorem Seek.row {gt i j n x : Nat} {b a : Int} {P : Nat → Nat → Nat} (h : Seek gt P i j x b a) (hj : j = n) (hg : gt < n) : Seek gt P (i + 1) 0 x b a :=
  ⟨fun _ => h.1 (by omega), fun q => by omega⟩
theorem Seek.start {m n gt : Nat} {P : Nat → Nat → Nat} (hp : TopAt m n gt P) : Seek gt P 0 0 0 (-1) (-1) :=
  ⟨fun q => by omega, fun _ => ⟨zero_fn.1, by rw [zero_fn.2]; exact hp.2⟩⟩

def L7 : List Value := [.int .i64 2, .int .i64 3, .int .i64 4, .int .i64 5, .int .i64 7, .int .i64 11, .int .i64 13]
theorem L7_at {k : Nat} (hk : k < 7) : L7[k]? = some (.int .i64 ((bkN (k + 1) : Nat) : Int)) := by
  have : k = 0 ∨ k = 1 ∨ k = 2 ∨ k = 3 ∨ k = 4 ∨ k = 5 ∨ k = 6 := by omega
  rcases this with rfl | rfl | rfl | rfl | rfl | rfl | rfl <;> rfl

end Go.Proofs.YtmfaodenkghmkaaGreat

/- What the law asks of an echo holds. -/
namespace Go.Proofs.YtmfaodenkghmkaaGreat
open Go Go.Vam

theorem low_fn : Vam.Fn lowF ∧ 1048576 * fv lowF = (oneU : Nat) := ⟨⟨by decide, by decide⟩, by decide +kernel⟩
theorem top_fn : Vam.Fn topF ∧ fv topF = 1048576 * (oneU : Nat) := ⟨⟨by decide, by decide⟩, by decide +kernel⟩
theorem two_fn : Vam.Fn 4611686018427387904 ∧ fv 4611686018427387904 = 2 * (oneU : Nat) := ⟨⟨by decide, by decide⟩, by decide +kernel⟩
theorem lim_fn : Vam.Fn 4742290407621132288 ∧ fv 4742290407621132288 = 1073741824 * (oneU : Nat) := ⟨⟨by decide, by decide⟩, by decide +kernel⟩

theorem inB_fn {x : Nat} (hx : x < 18446744073709551616) (h : inB x = true) : Vam.Fn x ∧ ((oneU : Nat) : Int) ≤ 1048576 * fv x ∧ fv x ≤ 1048576 * (oneU : Nat) := by
  unfold inB geB leB at h
  rw [Bool.and_eq_true] at h
  obtain ⟨f, h1, h2⟩ := between_fn hx low_fn.1 top_fn.1 h.1 h.2
  have e1 := low_fn.2
  have e2 := top_fn.2
  exact ⟨f, by omega, by omega⟩

theorem half_v : 2 * fv 4602678819172646912 = ((oneU : Nat) : Int) := half_fn.2

theorem prod_bound {T A C : Int} {U a b : Nat} (hU : 4503599627370496 ≤ U) (ha : A.natAbs ≤ a * U) (hc : C.natAbs ≤ b * U) (hab : 1 ≤ a * b) (h : (T * (U : Nat) - A * C).natAbs * 2251799813685248 ≤ (A * C).natAbs + U * 4503599627370496) : T.natAbs ≤ 2 * (a * b) * U := by
  have h1 : (A * C).natAbs ≤ a * b * U * U := by
    rw [Int.natAbs_mul]
    have := Nat.mul_le_mul ha hc
    have e : a * U * (b * U) = a * b * U * U := by grind
    rw [← e]; exact this
  have h2 : U * 4503599627370496 ≤ a * b * U * U := by
    have e : a * b * U * U = U * (a * b * U) := by grind
    rw [e]
    exact Nat.mul_le_mul_left _ (Nat.le_trans hU (Nat.le_mul_of_pos_left U hab))
  have h3 : (T * (U : Nat)).natAbs ≤ 2 * (a * b) * U * U := by
    have e : 2 * (a * b) * U * U = 2 * (a * b * U * U) := by grind
    rw [e]
    generalize a * b * U * U = M at *
    generalize T * (U : Nat) = P at *
    generalize A * C = Q at *
    omega
  rw [Int.natAbs_mul, Int.natAbs_natCast] at h3
  exact Nat.le_of_mul_le_mul_right h3 (by omega)

theorem quot_room {T C : Int} {U a B : Nat} (hT : T.natAbs ≤ a * U) (hC : U ≤ 1048576 * C.natAbs) (hB : a * 1048576 * U ≤ B) : T.natAbs * U ≤ B * C.natAbs := by
  have h1 := Nat.mul_le_mul hT hC
  have e : a * U * (1048576 * C.natAbs) = a * 1048576 * U * C.natAbs := by grind
  rw [e] at h1
  exact Nat.le_trans h1 (Nat.mul_le_mul_right _ hB)

theorem prod_room {A C : Int} {U a b B : Nat} (ha : A.natAbs ≤ a * U) (hc : C.natAbs ≤ b * U) (hB : a * b * U ≤ B) : (A * C).natAbs ≤ B * U := by
  rw [Int.natAbs_mul]
  have h1 := Nat.mul_le_mul ha hc
  have e : a * U * (b * U) = a * b * U * U := by grind
  rw [e] at h1
  exact Nat.le_trans h1 (Nat.mul_le_mul_right _ hB)

theorem ech {c w r m n q gt : Nat} (hm : 1 ≤ m ∧ m ≤ 256) (hmn : m * n ≤ 4096) (hn : n ≤ 4096) (hq : gt + q < n) (h64 : c < 18446744073709551616 ∧ w < 18446744073709551616 ∧ r < 18446744073709551616)
    (hC : inB c = true) (hW : inB w = true) (hR : inB r = true) : ∃ d y, Ech c w r 0 0 oneF 0 m n q gt (trF c gt) d y (trF c gt) ∧ 2 * (fv y).natAbs ≤ oneU + 8 * eU := by
  obtain ⟨fc, c1, c2⟩ := inB_fn h64.1 hC
  obtain ⟨fw, w1, w2⟩ := inB_fn h64.2.1 hW
  obtain ⟨fr, r1, r2⟩ := inB_fn h64.2.2 hR
  have hU := one_eU
  have hE := eU_big
  have hU0 := oneU_pos
  have hvast := vast_oneU
  obtain ⟨fg, g1⟩ := near_fn (d := ((gt : Nat) : Int)) (by omega)
  have hh := half_v
  have fh := half_fn.1
  -- gate and a half
  have hb1 : (fv (FloatKind.f64.nearest ((gt : Nat) : Int)) + fv 4602678819172646912).natAbs ≤ sv (infR - 1) := by
    rw [g1]
    have : ((gt : Nat) : Int) * (oneU : Nat) ≤ 4096 * (oneU : Nat) := Int.mul_le_mul_of_nonneg_right (by omega) (by omega)
    have h0 : 0 ≤ ((gt : Nat) : Int) * (oneU : Nat) := Int.mul_nonneg (by omega) (by omega)
    generalize sv (infR - 1) = BIG at *
    omega
  obtain ⟨fa, a1⟩ := fadd_err fg fh hb1
  rw [g1] at a1
  generalize hA : fadd .f64 (FloatKind.f64.nearest ((gt : Nat) : Int)) 4602678819172646912 = A at fa a1
  have htr : trF c gt = fmul .f64 A c := by rw [trF, hA]
  have abd : (fv A).natAbs ≤ 8192 * oneU := by
    have : ((gt : Nat) : Int) * (oneU : Nat) ≤ 4096 * (oneU : Nat) := Int.mul_le_mul_of_nonneg_right (by omega) (by omega)
    have h0 : 0 ≤ ((gt : Nat) : Int) * (oneU : Nat) := Int.mul_nonneg (by omega) (by omega)
    omega
  have hb2 : (fv A * fv c).natAbs ≤ sv (infR - 1) * oneU := prod_room abd (b := 1048576) (by omega) (Nat.le_trans (Nat.mul_le_mul_right _ (by decide)) hvast)
  obtain ⟨ft, t1⟩ := fmul_any fa fc hb2
  rw [← htr] at ft t1
  obtain ⟨T, hT⟩ : ∃ T, T = trF c gt := ⟨_, rfl⟩
  rw [← hT] at ft t1 ⊢
  have cpos : 0 < fv c := by omega
  have tb := prod_bound (T := fv T) (A := fv A) (C := fv c) (U := oneU) (a := 8192) (b := 1048576) (by omega) abd (by omega) (by decide) t1
  rw [show 2 * (8192 * 1048576) = 17179869184 from rfl] at tb
  have hb3 : (fv T).natAbs * oneU ≤ sv (infR - 1) * (fv c).natAbs := quot_room tb (by omega) (Nat.le_trans (Nat.mul_le_mul_right _ (by decide)) hvast)
  obtain ⟨fq, q1⟩ := fdiv_err ft fc cpos hb3
  -- the gate
  have hgat := gate_arith (U := (oneU : Nat)) (E := (eU : Nat)) (C := fv c) (a := fv A) (H := fv 4602678819172646912) (X := fv A * fv c) (Y := fv T * (oneU : Nat)) (Z := fv (fdiv .f64 T c) * fv c) (g := (gt : Nat))
    (by omega) (by omega) c1 (by omega) (by omega) hh a1 rfl (by rw [Int.natAbs_natCast]; exact t1)
    (by rw [Int.natAbs_mul (fv T), Int.natAbs_natCast]; exact q1)
  obtain ⟨z1, z2, z3, z4⟩ := hgat
  have Q1 : ((gt : Nat) : Int) * (oneU : Nat) ≤ fv (fdiv .f64 T c) := Int.le_of_mul_le_mul_right (by rw [Int.mul_assoc]; exact z1) cpos
  have Q2 : fv (fdiv .f64 T c) < (((gt : Nat) : Int) + 1) * (oneU : Nat) := Int.lt_of_mul_lt_mul_right (a := fv c) (by rw [Int.mul_assoc]; exact z2) (by omega)
  have hU0' : (0 : Int) < ((oneU : Nat) : Int) := by omega
  have Q0 : 0 < fv (fdiv .f64 T c) := by
    rcases Int.lt_trichotomy (fv (fdiv .f64 T c)) 0 with h | h | h
    · have := Int.mul_neg_of_neg_of_pos h cpos; omega
    · rw [h, Int.zero_mul] at z4; omega
    · exact h
  have T0 : 0 < fv T := by
    rcases Int.lt_trichotomy (fv T) 0 with h | h | h
    · have := Int.mul_neg_of_neg_of_pos h hU0'; omega
    · rw [h, Int.zero_mul] at z3; omega
    · exact h
  have hsg := pos_sign Q0
  have hwq := fq.word
  rw [hsg] at hwq
  obtain ⟨F, e1, e2, e3⟩ := floor_word fq.2 false
  simp only [Bool.false_eq_true, if_false] at e2 e3
  rw [← hwq] at e1
  have hfq : sw false (fdiv .f64 T c % 9223372036854775808) = fv (fdiv .f64 T c) := by rw [← hsg]; rfl
  rw [hfq] at e2 e3
  have hF : F = gt := by
    have h1 : ((F : Nat) : Int) < ((gt : Nat) : Int) + 1 := Int.lt_of_mul_lt_mul_right (a := ((oneU : Nat) : Int)) (by omega) (by omega)
    have h2 : ((gt : Nat) : Int) < ((F : Nat) : Int) + 1 := Int.lt_of_mul_lt_mul_right (a := ((oneU : Nat) : Int)) (by omega) (by omega)
    omega
  subst hF
  obtain ⟨d1, d2⟩ := rungN_int (F := F) (by omega)
  obtain ⟨fd, dv⟩ := word_fn (b := false) d1
  have hti := toInt_word d1 false d2 (by omega)
  simp only [Bool.false_eq_true, if_false] at hti
  have dv2 : fv (Ieee.double.word false (rungN F 0)) = ((F : Nat) : Int) * (oneU : Nat) := by
    rw [dv]; unfold sw; simp only [Bool.false_eq_true, if_false]; rw [d2]; exact Int.natCast_mul ..
  -- the angle
  have two := two_fn.2
  have hb5 : (fv 4611686018427387904 * fv T).natAbs ≤ sv (infR - 1) * oneU := prod_room (a := 2) (b := 17179869184) (by omega) tb (Nat.le_trans (Nat.mul_le_mul_right _ (by decide)) hvast)
  obtain ⟨f2, m2⟩ := fmul_any two_fn.1 ft hb5
  have tb2 := prod_bound (T := fv (fmul .f64 4611686018427387904 T)) (A := fv 4611686018427387904) (C := fv T) (U := oneU) (a := 2) (b := 17179869184) (by omega) (by omega) tb (by decide) m2
  rw [show 2 * (2 * 17179869184) = 68719476736 from rfl] at tb2
  have wpos : 0 < fv w := by omega
  have rpos : 0 < fv r := by omega
  have hb6 : (fv (fmul .f64 4611686018427387904 T)).natAbs * oneU ≤ sv (infR - 1) * (fv w).natAbs := quot_room tb2 (by omega) (Nat.le_trans (Nat.mul_le_mul_right _ (by decide)) hvast)
  obtain ⟨f3, -⟩ := fdiv_err f2 fw wpos hb6
  obtain ⟨f4, -⟩ := fsub_z zero_fn.1 f3 (.inl zero_fn.2)
  obtain ⟨f5, v5⟩ := wrap_fn f4
  refine ⟨_, _, ⟨by omega, zero_fn.1, ft, zero_fn.1, one_fn.1, zero_fn.1, fun p hp => ?_, ft, e1, (fge_fn fd zero_fn.1).2 ?_, (fle_fn fd lim_fn.1).2 ?_, hti, f4, rfl, f5⟩, v5⟩
  · have hpn : p * n ≤ 4096 := Nat.le_trans (Nat.mul_le_mul_right n (Nat.le_of_lt hp)) hmn
    obtain ⟨k1, k2⟩ := near_fn (d := ((p * n : Nat) : Int)) (by omega)
    have k3 : (fv (FloatKind.f64.nearest ((p * n : Nat) : Int))).natAbs ≤ 4096 * oneU := by
      rw [k2, Int.natAbs_mul, Int.natAbs_natCast, Int.natAbs_natCast]
      exact Nat.mul_le_mul_right _ hpn
    have hb7 : (fv (FloatKind.f64.nearest ((p * n : Nat) : Int))).natAbs * oneU ≤ sv (infR - 1) * (fv r).natAbs := quot_room k3 (by omega) (Nat.le_trans (Nat.mul_le_mul_right _ (by decide)) hvast)
    obtain ⟨k4, -⟩ := fdiv_err k1 fr rpos hb7
    obtain ⟨k5, -⟩ := fadd_z zero_fn.1 k4 (.inl zero_fn.2)
    obtain ⟨k6, k7⟩ := fmul_zero_l k5
    obtain ⟨k8, k9⟩ := fadd_z ft k6 (.inr k7)
    exact fv_inj k8 ft (by rw [k9, k7, Int.add_zero]) (by rw [k9, k7, Int.add_zero]; omega)
  · rw [zero_fn.2, dv2]
    exact Int.mul_nonneg (by omega) (by omega)
  · rw [lim_fn.2, dv2]
    exact Int.mul_le_mul_of_nonneg_right (by omega) (by omega)

end Go.Proofs.YtmfaodenkghmkaaGreat

/- Rows of one echo, compressed: what they are, but for a little. -/
namespace Go.Proofs.YtmfaodenkghmkaaGreat
open Go Go.Vam

/-- A pair of floats that tells two numbers; one that is near them. -/
def Ex (a : Cx) (u v : Int) : Prop := Vam.Fn a.1 ∧ Vam.Fn a.2 ∧ fv a.1 = u ∧ fv a.2 = v
def Nr (a : Cx) (u v : Int) (e : Nat) : Prop := Ap a.1 u e ∧ Ap a.2 v e
theorem Ex.nr {a : Cx} {u v : Int} (h : Ex a u v) : Nr a u v 0 := by
  obtain ⟨h1, h2, rfl, rfl⟩ := h
  exact ⟨.self h1, .self h2⟩
theorem Ex.zero : Ex (0, 0) 0 0 := ⟨zero_fn.1, zero_fn.1, zero_fn.2, zero_fn.2⟩
theorem oneF_fn : Vam.Fn oneF ∧ fv oneF = (oneU : Nat) := one_fn
theorem nonF_fn : Vam.Fn nonF ∧ fv nonF = -((oneU : Nat) : Int) := ⟨⟨by decide, by decide⟩, by decide +kernel⟩
theorem Ex.sca {a : Cx} {u v : Int} (h : Ex a u v) : Ex (scaC a oneF) u v := by
  obtain ⟨h1, h2, rfl, rfl⟩ := h
  obtain ⟨a1, a2⟩ := fmul_unit (σ := 1) h1 oneF_fn.1 (by rw [Int.one_mul]; exact oneF_fn.2) (.inl rfl)
  obtain ⟨b1, b2⟩ := fmul_unit (σ := 1) h2 oneF_fn.1 (by rw [Int.one_mul]; exact oneF_fn.2) (.inl rfl)
  exact ⟨a1, b1, a2.trans (Int.one_mul _), b2.trans (Int.one_mul _)⟩
theorem Ex.mul {a b : Cx} {u v σ : Int} (h : Ex a u v) (g : Ex b (σ * (oneU : Nat)) 0) (hσ : σ = 1 ∨ σ = -1 ∨ σ = 0) : Ex (mulC a b) (σ * u) (σ * v) := by
  obtain ⟨h1, h2, rfl, rfl⟩ := h
  obtain ⟨g1, g2, g3, g4⟩ := g
  obtain ⟨a1, a2⟩ := fmul_unit h1 g1 g3 hσ
  obtain ⟨b1, b2⟩ := fmul_unit (σ := 0) h2 g2 (by rw [g4, Int.zero_mul]) (.inr (.inr rfl))
  obtain ⟨c1, c2⟩ := fmul_unit (σ := 0) h1 g2 (by rw [g4, Int.zero_mul]) (.inr (.inr rfl))
  obtain ⟨d1, d2⟩ := fmul_unit h2 g1 g3 hσ
  rw [Int.zero_mul] at b2 c2
  obtain ⟨e1, e2⟩ := fsub_z a1 b1 (.inr b2)
  obtain ⟨f1, f2⟩ := fadd_z c1 d1 (.inl c2)
  exact ⟨e1, f1, by show fv (fsub .f64 _ _) = _; rw [e2, a2, b2]; omega, by show fv (fadd .f64 _ _) = _; rw [f2, c2, d2]; omega⟩
theorem Ex.add0 {b : Cx} {u v : Int} (h : Ex b u v) : Ex (addC (0, 0) b) u v := by
  obtain ⟨h1, h2, rfl, rfl⟩ := h
  obtain ⟨a1, a2⟩ := fadd_z zero_fn.1 h1 (.inl zero_fn.2)
  obtain ⟨b1, b2⟩ := fadd_z zero_fn.1 h2 (.inl zero_fn.2)
  rw [zero_fn.2, Int.zero_add] at a2 b2
  exact ⟨a1, b1, a2, b2⟩
theorem Ex.con {a : Cx} {u : Int} (h : Ex a u 0) : Ex (conC a) u 0 := by
  obtain ⟨h1, h2, rfl, h4⟩ := h
  obtain ⟨a1, a2⟩ := fneg_fn h2
  exact ⟨h1, a1, rfl, by rw [conC]; rw [a2, h4]; rfl⟩

/-! Barker's rows. -/
def sg (k x : Nat) : Int := if x < bkN k then (if bkP k x = true then 1 else -1) else 0
theorem sg_unit (k x : Nat) : sg k x = 1 ∨ sg k x = -1 ∨ sg k x = 0 := by
  unfold sg
  split
  · split
    · exact .inl rfl
    · exact .inr (.inl rfl)
  · exact .inr (.inr rfl)
theorem bk_ex {k x : Nat} (h : x < bkN k) : Ex (bkF k x) (sg k x * (oneU : Nat)) 0 := by
  unfold bkF sg
  rw [if_pos h]
  cases bkP k x with
  | true => exact ⟨oneF_fn.1, zero_fn.1, by simp [oneF_fn.2], zero_fn.2⟩
  | false => exact ⟨nonF_fn.1, zero_fn.1, by simp [nonF_fn.2], zero_fn.2⟩
def tau (k gt c : Nat) : Int := if gt ≤ c then sg k (c - gt) else 0
theorem tau_unit (k gt c : Nat) : tau k gt c = 1 ∨ tau k gt c = -1 ∨ tau k gt c = 0 := by
  unfold tau
  split
  · exact sg_unit _ _
  · exact .inr (.inr rfl)
theorem ec_ex {z : Cx} {u v : Int} {k gt m i c : Nat} (hz : Ex z u v) (hi : i < m) : Ex (ecF z (bkF k) gt (bkN k) m 0 i c) (tau k gt c * u) (tau k gt c * v) := by
  unfold ecF tau
  by_cases h : gt ≤ c
  · rw [if_pos h]
    by_cases h2 : c < gt + bkN k
    · rw [if_pos ⟨h, .inl ⟨hi, h2⟩⟩]
      exact (hz.mul (bk_ex (by omega)) (sg_unit _ _)).add0
    · rw [if_neg (by omega)]
      have : sg k (c - gt) = 0 := if_neg (by omega)
      rw [this, Int.zero_mul, Int.zero_mul]
      exact .zero
  · rw [if_neg h, if_neg (by omega), Int.zero_mul, Int.zero_mul]
    exact .zero
theorem ec_row {z : Cx} {g : Nat → Cx} {gt q m i : Nat} (hi : i < m) : ecF z g gt q m 0 i = ecF z g gt q m 0 0 := by
  funext c
  unfold ecF
  have : (gt ≤ c ∧ (i < m ∧ c < gt + q ∨ i = m ∧ c < gt + 0)) = (gt ≤ c ∧ (0 < m ∧ c < gt + q ∨ 0 = m ∧ c < gt + 0)) := by
    apply propext; omega
  simp only [this]

/-! Sums of signs. -/
def Sm (t : Nat → Int) : Nat → Int
  | 0 => 0
  | n + 1 => Sm t n + t n
theorem Sm_congr {t t' : Nat → Int} : ∀ {n : Nat}, (∀ j, j < n → t j = t' j) → Sm t n = Sm t' n
  | 0, _ => rfl
  | n + 1, h => by rw [Sm, Sm, Sm_congr (fun j hj => h j (by omega)), h n (by omega)]
theorem Sm_zero {t : Nat → Int} : ∀ {n : Nat}, (∀ j, j < n → t j = 0) → Sm t n = 0
  | 0, _ => rfl
  | n + 1, h => by rw [Sm, Sm_zero (fun j hj => h j (by omega)), h n (by omega)]; rfl
theorem Sm_more {t : Nat → Int} {n : Nat} : ∀ {j : Nat}, (∀ i, n ≤ i → i < n + j → t i = 0) → Sm t (n + j) = Sm t n
  | 0, _ => rfl
  | j + 1, h => by rw [← Nat.add_assoc, Sm, Sm_more (fun i h1 h2 => h i h1 (by omega)), h (n + j) (by omega) (by omega), Int.add_zero]
theorem Sm_le {t : Nat → Int} (ht : ∀ j, (t j).natAbs ≤ 1) : ∀ n, (Sm t n).natAbs ≤ n
  | 0 => Nat.le_refl _
  | n + 1 => by have h1 := Sm_le ht n; have h2 := ht n; rw [Sm]; omega

def upS (k δ j : Nat) : Int := sg k (δ + j) * sg k j
def dnS (k δ j : Nat) : Int := (if δ ≤ j then sg k (j - δ) else 0) * sg k j
theorem bk_check : ((List.range 8).all fun k => k == 0 || ((Sm (upS k 0) (bkN k) == (bkN k : Nat)) && (List.range 13).all fun δ => δ == 0 || (decide ((Sm (upS k δ) (bkN k)).natAbs ≤ 1) && decide ((Sm (dnS k δ) (bkN k)).natAbs ≤ 1)))) = true := by decide +kernel
theorem bk_facts {k : Nat} (hk : 1 ≤ k ∧ k ≤ 7) : Sm (upS k 0) (bkN k) = (bkN k : Nat) ∧ ∀ δ, 1 ≤ δ → δ < 13 → (Sm (upS k δ) (bkN k)).natAbs ≤ 1 ∧ (Sm (dnS k δ) (bkN k)).natAbs ≤ 1 := by
  have h := List.all_eq_true.1 bk_check k (List.mem_range.2 (by omega))
  have e : (k == 0) = false := by rw [beq_eq_false_iff_ne]; omega
  rw [e, Bool.false_or, Bool.and_eq_true] at h
  refine ⟨eq_of_beq h.1, fun δ h1 h2 => ?_⟩
  have g := List.all_eq_true.1 h.2 δ (List.mem_range.2 h2)
  have e : (δ == 0) = false := by rw [beq_eq_false_iff_ne]; omega
  rw [e, Bool.false_or, Bool.and_eq_true] at g
  exact ⟨of_decide_eq_true g.1, of_decide_eq_true g.2⟩

/-- How much of an echo a place has. -/
def corr (k gt n d : Nat) : Int := Sm (fun j => sg k j * tau k gt (d + j)) (min (n - d) (bkN k))
theorem corr_facts {k gt n d : Nat} (hk : 1 ≤ k ∧ k ≤ 7) (hq : gt + bkN k < n) (hd : d < n) : (d = gt → corr k gt n d = (bkN k : Nat)) ∧ (d ≠ gt → (corr k gt n d).natAbs ≤ 1) := by
  obtain ⟨f0, f1⟩ := bk_facts hk
  obtain ⟨hn2, hn13⟩ := bkN_le hk
  have hz : ∀ x, bkN k ≤ x → sg k x = 0 := fun x hx => if_neg (by omega)
  have full : corr k gt n d = Sm (fun j => sg k j * tau k gt (d + j)) (bkN k) := by
    unfold corr
    obtain ⟨j, hj⟩ : ∃ j, bkN k = min (n - d) (bkN k) + j := ⟨bkN k - min (n - d) (bkN k), by omega⟩
    conv => rhs; rw [hj]
    refine (Sm_more fun i h1 h2 => ?_).symm
    have h3 : tau k gt (d + i) = 0 := by
      unfold tau
      rw [if_pos (by omega)]
      exact hz _ (by omega)
    rw [h3, Int.mul_zero]
  rw [full]
  have up : gt ≤ d → Sm (fun j => sg k j * tau k gt (d + j)) (bkN k) = Sm (upS k (d - gt)) (bkN k) := fun h => Sm_congr fun j _ => by
    unfold tau upS
    rw [if_pos (by omega), show d + j - gt = d - gt + j by omega, Int.mul_comm]
  have dn : d < gt → Sm (fun j => sg k j * tau k gt (d + j)) (bkN k) = Sm (dnS k (gt - d)) (bkN k) := fun h => Sm_congr fun j _ => by
    unfold tau dnS
    by_cases hj : gt ≤ d + j
    · rw [if_pos hj, if_pos (by omega), show d + j - gt = j - (gt - d) by omega, Int.mul_comm]
    · rw [if_neg hj, if_neg (by omega), Int.mul_comm]
  refine ⟨fun h => ?_, fun h => ?_⟩
  · subst h
    rw [up (Nat.le_refl _), Nat.sub_self]
    exact f0
  · rcases Nat.lt_or_ge d gt with h1 | h1
    · rw [dn h1]
      rcases Nat.lt_or_ge (gt - d) 13 with h2 | h2
      · exact (f1 _ (by omega) h2).2
      · rw [Sm_zero fun j hj => by unfold dnS; rw [if_neg (by omega), Int.zero_mul]]
        decide
    · rw [up h1]
      rcases Nat.lt_or_ge (d - gt) 13 with h2 | h2
      · exact (f1 _ (by omega) h2).1
      · rw [Sm_zero fun j hj => by unfold upS; rw [hz _ (by omega), Int.zero_mul]]
        decide

/-- Sums of products that tell numbers. -/
theorem at_nr {f g : Nat → Cx} {t : Nat → Int} {u v : Int} (hu : u.natAbs ≤ 2 * oneU) (hv : v.natAbs ≤ 2 * oneU) (ht : ∀ j, (t j).natAbs ≤ 1) : ∀ N, N ≤ 13 → (∀ j, j < N → Ex (mulC (f j) (g j)) (t j * u) (t j * v)) → Nr (atF f g N) (Sm t N * u) (Sm t N * v) (27 * N)
  | 0, _, _ => by rw [Sm, Int.zero_mul, Int.zero_mul]; exact Ex.zero.nr
  | N + 1, hN, h => by
    have h1 := (h N (by omega)).nr
    unfold atF
    by_cases h0 : N = 0
    · subst h0
      rw [if_pos rfl, Sm, Sm, Int.zero_add]
      exact ⟨h1.1.mono (by omega), h1.2.mono (by omega)⟩
    · rw [if_neg h0]
      have ih := at_nr hu hv ht N (by omega) (fun j hj => h j (by omega))
      have hS := Sm_le ht (N + 1)
      have bd : ∀ x : Int, x.natAbs ≤ 2 * oneU → (Sm t N * x + t N * x).natAbs ≤ 26 * oneU := fun x hx => by
        rw [← Int.add_mul, Int.natAbs_mul]
        have e : Sm t N + t N = Sm t (N + 1) := rfl
        rw [e]
        have := Nat.mul_le_mul (show (Sm t (N + 1)).natAbs ≤ 13 by omega) hx
        omega
      rw [Sm, Int.add_mul, Int.add_mul]
      exact ⟨(ih.1.add h1.1 (bd u hu) (by decide) (by omega)).mono (by omega), (ih.2.add h1.2 (bd v hv) (by decide) (by omega)).mono (by omega)⟩

/-- A place of a compressed row. -/
theorem comp_nr {z : Cx} {u v : Int} {k gt m n i d : Nat} (hz : Ex z u v) (hu : u.natAbs ≤ 2 * oneU) (hv : v.natAbs ≤ 2 * oneU) (hk : 1 ≤ k ∧ k ≤ 7) (hi : i < m) :
    Nr (compF n (bkN k) (bkF k) (ecF z (bkF k) gt (bkN k) m 0) i d) (corr k gt n d * u) (corr k gt n d * v) 351 := by
  obtain ⟨hn2, hn13⟩ := bkN_le hk
  have h := at_nr (f := fun j => ecF z (bkF k) gt (bkN k) m 0 i (d + j)) (g := fun j => conC (bkF k j)) (t := fun j => sg k j * tau k gt (d + j)) hu hv (fun j => by
    rw [Int.natAbs_mul]
    have a1 := sg_unit k j
    have a2 := tau_unit k gt (d + j)
    rcases a1 with a1 | a1 | a1 <;> rcases a2 with a2 | a2 | a2 <;> rw [a1, a2] <;> decide) (min (n - d) (bkN k)) (by omega) (fun j hj => by
    have h1 := (ec_ex (k := k) (gt := gt) (c := d + j) hz hi).mul (bk_ex (k := k) (x := j) (by omega)).con (sg_unit _ _)
    rw [← Int.mul_assoc, ← Int.mul_assoc] at h1
    exact h1)
  exact ⟨h.1.mono (by omega), h.2.mono (by omega)⟩
theorem comp_row {z : Cx} {k gt m n i d : Nat} (hi : i < m) : compF n (bkN k) (bkF k) (ecF z (bkF k) gt (bkN k) m 0) i d = compF n (bkN k) (bkF k) (ecF z (bkF k) gt (bkN k) m 0) 0 d := by
  unfold compF
  rw [ec_row hi]

end Go.Proofs.YtmfaodenkghmkaaGreat

/- Turned numbers and their sums: how great they are. -/
namespace Go.Vam
open Go

theorem sq_nn (x : Int) : 0 ≤ x * x := by
  rcases Int.le_total 0 x with h | h
  · exact Int.mul_nonneg h h
  · exact Int.mul_nonneg_of_nonpos_of_nonpos h h
theorem abs_of_sq {x : Int} {a : Nat} (h : x * x ≤ (a : Nat) * (a : Nat)) : x.natAbs ≤ a := by
  have e : x * x = ((x.natAbs * x.natAbs : Nat) : Int) := by rw [Int.natCast_mul, Int.natAbs_mul_self']
  rw [e, ← Int.natCast_mul] at h
  exact Nat.mul_self_le_mul_self_iff.1 (by omega)
theorem mul_abs2 {x y : Int} {M Y : Int} (hx : x ≤ M) (hx' : -M ≤ x) (hy : y ≤ Y) (hy' : -Y ≤ y) (hM : 0 ≤ M) (hY : 0 ≤ Y) : x * y ≤ M * Y ∧ -(M * Y) ≤ x * y := by
  refine ⟨mul_abs_le hx' hx hy' hy hM hY, ?_⟩
  have := mul_abs_le (h := -x) (w := y) (M := M) (Y := Y) (by omega) (by omega) hy' hy hM hY
  rw [Int.neg_mul] at this
  omega

theorem dot_le {S1 S2 w1 w2 j W : Int} (hj : 1 ≤ j) (h1 : S1 * S1 + S2 * S2 ≤ j * j * W) (h2 : w1 * w1 + w2 * w2 ≤ W) : S1 * w1 + S2 * w2 ≤ j * W := by
  have h3 := sq_nn (S1 - j * w1)
  have h3' := sq_nn (S2 - j * w2)
  have h4 : j * j * (w1 * w1 + w2 * w2) ≤ j * j * W := Int.mul_le_mul_of_nonneg_left h2 (sq_nn j)
  have h5 : 2 * j * (S1 * w1 + S2 * w2) ≤ 2 * j * (j * W) := by grind
  exact Int.le_of_mul_le_mul_left h5 (by omega)

/-- A product with a point that lies nearly on the circle: how great it is. -/
theorem norm_up {U E B1 B2 c s W1 W2 : Int} (hU : U = 4503599627370496 * E) (hE : 4 ≤ E) (hc : c * c + s * s ≤ U * U + 1300 * (E * U)) (hB : B1 * B1 + B2 * B2 ≤ 400 * (U * U))
    (d1 : W1 * U - (B1 * c - B2 * s) ≤ 300 * (E * U)) (d1' : -(300 * (E * U)) ≤ W1 * U - (B1 * c - B2 * s)) (d2 : W2 * U - (B1 * s + B2 * c) ≤ 300 * (E * U)) (d2' : -(300 * (E * U)) ≤ W2 * U - (B1 * s + B2 * c)) :
    W1 * W1 + W2 * W2 ≤ B1 * B1 + B2 * B2 + 600000 * (E * U) := by
  have hU0 : 0 < U := by omega
  have hEU : 0 ≤ E * U := Int.mul_nonneg (by omega) (by omega)
  have hUU : 0 ≤ U * U := sq_nn U
  obtain ⟨P1, hP1⟩ : ∃ P1, P1 = B1 * c - B2 * s := ⟨_, rfl⟩
  obtain ⟨P2, hP2⟩ : ∃ P2, P2 = B1 * s + B2 * c := ⟨_, rfl⟩
  obtain ⟨D1, hD1⟩ : ∃ D1, D1 = W1 * U - P1 := ⟨_, rfl⟩
  obtain ⟨D2, hD2⟩ : ∃ D2, D2 = W2 * U - P2 := ⟨_, rfl⟩
  rw [← hP1, ← hD1] at d1 d1'
  rw [← hP2, ← hD2] at d2 d2'
  have hPP : P1 * P1 + P2 * P2 = (B1 * B1 + B2 * B2) * (c * c + s * s) := by rw [hP1, hP2]; grind
  have hBn : 0 ≤ B1 * B1 + B2 * B2 := by have := sq_nn B1; have := sq_nn B2; omega
  have hle : P1 * P1 + P2 * P2 ≤ (B1 * B1 + B2 * B2) * (U * U + 1300 * (E * U)) := by rw [hPP]; exact Int.mul_le_mul_of_nonneg_left hc hBn
  have hEU2 : 1000000 * (E * U) ≤ U * U := by
    have h : U * U = 4503599627370496 * E * U := congrArg (· * U) hU
    rw [Int.mul_assoc] at h
    omega
  have hP21 : P1 * P1 ≤ 21 * (U * U) * (21 * (U * U)) ∧ P2 * P2 ≤ 21 * (U * U) * (21 * (U * U)) := by
    have a1 : (B1 * B1 + B2 * B2) * (U * U + 1300 * (E * U)) ≤ 400 * (U * U) * (U * U + 1300 * (E * U)) := Int.mul_le_mul_of_nonneg_right hB (by omega)
    have a2 : 400 * (U * U) * (U * U + 1300 * (E * U)) ≤ 400 * (U * U) * (U * U + U * U) := Int.mul_le_mul_of_nonneg_left (by omega) (by omega)
    have a3 : U * U + 1300 * (E * U) ≤ U * U + U * U := by omega
    have q := sq_nn P1
    have q' := sq_nn P2
    have a4 : 400 * (U * U) * (U * U + 1300 * (E * U)) = 400 * (U * U * (U * U)) + 520000 * (U * U * (E * U)) := by grind
    have a5 : 1000000 * (U * U * (E * U)) ≤ U * U * (U * U) := by
      have := Int.mul_le_mul_of_nonneg_left hEU2 hUU
      have e : U * U * (1000000 * (E * U)) = 1000000 * (U * U * (E * U)) := by grind
      omega
    have a6 : 21 * (U * U) * (21 * (U * U)) = 441 * (U * U * (U * U)) := by grind
    have a7 := Int.mul_nonneg hUU hUU
    rw [a6]
    omega
  have p1 : P1 ≤ 21 * (U * U) ∧ -(21 * (U * U)) ≤ P1 := by
    have := abs_of_sq (x := P1) (a := (21 * (U * U)).toNat) (by rw [Int.toNat_of_nonneg (by omega)]; exact hP21.1)
    omega
  have p2 : P2 ≤ 21 * (U * U) ∧ -(21 * (U * U)) ≤ P2 := by
    have := abs_of_sq (x := P2) (a := (21 * (U * U)).toNat) (by rw [Int.toNat_of_nonneg (by omega)]; exact hP21.2)
    omega
  have m1 := (mul_abs2 p1.1 p1.2 d1 d1' (by omega) (by omega)).1
  have m2 := (mul_abs2 p2.1 p2.2 d2 d2' (by omega) (by omega)).1
  have m3 := (mul_abs2 d1 d1' d1 d1' (by omega) (by omega)).1
  have m4 := (mul_abs2 d2 d2' d2 d2' (by omega) (by omega)).1
  have k1 : (B1 * B1 + B2 * B2) * (E * U) ≤ 400 * (U * U) * (E * U) := Int.mul_le_mul_of_nonneg_right hB hEU
  have k2 : 1000000 * (E * U) * (E * U) ≤ U * U * (E * U) := Int.mul_le_mul_of_nonneg_right hEU2 hEU
  have hW : (W1 * W1 + W2 * W2) * (U * U) = P1 * P1 + P2 * P2 + 2 * (P1 * D1) + 2 * (P2 * D2) + D1 * D1 + D2 * D2 := by
    rw [hD1, hD2]; grind
  have k3 := Int.mul_nonneg hUU hEU
  have e1 : 21 * (U * U) * (300 * (E * U)) = 6300 * (U * U * (E * U)) := by grind
  have e2 : 300 * (E * U) * (300 * (E * U)) = 90000 * (E * U * (E * U)) := by grind
  have e3 : (B1 * B1 + B2 * B2) * (U * U + 1300 * (E * U)) = (B1 * B1 + B2 * B2) * (U * U) + 1300 * ((B1 * B1 + B2 * B2) * (E * U)) := by grind
  have e4 : 400 * (U * U) * (E * U) = 400 * (U * U * (E * U)) := by grind
  have e5 : 1000000 * (E * U) * (E * U) = 1000000 * (E * U * (E * U)) := by grind
  rw [e1] at m1 m2
  rw [e2] at m3 m4
  rw [e3] at hle
  rw [e4] at k1
  rw [e5] at k2
  have fin : (W1 * W1 + W2 * W2) * (U * U) ≤ (B1 * B1 + B2 * B2 + 600000 * (E * U)) * (U * U) := by
    have e6 : (B1 * B1 + B2 * B2 + 600000 * (E * U)) * (U * U) = (B1 * B1 + B2 * B2) * (U * U) + 600000 * (U * U * (E * U)) := by grind
    rw [e6, hW]
    omega
  exact Int.le_of_mul_le_mul_right fin (Int.mul_pos hU0 hU0)

/-- A product with a point to the left of one: how much of the number it has. -/
theorem dot_up {U E B1 B2 c s W1 W2 : Int} (hU0 : 0 < U) (hE : 0 ≤ E) (hB : B1 * B1 + B2 * B2 ≤ 400 * (U * U)) (hcl : 4096 * c ≤ 4095 * U)
    (d1 : W1 * U - (B1 * c - B2 * s) ≤ 300 * (E * U)) (d1' : -(300 * (E * U)) ≤ W1 * U - (B1 * c - B2 * s)) (d2 : W2 * U - (B1 * s + B2 * c) ≤ 300 * (E * U)) (d2' : -(300 * (E * U)) ≤ W2 * U - (B1 * s + B2 * c)) :
    4096 * (B1 * W1 + B2 * W2) ≤ 4095 * (B1 * B1 + B2 * B2) + 60000000 * (E * U) := by
  have hEU : 0 ≤ E * U := Int.mul_nonneg hE (by omega)
  obtain ⟨D1, hD1⟩ : ∃ D1, D1 = W1 * U - (B1 * c - B2 * s) := ⟨_, rfl⟩
  obtain ⟨D2, hD2⟩ : ∃ D2, D2 = W2 * U - (B1 * s + B2 * c) := ⟨_, rfl⟩
  rw [← hD1] at d1 d1'
  rw [← hD2] at d2 d2'
  have q1 := sq_nn B1
  have q2 := sq_nn B2
  have e0 : 20 * U * (20 * U) = 400 * (U * U) := by grind
  have b1 := abs_of_sq (x := B1) (a := (20 * U).toNat) (by rw [Int.toNat_of_nonneg (by omega), e0]; omega)
  have b2 := abs_of_sq (x := B2) (a := (20 * U).toNat) (by rw [Int.toNat_of_nonneg (by omega), e0]; omega)
  have m1 := (mul_abs2 (x := B1) (y := D1) (M := 20 * U) (Y := 300 * (E * U)) (by omega) (by omega) d1 d1' (by omega) (by omega)).1
  have m2 := (mul_abs2 (x := B2) (y := D2) (M := 20 * U) (Y := 300 * (E * U)) (by omega) (by omega) d2 d2' (by omega) (by omega)).1
  have e1 : 20 * U * (300 * (E * U)) = 6000 * (E * U * U) := by grind
  rw [e1] at m1 m2
  have k := Int.mul_le_mul_of_nonneg_left (c := B1 * B1 + B2 * B2) hcl (by omega)
  have e2 : (B1 * B1 + B2 * B2) * (4096 * c) = 4096 * ((B1 * B1 + B2 * B2) * c) := by grind
  have e3 : (B1 * B1 + B2 * B2) * (4095 * U) = 4095 * ((B1 * B1 + B2 * B2) * U) := by grind
  rw [e2, e3] at k
  have e4 : (B1 * W1 + B2 * W2) * U = (B1 * B1 + B2 * B2) * c + B1 * D1 + B2 * D2 := by rw [hD1, hD2]; grind
  have hk := Int.mul_nonneg hEU (show 0 ≤ U by omega)
  have fin : 4096 * (B1 * W1 + B2 * W2) * U ≤ (4095 * (B1 * B1 + B2 * B2) + 60000000 * (E * U)) * U := by
    have e5 : 4096 * (B1 * W1 + B2 * W2) * U = 4096 * ((B1 * W1 + B2 * W2) * U) := by grind
    have e6 : (4095 * (B1 * B1 + B2 * B2) + 60000000 * (E * U)) * U = 4095 * ((B1 * B1 + B2 * B2) * U) + 60000000 * (E * U * U) := by grind
    rw [e5, e6, e4]
    omega
  exact Int.le_of_mul_le_mul_right fin hU0

end Go.Vam

/- Sums of turned numbers: their floats, their powers. -/
namespace Go.Proofs.YtmfaodenkghmkaaGreat
open Go Go.Vam

theorem prod_err {D M U E ab : Nat} (hU : U = 4503599627370496 * E) (hE : 4 ≤ E) (hD : D * 2251799813685248 ≤ M + U * 4503599627370496) (hM : M ≤ ab * U * U) : D ≤ (2 * ab + 1) * (E * U) := by
  have e : ab * U * U = 4503599627370496 * (ab * (E * U)) := by
    have h : ab * U = ab * (4503599627370496 * E) := congrArg (ab * ·) hU
    rw [h]; grind
  have h4 : 4 * U ≤ E * U := Nat.mul_le_mul_right _ hE
  have e2 : (2 * ab + 1) * (E * U) = 2 * (ab * (E * U)) + E * U := by grind
  rw [e2]
  rw [e] at hM
  generalize ab * (E * U) = Y at *
  generalize E * U = Z at *
  omega
theorem sum_err {D M U E k : Nat} (hU : U = 4503599627370496 * E) (hD : D * 4503599627370496 ≤ M) (hM : M ≤ k * U) : D ≤ k * E := by
  have e : k * U = 4503599627370496 * (k * E) := by
    have h : k * U = k * (4503599627370496 * E) := congrArg (k * ·) hU
    rw [h]; grind
  rw [e] at hM
  generalize k * E = Y at *
  omega
theorem two_side {x : Int} {k a b : Nat} (h : x.natAbs ≤ k * (a * b)) : x ≤ (k : Int) * ((a : Int) * (b : Int)) ∧ -((k : Int) * ((a : Int) * (b : Int))) ≤ x := by
  have e : ((k * (a * b) : Nat) : Int) = (k : Int) * ((a : Int) * (b : Int)) := by push_cast; rfl
  rw [← e]
  omega
theorem two_side1 {x : Int} {k a : Nat} (h : x.natAbs ≤ k * a) : x ≤ (k : Int) * (a : Int) ∧ -((k : Int) * (a : Int)) ≤ x := by
  have e : ((k * a : Nat) : Int) = (k : Int) * (a : Int) := by push_cast; rfl
  rw [← e]
  omega

theorem mulU {x y a b : Nat} (hx : Vam.Fn x) (hy : Vam.Fn y) (ha : (fv x).natAbs ≤ a * oneU) (hb : (fv y).natAbs ≤ b * oneU) (h1 : 1 ≤ a * b) (hab : a * b ≤ 67108864) :
    Vam.Fn (fmul .f64 x y) ∧ (fv (fmul .f64 x y) * (oneU : Nat) - fv x * fv y).natAbs ≤ (2 * (a * b) + 1) * (eU * oneU) ∧ (fv (fmul .f64 x y)).natAbs ≤ 2 * (a * b) * oneU := by
  have hbig : (fv x * fv y).natAbs ≤ sv (infR - 1) * oneU := prod_room ha hb (Nat.le_trans (Nat.mul_le_mul_right _ (by omega : a * b ≤ 1180591620717411303424)) vast_oneU)
  obtain ⟨f, h⟩ := fmul_any hx hy hbig
  have hU := one_eU
  have hE := eU_big
  refine ⟨f, prod_err hU hE h ?_, prod_bound (by omega) ha hb h1 h⟩
  rw [Int.natAbs_mul]
  have := Nat.mul_le_mul ha hb
  have e : a * oneU * (b * oneU) = a * b * oneU * oneU := by grind
  rw [← e]; exact this

theorem addU {x y k : Nat} (hx : Vam.Fn x) (hy : Vam.Fn y) (h : (fv x + fv y).natAbs ≤ k * oneU) (hk : k ≤ 1152921504606846976) : Vam.Fn (fadd .f64 x y) ∧ (fv (fadd .f64 x y) - (fv x + fv y)).natAbs ≤ k * eU := by
  obtain ⟨f, h1⟩ := fadd_err hx hy (Nat.le_trans h (Nat.le_trans (Nat.mul_le_mul_right _ (by omega : k ≤ 1180591620717411303424)) vast_oneU))
  exact ⟨f, sum_err one_eU h1 h⟩
theorem subU {x y k : Nat} (hx : Vam.Fn x) (hy : Vam.Fn y) (h : (fv x - fv y).natAbs ≤ k * oneU) (hk : k ≤ 1152921504606846976) : Vam.Fn (fsub .f64 x y) ∧ (fv (fsub .f64 x y) - (fv x - fv y)).natAbs ≤ k * eU := by
  obtain ⟨f, h1⟩ := fsub_err hx hy (Nat.le_trans h (Nat.le_trans (Nat.mul_le_mul_right _ (by omega : k ≤ 1180591620717411303424)) vast_oneU))
  exact ⟨f, sum_err one_eU h1 h⟩

/-- A product with a point near the circle. -/
theorem cmul_near {b : Cx} {B1 B2 : Int} {c s : Nat} (h : Ex b B1 B2) (h1 : B1.natAbs ≤ 14 * oneU) (h2 : B2.natAbs ≤ 14 * oneU) (hc : Vam.Fn c) (hs : Vam.Fn s) (c2 : (fv c).natAbs ≤ 2 * oneU) (s2 : (fv s).natAbs ≤ 2 * oneU) :
    ∃ W1 W2, Ex (mulC b (c, s)) W1 W2 ∧ (W1 * (oneU : Nat) - (B1 * fv c - B2 * fv s) ≤ 300 * ((eU : Nat) * (oneU : Nat)) ∧ -(300 * (((eU : Nat) : Int) * (oneU : Nat))) ≤ W1 * (oneU : Nat) - (B1 * fv c - B2 * fv s)) ∧
      (W2 * (oneU : Nat) - (B1 * fv s + B2 * fv c) ≤ 300 * ((eU : Nat) * (oneU : Nat)) ∧ -(300 * (((eU : Nat) : Int) * (oneU : Nat))) ≤ W2 * (oneU : Nat) - (B1 * fv s + B2 * fv c)) := by
  obtain ⟨f1, f2, rfl, rfl⟩ := h
  obtain ⟨a1, a2, a3⟩ := mulU f1 hc h1 c2 (by decide) (by decide)
  obtain ⟨b1, b2, b3⟩ := mulU f2 hs h2 s2 (by decide) (by decide)
  obtain ⟨d1, d2, d3⟩ := mulU f1 hs h1 s2 (by decide) (by decide)
  obtain ⟨g1, g2, g3⟩ := mulU f2 hc h2 c2 (by decide) (by decide)
  obtain ⟨p1, p2⟩ := subU (k := 112) a1 b1 (by omega) (by decide)
  obtain ⟨q1, q2⟩ := addU (k := 112) d1 g1 (by omega) (by decide)
  refine ⟨_, _, ⟨p1, q1, rfl, rfl⟩, ?_, ?_⟩
  · have t2 := two_side a2
    have u2 := two_side b2
    have v2 := two_side1 p2
    simp only [Nat.reduceMul, Nat.reduceAdd] at t2 u2 v2
    have k1 := Int.mul_le_mul_of_nonneg_right (c := ((oneU : Nat) : Int)) v2.1 (by omega)
    have k2 := Int.mul_le_mul_of_nonneg_right (c := ((oneU : Nat) : Int)) v2.2 (by omega)
    have e : (fv (fsub .f64 (fmul .f64 b.1 c) (fmul .f64 b.2 s)) - (fv (fmul .f64 b.1 c) - fv (fmul .f64 b.2 s))) * ((oneU : Nat) : Int) = fv (fsub .f64 (fmul .f64 b.1 c) (fmul .f64 b.2 s)) * (oneU : Nat) - fv (fmul .f64 b.1 c) * (oneU : Nat) + fv (fmul .f64 b.2 s) * (oneU : Nat) := by grind
    rw [e] at k1 k2
    rw [Int.neg_mul] at k2
    have e2 : ((112 : Nat) : Int) * (eU : Nat) * (oneU : Nat) = 112 * (((eU : Nat) : Int) * (oneU : Nat)) := by rw [Int.mul_assoc]; rfl
    rw [e2] at k1 k2
    have hEU : 0 ≤ ((eU : Nat) : Int) * (oneU : Nat) := Int.mul_nonneg (by omega) (by omega)
    show fv (fsub .f64 (fmul .f64 b.1 c) (fmul .f64 b.2 s)) * ((oneU : Nat) : Int) - _ ≤ _ ∧ -_ ≤ fv (fsub .f64 (fmul .f64 b.1 c) (fmul .f64 b.2 s)) * ((oneU : Nat) : Int) - _
    generalize ((eU : Nat) : Int) * (oneU : Nat) = Z at *
    generalize fv (fsub .f64 (fmul .f64 b.1 c) (fmul .f64 b.2 s)) * ((oneU : Nat) : Int) = S at *
    generalize fv (fmul .f64 b.1 c) * ((oneU : Nat) : Int) = S1 at *
    generalize fv (fmul .f64 b.2 s) * ((oneU : Nat) : Int) = S2 at *
    omega
  · have t2 := two_side d2
    have u2 := two_side g2
    have v2 := two_side1 q2
    simp only [Nat.reduceMul, Nat.reduceAdd] at t2 u2 v2
    have k1 := Int.mul_le_mul_of_nonneg_right (c := ((oneU : Nat) : Int)) v2.1 (by omega)
    have k2 := Int.mul_le_mul_of_nonneg_right (c := ((oneU : Nat) : Int)) v2.2 (by omega)
    have e : (fv (fadd .f64 (fmul .f64 b.1 s) (fmul .f64 b.2 c)) - (fv (fmul .f64 b.1 s) + fv (fmul .f64 b.2 c))) * ((oneU : Nat) : Int) = fv (fadd .f64 (fmul .f64 b.1 s) (fmul .f64 b.2 c)) * (oneU : Nat) - fv (fmul .f64 b.1 s) * (oneU : Nat) - fv (fmul .f64 b.2 c) * (oneU : Nat) := by grind
    rw [e] at k1 k2
    rw [Int.neg_mul] at k2
    have e2 : ((112 : Nat) : Int) * (eU : Nat) * (oneU : Nat) = 112 * (((eU : Nat) : Int) * (oneU : Nat)) := by rw [Int.mul_assoc]; rfl
    rw [e2] at k1 k2
    have hEU : 0 ≤ ((eU : Nat) : Int) * (oneU : Nat) := Int.mul_nonneg (by omega) (by omega)
    show fv (fadd .f64 (fmul .f64 b.1 s) (fmul .f64 b.2 c)) * ((oneU : Nat) : Int) - _ ≤ _ ∧ -_ ≤ fv (fadd .f64 (fmul .f64 b.1 s) (fmul .f64 b.2 c)) * ((oneU : Nat) : Int) - _
    generalize ((eU : Nat) : Int) * (oneU : Nat) = Z at *
    generalize fv (fadd .f64 (fmul .f64 b.1 s) (fmul .f64 b.2 c)) * ((oneU : Nat) : Int) = S at *
    generalize fv (fmul .f64 b.1 s) * ((oneU : Nat) : Int) = S1 at *
    generalize fv (fmul .f64 b.2 c) * ((oneU : Nat) : Int) = S2 at *
    omega

/-- Sums of floats near sums of numbers. -/
theorem Sm_bd {W : Nat → Int} {A m : Nat} (h : ∀ k, k < m → (W k).natAbs ≤ A * oneU) : ∀ j, j ≤ m → (Sm W j).natAbs ≤ j * (A * oneU)
  | 0, _ => Nat.zero_le _
  | j + 1, hj => by
    have h1 := Sm_bd h j (by omega)
    have h2 := h j (by omega)
    rw [Sm, Nat.succ_mul]
    omega
theorem sum_nr {g : Nat → Cx} {W1 W2 : Nat → Int} {A m : Nat} (hm : m ≤ 256) (hA : A ≤ 1000) (h : ∀ k, k < m → Ex (g k) (W1 k) (W2 k)) (b1 : ∀ k, k < m → (W1 k).natAbs ≤ A * oneU) (b2 : ∀ k, k < m → (W2 k).natAbs ≤ A * oneU) :
    ∀ j, j ≤ m → Nr (sumF g j) (Sm W1 j) (Sm W2 j) ((256 * A + 1) * j)
  | 0, _ => ⟨Ex.zero.nr.1, Ex.zero.nr.2⟩
  | j + 1, hj => by
    have h1 := (h j (by omega)).nr
    unfold sumF
    by_cases h0 : j = 0
    · subst h0
      rw [if_pos rfl, Sm, Sm, Sm, Sm, Int.zero_add, Int.zero_add]
      exact ⟨h1.1.mono (by omega), h1.2.mono (by omega)⟩
    · rw [if_neg h0]
      have ih := sum_nr hm hA h b1 b2 j (by omega)
      have hk : (256 * A + 1) * j ≤ 256001 * 256 := Nat.mul_le_mul (by omega) (by omega)
      have bd : ∀ W : Nat → Int, (∀ k, k < m → (W k).natAbs ≤ A * oneU) → (Sm W j + W j).natAbs ≤ 256 * A * oneU := fun W hW => by
        have h3 := Sm_bd hW (j + 1) hj
        rw [Sm] at h3
        rw [Nat.mul_assoc]
        exact Nat.le_trans h3 (Nat.mul_le_mul_right _ (by omega))
      have e : (256 * A + 1) * j + 0 + 256 * A + 1 = (256 * A + 1) * (j + 1) := by grind
      rw [Sm, Sm, ← e]
      exact ⟨ih.1.add h1.1 (bd W1 b1) (by omega) (by omega), ih.2.add h1.2 (bd W2 b2) (by omega) (by omega)⟩

/-- A power near its number. -/
theorem pow_near {a : Cx} {X Y : Int} (h : Ex a X Y) (h1 : X.natAbs ≤ 5200 * oneU) (h2 : Y.natAbs ≤ 5200 * oneU) :
    Vam.Fn (abs2F a.1 a.2) ∧ fv (abs2F a.1 a.2) * (oneU : Nat) - (X * X + Y * Y) ≤ 300000000 * ((eU : Nat) * (oneU : Nat)) ∧ -(300000000 * (((eU : Nat) : Int) * (oneU : Nat))) ≤ fv (abs2F a.1 a.2) * (oneU : Nat) - (X * X + Y * Y) := by
  obtain ⟨f1, f2, rfl, rfl⟩ := h
  obtain ⟨a1, a2, a3⟩ := mulU f1 f1 h1 h1 (by decide) (by decide)
  obtain ⟨b1, b2, b3⟩ := mulU f2 f2 h2 h2 (by decide) (by decide)
  obtain ⟨p1, p2⟩ := addU (k := 108160000) a1 b1 (by omega) (by decide)
  refine ⟨p1, ?_⟩
  have t2 := two_side a2
  have u2 := two_side b2
  have v2 := two_side1 p2
  simp only [Nat.reduceMul, Nat.reduceAdd] at t2 u2 v2
  have k1 := Int.mul_le_mul_of_nonneg_right (c := ((oneU : Nat) : Int)) v2.1 (by omega)
  have k2 := Int.mul_le_mul_of_nonneg_right (c := ((oneU : Nat) : Int)) v2.2 (by omega)
  have e : (fv (fadd .f64 (fmul .f64 a.1 a.1) (fmul .f64 a.2 a.2)) - (fv (fmul .f64 a.1 a.1) + fv (fmul .f64 a.2 a.2))) * ((oneU : Nat) : Int) = fv (fadd .f64 (fmul .f64 a.1 a.1) (fmul .f64 a.2 a.2)) * (oneU : Nat) - fv (fmul .f64 a.1 a.1) * (oneU : Nat) - fv (fmul .f64 a.2 a.2) * (oneU : Nat) := by grind
  rw [e] at k1 k2
  rw [Int.neg_mul] at k2
  have e2 : ((108160000 : Nat) : Int) * (eU : Nat) * (oneU : Nat) = 108160000 * (((eU : Nat) : Int) * (oneU : Nat)) := by rw [Int.mul_assoc]; rfl
  rw [e2] at k1 k2
  have hEU : 0 ≤ ((eU : Nat) : Int) * (oneU : Nat) := Int.mul_nonneg (by omega) (by omega)
  show fv (fadd .f64 (fmul .f64 a.1 a.1) (fmul .f64 a.2 a.2)) * ((oneU : Nat) : Int) - _ ≤ _ ∧ -_ ≤ fv (fadd .f64 (fmul .f64 a.1 a.1) (fmul .f64 a.2 a.2)) * ((oneU : Nat) : Int) - _
  generalize ((eU : Nat) : Int) * (oneU : Nat) = Z at *
  generalize fv (fadd .f64 (fmul .f64 a.1 a.1) (fmul .f64 a.2 a.2)) * ((oneU : Nat) : Int) = S at *
  generalize fv (fmul .f64 a.1 a.1) * ((oneU : Nat) : Int) = S1 at *
  generalize fv (fmul .f64 a.2 a.2) * ((oneU : Nat) : Int) = S2 at *
  omega

end Go.Proofs.YtmfaodenkghmkaaGreat

/- A column's transform: how great its powers are. -/
namespace Go.Proofs.YtmfaodenkghmkaaGreat
open Go Go.Vam

/-! Units. -/
theorem quot_zero {n : Nat} (hn : 1 ≤ n ∧ n ≤ 256) : fdiv .f64 0 (FloatKind.f64.nearest ((n : Nat) : Int)) = 0 := by
  obtain ⟨w, h1, h2, h3⟩ := nearest_int ((n : Nat) : Int) (by omega)
  have hw : w ≠ 0 := by
    rintro rfl
    rw [sv_zero] at h2
    have := Nat.mul_pos (show 0 < ((n : Nat) : Int).natAbs by omega) oneU_pos
    omega
  obtain ⟨z, g1, g2⟩ := div_rn (r := 0) (p := w) (by decide) h3 hw
  have hz : z = 0 := Nat.le_zero.1 (g2.le 0 (by rw [sv_zero, Nat.zero_mul, Nat.zero_mul]; exact Nat.le_refl _))
  have h0 : (0 : Nat) = Ieee.double.word false 0 := by decide
  rw [h1, decide_eq_false (by omega)]
  conv => lhs; arg 2; rw [h0]
  rw [g1, hz]
  decide
theorem near_zero : FloatKind.f64.nearest 0 = 0 := by decide
theorem turn_zero : turnC (wrapF 0) = oneF ∧ turnS (wrapF 0) = 0 := by decide +kernel
theorem cen_zero {n : Int} (hn : 1 ≤ n) : cenI 0 n = 0 := by
  rw [cenI_zero hn]
  unfold cen1
  simp
theorem uN_zero {m : Nat} (hm : 1 ≤ m ∧ m ≤ 256) : uN m 0 = (oneF, 0) := by
  unfold uN uC uS qF
  have e : (-((0 : Nat) : Int)) = 0 := rfl
  rw [e, cen_zero (by omega), near_zero, quot_zero hm, turn_zero.1, turn_zero.2]
theorem uN_on {m t : Nat} (hm : 1 ≤ m ∧ m ≤ 256) : OnC (uN m t).1 (uN m t).2 := (unit_on (n := ((m : Nat) : Int)) (by omega) (cenI_bd (by omega))).1
theorem uN_left {m t : Nat} (hm : 1 ≤ m ∧ m ≤ 256) (h0 : 0 < t) (h1 : t < m) : 4096 * fv (uN m t).1 ≤ 4095 * (oneU : Nat) := by
  refine (unit_on (n := ((m : Nat) : Int)) (by omega) (cenI_bd (by omega))).2 ?_
  intro h
  rw [cenI_zero (by omega)] at h
  unfold cen1 at h
  have e : (-((t : Nat) : Int)).tmod ((m : Nat) : Int) = -((t : Nat) : Int) := by
    rw [Int.neg_tmod, Int.tmod_eq_of_lt (by omega) (by omega)]
  rw [e, if_pos (by omega)] at h
  omega
theorem on_sq {c s : Nat} (h : OnC c s) : fv c * fv c + fv s * fv s ≤ (oneU : Nat) * (oneU : Nat) + 1300 * (((eU : Nat) : Int) * (oneU : Nat)) := by
  have h3 := h.2.2
  rw [Nat.mul_assoc] at h3
  have := two_side h3
  generalize ((oneU : Nat) : Int) * (oneU : Nat) = UU at *
  omega
theorem UU_EU : ((oneU : Nat) : Int) * (oneU : Nat) = 4503599627370496 * (((eU : Nat) : Int) * (oneU : Nat)) := by
  have h : ((oneU : Nat) : Int) = 4503599627370496 * ((eU : Nat) : Int) := by have := one_eU; omega
  rw [← Int.mul_assoc]
  exact congrArg (· * ((oneU : Nat) : Int)) h
theorem EU_pos : 0 < ((eU : Nat) : Int) * (oneU : Nat) := Int.mul_pos (by have := eU_big; omega) (by have := oneU_pos; omega)
theorem abs_le_sq {x : Int} {a : Nat} (h : x * x ≤ (a * a : Nat) * (((oneU : Nat) : Int) * (oneU : Nat))) : x.natAbs ≤ a * oneU := by
  refine abs_of_sq ?_
  have e : (((a * oneU : Nat) : Int)) * ((a * oneU : Nat) : Int) = ((a * a : Nat) : Int) * (((oneU : Nat) : Int) * (oneU : Nat)) := by push_cast; grind
  rw [e]; exact h
theorem on_abs {c s : Nat} (h : OnC c s) : (fv c).natAbs ≤ 2 * oneU ∧ (fv s).natAbs ≤ 2 * oneU := by
  have h1 := on_sq h
  have h2 := UU_EU
  have h3 := EU_pos
  have q1 := sq_nn (fv c)
  have q2 := sq_nn (fv s)
  constructor
  · refine abs_le_sq ?_
    simp only [Nat.reduceMul]
    generalize ((oneU : Nat) : Int) * (oneU : Nat) = UU at *
    omega
  · refine abs_le_sq ?_
    simp only [Nat.reduceMul]
    generalize ((oneU : Nat) : Int) * (oneU : Nat) = UU at *
    omega

/-! Sums of numbers. -/
theorem sum_up {W1 W2 : Nat → Int} {Q : Int} {m : Nat} (h : ∀ k, k < m → W1 k * W1 k + W2 k * W2 k ≤ Q) : ∀ j : Nat, j ≤ m → Sm W1 j * Sm W1 j + Sm W2 j * Sm W2 j ≤ (j : Int) * (j : Int) * Q
  | 0, _ => by simp [Sm]
  | j + 1, hj => by
    have ih := sum_up h j (by omega)
    have hw := h j (by omega)
    rw [Sm, Sm]
    generalize Sm W1 j = S1 at *
    generalize Sm W2 j = S2 at *
    by_cases h0 : j = 0
    · subst h0
      simp only [Int.natCast_zero, Int.zero_mul] at ih
      have q1 := sq_nn S1
      have q2 := sq_nn S2
      have e1 : S1 = 0 := by
        rcases Int.mul_eq_zero.1 (show S1 * S1 = 0 by omega) with h | h <;> exact h
      have e2 : S2 = 0 := by
        rcases Int.mul_eq_zero.1 (show S2 * S2 = 0 by omega) with h | h <;> exact h
      subst e1 e2
      simpa using hw
    · have hd := dot_le (j := (j : Int)) (by omega) ih hw
      push_cast
      grind
theorem sum_gap {W1 W2 : Nat → Int} {Q G : Int} {m : Nat} (h : ∀ k, k < m → W1 k * W1 k + W2 k * W2 k ≤ Q) (h2 : 4096 * (Sm W1 2 * Sm W1 2 + Sm W2 2 * Sm W2 2) ≤ 4096 * (4 * Q) - G) :
    ∀ j : Nat, j + 2 ≤ m → 4096 * (Sm W1 (j + 2) * Sm W1 (j + 2) + Sm W2 (j + 2) * Sm W2 (j + 2)) ≤ 4096 * (((j + 2 : Nat) : Int) * ((j + 2 : Nat) : Int) * Q) - G
  | 0, _ => by simpa using h2
  | j + 1, hj => by
    have ih := sum_gap h h2 j (by omega)
    have hu := sum_up h (j + 2) (by omega)
    have hw := h (j + 2) (by omega)
    have e : j + 1 + 2 = (j + 2) + 1 := by omega
    have s1 : Sm W1 (j + 2 + 1) = Sm W1 (j + 2) + W1 (j + 2) := rfl
    have s2 : Sm W2 (j + 2 + 1) = Sm W2 (j + 2) + W2 (j + 2) := rfl
    rw [e, s1, s2]
    have eJ : ((j + 2 + 1 : Nat) : Int) = ((j + 2 : Nat) : Int) + 1 := rfl
    rw [eJ]
    have hJ : (1 : Int) ≤ ((j + 2 : Nat) : Int) := by omega
    clear s1 s2 e eJ h h2
    generalize Sm W1 (j + 2) = S1 at *
    generalize Sm W2 (j + 2) = S2 at *
    generalize W1 (j + 2) = w1 at *
    generalize W2 (j + 2) = w2 at *
    generalize ((j + 2 : Nat) : Int) = J at *
    have hd := dot_le hJ hu hw
    have e1 : (S1 + w1) * (S1 + w1) + (S2 + w2) * (S2 + w2) = (S1 * S1 + S2 * S2) + 2 * (S1 * w1 + S2 * w2) + (w1 * w1 + w2 * w2) := by grind
    have e2 : (J + 1) * (J + 1) * Q = J * J * Q + 2 * (J * Q) + Q := by grind
    rw [e1, e2]
    omega
theorem sq_err {S X U E a k : Int} (hU : 0 ≤ U) (hE : 0 ≤ E) (ha : 0 ≤ a) (hk : 0 ≤ k) (h1 : X - S ≤ k * E) (h2 : -(k * E) ≤ X - S) (h3 : S ≤ a * U) (h4 : -(a * U) ≤ S) (h5 : k * E ≤ U) :
    X * X - S * S ≤ k * (2 * a + 1) * (E * U) ∧ -(k * (2 * a + 1) * (E * U)) ≤ X * X - S * S := by
  have hkE := Int.mul_nonneg hk hE
  have haU := Int.mul_nonneg ha hU
  have e2 : (2 * a + 1) * U = 2 * (a * U) + U := by grind
  have h := mul_abs2 (x := X - S) (y := X + S) (M := k * E) (Y := (2 * a + 1) * U) h1 h2 (by rw [e2]; omega) (by rw [e2]; omega) hkE (by rw [e2]; omega)
  have e3 : (X - S) * (X + S) = X * X - S * S := by grind
  have e4 : k * E * ((2 * a + 1) * U) = k * (2 * a + 1) * (E * U) := by grind
  rw [e3, e4] at h
  exact h

end Go.Proofs.YtmfaodenkghmkaaGreat

/- A column's transform: its powers. -/
namespace Go.Proofs.YtmfaodenkghmkaaGreat
open Go Go.Vam

theorem sumF_congr {g g' : Nat → Cx} : ∀ {n : Nat}, (∀ k, k < n → g k = g' k) → sumF g n = sumF g' n
  | 0, _ => rfl
  | n + 1, h => by unfold sumF; rw [sumF_congr (fun k hk => h k (by omega)), h n (by omega)]
                   split
                   · rename_i h0; subst h0; rw [h 0 (by omega)]
                   · rfl
def trmF (bb : Cx) (m p k : Nat) : Cx := mulC bb (uN m (p * k % m))
theorem sq_of_abs {x : Int} {a : Nat} (h : x.natAbs ≤ a * oneU) : x * x ≤ (a * a : Nat) * (((oneU : Nat) : Int) * (oneU : Nat)) := by
  have h2 := Nat.mul_le_mul h h
  have e : x * x = ((x.natAbs * x.natAbs : Nat) : Int) := by rw [Int.natCast_mul, Int.natAbs_mul_self']
  have e2 : ((a * oneU * (a * oneU) : Nat) : Int) = (a * a : Nat) * (((oneU : Nat) : Int) * (oneU : Nat)) := by push_cast; grind
  rw [e, ← e2]
  omega

theorem trm_all {bb : Cx} {B1 B2 : Int} {m p k : Nat} (hb : Ex bb B1 B2) (h1 : B1.natAbs ≤ 14 * oneU) (h2 : B2.natAbs ≤ 14 * oneU) (hm : 1 ≤ m ∧ m ≤ 256) :
    ∃ W1 W2, Ex (trmF bb m p k) W1 W2 ∧ W1 * W1 + W2 * W2 ≤ B1 * B1 + B2 * B2 + 600000 * (((eU : Nat) : Int) * (oneU : Nat)) ∧ W1.natAbs ≤ 20 * oneU ∧ W2.natAbs ≤ 20 * oneU ∧
      (p * k % m = 0 → W1 = B1 ∧ W2 = B2) ∧ (0 < p * k % m → 4096 * (B1 * W1 + B2 * W2) ≤ 4095 * (B1 * B1 + B2 * B2) + 60000000 * (((eU : Nat) : Int) * (oneU : Nat))) := by
  have q1 := sq_of_abs h1
  have q2 := sq_of_abs h2
  have hEU := EU_pos
  have hUU := UU_EU
  simp only [Nat.reduceMul] at q1 q2
  by_cases h0 : p * k % m = 0
  · have hx : Ex (trmF bb m p k) (1 * B1) (1 * B2) := by
      unfold trmF
      rw [h0, uN_zero hm]
      exact hb.mul ⟨oneF_fn.1, zero_fn.1, by rw [Int.one_mul]; exact oneF_fn.2, zero_fn.2⟩ (.inl rfl)
    rw [Int.one_mul, Int.one_mul] at hx
    exact ⟨B1, B2, hx, by omega, by omega, by omega, fun _ => ⟨rfl, rfl⟩, fun h => by omega⟩
  · have hon := uN_on (m := m) (t := p * k % m) hm
    obtain ⟨c2, s2⟩ := on_abs hon
    obtain ⟨W1, W2, hx, ⟨d1, d1'⟩, ⟨d2, d2'⟩⟩ := cmul_near hb h1 h2 hon.1 hon.2.1 c2 s2
    have hU : ((oneU : Nat) : Int) = 4503599627370496 * ((eU : Nat) : Int) := by have := one_eU; omega
    have hB : B1 * B1 + B2 * B2 ≤ 400 * (((oneU : Nat) : Int) * (oneU : Nat)) := by
      generalize ((oneU : Nat) : Int) * (oneU : Nat) = UU at *
      omega
    have hn := norm_up hU (by have := eU_big; omega) (on_sq hon) hB d1 d1' d2 d2'
    have r1 := sq_nn W1
    have r2 := sq_nn W2
    refine ⟨W1, W2, hx, hn, ?_, ?_, fun h => absurd h h0, fun _ => ?_⟩
    · refine abs_le_sq ?_
      simp only [Nat.reduceMul]
      generalize ((oneU : Nat) : Int) * (oneU : Nat) = UU at *
      omega
    · refine abs_le_sq ?_
      simp only [Nat.reduceMul]
      generalize ((oneU : Nat) : Int) * (oneU : Nat) = UU at *
      omega
    · exact dot_up (by have := oneU_pos; omega) (by omega) hB (uN_left hm (by omega) (Nat.mod_lt _ (by omega))) d1 d1' d2 d2'

theorem Sm_const {c : Int} : ∀ {n : Nat}, Sm (fun _ => c) n = (n : Int) * c
  | 0 => by simp [Sm]
  | n + 1 => by rw [Sm, Sm_const]; push_cast; grind

set_option maxHeartbeats 1000000 in
theorem dop_all {bb : Cx} {B1 B2 : Int} {m p : Nat} (hb : Ex bb B1 B2) (h1 : B1.natAbs ≤ 14 * oneU) (h2 : B2.natAbs ≤ 14 * oneU) (hm : 1 ≤ m ∧ m ≤ 256) (hp : p < m) :
    ∃ S1 S2 P : Int, Vam.Fn (abs2F (sumF (trmF bb m p) m).1 (sumF (trmF bb m p) m).2) ∧ P = fv (abs2F (sumF (trmF bb m p) m).1 (sumF (trmF bb m p) m).2) ∧
      S1 * S1 + S2 * S2 ≤ (m : Int) * (m : Int) * (B1 * B1 + B2 * B2 + 600000 * (((eU : Nat) : Int) * (oneU : Nat))) ∧
      (1 ≤ p → 4096 * (S1 * S1 + S2 * S2) ≤ 4096 * ((m : Int) * (m : Int) * (B1 * B1 + B2 * B2 + 600000 * (((eU : Nat) : Int) * (oneU : Nat)))) - 2 * (B1 * B1 + B2 * B2)) ∧
      (p = 0 → S1 = (m : Int) * B1 ∧ S2 = (m : Int) * B2) ∧
      P * (oneU : Nat) - (S1 * S1 + S2 * S2) ≤ 30000000000 * (((eU : Nat) : Int) * (oneU : Nat)) ∧ -(30000000000 * (((eU : Nat) : Int) * (oneU : Nat))) ≤ P * (oneU : Nat) - (S1 * S1 + S2 * S2) := by
  have hEU := EU_pos
  have hUU := UU_EU
  have hE := eU_big
  have hU0 := oneU_pos
  have hU := one_eU
  -- the terms
  obtain ⟨W1, hW1⟩ : ∃ W1 : Nat → Int, W1 = fun k => fv (trmF bb m p k).1 := ⟨_, rfl⟩
  obtain ⟨W2, hW2⟩ : ∃ W2 : Nat → Int, W2 = fun k => fv (trmF bb m p k).2 := ⟨_, rfl⟩
  have hall : ∀ k, Ex (trmF bb m p k) (W1 k) (W2 k) ∧ W1 k * W1 k + W2 k * W2 k ≤ B1 * B1 + B2 * B2 + 600000 * (((eU : Nat) : Int) * (oneU : Nat)) ∧ (W1 k).natAbs ≤ 20 * oneU ∧ (W2 k).natAbs ≤ 20 * oneU ∧
      (p * k % m = 0 → W1 k = B1 ∧ W2 k = B2) ∧ (0 < p * k % m → 4096 * (B1 * W1 k + B2 * W2 k) ≤ 4095 * (B1 * B1 + B2 * B2) + 60000000 * (((eU : Nat) : Int) * (oneU : Nat))) := fun k => by
    obtain ⟨w1, w2, hx, a, b, c, d, e⟩ := trm_all (p := p) (k := k) hb h1 h2 hm
    have e1 : W1 k = w1 := by rw [hW1]; exact hx.2.2.1
    have e2 : W2 k = w2 := by rw [hW2]; exact hx.2.2.2
    rw [e1, e2]
    exact ⟨hx, a, b, c, d, e⟩
  clear hW1 hW2
  have hnr := sum_nr (A := 20) hm.2 (by decide) (fun k _ => (hall k).1) (fun k _ => (hall k).2.2.1) (fun k _ => (hall k).2.2.2.1) m (Nat.le_refl _)
  have b1 := Sm_bd (W := W1) (m := m) (fun k _ => (hall k).2.2.1) m (Nat.le_refl _)
  have b2 := Sm_bd (W := W2) (m := m) (fun k _ => (hall k).2.2.2.1) m (Nat.le_refl _)
  have hup := sum_up (m := m) (fun k _ => (hall k).2.1) m (Nat.le_refl _)
  have c1 : (Sm W1 m).natAbs ≤ 5120 * oneU := by
    have e : 5120 * oneU = 256 * (20 * oneU) := by omega
    rw [e]
    exact Nat.le_trans b1 (Nat.mul_le_mul_right _ hm.2)
  have c2 : (Sm W2 m).natAbs ≤ 5120 * oneU := by
    have e : 5120 * oneU = 256 * (20 * oneU) := by omega
    rw [e]
    exact Nat.le_trans b2 (Nat.mul_le_mul_right _ hm.2)
  obtain ⟨⟨f1, x1, x1'⟩, ⟨f2, x2, x2'⟩⟩ := hnr
  have hkE : ((((256 * 20 + 1) * m : Nat) : Int)) * (eU : Nat) ≤ 1310976 * (eU : Nat) := Int.mul_le_mul_of_nonneg_right (by omega) (by omega)
  obtain ⟨X, hX⟩ : ∃ X, X = fv (sumF (trmF bb m p) m).1 := ⟨_, rfl⟩
  obtain ⟨Y, hY⟩ : ∃ Y, Y = fv (sumF (trmF bb m p) m).2 := ⟨_, rfl⟩
  rw [← hX] at x1 x1'
  rw [← hY] at x2 x2'
  obtain ⟨fp, y1, y2⟩ := pow_near (a := sumF (trmF bb m p) m) (X := X) (Y := Y) ⟨f1, f2, hX.symm, hY.symm⟩ (by omega) (by omega)
  have s1 := sq_err (S := Sm W1 m) (X := X) (U := (oneU : Nat)) (E := (eU : Nat)) (a := 5120) (k := 1310976) (by omega) (by omega) (by omega) (by omega) (by omega) (by omega) (by omega) (by omega) (by omega)
  have s2 := sq_err (S := Sm W2 m) (X := Y) (U := (oneU : Nat)) (E := (eU : Nat)) (a := 5120) (k := 1310976) (by omega) (by omega) (by omega) (by omega) (by omega) (by omega) (by omega) (by omega) (by omega)
  refine ⟨Sm W1 m, Sm W2 m, _, fp, rfl, hup, fun h => ?_, fun h => ?_, ?_⟩
  · obtain ⟨j, rfl⟩ : ∃ j, m = j + 2 := ⟨m - 2, by omega⟩
    refine sum_gap (m := j + 2) (fun k _ => (hall k).2.1) ?_ j (Nat.le_refl _)
    have t0 := (hall 0).2.2.2.2.1 (by simp)
    have t1 := (hall 1).2.2.2.2.2 (by rw [Nat.mul_one, Nat.mod_eq_of_lt hp]; omega)
    have t2 := (hall 1).2.1
    have e1 : Sm W1 2 = B1 + W1 1 := by
      show 0 + W1 0 + W1 1 = _
      rw [t0.1]; omega
    have e2 : Sm W2 2 = B2 + W2 1 := by
      show 0 + W2 0 + W2 1 = _
      rw [t0.2]; omega
    rw [e1, e2]
    have e3 : (B1 + W1 1) * (B1 + W1 1) + (B2 + W2 1) * (B2 + W2 1) = (B1 * B1 + B2 * B2) + 2 * (B1 * W1 1 + B2 * W2 1) + (W1 1 * W1 1 + W2 1 * W2 1) := by grind
    rw [e3]
    generalize B1 * W1 1 + B2 * W2 1 = dot at *
    generalize W1 1 * W1 1 + W2 1 * W2 1 = ww at *
    generalize B1 * B1 + B2 * B2 = BB at *
    generalize ((eU : Nat) : Int) * (oneU : Nat) = Z at *
    omega
  · subst h
    have e1 : Sm W1 m = Sm (fun _ => B1) m := Sm_congr fun k _ => ((hall k).2.2.2.2.1 (by simp)).1
    have e2 : Sm W2 m = Sm (fun _ => B2) m := Sm_congr fun k _ => ((hall k).2.2.2.2.1 (by simp)).2
    rw [e1, e2, Sm_const, Sm_const]
    exact ⟨rfl, rfl⟩
  · simp only [Int.reduceMul, Int.reduceAdd] at s1 s2
    generalize fv (abs2F (sumF (trmF bb m p) m).1 (sumF (trmF bb m p) m).2) * ((oneU : Nat) : Int) = PU at *
    generalize X * X = XX at *
    generalize Y * Y = YY at *
    generalize Sm W1 m * Sm W1 m = SS1 at *
    generalize Sm W2 m * Sm W2 m = SS2 at *
    generalize ((eU : Nat) : Int) * (oneU : Nat) = Z at *
    omega

end Go.Proofs.YtmfaodenkghmkaaGreat

/- The greatest of all cells. -/
namespace Go.Proofs.YtmfaodenkghmkaaGreat
open Go Go.Vam

/-- A column's number in each row. -/
def colF (m n k gt : Nat) (z : Cx) (d : Nat) : Cx := scaC (compF n (bkN k) (bkF k) (ecF z (bkF k) gt (bkN k) m 0) 0 d) oneF
theorem dop_form {m n k gt p d : Nat} {z : Cx} : dopF m (fun _ => oneF) (compF n (bkN k) (bkF k) (ecF z (bkF k) gt (bkN k) m 0)) p d = sumF (trmF (colF m n k gt z d) m p) m := by
  unfold dopF slowF
  refine sumF_congr fun i hi => ?_
  show mulC (scaC (compF n (bkN k) (bkF k) (ecF z (bkF k) gt (bkN k) m 0) i d) oneF) (uN m (p * i % m)) = _
  rw [comp_row hi]
  rfl
theorem Nr.sca {a : Cx} {u v : Int} {e : Nat} (h : Nr a u v e) : Nr (scaC a oneF) u v e := by
  obtain ⟨⟨f1, a1, a2⟩, ⟨f2, b1, b2⟩⟩ := h
  obtain ⟨g1, g2, g3, g4⟩ := Ex.sca (a := a) (u := fv a.1) (v := fv a.2) ⟨f1, f2, rfl, rfl⟩
  exact ⟨⟨g1, by rw [g3]; exact a1, by rw [g3]; exact a2⟩, ⟨g2, by rw [g4]; exact b1, by rw [g4]; exact b2⟩⟩

/-- What a column's number is. -/
theorem col_all {m n k gt d : Nat} {z : Cx} {u v : Int} (hz : Ex z u v) (hu : u.natAbs ≤ 2 * oneU) (hv : v.natAbs ≤ 2 * oneU) (hk : 1 ≤ k ∧ k ≤ 7) (hm : 1 ≤ m ∧ m ≤ 256) :
    ∃ B1 B2, Ex (colF m n k gt z d) B1 B2 ∧ (B1 - corr k gt n d * u ≤ 351 * (eU : Nat) ∧ -(351 * ((eU : Nat) : Int)) ≤ B1 - corr k gt n d * u) ∧ (B2 - corr k gt n d * v ≤ 351 * (eU : Nat) ∧ -(351 * ((eU : Nat) : Int)) ≤ B2 - corr k gt n d * v) := by
  obtain ⟨⟨f1, a1, a2⟩, ⟨f2, b1, b2⟩⟩ := (comp_nr (n := n) (gt := gt) (m := m) (i := 0) (d := d) hz hu hv hk (by omega)).sca
  exact ⟨_, _, ⟨f1, f2, rfl, rfl⟩, ⟨by simp only [colF] at *; omega, by simp only [colF] at *; omega⟩, ⟨by simp only [colF] at *; omega, by simp only [colF] at *; omega⟩⟩

theorem mul_bd {C x : Int} {q a : Nat} (hC : C.natAbs ≤ q) (hx : 1000 * x.natAbs ≤ a) : 1000 * (C * x).natAbs ≤ q * a := by
  rw [Int.natAbs_mul]
  have := Nat.mul_le_mul hC hx
  have e : 1000 * (C.natAbs * x.natAbs) = C.natAbs * (1000 * x.natAbs) := by grind
  rw [e]; exact this

/-- Squares of a column's number. -/
theorem col_sq {B1 B2 C u v : Int} {q : Nat} (hC : C.natAbs ≤ q) (hq : q ≤ 13) (hu : 1000 * u.natAbs ≤ 1001 * oneU) (hv : 1000 * v.natAbs ≤ 1001 * oneU)
    (b1 : B1 - C * u ≤ 351 * (eU : Nat)) (b1' : -(351 * ((eU : Nat) : Int)) ≤ B1 - C * u) (b2 : B2 - C * v ≤ 351 * (eU : Nat)) (b2' : -(351 * ((eU : Nat) : Int)) ≤ B2 - C * v) :
    B1.natAbs ≤ 14 * oneU ∧ B2.natAbs ≤ 14 * oneU ∧ B1 * B1 + B2 * B2 ≤ C * C * (u * u + v * v) + 30000 * (((eU : Nat) : Int) * (oneU : Nat)) ∧ C * C * (u * u + v * v) - 30000 * (((eU : Nat) : Int) * (oneU : Nat)) ≤ B1 * B1 + B2 * B2 := by
  have hE := eU_big
  have hU := one_eU
  have k1 := mul_bd hC hu
  have k2 := mul_bd hC hv
  have k3 : q * (1001 * oneU) ≤ 13 * (1001 * oneU) := Nat.mul_le_mul_right _ hq
  have s1 := sq_err (S := C * u) (X := B1) (U := (oneU : Nat)) (E := (eU : Nat)) (a := 14) (k := 351) (by omega) (by omega) (by omega) (by omega) b1 b1' (by omega) (by omega) (by omega)
  have s2 := sq_err (S := C * v) (X := B2) (U := (oneU : Nat)) (E := (eU : Nat)) (a := 14) (k := 351) (by omega) (by omega) (by omega) (by omega) b2 b2' (by omega) (by omega) (by omega)
  have e : C * C * (u * u + v * v) = C * u * (C * u) + C * v * (C * v) := by grind
  rw [e]
  simp only [Int.reduceMul, Int.reduceAdd] at s1 s2
  have hEU := EU_pos
  refine ⟨by omega, by omega, ?_, ?_⟩
  · generalize ((eU : Nat) : Int) * (oneU : Nat) = Z at *
    generalize B1 * B1 = BB1 at *
    generalize B2 * B2 = BB2 at *
    generalize C * u * (C * u) = CU at *
    generalize C * v * (C * v) = CV at *
    omega
  · generalize ((eU : Nat) : Int) * (oneU : Nat) = Z at *
    generalize B1 * B1 = BB1 at *
    generalize B2 * B2 = BB2 at *
    generalize C * u * (C * u) = CU at *
    generalize C * v * (C * v) = CV at *
    omega

theorem on_milli {c s : Nat} (h : OnC c s) : 1000 * (fv c).natAbs ≤ 1001 * oneU ∧ 1000 * (fv s).natAbs ≤ 1001 * oneU := by
  have h1 := on_sq h
  have h2 := UU_EU
  have h3 := EU_pos
  have q1 := sq_nn (fv c)
  have q2 := sq_nn (fv s)
  have e : ∀ x : Int, 1000 * x * (1000 * x) = 1000000 * (x * x) := fun x => by grind
  constructor
  · have := abs_le_sq (x := 1000 * fv c) (a := 1001) (by
      rw [e]
      simp only [Nat.reduceMul]
      generalize ((oneU : Nat) : Int) * (oneU : Nat) = UU at *
      generalize fv c * fv c = cc at *
      omega)
    rw [Int.natAbs_mul] at this
    exact this
  · have := abs_le_sq (x := 1000 * fv s) (a := 1001) (by
      rw [e]
      simp only [Nat.reduceMul]
      generalize ((oneU : Nat) : Int) * (oneU : Nat) = UU at *
      generalize fv s * fv s = ss at *
      omega)
    rw [Int.natAbs_mul] at this
    exact this
theorem on_sq_lo {c s : Nat} (h : OnC c s) : (oneU : Nat) * (oneU : Nat) - 1300 * (((eU : Nat) : Int) * (oneU : Nat)) ≤ fv c * fv c + fv s * fv s := by
  have h3 := h.2.2
  rw [Nat.mul_assoc] at h3
  have := two_side h3
  generalize ((oneU : Nat) : Int) * (oneU : Nat) = UU at *
  omega

/-- The numbers of the comparison. -/
theorem cmp_same {P Q U M BB Z s t : Int} (hU : 0 < U) (hZ : 0 < Z) (hM1 : 0 ≤ M) (hM : M ≤ 65536) (hB : 3 * (4503599627370496 * Z) ≤ BB)
    (h1 : 4096 * s ≤ 4096 * (M * (BB + 600000 * Z)) - 2 * BB) (h2 : P * U - s ≤ 30000000000 * Z) (h3 : t = M * BB) (h4 : -(30000000000 * Z) ≤ Q * U - t) : P < Q := by
  have e : M * (BB + 600000 * Z) = M * BB + 600000 * (M * Z) := by grind
  have hMZ : M * Z ≤ 65536 * Z := Int.mul_le_mul_of_nonneg_right hM (by omega)
  have : P * U < Q * U := by
    rw [e] at h1
    generalize M * BB = MB at *
    generalize M * Z = MZ at *
    omega
  exact Int.lt_of_mul_lt_mul_right this (by omega)
theorem cmp_other {P Q U M BB CC Z s t : Int} (hU : 0 < U) (hZ : 0 < Z) (hM1 : 1 ≤ M) (hB : 3 * (4503599627370496 * Z) ≤ BB) (hC : CC ≤ 2 * (4503599627370496 * Z))
    (h1 : s ≤ M * (CC + 600000 * Z)) (h2 : P * U - s ≤ 30000000000 * Z) (h3 : t = M * BB) (h4 : -(30000000000 * Z) ≤ Q * U - t) : P < Q := by
  have k1 : M * (CC + 600000 * Z) ≤ M * (2 * (4503599627370496 * Z) + 600000 * Z) := Int.mul_le_mul_of_nonneg_left (by omega) (by omega)
  have k2 : M * (3 * (4503599627370496 * Z)) ≤ M * BB := Int.mul_le_mul_of_nonneg_left hB (by omega)
  have k3 : 1 * Z ≤ M * Z := Int.mul_le_mul_of_nonneg_right hM1 (by omega)
  have e1 : M * (2 * (4503599627370496 * Z) + 600000 * Z) = 9007199255340992 * (M * Z) := by grind
  have e2 : M * (3 * (4503599627370496 * Z)) = 13510798882111488 * (M * Z) := by grind
  rw [e1] at k1
  rw [e2] at k2
  have : P * U < Q * U := by
    generalize M * BB = MB at *
    generalize M * Z = MZ at *
    omega
  exact Int.lt_of_mul_lt_mul_right this (by omega)

set_option maxHeartbeats 1000000 in
theorem top_at {m n k gt y : Nat} (hk : 1 ≤ k ∧ k ≤ 7) (hm : 1 ≤ m ∧ m ≤ 256) (hq : gt + bkN k < n) (hon : OnC (turnC y) (turnS y)) : TopAt m n gt (topP m n k gt y) := by
  obtain ⟨hq2, hq13⟩ := bkN_le hk
  have hz : Ex (scaC (turnC y, turnS y) oneF) (fv (turnC y)) (fv (turnS y)) := Ex.sca ⟨hon.1, hon.2.1, rfl, rfl⟩
  obtain ⟨hu2, hv2⟩ := on_abs hon
  obtain ⟨hu, hv⟩ := on_milli hon
  have hN := on_sq hon
  have hNl := on_sq_lo hon
  have hUU := UU_EU
  have hEU := EU_pos
  have hU0 : 0 < ((oneU : Nat) : Int) := by have := oneU_pos; omega
  generalize hzz : scaC (turnC y, turnS y) oneF = z at hz
  generalize fv (turnC y) = u at *
  generalize fv (turnS y) = v at *
  have hform : ∀ i d, topP m n k gt y i d = abs2F (sumF (trmF (colF m n k gt z d) m i) m).1 (sumF (trmF (colF m n k gt z d) m i) m).2 := fun i d => by
    rw [← dop_form, ← hzz]; rfl
  -- the target's column
  obtain ⟨B1, B2, hx, ⟨b1, b1'⟩, ⟨b2, b2'⟩⟩ := col_all (n := n) (gt := gt) (d := gt) hz hu2 hv2 hk hm
  have hc := (corr_facts hk hq (show gt < n by omega)).1 rfl
  rw [hc] at b1 b1' b2 b2'
  obtain ⟨g1, g2, g3, g4⟩ := col_sq (q := bkN k) (C := ((bkN k : Nat) : Int)) (by omega) hq13 hu hv b1 b1' b2 b2'
  have hB : 3 * (4503599627370496 * (((eU : Nat) : Int) * (oneU : Nat))) ≤ B1 * B1 + B2 * B2 := by
    have k1 : (4 : Int) ≤ ((bkN k : Nat) : Int) * ((bkN k : Nat) : Int) := Int.mul_le_mul (a := 2) (b := 2) (by omega) (by omega) (by omega) (by omega)
    have hn0 : 0 ≤ u * u + v * v := by have := sq_nn u; have := sq_nn v; omega
    have k2 : 4 * (u * u + v * v) ≤ ((bkN k : Nat) : Int) * ((bkN k : Nat) : Int) * (u * u + v * v) := Int.mul_le_mul_of_nonneg_right k1 hn0
    generalize ((bkN k : Nat) : Int) * ((bkN k : Nat) : Int) * (u * u + v * v) = QN at *
    generalize ((oneU : Nat) : Int) * (oneU : Nat) = UU at *
    generalize ((eU : Nat) : Int) * (oneU : Nat) = Z at *
    omega
  have hmm : (1 : Int) ≤ (m : Int) * (m : Int) := Int.mul_le_mul (a := 1) (b := 1) (by omega) (by omega) (by omega) (by omega)
  have hmm2 : (m : Int) * (m : Int) ≤ 65536 := Int.mul_le_mul (c := 256) (d := 256) (by omega) (by omega) (by omega) (by omega)
  -- the top
  obtain ⟨S1, S2, Q, fQ, hQ, -, -, hS, -, hlo⟩ := dop_all (p := 0) hx g1 g2 hm (by omega)
  have hS' : S1 * S1 + S2 * S2 = (m : Int) * (m : Int) * (B1 * B1 + B2 * B2) := by
    obtain ⟨rfl, rfl⟩ := hS rfl
    grind
  rw [← hform] at fQ hQ
  unfold TopAt
  rw [← hQ]
  refine ⟨fun i d hi hd => ?_, ?_⟩
  · by_cases hdg : d = gt
    · subst hdg
      obtain ⟨T1, T2, P, fP, hP, -, t2, -, t4, -⟩ := dop_all (p := i) hx g1 g2 hm hi
      rw [← hform] at fP hP
      refine ⟨fP, fun hne => ?_⟩
      rw [← hP]
      exact cmp_same hU0 hEU (by omega) hmm2 hB (t2 (by omega)) t4 hS' hlo
    · obtain ⟨D1, D2, hx', ⟨d1, d1'⟩, ⟨d2, d2'⟩⟩ := col_all (n := n) (gt := gt) (d := d) hz hu2 hv2 hk hm
      have hc' := (corr_facts hk hq hd).2 hdg
      obtain ⟨q1, q2, q3, q4⟩ := col_sq (q := 1) hc' (by decide) hu hv d1 d1' d2 d2'
      obtain ⟨T1, T2, P, fP, hP, t1, -, -, t4, -⟩ := dop_all (p := i) hx' q1 q2 hm hi
      rw [← hform] at fP hP
      refine ⟨fP, fun _ => ?_⟩
      rw [← hP]
      have hCC : corr k gt n d * corr k gt n d ≤ 1 := by
        have : corr k gt n d = 0 ∨ corr k gt n d = 1 ∨ corr k gt n d = -1 := by omega
        rcases this with h | h | h <;> rw [h] <;> decide
      have hn0 : 0 ≤ u * u + v * v := by have := sq_nn u; have := sq_nn v; omega
      have k3 := Int.mul_le_mul_of_nonneg_right hCC hn0
      refine cmp_other hU0 hEU hmm hB ?_ t1 t4 hS' hlo
      generalize corr k gt n d * corr k gt n d * (u * u + v * v) = CN at *
      generalize ((oneU : Nat) : Int) * (oneU : Nat) = UU at *
      generalize ((eU : Nat) : Int) * (oneU : Nat) = Z at *
      omega
  · have k2 : 1 * (3 * (4503599627370496 * (((eU : Nat) : Int) * (oneU : Nat)))) ≤ (m : Int) * (m : Int) * (B1 * B1 + B2 * B2) := Int.mul_le_mul hmm hB (by omega) (by omega)
    have : 0 < Q * ((oneU : Nat) : Int) := by
      rw [hS'] at hlo
      generalize (m : Int) * (m : Int) * (B1 * B1 + B2 * B2) = MB at *
      omega
    rcases Int.lt_trichotomy Q 0 with h | h | h
    · have := Int.mul_neg_of_neg_of_pos h hU0; omega
    · rw [h, Int.zero_mul] at this; omega
    · exact h

end Go.Proofs.YtmfaodenkghmkaaGreat

/- The root of the greatest cell. -/
namespace Go.Proofs.YtmfaodenkghmkaaGreat
open Go Go.Vam

theorem c40_fn : Vam.Fn 4427038433705197568 ∧ 1099511627776 * fv 4427038433705197568 = ((oneU : Nat) : Int) := ⟨⟨by decide, by decide⟩, by decide +kernel⟩

theorem sub_two {A B C : Int} (h1 : A ≤ B + C) (h2 : B - C ≤ A) : A - B ≤ C ∧ -C ≤ A - B := by omega

/-- A square near a square: the root is near the root. -/
theorem root_near {N M U E Z : Int} (hU : U = 4503599627370496 * E) (hE : 4 ≤ E) (hM : 0 ≤ M) (hN : 0 ≤ N) (hZ : Z = M * M * (E * U)) (h1 : N * N - M * M * (U * U) ≤ 4710 * Z) (h2 : -(4710 * Z) ≤ N * N - M * M * (U * U)) :
    N - M * U ≤ 2400 * (M * E) ∧ -(2400 * (M * E)) ≤ N - M * U := by
  have hZ0 : 0 ≤ Z := by rw [hZ]; exact Int.mul_nonneg (sq_nn M) (Int.mul_nonneg (by omega) (by omega))
  have hEE : 4503599627370496 * (M * M * (E * E)) = Z := by rw [hZ, hU]; grind
  have hEE0 : 0 ≤ M * M * (E * E) := Int.mul_nonneg (sq_nn M) (sq_nn E)
  have hME : 0 ≤ M * E := Int.mul_nonneg hM (by omega)
  have hMU : 0 ≤ M * U := Int.mul_nonneg hM (by omega)
  have e1 : (M * U + 2400 * (M * E)) * (M * U + 2400 * (M * E)) = M * M * (U * U) + 4800 * Z + 5760000 * (M * M * (E * E)) := by rw [hZ]; grind
  have e2 : (M * U - 2400 * (M * E)) * (M * U - 2400 * (M * E)) = M * M * (U * U) - 4800 * Z + 5760000 * (M * M * (E * E)) := by rw [hZ]; grind
  have e3 : M * U = 4503599627370496 * (M * E) := by rw [hU]; grind
  constructor
  · rcases Int.lt_or_le (M * U + 2400 * (M * E)) N with h | h
    · have := Int.mul_self_lt_mul_self (show 0 ≤ M * U + 2400 * (M * E) by omega) h
      rw [e1] at this
      omega
    · omega
  · rcases Int.lt_or_le N (M * U - 2400 * (M * E)) with h | h
    · have := Int.mul_self_lt_mul_self hN h
      rw [e2] at this
      omega
    · omega

/-- A square near a turned number's. -/
theorem fine_sq {X u M U E : Int} (hE : 0 ≤ E) (hU : U = 4503599627370496 * E) (hM : 0 ≤ M) (hu : 1000 * u ≤ 1001 * U) (hu' : -(1001 * U) ≤ 1000 * u) (h1 : X - M * u ≤ 560 * (M * E)) (h2 : -(560 * (M * E)) ≤ X - M * u) :
    X * X - M * M * (u * u) ≤ 1680 * (M * M * (E * U)) ∧ -(1680 * (M * M * (E * U))) ≤ X * X - M * M * (u * u) := by
  have hME : 0 ≤ M * E := Int.mul_nonneg hM hE
  have e3 : M * U = 4503599627370496 * (M * E) := by rw [hU]; grind
  have k1 : M * (1000 * u) ≤ M * (1001 * U) := Int.mul_le_mul_of_nonneg_left hu hM
  have k2 : M * (-(1001 * U)) ≤ M * (1000 * u) := Int.mul_le_mul_of_nonneg_left hu' hM
  have e4 : M * (1000 * u) = 1000 * (M * u) := by grind
  have e5 : M * (1001 * U) = 1001 * (M * U) := by grind
  have e6 : M * (-(1001 * U)) = -(1001 * (M * U)) := by grind
  rw [e4, e5] at k1
  rw [e4, e6] at k2
  have h := mul_abs2 (x := X - M * u) (y := X + M * u) (M := 560 * (M * E)) (Y := 3 * (M * U)) h1 h2 (by omega) (by omega) (by omega) (by omega)
  have e7 : (X - M * u) * (X + M * u) = X * X - M * M * (u * u) := by grind
  have e8 : 560 * (M * E) * (3 * (M * U)) = 1680 * (M * M * (E * U)) := by grind
  rw [e7, e8] at h
  exact h

set_option maxHeartbeats 2000000 in
theorem near_top {m n k gt y : Nat} (hk : 1 ≤ k ∧ k ≤ 7) (hm : 1 ≤ m ∧ m ≤ 256) (hq : gt + bkN k < n) (hon : OnC (turnC y) (turnS y)) : nearB (topP m n k gt y 0 gt) m (bkN k) = true := by
  obtain ⟨hq2, hq13⟩ := bkN_le hk
  have hz : Ex (scaC (turnC y, turnS y) oneF) (fv (turnC y)) (fv (turnS y)) := Ex.sca ⟨hon.1, hon.2.1, rfl, rfl⟩
  obtain ⟨hu2, hv2⟩ := on_abs hon
  obtain ⟨hu, hv⟩ := on_milli hon
  have hN := on_sq hon
  have hNl := on_sq_lo hon
  have hUU := UU_EU
  have hEU := EU_pos
  have hE := eU_big
  have hU := one_eU
  have hUi : ((oneU : Nat) : Int) = 4503599627370496 * ((eU : Nat) : Int) := by omega
  have hU0 : 0 < ((oneU : Nat) : Int) := by have := oneU_pos; omega
  generalize hzz : scaC (turnC y, turnS y) oneF = z at hz
  generalize fv (turnC y) = u at *
  generalize fv (turnS y) = v at *
  have hform : topP m n k gt y 0 gt = abs2F (sumF (trmF (colF m n k gt z gt) m 0) m).1 (sumF (trmF (colF m n k gt z gt) m 0) m).2 := by
    rw [← dop_form, ← hzz]; rfl
  obtain ⟨B1, B2, hx, ⟨b1, b1'⟩, ⟨b2, b2'⟩⟩ := col_all (n := n) (gt := gt) (d := gt) hz hu2 hv2 hk hm
  have hc := (corr_facts hk hq (show gt < n by omega)).1 rfl
  rw [hc] at b1 b1' b2 b2'
  -- the sum
  have hterm : ∀ j, j < m → Ex (trmF (colF m n k gt z gt) m 0 j) ((fun _ => B1) j) ((fun _ => B2) j) := fun j _ => by
    have h := hx.mul (b := (oneF, 0)) (σ := 1) ⟨oneF_fn.1, zero_fn.1, by rw [Int.one_mul]; exact oneF_fn.2, zero_fn.2⟩ (.inl rfl)
    rw [Int.one_mul, Int.one_mul] at h
    have e : trmF (colF m n k gt z gt) m 0 j = mulC (colF m n k gt z gt) (oneF, 0) := by
      unfold trmF
      rw [Nat.zero_mul, Nat.zero_mod, uN_zero hm]
    rw [e]
    exact h
  have hmul := fun (x : Int) (hx : 1000 * x.natAbs ≤ 1001 * oneU) => mul_bd (C := ((bkN k : Nat) : Int)) (q := bkN k) (x := x) (by omega) hx
  have hqU : bkN k * (1001 * oneU) = 1001 * (bkN k * oneU) := by grind
  have hqU2 : bkN k * oneU ≤ 13 * oneU := Nat.mul_le_mul_right _ hq13
  have A1 : B1.natAbs ≤ (bkN k + 1) * oneU := by
    have := hmul u hu
    rw [hqU] at this
    rw [Nat.add_mul, Nat.one_mul]
    generalize bkN k * oneU = qU at *
    omega
  have A2 : B2.natAbs ≤ (bkN k + 1) * oneU := by
    have := hmul v hv
    rw [hqU] at this
    rw [Nat.add_mul, Nat.one_mul]
    generalize bkN k * oneU = qU at *
    omega
  have hnr := sum_nr (A := bkN k + 1) hm.2 (by omega) hterm (fun _ _ => A1) (fun _ _ => A2) m (Nat.le_refl _)
  rw [Sm_const, Sm_const] at hnr
  obtain ⟨⟨f1, x1, x1'⟩, ⟨f2, x2, x2'⟩⟩ := hnr
  obtain ⟨M, hM⟩ : ∃ M, M = m * bkN k := ⟨_, rfl⟩
  have hM0 : 1 ≤ M := by rw [hM]; exact Nat.mul_pos (by omega) (by omega)
  have hM13 : M ≤ 3328 := by rw [hM]; exact Nat.mul_le_mul hm.2 hq13
  have hmM : 2 * m ≤ M := by rw [hM, Nat.mul_comm]; exact Nat.mul_le_mul_left _ hq2
  have herr : (256 * (bkN k + 1) + 1) * m + 351 * m ≤ 560 * M := by
    have e : (256 * (bkN k + 1) + 1) * m + 351 * m = 256 * (m * bkN k) + 608 * m := by grind
    rw [e, ← hM]
    omega
  have herrE : (((256 * (bkN k + 1) + 1) * m : Nat) : Int) * (eU : Nat) + 351 * ((m : Int) * (eU : Nat)) ≤ 560 * ((M : Int) * (eU : Nat)) := by
    have h := Nat.mul_le_mul_right eU herr
    rw [Nat.add_mul] at h
    have e1 : (((256 * (bkN k + 1) + 1) * m : Nat) : Int) * (eU : Nat) = (((256 * (bkN k + 1) + 1) * m * eU : Nat) : Int) := (Int.natCast_mul ..).symm
    have e2 : 351 * ((m : Int) * (eU : Nat)) = ((351 * m * eU : Nat) : Int) := by rw [Int.natCast_mul, Int.natCast_mul, Int.mul_assoc]; rfl
    have e3 : 560 * ((M : Int) * (eU : Nat)) = ((560 * M * eU : Nat) : Int) := by rw [Int.natCast_mul, Int.natCast_mul, Int.mul_assoc]; rfl
    rw [e1, e2, e3]
    omega
  have mB : ∀ B w : Int, B - (bkN k : Nat) * w ≤ 351 * (eU : Nat) → -(351 * ((eU : Nat) : Int)) ≤ B - (bkN k : Nat) * w → (m : Int) * B - (M : Int) * w ≤ 351 * ((m : Int) * (eU : Nat)) ∧ -(351 * ((m : Int) * (eU : Nat))) ≤ (m : Int) * B - (M : Int) * w := fun B w p q => by
    have h1 := Int.mul_le_mul_of_nonneg_left (c := (m : Int)) p (by omega)
    have h2 := Int.mul_le_mul_of_nonneg_left (c := (m : Int)) q (by omega)
    have e : (m : Int) * (B - (bkN k : Nat) * w) = (m : Int) * B - (M : Int) * w := by rw [hM]; push_cast; grind
    have e2 : (m : Int) * (351 * (eU : Nat)) = 351 * ((m : Int) * (eU : Nat)) := by grind
    have e3 : (m : Int) * (-(351 * ((eU : Nat) : Int))) = -(351 * ((m : Int) * (eU : Nat))) := by grind
    rw [e, e2] at h1
    rw [e, e3] at h2
    exact ⟨h1, h2⟩
  have mB1 := mB B1 u b1 b1'
  have mB2 := mB B2 v b2 b2'
  obtain ⟨X, hX⟩ : ∃ X, X = fv (sumF (trmF (colF m n k gt z gt) m 0) m).1 := ⟨_, rfl⟩
  obtain ⟨Y, hY⟩ : ∃ Y, Y = fv (sumF (trmF (colF m n k gt z gt) m 0) m).2 := ⟨_, rfl⟩
  rw [← hX] at x1 x1'
  rw [← hY] at x2 x2'
  have s1 := fine_sq (X := X) (u := u) (M := (M : Int)) (U := (oneU : Nat)) (E := (eU : Nat)) (by omega) hUi (by omega) (by omega) (by omega) (by omega) (by omega)
  have s2 := fine_sq (X := Y) (u := v) (M := (M : Int)) (U := (oneU : Nat)) (E := (eU : Nat)) (by omega) hUi (by omega) (by omega) (by omega) (by omega) (by omega)
  -- its power
  have hMU : (M : Int) * (oneU : Nat) = 4503599627370496 * ((M : Int) * (eU : Nat)) := by rw [hUi]; grind
  have hME : 0 ≤ (M : Int) * (eU : Nat) := Int.mul_nonneg (by omega) (by omega)
  have hMu : ∀ w : Int, 1000 * w.natAbs ≤ 1001 * oneU → ((M : Int) * w).natAbs * 1000 ≤ 1001 * (M * oneU) := fun w hw => by
    have := mul_bd (C := (M : Int)) (q := M) (by omega) hw
    have e : M * (1001 * oneU) = 1001 * (M * oneU) := by grind
    omega
  have cX : X.natAbs ≤ 2 * M * oneU := by
    have := hMu u hu
    have e : ((M * oneU : Nat) : Int) = (M : Int) * (oneU : Nat) := by push_cast; rfl
    have e2 : 2 * M * oneU = 2 * (M * oneU) := by grind
    rw [e2]
    omega
  have cY : Y.natAbs ≤ 2 * M * oneU := by
    have := hMu v hv
    have e : ((M * oneU : Nat) : Int) = (M : Int) * (oneU : Nat) := by push_cast; rfl
    have e2 : 2 * M * oneU = 2 * (M * oneU) := by grind
    rw [e2]
    omega
  have hab : 2 * M * (2 * M) = 4 * (M * M) := by grind
  have hMM : M * M ≤ 11075584 := Nat.mul_le_mul hM13 hM13
  have hMM1 : 1 ≤ M * M := Nat.mul_pos hM0 hM0
  rw [hX] at cX
  rw [hY] at cY
  obtain ⟨p1, p2, p3⟩ := mulU f1 f1 cX cX (by omega) (by omega)
  obtain ⟨q1, q2, q3⟩ := mulU f2 f2 cY cY (by omega) (by omega)
  rw [hab] at p2 p3 q2 q3
  rw [← hX] at p2
  rw [← hY] at q2
  have hk16 : 16 * (M * M) * oneU = 2 * (2 * (4 * (M * M)) * oneU) := by grind
  obtain ⟨r1, r2⟩ := addU (k := 16 * (M * M)) p1 q1 (by rw [hk16]; omega) (by omega)
  obtain ⟨P, hP⟩ : ∃ P, P = abs2F (sumF (trmF (colF m n k gt z gt) m 0) m).1 (sumF (trmF (colF m n k gt z gt) m 0) m).2 := ⟨_, rfl⟩
  have hP2 : P = fadd .f64 (fmul .f64 (sumF (trmF (colF m n k gt z gt) m 0) m).1 (sumF (trmF (colF m n k gt z gt) m 0) m).1) (fmul .f64 (sumF (trmF (colF m n k gt z gt) m 0) m).2 (sumF (trmF (colF m n k gt z gt) m 0) m).2) := hP
  rw [← hP2] at r1 r2
  rw [hform, ← hP]
  generalize fv (fmul .f64 (sumF (trmF (colF m n k gt z gt) m 0) m).1 (sumF (trmF (colF m n k gt z gt) m 0) m).1) = XX at *
  generalize fv (fmul .f64 (sumF (trmF (colF m n k gt z gt) m 0) m).2 (sumF (trmF (colF m n k gt z gt) m 0) m).2) = YY at *
  clear hP hP2 hform hterm hx p1 q1 f1 f2 hX hY cX cY p3 q3 x1 x1' x2 x2' mB mB1 mB2 hmul
  obtain ⟨Z, hZ⟩ : ∃ Z : Int, Z = (M : Int) * (M : Int) * (((eU : Nat) : Int) * (oneU : Nat)) := ⟨_, rfl⟩
  have hZ1 : ((eU : Nat) : Int) * (oneU : Nat) ≤ Z := by
    rw [hZ]
    have : (1 : Int) ≤ (M : Int) * (M : Int) := by have e := Int.natCast_mul M M; omega
    have h := Int.mul_le_mul_of_nonneg_right this (show 0 ≤ ((eU : Nat) : Int) * (oneU : Nat) by omega)
    rw [Int.one_mul] at h
    exact h
  have P2 := two_side p2
  have Q2 := two_side q2
  have R2 := two_side1 r2
  have eP : (((2 * (4 * (M * M)) + 1 : Nat)) : Int) * (((eU : Nat) : Int) * (oneU : Nat)) = 8 * Z + ((eU : Nat) : Int) * (oneU : Nat) := by rw [hZ]; push_cast; grind
  rw [eP] at P2 Q2
  have k1 := Int.mul_le_mul_of_nonneg_right (c := ((oneU : Nat) : Int)) R2.1 (by omega)
  have k2 := Int.mul_le_mul_of_nonneg_right (c := ((oneU : Nat) : Int)) R2.2 (by omega)
  have eR : (((16 * (M * M) : Nat)) : Int) * (eU : Nat) * (oneU : Nat) = 16 * Z := by rw [hZ]; push_cast; grind
  rw [Int.neg_mul, eR] at k2
  rw [eR] at k1
  have eS : (fv P - (XX + YY)) * ((oneU : Nat) : Int) = fv P * (oneU : Nat) - XX * (oneU : Nat) - YY * (oneU : Nat) := by grind
  rw [eS] at k1 k2
  rw [← hZ] at s1 s2
  have hNZ : (M : Int) * (M : Int) * (u * u + v * v) - (M : Int) * (M : Int) * (((oneU : Nat) : Int) * (oneU : Nat)) ≤ 1300 * Z ∧ -(1300 * Z) ≤ (M : Int) * (M : Int) * (u * u + v * v) - (M : Int) * (M : Int) * (((oneU : Nat) : Int) * (oneU : Nat)) := by
    have hMM0 : 0 ≤ (M : Int) * (M : Int) := sq_nn _
    have g1 := Int.mul_le_mul_of_nonneg_left hN hMM0
    have g2 := Int.mul_le_mul_of_nonneg_left hNl hMM0
    have e1 : (M : Int) * (M : Int) * (((oneU : Nat) : Int) * (oneU : Nat) + 1300 * (((eU : Nat) : Int) * (oneU : Nat))) = (M : Int) * (M : Int) * (((oneU : Nat) : Int) * (oneU : Nat)) + 1300 * Z := by rw [hZ]; grind
    have e2 : (M : Int) * (M : Int) * (((oneU : Nat) : Int) * (oneU : Nat) - 1300 * (((eU : Nat) : Int) * (oneU : Nat))) = (M : Int) * (M : Int) * (((oneU : Nat) : Int) * (oneU : Nat)) - 1300 * Z := by rw [hZ]; grind
    rw [e1] at g1
    rw [e2] at g2
    exact sub_two g1 g2
  have eN : (M : Int) * (M : Int) * (u * u + v * v) = (M : Int) * (M : Int) * (u * u) + (M : Int) * (M : Int) * (v * v) := by grind
  rw [eN] at hNZ
  have hPU : fv P * (oneU : Nat) - (M : Int) * (M : Int) * (((oneU : Nat) : Int) * (oneU : Nat)) ≤ 4700 * Z ∧ -(4700 * Z) ≤ fv P * (oneU : Nat) - (M : Int) * (M : Int) * (((oneU : Nat) : Int) * (oneU : Nat)) := by
    generalize fv P * ((oneU : Nat) : Int) = PU at *
    generalize XX * ((oneU : Nat) : Int) = XU at *
    generalize YY * ((oneU : Nat) : Int) = YU at *
    generalize ((eU : Nat) : Int) * (oneU : Nat) = EU at *
    generalize (M : Int) * (M : Int) * (u * u) = Mu at *
    generalize (M : Int) * (M : Int) * (v * v) = Mv at *
    generalize (M : Int) * (M : Int) * (((oneU : Nat) : Int) * (oneU : Nat)) = MU2 at *
    generalize X * X = XX2 at *
    generalize Y * Y = YY2 at *
    clear eS eN eR eP hMM hMM1 hab hk16
    omega
  have hMU2 : (M : Int) * (M : Int) * (((oneU : Nat) : Int) * (oneU : Nat)) = 4503599627370496 * Z := by
    rw [UU_EU, hZ]; grind
  clear hNZ eN s1 s2 k1 k2 P2 Q2 R2 eS eP eR p2 q2 r2
  -- the root
  have hP0 : 0 < fv P := by
    have : 0 < fv P * ((oneU : Nat) : Int) := by omega
    rcases Int.lt_trichotomy (fv P) 0 with h | h | h
    · have := Int.mul_neg_of_neg_of_pos h hU0; omega
    · rw [h, Int.zero_mul] at this; omega
    · exact h
  have hPM : fv P ≤ 16777216 * (oneU : Nat) := by
    refine Int.le_of_mul_le_mul_right (a := ((oneU : Nat) : Int)) ?_ hU0
    have hZb : Z ≤ 11075584 * (((eU : Nat) : Int) * (oneU : Nat)) := by
      rw [hZ]
      refine Int.mul_le_mul_of_nonneg_right ?_ (by omega)
      have e := Int.natCast_mul M M
      omega
    rw [Int.mul_assoc, UU_EU]
    omega
  obtain ⟨N, fR, hR0, hR, hNP⟩ := sqrt_near r1 hP0 hPM
  have hNN : ((N : Nat) : Int) * ((N : Nat) : Int) - (M : Int) * (M : Int) * (((oneU : Nat) : Int) * (oneU : Nat)) ≤ 4710 * Z ∧ -(4710 * Z) ≤ ((N : Nat) : Int) * ((N : Nat) : Int) - (M : Int) * (M : Int) * (((oneU : Nat) : Int) * (oneU : Nat)) := by
    rw [Int.natCast_mul] at hNP
    generalize ((N : Nat) : Int) * ((N : Nat) : Int) = NN at *
    generalize fv P * ((oneU : Nat) : Int) = PU at *
    generalize (M : Int) * (M : Int) * (((oneU : Nat) : Int) * (oneU : Nat)) = MU2 at *
    omega
  obtain ⟨n1, n2⟩ := root_near (N := (N : Nat)) (M := (M : Int)) (U := (oneU : Nat)) (E := (eU : Nat)) hUi (by omega) (by omega) (by omega) hZ hNN.1 hNN.2
  have hR1 : (fv (sqrtF P) - (N : Nat)).natAbs ≤ 2 * (M * eU) := by
    have e : (((M * eU : Nat)) : Int) = (M : Int) * (eU : Nat) := Int.natCast_mul ..
    generalize (M : Int) * (eU : Nat) = ME at *
    generalize (M : Int) * (oneU : Nat) = MU at *
    generalize M * eU = me at *
    omega
  -- the difference
  obtain ⟨fw, w1⟩ := near_fn (d := ((M : Nat) : Int)) (by omega)
  have hEM : ((M : Int) * (eU : Nat)) ≤ 3328 * (eU : Nat) := Int.mul_le_mul_of_nonneg_right (by omega) (by omega)
  have eME : (((M * eU : Nat)) : Int) = (M : Int) * (eU : Nat) := Int.natCast_mul ..
  obtain ⟨d1, d2⟩ := subU (k := 1) fR fw (by rw [w1]; omega) (by decide)
  obtain ⟨a1, a2⟩ := fabs_fn d1
  have hc40 := c40_fn.2
  have hME1 : ((eU : Nat) : Int) ≤ (M : Int) * (eU : Nat) := by
    have h := Int.mul_le_mul_of_nonneg_right (c := ((eU : Nat) : Int)) (show (1 : Int) ≤ (M : Int) by omega) (by omega)
    rw [Int.one_mul] at h
    exact h
  obtain ⟨m1, m2, -⟩ := mulU (a := 1) (b := M) c40_fn.1 fw (by omega) (by rw [w1, Int.natAbs_mul]; simp) (by omega) (by omega)
  unfold nearB leB
  rw [← hM]
  refine (fle_fn a1 m1).2 ?_
  rw [a2]
  have hrhs : 4000 * ((M : Int) * (eU : Nat)) ≤ fv (fmul .f64 4427038433705197568 (FloatKind.f64.nearest ((M : Nat) : Int))) := by
    have t := (two_side m2).2
    rw [w1] at t
    refine Int.le_of_mul_le_mul_right (a := ((oneU : Nat) : Int)) ?_ hU0
    have e1 : fv 4427038433705197568 = 4096 * ((eU : Nat) : Int) := by omega
    rw [e1] at t
    have e2 : (((2 * (1 * M) + 1 : Nat)) : Int) * (((eU : Nat) : Int) * (oneU : Nat)) = 2 * ((M : Int) * (eU : Nat) * (oneU : Nat)) + ((eU : Nat) : Int) * (oneU : Nat) := by push_cast; grind
    have e3 : 4096 * ((eU : Nat) : Int) * ((M : Int) * (oneU : Nat)) = 4096 * ((M : Int) * (eU : Nat) * (oneU : Nat)) := by grind
    have e4 : 4000 * ((M : Int) * (eU : Nat)) * ((oneU : Nat) : Int) = 4000 * ((M : Int) * (eU : Nat) * (oneU : Nat)) := by grind
    have e5 : ((eU : Nat) : Int) * (oneU : Nat) ≤ (M : Int) * (eU : Nat) * (oneU : Nat) := Int.mul_le_mul_of_nonneg_right hME1 (by omega)
    rw [e2, e3] at t
    rw [e4]
    generalize (M : Int) * (eU : Nat) * ((oneU : Nat) : Int) = MEU at *
    generalize ((eU : Nat) : Int) * (oneU : Nat) = EU at *
    generalize fv (fmul .f64 4427038433705197568 (FloatKind.f64.nearest ((M : Nat) : Int))) * ((oneU : Nat) : Int) = F at *
    omega
  rw [w1] at d2
  omega

end Go.Proofs.YtmfaodenkghmkaaGreat
