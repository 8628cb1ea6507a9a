/- Complex numbers, walked: products, magnitudes. -/
import Derived.Test.YtmfaodenkghmkaaGreatBase
import Derived.Test.YtmfaodenkghmkaaGreatIRA
import Derived.Test.YtmfaodenkghmkaaGreatWpB
import Derived.Test.YtmfaodenkghmkaaGreatTA
namespace Go.Proofs.YtmfaodenkghmkaaGreat
open Go Go.Vam

def mulR (a b c d : Nat) : Nat := fsub .f64 (fmul .f64 a c) (fmul .f64 b d)
def mulI (a b c d : Nat) : Nat := fadd .f64 (fmul .f64 a d) (fmul .f64 b c)
def abs2F (a b : Nat) : Nat := fadd .f64 (fmul .f64 a a) (fmul .f64 b b)


theorem run71 {X : Ctx} (hX : X.fns = fnsOf Tryz.prog) (ho : ∀ f args s, f ≠ 7 → X.orc f args s = none) {s : Mm} {a b c d : Nat} : CallP X 71 [.complex .f64 a b, .complex .f64 c d] s (fun r s' => r = .complex .f64 (mulR a b c d) (mulI a b c d) ∧ s = s') := by
  refine CallP_of (hX ▸ ir71_eq) (ho _ _ _ (by decide)) (Nat.le_of_ble_eq_true rfl) ?_
  refine W_seq (W_ops [0, 1] ?_)
  simp only [o71_0, wO, ↓reduceIte, Nat.reduceEqDiff, Nat.reduceAdd]
  intro fr e0 e1
  refine SeqK_n ?_
  refine W_seq (W_ops [0, 1, 5] ?_)
  simp only [o71_1, wO, ↓reduceIte, Nat.reduceEqDiff, e0, e1]
  clear e0 e1
  intro fr e0 e1 e5
  refine SeqK_n ?_
  refine W_seq (W_ops [5, 6] ?_)
  simp only [o71_2, wO, ↓reduceIte, Nat.reduceEqDiff, e0, e1, e5]
  clear e0 e1 e5
  intro fr e5 e6
  refine SeqK_n ?_
  refine W_seq (W_ops [4] ?_)
  simp only [o71_3, wO, ↓reduceIte, Nat.reduceEqDiff, e5, e6]
  clear e5 e6
  intro fr e4
  refine SeqK_n ?_
  exact W_ret (Ret1 e4 ⟨rfl, rfl⟩)
theorem run70 {X : Ctx} (hX : X.fns = fnsOf Tryz.prog) (ho : ∀ f args s, f ≠ 7 → X.orc f args s = none) {s : Mm} {a b k : Nat} : CallP X 70 [.complex .f64 a b, .float .f64 k] s (fun r s' => r = .complex .f64 (fmul .f64 a k) (fmul .f64 b k) ∧ s = s') := by
  refine CallP_of (hX ▸ ir70_eq) (ho _ _ _ (by decide)) (Nat.le_of_ble_eq_true rfl) ?_
  refine W_seq (W_ops [0, 1] ?_)
  simp only [o70_0, wO, ↓reduceIte, Nat.reduceEqDiff, Nat.reduceAdd]
  intro fr e0 e1
  refine SeqK_n ?_
  refine W_seq (W_ops [4] ?_)
  simp only [o70_1, wO, ↓reduceIte, Nat.reduceEqDiff, e0, e1]
  clear e0 e1
  intro fr e4
  refine SeqK_n ?_
  exact W_ret (Ret1 e4 ⟨rfl, rfl⟩)
theorem run52 {X : Ctx} (hX : X.fns = fnsOf Tryz.prog) (ho : ∀ f args s, f ≠ 7 → X.orc f args s = none) {s : Mm} {a b : Nat} : CallP X 52 [.complex .f64 a b] s (fun r s' => r = .float .f64 (abs2F a b) ∧ s = s') := by
  refine CallP_of (hX ▸ ir52_eq) (ho _ _ _ (by decide)) (Nat.le_of_ble_eq_true rfl) ?_
  refine W_seq (W_ops [0] ?_)
  simp only [o52_0, wO, ↓reduceIte, Nat.reduceEqDiff]
  intro fr e0
  refine SeqK_n ?_
  refine W_seq (W_ops [2] ?_)
  simp only [o52_1, wO, ↓reduceIte, Nat.reduceEqDiff, e0]
  clear e0
  intro fr e2
  refine SeqK_n ?_
  exact W_ret (Ret1 e2 ⟨rfl, rfl⟩)
theorem run138 {X : Ctx} (hX : X.fns = fnsOf Tryz.prog) (ho : ∀ f args s, f ≠ 7 → X.orc f args s = none) {s : Mm} {a b : Nat} : CallP X 138 [.complex .f64 a b] s (fun r s' => r = .complex .f64 a (fneg .f64 b) ∧ s = s') := by
  refine CallP_of (hX ▸ ir138_eq) (ho _ _ _ (by decide)) (Nat.le_of_ble_eq_true rfl) ?_
  refine W_seq (W_ops [0] ?_)
  simp only [o138_0, wO, ↓reduceIte, Nat.reduceEqDiff]
  intro fr e0
  refine SeqK_n ?_
  refine W_seq (W_ops [2] ?_)
  simp only [o138_1, wO, ↓reduceIte, Nat.reduceEqDiff, e0]
  clear e0
  intro fr e2
  refine SeqK_n ?_
  exact W_ret (Ret1 e2 ⟨rfl, rfl⟩)

end Go.Proofs.YtmfaodenkghmkaaGreat

/- Whole parts, signs, angles: walked. -/
namespace Go.Proofs.YtmfaodenkghmkaaGreat
open Go Go.Vam


theorem run133 {X : Ctx} (hX : X.fns = fnsOf Tryz.prog) (ho : ∀ f args s, f ≠ 7 → X.orc f args s = none) {s : Mm} {x : Nat} (hx : Vam.Fn x) : CallP X 133 [.float .f64 x] s (fun r s' => r = .float .f64 (truncF x) ∧ s = s') := by
  have ht := (trunc_fn hx).1
  refine CallP_of (hX ▸ ir133_eq) (ho _ _ _ (by decide)) (Nat.le_of_ble_eq_true rfl) ?_
  refine W_seq (W_ops [0] ?_)
  simp only [o133_0, wO, ↓reduceIte, Nat.reduceEqDiff]
  intro fr e0
  refine SeqK_n ?_
  refine W_seq (W_cond (b := true) rfl (fun _ => ?_) (fun h => by cases h))
  refine W_seq (W_ops [2] ?_)
  simp only [o133_1, wO, ↓reduceIte, e0, ht]
  clear e0
  intro fr e2
  refine SeqK_n ?_
  exact W_ret (SeqK_r (Ret1 e2 ⟨rfl, rfl⟩))

theorem run134 {X : Ctx} (hX : X.fns = fnsOf Tryz.prog) (ho : ∀ f args s, f ≠ 7 → X.orc f args s = none) {s : Mm} {f x : Nat} (hf : Vam.Fn f) (hx : Vam.Fn x) : CallP X 134 [.float .f64 f, .float .f64 x] s (fun r s' => r = .float .f64 (copyF f x) ∧ s = s') := by
  have b1 := bits_not (b := f)
  have b2 := bits_and hx.1
  have b3 := bits_or (a := f % 9223372036854775808) (b := x / 9223372036854775808) (by omega) (by have := hx.1; omega)
  have x0 := ext_bits0 hf.known
  have x1 := ext_bits0 hx.known
  have x2 := ext_word (n := f % 9223372036854775808 + x / 9223372036854775808 * 9223372036854775808) (by have := hx.1; omega)
  refine CallP_of (hX ▸ ir134_eq) (ho _ _ _ (by decide)) (Nat.le_of_ble_eq_true rfl) ?_
  refine W_seq (W_ops [0, 1] ?_)
  simp only [o134_0, wO, ↓reduceIte, Nat.reduceEqDiff, Nat.reduceAdd]
  intro fr e0 e1
  refine SeqK_n ?_
  refine W_seq (W_ops [4] ?_)
  simp only [o134_1, wO, ↓reduceIte, Nat.reduceEqDiff, e0, e1, x0, x1, b1, b2, b3, x2]
  clear e0 e1
  intro fr e4
  refine SeqK_n ?_
  exact W_ret (Ret1 e4 ⟨rfl, rfl⟩)

theorem run96 {X : Ctx} (hX : X.fns = fnsOf Tryz.prog) (ho : ∀ f args s, f ≠ 7 → X.orc f args s = none) {s : Mm} {x : Nat} (hx : Vam.Fn x) : CallP X 96 [.float .f64 x] s (fun r s' => r = .tuple #[.float .f64 (truncF x), .float .f64 (fracF x)] ∧ s = s') := by
  refine CallP_of (hX ▸ ir96_eq) (ho _ _ _ (by decide)) (Nat.le_of_ble_eq_true rfl) ?_
  refine W_seq (W_ops [0] ?_)
  simp only [o96_0, wO, ↓reduceIte, Nat.reduceEqDiff]
  intro fr e0
  refine SeqK_n ?_
  refine W_seq (W_ops [0, 2] ?_)
  simp only [o96_1, wO, ↓reduceIte, e0]
  refine CallK_of (run133 hX ho hx) ?_
  rintro _ _ ⟨rfl, rfl⟩
  simp only [wO, ↓reduceIte, Nat.reduceEqDiff, e0]
  clear e0
  intro fr e0 e2
  refine SeqK_n ?_
  refine W_seq (W_ops [2, 3] ?_)
  simp only [o96_2, wO, ↓reduceIte, Nat.reduceEqDiff, e0, e2]
  refine CallK_of (run134 hX ho (frac_fn hx).1 hx) ?_
  rintro _ _ ⟨rfl, rfl⟩
  simp only [wO, ↓reduceIte, Nat.reduceEqDiff, e2]
  clear e0 e2
  intro fr e2 e3
  refine SeqK_n ?_
  exact W_ret (Ret2 e2 e3 ⟨rfl, rfl⟩)

theorem run65 {X : Ctx} (hX : X.fns = fnsOf Tryz.prog) (ho : ∀ f args s, f ≠ 7 → X.orc f args s = none) {s : Mm} {x : Nat} (hx : Vam.Fn x) : CallP X 65 [.float .f64 x] s (fun r s' => r = .float .f64 (wrapF x) ∧ s = s') := by
  have hz := sub_self hx
  refine CallP_of (hX ▸ ir65_eq) (ho _ _ _ (by decide)) (Nat.le_of_ble_eq_true rfl) ?_
  refine W_seq (W_ops [0] ?_)
  simp only [o65_0, wO, ↓reduceIte, Nat.reduceEqDiff]
  intro fr e0
  refine SeqK_n ?_
  refine W_assoc ?_
  refine W_seq (W_ops [0, 8] ?_)
  simp only [o65_1, wO, ↓reduceIte, Nat.reduceEqDiff, e0, hz]
  clear e0
  intro fr e0 e8
  refine SeqK_n ?_
  refine W_seq (W_cond e8 (fun h => by cases h) (fun _ => W_skip (SeqK_n ?_)))
  refine W_seq (W_ops [4] ?_)
  simp only [o65_3, wO, ↓reduceIte, e0]
  refine CallK_of (run96 hX ho hx) ?_
  rintro _ _ ⟨rfl, rfl⟩
  have x30 : extractV (.tuple #[.float .f64 (truncF x), .float .f64 (fracF x)]) 0 = some (.float .f64 (truncF x)) := rfl
  have x31 : extractV (.tuple #[.float .f64 (truncF x), .float .f64 (fracF x)]) 1 = some (.float .f64 (fracF x)) := rfl
  simp only [wO, ↓reduceIte, Nat.reduceEqDiff, x30, x31]
  clear e0 e8
  intro fr e4
  refine SeqK_n ?_
  have fin : ∀ (fr : Fr), geT fr 4 = .float .f64 (if (ford .f64 (fracF x) 4602678819172646912 == some .gt || ford .f64 (fracF x) 4602678819172646912 == some .eq) = true then fsub .f64 (fracF x) 4607182418800017408
      else if (ford .f64 (fracF x) 13826050856027422720 == some .lt) = true then fadd .f64 (fracF x) 4607182418800017408 else fracF x) →
      SeqK X (.seq (.ops o65_8) .ret) (RetK ir65.results fun r s' => r = .float .f64 (wrapF x) ∧ s = s') .normal fr s := by
    intro fr e4
    refine SeqK_n ?_
    refine W_seq (W_ops [2] ?_)
    simp only [o65_8, wO, ↓reduceIte, e4]
    clear e4
    intro fr e2
    refine SeqK_n ?_
    exact W_ret (Ret1 e2 ⟨rfl, rfl⟩)
  refine W_seq (W_block ?_)
  cases h1 : (ford .f64 (fracF x) 4602678819172646912 == some .gt || ford .f64 (fracF x) 4602678819172646912 == some .eq) with
  | true =>
    refine W_seq (W_ops [4, 15] ?_)
    simp only [o65_4, wO, ↓reduceIte, Nat.reduceEqDiff, e4, h1]
    clear e4
    intro fr e4 e15
    refine SeqK_n ?_
    refine W_cond e15 (fun _ => ?_) (fun h => by cases h)
    refine W_ops [4] ?_
    simp only [o65_5, wO, ↓reduceIte, e4]
    clear e4 e15
    intro fr e4
    exact BlkK_n (fin _ (by rw [e4, if_pos h1]))
  | false =>
    refine W_seq (W_ops [4, 15] ?_)
    simp only [o65_4, wO, ↓reduceIte, Nat.reduceEqDiff, e4, h1]
    clear e4
    intro fr e4 e15
    refine SeqK_n ?_
    refine W_cond e15 (fun h => by cases h) (fun _ => ?_)
    cases h2 : (ford .f64 (fracF x) 13826050856027422720 == some .lt) with
    | true =>
      refine W_seq (W_ops [4, 20] ?_)
      simp only [o65_6, wO, ↓reduceIte, Nat.reduceEqDiff, e4, h2]
      clear e4 e15
      intro fr e4 e20
      refine SeqK_n ?_
      refine W_cond e20 (fun _ => ?_) (fun h => by cases h)
      refine W_ops [4] ?_
      simp only [o65_7, wO, ↓reduceIte, e4]
      clear e4 e20
      intro fr e4
      exact BlkK_n (fin _ (by rw [e4, if_neg (by rw [h1]; simp), if_pos h2]))
    | false =>
      refine W_seq (W_ops [4, 20] ?_)
      simp only [o65_6, wO, ↓reduceIte, Nat.reduceEqDiff, e4, h2]
      clear e4 e15
      intro fr e4 e20
      refine SeqK_n ?_
      refine W_cond e20 (fun h => by cases h) (fun _ => W_skip ?_)
      exact BlkK_n (fin _ (by rw [e4, if_neg (by rw [h1]; simp), if_neg (by rw [h2]; simp)]))

end Go.Proofs.YtmfaodenkghmkaaGreat

/- The rows of the sine and the cosine, walked. -/
namespace Go.Proofs.YtmfaodenkghmkaaGreat
open Go Go.Vam

def serC (l : List Nat) : List Value := l.map (Value.float .f64)
def serV (l : List Nat) : Value := .agg (serC l).toArray
def z24 : List Value := List.replicate 24 (.float .f64 0)
def sgnF (k : Nat) : Nat := if k % 2 = 0 then 4607182418800017408 else 13830554455654793216
def facF : Nat → Nat
  | 0 => 4607182418800017408
  | k + 1 => fmul .f64 (facF k) (FloatKind.f64.nearest ((k + 1 : Nat) : Int))
def serL (o : Nat) : Nat → List Nat
  | 0 => List.replicate 24 0
  | k + 1 => if (k + 1) % 2 = o then (serL o k).set ((k + 1) / 2) (fdiv .f64 (sgnF ((k + 1) / 2)) (facF (k + 1))) else serL o k
theorem serL_len (o : Nat) : ∀ k, (serL o k).length = 24
  | 0 => rfl
  | k + 1 => by
    unfold serL
    split
    · rw [List.length_set, serL_len o k]
    · exact serL_len o k
theorem serC_set (l : List Nat) (k x : Nat) : (serC l).set k (.float .f64 x) = serC (l.set k x) := by rw [serC, serC, List.map_set]
theorem ser_sin : serL 1 17 = sin24 := by decide +kernel
theorem ser_cos : (serL 0 16).set 0 4607182418800017408 = cos24 := by decide +kernel


theorem run135 {X : Ctx} (hX : X.fns = fnsOf Tryz.prog) (ho : ∀ f args s, f ≠ 7 → X.orc f args s = none) {s : Mm} {k : Nat} (hk : k ≤ 8) : CallP X 135 [.int .i64 (k : Nat)] s (fun r s' => r = .float .f64 (sgnF k) ∧ s = s') := by
  have h : ∃ y : Int, intBitsV .and .i64 (k : Nat) 1 = some y ∧ FloatKind.f64.nearest (wrapK .i64 (1 - wrapK .i64 (2 * y))) = sgnF k := by
    have hk : k = 0 ∨ k = 1 ∨ k = 2 ∨ k = 3 ∨ k = 4 ∨ k = 5 ∨ k = 6 ∨ k = 7 ∨ k = 8 := by omega
    rcases hk with rfl | rfl | rfl | rfl | rfl | rfl | rfl | rfl | rfl
    all_goals first
      | exact ⟨0, by decide +kernel, by decide +kernel⟩
      | exact ⟨1, by decide +kernel, by decide +kernel⟩
  obtain ⟨y, h1, h2⟩ := h
  refine CallP_of (hX ▸ ir135_eq) (ho _ _ _ (by decide)) (Nat.le_of_ble_eq_true rfl) ?_
  refine W_seq (W_ops [0] ?_)
  simp only [o135_0, wO, ↓reduceIte, Nat.reduceEqDiff]
  intro fr e0
  refine SeqK_n ?_
  refine W_seq (W_ops [2] ?_)
  simp only [o135_1, wO, ↓reduceIte, e0, h1, h2]
  clear e0
  intro fr e2
  refine SeqK_n ?_
  exact W_ret (Ret1 e2 ⟨rfl, rfl⟩)

set_option maxHeartbeats 1000000 in
theorem run97 {X : Ctx} (hX : X.fns = fnsOf Tryz.prog) (ho : ∀ f args s, f ≠ 7 → X.orc f args s = none) {s : Mm} {o : Nat} (ho1 : o ≤ 1) : CallP X 97 [.int .i64 (o : Nat)] s (fun r s' => r = serV (if o = 0 then cos24 else sin24) ∧ Same s s' (fun _ => False)) := by
  have H1 := (Hold.refl s).new (serC (serL o 0))
  have hz : ∀ s : Mm, newAt s (.cells [.float .f64 0, .float .f64 0, .float .f64 0, .float .f64 0, .float .f64 0, .float .f64 0, .float .f64 0, .float .f64 0, .float .f64 0, .float .f64 0, .float .f64 0, .float .f64 0, .float .f64 0, .float .f64 0, .float .f64 0, .float .f64 0, .float .f64 0, .float .f64 0, .float .f64 0, .float .f64 0, .float .f64 0, .float .f64 0, .float .f64 0, .float .f64 0] false) = newAt s (.cells (serC (serL o 0)) false) := fun _ => rfl
  refine CallP_of (hX ▸ ir97_eq) (ho _ _ _ (by decide)) (Nat.le_of_ble_eq_true rfl) ?_
  refine W_seq (W_ops [0, 2] ?_)
  simp only [o97_0, wO, ↓reduceIte, Nat.reduceEqDiff, hz]
  intro fr e0 e2
  refine SeqK_n ?_
  generalize newAt s (.cells (serC (serL o 0)) false) = s1 at H1 ⊢
  generalize s.nxt = B at H1 e2
  refine W_seq (W_ops [0, 2, 3] ?_)
  simp only [o97_1, wO, ↓reduceIte, Nat.reduceEqDiff, e0, e2]
  clear e0 e2
  intro fr e0 e2 e3
  refine SeqK_n ?_
  refine W_assoc ?_
  refine W_seq (W_ops [0, 2, 3, 4] ?_)
  simp only [o97_2, wO, ↓reduceIte, Nat.reduceEqDiff, e0, e2, e3]
  clear e0 e2 e3
  intro fr e0 e2 e3 e4
  refine SeqK_n ?_
  have w16 : wrapK .i64 (16 + (o : Int)) = 16 + (o : Int) := wrap_i64 (by omega) (by omega)
  refine W_seq (W_block (W_loop (fun m fr s1 => ∃ k : Nat, k + m = 16 + o ∧ geT fr 0 = .int .i64 (o : Nat) ∧ geT fr 2 = .pointer (some ⟨B, 0, none⟩) ∧ geT fr 3 = .float .f64 (facF k) ∧ geT fr 4 = .int .i64 ((k + 1 : Nat) : Int) ∧ Hold s s1 [HP.cell B (serC (serL o k))]) (16 + o) ⟨0, by omega, e0, e2, e3, e4, H1⟩ ?_))
  clear e0 e2 e3 e4 fr H1 hz s1
  rintro m fr s1 ⟨k, hk, e0, e2, e3, e4, H⟩
  refine W_assoc ?_
  refine W_seq (W_ops [0, 2, 3, 4, 8] ?_)
  simp only [o97_4, wO, ↓reduceIte, Nat.reduceEqDiff, e0, e2, e3, e4, w16]
  clear e0 e2 e3 e4
  intro fr e0 e2 e3 e4 e8
  refine SeqK_n ?_
  refine W_while e8 (fun hlt => ?_) (fun hlt => ?_)
  · have hk1 : k < 16 + o := by omega
    have hf : fmul .f64 (facF k) (FloatKind.f64.nearest ((k + 1 : Nat) : Int)) = facF (k + 1) := rfl
    have er : ((k + 1 : Nat) : Int).tmod 2 = (((k + 1) % 2 : Nat) : Int) := rfl
    have eq : ((k + 1 : Nat) : Int).tdiv 2 = (((k + 1) / 2 : Nat) : Int) := rfl
    have n2 : ¬ (2 : Int) = 0 := by decide
    refine W_seq (W_block ?_)
    refine W_seq (W_ops [0, 2, 3, 4] ?_)
    simp only [o97_5, wO, ↓reduceIte, Nat.reduceEqDiff, e0, e2, e3, e4, hf]
    clear e0 e2 e3 e4 e8
    intro fr e0 e2 e3 e4
    refine SeqK_n ?_
    refine W_seq (W_ops [0, 2, 3, 4, 18] ?_)
    simp only [o97_6, wO, ↓reduceIte, Nat.reduceEqDiff, Int.reduceEq, e0, e2, e3, e4, er]
    clear e0 e2 e3 e4
    intro fr e0 e2 e3 e4 e18
    refine SeqK_n ?_
    refine W_if e18 (fun h => ?_) (fun h => W_skip (BlkK_n (SeqK_n ?_)))
    · have hh : (k + 1) % 2 = o := by omega
      have A : addrArrV 24 1 (.pointer (some ⟨B, 0, none⟩)) (.int .i64 (((k + 1) / 2 : Nat) : Int)) = some (.pointer (some ⟨B, (k + 1) / 2, none⟩)) := by
        have : (0 : Int) ≤ (((k + 1) / 2 : Nat) : Int) ∧ (((k + 1) / 2 : Nat) : Int) < (24 : Nat) := ⟨by omega, by omega⟩
        simp only [addrArrV, idxV, if_pos this, add_none', Nat.mul_one, Nat.zero_add, Int.toNat_natCast]
      have st := store_g (s := s1) (x := .float .f64 (fdiv .f64 (sgnF ((k + 1) / 2)) (facF (k + 1)))) (H.cell (List.mem_cons_self ..)) rfl (show (k + 1) / 2 < _ by rw [serC, List.length_map, serL_len]; omega)
      have H2 := H.setc (cs' := (serC (serL o k)).set ((k + 1) / 2) (.float .f64 (fdiv .f64 (sgnF ((k + 1) / 2)) (facF (k + 1)))))
      have hs : (serC (serL o k)).set ((k + 1) / 2) (.float .f64 (fdiv .f64 (sgnF ((k + 1) / 2)) (facF (k + 1)))) = serC (serL o (k + 1)) := by rw [serC_set, serL, if_pos hh]
      rw [hs] at H2 st
      refine W_ops [0, 2, 3, 4] ?_
      simp only [o97_7, wO, ↓reduceIte, Nat.reduceEqDiff, Int.reduceEq, e4, eq, wrap_i64 (n := (((k + 1) / 2 : Nat) : Int)) (by omega) (by omega)]
      refine CallK_of (run135 hX ho (k := (k + 1) / 2) (by omega)) ?_
      rintro _ _ ⟨rfl, rfl⟩
      simp only [wO, ↓reduceIte, Nat.reduceEqDiff, e0, e2, e3, e4, A, st]
      clear e0 e2 e3 e4
      intro fr e0 e2 e3 e4
      refine BlkK_n (SeqK_n ?_)
      refine W_ops [0, 2, 3, 4] ?_
      simp only [o97_8, wO, ↓reduceIte, Nat.reduceEqDiff, e0, e2, e3, e4, wrap_i64 (n := ((k + 1 : Nat) : Int) + 1) (by omega) (by omega)]
      clear e0 e2 e3 e4
      intro fr e0 e2 e3 e4
      exact LoopK_n (m' := m - 1) (by omega) ⟨k + 1, by omega, e0, e2, e3, by rw [e4]; rfl, H2⟩
    · have hh : ¬ (k + 1) % 2 = o := by omega
      refine W_ops [0, 2, 3, 4] ?_
      simp only [o97_8, wO, ↓reduceIte, Nat.reduceEqDiff, e0, e2, e3, e4, wrap_i64 (n := ((k + 1 : Nat) : Int) + 1) (by omega) (by omega)]
      clear e0 e2 e3 e4
      intro fr e0 e2 e3 e4
      exact LoopK_n (m' := m - 1) (by omega) ⟨k + 1, by omega, e0, e2, e3, by rw [e4]; rfl, by rw [serL, if_neg hh]; exact H⟩
  · have hkk : k = 16 + o := by omega
    subst hkk
    refine LoopK_x (BlkK_e (SeqK_n ?_))
    refine W_assoc ?_
    refine W_seq (W_ops [2, 28] ?_)
    simp only [o97_9, wO, ↓reduceIte, Nat.reduceEqDiff, e0, e2]
    clear e0 e2 e3 e4
    intro fr e2 e28
    refine SeqK_n ?_
    refine W_seq (W_cutN (fun fr1 s6 => geT fr1 2 = .pointer (some ⟨B, 0, none⟩) ∧ Hold s s6 [HP.cell B (serC (if o = 0 then cos24 else sin24))]) ?_ ?_)
    · intro R' hR'
      refine W_if e28 (fun h => ?_) (fun h => W_skip (hR' _ _ ⟨e2, ?_⟩))
      · obtain rfl : o = 0 := by omega
        have A : addrArrV 24 1 (.pointer (some ⟨B, 0, none⟩)) (.int .i64 0) = some (.pointer (some ⟨B, 0, none⟩)) := rfl
        have st := store_g (s := s1) (o := 0) (x := .float .f64 4607182418800017408) (H.cell (List.mem_cons_self ..)) rfl (show 0 < _ by rw [serC, List.length_map, serL_len]; omega)
        have H2 := H.setc (cs' := (serC (serL 0 16)).set 0 (.float .f64 4607182418800017408))
        rw [serC_set, ser_cos] at H2 st
        refine W_ops [2] ?_
        simp only [o97_10, wO, ↓reduceIte, Nat.reduceEqDiff, e2, A, st]
        clear e2 e28
        intro fr e2
        exact hR' _ _ ⟨e2, by rw [if_pos rfl]; exact H2⟩
      · obtain rfl : o = 1 := by omega
        rw [if_neg (by decide), ← ser_sin]
        exact H
    clear e2 e28 fr H
    rintro fr s2 ⟨e2, H⟩
    refine SeqK_n ?_
    generalize hL : (if o = 0 then cos24 else sin24) = L at H
    have hlen : L.length = 24 := by rw [← hL]; split <;> rfl
    have L1 : loadV s2 (some 24) (.pointer (some ⟨B, 0, none⟩)) = some (serV L) := by
      rw [loadn_g (H.cell (List.mem_cons_self ..)), if_pos (by rw [serC, List.length_map]; omega), List.drop_zero, List.take_of_length_le (by rw [serC, List.length_map]; omega), serV]
    have st : storeV s2 24 (.pointer (some ⟨B, 0, none⟩)) (serV L) = some (undefV, setBlk s2 B (.cells (serC L) false)) :=
      store_all (vs := serC L) (H.cell (List.mem_cons_self ..)) (by rw [serC, List.length_map, hlen]) (by rw [serC, List.length_map, hlen]) (by unfold serC; simp [oneCell])
    have H2 := H.setc (cs' := serC L)
    refine W_seq (W_ops [2] ?_)
    simp only [o97_11, wO, ↓reduceIte, Nat.reduceEqDiff, e2, L1, st]
    clear e2
    intro fr e2
    refine SeqK_n ?_
    exact W_ret (RetC1 e2 (loadn_all (H2.cell (List.mem_cons_self ..)) (by rw [serC, List.length_map, hlen])) ⟨rfl, H2.same⟩)

end Go.Proofs.YtmfaodenkghmkaaGreat

/- The point of the circle at a turn: walked. -/
namespace Go.Proofs.YtmfaodenkghmkaaGreat
open Go Go.Vam



theorem run12 {X : Ctx} (hX : X.fns = fnsOf Tryz.prog) (ho : ∀ f args s, f ≠ 7 → X.orc f args s = none) {s : Mm} {x : Nat} : CallP X 12 [.float .f64 x] s (fun r s' => r = .float .f64 (sqrtF x) ∧ s = s') := by
  have h : extV 4 [.float .f64 x] = some (.float .f64 (sqrtF x)) := rfl
  refine CallP_of (hX ▸ ir12_eq) (ho _ _ _ (by decide)) (Nat.le_of_ble_eq_true rfl) ?_
  refine W_seq (W_ops [0] ?_)
  simp only [o12_0, wO, ↓reduceIte, Nat.reduceEqDiff]
  intro fr e0
  refine SeqK_n ?_
  refine W_seq (W_ops [2] ?_)
  simp only [o12_1, wO, ↓reduceIte, e0, h]
  clear e0
  intro fr e2
  refine SeqK_n ?_
  exact W_ret (Ret1 e2 ⟨rfl, rfl⟩)

theorem run98 {X : Ctx} (hX : X.fns = fnsOf Tryz.prog) (ho : ∀ f args s, f ≠ 7 → X.orc f args s = none) {s : Mm} {B : Nat} {l : List Nat} {z : Nat} (hl : l.length = 24) (hg : Store.get s.h B = some (.cells (serC l) false)) :
    CallP X 98 [.pointer (some ⟨B, 0, none⟩), .float .f64 z, .int .i64 9] s (fun r s' => r = .float .f64 (upF l z 8) ∧ s = s') := by
  have adr : ∀ k : Nat, k < 24 → addrArrV 24 1 (.pointer (some ⟨B, 0, none⟩)) (.int .i64 (k : Nat)) = some (.pointer (some ⟨B, k, none⟩)) := by
    intro k hk
    have : (0 : Int) ≤ (k : Nat) ∧ ((k : Nat) : Int) < (24 : Nat) := ⟨by omega, by omega⟩
    simp only [addrArrV, idxV, if_pos this, add_none', Nat.mul_one, Nat.zero_add, Int.toNat_natCast]
  have ld : ∀ k : Nat, k < 24 → loadV s none (.pointer (some ⟨B, k, none⟩)) = some (.float .f64 (l.getD k 0)) := by
    intro k hk
    refine load_g (o := k) hg |>.trans ?_
    unfold serC
    rw [List.getElem?_map, List.getD_eq_getElem?_getD, List.getElem?_eq_getElem (by omega)]
    rfl
  have a8 : addrArrV 24 1 (.pointer (some ⟨B, 0, none⟩)) (.int .i64 8) = some (.pointer (some ⟨B, 8, none⟩)) := adr 8 (by omega)
  have l8 := ld 8 (by omega)
  have w8 : wrapK .i64 8 = 8 := rfl
  have w7 : wrapK .i64 7 = 7 := rfl
  refine CallP_of (hX ▸ ir98_eq) (ho _ _ _ (by decide)) (Nat.le_of_ble_eq_true rfl) ?_
  refine W_seq (W_ops [0, 1, 2] ?_)
  simp only [o98_0, wO, ↓reduceIte, Nat.reduceEqDiff, Nat.reduceAdd]
  intro fr e0 e1 e2
  refine SeqK_n ?_
  refine W_seq (W_ops [0, 1, 2, 7] ?_)
  simp only [o98_1, wO, ↓reduceIte, Nat.reduceEqDiff, e0, e1, e2, Int.reduceSub, w8, a8, l8]
  clear e0 e1 e2
  intro fr e0 e1 e2 e7
  refine SeqK_n ?_
  refine W_assoc ?_
  refine W_seq (W_ops [0, 1, 7, 8] ?_)
  simp only [o98_2, wO, ↓reduceIte, Nat.reduceEqDiff, e0, e1, e2, e7, Int.reduceSub, w7]
  clear e0 e1 e2 e7
  intro fr e0 e1 e7 e8
  refine SeqK_n ?_
  refine W_seq (W_block (W_loop (fun m fr s1 => ∃ j : Nat, j + m = 8 ∧ s = s1 ∧ geT fr 0 = .pointer (some ⟨B, 0, none⟩) ∧ geT fr 1 = .float .f64 z ∧ geT fr 7 = .float .f64 (upF l z j) ∧ geT fr 8 = .int .i64 (7 - (j : Nat))) 8 ⟨0, by omega, rfl, e0, e1, e7, e8⟩ ?_))
  clear e0 e1 e7 e8 fr
  rintro m fr _ ⟨j, hj, rfl, e0, e1, e7, e8⟩
  refine W_assoc ?_
  refine W_seq (W_ops [0, 1, 7, 8, 18] ?_)
  simp only [o98_4, wO, ↓reduceIte, Nat.reduceEqDiff, e0, e1, e7, e8]
  clear e0 e1 e7 e8
  intro fr e0 e1 e7 e8 e18
  refine SeqK_n ?_
  refine W_while e18 (fun hlt => ?_) (fun hlt => ?_)
  · have ek : (7 : Int) - (j : Nat) = ((7 - j : Nat) : Int) := by omega
    have aj := adr (7 - j) (by omega)
    have lj := ld (7 - j) (by omega)
    rw [← ek] at aj
    refine W_seq (W_block ?_)
    refine W_ops [0, 1, 7, 8] ?_
    simp only [o98_5, wO, ↓reduceIte, Nat.reduceEqDiff, e0, e1, e7, e8, aj, lj]
    clear e0 e1 e7 e8 e18
    intro fr e0 e1 e7 e8
    refine BlkK_n (SeqK_n ?_)
    refine W_ops [0, 1, 7, 8] ?_
    simp only [o98_6, wO, ↓reduceIte, Nat.reduceEqDiff, e0, e1, e7, e8, wrap_i64 (n := 7 - (j : Int) - 1) (by omega) (by omega)]
    clear e0 e1 e7 e8
    intro fr e0 e1 e7 e8
    exact LoopK_n (m' := m - 1) (by omega) ⟨j + 1, by omega, rfl, e0, e1, by rw [e7, upF_succ], by rw [e8]; congr 1; omega⟩
  · have hj8 : j = 8 := by omega
    subst hj8
    refine LoopK_x (BlkK_e (SeqK_n ?_))
    refine W_seq (W_ops [6] ?_)
    simp only [o98_7, wO, ↓reduceIte, e7]
    clear e0 e1 e7 e8 e18
    intro fr e6
    refine SeqK_n ?_
    exact W_ret (Ret1 e6 ⟨rfl, rfl⟩)

theorem run66 {X : Ctx} (hX : X.fns = fnsOf Tryz.prog) (ho : ∀ f args s, f ≠ 7 → X.orc f args s = none) {s : Mm} {a : Nat} :
    CallP X 66 [.float .f64 a] s (fun r s' => r = .complex .f64 (eighC a) (eighS a) ∧ Same s s' (fun _ => False)) := by
  refine CallP_of (hX ▸ ir66_eq) (ho _ _ _ (by decide)) (Nat.le_of_ble_eq_true rfl) ?_
  refine W_seq (W_ops [0] ?_)
  simp only [o66_0, wO, ↓reduceIte, Nat.reduceEqDiff]
  intro fr e0
  refine SeqK_n ?_
  refine W_assoc ?_
  cases h : (ford .f64 a 4593671619917905920 == some .eq) with
  | true =>
    refine W_seq (W_ops [0, 8] ?_)
    simp only [o66_1, wO, ↓reduceIte, Nat.reduceEqDiff, e0, h]
    clear e0
    intro fr e0 e8
    refine SeqK_n ?_
    refine W_seq (W_cond e8 (fun _ => ?_) (fun h => by cases h))
    refine W_seq (W_ops [2] ?_)
    simp only [o66_2, wO]
    refine CallK_of (run12 hX ho) ?_
    rintro _ _ ⟨rfl, rfl⟩
    simp only [wO]
    refine CallK_of (run12 hX ho) ?_
    rintro _ _ ⟨rfl, rfl⟩
    simp only [wO, ↓reduceIte, Nat.reduceEqDiff, sqrt_half]
    clear e0 e8
    intro fr e2
    refine SeqK_n ?_
    refine W_ret (SeqK_r (Ret1 e2 ⟨?_, .refl _ _⟩))
    rw [eighC, eighS, if_pos h, if_pos h]
  | false =>
    refine W_seq (W_ops [0, 8] ?_)
    simp only [o66_1, wO, ↓reduceIte, Nat.reduceEqDiff, e0, h]
    clear e0
    intro fr e0 e8
    refine SeqK_n ?_
    refine W_seq (W_cond e8 (fun h => by cases h) (fun _ => W_skip (SeqK_n ?_)))
    refine W_seq (W_ops [3] ?_)
    simp only [o66_3, wO, ↓reduceIte, e0]
    clear e0 e8
    intro fr e3
    refine SeqK_n ?_
    refine W_seq (W_ops [3, 4] ?_)
    simp only [o66_4, wO, ↓reduceIte, Nat.reduceEqDiff, e3]
    clear e3
    intro fr e3 e4
    refine SeqK_n ?_
    refine W_seq (W_ops [3, 4, 5, 6] ?_)
    simp only [o66_5, wO]
    refine CallK_of (run97 hX ho (o := 1) (by omega)) ?_
    rintro _ t1 ⟨rfl, ht1⟩
    simp only [wO, ↓reduceIte, Nat.reduceEqDiff]
    refine CallK_of (run97 hX ho (o := 0) (by omega)) ?_
    rintro _ s0 ⟨rfl, ht2⟩
    have HH := (Hold.refl s).keep ht1 |>.keep ht2
    have H1 := ((Hold.refl s0).new z24).new z24
    have hz : ∀ s : Mm, newAt s (.cells [.float .f64 0, .float .f64 0, .float .f64 0, .float .f64 0, .float .f64 0, .float .f64 0, .float .f64 0, .float .f64 0, .float .f64 0, .float .f64 0, .float .f64 0, .float .f64 0, .float .f64 0, .float .f64 0, .float .f64 0, .float .f64 0, .float .f64 0, .float .f64 0, .float .f64 0, .float .f64 0, .float .f64 0, .float .f64 0, .float .f64 0, .float .f64 0] false) = newAt s (.cells z24 false) := fun _ => rfl
    have hn : (newAt s0 (.cells z24 false)).nxt = s0.nxt + 1 := rfl
    rw [hn] at H1
    have st1 : storeV (newAt (newAt s0 (.cells z24 false)) (.cells z24 false)) 24 (.pointer (some ⟨s0.nxt, 0, none⟩)) (serV sin24) = some (undefV, setBlk (newAt (newAt s0 (.cells z24 false)) (.cells z24 false)) s0.nxt (.cells (serC sin24) false)) := store_all (vs := serC sin24) (H1.cell (cs := z24) (by simp)) rfl rfl rfl
    have H2 := H1.up1.setc (cs' := serC sin24)
    generalize hs1 : newAt (newAt s0 (.cells z24 false)) (.cells z24 false) = s1 at *
    generalize setBlk s1 s0.nxt (.cells (serC sin24) false) = s2 at *
    have st2 : storeV s2 24 (.pointer (some ⟨s0.nxt + 1, 0, none⟩)) (serV cos24) = some (undefV, setBlk s2 (s0.nxt + 1) (.cells (serC cos24) false)) := store_all (vs := serC cos24) (H2.cell (cs := z24) (by simp)) rfl rfl rfl
    have H3 := H2.up1.setc (cs' := serC cos24)
    have hi1 : (if (1 : Nat) = 0 then cos24 else sin24) = sin24 := rfl
    have hi0 : (if (0 : Nat) = 0 then cos24 else sin24) = cos24 := rfl
    simp only [wO, ↓reduceIte, Nat.reduceEqDiff, e3, e4, hz, hn, hs1, st1, st2]
    clear e3 e4
    intro fr e3 e4 e5 e6
    refine SeqK_n ?_
    have HS := (HH.keep H3.same).same
    generalize setBlk s2 (s0.nxt + 1) (.cells (serC cos24) false) = s3 at *
    refine W_seq (W_ops [2] ?_)
    simp only [o66_6, wO, ↓reduceIte, Nat.reduceEqDiff, e4, e6]
    refine CallK_of (run98 hX ho (l := cos24) rfl (H3.cell (cs := serC cos24) (by simp))) ?_
    rintro _ _ ⟨rfl, rfl⟩
    simp only [wO, ↓reduceIte, Nat.reduceEqDiff, e4, e5]
    refine CallK_of (run98 hX ho (l := sin24) rfl (H3.cell (cs := serC sin24) (by simp))) ?_
    rintro _ _ ⟨rfl, rfl⟩
    simp only [wO, ↓reduceIte, Nat.reduceEqDiff, e3, up_cos, up_sin]
    clear e3 e4 e5 e6
    intro fr e2
    refine SeqK_n ?_
    refine W_ret (Ret1 e2 ⟨?_, HS⟩)
    rw [eighC, eighS, if_neg (by rw [h]; simp), if_neg (by rw [h]; simp), ptC, ptS]

theorem run38 {X : Ctx} (hX : X.fns = fnsOf Tryz.prog) (ho : ∀ f args s, f ≠ 7 → X.orc f args s = none) {s : Mm} {x : Nat} (hx : Vam.Fn x) (hw : Vam.Fn (wrapF x)) :
    CallP X 38 [.float .f64 x] s (fun r s' => r = .complex .f64 (turnC (wrapF x)) (turnS (wrapF x)) ∧ Same s s' (fun _ => False)) := by
  have hq : (ford .f64 (wrapF x) (wrapF x) == some .eq) = true := (feq_fn hw hw).2 rfl
  have ha : extV 5 [.float .f64 (wrapF x)] = some (.float .f64 (fabs (wrapF x))) := rfl
  refine CallP_of (hX ▸ ir38_eq) (ho _ _ _ (by decide)) (Nat.le_of_ble_eq_true rfl) ?_
  refine W_seq (W_ops [0] ?_)
  simp only [o38_0, wO, ↓reduceIte, Nat.reduceEqDiff]
  intro fr e0
  refine SeqK_n ?_
  refine W_seq (W_ops [3] ?_)
  simp only [o38_1, wO, ↓reduceIte, e0]
  refine CallK_of (run65 hX ho hx) ?_
  rintro _ _ ⟨rfl, rfl⟩
  simp only [wO, ↓reduceIte]
  clear e0
  intro fr e3
  refine SeqK_n ?_
  generalize wrapF x = w at *
  refine W_assoc ?_
  refine W_seq (W_ops [3, 12] ?_)
  simp only [o38_2, wO, ↓reduceIte, Nat.reduceEqDiff, e3, hq]
  clear e3
  intro fr e3 e12
  refine SeqK_n ?_
  refine W_seq (W_cond e12 (fun h => by cases h) (fun _ => W_skip (SeqK_n ?_)))
  have hL : (ford .f64 (fabs w) 4598175219545276416 == some .gt) = leftB w := rfl
  have hS : (ford .f64 (leftF w) 4593671619917905920 == some .gt) = steepB w := rfl
  refine W_seq (W_ops [3, 4] ?_)
  simp only [o38_4, wO, ↓reduceIte, Nat.reduceEqDiff, e3, ha]
  clear e3 e12
  intro fr e3 e4
  refine SeqK_n ?_
  refine W_seq (W_ops [3, 4, 5] ?_)
  simp only [o38_5, wO, ↓reduceIte, Nat.reduceEqDiff, e3, e4, hL]
  clear e3 e4
  intro fr e3 e4 e5
  refine SeqK_n ?_
  refine W_assoc ?_
  refine W_seq (W_ops [3, 4, 5, 20] ?_)
  simp only [o38_6, wO, ↓reduceIte, Nat.reduceEqDiff, e3, e4, e5]
  clear e3 e4 e5
  intro fr e3 e4 e5 e20
  refine SeqK_n ?_
  refine W_seq (W_cutN (fun fr1 s6 => s = s6 ∧ geT fr1 3 = .float .f64 w ∧ geT fr1 4 = .float .f64 (leftF w) ∧ geT fr1 5 = .bool (leftB w)) ?_ ?_)
  · intro R' hR'
    cases hl : leftB w with
    | true =>
      rw [hl] at e20 e5
      refine W_cond e20 (fun _ => ?_) (fun h => by cases h)
      refine W_ops [3, 4, 5] ?_
      simp only [o38_7, wO, ↓reduceIte, Nat.reduceEqDiff, e3, e4, e5]
      clear e3 e4 e5 e20
      intro fr e3 e4 e5
      exact hR' _ _ ⟨rfl, e3, by rw [e4, leftF, if_pos hl], by rw [e5, hl]⟩
    | false =>
      rw [hl] at e20 e5
      exact W_cond e20 (fun h => by cases h) (fun _ => W_skip (hR' _ _ ⟨rfl, e3, by rw [e4, leftF, if_neg (by rw [hl]; simp)], by rw [e5, hl]⟩))
  clear e3 e4 e5 e20 fr
  rintro fr _ ⟨rfl, e3, e4, e5⟩
  refine SeqK_n ?_
  refine W_seq (W_ops [3, 4, 5, 6] ?_)
  simp only [o38_8, wO, ↓reduceIte, Nat.reduceEqDiff, e3, e4, e5, hS]
  clear e3 e4 e5
  intro fr e3 e4 e5 e6
  refine SeqK_n ?_
  refine W_assoc ?_
  refine W_seq (W_ops [3, 4, 5, 6, 25] ?_)
  simp only [o38_9, wO, ↓reduceIte, Nat.reduceEqDiff, e3, e4, e5, e6]
  clear e3 e4 e5 e6
  intro fr e3 e4 e5 e6 e25
  refine SeqK_n ?_
  refine W_seq (W_cutN (fun fr1 s6 => s = s6 ∧ geT fr1 3 = .float .f64 w ∧ geT fr1 4 = .float .f64 (steepF w) ∧ geT fr1 5 = .bool (leftB w) ∧ geT fr1 6 = .bool (steepB w)) ?_ ?_)
  · intro R' hR'
    cases hl : steepB w with
    | true =>
      rw [hl] at e25 e6
      refine W_cond e25 (fun _ => ?_) (fun h => by cases h)
      refine W_ops [3, 4, 5, 6] ?_
      simp only [o38_10, wO, ↓reduceIte, Nat.reduceEqDiff, e3, e4, e5, e6]
      clear e3 e4 e5 e6 e25
      intro fr e3 e4 e5 e6
      exact hR' _ _ ⟨rfl, e3, by rw [e4, steepF, if_pos hl], e5, by rw [e6, hl]⟩
    | false =>
      rw [hl] at e25 e6
      exact W_cond e25 (fun h => by cases h) (fun _ => W_skip (hR' _ _ ⟨rfl, e3, by rw [e4, steepF, if_neg (by rw [hl]; simp)], e5, by rw [e6, hl]⟩))
  clear e3 e4 e5 e6 e25 fr
  rintro fr _ ⟨rfl, e3, e4, e5, e6⟩
  refine SeqK_n ?_
  refine W_seq (W_ops [3, 5, 6, 7] ?_)
  simp only [o38_11, wO, ↓reduceIte, e4]
  refine CallK_of (run66 hX ho) ?_
  rintro _ s1 ⟨rfl, hs1⟩
  simp only [wO, ↓reduceIte, Nat.reduceEqDiff, e3, e5, e6]
  clear e3 e4 e5 e6
  intro fr e3 e5 e6 e7
  refine SeqK_n ?_
  refine W_assoc ?_
  refine W_seq (W_ops [3, 5, 7, 30] ?_)
  simp only [o38_12, wO, ↓reduceIte, Nat.reduceEqDiff, e3, e5, e6, e7]
  clear e3 e5 e6 e7
  intro fr e3 e5 e7 e30
  refine SeqK_n ?_
  refine W_seq (W_cutN (fun fr1 s6 => s1 = s6 ∧ geT fr1 3 = .float .f64 w ∧ geT fr1 5 = .bool (leftB w) ∧ geT fr1 7 = .complex .f64 (tC1 w) (tS1 w)) ?_ ?_)
  · intro R' hR'
    cases hl : steepB w with
    | true =>
      rw [hl] at e30
      refine W_cond e30 (fun _ => ?_) (fun h => by cases h)
      refine W_ops [3, 5, 7] ?_
      simp only [o38_13, wO, ↓reduceIte, Nat.reduceEqDiff, e3, e5, e7]
      clear e3 e5 e7 e30
      intro fr e3 e5 e7
      exact hR' _ _ ⟨rfl, e3, e5, by rw [e7, tC1, tS1, if_pos hl, if_pos hl]⟩
    | false =>
      rw [hl] at e30
      exact W_cond e30 (fun h => by cases h) (fun _ => W_skip (hR' _ _ ⟨rfl, e3, e5, by rw [e7, tC1, tS1, if_neg (by rw [hl]; simp), if_neg (by rw [hl]; simp)]⟩))
  clear e3 e5 e7 e30 fr
  rintro fr _ ⟨rfl, e3, e5, e7⟩
  refine SeqK_n ?_
  refine W_assoc ?_
  refine W_seq (W_ops [3, 7, 36] ?_)
  simp only [o38_14, wO, ↓reduceIte, Nat.reduceEqDiff, e3, e5, e7]
  clear e3 e5 e7
  intro fr e3 e7 e36
  refine SeqK_n ?_
  refine W_seq (W_cutN (fun fr1 s6 => s1 = s6 ∧ geT fr1 3 = .float .f64 w ∧ geT fr1 7 = .complex .f64 (tC2 w) (tS1 w)) ?_ ?_)
  · intro R' hR'
    cases hl : leftB w with
    | true =>
      rw [hl] at e36
      refine W_cond e36 (fun _ => ?_) (fun h => by cases h)
      refine W_ops [3, 7] ?_
      simp only [o38_15, wO, ↓reduceIte, Nat.reduceEqDiff, e3, e7]
      clear e3 e7 e36
      intro fr e3 e7
      exact hR' _ _ ⟨rfl, e3, by rw [e7, tC2, if_pos hl]⟩
    | false =>
      rw [hl] at e36
      exact W_cond e36 (fun h => by cases h) (fun _ => W_skip (hR' _ _ ⟨rfl, e3, by rw [e7, tC2, if_neg (by rw [hl]; simp)]⟩))
  clear e3 e7 e36 fr
  rintro fr _ ⟨rfl, e3, e7⟩
  refine SeqK_n ?_
  refine W_assoc ?_
  refine W_seq (W_ops [7, 44] ?_)
  simp only [o38_16, wO, ↓reduceIte, Nat.reduceEqDiff, e3, e7]
  clear e3 e7
  intro fr e7 e44
  refine SeqK_n ?_
  refine W_seq (W_cutN (fun fr1 s6 => s1 = s6 ∧ geT fr1 7 = .complex .f64 (tC2 w) (tS3 w)) ?_ ?_)
  · intro R' hR'
    cases hl : (ford .f64 w 0 == some .lt) with
    | true =>
      rw [hl] at e44
      refine W_cond e44 (fun _ => ?_) (fun h => by cases h)
      refine W_ops [7] ?_
      simp only [o38_17, wO, ↓reduceIte, Nat.reduceEqDiff, e7]
      clear e7 e44
      intro fr e7
      exact hR' _ _ ⟨rfl, by rw [e7, tS3, if_pos hl]⟩
    | false =>
      rw [hl] at e44
      exact W_cond e44 (fun h => by cases h) (fun _ => W_skip (hR' _ _ ⟨rfl, by rw [e7, tS3, if_neg (by rw [hl]; simp)]⟩))
  clear e7 e44 fr
  rintro fr _ ⟨rfl, e7⟩
  refine SeqK_n ?_
  refine W_seq (W_ops [2] ?_)
  simp only [o38_18, wO, ↓reduceIte, Nat.reduceEqDiff, e7]
  clear e7
  intro fr e2
  refine SeqK_n ?_
  exact W_ret (Ret1 e2 ⟨rfl, hs1⟩)

end Go.Proofs.YtmfaodenkghmkaaGreat

/- Units, walked. -/
namespace Go.Proofs.YtmfaodenkghmkaaGreat
open Go Go.Vam

/-- k of n, centred. -/
def cen1 (k n : Int) : Int := if k.tmod n < 0 then k.tmod n + n else k.tmod n
def cenI (k n : Int) : Int := if n - cen1 k n < cen1 k n then cen1 k n - n else cen1 k n
theorem cen1_bd {k n : Int} (hn : 1 ≤ n) : 0 ≤ cen1 k n ∧ cen1 k n < n := by
  have h1 := Int.tmod_lt_of_pos k (show 0 < n by omega)
  have h2 := Int.lt_tmod_of_pos k (show 0 < n by omega)
  unfold cen1
  split <;> omega
theorem cenI_bd {k n : Int} (hn : 1 ≤ n) : 2 * (cenI k n).natAbs ≤ n.natAbs := by
  have := cen1_bd (k := k) hn
  unfold cenI
  split <;> omega
theorem cenI_zero {k n : Int} (hn : 1 ≤ n) : cenI k n = 0 ↔ cen1 k n = 0 := by
  have := cen1_bd (k := k) hn
  unfold cenI
  split <;> omega


theorem run36 {X : Ctx} (hX : X.fns = fnsOf Tryz.prog) (ho : ∀ f args s, f ≠ 7 → X.orc f args s = none) {s : Mm} {k n : Int} (hn : 1 ≤ n ∧ n ≤ 256) :
    CallP X 36 [.int .i64 k, .int .i64 n] s (fun r s' => r = .complex .f64 (uC (cenI k n) n) (uS (cenI k n) n) ∧ Same s s' (fun _ => False)) := by
  have h0 : ¬ n = 0 := by omega
  have d1 : decide (n < 1) = false := decide_eq_false (by omega)
  have hb := cen1_bd (k := k) hn.1
  have t1 := Int.tmod_lt_of_pos k (show 0 < n by omega)
  have t2 := Int.lt_tmod_of_pos k (show 0 < n by omega)
  obtain ⟨q1, q2, -⟩ := qF_fn hn (cenI_bd (k := k) hn.1)
  refine CallP_of (hX ▸ ir36_eq) (ho _ _ _ (by decide)) (Nat.le_of_ble_eq_true rfl) ?_
  refine W_seq (W_ops [0, 1] ?_)
  simp only [o36_0, wO, ↓reduceIte, Nat.reduceEqDiff, Nat.reduceAdd]
  intro fr e0 e1
  refine SeqK_n ?_
  refine W_assoc ?_
  refine W_seq (W_ops [0, 1, 6] ?_)
  simp only [o36_1, wO, ↓reduceIte, Nat.reduceEqDiff, e0, e1, d1]
  clear e0 e1
  intro fr e0 e1 e6
  refine SeqK_n ?_
  refine W_seq (W_cond e6 (fun h => by cases h) (fun _ => W_skip (SeqK_n ?_)))
  refine W_seq (W_ops [0, 1] ?_)
  simp only [o36_3, wO, ↓reduceIte, Nat.reduceEqDiff, e0, e1, if_neg h0]
  clear e0 e1 e6
  intro fr e0 e1
  refine SeqK_n ?_
  refine W_assoc ?_
  refine W_seq (W_ops [0, 1, 11] ?_)
  simp only [o36_4, wO, ↓reduceIte, Nat.reduceEqDiff, e0, e1]
  clear e0 e1
  intro fr e0 e1 e11
  refine SeqK_n ?_
  refine W_seq (W_cutN (fun fr1 s6 => s = s6 ∧ geT fr1 0 = .int .i64 (cen1 k n) ∧ geT fr1 1 = .int .i64 n) ?_ ?_)
  · intro R' hR'
    refine W_if e11 (fun h => ?_) (fun h => W_skip (hR' _ _ ⟨rfl, by rw [e0, cen1, if_neg h], e1⟩))
    refine W_ops [0, 1] ?_
    simp only [o36_5, wO, ↓reduceIte, Nat.reduceEqDiff, e0, e1, wrap_i64 (n := k.tmod n + n) (by omega) (by omega)]
    clear e0 e1 e11
    intro fr e0 e1
    exact hR' _ _ ⟨rfl, by rw [e0, cen1, if_pos h], e1⟩
  clear e0 e1 e11 fr
  rintro fr _ ⟨rfl, e0, e1⟩
  refine SeqK_n ?_
  refine W_assoc ?_
  refine W_seq (W_ops [0, 1, 19] ?_)
  simp only [o36_6, wO, ↓reduceIte, Nat.reduceEqDiff, e0, e1, wrap_i64 (n := n - cen1 k n) (by omega) (by omega)]
  clear e0 e1
  intro fr e0 e1 e19
  refine SeqK_n ?_
  refine W_seq (W_cutN (fun fr1 s6 => s = s6 ∧ geT fr1 0 = .int .i64 (cenI k n) ∧ geT fr1 1 = .int .i64 n) ?_ ?_)
  · intro R' hR'
    refine W_if e19 (fun h => ?_) (fun h => W_skip (hR' _ _ ⟨rfl, by rw [e0, cenI, if_neg h], e1⟩))
    refine W_ops [0, 1] ?_
    simp only [o36_7, wO, ↓reduceIte, Nat.reduceEqDiff, e0, e1, wrap_i64 (n := cen1 k n - n) (by omega) (by omega)]
    clear e0 e1 e19
    intro fr e0 e1
    exact hR' _ _ ⟨rfl, by rw [e0, cenI, if_pos h], e1⟩
  clear e0 e1 e19 fr
  rintro fr _ ⟨rfl, e0, e1⟩
  refine SeqK_n ?_
  refine W_seq (W_ops [4] ?_)
  simp only [o36_8, wO, ↓reduceIte, Nat.reduceEqDiff, e0, e1]
  refine CallK_of (run38 hX ho (x := qF (cenI k n) n) q1 (wrap_fn q1).1) ?_
  rintro _ s1 ⟨rfl, hs1⟩
  simp only [wO, ↓reduceIte]
  clear e0 e1
  intro fr e4
  refine SeqK_n ?_
  exact W_ret (Ret1 e4 ⟨rfl, hs1⟩)

end Go.Proofs.YtmfaodenkghmkaaGreat

/- Sums of complex numbers, walked. -/
namespace Go.Proofs.YtmfaodenkghmkaaGreat
open Go Go.Vam

abbrev Cx := Nat × Nat
def cV (x : Cx) : Value := .complex .f64 x.1 x.2
def addC (a b : Cx) : Cx := (fadd .f64 a.1 b.1, fadd .f64 a.2 b.2)
def mulC (a b : Cx) : Cx := (mulR a.1 a.2 b.1 b.2, mulI a.1 a.2 b.1 b.2)
def conC (a : Cx) : Cx := (a.1, fneg .f64 a.2)
theorem binc_add {a b c d : Nat} : binV .add (.complex .f64 a b) (.complex .f64 c d) = some (.complex .f64 (fadd .f64 a c) (fadd .f64 b d)) := by simp [binV]
theorem bin_cV {a b : Cx} : binV .add (cV a) (cV b) = some (cV (addC a b)) := binc_add


theorem run106 {X : Ctx} (hX : X.fns = fnsOf Tryz.prog) (ho : ∀ f args s, f ≠ 7 → X.orc f args s = none) {s : Mm} {v : Value} {x : Cx} {r : List Cx} (a : SlC s 1 v (r.length + 1) ((x :: r).map cV)) (hl : r.length ≤ 1048576) :
    CallP X 106 [v] s (fun q s' => q = cV (r.foldl addC x) ∧ s = s') := by
  have d0 : decide (((r.length + 1 : Nat) : Int) = 0) = false := decide_eq_false (by omega)
  have A0 := a.addr (kk := .i64) (i := 0) (k := 0) rfl (by omega)
  rw [Nat.zero_mul] at A0
  have l0 : loadV s none (elP v 0) = some (cV x) := a.load rfl
  have st := a.slE (l := 1) (k1 := .i64) (i := 1) rfl (by omega)
  have S1 := a.sub (l := 1) (h := r.length + 1) (by omega) (Nat.le_refl _)
  have hr : (((x :: r).map cV).drop (1 * 1)).take ((r.length + 1 - 1) * 1) = r.map cV := by
    rw [Nat.mul_one, Nat.mul_one, Nat.add_sub_cancel, List.map_cons, List.drop_succ_cons, List.drop_zero, List.take_of_length_le (by simp)]
  rw [hr, Nat.add_sub_cancel] at S1
  generalize subS 1 v 1 (r.length + 1) = w at st S1
  refine CallP_of (hX ▸ ir106_eq) (ho _ _ _ (by decide)) (Nat.le_of_ble_eq_true rfl) ?_
  refine W_seq (W_ops [0] ?_)
  simp only [o106_0, wO, ↓reduceIte, Nat.reduceEqDiff]
  intro fr e0
  refine SeqK_n ?_
  refine W_assoc ?_
  refine W_seq (W_ops [0, 8] ?_)
  simp only [o106_1, wO, ↓reduceIte, Nat.reduceEqDiff, e0, a.len, d0]
  clear e0
  intro fr e0 e8
  refine SeqK_n ?_
  refine W_seq (W_cond e8 (fun h => by cases h) (fun _ => W_skip (SeqK_n ?_)))
  refine W_seq (W_ops [0, 3] ?_)
  simp only [o106_3, wO, ↓reduceIte, Nat.reduceEqDiff, e0, A0, l0]
  clear e0 e8
  intro fr e0 e3
  refine SeqK_n ?_
  refine W_assoc ?_
  refine W_seq (W_ops [3, 13, 14, 15] ?_)
  simp only [o106_4, wO, ↓reduceIte, Nat.reduceEqDiff, e0, e3, st, S1.len]
  clear e0 e3
  intro fr e3 e13 e14 e15
  refine SeqK_n ?_
  refine W_seq (W_block (W_loop (fun m fr s1 => ∃ k : Nat, k + m = r.length ∧ s = s1 ∧ geT fr 3 = cV ((r.take k).foldl addC x) ∧ geT fr 13 = w ∧ geT fr 14 = .int .i64 (r.length : Nat) ∧ geT fr 15 = .int .i64 (k : Nat)) r.length ⟨0, by omega, rfl, e3, e13, e14, e15⟩ ?_))
  clear e3 e13 e14 e15 fr
  rintro m fr _ ⟨k, hk, rfl, e3, e13, e14, e15⟩
  refine W_seq (W_ops [3, 13, 14, 15, 16] ?_)
  simp only [o106_6, wO, ↓reduceIte, Nat.reduceEqDiff, e3, e13, e14, e15]
  clear e3 e13 e14 e15
  intro fr e3 e13 e14 e15 e16
  refine SeqK_n ?_
  refine W_while e16 (fun hlt => ?_) (fun hlt => ?_)
  · have hk1 : k < r.length := by omega
    have A1 := S1.addr (kk := .i64) (i := ((k : Nat) : Int)) rfl hk1
    rw [Nat.mul_one] at A1
    have L1 : loadV s none (elP w k) = some (cV r[k]) := S1.load (by rw [List.getElem?_map, List.getElem?_eq_getElem hk1]; rfl)
    refine W_seq (W_block ?_)
    refine W_seq (W_ops [3, 5, 13, 14, 15] ?_)
    simp only [o106_7, wO, ↓reduceIte, Nat.reduceEqDiff, e3, e13, e14, e15, A1, L1]
    clear e3 e13 e14 e15 e16
    intro fr e3 e5 e13 e14 e15
    refine SeqK_n ?_
    refine W_ops [3, 13, 14, 15] ?_
    simp only [o106_8, wO, ↓reduceIte, Nat.reduceEqDiff, e3, e5, e13, e14, e15, bin_cV]
    clear e3 e5 e13 e14 e15
    intro fr e3 e13 e14 e15
    refine BlkK_n (SeqK_n ?_)
    refine W_ops [3, 13, 14, 15] ?_
    simp only [o106_9, wO, ↓reduceIte, Nat.reduceEqDiff, e3, e13, e14, e15, wrap_i64 (n := (k : Int) + 1) (by omega) (by omega)]
    clear e3 e13 e14 e15
    intro fr e3 e13 e14 e15
    refine LoopK_n (m' := m - 1) (by omega) ⟨k + 1, by omega, rfl, ?_, e13, e14, by rw [e15]; rfl⟩
    rw [e3, List.take_add_one, List.getElem?_eq_getElem hk1, List.foldl_append]
    rfl
  · have hkk : k = r.length := by omega
    subst hkk
    rw [List.take_length] at e3
    refine LoopK_x (BlkK_e (SeqK_n ?_))
    refine W_seq (W_ops [2] ?_)
    simp only [o106_10, wO, ↓reduceIte, e3]
    clear e3 e13 e14 e15 e16
    intro fr e2
    refine SeqK_n ?_
    exact W_ret (Ret1 e2 ⟨rfl, rfl⟩)

/-- A product: the call. -/
theorem run71c {X : Ctx} (hX : X.fns = fnsOf Tryz.prog) (ho : ∀ f args s, f ≠ 7 → X.orc f args s = none) {s : Mm} {a b : Cx} : CallP X 71 [cV a, cV b] s (fun r s' => r = cV (mulC a b) ∧ s = s') := run71 hX ho

end Go.Proofs.YtmfaodenkghmkaaGreat

/- The matched filter, walked. -/
namespace Go.Proofs.YtmfaodenkghmkaaGreat
open Go Go.Vam

/-- Complex numbers in a row. -/
def fV (n : Nat) (f : Nat → Cx) : List Value := (List.range n).map fun i => cV (f i)
theorem fV_len (n : Nat) (f : Nat → Cx) : (fV n f).length = n := by simp [fV]
theorem fV_at {n k : Nat} (f : Nat → Cx) (h : k < n) : (fV n f)[k]? = some (cV (f k)) := by simp [fV, h]
theorem fV_sub {n d : Nat} (f : Nat → Cx) (h : d ≤ n) : ((fV n f).drop (d * 1)).take ((n - d) * 1) = fV (n - d) fun i => f (d + i) := by
  refine List.ext_getElem? fun i => ?_
  rw [Nat.mul_one, Nat.mul_one, List.getElem?_take]
  by_cases hi : i < n - d
  · rw [if_pos hi, List.getElem?_drop, fV_at f (by omega), fV_at _ hi]
  · rw [if_neg hi, List.getElem?_eq_none (by rw [fV_len]; omega)]
/-- A row that is filled up to k. -/
def fillV (n k : Nat) (f : Nat → Cx) : List Value := (List.range n).map fun i => if i < k then cV (f i) else cV (0, 0)
theorem fillV_len (n k : Nat) (f : Nat → Cx) : (fillV n k f).length = n := by simp [fillV]
theorem fillV_zero (n : Nat) (f : Nat → Cx) : List.replicate n (Value.complex .f64 0 0) = fillV n 0 f := by
  refine List.ext_getElem? fun i => ?_
  by_cases hi : i < n
  · simp [fillV, hi, cV]
  · rw [List.getElem?_eq_none (by simp; omega), List.getElem?_eq_none (by rw [fillV_len]; omega)]
theorem fillV_all (n : Nat) (f : Nat → Cx) : fillV n n f = fV n f := by
  unfold fillV fV
  refine List.map_congr_left fun i hi => ?_
  rw [if_pos (List.mem_range.1 hi)]
theorem fillV_set {n k : Nat} {f : Nat → Cx} (h : k < n) : (fillV n k f).set k (cV (f k)) = fillV n (k + 1) f := by
  refine List.ext_getElem? fun i => ?_
  rw [List.getElem?_set, fillV_len]
  by_cases e : k = i
  · subst e
    rw [if_pos rfl, if_pos h]
    simp [fillV, h]
  · rw [if_neg e]
    by_cases hi : i < n
    · have : (i < k + 1) = (i < k) := by simp; omega
      simp [fillV, hi, this]
    · rw [List.getElem?_eq_none (by rw [fillV_len]; omega), List.getElem?_eq_none (by rw [fillV_len]; omega)]

/-- What a pulse makes of samples: the first k products, summed up. -/
def atF (f g : Nat → Cx) : Nat → Cx
  | 0 => (0, 0)
  | k + 1 => if k = 0 then mulC (f 0) (g 0) else addC (atF f g k) (mulC (f k) (g k))


theorem run102 {X : Ctx} (hX : X.fns = fnsOf Tryz.prog) (ho : ∀ f args s, f ≠ 7 → X.orc f args s = none) {s : Mm} {v w : Value} {n m : Nat} {cs ds : List Value} (a : SlC s 1 v n cs) (b : SlC s 1 w m ds) (h1 : n ≤ 16384) (h2 : m ≤ 16384) (h3 : n * m ≤ 16777216) :
    CallP X 102 [v, w] s (fun r s' => r = .bool false ∧ s = s') := by
  have d1 : decide ((16384 : Int) < (n : Nat)) = false := decide_eq_false (by omega)
  have d2 : decide ((16384 : Int) < (m : Nat)) = false := decide_eq_false (by omega)
  have e : ((n : Nat) : Int) * ((m : Nat) : Int) = ((n * m : Nat) : Int) := (Int.natCast_mul ..).symm
  have d3 : decide ((16777216 : Int) < ((n * m : Nat) : Int)) = false := decide_eq_false (by omega)
  refine CallP_of (hX ▸ ir102_eq) (ho _ _ _ (by decide)) (Nat.le_of_ble_eq_true rfl) ?_
  refine W_seq (W_ops [0, 1] ?_)
  simp only [o102_0, wO, ↓reduceIte, Nat.reduceEqDiff, Nat.reduceAdd]
  intro fr e0 e1
  refine SeqK_n ?_
  refine W_seq (W_ops [4] ?_)
  simp only [o102_1, wO, ↓reduceIte, Nat.reduceEqDiff, e0, e1, a.len, b.len, d1, d2, e, wrap_i64 (n := ((n * m : Nat) : Int)) (by omega) (by omega), d3]
  clear e0 e1
  intro fr e4
  refine SeqK_n ?_
  exact W_ret (Ret1 e4 ⟨rfl, rfl⟩)

set_option maxHeartbeats 1000000 in
theorem run104 {X : Ctx} (hX : X.fns = fnsOf Tryz.prog) (ho : ∀ f args s, f ≠ 7 → X.orc f args s = none) {s : Mm} {v w : Value} {n m : Nat} {f g : Nat → Cx} (a : SlC s 1 v n (fV n f)) (b : SlC s 1 w m (fV m g)) (h1 : n ≤ 1048576) (h2 : m ≤ 1048576) :
    CallP X 104 [v, w] s (fun r s' => r = cV (atF f g (min n m)) ∧ s = s') := by
  have hmin : (if ((m : Nat) : Int) < ((n : Nat) : Int) then ((m : Nat) : Int) else ((n : Nat) : Int)) = ((min n m : Nat) : Int) := by split <;> omega
  have hn1 : min n m ≤ n := Nat.min_le_left ..
  have hm1 : min n m ≤ m := Nat.min_le_right ..
  refine CallP_of (hX ▸ ir104_eq) (ho _ _ _ (by decide)) (Nat.le_of_ble_eq_true rfl) ?_
  refine W_seq (W_ops [0, 1] ?_)
  simp only [o104_0, wO, ↓reduceIte, Nat.reduceEqDiff, Nat.reduceAdd]
  intro fr e0 e1
  refine SeqK_n ?_
  refine W_seq (W_ops [0, 1, 5] ?_)
  simp only [o104_1, wO, ↓reduceIte, Nat.reduceEqDiff, e0, e1]
  clear e0 e1
  intro fr e0 e1 e5
  refine SeqK_n ?_
  refine W_assoc ?_
  refine W_seq (W_ops [0, 1, 5, 12, 13] ?_)
  simp only [o104_2, wO, ↓reduceIte, Nat.reduceEqDiff, e0, e1, e5, a.len, b.len, hmin]
  clear e0 e1 e5
  intro fr e0 e1 e5 e12 e13
  refine SeqK_n ?_
  generalize min n m = N at *
  refine W_seq (W_block (W_loop (fun mm fr s1 => ∃ k : Nat, k + mm = N ∧ s = s1 ∧ geT fr 0 = v ∧ geT fr 1 = w ∧ geT fr 5 = cV (atF f g k) ∧ geT fr 12 = .int .i64 (N : Nat) ∧ geT fr 13 = .int .i64 (k : Nat)) N ⟨0, by omega, rfl, e0, e1, e5, e12, e13⟩ ?_))
  clear e0 e1 e5 e12 e13 fr
  rintro mm fr _ ⟨k, hk, rfl, e0, e1, e5, e12, e13⟩
  refine W_seq (W_ops [0, 1, 5, 12, 13, 14] ?_)
  simp only [o104_4, wO, ↓reduceIte, Nat.reduceEqDiff, e0, e1, e5, e12, e13]
  clear e0 e1 e5 e12 e13
  intro fr e0 e1 e5 e12 e13 e14
  refine SeqK_n ?_
  refine W_while e14 (fun hlt => ?_) (fun hlt => ?_)
  · have hk1 : k < N := by omega
    have A1 := a.addr (kk := .i64) (i := ((k : Nat) : Int)) rfl (show k < n by omega)
    have A2 := b.addr (kk := .i64) (i := ((k : Nat) : Int)) rfl (show k < m by omega)
    rw [Nat.mul_one] at A1 A2
    have L1 := a.load (fV_at f (show k < n by omega))
    have L2 := b.load (fV_at g (show k < m by omega))
    refine W_seq (W_block ?_)
    refine W_seq (W_ops [0, 1, 5, 6, 12, 13] ?_)
    simp only [o104_5, wO, ↓reduceIte, Nat.reduceEqDiff, e0, e1, e5, e12, e13]
    clear e0 e1 e5 e12 e13 e14
    intro fr e0 e1 e5 e6 e12 e13
    refine SeqK_n ?_
    refine W_seq (W_draw0 [0, 1, 5, 6, 7, 12, 13] rfl ?_)
    simp only [d104_6, wD, ↓reduceIte, Nat.reduceEqDiff, Nat.reduceAdd, e0, e1, e6, A1, A2, L1, L2]
    refine DCallK_of rfl (run71c hX ho) ?_
    rintro _ _ ⟨rfl, rfl⟩
    simp only [wD, Nat.testBit, Nat.reduceShiftRight, Nat.reduceAnd, Nat.reduceBneDiff, ↓reduceIte, Nat.reduceEqDiff, Nat.reduceAdd, e0, e1, e5, e6, e12, e13]
    clear e0 e1 e5 e6 e12 e13
    intro fr e0 e1 e5 e6 e7 e12 e13
    refine SeqK_n ?_
    by_cases h0 : k = 0
    · have d0 : decide (((k : Nat) : Int) = 0) = true := decide_eq_true (by omega)
      refine W_seq (W_ops [0, 1, 5, 7, 12, 13, 26] ?_)
      simp only [o104_7, wO, ↓reduceIte, Nat.reduceEqDiff, e0, e1, e5, e6, e7, e12, e13, d0]
      clear e0 e1 e5 e6 e7 e12 e13
      intro fr e0 e1 e5 e7 e12 e13 e26
      refine SeqK_n ?_
      refine W_cond e26 (fun _ => ?_) (fun h => by cases h)
      refine W_ops [0, 1, 5, 12, 13] ?_
      simp only [o104_8, wO, ↓reduceIte, Nat.reduceEqDiff, e0, e1, e7, e12, e13]
      clear e0 e1 e5 e7 e12 e13 e26
      intro fr e0 e1 e5 e12 e13
      refine BlkK_n (SeqK_n ?_)
      refine W_ops [0, 1, 5, 12, 13] ?_
      simp only [o104_10, wO, ↓reduceIte, Nat.reduceEqDiff, e0, e1, e5, e12, e13, wrap_i64 (n := (k : Int) + 1) (by omega) (by omega)]
      clear e0 e1 e5 e12 e13
      intro fr e0 e1 e5 e12 e13
      refine LoopK_n (m' := mm - 1) (by omega) ⟨k + 1, by omega, rfl, e0, e1, ?_, e12, by rw [e13]; rfl⟩
      rw [e5, atF, if_pos h0, h0]
    · have d0 : decide (((k : Nat) : Int) = 0) = false := decide_eq_false (by omega)
      refine W_seq (W_ops [0, 1, 5, 7, 12, 13, 26] ?_)
      simp only [o104_7, wO, ↓reduceIte, Nat.reduceEqDiff, e0, e1, e5, e6, e7, e12, e13, d0]
      clear e0 e1 e5 e6 e7 e12 e13
      intro fr e0 e1 e5 e7 e12 e13 e26
      refine SeqK_n ?_
      refine W_cond e26 (fun h => by cases h) (fun _ => ?_)
      refine W_ops [0, 1, 5, 12, 13] ?_
      simp only [o104_9, wO, ↓reduceIte, Nat.reduceEqDiff, e0, e1, e5, e7, e12, e13, bin_cV]
      clear e0 e1 e5 e7 e12 e13 e26
      intro fr e0 e1 e5 e12 e13
      refine BlkK_n (SeqK_n ?_)
      refine W_ops [0, 1, 5, 12, 13] ?_
      simp only [o104_10, wO, ↓reduceIte, Nat.reduceEqDiff, e0, e1, e5, e12, e13, wrap_i64 (n := (k : Int) + 1) (by omega) (by omega)]
      clear e0 e1 e5 e12 e13
      intro fr e0 e1 e5 e12 e13
      refine LoopK_n (m' := mm - 1) (by omega) ⟨k + 1, by omega, rfl, e0, e1, ?_, e12, by rw [e13]; rfl⟩
      rw [e5, atF, if_neg h0]
  · have hkk : k = N := by omega
    subst hkk
    refine LoopK_x (BlkK_e (SeqK_n ?_))
    refine W_seq (W_ops [4] ?_)
    simp only [o104_11, wO, ↓reduceIte, e5]
    clear e0 e1 e5 e12 e13 e14
    intro fr e4
    refine SeqK_n ?_
    exact W_ret (Ret1 e4 ⟨rfl, rfl⟩)

end Go.Proofs.YtmfaodenkghmkaaGreat

/- The matched filter, walked whole. -/
namespace Go.Proofs.YtmfaodenkghmkaaGreat
open Go Go.Vam


set_option maxHeartbeats 1000000 in
theorem run103 {X : Ctx} (hX : X.fns = fnsOf Tryz.prog) (ho : ∀ f args s, f ≠ 7 → X.orc f args s = none) {s0 s : Mm} {l : List HP} {w : Value} {m : Nat} {g : Nat → Cx} (H0 : Hold s0 s l) (b : SlC s 1 w m (fV m g)) (h2 : m ≤ 16384) :
    CallP X 103 [w] s (fun r s' => Hold s0 s' (HP.own 1 r m (fV m fun i => conC (g i)) :: l)) := by
  have hmk : makeSlV s 16 [.complex .f64 0 0] (.int .i64 (m : Nat)) (.int .i64 (m : Nat)) = some (.slice (some ⟨s.nxt, 0, none⟩) m m, .cells (repZ [.complex .f64 0 0] m) false) := makeSl_eq rfl rfl (Nat.le_refl _) (by omega) (by omega)
  have H1 := (Hold.refl s).make (sz := 1) (c := m) (n := m) (z := [.complex .f64 0 0]) rfl (Nat.le_refl _) (by unfold OPEN; omega)
  rw [repZ_1, fillV_zero m fun i => conC (g i)] at H1 hmk
  refine CallP_of (hX ▸ ir103_eq) (ho _ _ _ (by decide)) (Nat.le_of_ble_eq_true rfl) ?_
  refine W_seq (W_ops [0] ?_)
  simp only [o103_0, wO, ↓reduceIte, Nat.reduceEqDiff]
  intro fr e0
  refine SeqK_n ?_
  refine W_seq (W_ops [0, 3] ?_)
  simp only [o103_1, wO, ↓reduceIte, Nat.reduceEqDiff, e0, b.len, hmk]
  clear e0
  intro fr e0 e3
  refine SeqK_n ?_
  generalize newAt s (.cells (fillV m 0 fun i => conC (g i)) false) = s1 at H1 ⊢
  generalize Value.slice (some ⟨s.nxt, 0, none⟩) m m = ov at H1 e3
  refine W_assoc ?_
  refine W_seq (W_ops [3, 9, 10, 11] ?_)
  simp only [o103_2, wO, ↓reduceIte, Nat.reduceEqDiff, e0, e3, (b.same H1.same (fun _ _ h => h)).len]
  clear e0 e3
  intro fr e3 e9 e10 e11
  refine SeqK_n ?_
  refine W_seq (W_block (W_loop (fun mm fr s2 => ∃ k : Nat, k + mm = m ∧ geT fr 3 = ov ∧ geT fr 9 = w ∧ geT fr 10 = .int .i64 (m : Nat) ∧ geT fr 11 = .int .i64 (k : Nat) ∧ Hold s s2 [HP.own 1 ov m (fillV m k fun i => conC (g i))]) m ⟨0, by omega, e3, e9, e10, e11, H1⟩ ?_))
  clear e3 e9 e10 e11 fr H1 hmk s1
  rintro mm fr s1 ⟨k, hk, e3, e9, e10, e11, H⟩
  have b1 := b.same H.same (fun _ _ h => h)
  have so := (H.own (List.mem_cons_self ..)).slc
  refine W_seq (W_ops [3, 9, 10, 11, 12] ?_)
  simp only [o103_4, wO, ↓reduceIte, Nat.reduceEqDiff, e3, e9, e10, e11]
  clear e3 e9 e10 e11
  intro fr e3 e9 e10 e11 e12
  refine SeqK_n ?_
  refine W_while e12 (fun hlt => ?_) (fun hlt => ?_)
  · have hk1 : k < m := by omega
    have A1 := b1.addr (kk := .i64) (i := ((k : Nat) : Int)) rfl hk1
    have A2 := so.addr (kk := .i64) (i := ((k : Nat) : Int)) rfl hk1
    rw [Nat.mul_one] at A1 A2
    have L1 := b1.load (fV_at g hk1)
    obtain ⟨s2, st, H2⟩ := H.store (k := k) (x := cV (conC (g k))) (by rw [fillV_len]; exact hk1) rfl
    rw [fillV_set (f := fun i => conC (g i)) hk1] at H2
    refine W_seq (W_block ?_)
    refine W_seq (W_ops [3, 4, 5, 9, 10, 11] ?_)
    simp only [o103_5, wO, ↓reduceIte, Nat.reduceEqDiff, e3, e9, e10, e11, A1, L1]
    clear e3 e9 e10 e11 e12
    intro fr e3 e4 e5 e9 e10 e11
    refine SeqK_n ?_
    refine W_ops [3, 9, 10, 11] ?_
    simp only [o103_6, wO, ↓reduceIte, Nat.reduceEqDiff, e3, e4, e5]
    refine CallK_of (run138 hX ho (a := (g k).1) (b := (g k).2)) ?_
    rintro _ _ ⟨rfl, rfl⟩
    have hc : Value.complex .f64 (g k).1 (fneg .f64 (g k).2) = cV (conC (g k)) := rfl
    simp only [wO, ↓reduceIte, Nat.reduceEqDiff, e3, e9, e10, e11, hc, A2, st]
    clear e3 e4 e5 e9 e10 e11
    intro fr e3 e9 e10 e11
    refine BlkK_n (SeqK_n ?_)
    refine W_ops [3, 9, 10, 11] ?_
    simp only [o103_7, wO, ↓reduceIte, Nat.reduceEqDiff, e3, e9, e10, e11, wrap_i64 (n := (k : Int) + 1) (by omega) (by omega)]
    clear e3 e9 e10 e11
    intro fr e3 e9 e10 e11
    exact LoopK_n (m' := mm - 1) (by omega) ⟨k + 1, by omega, e3, e9, e10, by rw [e11]; rfl, H2⟩
  · have hkk : k = m := by omega
    subst hkk
    rw [fillV_all] at H
    refine LoopK_x (BlkK_e (SeqK_n ?_))
    refine W_seq (W_ops [2] ?_)
    simp only [o103_8, wO, ↓reduceIte, e3]
    clear e3 e9 e10 e11 e12
    intro fr e2
    refine SeqK_n ?_
    exact W_ret (Ret1 e2 (H0.app H))

end Go.Proofs.YtmfaodenkghmkaaGreat

/- The matched filter, walked whole: a row. -/
namespace Go.Proofs.YtmfaodenkghmkaaGreat
open Go Go.Vam

/-- What a pulse makes of a row. -/
def matchF (n m : Nat) (f g : Nat → Cx) (d : Nat) : Cx := atF (fun i => f (d + i)) (fun i => conC (g i)) (min (n - d) m)


set_option maxHeartbeats 1000000 in
theorem run74 {X : Ctx} (hX : X.fns = fnsOf Tryz.prog) (ho : ∀ f args s, f ≠ 7 → X.orc f args s = none) {s0 s : Mm} {l : List HP} {v w : Value} {n m : Nat} {f g : Nat → Cx} (H0 : Hold s0 s l) (a : SlC s 1 v n (fV n f)) (b : SlC s 1 w m (fV m g)) (h1 : n ≤ 16384) (h2 : 1 ≤ m ∧ m ≤ 16384) (h3 : n * m ≤ 16777216) :
    CallP X 74 [v, w] s (fun r s' => ∃ o, r = .tuple #[o, .int .i64 0] ∧ Hold s0 s' (HP.own 1 o n (fV n (matchF n m f g)) :: l)) := by
  have d0 : decide (((m : Nat) : Int) = 0) = false := decide_eq_false (by omega)
  refine CallP_of (hX ▸ ir74_eq) (ho _ _ _ (by decide)) (Nat.le_of_ble_eq_true rfl) ?_
  refine W_seq (W_ops [0, 1] ?_)
  simp only [o74_0, wO, ↓reduceIte, Nat.reduceEqDiff, Nat.reduceAdd]
  intro fr e0 e1
  refine SeqK_n ?_
  refine W_seq (W_block ?_)
  refine W_seq (W_ops [0, 1, 9] ?_)
  simp only [o74_1, wO, ↓reduceIte, Nat.reduceEqDiff, e0, e1, b.len, d0]
  clear e0 e1
  intro fr e0 e1 e9
  refine SeqK_n ?_
  refine W_cond e9 (fun h => by cases h) (fun _ => ?_)
  refine W_seq (W_ops [0, 1, 13] ?_)
  simp only [o74_3, wO, ↓reduceIte, Nat.reduceEqDiff, e0, e1]
  refine CallK_of (run102 hX ho a b h1 h2.2 h3) ?_
  rintro _ _ ⟨rfl, rfl⟩
  simp only [wO, ↓reduceIte, Nat.reduceEqDiff, e0, e1]
  clear e0 e1 e9
  intro fr e0 e1 e13
  refine SeqK_n ?_
  refine W_cond e13 (fun h => by cases h) (fun _ => W_skip (BlkK_n (SeqK_n ?_)))
  refine W_seq (W_drawM [0, 6, 7] 1 rfl ?_)
  intro s' hh hn' hs'
  have hmk : makeSlV s 16 [.complex .f64 0 0] (.int .i64 (n : Nat)) (.int .i64 (n : Nat)) = some (.slice (some ⟨s.nxt, 0, none⟩) n n, .cells (repZ [.complex .f64 0 0] n) false) := makeSl_eq rfl rfl (Nat.le_refl _) (by omega) (by omega)
  have hmd : makeSlD s.nxt 16 [.complex .f64 0 0] (.int .i64 (n : Nat)) (.int .i64 (n : Nat)) = some (.slice (some ⟨s.nxt, 0, none⟩) n n, .cells (repZ [.complex .f64 0 0] n) false) := hmk
  have HR := (Hold.refl s).reserve hn' hs'
  simp only [d74_5, WD_move, WD_bu, WD_makeSlice, WD_call, DPureK_some, DNewK_some, joinF_nil, joinF_cons, setH_self, Nat.testBit, Nat.reduceShiftRight, Nat.reduceAnd, bne_self_eq_false, geT_put, evO_tmp, List.map_cons, List.map_nil, Nat.reduceEqDiff, Nat.reduceAdd, ↓reduceIte, eq_self, Bool.false_eq_true, Nat.zero_add, e0, e1, (a.same hs' (fun _ _ h => h)).len, hmd]
  refine DCallK_of rfl (run103 hX ho HR (b.same hs' (fun _ _ h => h)) h2.2) ?_
  rintro pv s1 H1
  simp only [wD, Nat.testBit, Nat.reduceShiftRight, Nat.reduceAnd, ↓reduceIte, Nat.reduceEqDiff, Nat.reduceAdd, e0]
  clear e0 e1
  intro fr e0 e6 e7
  refine SeqK_n ?_
  have H2 : Hold s (setH s1 (Store.put s1.h s.nxt (some (.cells (repZ [.complex .f64 0 0] n) false)))) (HP.cell s.nxt (repZ [.complex .f64 0 0] n) :: [HP.own 1 pv m (fV m fun i => conC (g i))]) := Hold.fill _ (l := [HP.own 1 pv m (fV m fun i => conC (g i))]) H1.up1
  rw [repZ_1, fillV_zero n (matchF n m f g)] at H2
  rw [repZ_1, fillV_zero n (matchF n m f g)]
  have H3 := H2.cellOwn (sz := 1) (n := n) (by rw [fillV_len, Nat.mul_one]) (by unfold OPEN; omega)
  generalize setH s1 (Store.put s1.h s.nxt (some (.cells (fillV n 0 (matchF n m f g)) false))) = s2 at H3 ⊢
  generalize Value.slice (some ⟨s.nxt, 0, none⟩) n n = ov at H3 e6
  clear H2 H1 HR hmk hmd hh hn' hs' s1
  refine W_assoc ?_
  refine W_seq (W_ops [0, 6, 7, 23, 24] ?_)
  simp only [o74_6, wO, ↓reduceIte, Nat.reduceEqDiff, e0, e6, e7, (a.same H3.same (fun _ _ h => h)).len]
  clear e0 e6 e7
  intro fr e0 e6 e7 e23 e24
  refine SeqK_n ?_
  refine W_seq (W_block (W_loop (fun mm fr s2 => ∃ k : Nat, k + mm = n ∧ geT fr 0 = v ∧ geT fr 6 = ov ∧ geT fr 7 = pv ∧ geT fr 23 = .int .i64 (n : Nat) ∧ geT fr 24 = .int .i64 (k : Nat) ∧ Hold s s2 [HP.own 1 ov n (fillV n k (matchF n m f g)), HP.own 1 pv m (fV m fun i => conC (g i))]) n ⟨0, by omega, e0, e6, e7, e23, e24, H3⟩ ?_))
  clear e0 e6 e7 e23 e24 fr H3 s2
  rintro mm fr s1 ⟨k, hk, e0, e6, e7, e23, e24, H⟩
  have a1 := a.same H.same (fun _ _ h => h)
  have so := (H.own (List.mem_cons_self ..)).slc
  have sp := (H.own (sz := 1) (v := pv) (n := m) (cs := fV m fun i => conC (g i)) (by simp)).slc
  refine W_seq (W_ops [0, 6, 7, 23, 24, 25] ?_)
  simp only [o74_8, wO, ↓reduceIte, Nat.reduceEqDiff, e0, e6, e7, e23, e24]
  clear e0 e6 e7 e23 e24
  intro fr e0 e6 e7 e23 e24 e25
  refine SeqK_n ?_
  refine W_while e25 (fun hlt => ?_) (fun hlt => ?_)
  · have hk1 : k < n := by omega
    have A2 := so.addr (kk := .i64) (i := ((k : Nat) : Int)) rfl hk1
    rw [Nat.mul_one] at A2
    have st := a1.slE (l := k) (k1 := .i64) (i := ((k : Nat) : Int)) rfl (by omega)
    have S1 := a1.sub (l := k) (h := n) (by omega) (Nat.le_refl _)
    rw [fV_sub f (by omega)] at S1
    obtain ⟨s2, stt, H2⟩ := H.store (k := k) (x := cV (matchF n m f g k)) (by rw [fillV_len]; exact hk1) rfl
    rw [fillV_set hk1] at H2
    refine W_seq (W_block ?_)
    refine W_seq (W_ops [0, 6, 7, 8, 23, 24] ?_)
    simp only [o74_9, wO, ↓reduceIte, Nat.reduceEqDiff, e0, e6, e7, e23, e24]
    clear e0 e6 e7 e23 e24 e25
    intro fr e0 e6 e7 e8 e23 e24
    refine SeqK_n ?_
    refine W_ops [0, 6, 7, 23, 24] ?_
    simp only [o74_10, wO, ↓reduceIte, Nat.reduceEqDiff, e0, e6, e7, e8, st]
    refine CallK_of (run104 hX ho S1 sp (by omega) (by omega)) ?_
    rintro _ _ ⟨rfl, rfl⟩
    have hc : cV (atF (fun i => f (k + i)) (fun i => conC (g i)) (min (n - k) m)) = cV (matchF n m f g k) := rfl
    simp only [wO, ↓reduceIte, Nat.reduceEqDiff, e0, e6, e7, e23, e24, hc, A2, stt]
    clear e0 e6 e7 e8 e23 e24
    intro fr e0 e6 e7 e23 e24
    refine BlkK_n (SeqK_n ?_)
    refine W_ops [0, 6, 7, 23, 24] ?_
    simp only [o74_11, wO, ↓reduceIte, Nat.reduceEqDiff, e0, e6, e7, e23, e24, wrap_i64 (n := (k : Int) + 1) (by omega) (by omega)]
    clear e0 e6 e7 e23 e24
    intro fr e0 e6 e7 e23 e24
    exact LoopK_n (m' := mm - 1) (by omega) ⟨k + 1, by omega, e0, e6, e7, e23, by rw [e24]; rfl, H2⟩
  · have hkk : k = n := by omega
    subst hkk
    rw [fillV_all] at H
    refine LoopK_x (BlkK_e (SeqK_n ?_))
    refine W_seq (W_ops [4, 5] ?_)
    simp only [o74_12, wO, ↓reduceIte, Nat.reduceEqDiff, e6]
    clear e0 e6 e7 e23 e24 e25
    intro fr e4 e5
    refine SeqK_n ?_
    exact W_ret (Ret2 e4 e5 ⟨_, rfl, H0.app (H.sub (.cons_cons _ (List.nil_sublist _)))⟩)

end Go.Proofs.YtmfaodenkghmkaaGreat
