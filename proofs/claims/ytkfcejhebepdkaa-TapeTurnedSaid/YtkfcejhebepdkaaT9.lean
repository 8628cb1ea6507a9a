/- What is handed in: a frame. -/
import Derived.Test.YtkfcejhebepdkaaT6
import Derived.Test.YtkfcejhebepdkaaWp8
namespace Go.Proofs.Ytkfcejhebepdkaa
open Go Go.Vam

theorem AbsL.cons {P : Program} {T : Type} {s : Mm} {t : TypeId} {ts : List TypeId} {vs : List Value} {ds : List (DataW T)} (h : AbsL P s (t :: ts) vs ds) : ∃ v vs' d ds', vs = v :: vs' ∧ ds = d :: ds' ∧ AbsV P s t v d ∧ AbsL P s ts vs' ds' := by
  cases vs with
  | nil => exact h.elim
  | cons v vs => cases ds with
    | nil => exact h.elim
    | cons d ds => exact ⟨v, vs, d, ds, rfl, rfl, h.1, h.2⟩

theorem AbsL.nil {P : Program} {T : Type} {s : Mm} {vs : List Value} {ds : List (DataW T)} (h : AbsL P s [] vs ds) : vs = [] ∧ ds = [] := by
  cases vs with
  | nil => cases ds with
    | nil => exact ⟨rfl, rfl⟩
    | cons d ds => exact h.elim
  | cons v vs => exact h.elim

def i16R (l : List (List Int)) : Prop := ∀ r ∈ l, ∀ x ∈ r, -32768 ≤ x ∧ x ≤ 32767

set_option maxRecDepth 100000 in
theorem frame_open {T : Type} {s : Mm} (hs : Lt s) {v : Value} {d : DataW T} (h : AbsV Try.prog s 42 v d) :
    ∃ T U rv iv re im, v = .agg #[.float .f64 T, .float .f64 U, rv, iv] ∧ TabC s rv re ∧ TabC s iv im ∧ re.length ≤ 9223372036854775807 ∧ im.length ≤ 9223372036854775807 ∧ T < 18446744073709551616 ∧ U < 18446744073709551616 ∧ i16R re ∧ i16R im ∧
      (∀ r ∈ re, r.length ≤ 9223372036854775807) ∧ (∀ r ∈ im, r.length ≤ 9223372036854775807) := by
  unfold AbsV at h
  rw [Try.underlying42] at h
  obtain ⟨cs, rfl, h⟩ := h
  obtain ⟨ds, rfl, hc, hd, hel⟩ := h.st Try.underlying42
  have h4 : Try.prog.cellsOf 42 = 4 := by decide +kernel
  have h1 : Try.prog.cellsOf 39 = 1 := by decide +kernel
  have h1' : Try.prog.cellsOf 40 = 1 := by decide +kernel
  have h67 : Try.prog.cellsOf 67 = 1 := by decide +kernel
  have h68 : Try.prog.cellsOf 68 = 1 := by decide +kernel
  rw [h4] at hc
  obtain ⟨l⟩ := cs
  simp only at hc hel
  match l, hc with
  | [a, b, c, e], _ =>
    match ds, hd with
    | [d0, d1, d2, d3], _ =>
      have e0 := hel 0 _ d0 rfl rfl
      have e1 := hel 1 _ d1 rfl rfl
      have e2 := hel 2 _ d2 rfl rfl
      have e3 := hel 3 _ d3 rfl rfl
      simp only [h1, h1'] at e0 e1 e2 e3
      obtain ⟨T, g0, _, w0⟩ := Abs.f Try.underlying39 e0
      obtain ⟨U, g1, _, w1⟩ := Abs.f Try.underlying39 e1
      obtain ⟨rv, re, cr, g2, r1, r2, r3⟩ := Abs.tab hs Try.underlying40 Try.underlying67 Try.underlying68 h67 h68 e2
      obtain ⟨iv, im, ci, g3, i1, i2, i3⟩ := Abs.tab hs Try.underlying40 Try.underlying67 Try.underlying68 h67 h68 e3
      simp only [List.drop_zero, List.drop_succ_cons, List.take_succ_cons, List.take_zero, List.cons.injEq, and_true] at g0 g1 g2 g3
      subst g0 g1 g2 g3
      have rng : ∀ x : Int, (Lit.int .i16 x).wf = true → -32768 ≤ x ∧ x ≤ 32767 := fun x hx => by
        simp only [Lit.wf, IntKind.min, IntKind.max, IntKind.bits, IntKind.signed] at hx
        simpa using hx
      have wfl : ∀ x : Nat, (Lit.float .f64 x).wf = true → x < 18446744073709551616 := fun x hx => by
        simpa [Lit.wf] using hx
      have idx : ∀ {l : List (List Int)} {r : List Int}, r ∈ l → ∃ i : Nat, l[i]? = some r := fun h => List.mem_iff_getElem?.1 h
      exact ⟨T, U, _, _, re, im, rfl, ⟨cr, r1, fun i r h => (r3 i r h).1⟩, ⟨ci, i1, fun i r h => (i3 i r h).1⟩, r2, i2, wfl _ w0, wfl _ w1,
        fun r hr x hx => by obtain ⟨i, hi⟩ := idx hr; exact rng x ((r3 i r hi).2.2 x hx), fun r hr x hx => by obtain ⟨i, hi⟩ := idx hr; exact rng x ((i3 i r hi).2.2 x hx),
        fun r hr => by obtain ⟨i, hi⟩ := idx hr; exact (r3 i r hi).2.1, fun r hr => by obtain ⟨i, hi⟩ := idx hr; exact (i3 i r hi).2.1⟩

end Go.Proofs.Ytkfcejhebepdkaa
