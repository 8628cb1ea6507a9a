/- DwellStands: its run at any arguments. -/
import Derived.Test.YtmfaodenkghmkaaGreatTG
import Derived.Test.YtmfaodenkghmkaaGreatE1
import Derived.Test.YtmfaodenkghmkaaGreatWpA
namespace Go.Proofs.YtmfaodenkghmkaaGreat
open Go Go.Vam

def noK (_ : FuncId) (_ : List Value) : Bool := false
theorem orc_ok : OrcOk (H := FunS ABlk) Tryz.prog (orcE Tryz.prog 0 7 noK) :=
  orcE_ok ext mixed 0 7 noK ⟨_, Tryz.func7, rfl, by decide⟩ wakes_call (fun _ _ h => by cases h)
theorem orc_wake (s : Mm) : orcE Tryz.prog 0 7 noK 7 [] s = some (.bool true, s) := by
  unfold orcE
  rw [if_pos ⟨rfl, rfl⟩]
theorem orc_other (f : FuncId) (args : List Value) (s : Mm) (h : f ≠ 7) : orcE Tryz.prog 0 7 noK f args s = none := by
  unfold orcE
  rw [if_neg (fun q => h q.1), if_neg (by unfold noK; exact Bool.false_ne_true)]

theorem AbsL.cons {P : Program} {T : Type} {s : Mm} {t : TypeId} {ts : List TypeId} {vs : List Value} {ds : List (DataW T)} (h : AbsL P s (t :: ts) vs ds) : ∃ v vs' d ds', vs = v :: vs' ∧ ds = d :: ds' ∧ AbsV P s t v d ∧ AbsL P s ts vs' ds' := by
  cases vs with
  | nil => exact h.elim
  | cons v vs => cases ds with
    | nil => exact h.elim
    | cons d ds => exact ⟨v, vs, d, ds, rfl, rfl, h.1, h.2⟩
theorem AbsL.nil {P : Program} {T : Type} {s : Mm} {vs : List Value} {ds : List (DataW T)} (h : AbsL P s [] vs ds) : vs = [] ∧ ds = [] := by
  cases vs with
  | nil => cases ds with
    | nil => exact ⟨rfl, rfl⟩
    | cons d ds => exact h.elim
  | cons v vs => exact h.elim
theorem wfl (x : Nat) (hx : (Lit.float .f64 x).wf = true) : x < 18446744073709551616 := by simpa [Lit.wf] using hx

theorem c3 : Tryz.prog.cellsOf 3 = 1 := by decide +kernel
theorem c22 : Tryz.prog.cellsOf 22 = 1 := by decide +kernel
theorem c24 : Tryz.prog.cellsOf 24 = 5 := by decide +kernel
theorem five {α : Type} {l : List α} (h : l.length = 5) : ∃ a b c d e, l = [a, b, c, d, e] := by
  match l, h with
  | [a, b, c, d, e], _ => exact ⟨a, b, c, d, e, rfl⟩

set_option maxRecDepth 100000 in
theorem beat_open {T : Type} {s : Mm} {v : Value} {d : DataW T} (h : AbsV Tryz.prog s 24 v d) : ∃ c w r ev ro, v = bV c w r ev ro ∧ c < 18446744073709551616 ∧ w < 18446744073709551616 ∧ r < 18446744073709551616 := by
  unfold AbsV at h
  rw [Tryz.underlying24] at h
  obtain ⟨cs, rfl, h⟩ := h
  obtain ⟨ds, _, h1, h2, h3⟩ := Abs.st Tryz.underlying24 h
  rw [c24] at h1
  obtain ⟨a0, a1, a2, a3, a4, habc⟩ := five h1
  obtain ⟨d0, d1, d2, d3, d4, rfl⟩ := five h2
  have g0 := h3 0 _ d0 rfl rfl
  have g1 := h3 1 _ d1 rfl rfl
  have g2 := h3 2 _ d2 rfl rfl
  have g3 := h3 3 _ d3 rfl rfl
  have g4 := h3 4 _ d4 rfl rfl
  simp only [c3, c22, habc] at g0 g1 g2 g3 g4
  obtain ⟨n0, k0, _, w0⟩ := Abs.f Tryz.underlying22 g0
  obtain ⟨n1, k1, _, w1⟩ := Abs.f Tryz.underlying22 g1
  obtain ⟨n2, k2, _, w2⟩ := Abs.f Tryz.underlying22 g2
  obtain ⟨n3, k3, _⟩ := Abs.i Tryz.underlying3 g3
  obtain ⟨n4, k4, _⟩ := Abs.i Tryz.underlying3 g4
  simp only [List.drop_zero, List.drop_succ_cons, List.take_succ_cons, List.take_zero, List.cons.injEq, and_true] at k0 k1 k2 k3 k4
  subst k0 k1 k2 k3 k4
  obtain ⟨l⟩ := cs
  simp only at habc
  subst habc
  exact ⟨n0, n1, n2, n3, n4, rfl, wfl _ w0, wfl _ w1, wfl _ w2⟩
set_option maxRecDepth 100000 in
theorem int_open {T : Type} {s : Mm} {v : Value} {d : DataW T} (h : AbsV Tryz.prog s 3 v d) : ∃ n, v = .int .i64 n := by
  unfold AbsV at h
  rw [Tryz.underlying3] at h
  obtain ⟨n, k, _⟩ := Abs.i Tryz.underlying3 h
  exact ⟨n, by simpa using k⟩

set_option maxRecDepth 100000 in
theorem runDwellStands {T : Type} {s : Mm} {avs : List Value} {ds : List (DataW T)} (h : AbsL Tryz.prog s [24, 3, 3] avs ds) : CallP ⟨orcE Tryz.prog 0 7 noK, fnsOf Tryz.prog⟩ 3 avs s (fun v _ => v = .bool true) := by
  obtain ⟨v0, vs, d0, ds, rfl, rfl, h0, h⟩ := AbsL.cons h
  obtain ⟨v1, vs, d1, ds, rfl, rfl, h1, h⟩ := AbsL.cons h
  obtain ⟨v2, vs, d2, ds, rfl, rfl, h2, h⟩ := AbsL.cons h
  obtain ⟨rfl, rfl⟩ := AbsL.nil h
  obtain ⟨c, w, r, ev, ro, rfl, h64⟩ := beat_open h0
  obtain ⟨ba, rfl⟩ := int_open h1
  obtain ⟨ga, rfl⟩ := int_open h2
  exact runLaw (X := ⟨orcE Tryz.prog 0 7 noK, fnsOf Tryz.prog⟩) rfl orc_other orc_wake h64

end Go.Proofs.YtmfaodenkghmkaaGreat
