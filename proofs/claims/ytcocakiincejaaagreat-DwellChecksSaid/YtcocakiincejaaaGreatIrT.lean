/- The table of these texts. -/
import Derived.Test.YtcocakiincejaaaGreatIrA
import Derived.Test.YtcocakiincejaaaGreatIrB
import Derived.Test.YtcocakiincejaaaGreatKA
namespace Go.Proofs.YtcocakiincejaaaGreat
open Go Go.Vam

def irs0 : List (Nat × AFn) := [(4, ir4), (6, ir6), (7, ir7), (8, ir8), (9, ir9), (10, ir10), (14, ir14), (15, ir15), (16, ir16), (17, ir17), (18, ir18), (19, ir19)]
theorem irs0_ok : ∀ p ∈ irs0, fnsOf Tryz.prog p.1 = some p.2 :=
  List.forall_mem_cons.2 ⟨ir4_eq, List.forall_mem_cons.2 ⟨ir6_eq, List.forall_mem_cons.2 ⟨ir7_eq, List.forall_mem_cons.2 ⟨ir8_eq, List.forall_mem_cons.2 ⟨ir9_eq, List.forall_mem_cons.2 ⟨ir10_eq, List.forall_mem_cons.2 ⟨ir14_eq, List.forall_mem_cons.2 ⟨ir15_eq, List.forall_mem_cons.2 ⟨ir16_eq, List.forall_mem_cons.2 ⟨ir17_eq, List.forall_mem_cons.2 ⟨ir18_eq, List.forall_mem_cons.2 ⟨ir19_eq, fun _ h => nomatch h⟩⟩⟩⟩⟩⟩⟩⟩⟩⟩⟩⟩
def irs1 : List (Nat × AFn) := [(23, ir23), (24, ir24), (29, ir29), (30, ir30), (31, ir31), (32, ir32), (33, ir33), (34, ir34), (35, ir35), (36, ir36), (37, ir37), (46, ir46)]
theorem irs1_ok : ∀ p ∈ irs1, fnsOf Tryz.prog p.1 = some p.2 :=
  List.forall_mem_cons.2 ⟨ir23_eq, List.forall_mem_cons.2 ⟨ir24_eq, List.forall_mem_cons.2 ⟨ir29_eq, List.forall_mem_cons.2 ⟨ir30_eq, List.forall_mem_cons.2 ⟨ir31_eq, List.forall_mem_cons.2 ⟨ir32_eq, List.forall_mem_cons.2 ⟨ir33_eq, List.forall_mem_cons.2 ⟨ir34_eq, List.forall_mem_cons.2 ⟨ir35_eq, List.forall_mem_cons.2 ⟨ir36_eq, List.forall_mem_cons.2 ⟨ir37_eq, List.forall_mem_cons.2 ⟨ir46_eq, fun _ h => nomatch h⟩⟩⟩⟩⟩⟩⟩⟩⟩⟩⟩⟩
def irs2 : List (Nat × AFn) := [(47, ir47), (48, ir48), (49, ir49), (52, ir52), (53, ir53), (54, ir54), (55, ir55), (56, ir56), (57, ir57), (58, ir58), (59, ir59), (60, ir60)]
theorem irs2_ok : ∀ p ∈ irs2, fnsOf Tryz.prog p.1 = some p.2 :=
  List.forall_mem_cons.2 ⟨ir47_eq, List.forall_mem_cons.2 ⟨ir48_eq, List.forall_mem_cons.2 ⟨ir49_eq, List.forall_mem_cons.2 ⟨ir52_eq, List.forall_mem_cons.2 ⟨ir53_eq, List.forall_mem_cons.2 ⟨ir54_eq, List.forall_mem_cons.2 ⟨ir55_eq, List.forall_mem_cons.2 ⟨ir56_eq, List.forall_mem_cons.2 ⟨ir57_eq, List.forall_mem_cons.2 ⟨ir58_eq, List.forall_mem_cons.2 ⟨ir59_eq, List.forall_mem_cons.2 ⟨ir60_eq, fun _ h => nomatch h⟩⟩⟩⟩⟩⟩⟩⟩⟩⟩⟩⟩
def irs3 : List (Nat × AFn) := [(61, ir61), (62, ir62), (63, ir63), (65, ir65), (67, ir67), (68, ir68), (69, ir69), (70, ir70), (81, ir81), (82, ir82), (83, ir83), (84, ir84)]
theorem irs3_ok : ∀ p ∈ irs3, fnsOf Tryz.prog p.1 = some p.2 :=
  List.forall_mem_cons.2 ⟨ir61_eq, List.forall_mem_cons.2 ⟨ir62_eq, List.forall_mem_cons.2 ⟨ir63_eq, List.forall_mem_cons.2 ⟨ir65_eq, List.forall_mem_cons.2 ⟨ir67_eq, List.forall_mem_cons.2 ⟨ir68_eq, List.forall_mem_cons.2 ⟨ir69_eq, List.forall_mem_cons.2 ⟨ir70_eq, List.forall_mem_cons.2 ⟨ir81_eq, List.forall_mem_cons.2 ⟨ir82_eq, List.forall_mem_cons.2 ⟨ir83_eq, List.forall_mem_cons.2 ⟨ir84_eq, fun _ h => nomatch h⟩⟩⟩⟩⟩⟩⟩⟩⟩⟩⟩⟩
def irs4 : List (Nat × AFn) := [(85, ir85), (87, ir87), (88, ir88), (89, ir89), (90, ir90), (91, ir91), (92, ir92), (93, ir93), (94, ir94), (95, ir95), (96, ir96), (97, ir97)]
theorem irs4_ok : ∀ p ∈ irs4, fnsOf Tryz.prog p.1 = some p.2 :=
  List.forall_mem_cons.2 ⟨ir85_eq, List.forall_mem_cons.2 ⟨ir87_eq, List.forall_mem_cons.2 ⟨ir88_eq, List.forall_mem_cons.2 ⟨ir89_eq, List.forall_mem_cons.2 ⟨ir90_eq, List.forall_mem_cons.2 ⟨ir91_eq, List.forall_mem_cons.2 ⟨ir92_eq, List.forall_mem_cons.2 ⟨ir93_eq, List.forall_mem_cons.2 ⟨ir94_eq, List.forall_mem_cons.2 ⟨ir95_eq, List.forall_mem_cons.2 ⟨ir96_eq, List.forall_mem_cons.2 ⟨ir97_eq, fun _ h => nomatch h⟩⟩⟩⟩⟩⟩⟩⟩⟩⟩⟩⟩
def irs5 : List (Nat × AFn) := [(98, ir98), (99, ir99), (100, ir100), (101, ir101), (102, ir102), (103, ir103), (104, ir104), (118, ir118), (119, ir119), (120, ir120), (121, ir121), (122, ir122)]
theorem irs5_ok : ∀ p ∈ irs5, fnsOf Tryz.prog p.1 = some p.2 :=
  List.forall_mem_cons.2 ⟨ir98_eq, List.forall_mem_cons.2 ⟨ir99_eq, List.forall_mem_cons.2 ⟨ir100_eq, List.forall_mem_cons.2 ⟨ir101_eq, List.forall_mem_cons.2 ⟨ir102_eq, List.forall_mem_cons.2 ⟨ir103_eq, List.forall_mem_cons.2 ⟨ir104_eq, List.forall_mem_cons.2 ⟨ir118_eq, List.forall_mem_cons.2 ⟨ir119_eq, List.forall_mem_cons.2 ⟨ir120_eq, List.forall_mem_cons.2 ⟨ir121_eq, List.forall_mem_cons.2 ⟨ir122_eq, fun _ h => nomatch h⟩⟩⟩⟩⟩⟩⟩⟩⟩⟩⟩⟩
def irs6 : List (Nat × AFn) := [(124, ir124), (127, ir127), (128, ir128), (137, ir137), (138, ir138), (146, ir146), (147, ir147), (155, ir155), (156, ir156), (157, ir157), (158, ir158), (159, ir159)]
theorem irs6_ok : ∀ p ∈ irs6, fnsOf Tryz.prog p.1 = some p.2 :=
  List.forall_mem_cons.2 ⟨ir124_eq, List.forall_mem_cons.2 ⟨ir127_eq, List.forall_mem_cons.2 ⟨ir128_eq, List.forall_mem_cons.2 ⟨ir137_eq, List.forall_mem_cons.2 ⟨ir138_eq, List.forall_mem_cons.2 ⟨ir146_eq, List.forall_mem_cons.2 ⟨ir147_eq, List.forall_mem_cons.2 ⟨ir155_eq, List.forall_mem_cons.2 ⟨ir156_eq, List.forall_mem_cons.2 ⟨ir157_eq, List.forall_mem_cons.2 ⟨ir158_eq, List.forall_mem_cons.2 ⟨ir159_eq, fun _ h => nomatch h⟩⟩⟩⟩⟩⟩⟩⟩⟩⟩⟩⟩
def irs7 : List (Nat × AFn) := [(175, ir175), (181, ir181), (38, ir38), (40, ir40)]
theorem irs7_ok : ∀ p ∈ irs7, fnsOf Tryz.prog p.1 = some p.2 :=
  List.forall_mem_cons.2 ⟨ir175_eq, List.forall_mem_cons.2 ⟨ir181_eq, List.forall_mem_cons.2 ⟨ir38_eq, List.forall_mem_cons.2 ⟨ir40_eq, fun _ h => nomatch h⟩⟩⟩⟩
def irs : List (Nat × AFn) := irs0 ++ (irs1 ++ (irs2 ++ (irs3 ++ (irs4 ++ (irs5 ++ (irs6 ++ (irs7)))))))
theorem irs_ok : ∀ p ∈ irs, fnsOf Tryz.prog p.1 = some p.2 := by
  intro p hp
  simp only [irs, List.mem_append] at hp
  rcases hp with h | h | h | h | h | h | h | h
  · exact irs0_ok p h
  · exact irs1_ok p h
  · exact irs2_ok p h
  · exact irs3_ok p h
  · exact irs4_ok p h
  · exact irs5_ok p h
  · exact irs6_ok p h
  · exact irs7_ok p h

/-- A function's text. -/
noncomputable def findF (l : List (Nat × AFn)) (f : FuncId) : Option AFn :=
  List.rec (motive := fun _ => Option AFn) none (fun p _ ih => Bool.rec (motive := fun _ => Option AFn) ih (some p.2) (Nat.beq p.1 f)) l
theorem findF_mem {l : List (Nat × AFn)} {f : FuncId} {a : AFn} (h : findF l f = some a) : (f, a) ∈ l := by
  induction l with
  | nil => cases h
  | cons p l ih =>
    have h' : (Bool.rec (motive := fun _ => Option AFn) (findF l f) (some p.2) (Nat.beq p.1 f) : Option AFn) = some a := h
    cases hb : Nat.beq p.1 f with
    | false => rw [hb] at h'; exact List.mem_cons_of_mem _ (ih h')
    | true =>
      rw [hb] at h'
      obtain rfl : p.2 = a := by injection h'
      obtain rfl : p.1 = f := Nat.eq_of_beq_eq_true hb
      exact List.mem_cons_self ..
noncomputable def fnsL (f : FuncId) : Option AFn := Option.rec (motive := fun _ => Option AFn) (fnsOf Tryz.prog f) (fun a => some a) (findF irs f)
theorem fnsL_eq {f : FuncId} {a : AFn} (h : fnsL f = some a) : fnsOf Tryz.prog f = some a := by
  have h' : (Option.rec (motive := fun _ => Option AFn) (fnsOf Tryz.prog f) (fun a => some a) (findF irs f) : Option AFn) = some a := h
  cases hf : findF irs f with
  | none => rw [hf] at h'; exact h'
  | some b =>
    rw [hf] at h'
    obtain rfl : b = a := by injection h'
    exact irs_ok (f, b) (findF_mem (l := irs) hf)
theorem fnsL_ok : FnsOk Tryz.prog fnsL := fun f a h => fnsOf_ok _ f a (fnsL_eq h)

end Go.Proofs.YtcocakiincejaaaGreat
