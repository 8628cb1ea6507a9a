/- The table of these texts. -/
import Derived.Test.YtmfaodenkghmkaaGreatIRA
import Derived.Test.YtmfaodenkghmkaaGreatScIr
import Derived.Test.YtmfaodenkghmkaaGreatSdIr
import Derived.Test.YtmfaodenkghmkaaGreatSeIr
import Derived.Test.YtmfaodenkghmkaaGreatSgIr
import Derived.Test.YtmfaodenkghmkaaGreatKA
namespace Go.Proofs.YtmfaodenkghmkaaGreat
open Go Go.Vam

def irs0 : List (Nat × AFn) := [(7, ir7), (4, ir4), (6, ir6), (8, ir8), (9, ir9), (10, ir10), (13, ir13), (14, ir14), (15, ir15), (16, ir16), (17, ir17), (21, ir21)]
theorem irs0_ok : ∀ p ∈ irs0, fnsOf Tryz.prog p.1 = some p.2 :=
  List.forall_mem_cons.2 ⟨ir7_eq, List.forall_mem_cons.2 ⟨ir4_eq, List.forall_mem_cons.2 ⟨ir6_eq, List.forall_mem_cons.2 ⟨ir8_eq, List.forall_mem_cons.2 ⟨ir9_eq, List.forall_mem_cons.2 ⟨ir10_eq, List.forall_mem_cons.2 ⟨ir13_eq, List.forall_mem_cons.2 ⟨ir14_eq, List.forall_mem_cons.2 ⟨ir15_eq, List.forall_mem_cons.2 ⟨ir16_eq, List.forall_mem_cons.2 ⟨ir17_eq, List.forall_mem_cons.2 ⟨ir21_eq, fun _ h => nomatch h⟩⟩⟩⟩⟩⟩⟩⟩⟩⟩⟩⟩
def irs1 : List (Nat × AFn) := [(22, ir22), (23, ir23), (27, ir27), (28, ir28), (29, ir29), (30, ir30), (31, ir31), (32, ir32), (33, ir33), (34, ir34), (35, ir35), (39, ir39)]
theorem irs1_ok : ∀ p ∈ irs1, fnsOf Tryz.prog p.1 = some p.2 :=
  List.forall_mem_cons.2 ⟨ir22_eq, List.forall_mem_cons.2 ⟨ir23_eq, List.forall_mem_cons.2 ⟨ir27_eq, List.forall_mem_cons.2 ⟨ir28_eq, List.forall_mem_cons.2 ⟨ir29_eq, List.forall_mem_cons.2 ⟨ir30_eq, List.forall_mem_cons.2 ⟨ir31_eq, List.forall_mem_cons.2 ⟨ir32_eq, List.forall_mem_cons.2 ⟨ir33_eq, List.forall_mem_cons.2 ⟨ir34_eq, List.forall_mem_cons.2 ⟨ir35_eq, List.forall_mem_cons.2 ⟨ir39_eq, fun _ h => nomatch h⟩⟩⟩⟩⟩⟩⟩⟩⟩⟩⟩⟩
def irs2 : List (Nat × AFn) := [(40, ir40), (41, ir41), (42, ir42), (45, ir45), (46, ir46), (47, ir47), (48, ir48), (49, ir49), (50, ir50), (51, ir51), (52, ir52), (53, ir53)]
theorem irs2_ok : ∀ p ∈ irs2, fnsOf Tryz.prog p.1 = some p.2 :=
  List.forall_mem_cons.2 ⟨ir40_eq, List.forall_mem_cons.2 ⟨ir41_eq, List.forall_mem_cons.2 ⟨ir42_eq, List.forall_mem_cons.2 ⟨ir45_eq, List.forall_mem_cons.2 ⟨ir46_eq, List.forall_mem_cons.2 ⟨ir47_eq, List.forall_mem_cons.2 ⟨ir48_eq, List.forall_mem_cons.2 ⟨ir49_eq, List.forall_mem_cons.2 ⟨ir50_eq, List.forall_mem_cons.2 ⟨ir51_eq, List.forall_mem_cons.2 ⟨ir52_eq, List.forall_mem_cons.2 ⟨ir53_eq, fun _ h => nomatch h⟩⟩⟩⟩⟩⟩⟩⟩⟩⟩⟩⟩
def irs3 : List (Nat × AFn) := [(54, ir54), (55, ir55), (56, ir56), (58, ir58), (60, ir60), (61, ir61), (62, ir62), (63, ir63), (67, ir67), (68, ir68), (69, ir69), (70, ir70)]
theorem irs3_ok : ∀ p ∈ irs3, fnsOf Tryz.prog p.1 = some p.2 :=
  List.forall_mem_cons.2 ⟨ir54_eq, List.forall_mem_cons.2 ⟨ir55_eq, List.forall_mem_cons.2 ⟨ir56_eq, List.forall_mem_cons.2 ⟨ir58_eq, List.forall_mem_cons.2 ⟨ir60_eq, List.forall_mem_cons.2 ⟨ir61_eq, List.forall_mem_cons.2 ⟨ir62_eq, List.forall_mem_cons.2 ⟨ir63_eq, List.forall_mem_cons.2 ⟨ir67_eq, List.forall_mem_cons.2 ⟨ir68_eq, List.forall_mem_cons.2 ⟨ir69_eq, List.forall_mem_cons.2 ⟨ir70_eq, fun _ h => nomatch h⟩⟩⟩⟩⟩⟩⟩⟩⟩⟩⟩⟩
def irs4 : List (Nat × AFn) := [(71, ir71), (73, ir73), (74, ir74), (75, ir75), (76, ir76), (77, ir77), (78, ir78), (79, ir79), (80, ir80), (81, ir81), (82, ir82), (83, ir83)]
theorem irs4_ok : ∀ p ∈ irs4, fnsOf Tryz.prog p.1 = some p.2 :=
  List.forall_mem_cons.2 ⟨ir71_eq, List.forall_mem_cons.2 ⟨ir73_eq, List.forall_mem_cons.2 ⟨ir74_eq, List.forall_mem_cons.2 ⟨ir75_eq, List.forall_mem_cons.2 ⟨ir76_eq, List.forall_mem_cons.2 ⟨ir77_eq, List.forall_mem_cons.2 ⟨ir78_eq, List.forall_mem_cons.2 ⟨ir79_eq, List.forall_mem_cons.2 ⟨ir80_eq, List.forall_mem_cons.2 ⟨ir81_eq, List.forall_mem_cons.2 ⟨ir82_eq, List.forall_mem_cons.2 ⟨ir83_eq, fun _ h => nomatch h⟩⟩⟩⟩⟩⟩⟩⟩⟩⟩⟩⟩
def irs5 : List (Nat × AFn) := [(84, ir84), (85, ir85), (86, ir86), (87, ir87), (88, ir88), (89, ir89), (90, ir90), (102, ir102), (103, ir103), (104, ir104), (105, ir105), (106, ir106)]
theorem irs5_ok : ∀ p ∈ irs5, fnsOf Tryz.prog p.1 = some p.2 :=
  List.forall_mem_cons.2 ⟨ir84_eq, List.forall_mem_cons.2 ⟨ir85_eq, List.forall_mem_cons.2 ⟨ir86_eq, List.forall_mem_cons.2 ⟨ir87_eq, List.forall_mem_cons.2 ⟨ir88_eq, List.forall_mem_cons.2 ⟨ir89_eq, List.forall_mem_cons.2 ⟨ir90_eq, List.forall_mem_cons.2 ⟨ir102_eq, List.forall_mem_cons.2 ⟨ir103_eq, List.forall_mem_cons.2 ⟨ir104_eq, List.forall_mem_cons.2 ⟨ir105_eq, List.forall_mem_cons.2 ⟨ir106_eq, fun _ h => nomatch h⟩⟩⟩⟩⟩⟩⟩⟩⟩⟩⟩⟩
def irs6 : List (Nat × AFn) := [(108, ir108), (111, ir111), (112, ir112), (121, ir121), (122, ir122), (130, ir130), (131, ir131), (138, ir138), (139, ir139), (140, ir140), (141, ir141), (142, ir142)]
theorem irs6_ok : ∀ p ∈ irs6, fnsOf Tryz.prog p.1 = some p.2 :=
  List.forall_mem_cons.2 ⟨ir108_eq, List.forall_mem_cons.2 ⟨ir111_eq, List.forall_mem_cons.2 ⟨ir112_eq, List.forall_mem_cons.2 ⟨ir121_eq, List.forall_mem_cons.2 ⟨ir122_eq, List.forall_mem_cons.2 ⟨ir130_eq, List.forall_mem_cons.2 ⟨ir131_eq, List.forall_mem_cons.2 ⟨ir138_eq, List.forall_mem_cons.2 ⟨ir139_eq, List.forall_mem_cons.2 ⟨ir140_eq, List.forall_mem_cons.2 ⟨ir141_eq, List.forall_mem_cons.2 ⟨ir142_eq, fun _ h => nomatch h⟩⟩⟩⟩⟩⟩⟩⟩⟩⟩⟩⟩
def irs7 : List (Nat × AFn) := [(158, ir158), (164, ir164)]
theorem irs7_ok : ∀ p ∈ irs7, fnsOf Tryz.prog p.1 = some p.2 :=
  List.forall_mem_cons.2 ⟨ir158_eq, List.forall_mem_cons.2 ⟨ir164_eq, fun _ h => nomatch h⟩⟩
def irs : List (Nat × AFn) := irs0 ++ (irs1 ++ (irs2 ++ (irs3 ++ (irs4 ++ (irs5 ++ (irs6 ++ (irs7)))))))
theorem irs_ok : ∀ p ∈ irs, fnsOf Tryz.prog p.1 = some p.2 := by
  intro p hp
  simp only [irs, List.mem_append] at hp
  rcases hp with h | h | h | h | h | h | h | h
  · exact irs0_ok p h
  · exact irs1_ok p h
  · exact irs2_ok p h
  · exact irs3_ok p h
  · exact irs4_ok p h
  · exact irs5_ok p h
  · exact irs6_ok p h
  · exact irs7_ok p h

/-- A function's text. -/
noncomputable def findF (l : List (Nat × AFn)) (f : FuncId) : Option AFn :=
  List.rec (motive := fun _ => Option AFn) none (fun p _ ih => Bool.rec (motive := fun _ => Option AFn) ih (some p.2) (Nat.beq p.1 f)) l
theorem findF_mem {l : List (Nat × AFn)} {f : FuncId} {a : AFn} (h : findF l f = some a) : (f, a) ∈ l := by
  induction l with
  | nil => cases h
  | cons p l ih =>
    have h' : (Bool.rec (motive := fun _ => Option AFn) (findF l f) (some p.2) (Nat.beq p.1 f) : Option AFn) = some a := h
    cases hb : Nat.beq p.1 f with
    | false => rw [hb] at h'; exact List.mem_cons_of_mem _ (ih h')
    | true =>
      rw [hb] at h'
      obtain rfl : p.2 = a := by injection h'
      obtain rfl : p.1 = f := Nat.eq_of_beq_eq_true hb
      exact List.mem_cons_self ..
noncomputable def fnsL (f : FuncId) : Option AFn := Option.rec (motive := fun _ => Option AFn) (fnsOf Tryz.prog f) (fun a => some a) (findF irs f)
theorem fnsL_eq {f : FuncId} {a : AFn} (h : fnsL f = some a) : fnsOf Tryz.prog f = some a := by
  have h' : (Option.rec (motive := fun _ => Option AFn) (fnsOf Tryz.prog f) (fun a => some a) (findF irs f) : Option AFn) = some a := h
  cases hf : findF irs f with
  | none => rw [hf] at h'; exact h'
  | some b =>
    rw [hf] at h'
    obtain rfl : b = a := by injection h'
    exact irs_ok (f, b) (findF_mem (l := irs) hf)
theorem fnsL_ok : FnsOk Tryz.prog fnsL := fun f a h => fnsOf_ok _ f a (fnsL_eq h)

end Go.Proofs.YtmfaodenkghmkaaGreat
