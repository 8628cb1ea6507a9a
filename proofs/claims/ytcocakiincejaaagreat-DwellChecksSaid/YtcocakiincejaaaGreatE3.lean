/- The codes: what their makers come to for each number, told by the kernel: so many samples and no error. -/
import Derived.Test.YtcocakiincejaaaGreatE2
namespace Go.Proofs.YtcocakiincejaaaGreat
open Go Go.Vam

def chkR (L : Nat) : Option (Value × KS) → Bool
  | some (.tuple ⟨[.slice (some ⟨_, _, none⟩) n _, .int .i64 (.ofNat 0)]⟩, _) => Nat.beq n L
  | _ => false

theorem chkR_iff {L : Nat} {r : Option (Value × KS)} (h : chkR L r = true) : ∃ B o cap s, r = some (.tuple #[.slice (some ⟨B, o, none⟩) L cap, .int .i64 0], s) := by
  unfold chkR at h
  split at h
  · obtain rfl := Nat.eq_of_beq_eq_true h
    exact ⟨_, _, _, _, rfl⟩
  · cases h

theorem code8_0 : chkR 1 (cfD 8 [.int .i64 0] none2) = true := by kernel_rfl
theorem code8_1 : chkR 2 (cfD 8 [.int .i64 1] none2) = true := by kernel_rfl
theorem code8_2 : chkR 3 (cfD 8 [.int .i64 2] none2) = true := by kernel_rfl
theorem code8_3 : chkR 4 (cfD 8 [.int .i64 3] none2) = true := by kernel_rfl
theorem code8_4 : chkR 5 (cfD 8 [.int .i64 4] none2) = true := by kernel_rfl
theorem code8_5 : chkR 7 (cfD 8 [.int .i64 5] none2) = true := by kernel_rfl
theorem code8_6 : chkR 11 (cfD 8 [.int .i64 6] none2) = true := by kernel_rfl
theorem code8_7 : chkR 13 (cfD 8 [.int .i64 7] none2) = true := by kernel_rfl
theorem code8_8 : chkR 16 (cfD 8 [.int .i64 8] none2) = true := by kernel_rfl
theorem code8_9 : chkR 64 (cfD 8 [.int .i64 9] none2) = true := by kernel_rfl
theorem code8_10 : chkR 32 (cfD 8 [.int .i64 10] none2) = true := by kernel_rfl
theorem code8_11 : chkR 64 (cfD 8 [.int .i64 11] none2) = true := by kernel_rfl
theorem code8_12 : chkR 160 (cfD 8 [.int .i64 12] none2) = true := by kernel_rfl
theorem code12_0 : chkR 1 (cfD 12 [.int .i64 0] none2) = true := by kernel_rfl
theorem code12_1 : chkR 2 (cfD 12 [.int .i64 1] none2) = true := by kernel_rfl
theorem code12_2 : chkR 3 (cfD 12 [.int .i64 2] none2) = true := by kernel_rfl
theorem code12_3 : chkR 4 (cfD 12 [.int .i64 3] none2) = true := by kernel_rfl
theorem code12_4 : chkR 5 (cfD 12 [.int .i64 4] none2) = true := by kernel_rfl
theorem code12_5 : chkR 7 (cfD 12 [.int .i64 5] none2) = true := by kernel_rfl
theorem code12_6 : chkR 11 (cfD 12 [.int .i64 6] none2) = true := by kernel_rfl
theorem code12_7 : chkR 13 (cfD 12 [.int .i64 7] none2) = true := by kernel_rfl
theorem code12_8 : chkR 16 (cfD 12 [.int .i64 8] none2) = true := by kernel_rfl
theorem code12_9 : chkR 64 (cfD 12 [.int .i64 9] none2) = true := by kernel_rfl
theorem code12_10 : chkR 32 (cfD 12 [.int .i64 10] none2) = true := by kernel_rfl
theorem code12_11 : chkR 64 (cfD 12 [.int .i64 11] none2) = true := by kernel_rfl
theorem code12_12 : chkR 160 (cfD 12 [.int .i64 12] none2) = true := by kernel_rfl

/-- How many samples a code has. -/
def codeLen (m : Int) : Nat := [1, 2, 3, 4, 5, 7, 11, 13, 16, 64, 32, 64, 160].getD m.toNat 0

theorem codes (f : FuncId) (m : Int) (hf : f = 8 ∨ f = 12) (h0 : 0 ≤ m) (h1 : m ≤ 12) :
    ∃ B o cap s, cfD f [.int .i64 m] none2 = some (.tuple #[.slice (some ⟨B, o, none⟩) (codeLen m) cap, .int .i64 0], s) := by
  have hm : m = 0 ∨ m = 1 ∨ m = 2 ∨ m = 3 ∨ m = 4 ∨ m = 5 ∨ m = 6 ∨ m = 7 ∨ m = 8 ∨ m = 9 ∨ m = 10 ∨ m = 11 ∨ m = 12 := by omega
  rcases hf with rfl | rfl
  · rcases hm with rfl | rfl | rfl | rfl | rfl | rfl | rfl | rfl | rfl | rfl | rfl | rfl | rfl
    · exact chkR_iff code8_0
    · exact chkR_iff code8_1
    · exact chkR_iff code8_2
    · exact chkR_iff code8_3
    · exact chkR_iff code8_4
    · exact chkR_iff code8_5
    · exact chkR_iff code8_6
    · exact chkR_iff code8_7
    · exact chkR_iff code8_8
    · exact chkR_iff code8_9
    · exact chkR_iff code8_10
    · exact chkR_iff code8_11
    · exact chkR_iff code8_12
  · rcases hm with rfl | rfl | rfl | rfl | rfl | rfl | rfl | rfl | rfl | rfl | rfl | rfl | rfl
    · exact chkR_iff code12_0
    · exact chkR_iff code12_1
    · exact chkR_iff code12_2
    · exact chkR_iff code12_3
    · exact chkR_iff code12_4
    · exact chkR_iff code12_5
    · exact chkR_iff code12_6
    · exact chkR_iff code12_7
    · exact chkR_iff code12_8
    · exact chkR_iff code12_9
    · exact chkR_iff code12_10
    · exact chkR_iff code12_11
    · exact chkR_iff code12_12

end Go.Proofs.YtcocakiincejaaaGreat
