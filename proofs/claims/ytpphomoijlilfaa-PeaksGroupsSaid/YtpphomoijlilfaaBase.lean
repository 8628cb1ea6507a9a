/- What the functions of the library are that the program of this seat calls. -/
import Derived.Test.YtpphomoijlilfaaRows
import Derived.Test.YtpphomoijlilfaaVam25
import Derived.WalkKit
import Derived.ProofKit
namespace Go.Proofs.Ytpphomoijlilfaa
open Go.Vam Go.ChangeShapes Go.WideShapes Go.ChangeAt Go.RowKit
theorem ids : extIds Try.prog.funcs.toList 0 = [(50, 0), (51, 5), (59, 1)] := by kernel_rfl
theorem row0 : ExtRow Try.prog 50 Extern.MathFloatBits.float64bits := ⟨_, Try.func50, by kernel_rfl, by kernel_rfl, by kernel_rfl, by kernel_rfl⟩
theorem row1 : ExtRow Try.prog 59 Extern.MathFloatBits.float64frombits := ⟨_, Try.func59, by kernel_rfl, by kernel_rfl, by kernel_rfl, by kernel_rfl⟩
theorem abs (b : Nat) (w : World) : Calls Try.prog 51 #[.float .f64 b] w fun e w' => e = .returned (.float .f64 (b % 9223372036854775808)) ∧ Quiet w w' := by
  have h0 : ∀ (b : Nat) (w : World), (callFunc 50 #[.float .f64 b]).run Try.prog w = .ok (.value (.int .u64 b)) w := fun b w => by rw [row0.run]; rfl
  have h1 : ∀ (n : Int) (w : World), (callFunc 59 #[.int .u64 n]).run Try.prog w = .ok (.value (.float .f64 n.toNat)) w := fun n w => by rw [row1.run]; rfl
  go_enter Try.func51, Try.ntmps51
  go_wp2
  go_ret
  refine ⟨?_, .refl _⟩
  rw [andNot_top]
  rfl
theorem ext : ExtOk Try.prog := extOk_of ids fun p hp => by
  simp only [List.mem_cons, List.not_mem_nil, or_false] at hp
  rcases hp with rfl | rfl | rfl
  · exact ext_bits row0
  · exact ext_abs ⟨_, Try.func51, rfl, by decide⟩ abs
  · exact ext_frombits row1
theorem mixed : Try.prog.follows .mixedOrders = true := by kernel_rfl
theorem own : ownKnob Try.prog.godebug = none := by kernel_rfl
end Go.Proofs.Ytpphomoijlilfaa
