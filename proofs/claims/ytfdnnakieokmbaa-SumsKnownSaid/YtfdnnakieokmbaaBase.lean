/- What the functions of the library are that the program of this seat calls. -/
import Derived.Test.YtfdnnakieokmbaaRows
import Derived.Test.YtfdnnakieokmbaaVam25
import Derived.WalkKit
import Derived.ProofKit
namespace Go.Proofs.Ytfdnnakieokmbaa
open Go.Vam Go.ChangeShapes Go.WideShapes Go.ChangeAt Go.RowKit

theorem ids : extIds Try.prog.funcs.toList 0 = [(12, 0), (30, 1), (32, 5)] := by kernel_rfl
theorem row0 : ExtRow Try.prog 12 Extern.MathFloatBits.float64bits := ⟨_, Try.func12, by kernel_rfl, by kernel_rfl, by kernel_rfl, by kernel_rfl⟩
theorem row1 : ExtRow Try.prog 30 Extern.MathFloatBits.float64frombits := ⟨_, Try.func30, by kernel_rfl, by kernel_rfl, by kernel_rfl, by kernel_rfl⟩

theorem abs (b : Nat) (w : World) : Calls Try.prog 32 #[.float .f64 b] w fun e w' => e = .returned (.float .f64 (b % 9223372036854775808)) ∧ Quiet w w' := by
  have h0 : ∀ (b : Nat) (w : World), (callFunc 12 #[.float .f64 b]).run Try.prog w = .ok (.value (.int .u64 b)) w := fun b w => by rw [row0.run]; rfl
  have h1 : ∀ (n : Int) (w : World), (callFunc 30 #[.int .u64 n]).run Try.prog w = .ok (.value (.float .f64 n.toNat)) w := fun n w => by rw [row1.run]; rfl
  go_enter Try.func32, Try.ntmps32
  go_wp2
  go_ret
  refine ⟨?_, .refl _⟩
  rw [andNot_top]
  rfl

theorem ext : ExtOk Try.prog := extOk_of ids fun p hp => by
  simp only [List.mem_cons, List.not_mem_nil, or_false] at hp
  rcases hp with rfl | rfl | rfl
  · exact ext_bits row0
  · exact ext_frombits row1
  · exact ext_abs ⟨_, Try.func32, rfl, by decide⟩ abs

theorem mixed : Try.prog.follows .mixedOrders = true := by kernel_rfl
theorem own : ownKnob Try.prog.godebug = none := by kernel_rfl

end Go.Proofs.Ytfdnnakieokmbaa
