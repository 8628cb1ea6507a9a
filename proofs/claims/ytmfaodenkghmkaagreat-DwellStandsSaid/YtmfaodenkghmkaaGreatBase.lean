/- What the functions of the library are that the program of this seat calls. -/
import Derived.Test.YtmfaodenkghmkaaGreatRows
import Derived.Test.YtmfaodenkghmkaaGreatVam25
import Derived.WalkKit
import Derived.ProofKit
namespace Go.Proofs.YtmfaodenkghmkaaGreat
open Go.Vam Go.ChangeShapes Go.WideShapes Go.ChangeAt Go.RowKit

theorem ids : extIds Tryz.prog.funcs.toList 0 = [(11, 5), (24, 1), (25, 0), (26, 4), (99, 2), (160, 3)] := by kernel_rfl
theorem row1 : ExtRow Tryz.prog 24 Extern.MathFloatBits.float64frombits := ⟨_, Tryz.func24, by kernel_rfl, by kernel_rfl, by kernel_rfl, by kernel_rfl⟩
theorem row0 : ExtRow Tryz.prog 25 Extern.MathFloatBits.float64bits := ⟨_, Tryz.func25, by kernel_rfl, by kernel_rfl, by kernel_rfl, by kernel_rfl⟩
theorem row4 : ExtRow Tryz.prog 26 Extern.MathSqrt.sqrt := ⟨_, Tryz.func26, by kernel_rfl, by kernel_rfl, by kernel_rfl, by kernel_rfl⟩
theorem row2 : ExtRow Tryz.prog 99 (Extern.MathFloor.toIntegral "math.archFloor" .down) := ⟨_, Tryz.func99, by kernel_rfl, by kernel_rfl, by kernel_rfl, by kernel_rfl⟩
theorem row3 : ExtRow Tryz.prog 160 (Extern.MathFloor.toIntegral "math.archTrunc" .zero) := ⟨_, Tryz.func160, by kernel_rfl, by kernel_rfl, by kernel_rfl, by kernel_rfl⟩

theorem abs (b : Nat) (w : World) : Calls Tryz.prog 11 #[.float .f64 b] w fun e w' => e = .returned (.float .f64 (b % 9223372036854775808)) ∧ Quiet w w' := by
  have h0 : ∀ (b : Nat) (w : World), (callFunc 25 #[.float .f64 b]).run Tryz.prog w = .ok (.value (.int .u64 b)) w := fun b w => by rw [row0.run]; rfl
  have h1 : ∀ (n : Int) (w : World), (callFunc 24 #[.int .u64 n]).run Tryz.prog w = .ok (.value (.float .f64 n.toNat)) w := fun n w => by rw [row1.run]; rfl
  go_enter Tryz.func11, Tryz.ntmps11
  go_wp2
  go_ret
  refine ⟨?_, .refl _⟩
  rw [andNot_top]
  rfl

theorem ext : ExtOk Tryz.prog := extOk_of ids fun p hp => by
  simp only [List.mem_cons, List.not_mem_nil, or_false] at hp
  rcases hp with rfl | rfl | rfl | rfl | rfl | rfl
  · exact ext_abs ⟨_, Tryz.func11, rfl, by decide⟩ abs
  · exact ext_frombits row1
  · exact ext_bits row0
  · exact ext_sqrt row4
  · exact ext_integ (.inl ⟨rfl, rfl⟩) row2
  · exact ext_integ (.inr ⟨rfl, rfl⟩) row3

theorem mixed : Tryz.prog.follows .mixedOrders = true := by kernel_rfl
theorem own : ownKnob Tryz.prog.godebug = none := by kernel_rfl

end Go.Proofs.YtmfaodenkghmkaaGreat
