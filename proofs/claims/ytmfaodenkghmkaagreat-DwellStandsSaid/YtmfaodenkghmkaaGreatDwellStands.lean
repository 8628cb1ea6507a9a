/- DwellStands: of any arguments: the law answers true. No condition. -/
import Derived.Test.YtmfaodenkghmkaaGreatPM
import Derived.Test.YtmfaodenkghmkaaGreatBase
import Derived.JoinedCond
namespace Go.Proofs.YtmfaodenkghmkaaGreat.lawDwellStands
open Go Go.Vam Go.ChangeShapes Go.WideShapes Go.ChangeAt Go.RowKit

set_option maxRecDepth 100000 in
theorem lifted (os : Os) (started : os.Started) (H : Type) (enc : TypeId × Value → H) :
    ReturnsInHanded {} Tryz.checked os 3 .any (Rows.dwellStandsSpec.pre6 enc Tryz.prog Tryz.f3 Rows.dwellStandsRow.domain false) (Rows.dwellStandsSpec.post enc Tryz.prog Tryz.f3 false true false false) := by
  refine returnsInHanded_of_change (C := Tryz.checked) own started (by kernel_rfl) Tryz.func3
    (ChangeSpec.witness6 (enc := enc) (C := Tryz.checked) false ⟨#[], #[.agg #[.float .f64 0, .float .f64 0, .float .f64 0, .int .i64 0, .int .i64 0], .int .i64 0, .int .i64 0], []⟩ 8 (by kernel_rfl) (by kernel_rfl) (by kernel_rfl) (by kernel_rfl)) ?_
  intro W base args ds gs before hval0 hW hcnd _
  have hval : ∀ (j : Nat) t v, Tryz.f3.params[j]? = some t → args[j]? = some v → Value.okWide Tryz.prog W .any base t v := hval0
  have hW' := hW
  obtain ⟨p, q, hA0, hV, rfl, hfz, hnd⟩ := hW
  have hA : DataW.TrodAll enc Tryz.prog W 0 (fun _ => true) true Tryz.f3.params.toList args.toList ds p := hA0
  have hA1 := hA
  rw [Tryz.params3] at hA hval
  obtain ⟨rfl, rfl⟩ := trodVars_none hV
  clear hval0
  simp only [List.append_nil] at hW'
  have hlt : ∀ x ∈ p, x.block < W.heap.size := fun x hx => hW'.lt x hx
  obtain ⟨l⟩ := args
  replace hA : DataW.TrodAll enc Tryz.prog W 0 (fun _ => true) true [24, 3, 3] l ds p := hA
  have hC := hA
  obtain ⟨v0, l, d0, ds, p0, p, rfl, rfl, rfl, h0, hC⟩ := trodAll_cons hC
  obtain ⟨v1, l, d1, ds, p1, p, rfl, rfl, rfl, h1, hC⟩ := trodAll_cons hC
  obtain ⟨v2, l, d2, ds, p2, p, rfl, rfl, rfl, h2, hC⟩ := trodAll_cons hC
  obtain ⟨rfl, rfl, rfl⟩ := trodAll_nil hC
  refine (law_calls ext mixed orc_ok (ts := [24, 3, 3]) (vs := [v0, v1, v2]) (k := 3) hA (by decide +kernel) (fun j t v ht hv => hval j t v (by simpa using ht) (by simpa using hv)) (fun s avs _ _ h => runDwellStands h)).mono fun e W' ⟨he, hw⟩ => ?_
  subst he
  exact ⟨_, rfl, post_of_below (pa := p0 ++ (p1 ++ (p2 ++ []))) (pv := []) hW' hw (fun _ _ _ => trodAll_mk1 (shut_bool Tryz.underlying4 _)) (fun sp hsp => trodAll_stays (by kernel_rfl) hw _ _ _ _ hA1 (by rw [Tryz.params3]; decide +kernel) hlt hsp) (fun _ _ => rfl) (List.append_nil _).symm
    (ok_one (by kernel_rfl) rfl (okWide_bool_mk Tryz.underlying4 _))⟩

theorem holds : Rows.DwellStandsSaid :=
  OpenClaim.holds_of_wide 3 Tryz.f3 rfl rfl rfl rfl rfl rfl rfl ⟨rfl, rfl, rfl, rfl, rfl⟩ rfl rfl rfl rfl rfl (by kernel_rfl) Tryz.func3 (by kernel_rfl)
    (of_decide_eq_true (by kernel_rfl)) (by unfold Func.isWrapper; first | (rw [if_pos (by decide +kernel)]; kernel_rfl) | (rw [if_neg (by decide +kernel)]; exact ⟨rfl, rfl⟩))
    (fun os started H enc _ => lifted os started H enc)

end Go.Proofs.YtmfaodenkghmkaaGreat.lawDwellStands
