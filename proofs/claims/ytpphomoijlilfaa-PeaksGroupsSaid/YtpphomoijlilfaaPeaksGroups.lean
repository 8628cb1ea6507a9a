/- PeaksGroups: of any arguments within the reach: the law answers true. -/
import Derived.Test.YtpphomoijlilfaaGD
import Derived.Test.YtpphomoijlilfaaBase
import Derived.JoinedCond
import Derived.HandedShaped
namespace Go.Proofs.Ytpphomoijlilfaa.lawPeaksGroups
open Go Go.Vam Go.ChangeShapes Go.WideShapes Go.ChangeAt Go.RowKit
theorem wakes : endsTrue (evCall (Trie Value) (fnsOf Try.prog) 100000 15 [] none0) = true := by kernel_rfl
set_option maxRecDepth 100000 in
theorem lifted (os : Os) (started : os.Started) (H : Type) (enc : TypeId × Value → H) :
    ReturnsInHanded {} Try.checked os 4 .any (Rows.peaksGroupsSpec.pre6 enc Try.prog Try.f4 Rows.peaksGroupsRow.domain false) (Rows.peaksGroupsSpec.post enc Try.prog Try.f4 false true false false) := by
  refine returnsInHanded_of_change_shaped (C := Try.checked) own started (by kernel_rfl) Try.func4
    (ChangeSpec.witness6 (enc := enc) (C := Try.checked) false ⟨#[], #[.slice none 0 0, .int .i64 0], []⟩ 8 (by kernel_rfl) (by kernel_rfl) (by kernel_rfl) (by kernel_rfl)) ?_
  intro W base args ds gs before hval0 hW hcnd hk _ _
  have hval : ∀ (j : Nat) t v, Try.f4.params[j]? = some t → args[j]? = some v → Value.okWide Try.prog W .any base t v := hval0
  have hW' := hW
  obtain ⟨p, q, hA0, hV, rfl, hfz, hnd⟩ := hW
  have hA : DataW.TrodAll enc Try.prog W 0 (fun _ => true) true Try.f4.params.toList args.toList ds p := hA0
  have hA1 := hA
  rw [Try.params4] at hA hval
  obtain ⟨rfl, rfl⟩ := trodVars_none hV
  clear hval0
  simp only [List.append_nil] at hW' hk
  have hk' : (DataW.weightsEach Try.prog [25, 3] ds).all (· ≤ reachBytes) = true := by
    have ep : Try.f4.params.toList ++ Rows.peaksGroupsSpec.plain.varTypes Try.checked.prog = [25, 3] := by kernel_rfl
    rw [ep] at hk
    exact hk
  have hlt : ∀ x ∈ p, x.block < W.heap.size := fun x hx => hW'.lt x hx
  obtain ⟨l⟩ := args
  replace hA : DataW.TrodAll enc Try.prog W 0 (fun _ => true) true [25, 3] l ds p := hA
  have hC := hA
  obtain ⟨v0, l, d0, ds, p0, p, rfl, rfl, rfl, h0, hC⟩ := trodAll_cons hC
  obtain ⟨v1, l, d1, ds, p1, p, rfl, rfl, rfl, h1, hC⟩ := trodAll_cons hC
  obtain ⟨rfl, rfl, rfl⟩ := trodAll_nil hC
  refine (law_calls ext mixed (G.orcA_ok wakes) (ts := [25, 3]) (vs := [v0, v1]) (k := 3) hA (by decide +kernel) (fun j t v ht hv => hval j t v (by simpa using ht) (by simpa using hv)) (fun s avs _ hs h => G.runPeaksGroups hs h hk')).mono fun e W' ⟨he, hw⟩ => ?_
  subst he
  exact ⟨_, rfl, post_of_below (pa := p0 ++ (p1 ++ [])) (pv := []) hW' hw (fun _ _ _ => trodAll_mk1 (shut_bool Try.underlying4 _)) (fun sp hsp => trodAll_stays (by kernel_rfl) hw _ _ _ _ hA1 (by rw [Try.params4]; decide +kernel) hlt hsp) (fun _ _ => rfl) (List.append_nil _).symm
    (ok_one (by kernel_rfl) rfl (okWide_bool_mk Try.underlying4 _))⟩
theorem holds : Rows.PeaksGroupsSaid :=
  OpenClaim.holds_of_wide 4 Try.f4 rfl rfl rfl rfl rfl rfl rfl ⟨rfl, rfl, rfl, rfl, rfl⟩ rfl rfl rfl rfl rfl (by kernel_rfl) Try.func4 (by kernel_rfl)
    (of_decide_eq_true (by kernel_rfl)) (by unfold Func.isWrapper; first | (rw [if_pos (by decide +kernel)]; kernel_rfl) | (rw [if_neg (by decide +kernel)]; exact ⟨rfl, rfl⟩))
    (fun os started H enc _ => lifted os started H enc)

end Go.Proofs.Ytpphomoijlilfaa.lawPeaksGroups
