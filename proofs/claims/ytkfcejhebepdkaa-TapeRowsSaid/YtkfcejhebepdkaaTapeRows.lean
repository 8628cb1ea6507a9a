/- TapeRows: of any frame within the reach: the law answers true. -/
import Derived.Test.YtkfcejhebepdkaaUB
import Derived.Test.YtkfcejhebepdkaaBase
import Derived.JoinedCond
import Derived.HandedShaped
namespace Go.Proofs.Ytkfcejhebepdkaa.lawTapeRows
open Go Go.Vam Go.ChangeShapes Go.WideShapes Go.ChangeAt Go.RowKit

theorem wakes : endsTrue (evCall (Trie Value) (fnsOf Try.prog) 100000 9 [] none0) = true := by kernel_rfl

set_option maxRecDepth 100000 in
theorem lifted (os : Os) (started : os.Started) (H : Type) (enc : TypeId × Value → H) :
    ReturnsInHanded {} Try.checked os 6 .any (Rows.tapeRowsSpec.pre6 enc Try.prog Try.f6 Rows.tapeRowsRow.domain false) (Rows.tapeRowsSpec.post enc Try.prog Try.f6 false true false false) := by
  refine returnsInHanded_of_change_shaped (C := Try.checked) own started (by kernel_rfl) Try.func6
    (ChangeSpec.witness6 (enc := enc) (C := Try.checked) false ⟨#[], #[.agg #[.float .f64 0, .float .f64 0, .slice none 0 0, .slice none 0 0]], []⟩ 8 (by kernel_rfl) (by kernel_rfl) (by kernel_rfl) (by kernel_rfl)) ?_
  intro W base args ds gs before hval0 hW hcnd hk _ _
  have hval : ∀ (j : Nat) t v, Try.f6.params[j]? = some t → args[j]? = some v → Value.okWide Try.prog W .any base t v := hval0
  have hW' := hW
  obtain ⟨p, q, hA0, hV, rfl, hfz, hnd⟩ := hW
  have hA : DataW.TrodAll enc Try.prog W 0 (fun _ => true) true Try.f6.params.toList args.toList ds p := hA0
  have hA1 := hA
  rw [Try.params6] at hA hval
  obtain ⟨rfl, rfl⟩ := trodVars_none hV
  clear hval0
  simp only [List.append_nil] at hW' hk
  have hk' : (DataW.weightsEach Try.prog [42] ds).all (· ≤ reachBytes) = true := by
    have ep : Try.f6.params.toList ++ Rows.tapeRowsSpec.plain.varTypes Try.checked.prog = [42] := by kernel_rfl
    rw [ep] at hk
    exact hk
  have hlt : ∀ x ∈ p, x.block < W.heap.size := fun x hx => hW'.lt x hx
  obtain ⟨l⟩ := args
  replace hA : DataW.TrodAll enc Try.prog W 0 (fun _ => true) true [42] l ds p := hA
  have hC := hA
  obtain ⟨v0, l, d0, ds, p0, p, rfl, rfl, rfl, h0, hC⟩ := trodAll_cons hC
  obtain ⟨rfl, rfl, rfl⟩ := trodAll_nil hC
  refine (law_calls ext mixed (orcW_ok ext mixed 100000 9 wakes) (ts := [42]) (vs := [v0]) (k := 4) hA (by decide +kernel) (fun j t v ht hv => hval j t v (by simpa using ht) (by simpa using hv)) (fun s avs _ hs h => runTapeRows hs h hk')).mono fun e W' ⟨he, hw⟩ => ?_
  subst he
  exact ⟨_, rfl, post_of_below (pa := p0 ++ []) (pv := []) hW' hw (fun _ _ _ => trodAll_mk1 (shut_bool Try.underlying4 _)) (fun sp hsp => trodAll_stays (by kernel_rfl) hw _ _ _ _ hA1 (by rw [Try.params6]; decide +kernel) hlt hsp) (fun _ _ => rfl) (List.append_nil _).symm
    (ok_one (by kernel_rfl) rfl (okWide_bool_mk Try.underlying4 _))⟩

theorem holds : Rows.TapeRowsSaid :=
  OpenClaim.holds_of_wide 6 Try.f6 rfl rfl rfl rfl rfl rfl rfl ⟨rfl, rfl, rfl, rfl, rfl⟩ rfl rfl rfl rfl rfl (by kernel_rfl) Try.func6 (by kernel_rfl)
    (of_decide_eq_true (by kernel_rfl)) (by unfold Func.isWrapper; first | (rw [if_pos (by decide +kernel)]; kernel_rfl) | (rw [if_neg (by decide +kernel)]; exact ⟨rfl, rfl⟩))
    (fun os started H enc _ => lifted os started H enc)

end Go.Proofs.Ytkfcejhebepdkaa.lawTapeRows
