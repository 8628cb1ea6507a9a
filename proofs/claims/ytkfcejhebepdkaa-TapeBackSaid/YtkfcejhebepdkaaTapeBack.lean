/- TapeBack: of any frames and any cuts: the law answers true. No condition. -/
import Derived.Test.YtkfcejhebepdkaaTE
import Derived.Test.YtkfcejhebepdkaaBase
namespace Go.Proofs.Ytkfcejhebepdkaa.lawTapeBack
open Go Go.Vam Go.ChangeShapes Go.WideShapes Go.ChangeAt Go.RowKit

theorem wakes : endsTrue (evCall (Trie Value) (fnsOf Try.prog) 100000 9 [] none0) = true := by kernel_rfl

set_option maxRecDepth 100000 in
theorem run {T : Type} {s : Mm} {avs : List Value} {ds : List (DataW T)} (hs : Lt s) (h : AbsL Try.prog s [33, 45] avs ds) : CallP ⟨orcW 9, fnsOf Try.prog⟩ 4 avs s (fun v _ => v = .bool true) := by
  obtain ⟨v0, vs, d0, ds, rfl, rfl, h0, h⟩ := AbsL.cons h
  obtain ⟨v1, vs, d1, ds, rfl, rfl, h1, h⟩ := AbsL.cons h
  obtain ⟨rfl, rfl⟩ := AbsL.nil h
  obtain ⟨fs, cells, hv, hg, hok, hlen⟩ := frames_open hs h0
  unfold AbsV at h1
  rw [Try.underlying45] at h1
  have h46 : Try.prog.cellsOf 48 = 1 := by decide +kernel
  obtain ⟨c, xs, g1, g2, g3, g4⟩ := Abs.ints hs Try.underlying45 Try.underlying48 h46 h1
  cases g1
  have hxs : ∀ x ∈ xs, 0 ≤ x ∧ x ≤ 65535 := fun x hx => by
    have := g4 x hx
    simp only [Lit.wf, IntKind.min, IntKind.max, IntKind.bits, IntKind.signed] at this
    simpa using this
  exact run4 (X := ⟨orcW 9, fnsOf Try.prog⟩) rfl (fun f args hf => orcW_other hf args) (orcW_self 9) hv hg hok hlen g2 hxs g3

set_option maxRecDepth 100000 in
theorem lifted (os : Os) (started : os.Started) (H : Type) (enc : TypeId × Value → H) :
    ReturnsInHanded {} Try.checked os 4 .any (Rows.tapeBackSpec.pre6 enc Try.prog Try.f4 Rows.tapeBackRow.domain false) (Rows.tapeBackSpec.post enc Try.prog Try.f4 false true false false) := by
  refine returnsInHanded_of_change (C := Try.checked) own started (by kernel_rfl) Try.func4
    (ChangeSpec.witness6 (enc := enc) (C := Try.checked) false ⟨#[], #[.slice none 0 0, .slice none 0 0], []⟩ 8 (by kernel_rfl) (by kernel_rfl) (by kernel_rfl) (by kernel_rfl)) ?_
  intro W base args ds gs before hval0 hW hcnd _
  have hval : ∀ (j : Nat) t v, Try.f4.params[j]? = some t → args[j]? = some v → Value.okWide Try.prog W .any base t v := hval0
  have hW' := hW
  obtain ⟨p, q, hA0, hV, rfl, hfz, hnd⟩ := hW
  have hA : DataW.TrodAll enc Try.prog W 0 (fun _ => true) true Try.f4.params.toList args.toList ds p := hA0
  have hA1 := hA
  rw [Try.params4] at hA hval
  obtain ⟨v0, v1, d0, d1, p0, p1, rfl, rfl, rfl, h0, h1⟩ := trodAll_two hA
  obtain ⟨rfl, rfl⟩ := trodVars_none hV
  clear hval0
  simp only [List.append_nil] at hW'
  have hlt : ∀ x ∈ p0 ++ p1, x.block < W.heap.size := fun x hx => hW'.lt x hx
  refine (law_calls ext mixed (orcW_ok ext mixed 100000 9 wakes) (ts := [33, 45]) (vs := [v0, v1]) (k := 5) hA (by decide +kernel) (fun j t v ht hv => hval j t v (by simpa using ht) (by simpa using hv)) (fun s avs _ hs h => run hs h)).mono fun e W' ⟨he, hw⟩ => ?_
  subst he
  exact ⟨_, rfl, post_of_below (pa := p0 ++ p1) (pv := []) hW' hw (fun _ _ _ => trodAll_mk1 (shut_bool Try.underlying4 _)) (fun sp hsp => trodAll_stays (by kernel_rfl) hw _ _ _ _ hA1 (by rw [Try.params4]; decide +kernel) hlt hsp) (fun _ _ => rfl) (List.append_nil _).symm
    (ok_one (by kernel_rfl) rfl (okWide_bool_mk Try.underlying4 _))⟩

theorem holds : Rows.TapeBackSaid :=
  OpenClaim.holds_of_wide 4 Try.f4 rfl rfl rfl rfl rfl rfl rfl ⟨rfl, rfl, rfl, rfl, rfl⟩ rfl rfl rfl rfl rfl (by kernel_rfl) Try.func4 (by kernel_rfl)
    (of_decide_eq_true (by kernel_rfl)) (by unfold Func.isWrapper; first | (rw [if_pos (by decide +kernel)]; kernel_rfl) | (rw [if_neg (by decide +kernel)]; exact ⟨rfl, rfl⟩))
    (fun os started H enc _ => lifted os started H enc)

end Go.Proofs.Ytkfcejhebepdkaa.lawTapeBack
