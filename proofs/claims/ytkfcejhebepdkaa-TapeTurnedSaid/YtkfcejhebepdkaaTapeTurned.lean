/- TapeTurned: of any frame, place and byte: the law answers true. No condition. -/
import Derived.Test.YtkfcejhebepdkaaT8
import Derived.Test.YtkfcejhebepdkaaT9
import Derived.Test.YtkfcejhebepdkaaBase
namespace Go.Proofs.Ytkfcejhebepdkaa.lawTapeTurned
open Go Go.Vam Go.ChangeShapes Go.WideShapes Go.ChangeAt Go.RowKit

theorem wakes : endsTrue (evCall (Trie Value) (fnsOf Try.prog) 100000 9 [] none0) = true := by kernel_rfl

set_option maxRecDepth 100000 in
theorem run {T : Type} {s : Mm} {avs : List Value} {ds : List (DataW T)} (hs : Lt s) (h : AbsL Try.prog s [42, 3, 5] avs ds) : CallP ⟨orcW 9, fnsOf Try.prog⟩ 5 avs s (fun v _ => v = .bool true) := by
  obtain ⟨v0, vs, d0, ds, rfl, rfl, h0, h⟩ := AbsL.cons h
  obtain ⟨v1, vs, d1, ds, rfl, rfl, h1, h⟩ := AbsL.cons h
  obtain ⟨v2, vs, d2, ds, rfl, rfl, h2, h⟩ := AbsL.cons h
  obtain ⟨rfl, rfl⟩ := AbsL.nil h
  obtain ⟨T, U, rv, iv, re, im, rfl, hr, hi, hlr, _⟩ := frame_open hs h0
  unfold AbsV at h1 h2
  rw [Try.underlying3] at h1
  rw [Try.underlying5] at h2
  obtain ⟨a, g1, _, w1⟩ := Abs.i Try.underlying3 h1
  obtain ⟨b, g2, _, w2⟩ := Abs.i Try.underlying5 h2
  cases g1; cases g2
  have ha : -9223372036854775808 ≤ a ∧ a ≤ 9223372036854775807 := by
    simp only [Lit.wf, IntKind.min, IntKind.max, IntKind.bits, IntKind.signed] at w1
    simpa using w1
  have hb : 0 ≤ b ∧ b ≤ 255 := by
    simp only [Lit.wf, IntKind.min, IntKind.max, IntKind.bits, IntKind.signed] at w2
    simpa using w2
  have hy : b = ((UInt8.ofNat b.toNat).toNat : Nat) := by rw [UInt8.toNat_ofNat']; omega
  rw [hy]
  exact run5 (X := ⟨orcW 9, fnsOf Try.prog⟩) rfl (fun f args hf => orcW_other hf args) (orcW_self 9) hr hi hlr ha

set_option maxRecDepth 100000 in
theorem lifted (os : Os) (started : os.Started) (H : Type) (enc : TypeId × Value → H) :
    ReturnsInHanded {} Try.checked os 5 .any (Rows.tapeTurnedSpec.pre6 enc Try.prog Try.f5 Rows.tapeTurnedRow.domain false) (Rows.tapeTurnedSpec.post enc Try.prog Try.f5 false true false false) := by
  refine returnsInHanded_of_change (C := Try.checked) own started (by kernel_rfl) Try.func5
    (ChangeSpec.witness6 (enc := enc) (C := Try.checked) false ⟨#[], #[.agg #[.float .f64 0, .float .f64 0, .slice none 0 0, .slice none 0 0], .int .i64 0, .int .u8 0], []⟩ 8 (by kernel_rfl) (by kernel_rfl) (by kernel_rfl) (by kernel_rfl)) ?_
  intro W base args ds gs before hval0 hW hcnd _
  have hval : ∀ (j : Nat) t v, Try.f5.params[j]? = some t → args[j]? = some v → Value.okWide Try.prog W .any base t v := hval0
  have hW' := hW
  obtain ⟨p, q, hA0, hV, rfl, hfz, hnd⟩ := hW
  have hA : DataW.TrodAll enc Try.prog W 0 (fun _ => true) true Try.f5.params.toList args.toList ds p := hA0
  have hA1 := hA
  rw [Try.params5] at hA hval
  obtain ⟨v0, v1, v2, d0, d1, d2, p0, p1, p2, rfl, rfl, rfl, h0, h1, h2⟩ := trodAll_three hA
  obtain ⟨rfl, rfl⟩ := trodVars_none hV
  clear hval0
  simp only [List.append_nil] at hW'
  have hlt : ∀ x ∈ p0 ++ p1 ++ p2, x.block < W.heap.size := fun x hx => hW'.lt x hx
  refine (law_calls ext mixed (orcW_ok ext mixed 100000 9 wakes) (ts := [42, 3, 5]) (vs := [v0, v1, v2]) (k := 4) hA (by decide +kernel) (fun j t v ht hv => hval j t v (by simpa using ht) (by simpa using hv)) (fun s avs _ hs h => run hs h)).mono fun e W' ⟨he, hw⟩ => ?_
  subst he
  exact ⟨_, rfl, post_of_below (pa := p0 ++ p1 ++ p2) (pv := []) hW' hw (fun _ _ _ => trodAll_mk1 (shut_bool Try.underlying4 _)) (fun sp hsp => trodAll_stays (by kernel_rfl) hw _ _ _ _ hA1 (by rw [Try.params5]; decide +kernel) hlt hsp) (fun _ _ => rfl) (List.append_nil _).symm
    (ok_one (by kernel_rfl) rfl (okWide_bool_mk Try.underlying4 _))⟩

theorem holds : Rows.TapeTurnedSaid :=
  OpenClaim.holds_of_wide 5 Try.f5 rfl rfl rfl rfl rfl rfl rfl ⟨rfl, rfl, rfl, rfl, rfl⟩ rfl rfl rfl rfl rfl (by kernel_rfl) Try.func5 (by kernel_rfl)
    (of_decide_eq_true (by kernel_rfl)) (by unfold Func.isWrapper; first | (rw [if_pos (by decide +kernel)]; kernel_rfl) | (rw [if_neg (by decide +kernel)]; exact ⟨rfl, rfl⟩))
    (fun os started H enc _ => lifted os started H enc)

end Go.Proofs.Ytkfcejhebepdkaa.lawTapeTurned
