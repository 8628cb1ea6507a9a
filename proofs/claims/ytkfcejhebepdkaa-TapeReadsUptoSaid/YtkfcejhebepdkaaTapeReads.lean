/- TapeReads: of pieces of no great bulk: the law answers true. -/
import Derived.Test.YtkfcejhebepdkaaTH
import Derived.Test.YtkfcejhebepdkaaBase
import Derived.JoinedCond
namespace Go.Proofs.Ytkfcejhebepdkaa.lawTapeReads
open Go Go.Vam Go.ChangeShapes Go.WideShapes Go.ChangeAt Go.RowKit

theorem wakes : endsTrue (evCall (Trie Value) (fnsOf Try.prog) 100000 9 [] none0) = true := by kernel_rfl

theorem one_le {H : Type} (d : DataW H) : 1 ≤ Rows.uptoBulk d := by
  cases d with
  | lit l => cases l <;> simp [Rows.uptoBulk]
  | nil => simp [Rows.uptoBulk]
  | ptr d => simp [Rows.uptoBulk]
  | slice elems spare => simp [Rows.uptoBulk]
  | agg parts => simp [Rows.uptoBulk]
  | iface t d => simp [Rows.uptoBulk]
  | map entries => simp [Rows.uptoBulk]
  | held h => simp [Rows.uptoBulk]

theorem length_le {H : Type} (l : List (DataW H)) : l.length ≤ Rows.uptoBulkAll l := by
  induction l with
  | nil => simp [Rows.uptoBulkAll]
  | cons x r ih => have := one_le x; simp only [Rows.uptoBulkAll, List.length_cons]; omega

theorem cnt_le {H : Type} (d : DataW H) : cnt d ≤ Rows.uptoBulk d := by
  cases d with
  | slice ds rest => have := length_le ds; simp only [cnt, Rows.uptoBulk]; omega
  | _ => exact Nat.zero_le _

theorem cntAll_le {H : Type} (l : List (DataW H)) : cntAll l ≤ Rows.uptoBulkAll l := by
  induction l with
  | nil => simp [cntAll, Rows.uptoBulkAll]
  | cons x r ih => have := cnt_le x; simp only [cntAll, Rows.uptoBulkAll]; omega

set_option maxRecDepth 100000 in
theorem run {T : Type} {s : Mm} {avs : List Value} {ds : List (DataW T)} (hs : Lt s) (h : AbsL Try.prog s [22, 23] avs ds) (hk : Rows.uptoBulkAll ds ≤ 1048576) : CallP ⟨orcW 9, fnsOf Try.prog⟩ 3 avs s (fun v _ => v = .bool true) := by
  obtain ⟨v0, vs, d0, ds, rfl, rfl, h0, h⟩ := AbsL.cons h
  obtain ⟨v1, vs, d1, ds, rfl, rfl, h1, h⟩ := AbsL.cons h
  obtain ⟨rfl, rfl⟩ := AbsL.nil h
  unfold AbsV at h0 h1
  rw [Try.underlying22] at h0
  rw [Try.underlying23] at h1
  have c1 : Try.prog.cellsOf 32 = 1 := by decide +kernel
  have c2 : Try.prog.cellsOf 4 = 1 := by decide +kernel
  have c3 : Try.prog.cellsOf 5 = 1 := by decide +kernel
  obtain ⟨w1, ws, g1, g2, g3⟩ := Abs.bools hs Try.underlying23 Try.underlying4 c2 h1
  cases g1
  obtain ⟨w0, ls, ds0, g4, g5, g6, g7, g8⟩ := Abs.slB hs Try.underlying22 c1 h0
  cases g4
  obtain ⟨bs, i1, i2, i3, i4⟩ := pieces_abs hs Try.underlying32 Try.underlying5 c3 ls ds0 g6 (fun i l d hl hd => (g8 i l d hl hd).2)
  have hle : ds0.length + cntAll ds0 ≤ 2097152 := by
    rcases g7 with g7 | ⟨rest, g7⟩
    · subst g7; simp [cntAll]
    · subst g7
      have := cntAll_le ds0
      have := length_le ds0
      simp only [Rows.uptoBulkAll, Rows.uptoBulk] at hk
      omega
  rw [← i1] at g5
  exact run3 (X := ⟨orcW 9, fnsOf Try.prog⟩) rfl (fun f args hf => orcW_other hf args) (orcW_self 9) ⟨_, g5, g5.foot, fun i b hb => let ⟨c, a, b⟩ := i4 i b hb; ⟨c, a, b, SlC.foot b⟩⟩ g2 (by omega)

set_option maxRecDepth 100000 in
theorem lifted (os : Os) (started : os.Started) (H : Type) (enc : TypeId × Value → H) (F : Stop.Interp) :
    ReturnsInHanded {} Try.checked os 3 .any ((Rows.OpenSpec.upto Rows.tapeReadsSpec).pre6 enc Try.prog Try.f3 Rows.tapeReadsUptoRow.domain false) (((Rows.OpenSpec.upto Rows.tapeReadsSpec).at F).post enc Try.prog Try.f3 false true false false) := by
  refine returnsInHanded_of_cond (C := Try.checked) (s := Rows.OpenSpec.upto Rows.tapeReadsSpec) (k := Rows.uptoSmall) rfl own started (by kernel_rfl) Try.func3
    (OpenSpec.witness (enc := enc) (C := Try.checked) (s := Rows.OpenSpec.upto Rows.tapeReadsSpec) (k := Rows.uptoSmall) rfl false ⟨#[], #[.slice none 0 0, .slice none 0 0], []⟩ 8 (by kernel_rfl) (by kernel_rfl) (by kernel_rfl)
      (x := ([.nil, .nil], [], [])) (by kernel_rfl) rfl (by kernel_rfl)) ?_
  intro W base args ds gs before hval0 hW _ hk _
  have hval : ∀ (j : Nat) t v, Try.f3.params[j]? = some t → args[j]? = some v → Value.okWide Try.prog W .any base t v := hval0
  have hW' := hW
  obtain ⟨p, q, hA0, hV, rfl, hfz, hnd⟩ := hW
  have hA : DataW.TrodAll enc Try.prog W 0 (fun _ => true) true Try.f3.params.toList args.toList ds p := hA0
  have hA1 := hA
  rw [Try.params3] at hA hval
  obtain ⟨v0, v1, d0, d1, p0, p1, rfl, rfl, rfl, h0, h1⟩ := trodAll_two hA
  obtain ⟨rfl, rfl⟩ := trodVars_none hV
  clear hval0
  simp only [List.append_nil] at hW' hk
  have hk' : Rows.uptoBulkAll [d0, d1] ≤ 1048576 := of_decide_eq_true hk
  have hlt : ∀ x ∈ p0 ++ p1, x.block < W.heap.size := fun x hx => hW'.lt x hx
  refine (law_calls ext mixed (orcW_ok ext mixed 100000 9 wakes) (ts := [22, 23]) (vs := [v0, v1]) (k := 3) hA (by decide +kernel) (fun j t v ht hv => hval j t v (by simpa using ht) (by simpa using hv)) (fun s avs _ hs h => run hs h hk')).mono fun e W' ⟨he, hw⟩ => ?_
  subst he
  exact ⟨_, rfl, post_of_below (pa := p0 ++ p1) (pv := []) hW' hw (fun _ _ _ => trodAll_mk1 (shut_bool Try.underlying4 _)) (fun sp hsp => trodAll_stays (by kernel_rfl) hw _ _ _ _ hA1 (by rw [Try.params3]; decide +kernel) hlt hsp) (fun _ _ => rfl) (List.append_nil _).symm
    (ok_one (by kernel_rfl) rfl (okWide_bool_mk Try.underlying4 _))⟩

theorem holds : Rows.TapeReadsUptoSaid :=
  OpenClaim.holds_of_cond 3 Try.f3 rfl rfl rfl rfl rfl rfl rfl ⟨rfl, rfl, rfl, rfl, rfl⟩ rfl rfl rfl rfl rfl (by kernel_rfl) Try.func3 (by kernel_rfl)
    (of_decide_eq_true (by kernel_rfl)) (by unfold Func.isWrapper; first | (rw [if_pos (by decide +kernel)]; kernel_rfl) | (rw [if_neg (by decide +kernel)]; exact ⟨rfl, rfl⟩))
    (fun os started H enc _ F => lifted os started H enc F)

end Go.Proofs.Ytkfcejhebepdkaa.lawTapeReads
