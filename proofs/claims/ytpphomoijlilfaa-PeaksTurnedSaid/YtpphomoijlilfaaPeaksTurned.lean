/- PeaksTurned: of any three heights, turned about: the law answers true. No condition. -/
import Derived.Test.YtpphomoijlilfaaBase
import Derived.Test.YtpphomoijlilfaaFl2
import Derived.Test.YtpphomoijlilfaaSym1
namespace Go.Proofs.Ytpphomoijlilfaa.lawPeaksTurned
open Go.Vam Go.ChangeShapes Go.WideShapes Go.ChangeAt Go.RowKit

def ir9 : Option AFn := some
  { ntmps := 41, results := [ARes.tmp 6],
    body :=
      (ACode.ops [{ op := AOp.move (Operand.const (Value.bool false)), dst := some 6, guard := none }]).seq
        ((ACode.ops
              [{ op := AOp.move (Operand.tmp 0), dst := some 9, guard := none }, { op := AOp.move (Operand.tmp 1), dst := some 10, guard := none }, { op := AOp.move (Operand.tmp 2), dst := some 11, guard := none }, { op := AOp.call (Operand.func 23) [Operand.tmp 9, Operand.tmp 10, Operand.tmp 11], dst := some 12, guard := none },
                { op := AOp.move (Operand.tmp 12), dst := some 7, guard := none }]).seq
          ((ACode.ops
                [{ op := AOp.move (Operand.tmp 2), dst := some 13, guard := none }, { op := AOp.move (Operand.tmp 1), dst := some 14, guard := none }, { op := AOp.move (Operand.tmp 0), dst := some 15, guard := none }, { op := AOp.call (Operand.func 23) [Operand.tmp 13, Operand.tmp 14, Operand.tmp 15], dst := some 16, guard := none },
                  { op := AOp.move (Operand.tmp 16), dst := some 8, guard := none }]).seq
            ((ACode.ops
                  [{ op := AOp.move (Operand.tmp 7), dst := some 17, guard := none }, { op := AOp.move (Operand.tmp 8), dst := some 18, guard := none }, { op := AOp.un UnOp.neg (Operand.tmp 18), dst := some 19, guard := none }, { op := AOp.bin BinOp.eql (Operand.tmp 17) (Operand.tmp 19), dst := some 20, guard := none }, { op := AOp.move (Operand.tmp 20), dst := some 21, guard := none },
                    { op := AOp.move (Operand.tmp 7), dst := some 22, guard := some (21, true) }, { op := AOp.bin BinOp.geq (Operand.tmp 22) (Operand.const (Value.float FloatKind.f64 13826050856027422720)), dst := some 23, guard := some (21, true) }, { op := AOp.pick (Operand.tmp 21) (Operand.tmp 23) (Operand.const (Value.bool false)), dst := some 24, guard := none },
                    { op := AOp.move (Operand.tmp 24), dst := some 25, guard := none }, { op := AOp.move (Operand.tmp 7), dst := some 26, guard := some (25, true) }, { op := AOp.bin BinOp.leq (Operand.tmp 26) (Operand.const (Value.float FloatKind.f64 4602678819172646912)), dst := some 27, guard := some (25, true) },
                    { op := AOp.pick (Operand.tmp 25) (Operand.tmp 27) (Operand.const (Value.bool false)), dst := some 28, guard := none }, { op := AOp.move (Operand.tmp 28), dst := some 29, guard := none }, { op := AOp.move (Operand.tmp 0), dst := some 30, guard := some (29, true) }, { op := AOp.move (Operand.tmp 2), dst := some 31, guard := some (29, true) },
                    { op := AOp.bin BinOp.neq (Operand.tmp 30) (Operand.tmp 31), dst := some 32, guard := some (29, true) }, { op := AOp.move (Operand.tmp 32), dst := some 33, guard := some (29, true) }, { op := AOp.move (Operand.tmp 7), dst := some 34, guard := some (33, false) },
                    { op := AOp.bin BinOp.eql (Operand.tmp 34) (Operand.const (Value.float FloatKind.f64 0)), dst := some 35, guard := some (33, false) }, { op := AOp.pick (Operand.tmp 33) (Operand.const (Value.bool true)) (Operand.tmp 35), dst := some 36, guard := some (29, true) },
                    { op := AOp.pick (Operand.tmp 29) (Operand.tmp 36) (Operand.const (Value.bool false)), dst := some 37, guard := none }, { op := AOp.move (Operand.tmp 37), dst := some 38, guard := none }, { op := AOp.call (Operand.func 15) [], dst := some 39, guard := some (38, true) },
                    { op := AOp.pick (Operand.tmp 38) (Operand.tmp 39) (Operand.const (Value.bool false)), dst := some 40, guard := none }, { op := AOp.move (Operand.tmp 40), dst := some 6, guard := none }]).seq
              ACode.ret))) }
def ir23 : Option AFn := some
  { ntmps := 23, results := [ARes.tmp 6],
    body :=
      (ACode.ops [{ op := AOp.move (Operand.const (Value.float FloatKind.f64 0)), dst := some 6, guard := none }]).seq
        ((ACode.ops
              [{ op := AOp.move (Operand.tmp 0), dst := some 8, guard := none }, { op := AOp.move (Operand.tmp 2), dst := some 9, guard := none }, { op := AOp.bin BinOp.sub (Operand.tmp 8) (Operand.tmp 9), dst := some 10, guard := none }, { op := AOp.move (Operand.tmp 0), dst := some 11, guard := none }, { op := AOp.move (Operand.tmp 2), dst := some 12, guard := none },
                { op := AOp.bin BinOp.add (Operand.tmp 11) (Operand.tmp 12), dst := some 13, guard := none }, { op := AOp.move (Operand.tmp 1), dst := some 14, guard := none }, { op := AOp.bin BinOp.mul (Operand.const (Value.float FloatKind.f64 4611686018427387904)) (Operand.tmp 14), dst := some 15, guard := none },
                { op := AOp.bin BinOp.sub (Operand.tmp 13) (Operand.tmp 15), dst := some 16, guard := none }, { op := AOp.bin BinOp.mul (Operand.const (Value.float FloatKind.f64 4611686018427387904)) (Operand.tmp 16), dst := some 17, guard := none }, { op := AOp.bin BinOp.quo (Operand.tmp 10) (Operand.tmp 17), dst := some 18, guard := none },
                { op := AOp.move (Operand.tmp 18), dst := some 7, guard := none }]).seq
          (((ACode.ops [{ op := AOp.move (Operand.tmp 7), dst := some 19, guard := none }, { op := AOp.ext 5 51 [Operand.tmp 19], dst := some 20, guard := none }, { op := AOp.bin BinOp.leq (Operand.tmp 20) (Operand.const (Value.float FloatKind.f64 4602678819172646912)), dst := some 21, guard := none }]).seq
                (ACode.cond (Operand.tmp 21) ((ACode.ops [{ op := AOp.move (Operand.tmp 7), dst := some 22, guard := none }, { op := AOp.move (Operand.tmp 22), dst := some 6, guard := none }]).seq ACode.ret) ACode.skip)).seq
            ((ACode.ops [{ op := AOp.move (Operand.const (Value.float FloatKind.f64 0)), dst := some 6, guard := none }]).seq ACode.ret))) }

theorem ir9_eq : fnsOf Try.prog 9 = ir9 := by kernel_rfl
theorem ir23_eq : fnsOf Try.prog 23 = ir23 := by kernel_rfl


theorem run23 (a b c n : Nat) (s : AS (Trie ABlk)) : evCall (Trie Value) (fnsOf Try.prog) (n + 1) 23 [.float .f64 a, .float .f64 b, .float .f64 c] s = some (.float .f64 (btw a b c), s) := by
  unfold btw
  cases h : le05 (btwX a b c) with
  | true =>
    have hl : some (Value.bool (le05 (btwX a b c)), s) = some (Value.bool true, s) := by rw [h]
    exact call_of (vs := [.float .f64 (btwX a b c)]) ir23_eq (Nat.le_of_ble_eq_true rfl)
      (by
        refine seq_of (ops_of rfl) ?_
        refine seq_of (ops_of rfl) ?_
        exact seq_ret (seq_of (ops_of (ops_cons rfl rfl (ops_cons rfl rfl (ops_cons (v := .bool true) (s1 := s) rfl hl ops_nil)))) (cond_true rfl (seq_of (ops_of rfl) rfl)))) rfl
  | false =>
    have hl : some (Value.bool (le05 (btwX a b c)), s) = some (Value.bool false, s) := by rw [h]
    exact call_of (vs := [.float .f64 0]) ir23_eq (Nat.le_of_ble_eq_true rfl)
      (by
        refine seq_of (ops_of rfl) ?_
        refine seq_of (ops_of rfl) ?_
        refine seq_of (seq_of (ops_of (ops_cons rfl rfl (ops_cons rfl rfl (ops_cons (v := .bool false) (s1 := s) rfl hl ops_nil)))) (cond_false rfl rfl)) ?_
        exact seq_of (ops_of rfl) rfl) rfl

theorem run9 (a b c n : Nat) (s s' : AS (Trie ABlk)) (hw : evCall (Trie Value) (fnsOf Try.prog) (n + 1) 15 [] s = some (.bool true, s')) :
    evCall (Trie Value) (fnsOf Try.prog) (n + 2) 9 [.float .f64 a, .float .f64 b, .float .f64 c] s = some (.bool true, s') := by
  obtain ⟨e1, e2, e3⟩ := btw_law a b c
  have h1 := run23 a b c n s
  have h2 := run23 c b a n s
  have q1 : some (Value.bool (ford .f64 (btw a b c) (fneg .f64 (btw c b a)) == some .eq), s) = some (Value.bool true, s) := by rw [e1]
  have q2 : some (Value.bool (ford .f64 (btw a b c) N5 == some .gt || ford .f64 (btw a b c) N5 == some .eq), s) = some (Value.bool true, s) := by rw [e2]
  have q3 : some (Value.bool (ford .f64 (btw a b c) H5 == some .lt || ford .f64 (btw a b c) H5 == some .eq), s) = some (Value.bool true, s) := by rw [e3]
  have key : ∀ x y : Nat, (some (Value.bool (ford .f64 x (fneg .f64 y) == some .eq), s) = some (Value.bool true, s)) →
      (some (Value.bool (ford .f64 x N5 == some .gt || ford .f64 x N5 == some .eq), s) = some (Value.bool true, s)) →
      (some (Value.bool (ford .f64 x H5 == some .lt || ford .f64 x H5 == some .eq), s) = some (Value.bool true, s)) →
      ((ford .f64 a c == some .eq) = true → (ford .f64 x 0 == some .eq) = true) →
      evCall (Trie Value) (fnsOf Try.prog) (n + 1) 23 [.float .f64 a, .float .f64 b, .float .f64 c] s = some (.float .f64 x, s) →
      evCall (Trie Value) (fnsOf Try.prog) (n + 1) 23 [.float .f64 c, .float .f64 b, .float .f64 a] s = some (.float .f64 y, s) →
      evCall (Trie Value) (fnsOf Try.prog) (n + 2) 9 [.float .f64 a, .float .f64 b, .float .f64 c] s = some (.bool true, s') := by
    intro x y q1 q2 q3 q4 h1 h2
    cases e : (ford .f64 a c == some .eq) with
    | true =>
      have q5 : some (Value.bool (ford .f64 a c != some .eq), s) = some (Value.bool false, s) := by simp only [bne, e, Bool.not_true]
      have q6 : some (Value.bool (ford .f64 x 0 == some .eq), s) = some (Value.bool true, s) := by rw [q4 e]
      exact call_of (vs := [.bool true]) ir9_eq (Nat.le_of_ble_eq_true rfl)
        (by
          refine seq_of (ops_of rfl) ?_
          refine seq_of (ops_of (ops_cons rfl rfl (ops_cons rfl rfl (ops_cons rfl rfl (ops_cons rfl h1 (ops_cons rfl rfl ops_nil)))))) ?_
          refine seq_of (ops_of (ops_cons rfl rfl (ops_cons rfl rfl (ops_cons rfl rfl (ops_cons rfl h2 (ops_cons rfl rfl ops_nil)))))) ?_
          exact seq_of (ops_of (ops_cons rfl rfl <| ops_cons rfl rfl <| ops_cons rfl rfl <| ops_cons (v := .bool true) (s1 := s) rfl q1 <| ops_cons rfl rfl <|
            ops_cons rfl rfl <| ops_cons (v := .bool true) (s1 := s) rfl q2 <| ops_cons rfl rfl <| ops_cons rfl rfl <| ops_cons rfl rfl <| ops_cons (v := .bool true) (s1 := s) rfl q3 <|
            ops_cons rfl rfl <| ops_cons rfl rfl <| ops_cons rfl rfl <| ops_cons rfl rfl <| ops_cons (v := .bool false) (s1 := s) rfl q5 <| ops_cons rfl rfl <|
            ops_cons rfl rfl <| ops_cons (v := .bool true) (s1 := s) rfl q6 <| ops_cons rfl rfl <| ops_cons rfl rfl <| ops_cons rfl rfl <| ops_cons rfl hw <| ops_cons rfl rfl <| ops_cons rfl rfl ops_nil)) rfl) rfl
    | false =>
      have q5 : some (Value.bool (ford .f64 a c != some .eq), s) = some (Value.bool true, s) := by simp only [bne, e, Bool.not_false]
      exact call_of (vs := [.bool true]) ir9_eq (Nat.le_of_ble_eq_true rfl)
        (by
          refine seq_of (ops_of rfl) ?_
          refine seq_of (ops_of (ops_cons rfl rfl (ops_cons rfl rfl (ops_cons rfl rfl (ops_cons rfl h1 (ops_cons rfl rfl ops_nil)))))) ?_
          refine seq_of (ops_of (ops_cons rfl rfl (ops_cons rfl rfl (ops_cons rfl rfl (ops_cons rfl h2 (ops_cons rfl rfl ops_nil)))))) ?_
          exact seq_of (ops_of (ops_cons rfl rfl <| ops_cons rfl rfl <| ops_cons rfl rfl <| ops_cons (v := .bool true) (s1 := s) rfl q1 <| ops_cons rfl rfl <|
            ops_cons rfl rfl <| ops_cons (v := .bool true) (s1 := s) rfl q2 <| ops_cons rfl rfl <| ops_cons rfl rfl <| ops_cons rfl rfl <| ops_cons (v := .bool true) (s1 := s) rfl q3 <|
            ops_cons rfl rfl <| ops_cons rfl rfl <| ops_cons rfl rfl <| ops_cons rfl rfl <| ops_cons (v := .bool true) (s1 := s) rfl q5 <| ops_cons rfl rfl <|
            ops_skip rfl <| ops_skip rfl <| ops_cons rfl rfl <| ops_cons rfl rfl <| ops_cons rfl rfl <| ops_cons rfl hw <| ops_cons rfl rfl <| ops_cons rfl rfl ops_nil)) rfl) rfl
  exact key _ _ q1 q2 q3 (btw_same a b c) h1 h2

theorem wakes : endsTrue (evCall (Trie Value) (fnsOf Try.prog) 10000 15 [] none0) = true := by kernel_rfl

theorem walk (a b c : Nat) (w : World) : Calls Try.prog 9 #[.float .f64 a, .float .f64 b, .float .f64 c] w fun e w' => e = .returned (.bool true) ∧ Below w.heap.size w w' := by
  obtain ⟨s', hs⟩ := endsTrue_iff wakes
  exact plain_call ext mixed (args' := [.float .f64 a, .float .f64 b, .float .f64 c]) (.cons (.float (.inl rfl)) (.cons (.float (.inl rfl)) (.cons (.float (.inl rfl)) (.nil _)))) (run9 a b c 9999 none0 s' hs) w

set_option maxRecDepth 100000 in
theorem lifted (os : Os) (started : os.Started) (H : Type) (enc : TypeId × Value → H) :
    ReturnsInHanded {} Try.checked os 9 .any (Rows.peaksTurnedSpec.pre6 enc Try.prog Try.f9 Rows.peaksTurnedRow.domain false) (Rows.peaksTurnedSpec.post enc Try.prog Try.f9 false true false false) := by
  refine returnsInHanded_of_change (C := Try.checked) own started (by kernel_rfl) Try.func9
    (ChangeSpec.witness6 (enc := enc) (C := Try.checked) false ⟨#[], #[.float .f64 0, .float .f64 0, .float .f64 0], []⟩ 8 (by kernel_rfl) (by kernel_rfl) (by kernel_rfl) (by kernel_rfl)) ?_
  intro W base args ds gs before hval0 hW hcnd _
  have hval : ∀ (j : Nat) t v, Try.f9.params[j]? = some t → args[j]? = some v → Value.okWide Try.prog W .any base t v := hval0
  have hW' := hW
  obtain ⟨p, q, hA0, hV, rfl, hfz, hnd⟩ := hW
  have hA : DataW.TrodAll enc Try.prog W 0 (fun _ => true) true Try.f9.params.toList args.toList ds p := hA0
  rw [Try.params9] at hA hval
  obtain ⟨v0, v1, v2, d0, d1, d2, p0, p1, p2, rfl, rfl, rfl, h0, h1, h2⟩ := trodAll_three hA
  obtain ⟨rfl, rfl⟩ := trodVars_none hV
  obtain ⟨a, rfl, rfl, rfl, wa⟩ := open_float Try.underlying24 (hval 0 24 v0 rfl rfl) h0
  obtain ⟨b, rfl, rfl, rfl, wb⟩ := open_float Try.underlying24 (hval 1 24 v1 rfl rfl) h1
  obtain ⟨c, rfl, rfl, rfl, wc⟩ := open_float Try.underlying24 (hval 2 24 v2 rfl rfl) h2
  clear hA0 hval0
  simp only [List.append_nil] at hW'
  refine (walk a b c W).mono fun e W' ⟨he, hw⟩ => ?_
  subst he
  exact ⟨_, rfl, post_of_below (pa := []) (pv := []) hW' hw (fun _ _ _ => trodAll_mk1 (shut_bool Try.underlying4 _)) (fun sp _ => trodAll_mk3 (shut_float Try.underlying24 wa) (shut_float Try.underlying24 wb) (shut_float Try.underlying24 wc)) (fun _ _ => rfl) rfl
    (ok_one (by kernel_rfl) rfl (okWide_bool_mk Try.underlying4 _))⟩

theorem holds : Rows.PeaksTurnedSaid :=
  OpenClaim.holds_of_wide 9 Try.f9 rfl rfl rfl rfl rfl rfl rfl ⟨rfl, rfl, rfl, rfl, rfl⟩ rfl rfl rfl rfl rfl (by kernel_rfl) Try.func9 (by kernel_rfl)
    (of_decide_eq_true (by kernel_rfl)) (by unfold Func.isWrapper; first | (rw [if_pos (by decide +kernel)]; kernel_rfl) | (rw [if_neg (by decide +kernel)]; exact ⟨rfl, rfl⟩))
    (fun os started H enc _ => lifted os started H enc)

end Go.Proofs.Ytpphomoijlilfaa.lawPeaksTurned
