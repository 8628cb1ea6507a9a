/- A new reader is fed once. -/
import Derived.Test.YtkfcejhebepdkaaT3
namespace Go.Proofs.Ytkfcejhebepdkaa
open Go Go.Vam


theorem run10 {X : Ctx} (hX : X.fns = fnsOf Try.prog) (ho : ∀ f args, f ≠ 9 → X.orc f args = none) {s : Mm} : CallP X 10 [] s (fun r s' => r = .pointer (some ⟨s.nxt, 0, none⟩) ∧ s' = newAt s (.cells [.slice none 0 0, .bool false] false)) := by
  refine CallP_of (hX ▸ ir10_eq) (ho _ _ (by decide)) (Nat.le_of_ble_eq_true rfl) ?_
  refine W_seq (W_ops [] ?_)
  simp only [o10_0, WO_move, WO_nil, frame_nil, evO_const, keep_nil, keepK_eq]
  intro fr
  refine SeqK_n ?_
  have hb : buildV [.slice none 0 0, .bool false] [] = some (.agg #[.slice none 0 0, .bool false]) := rfl
  refine W_seq (W_ops [0] ?_)
  simp only [o10_1, WO_box, WO_build, WO_move, WO_nil, PureK_some, geT_put, evO_tmp, keep_nil, keep_cons, keepK_eq, List.map_nil, Nat.reduceEqDiff, reduceIte, eq_self, hb]
  intro fr e0
  refine SeqK_n ?_
  exact W_ret (Ret1 e0 ⟨rfl, rfl⟩)

theorem run16 {X : Ctx} (hX : X.fns = fnsOf Try.prog) (ho : ∀ f args, f ≠ 9 → X.orc f args = none) {s : Mm} {R n : Nat} {v t : Value} {cs : List Value} {p : Bool} (hg : Store.get s.h R = some (.cells [v, t] p)) (hv : SlC s 1 v n cs) :
    CallP X 16 [.pointer (some ⟨R, 0, none⟩)] s (fun r s' => r = .int .i64 (n : Nat) ∧ s = s') := by
  refine CallP_of (hX ▸ ir16_eq) (ho _ _ (by decide)) (Nat.le_of_ble_eq_true rfl) ?_
  refine W_seq (W_ops [0] ?_)
  simp only [o16_0, WO_move, WO_nil, geT_put, frame_nil, frame_cons, evO_const, keep_nil, keep_cons, keepK_eq, Nat.reduceEqDiff, reduceIte, eq_self, Nat.zero_add]
  intro fr e0
  refine SeqK_n ?_
  refine W_assoc ?_
  refine W_seq (W_ops [0, 4] ?_)
  simp only [o16_1, WO_eq, ptr_some, WO_move, WO_nil, PureK_some, geT_put, evO_tmp, evO_const, keep_nil, keep_cons, keepK_eq, Nat.reduceEqDiff, reduceIte, eq_self, Bool.false_eq_true, e0]
  clear e0
  intro fr e0 e4
  refine SeqK_n ?_
  refine W_seq (W_cond e4 (fun h => by cases h) (fun _ => W_skip (SeqK_n ?_)))
  refine W_seq (W_ops [2] ?_)
  simp only [o16_3, WO_bu, WO_fieldAddr, fieldAddr_p, WO_load, WO_move, WO_nilCheck, nilCheck_p, WO_nil, PureK_some, geT_put, evO_tmp, keep_nil, keep_cons, keepK_eq, List.map_cons, List.map_nil, Nat.reduceEqDiff, reduceIte, eq_self, Nat.add_zero, List.getElem?_cons_zero, e0, load_g (o := 0) hg, hv.len]
  clear e0 e4
  intro fr e2
  refine SeqK_n ?_
  exact W_ret (Ret1 e2 ⟨rfl, rfl⟩)

/-- Told of bytes that hold no whole frame at their begin. -/
theorem run12_new {X : Ctx} (hX : X.fns = fnsOf Try.prog) (ho : ∀ f args, f ≠ 9 → X.orc f args = none) {s : Mm} {R : Nat} {v : Value} {b : List UInt8} (hg : Store.get s.h R = some (.cells [.slice none 0 0, .bool false] false)) (hR : R < s.nxt) (hb : Bs s v b) (hn : b.length ≤ 1048576)
    (hno : ∀ n, fstF b ≠ .got n) :
    CallP X 12 [.pointer (some ⟨R, 0, none⟩), v] s (fun r s' => (fstF b = .bad ∧ r = .tuple #[.slice none 0 0, .int .i64 270] ∧ Store.get s'.h R = some (.cells [.slice none 0 0, .bool true] false)) ∨
      (fstF b = .wait ∧ r = .tuple #[.slice none 0 0, .int .i64 0] ∧ ∃ v', Store.get s'.h R = some (.cells [v', .bool false] false) ∧ Bs s' v' b)) := by
  refine CallP_of (hX ▸ ir12_eq) (ho _ _ (by decide)) (Nat.le_of_ble_eq_true rfl) ?_
  refine W_seq (W_ops [0, 1] ?_)
  simp only [o12_0, WO_move, WO_nil, geT_put, frame_nil, frame_cons, evO_const, keep_nil, keep_cons, keepK_eq, Nat.reduceEqDiff, Nat.reduceAdd, reduceIte, eq_self, Nat.zero_add]
  intro fr e0 e1
  refine SeqK_n ?_
  refine W_seq (W_block ?_)
  refine W_seq (W_ops [0, 1, 10] ?_)
  simp only [o12_1, WO_eq, ptr_some, WO_move, WO_nil, PureK_some, geT_put, evO_tmp, evO_const, keep_nil, keep_cons, keepK_eq, Nat.reduceEqDiff, reduceIte, eq_self, Bool.false_eq_true, e0, e1]
  clear e0 e1
  intro fr e0 e1 e10
  refine SeqK_n ?_
  refine W_cond e10 (fun h => by cases h) (fun _ => ?_)
  refine W_seq (W_ops [0, 1, 13] ?_)
  simp only [o12_3, WO_bin, WO_bu, WO_move, bin_gtr, WO_nil, PureK_some, geT_put, evO_tmp, evO_const, keep_nil, keep_cons, keepK_eq, List.map_cons, List.map_nil, Nat.reduceEqDiff, reduceIte, eq_self, e0, e1, hb.len]
  clear e0 e1 e10
  intro fr e0 e1 e13
  refine SeqK_n ?_
  refine W_if e13 (fun h => by omega) (fun _ => ?_)
  refine W_seq (W_ops [0, 1, 17] ?_)
  simp only [o12_5, WO_fieldAddr, fieldAddr_p, WO_load, WO_move, WO_nilCheck, nilCheck_p, WO_nil, PureK_some, geT_put, evO_tmp, keep_nil, keep_cons, keepK_eq, Nat.reduceEqDiff, reduceIte, eq_self, Nat.zero_add, List.getElem?_cons_zero, List.getElem?_cons_succ, e0, e1, load_g (o := 1) hg]
  clear e0 e1 e13
  intro fr e0 e1 e17
  refine SeqK_n ?_
  refine W_cond e17 (fun h => by cases h) (fun _ => W_skip (BlkK_n (SeqK_n ?_)))
  obtain ⟨v2, s2, ha, ho2, hs2, hf2⟩ := (Own.nil : Own s 1 _ 0 []).append (bytes := 1) (SlC.src hb) (by rw [bsV_length]; omega) (bsV_one b) (by omega) (by omega) (by omega) (by omega)
  have hg2 : Store.get s2.h R = some (.cells [.slice none 0 0, .bool false] false) := by rw [hs2.get R hR (fun h => h)]; exact hg
  have hst : storeV s2 1 (.pointer (some ⟨R, 0, none⟩)) v2 = some (undefV, setBlk s2 R (.cells [v2, .bool false] false)) := store_g (o := 0) hg2 ho2.one (by simp)
  refine W_seq (W_ops [0] ?_)
  simp only [o12_7, WO_append, WO_fieldAddr, fieldAddr_p, WO_load, WO_move, WO_nilCheck, nilCheck_p, WO_store, WO_nil, PureK_some, MemK_some, geT_put, puT_none, evO_tmp, keep_nil, keep_cons, keepK_eq, Nat.reduceEqDiff, reduceIte, eq_self, Nat.add_zero, List.getElem?_cons_zero, e0, e1, load_g (o := 0) hg, ha, hst]
  clear e0 e1 e17
  intro fr e0
  refine SeqK_n ?_
  have hne : ∀ x, footV v2 x → x ≠ R := by
    intro x hx
    rcases hf2 x hx with h | h
    · exact h.elim
    · omega
  have ho3 : Own (setBlk s2 R (.cells [v2, .bool false] false)) 1 v2 (0 + b.length) ([] ++ bsV b) := ho2.same (F := fun x => x = R) (.set rfl) hne
  have hg3 : Store.get (setBlk s2 R (.cells [v2, .bool false] false)).h R = some (.cells [v2, .bool false] false) := by rw [get_set, if_pos rfl]
  have hR3 : R < (setBlk s2 R (.cells [v2, .bool false] false)).nxt := Nat.lt_of_lt_of_le hR hs2.nxt
  clear hst ha hg2 ho2 hs2
  generalize setBlk s2 R (.cells [v2, .bool false] false) = s3 at ho3 hg3 hR3 ⊢
  have hb3 : Bs s3 v2 b := Bs.of (by simpa using ho3.slc)
  refine W_seq (W_ops [0, 6] ?_)
  simp only [o12_8, WO_move, WO_nil, geT_put, evO_const, keep_nil, keep_cons, keepK_eq, Nat.reduceEqDiff, reduceIte, eq_self, e0]
  clear e0
  intro fr e0 e6
  refine SeqK_n ?_
  refine W_block (W_loop (fun m fr s => m = 0 ∧ s3 = s ∧ geT fr 0 = .pointer (some ⟨R, 0, none⟩) ∧ geT fr 6 = .slice none 0 0) 0 ⟨rfl, rfl, e0, e6⟩ ?_)
  clear e0 e6 fr
  rintro m fr _ ⟨rfl, rfl, e0, e6⟩
  refine W_block ?_
  refine W_seq (W_ops [0, 6, 7, 8, 9] ?_)
  simp only [o12_10, WO_call, WO_fieldAddr, fieldAddr_p, WO_load, WO_move, WO_nilCheck, nilCheck_p, PureK_some, geT_put, evO_tmp, List.map_cons, List.map_nil, Nat.reduceEqDiff, reduceIte, eq_self, Nat.add_zero, List.getElem?_cons_zero, e0, load_g (o := 0) hg3]
  refine CallK_of (run28 hX ho (P := fun r s' => ∃ cs : List Value, Same s3 s' (fun _ => False) ∧ cs.length = 4 ∧ cs.all oneCell = true ∧ ((fstF b = .bad ∧ r = .tuple #[.agg cs.toArray, .int .i64 0, .bool true]) ∨ (fstF b = .wait ∧ r = .tuple #[.agg cs.toArray, .int .i64 0, .bool false])))
    hb3 (by omega) (fun h s' cs a1 a2 a3 => ⟨cs, a1, a2, a3, .inl ⟨h, rfl⟩⟩) (fun h s' cs a1 a2 a3 => ⟨cs, a1, a2, a3, .inr ⟨h, rfl⟩⟩) (fun n fr s' g => absurd g.fst (hno n))) ?_
  rintro _ s4 ⟨cs, hs4, hcl, hc1, hres⟩
  have hg4 : Store.get s4.h R = some (.cells [v2, .bool false] false) := by rw [hs4.get R hR3 (fun h => h)]; exact hg3
  have hb4 : Bs s4 v2 b := SlC.same hb3 hs4 (fun _ _ h => h)
  have hga : Store.get (newAt s4 (.cells [.float .f64 0, .float .f64 0, .slice none 0 0, .slice none 0 0] false)).h s4.nxt = some (.cells [.float .f64 0, .float .f64 0, .slice none 0 0, .slice none 0 0] false) := by rw [get_new, if_pos rfl]
  have hsa := store_all hga hcl rfl hc1
  have hsame : Same s4 (setBlk (newAt s4 (.cells [.float .f64 0, .float .f64 0, .slice none 0 0, .slice none 0 0] false)) s4.nxt (.cells cs false)) (fun _ => False) :=
    (Same.new (F := fun _ => False)).trans (.set (F := fun b => b = s4.nxt) rfl) (fun _ _ h => h) (fun _ hB h => by omega)
  have hR4 : R < s4.nxt := Nat.lt_of_lt_of_le hR3 hs4.nxt
  have hg5 := hsame.get R hR4 (fun h => h)
  rw [hg4] at hg5
  have hb5 : Bs _ v2 b := SlC.same hb4 hsame (fun _ _ h => h)
  have hR5 := Nat.lt_of_lt_of_le hR4 hsame.nxt
  rcases hres with ⟨hf, rfl⟩ | ⟨hf, rfl⟩
  · simp only [WO_alloc, WO_extract, ext_30, ext_31, ext_32, WO_move, WO_store, WO_nil, PureK_some, MemK_some, geT_put, puT_none, evO_tmp, keep_nil, keep_cons, keepK_eq, Nat.reduceEqDiff, reduceIte, eq_self, e0, e6, hsa]
    clear e0 e6
    intro fr e0 e6 e7 e8 e9
    refine SeqK_n ?_
    refine W_assoc ?_
    refine W_seq (W_ops [0, 6, 7, 8, 40] ?_)
    simp only [o12_11, WO_move, WO_nil, geT_put, evO_tmp, keep_nil, keep_cons, keepK_eq, Nat.reduceEqDiff, reduceIte, eq_self, e0, e6, e7, e8, e9]
    clear e0 e6 e7 e8 e9
    intro fr e0 e6 e7 e8 e40
    refine SeqK_n ?_
    refine W_seq (W_cond e40 (fun _ => ?_) (fun h => by cases h))
    generalize setBlk (newAt s4 (.cells [.float .f64 0, .float .f64 0, .slice none 0 0, .slice none 0 0] false)) s4.nxt (.cells cs false) = s5 at hg5 hb5 hR5 ⊢
    have h1 : storeV s5 1 (.pointer (some ⟨R, 0, none⟩)) (.slice none 0 0) = some (undefV, setBlk s5 R (.cells [.slice none 0 0, .bool false] false)) := store_g (o := 0) hg5 rfl (by simp)
    have h2' : Store.get (setBlk s5 R (.cells [.slice none 0 0, .bool false] false)).h R = some (.cells [.slice none 0 0, .bool false] false) := by rw [get_set, if_pos rfl]
    have h2 : storeV (setBlk s5 R (.cells [.slice none 0 0, .bool false] false)) 1 (.pointer (some ⟨R, 1, none⟩)) (.bool true) = some (undefV, setBlk (setBlk s5 R (.cells [.slice none 0 0, .bool false] false)) R (.cells [.slice none 0 0, .bool true] false)) := store_g (o := 1) h2' rfl (by simp)
    refine W_seq (W_ops [6] ?_)
    simp only [o12_12, WO_fieldAddr, fieldAddr_p, WO_move, WO_nilCheck, nilCheck_p, WO_store, WO_nil, PureK_some, MemK_some, geT_put, puT_none, evO_tmp, evO_const, keep_nil, keep_cons, keepK_eq, Nat.reduceEqDiff, reduceIte, eq_self, Nat.zero_add, Nat.add_zero, e0, e6, h1, h2]
    clear e0 e6 e7 e8 e40
    intro fr e6
    refine SeqK_n ?_
    refine W_seq (W_ops [4, 5] ?_)
    simp only [o12_13, WO_move, WO_nil, geT_put, evO_tmp, evO_const, keep_nil, keep_cons, keepK_eq, Nat.reduceEqDiff, reduceIte, eq_self, e6]
    clear e6
    intro fr e4 e5
    refine SeqK_n ?_
    refine W_ret (SeqK_r (BlkK_r (LoopK_r (BlkK_r (Ret2 e4 e5 ?_)))))
    exact .inl ⟨hf, rfl, by rw [get_set, if_pos rfl]⟩
  · skip
    simp only [WO_alloc, WO_extract, ext_30, ext_31, ext_32, WO_move, WO_store, WO_nil, PureK_some, MemK_some, geT_put, puT_none, evO_tmp, keep_nil, keep_cons, keepK_eq, Nat.reduceEqDiff, reduceIte, eq_self, e0, e6, hsa]
    clear e0 e6
    intro fr e0 e6 e7 e8 e9
    refine SeqK_n ?_
    refine W_assoc ?_
    refine W_seq (W_ops [0, 6, 7, 8, 40] ?_)
    simp only [o12_11, WO_move, WO_nil, geT_put, evO_tmp, keep_nil, keep_cons, keepK_eq, Nat.reduceEqDiff, reduceIte, eq_self, e0, e6, e7, e8, e9]
    clear e0 e6 e7 e8 e9
    intro fr e0 e6 e7 e8 e40
    refine SeqK_n ?_
    refine W_seq (W_cond e40 (fun h => by cases h) (fun _ => W_skip (SeqK_n ?_)))
    refine W_assoc ?_
    refine W_seq (W_ops [0, 6, 7, 8, 49] ?_)
    simp only [o12_14, WO_bin, WO_move, bin_eql, WO_nil, PureK_some, geT_put, evO_tmp, evO_const, keep_nil, keep_cons, keepK_eq, Nat.reduceEqDiff, reduceIte, decide_true, eq_self, e0, e6, e7, e8]
    clear e0 e6 e7 e8 e40
    intro fr e0 e6 e7 e8 e49
    refine SeqK_n ?_
    refine W_seq (W_cond e49 (fun _ => ?_) (fun h => by simp at h))
    generalize setBlk (newAt s4 (.cells [.float .f64 0, .float .f64 0, .slice none 0 0, .slice none 0 0] false)) s4.nxt (.cells cs false) = s5 at hg5 hb5 hR5 ⊢
    obtain ⟨v6, s6, ha6, ho6, hs6, hf6⟩ := (Own.nil : Own s5 1 _ 0 []).append (bytes := 1) (SlC.src hb5) (by rw [bsV_length]; omega) (bsV_one b) (by omega) (by omega) (by omega) (by omega)
    have hg6 : Store.get s6.h R = some (.cells [v2, .bool false] false) := by rw [hs6.get R hR5 (fun h => h)]; exact hg5
    have h1 : storeV s6 1 (.pointer (some ⟨R, 0, none⟩)) v6 = some (undefV, setBlk s6 R (.cells [v6, .bool false] false)) := store_g (o := 0) hg6 ho6.one (by simp)
    refine W_seq (W_ops [6] ?_)
    simp only [o12_15, WO_append, WO_fieldAddr, fieldAddr_p, WO_load, WO_move, WO_nilCheck, nilCheck_p, WO_store, WO_nil, PureK_some, MemK_some, geT_put, puT_none, evO_tmp, evO_const, keep_nil, keep_cons, keepK_eq, Nat.reduceEqDiff, reduceIte, eq_self, Nat.add_zero, List.getElem?_cons_zero, e0, e6, load_g (o := 0) hg5, ha6, h1]
    clear e0 e6 e7 e8 e49
    intro fr e6
    refine SeqK_n ?_
    refine W_seq (W_ops [4, 5] ?_)
    simp only [o12_16, WO_move, WO_nil, geT_put, evO_tmp, evO_const, keep_nil, keep_cons, keepK_eq, Nat.reduceEqDiff, reduceIte, eq_self, e6]
    clear e6
    intro fr e4 e5
    refine SeqK_n ?_
    refine W_ret (SeqK_r (BlkK_r (LoopK_r (BlkK_r (Ret2 e4 e5 ?_)))))
    refine .inr ⟨hf, rfl, v6, by rw [get_set, if_pos rfl], Bs.of (n := 0 + b.length) ?_⟩
    have ho7 : Own (setBlk s6 R (.cells [v6, .bool false] false)) 1 v6 (0 + b.length) ([] ++ bsV b) := ho6.same (F := fun x => x = R) (.set rfl) (fun x hx e => by
      rcases hf6 x hx with h | h
      · exact h.elim
      · omega)
    simpa using ho7.slc

end Go.Proofs.Ytkfcejhebepdkaa
