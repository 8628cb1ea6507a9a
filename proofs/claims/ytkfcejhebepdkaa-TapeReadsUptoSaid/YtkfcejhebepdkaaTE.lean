/- The law of what is written and read: its run. -/
import Derived.Test.YtkfcejhebepdkaaTD
namespace Go.Proofs.Ytkfcejhebepdkaa
open Go Go.Vam

theorem all4 {x y : Nat} {a b : Value} (ha : oneCell a = true) (hb : oneCell b = true) : [Value.float .f64 x, .float .f64 y, a, b].all oneCell = true := by
  simp only [List.all_cons, ha, hb, List.all_nil, Bool.and_true]; rfl

theorem FrsG.ones {s : Mm} {K : Nat → Prop} {c : List Value} {f : List FrS} (h : FrsG s K c f) : c.all oneCell = true := by
  induction h with
  | nil => rfl
  | cons t1 t2 h ih =>
    simp only [List.all_cons, t1.tab.one, t2.tab.one, ih, Bool.and_true]; rfl

theorem FOk.good {f : FrS} (h : FOk f) (hc : chkE f.T f.U f.re f.im = 0) : Good f := ⟨hc, h.T, h.U, h.re, h.im⟩

theorem buildSl_fr {s : Mm} {a b c d : Value} : buildSlV s 4 [.float .f64 0, .float .f64 0, .slice none 0 0, .slice none 0 0] 1 [(0, 4, .agg #[a, b, c, d])] = some (.slice (some ⟨s.nxt, 0, none⟩) 1 1, .cells [a, b, c, d] false) := rfl


/-- What stands behind the first loop. -/
structure Back1 (s s1 : Mm) (va vi : Value) (ins : List FrS) (ci : List Value) : Prop where
  a : ∃ na, Own s1 1 va na (bsV (encs ins))
  i : Own s1 4 vi ins.length ci
  g : FrsG s1 (fun b => b < s.nxt) ci ins
  good : ∀ f ∈ ins, Good f ∧ FOk f
  len : (encs ins).length < 262144
  same : Same s s1 (fun _ => False)
  fa : ∀ x, footV va x → s.nxt ≤ x
  fi : ∀ x, footV vi x → s.nxt ≤ x
  dis : ∀ x, footV va x → ¬ footV vi x
  num : ins.length ≤ 30

set_option maxHeartbeats 1000000 in
theorem back1 {X : Ctx} (hX : X.fns = fnsOf Try.prog) (ho : ∀ f args, f ≠ 9 → X.orc f args = none) (hw : X.orc 9 [] = some (.bool true)) {s : Mm} {v c : Value} {fs : List FrS} {cells : List Value} (hv : SlC s 4 v fs.length cells) (hg : FrsG s (fun b => b < s.nxt) cells fs) (hok : ∀ f ∈ fs, FOk f) (hlen : fs.length ≤ 9223372036854775807) {fr : Fr}
    (e0 : geT fr 0 = v) (e1 : geT fr 1 = c) (e5 : geT fr 5 = .slice none 0 0) (e6 : geT fr 6 = .slice none 0 0) (e7 : geT fr 7 = .int .i64 0) {Q : AExit → Fr → Mm → Prop}
    (hQ : ∀ fr s1 va vi ins ci, geT fr 1 = c → geT fr 5 = va → geT fr 6 = vi → Back1 s s1 va vi ins ci → Q .normal fr s1) :
    W X (.block 0 (.loop b4_4)) fr s Q := by
  refine W_block (W_loop (fun m fr s1 => ∃ k va vi ins ci, k + m = fs.length ∧ geT fr 0 = v ∧ geT fr 1 = c ∧ geT fr 5 = va ∧ geT fr 6 = vi ∧ geT fr 7 = .int .i64 (k : Nat) ∧ ins.length ≤ k ∧ k ≤ 30 ∧ Back1 s s1 va vi ins ci) fs.length
    ⟨0, _, _, [], [], by omega, e0, e1, e5, e6, e7, Nat.le_refl _, by omega, ⟨⟨0, .nil⟩, .nil, .nil, by simp, by simp [encs], .refl _ _, fun _ h => h.elim, fun _ h => h.elim, fun _ h => h.elim, by simp⟩⟩ ?_)
  clear e0 e1 e5 e6 e7 fr
  rintro m fr s1 ⟨k, va, vi, ins, ci, hk, e0, e1, e5, e6, e7, hik, hk30, hB⟩
  refine W_assoc ?_
  -- goes on while there are frames, and no more than thirty
  have hout : W X (.exit 0) fr s1 (LoopK m (fun m fr s1 => ∃ k va vi ins ci, k + m = fs.length ∧ geT fr 0 = v ∧ geT fr 1 = c ∧ geT fr 5 = va ∧ geT fr 6 = vi ∧ geT fr 7 = .int .i64 (k : Nat) ∧ ins.length ≤ k ∧ k ≤ 30 ∧ Back1 s s1 va vi ins ci) (BlkK 0 Q)) :=
    W_exit (LoopK_x (BlkK_e (hQ fr s1 va vi ins ci e1 e5 e6 hB)))
  clear hout
  by_cases hlt : k < fs.length
  case neg =>
    have hlt' : ¬ (k : Int) < (fs.length : Nat) := by omega
    refine W_seq (W_ops [0, 1, 5, 6, 7, 26] ?_)
    simp only [o4_5, WO_bin, WO_bu, WO_move, WO_pick, pick_b, bin_lss, WO_nil, PureK_some, WO_guard, want_v, wantB_t, geT_put, evO_tmp, evO_const, keep_nil, keep_cons, keepK_eq, List.map_cons, List.map_nil, Nat.reduceEqDiff, reduceIte, decide_false, eq_self, Bool.false_eq_true, e0, e1, e5, e6, e7, hv.len, hlt']
    clear e0 e1 e5 e6 e7
    intro fr e0 e1 e5 e6 e7 e26
    refine SeqK_n ?_
    exact W_seq (W_cond e26 (fun h => by cases h) (fun _ => W_exit (SeqK_x (LoopK_x (BlkK_e (hQ fr s1 va vi ins ci e1 e5 e6 hB))))))
  have hlt' : (k : Int) < (fs.length : Nat) := by omega
  by_cases h30 : k < 30
  case neg =>
    have h30' : ¬ (k : Int) < 30 := by omega
    refine W_seq (W_ops [0, 1, 5, 6, 7, 26] ?_)
    simp only [o4_5, WO_bin, WO_bu, WO_move, WO_pick, pick_b, bin_lss, WO_nil, PureK_some, WO_guard, want_v, wantB_t, geT_put, evO_tmp, evO_const, keep_nil, keep_cons, keepK_eq, List.map_cons, List.map_nil, Nat.reduceEqDiff, reduceIte, decide_true, decide_false, eq_self, e0, e1, e5, e6, e7, hv.len, hlt', h30']
    clear e0 e1 e5 e6 e7
    intro fr e0 e1 e5 e6 e7 e26
    refine SeqK_n ?_
    exact W_seq (W_cond e26 (fun h => by cases h) (fun _ => W_exit (SeqK_x (LoopK_x (BlkK_e (hQ fr s1 va vi ins ci e1 e5 e6 hB))))))
  have h30' : (k : Int) < 30 := by omega
  refine W_seq (W_ops [0, 1, 5, 6, 7, 26] ?_)
  simp only [o4_5, WO_bin, WO_bu, WO_move, WO_pick, pick_b, bin_lss, WO_nil, PureK_some, WO_guard, want_v, wantB_t, geT_put, evO_tmp, evO_const, keep_nil, keep_cons, keepK_eq, List.map_cons, List.map_nil, Nat.reduceEqDiff, reduceIte, decide_true, eq_self, e0, e1, e5, e6, e7, hv.len, hlt', h30']
  clear e0 e1 e5 e6 e7
  intro fr e0 e1 e5 e6 e7 e26
  refine SeqK_n ?_
  refine W_seq (W_cond e26 (fun _ => W_skip (SeqK_n ?_)) (fun h => by cases h))
  obtain ⟨⟨na, ha⟩, hi, hg2, hgd, hal, hs1, hfa, hfi, hdis, hnum⟩ := hB
  have hgk := hg.same hs1 (fun _ _ h => h)
  have hvk := hv.same hs1 (fun _ _ h => h)
  have hfk := hok fs[k] (by simp)
  obtain ⟨rv, iv, L1, r1, i1⟩ := hgk.load hvk (List.getElem?_eq_getElem hlt)
  have hna : na = (encs ins).length := by have := ha.length; rw [bsV_length] at this; omega
  subst hna
  refine W_seq (W_cutN (fun fr s' => ∃ va vi ins ci, geT fr 0 = v ∧ geT fr 1 = c ∧ geT fr 5 = va ∧ geT fr 6 = vi ∧ geT fr 7 = .int .i64 (k : Nat) ∧ ins.length ≤ k + 1 ∧ Back1 s s' va vi ins ci) ?_ ?_)
  · intro R' hR'
    refine W_block ?_
    refine W_seq (W_ops [0, 1, 5, 6, 7, 8, 9] ?_)
    simp only [o4_6, WO_addrSl, WO_call, WO_load, WO_move, PureK_some, geT_put, evO_tmp, List.map_cons, List.map_nil, Nat.reduceEqDiff, reduceIte, eq_self, e0, e7, hv.addr (kk := .i64) (i := (k : Int)) rfl hlt, L1]
    refine CallK_of (run18 hX ho r1.tab i1.tab hfk.lr) ?_
    rintro _ s2 ⟨hs2, ⟨hc, rfl⟩ | ⟨hc, vb, nb, rfl, hb, hfb⟩⟩
    · simp only [WO_extract, ext_20, ext_21, WO_move, WO_nil, PureK_some, geT_put, evO_tmp, keep_nil, keep_cons, keepK_eq, Nat.reduceEqDiff, reduceIte, eq_self, e0, e1, e5, e6, e7]
      clear e0 e1 e5 e6 e7 e26
      intro fr e0 e1 e5 e6 e7 e8 e9
      refine SeqK_n ?_
      have hc' : ¬ ((chkE fs[k].T fs[k].U fs[k].re fs[k].im : Nat) : Int) = 0 := by omega
      refine W_seq (W_ops [0, 1, 5, 6, 7, 8, 46] ?_)
      simp only [o4_7, WO_bin, WO_bu, bu_len, WO_move, WO_pick, pick_b, bin_eql, WO_nil, PureK_some, WO_guard, want_v, wantB_t, geT_put, evO_tmp, evO_const, keep_nil, keep_cons, keepK_eq, List.map_cons, List.map_nil, Nat.reduceEqDiff, reduceIte, decide_false, eq_self, Bool.false_eq_true, e0, e1, e5, e6, e7, e8, e9, hc']
      clear e0 e1 e5 e6 e7 e8 e9
      intro fr e0 e1 e5 e6 e7 e8 e46
      refine SeqK_n ?_
      refine W_cond e46 (fun h => by cases h) (fun _ => W_skip (BlkK_n (hR' _ _ ⟨va, vi, ins, ci, e0, e1, e5, e6, e7, by omega, ⟨⟨_, ha.same hs2 (fun _ _ h => h)⟩, hi.same hs2 (fun _ _ h => h), hg2.same hs2 (fun _ _ h => h), hgd, hal, hs1.trans hs2 (fun _ _ h => h) (fun _ _ h => h), hfa, hfi, hdis, hnum⟩⟩)))
    · skip
      simp only [WO_extract, ext_20, ext_21, WO_move, WO_nil, PureK_some, geT_put, evO_tmp, keep_nil, keep_cons, keepK_eq, Nat.reduceEqDiff, reduceIte, eq_self, e0, e1, e5, e6, e7]
      clear e0 e1 e5 e6 e7 e26
      intro fr e0 e1 e5 e6 e7 e8 e9
      refine SeqK_n ?_
      have hnb : nb = (encFr fs[k]).length := by have := hb.length; rw [bsV_length] at this; unfold encFr; omega
      subst hnb
      have hgood := hfk.good hc
      have hbl : (encFr fs[k]).length ≤ 1048607 := by
        obtain ⟨_, _, _, hlg⟩ := chk_spec hc
        have := large_spec hlg
        rw [encFr_length hgood, Nat.mul_assoc]; omega
      by_cases hsz : (encs ins).length + (encFr fs[k]).length < 262144
      case neg =>
        have hsz' : ¬ ((encs ins).length : Int) + ((encFr fs[k]).length : Nat) < 262144 := by omega
        refine W_seq (W_ops [0, 1, 5, 6, 7, 8, 46] ?_)
        simp only [o4_7, WO_bin, WO_bu, WO_move, WO_pick, pick_b, bin_add, bin_eql, bin_lss, WO_nil, PureK_some, WO_guard, want_v, wantB_t, geT_put, evO_tmp, evO_const, keep_nil, keep_cons, keepK_eq, List.map_cons, List.map_nil, Nat.reduceEqDiff, reduceIte, decide_true, decide_false, eq_self, e0, e1, e5, e6, e7, e8, e9, ha.slc.len, hb.slc.len, wrap_i64 (n := ((encs ins).length : Int) + ((encFr fs[k]).length : Nat)) (by omega) (by omega), hsz']
        clear e0 e1 e5 e6 e7 e8 e9
        intro fr e0 e1 e5 e6 e7 e8 e46
        refine SeqK_n ?_
        refine W_cond e46 (fun h => by cases h) (fun _ => W_skip (BlkK_n (hR' _ _ ⟨va, vi, ins, ci, e0, e1, e5, e6, e7, by omega, ⟨⟨_, ha.same hs2 (fun _ _ h => h)⟩, hi.same hs2 (fun _ _ h => h), hg2.same hs2 (fun _ _ h => h), hgd, hal, hs1.trans hs2 (fun _ _ h => h) (fun _ _ h => h), hfa, hfi, hdis, hnum⟩⟩)))
      have hsz' : ((encs ins).length : Int) + ((encFr fs[k]).length : Nat) < 262144 := by omega
      refine W_seq (W_ops [0, 1, 5, 6, 7, 8, 46] ?_)
      simp only [o4_7, WO_bin, WO_bu, WO_move, WO_pick, pick_b, bin_add, bin_eql, bin_lss, WO_nil, PureK_some, WO_guard, want_v, wantB_t, geT_put, evO_tmp, evO_const, keep_nil, keep_cons, keepK_eq, List.map_cons, List.map_nil, Nat.reduceEqDiff, reduceIte, decide_true, eq_self, e0, e1, e5, e6, e7, e8, e9, ha.slc.len, hb.slc.len, wrap_i64 (n := ((encs ins).length : Int) + ((encFr fs[k]).length : Nat)) (by omega) (by omega), hsz']
      clear e0 e1 e5 e6 e7 e8 e9
      intro fr e0 e1 e5 e6 e7 e8 e46
      refine SeqK_n ?_
      refine W_cond e46 (fun _ => ?_) (fun h => by cases h)
      have ha2 := ha.same hs2 (fun _ _ h => h)
      have hi2 := hi.same hs2 (fun _ _ h => h)
      obtain ⟨va', s3, hap, ha3, hs3, hf3⟩ := ha2.append (bytes := 1) hb.slc.src (by rw [bsV_length]; unfold encFr; omega) (bsV_one _) (by omega) (by omega) (by omega) (by omega)
      refine W_seq (W_ops [0, 1, 5, 6, 7] ?_)
      simp only [o4_8, WO_append, WO_move, WO_nil, MemK_some, geT_put, evO_tmp, keep_nil, keep_cons, keepK_eq, Nat.reduceEqDiff, reduceIte, eq_self, e0, e1, e5, e6, e7, e8, hap]
      clear e0 e1 e5 e6 e7 e8 e46
      intro fr e0 e1 e5 e6 e7
      refine SeqK_n ?_
      have hi3 := hi2.same hs3 (fun x hx h => hdis x h hx)
      have hs13 : Same s s3 (fun _ => False) := (hs1.trans hs2 (fun _ _ h => h) (fun _ _ h => h)).trans hs3 (fun _ _ h => h) (fun x hx h => by have := hfa x h; omega)
      have hg3 := hg.same hs13 (fun _ _ h => h)
      have hv3 := hv.same hs13 (fun _ _ h => h)
      have hgi3 : FrsG s3 (fun b => b < s.nxt) ci ins := (hg2.same hs2 (fun _ _ h => h)).same hs3 (fun x hx h => by have := hfa x h; omega)
      obtain ⟨rv3, iv3, L3, r3, i3⟩ := hg3.load hv3 (List.getElem?_eq_getElem hlt)
      have hs34 : Same s3 (newAt s3 (.cells [.float .f64 fs[k].T, .float .f64 fs[k].U, rv3, iv3] false)) (fun _ => False) := .new
      have hsc : SlC (newAt s3 (.cells [.float .f64 fs[k].T, .float .f64 fs[k].U, rv3, iv3] false)) 4 (.slice (some ⟨s3.nxt, 0, none⟩) 1 1) 1 [.float .f64 fs[k].T, .float .f64 fs[k].U, rv3, iv3] :=
        .mk blk_new_self (by rw [nxt_new]; omega) rfl (by simp) (.inl ⟨Nat.le_refl _, by decide⟩)
      obtain ⟨vi', s5, hap5, hi5, hs45, hf5⟩ := (hi3.same hs34 (fun _ _ h => h)).append (bytes := 64) hsc.src rfl (all4 r3.tab.one i3.tab.one) (by omega) (by omega) (by omega) (by omega)
      have hs35 : Same s3 s5 (footV vi) := hs34.trans hs45 (fun _ _ h => h.elim) (fun _ _ h => h)
      refine W_ops [0, 1, 5, 6, 7] ?_
      simp only [o4_9, WO_addrSl, WO_append, WO_buildSlice, WO_load, WO_move, WO_nil, PureK_some, MemK_some, NewK_some, geT_put, evO_tmp, keep_nil, keep_cons, keepK_eq, List.map_cons, List.map_nil, Nat.reduceEqDiff, reduceIte, eq_self, Nat.zero_mul, e0, e1, e5, e6, e7, hv3.addr (kk := .i64) (i := (k : Int)) rfl hlt, L3, buildSl_fr, hap5]
      clear e0 e1 e5 e6 e7
      intro fr e0 e1 e5 e6 e7
      have n12 := hs1.nxt
      have n23 := hs2.nxt
      have n33 := hs3.nxt
      have hfa' : ∀ x, footV va' x → s.nxt ≤ x := fun x hx => by
        rcases hf3 x hx with h | h
        · exact hfa x h
        · omega
      have hva3 : ∀ x, footV va' x → x < s3.nxt := ha3.slc.foot
      have hvi1 : ∀ x, footV vi x → x < s1.nxt := hi.slc.foot
      have hdis3 : ∀ x, footV va' x → ¬ footV vi x := fun x hx h => by
        rcases hf3 x hx with h' | h'
        · exact hdis x h' h
        · have := hvi1 x h; omega
      refine BlkK_n (hR' _ _ ⟨va', vi', ins ++ [fs[k]], ci ++ [.float .f64 fs[k].T, .float .f64 fs[k].U, rv3, iv3], e0, e1, e5, e6, e7, by simp; omega, ⟨⟨(encs ins).length + (encFr fs[k]).length, ?_⟩, by rw [List.length_append]; exact hi5, ?_, ?_, ?_, ?_, hfa', ?_, ?_, by simp; omega⟩⟩)
      · rw [encs_app, bsV_app]
        have : encs [fs[k]] = encFr fs[k] := by simp [encs]
        rw [this]
        exact ha3.same hs35 hdis3
      · exact ((hgi3.same hs35 (fun x hx h => by have := hfi x h; omega)).app (.cons (r3.same hs35 (fun x hx h => by have := hfi x h; omega)) (i3.same hs35 (fun x hx h => by have := hfi x h; omega)) .nil))
      · intro f hf
        rcases List.mem_append.1 hf with h | h
        · exact hgd f h
        · rw [List.mem_singleton.1 h]; exact ⟨hgood, hfk⟩
      · rw [encs_app, List.length_append]
        have : encs [fs[k]] = encFr fs[k] := by simp [encs]
        rw [this]; exact hsz
      · exact hs13.trans hs35 (fun _ _ h => h) (fun x hx h => by have := hfi x h; omega)
      · intro x hx
        rcases hf5 x hx with h | h
        · exact hfi x h
        · rw [nxt_new] at h; omega
      · intro x hx h
        rcases hf5 x h with h' | h'
        · exact hdis3 x hx h'
        · rw [nxt_new] at h'; have := hva3 x hx; omega
  · clear e0 e1 e5 e6 e7 e26 fr
    rintro fr s' ⟨va', vi', ins', ci', e0, e1, e5, e6, e7, hl', hB'⟩
    refine SeqK_n ?_
    refine W_ops [0, 1, 5, 6, 7] ?_
    simp only [o4_10, WO_bin, WO_move, bin_add, WO_nil, PureK_some, geT_put, evO_tmp, evO_const, keep_nil, keep_cons, keepK_eq, Nat.reduceEqDiff, reduceIte, eq_self, e0, e1, e5, e6, e7, wrap_i64 (n := (k : Int) + 1) (by omega) (by omega)]
    clear e0 e1 e5 e6 e7
    intro fr e0 e1 e5 e6 e7
    exact LoopK_n (m' := m - 1) (by omega) ⟨k + 1, va', vi', ins', ci', by omega, e0, e1, e5, e6, by rw [e7]; rfl, hl', by omega, hB'⟩

end Go.Proofs.Ytkfcejhebepdkaa

/- What is read in pieces. -/
namespace Go.Proofs.Ytkfcejhebepdkaa
open Go Go.Vam

/-- What stands ahead of a piece: the first j frames have been told, w is held. -/
structure Back2 (s1 : Mm) (R : Nat) (ins : List FrS) (all : List UInt8) (s3 : Mm) (hv vo : Value) (co : List Value) (Ko : Nat → Prop) (j at' : Nat) (w : List UInt8) : Prop where
  r : Store.get s3.h R = some (.cells [hv, .bool false] false)
  h : ∃ nh, Own s3 1 hv nh (bsV w)
  o : Own s3 4 vo j co
  g : FrsG s3 Ko co (ins.take j)
  st : encs (ins.take j) ++ w = all.take at'
  wt : fstF w = .wait
  jl : j ≤ ins.length
  al : at' ≤ all.length
  same : Same s1 s3 (fun _ => False)
  hR : R = s1.nxt
  hR3 : R < s3.nxt
  fh : ∀ x, footV hv x → R < x
  fo : ∀ x, footV vo x → R < x ∧ ¬ footV hv x
  k : ∀ x, Ko x → R < x ∧ x < s3.nxt ∧ ¬ footV vo x ∧ ¬ footV hv x

theorem take_sub (all : List UInt8) (a n : Nat) : all.take (a + n) = all.take a ++ subB all a (a + n) := by
  unfold subB
  rw [List.take_add, show a + n - a = n by omega]

theorem fed_step {s1 s3 s4 : Mm} {R : Nat} {ins : List FrS} {all : List UInt8} {hv vo : Value} {co : List Value} {Ko : Nat → Prop} {j a n N : Nat} {w : List UInt8} {r : Value} (hgood : ∀ f ∈ ins, Good f) (hnum : ins.length ≤ 30) (hall : all = encs ins)
    (hB : Back2 s1 R ins all s3 hv vo co Ko j a w) (hn : a + n ≤ all.length) (hN : w.length + n < N) (hF : Fed s3 s4 R hv r (feedF N (w ++ subB all a (a + n))).1 (feedF N (w ++ subB all a (a + n))).2) :
    ∃ out vo' s5 hv' co' Ko' j' w', r = .tuple #[out, .int .i64 0] ∧ appendV s4 64 4 vo out = some (vo', s5) ∧ Back2 s1 R ins all s5 hv' vo' co' Ko' j' (a + n) w' := by
  obtain ⟨b1, ⟨nh, b2⟩, b3, b4, b5, b6, b7, b8, b9, b10, b11, b12, b13, b14⟩ := hB
  have e1 : encs (ins.take j) ++ encs (ins.drop j) = all := by rw [← encs_app, List.take_append_drop, hall]
  have e2 : all = (encs (ins.take j) ++ w) ++ (subB all a (a + n) ++ all.drop (a + n)) := by
    rw [b5, ← List.append_assoc, ← take_sub, List.take_append_drop]
  have e3 : encs (ins.drop j) = (w ++ subB all a (a + n)) ++ all.drop (a + n) := by
    rw [e2, List.append_assoc] at e1
    have := List.append_cancel_left e1
    rw [this, List.append_assoc]
  obtain ⟨j', w', c1, c2, c3, c4⟩ := feed_pre (ins.drop j) (fun f hf => hgood f (List.mem_of_mem_drop hf)) _ _ e3 N (by rw [List.length_append, subB_length hn]; omega)
  rw [c2] at hF
  obtain ⟨f1, out, no, cells, K, f2, f3, f4, f5, f6⟩ := hF
  have hj : j + j' ≤ ins.length := by rw [List.length_drop] at c1; omega
  have hno : no = j' := by
    have h1 := f2.length
    have h2 := f3.len
    rw [List.length_take, List.length_drop] at h2
    omega
  subst hno
  rcases f6 with ⟨h, _⟩ | ⟨w2, v', n', h, rfl, g1, g2, g3⟩
  · cases h
  cases h
  have nR := b9.nxt
  have n34 := f1.nxt
  have hvo4 : Own s4 4 vo j co := b3.same f1 (fun x hx h => by
    rcases h with h | h
    · have := (b13 x hx).1; omega
    · exact (b13 x hx).2 h)
  have hg4 : FrsG s4 Ko co (ins.take j) := b4.same f1 (fun x hx h => by
    rcases h with h | h
    · have := (b14 x hx).1; omega
    · exact (b14 x hx).2.2.2 h)
  have hg5 := f3.g
  have hlen5 := hg5.len
  obtain ⟨vo', s5, ap, k1, k2, k3⟩ := hvo4.append (bytes := 64) f2.slc.src (by have := f2.length; omega) hg5.ones (by omega) (by omega) (by omega) (by omega)
  have hvo3 : ∀ x, footV vo x → x < s3.nxt := b3.slc.foot
  have hK4 := f3.lt
  have hv4 : ∀ x, footV v' x → x < s4.nxt := g2.slc.foot
  have dK : ∀ x, K x → ¬ footV vo x := fun x hx h => by have := (f4 x hx).1; have := hvo3 x h; omega
  have dv : ∀ x, footV v' x → ¬ footV vo x := fun x hx h => by have := (g3 x hx).1; have := hvo3 x h; omega
  refine ⟨out, vo', s5, v', _, fun x => Ko x ∨ K x, j + no, w', rfl, ap, ⟨?_, ⟨n', g2.same k2 dv⟩, k1, ?_, ?_, c4, hj, hn, ?_, b10, by have := k2.nxt; omega, fun x hx => by have := (g3 x hx).1; omega, ?_, ?_⟩⟩
  · rw [k2.get R (by omega) (fun h => by have := (b13 R h).1; omega)]; exact g1
  · rw [List.take_add]
    exact ((hg4.same k2 (fun x hx => (b14 x hx).2.2.1)).mono (fun _ h => .inl h)).app ((hg5.same k2 dK).mono (fun _ h => .inr h))
  · rw [List.take_add, encs_app, List.append_assoc, c3, ← List.append_assoc, b5, take_sub]
  · exact (b9.trans f1 (fun _ _ h => h) (fun x hx h => by
      rcases h with h | h
      · omega
      · have := b12 x h; omega)).trans k2 (fun _ _ h => h) (fun x hx h => by have := (b13 x h).1; omega)
  · intro x hx
    rcases k3 x hx with h | h
    · refine ⟨(b13 x h).1, fun h' => ?_⟩
      exact dv x h' h
    · exact ⟨by omega, fun h' => by have := hv4 x h'; omega⟩
  · rintro x (hx | hx)
    · obtain ⟨q1, q2, q3, q4⟩ := b14 x hx
      have n45 := k2.nxt
      refine ⟨q1, by omega, fun h => ?_, fun h => by have := (g3 x h).1; omega⟩
      rcases k3 x h with h | h
      · exact q3 h
      · omega
    · have q1 := f4 x hx
      have q2 := hK4 x hx
      have n45 := k2.nxt
      refine ⟨by omega, by omega, fun h => ?_, fun h => (g3 x h).2.1 hx⟩
      rcases k3 x h with h | h
      · exact dK x hx h
      · omega

theorem back2_end {s1 s3 : Mm} {R : Nat} {ins : List FrS} {all : List UInt8} {hv vo : Value} {co : List Value} {Ko : Nat → Prop} {j : Nat} {w : List UInt8} (hgood : ∀ f ∈ ins, Good f) (hall : all = encs ins) (hB : Back2 s1 R ins all s3 hv vo co Ko j all.length w) :
    j = ins.length ∧ w = [] := by
  have e1 : encs (ins.take j) ++ encs (ins.drop j) = all := by rw [← encs_app, List.take_append_drop, hall]
  have e2 := hB.st
  rw [List.take_length, ← e1] at e2
  have e3 := List.append_cancel_left e2
  have e4 := wait_all (fun f hf => hgood f (List.mem_of_mem_drop hf)) (by rw [← e3]; exact hB.wt)
  have e5 := congrArg List.length e4
  rw [List.length_drop, List.length_nil] at e5
  have := hB.jl
  exact ⟨by omega, by rw [e3, e4]; rfl⟩


theorem fin4 {X : Ctx} (hX : X.fns = fnsOf Try.prog) (ho : ∀ f args, f ≠ 9 → X.orc f args = none) (hw : X.orc 9 [] = some (.bool true)) {s s1 s3 : Mm} {va vi : Value} {ins : List FrS} {ci : List Value} {all : List UInt8} {hv vo : Value} {co : List Value} {Ko : Nat → Prop} {j a : Nat} {w : List UInt8} (hal3 : Bs s3 va all) (hi : Own s1 4 vi ins.length ci) (hg1 : FrsG s1 (fun b => b < s.nxt) ci ins)
    (hgd : ∀ f ∈ ins, Good f ∧ FOk f) (hal : all.length < 262144) (hnum : ins.length ≤ 30) (hall : all = encs ins) (hB : Back2 s1 s1.nxt ins all s3 hv vo co Ko j a w) {fr : Fr} (e5 : geT fr 5 = va) (e6 : geT fr 6 = vi) (e10 : geT fr 10 = .pointer (some ⟨s1.nxt, 0, none⟩))
    (e11 : geT fr 11 = vo) (e12 : geT fr 12 = .int .i64 (a : Nat)) : W X (.seq (.ops o4_26) (.seq (.ops o4_27) (.seq (.ops o4_28) .ret))) fr s3 (RetK ir4.results fun r _ => r = .bool true) := by
  have hgood : ∀ f ∈ ins, Good f := fun f hf => (hgd f hf).1
  have ha := hB.al
  have hsl : slV 1 va (some (.int .i64 (a : Nat))) none none = some (subS 1 va a all.length) := hal3.slE rfl ha
  refine W_seq (W_ops [6, 10, 11, 17, 18] ?_)
  simp only [o4_26, WO_call, WO_move, WO_slSl, PureK_some, geT_put, evO_tmp, List.map_cons, List.map_nil, Option.map_some, Option.map_none, Nat.reduceEqDiff, reduceIte, eq_self, e5, e10, e12, hsl]
  obtain ⟨nh, hoh⟩ := hB.h
  have hwl : w.length ≤ all.length := by
    have := congrArg List.length hB.st
    rw [List.length_append, List.length_take] at this; omega
  have hpl : (subB all a all.length).length = all.length - a := subB_length (Nat.le_refl _)
  refine CallK_of (run12 hX ho hB.r hB.hR3 hoh (fun x hx => by have := hB.fh x hx; omega) (Bs.sub hal3 ha (Nat.le_refl _)) (by omega) (by omega)) ?_
  rintro r s4 hF
  have han : a + (all.length - a) = all.length := by omega
  have hF' : Fed s3 s4 s1.nxt hv r (feedF (w.length + (subB all a all.length).length + 1) (w ++ subB all a (a + (all.length - a)))).1 (feedF (w.length + (subB all a all.length).length + 1) (w ++ subB all a (a + (all.length - a)))).2 := by rw [han]; exact hF
  obtain ⟨out, vo', s5, hv', co', Ko', j', w', rfl, hap, hB'⟩ := fed_step hgood hnum hall hB (by omega) (by omega) hF'
  rw [han] at hB'
  obtain ⟨rfl, rfl⟩ := back2_end hgood hall hB'
  simp only [WO_extract, ext_20, ext_21, WO_move, WO_nil, PureK_some, geT_put, evO_tmp, keep_nil, keep_cons, keepK_eq, Nat.reduceEqDiff, reduceIte, eq_self, e6, e10, e11]
  clear e5 e6 e10 e11 e12
  intro fr e6 e10 e11 e17 e18
  refine SeqK_n ?_
  refine W_seq (W_ops [6, 10, 11, 18] ?_)
  simp only [o4_27, WO_append, WO_move, WO_nil, MemK_some, geT_put, evO_tmp, keep_nil, keep_cons, keepK_eq, Nat.reduceEqDiff, reduceIte, eq_self, e6, e10, e11, e17, e18, hap]
  clear e6 e10 e11 e17 e18
  intro fr e6 e10 e11 e18
  refine SeqK_n ?_
  obtain ⟨nh', hoh'⟩ := hB'.h
  have hh := hoh'.slc
  have hnh : nh' = 0 := by have := hoh'.length; simpa [bsV] using this.symm
  subst hnh
  have hi5 := hi.same hB'.same (fun _ _ h => h)
  have hg5 := hg1.same hB'.same (fun _ _ h => h)
  have hgo := hB'.g
  rw [List.take_length] at hgo
  have hto := hB'.o.slc
  refine W_seq (W_ops [4] ?_)
  simp only [o4_28, WO_bin, WO_call, WO_move, WO_pick, pick_b, bin_eql, PureK_some, WO_guard, want_v, wantB_t, geT_put, evO_tmp, evO_const, List.map_cons, List.map_nil, Nat.reduceEqDiff, reduceIte, decide_true, eq_self, e6, e10, e11, e18]
  refine CallK_of (run16 hX ho hB'.r hh) ?_
  rintro _ _ ⟨rfl, rfl⟩
  simp only [WO_bin, WO_call, WO_move, WO_pick, pick_b, bin_eql, PureK_some, WO_guard, want_v, wantB_t, geT_put, evO_tmp, evO_const, List.map_cons, List.map_nil, Nat.reduceEqDiff, reduceIte, decide_true, eq_self, e6, e11, nat_0]
  refine CallK_of (run14_self hX ho hgo hg5 hto hi5.slc (by omega) (fun f hf => (hgd f hf).2)) ?_
  rintro _ s6 ⟨rfl, hs6⟩
  simp only [WO_call, WO_move, WO_pick, pick_b, WO_nil, PureK_some, WO_guard, want_v, wantB_t, geT_put, evO_tmp, evO_const, keep_nil, keep_cons, keepK_eq, List.map_nil, Nat.reduceEqDiff, reduceIte, eq_self]
  refine CallK_of (wakes_is hw) ?_
  rintro _ _ ⟨rfl, rfl⟩
  simp only [WO_move, WO_pick, pick_b, WO_nil, PureK_some, geT_put, evO_tmp, evO_const, keep_nil, keep_cons, keepK_eq, Nat.reduceEqDiff, reduceIte, eq_self]
  clear e6 e10 e11 e18
  intro fr e4
  refine SeqK_n ?_
  exact W_ret (Ret1 e4 rfl)

set_option maxHeartbeats 2000000 in
theorem run4 {X : Ctx} (hX : X.fns = fnsOf Try.prog) (ho : ∀ f args, f ≠ 9 → X.orc f args = none) (hw : X.orc 9 [] = some (.bool true)) {s : Mm} {v c : Value} {fs : List FrS} {cells : List Value} {xs : List Int} (hv : SlC s 4 v fs.length cells) (hg : FrsG s (fun b => b < s.nxt) cells fs) (hok : ∀ f ∈ fs, FOk f) (hlen : fs.length ≤ 9223372036854775807)
    (hc : SlC s 1 c xs.length (xs.map (.int .u16))) (hxs : ∀ x ∈ xs, 0 ≤ x ∧ x ≤ 65535) (hcl : xs.length ≤ 9223372036854775807) :
    CallP X 4 [v, c] s (fun r _ => r = .bool true) := by
  refine CallP_of (hX ▸ ir4_eq) (ho _ _ (by decide)) (Nat.le_of_ble_eq_true rfl) ?_
  refine W_seq (W_ops [0, 1] ?_)
  simp only [o4_0, WO_move, WO_nil, geT_put, frame_nil, frame_cons, evO_const, keep_nil, keep_cons, keepK_eq, Nat.reduceEqDiff, Nat.reduceAdd, reduceIte, eq_self, Nat.zero_add]
  intro fr e0 e1
  refine SeqK_n ?_
  refine W_seq (W_ops [0, 1, 5] ?_)
  simp only [o4_1, WO_move, WO_nil, geT_put, evO_const, keep_nil, keep_cons, keepK_eq, Nat.reduceEqDiff, reduceIte, eq_self, e0, e1]
  clear e0 e1
  intro fr e0 e1 e5
  refine SeqK_n ?_
  refine W_seq (W_ops [0, 1, 5, 6] ?_)
  simp only [o4_2, WO_move, WO_nil, geT_put, evO_const, keep_nil, keep_cons, keepK_eq, Nat.reduceEqDiff, reduceIte, eq_self, e0, e1, e5]
  clear e0 e1 e5
  intro fr e0 e1 e5 e6
  refine SeqK_n ?_
  refine W_assoc ?_
  refine W_seq (W_ops [0, 1, 5, 6, 7] ?_)
  simp only [o4_3, WO_move, WO_nil, geT_put, evO_const, keep_nil, keep_cons, keepK_eq, Nat.reduceEqDiff, reduceIte, eq_self, e0, e1, e5, e6]
  clear e0 e1 e5 e6
  intro fr e0 e1 e5 e6 e7
  refine SeqK_n ?_
  refine W_seq (back1 hX ho hw hv hg hok hlen e0 e1 e5 e6 e7 ?_)
  clear e0 e1 e5 e6 e7 fr
  intro fr s1 va vi ins ci e1 e5 e6 ⟨⟨na, ha⟩, hi, hg1, hgd, hal, hs1, hfa, hfi, hdis, hnum⟩
  obtain ⟨all, hall⟩ : ∃ all, all = encs ins := ⟨_, rfl⟩
  rw [← hall] at ha hal
  have hbs1 : Bs s1 va all := Bs.of ha.slc
  have hgood : ∀ f ∈ ins, Good f := fun f hf => (hgd f hf).1
  refine SeqK_n ?_
  refine W_seq (W_ops [1, 5, 6, 10] ?_)
  simp only [o4_11, WO_call, List.map_nil]
  refine CallK_of (run10 hX ho) ?_
  rintro _ _ ⟨rfl, rfl⟩
  simp only [WO_move, WO_nil, geT_put, evO_tmp, keep_nil, keep_cons, keepK_eq, Nat.reduceEqDiff, reduceIte, eq_self, e1, e5, e6]
  clear e1 e5 e6
  intro fr e1 e5 e6 e10
  refine SeqK_n ?_
  obtain ⟨s2, hs2⟩ : ∃ s2, s2 = newAt s1 (.cells [.slice none 0 0, .bool false] false) := ⟨_, rfl⟩
  rw [← hs2]
  have hgr : Store.get s2.h s1.nxt = some (.cells [.slice none 0 0, .bool false] false) := by rw [hs2, get_new, if_pos rfl]
  have hs12 : Same s1 s2 (fun _ => False) := by rw [hs2]; exact .new
  have hn2 : s2.nxt = s1.nxt + 1 := by rw [hs2, nxt_new]
  clear hs2
  refine W_assoc ?_
  refine W_seq (W_ops [1, 5, 6, 10, 59] ?_)
  simp only [o4_12, WO_eq, ptr_some, WO_move, WO_nil, PureK_some, geT_put, evO_tmp, evO_const, keep_nil, keep_cons, keepK_eq, Nat.reduceEqDiff, reduceIte, eq_self, Bool.false_eq_true, e1, e5, e6, e10]
  clear e1 e5 e6 e10
  intro fr e1 e5 e6 e10 e59
  refine SeqK_n ?_
  refine W_seq (W_cond e59 (fun h => by cases h) (fun _ => W_skip (SeqK_n ?_)))
  refine W_seq (W_ops [1, 5, 6, 10, 11] ?_)
  simp only [o4_14, WO_move, WO_nil, geT_put, evO_const, keep_nil, keep_cons, keepK_eq, Nat.reduceEqDiff, reduceIte, eq_self, e1, e5, e6, e10]
  clear e1 e5 e6 e10 e59
  intro fr e1 e5 e6 e10 e11
  refine SeqK_n ?_
  refine W_seq (W_ops [1, 5, 6, 10, 11, 12] ?_)
  simp only [o4_15, WO_move, WO_nil, geT_put, evO_const, keep_nil, keep_cons, keepK_eq, Nat.reduceEqDiff, reduceIte, eq_self, e1, e5, e6, e10, e11]
  clear e1 e5 e6 e10 e11
  intro fr e1 e5 e6 e10 e11 e12
  refine SeqK_n ?_
  refine W_assoc ?_
  refine W_seq (W_ops [1, 5, 6, 10, 11, 12, 13] ?_)
  simp only [o4_16, WO_move, WO_nil, geT_put, evO_const, keep_nil, keep_cons, keepK_eq, Nat.reduceEqDiff, reduceIte, eq_self, e1, e5, e6, e10, e11, e12]
  clear e1 e5 e6 e10 e11 e12
  intro fr e1 e5 e6 e10 e11 e12 e13
  refine SeqK_n ?_
  have hB0 : Back2 s1 s1.nxt ins all s2 (.slice none 0 0) (.slice none 0 0) [] (fun _ => False) 0 0 [] :=
    ⟨hgr, ⟨0, .nil⟩, .nil, .nil, by simp [encs], fst_nil, Nat.zero_le _, Nat.zero_le _, hs12, rfl, by omega, fun _ h => h.elim, fun _ h => h.elim, fun _ h => h.elim⟩
  have hcuts : ∀ {s'}, Same s1 s' (fun _ => False) → SlC s' 1 c xs.length (xs.map (.int .u16)) := fun h => (hc.same hs1 (fun _ _ h => h)).same h (fun _ _ h => h)
  have hallv : ∀ {s'}, Same s1 s' (fun _ => False) → Bs s' va all := fun h => SlC.same hbs1 h (fun _ _ h => h)
  refine W_seq (W_block (W_loop (fun m fr s3 => ∃ i hv vo co Ko j a w, i + m = xs.length ∧ geT fr 1 = c ∧ geT fr 5 = va ∧ geT fr 6 = vi ∧ geT fr 10 = .pointer (some ⟨s1.nxt, 0, none⟩) ∧ geT fr 11 = vo ∧ geT fr 12 = .int .i64 (a : Nat) ∧ geT fr 13 = .int .i64 (i : Nat) ∧ Back2 s1 s1.nxt ins all s3 hv vo co Ko j a w) xs.length
    ⟨0, _, _, _, _, 0, 0, [], by omega, e1, e5, e6, e10, e11, e12, e13, hB0⟩ ?_))
  · clear e1 e5 e6 e10 e11 e12 e13 fr hgr hs12 hn2 hB0 s2
    rintro m fr s3 ⟨i, hvv, vo, co, Ko, j, a, w, hm, e1, e5, e6, e10, e11, e12, e13, hB⟩
    have hcl3 := hcuts hB.same
    have hal3 := hallv hB.same
    refine W_assoc ?_
    by_cases hlt : i < xs.length
    case neg =>
      have hlt' : ¬ (i : Int) < (xs.length : Nat) := by omega
      refine W_seq (W_ops [1, 5, 6, 10, 11, 12, 13, 69] ?_)
      simp only [o4_18, WO_bin, WO_bu, WO_move, WO_pick, pick_b, bin_lss, WO_nil, PureK_some, WO_guard, want_v, wantB_t, geT_put, evO_tmp, evO_const, keep_nil, keep_cons, keepK_eq, List.map_cons, List.map_nil, Nat.reduceEqDiff, reduceIte, decide_false, eq_self, Bool.false_eq_true, e1, e5, e6, e10, e11, e12, e13, hcl3.len, hlt']
      clear e1 e5 e6 e10 e11 e12 e13
      intro fr e1 e5 e6 e10 e11 e12 e13 e69
      refine SeqK_n ?_
      refine W_seq (W_cond e69 (fun h => by cases h) (fun _ => W_exit (SeqK_x (LoopK_x (BlkK_e (SeqK_n (fin4 hX ho hw hal3 hi hg1 hgd hal hnum hall hB e5 e6 e10 e11 e12)))))))
    have hlt' : (i : Int) < (xs.length : Nat) := by omega
    by_cases hat : a < all.length
    case neg =>
      have hat' : ¬ (a : Int) < (all.length : Nat) := by omega
      refine W_seq (W_ops [1, 5, 6, 10, 11, 12, 13, 69] ?_)
      simp only [o4_18, WO_bin, WO_bu, WO_move, WO_pick, pick_b, bin_lss, WO_nil, PureK_some, WO_guard, want_v, wantB_t, geT_put, evO_tmp, evO_const, keep_nil, keep_cons, keepK_eq, List.map_cons, List.map_nil, Nat.reduceEqDiff, reduceIte, decide_true, decide_false, eq_self, e1, e5, e6, e10, e11, e12, e13, hcl3.len, hlt', hal3.len, hat']
      clear e1 e5 e6 e10 e11 e12 e13
      intro fr e1 e5 e6 e10 e11 e12 e13 e69
      refine SeqK_n ?_
      refine W_seq (W_cond e69 (fun h => by cases h) (fun _ => W_exit (SeqK_x (LoopK_x (BlkK_e (SeqK_n (fin4 hX ho hw hal3 hi hg1 hgd hal hnum hall hB e5 e6 e10 e11 e12)))))))
    have hat' : (a : Int) < (all.length : Nat) := by omega
    refine W_seq (W_ops [1, 5, 6, 10, 11, 12, 13, 69] ?_)
    simp only [o4_18, WO_bin, WO_bu, WO_move, WO_pick, pick_b, bin_lss, WO_nil, PureK_some, WO_guard, want_v, wantB_t, geT_put, evO_tmp, evO_const, keep_nil, keep_cons, keepK_eq, List.map_cons, List.map_nil, Nat.reduceEqDiff, reduceIte, decide_true, eq_self, e1, e5, e6, e10, e11, e12, e13, hcl3.len, hlt', hal3.len, hat']
    clear e1 e5 e6 e10 e11 e12 e13
    intro fr e1 e5 e6 e10 e11 e12 e13 e69
    refine SeqK_n ?_
    refine W_seq (W_cond e69 (fun _ => W_skip (SeqK_n ?_)) (fun h => by cases h))
    have hx := hxs xs[i] (by simp)
    obtain ⟨x, hxe⟩ : ∃ x : Nat, xs[i] = x := ⟨xs[i].toNat, by omega⟩
    have hld : loadV s3 none (elP c i) = some (.int .u16 (x : Nat)) := hcl3.load (by simp [hlt, hxe])
    have hx2 : x ≤ 65535 := by omega
    have q1 : (x : Int).tmod 50 = ((x % 50 : Nat) : Int) := rfl
    have d50 : ¬ ((50 : Int) = 0) := by decide
    have hmin : (if ((x % 50 : Nat) : Int) < (all.length : Nat) - (a : Nat) then ((x % 50 : Nat) : Int) else (all.length : Nat) - (a : Nat)) = ((min (all.length - a) (x % 50) : Nat) : Int) := by split <;> omega
    refine W_seq (W_block ?_)
    refine W_seq (W_ops [1, 5, 6, 10, 11, 12, 13, 14] ?_)
    simp only [o4_19, WO_addrSl, WO_bin, WO_bu, bu_min, WO_conv, conv_int, WO_load, WO_move, bin_rem, bin_sub, WO_nil, PureK_some, geT_put, evO_tmp, evO_const, keep_nil, keep_cons, keepK_eq, List.map_cons, List.map_nil, Nat.reduceEqDiff, reduceIte, eq_self, Nat.mul_one, e1, e5, e6, e10, e11, e12, e13, hal3.len, hcl3.addr (kk := .i64) (i := (i : Int)) rfl hlt, hld, d50, q1, wrap_i64 (n := ((all.length : Nat) : Int) - (a : Nat)) (by omega) (by omega), wrap_i64 (n := ((x % 50 : Nat) : Int)) (by omega) (by omega), hmin]
    clear e1 e5 e6 e10 e11 e12 e13 e69
    intro fr e1 e5 e6 e10 e11 e12 e13 e14
    refine SeqK_n ?_
    obtain ⟨n, hnd⟩ : ∃ n, n = min (all.length - a) (x % 50) := ⟨_, rfl⟩
    rw [← hnd] at e14
    have han : a + n ≤ all.length := by omega
    have hsl : slV 1 va (some (.int .i64 (a : Nat))) (some (.int .i64 ((a : Nat) + (n : Nat)))) none = some (subS 1 va a (a + n)) := hal3.sl rfl (by omega) (by omega) han
    refine W_seq (W_ops [1, 5, 6, 10, 11, 12, 13, 14, 15, 16] ?_)
    simp only [o4_20, WO_bin, WO_call, WO_move, WO_slSl, bin_add, PureK_some, geT_put, evO_tmp, List.map_cons, List.map_nil, Option.map_some, Option.map_none, Nat.reduceEqDiff, reduceIte, eq_self, e5, e10, e12, e14, wrap_i64 (n := (a : Int) + (n : Nat)) (by omega) (by omega), hsl]
    obtain ⟨nh, hoh⟩ := hB.h
    have hwl : w.length ≤ all.length := by
      have := congrArg List.length hB.st
      rw [List.length_append, List.length_take] at this; omega
    have hpl : (subB all a (a + n)).length = n := by rw [subB_length han]; omega
    refine CallK_of (run12 hX ho hB.r hB.hR3 hoh (fun x hx => by have := hB.fh x hx; omega) (Bs.sub hal3 (by omega : a ≤ a + n) han) (by omega) (by omega)) ?_
    rintro r s4 hF
    rw [hpl] at hF
    obtain ⟨out, vo', s5, hv', co', Ko', j', w', rfl, hap, hB'⟩ := fed_step hgood hnum hall hB han (by omega) hF
    simp only [WO_extract, ext_20, ext_21, WO_move, WO_nil, PureK_some, geT_put, evO_tmp, keep_nil, keep_cons, keepK_eq, Nat.reduceEqDiff, reduceIte, eq_self, e1, e5, e6, e10, e11, e12, e13, e14]
    clear e1 e5 e6 e10 e11 e12 e13 e14
    intro fr e1 e5 e6 e10 e11 e12 e13 e14 e15 e16
    refine SeqK_n ?_
    refine W_assoc ?_
    refine W_seq (W_ops [1, 5, 6, 10, 11, 12, 13, 14, 15, 95] ?_)
    simp only [o4_21, WO_bin, WO_move, bin_neq, WO_nil, PureK_some, geT_put, evO_tmp, evO_const, keep_nil, keep_cons, keepK_eq, Nat.reduceEqDiff, reduceIte, Bool.not_true, decide_true, eq_self, e1, e5, e6, e10, e11, e12, e13, e14, e15, e16]
    clear e1 e5 e6 e10 e11 e12 e13 e14 e15 e16
    intro fr e1 e5 e6 e10 e11 e12 e13 e14 e15 e95
    refine SeqK_n ?_
    refine W_seq (W_cond e95 (fun h => by simp at h) (fun _ => W_skip (SeqK_n ?_)))
    refine W_seq (W_ops [1, 5, 6, 10, 11, 12, 13, 14] ?_)
    simp only [o4_23, WO_append, WO_move, WO_nil, MemK_some, geT_put, evO_tmp, keep_nil, keep_cons, keepK_eq, Nat.reduceEqDiff, reduceIte, eq_self, e1, e5, e6, e10, e11, e12, e13, e14, e15, hap]
    clear e1 e5 e6 e10 e11 e12 e13 e14 e15 e95
    intro fr e1 e5 e6 e10 e11 e12 e13 e14
    refine SeqK_n ?_
    refine W_ops [1, 5, 6, 10, 11, 12, 13] ?_
    simp only [o4_24, WO_bin, WO_move, bin_add, WO_nil, PureK_some, geT_put, evO_tmp, keep_nil, keep_cons, keepK_eq, Nat.reduceEqDiff, reduceIte, eq_self, e1, e5, e6, e10, e11, e12, e13, e14, wrap_i64 (n := (a : Int) + (n : Nat)) (by omega) (by omega)]
    clear e1 e5 e6 e10 e11 e12 e13 e14
    intro fr e1 e5 e6 e10 e11 e12 e13
    refine BlkK_n (SeqK_n ?_)
    refine W_ops [1, 5, 6, 10, 11, 12, 13] ?_
    simp only [o4_25, WO_bin, WO_move, bin_add, WO_nil, PureK_some, geT_put, evO_tmp, evO_const, keep_nil, keep_cons, keepK_eq, Nat.reduceEqDiff, reduceIte, eq_self, e1, e5, e6, e10, e11, e12, e13, wrap_i64 (n := (i : Int) + 1) (by omega) (by omega)]
    clear e1 e5 e6 e10 e11 e12 e13
    intro fr e1 e5 e6 e10 e11 e12 e13
    exact LoopK_n (m' := m - 1) (by omega) ⟨i + 1, hv', vo', co', Ko', j', a + n, w', by omega, e1, e5, e6, e10, e11, by rw [e12]; rfl, by rw [e13]; rfl, hB'⟩

end Go.Proofs.Ytkfcejhebepdkaa
