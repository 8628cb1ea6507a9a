/- The first frame of bytes. -/
import Derived.Test.YtkfcejhebepdkaaTA
namespace Go.Proofs.Ytkfcejhebepdkaa
open Go Go.Vam

inductive Fst where
  | bad
  | wait
  | got (n : Nat)



def badN (n : Nat) : Bool := decide (n < 20) || (!decide (n % 4 = 0) || decide (262144 < (n - 20) / 4))
def badG (r g c : Nat) : Bool := largeB r g || ((decide (r = 0) && decide (0 < g)) || !decide (r * g = c))

/-- What bytes begin with. -/
def fstF (b : List UInt8) : Fst :=
  if b.take (min b.length 3) ≠ hdr.take (min b.length 3) then .bad
  else if b.length < 7 then .wait
  else if badN (getF 0 (subB b 3 7)) = true then .bad
  else if b.length < 23 then .wait
  else if (finB (getF 0 (subB b 7 15)) && okU (getF 0 (subB b 15 23))) = false then .bad
  else if b.length < 27 then .wait
  else if badG (getF 0 (subB b 23 25)) (getF 0 (subB b 25 27)) ((getF 0 (subB b 3 7) - 20) / 4) = true then .bad
  else if b.length < getF 0 (subB b 3 7) + 11 then .wait
  else if fnvF 2166136261 (subB b 0 (getF 0 (subB b 3 7) + 7)) ≠ getF 0 (subB b (getF 0 (subB b 3 7) + 7) (getF 0 (subB b 3 7) + 11)) then .bad
  else .got (getF 0 (subB b 3 7))

theorem getF_lt : ∀ (l : List UInt8) (p : Nat), p < 18446744073709551616 → getF p l < 18446744073709551616 := by
  intro l
  induction l with
  | nil => intro p h; exact h
  | cons c l ih => intro p h; exact ih _ (Nat.mod_lt _ (by omega))

theorem getF_pow : ∀ (l : List UInt8) (p k : Nat), p < 256 ^ k → k + l.length ≤ 8 → getF p l < 256 ^ (k + l.length) := by
  intro l
  induction l with
  | nil => intro p k h _; simpa [getF] using h
  | cons c l ih =>
    intro p k h hk
    simp only [List.length_cons] at hk
    have hc := c.toNat_lt
    have h1 : p * 256 + c.toNat < 256 ^ (k + 1) := by rw [Nat.pow_succ]; omega
    have := ih ((p * 256 + c.toNat) % 18446744073709551616) (k + 1) (Nat.lt_of_le_of_lt (Nat.mod_le _ _) h1) (by omega)
    simp only [getF, List.length_cons]
    rw [show k + (l.length + 1) = k + 1 + l.length by omega]
    exact this

theorem getF_32 {b : List UInt8} {l h : Nat} (hl : h = l + 4) (hh : h ≤ b.length) : getF 0 (subB b l h) < 4294967296 := by
  have := getF_pow (subB b l h) 0 0 (by simp) (by rw [subB_length hh]; omega)
  rw [subB_length hh, show 0 + (h - l) = 4 by omega] at this
  exact this
theorem getF_16 {b : List UInt8} {l h : Nat} (hl : h = l + 2) (hh : h ≤ b.length) : getF 0 (subB b l h) < 65536 := by
  have := getF_pow (subB b l h) 0 0 (by simp) (by rw [subB_length hh]; omega)
  rw [subB_length hh, show 0 + (h - l) = 2 by omega] at this
  exact this

theorem ext1_nat {n : Nat} (h : n < 18446744073709551616) : extV 1 [.int .u64 (n : Int)] = some (.float .f64 n) := by
  simp only [extV]
  rw [if_pos ⟨by omega, by omega⟩]; simp

theorem tdiv4 {n : Nat} : ((n : Int) - 20).tdiv 4 = if n < 20 then ((n : Int) - 20).tdiv 4 else (((n - 20) / 4 : Nat) : Int) := by
  split
  · rfl
  · rw [show ((n : Int) - 20) = ((n - 20 : Nat) : Int) by omega]; rfl

theorem tdiv_bnd {N : Nat} (h : N < 4294967296) : ((N : Int) - 20).tdiv 4 ≤ 1073741824 ∧ -5 ≤ ((N : Int) - 20).tdiv 4 := by
  rw [tdiv4]
  split
  · rename_i h
    exact (by decide : ∀ N : Nat, N < 20 → ((N : Int) - 20).tdiv 4 ≤ 1073741824 ∧ -5 ≤ ((N : Int) - 20).tdiv 4) N h
  · omega


/-- What holds behind the tests, where a frame is there. -/
structure Got28 (s s' : Mm) (v : Value) (b : List UInt8) (n : Nat) (fr : Fr) : Prop where
  hn : n = getF 0 (subB b 3 7)
  fst : fstF b = .got n
  e0 : geT fr 0 = v
  e2 : geT fr 2 = .pointer (some ⟨s.nxt, 0, none⟩)
  e6 : geT fr 6 = .int .i64 (n : Nat)
  e7 : geT fr 7 = .int .i64 ((n - 20) / 4 : Nat)
  e8 : geT fr 8 = .int .i64 (getF 0 (subB b 23 25) : Nat)
  e9 : geT fr 9 = .int .i64 (getF 0 (subB b 25 27) : Nat)
  hg : Store.get s'.h s.nxt = some (.cells [.float .f64 (getF 0 (subB b 7 15)), .float .f64 (getF 0 (subB b 15 23)), .slice none 0 0, .slice none 0 0] false)
  hs : Same s s' (fun _ => False)
  hnx : s.nxt < s'.nxt

def suf28 : ACode := .seq (.ops o28_24) (.seq (.seq (.ops o28_25) (.block 0 (.loop b28_26))) (.seq (.ops o28_31) .ret))

set_option maxHeartbeats 2000000 in
theorem run28 {X : Ctx} (hX : X.fns = fnsOf Try.prog) (ho : ∀ f args, f ≠ 9 → X.orc f args = none) {s : Mm} {v : Value} {b : List UInt8} (h : Bs s v b) (hn : b.length ≤ 70368744177664) {P : Value → Mm → Prop}
    (hbad : fstF b = .bad → ∀ s' (cs : List Value), Same s s' (fun _ => False) → cs.length = 4 → cs.all oneCell = true → P (.tuple #[.agg cs.toArray, .int .i64 0, .bool true]) s')
    (hwait : fstF b = .wait → ∀ s' (cs : List Value), Same s s' (fun _ => False) → cs.length = 4 → cs.all oneCell = true → P (.tuple #[.agg cs.toArray, .int .i64 0, .bool false]) s')
    (hgot : ∀ n fr s', Got28 s s' v b n fr → W X suf28 fr s' (RetK ir28.results P)) : CallP X 28 [v] s P := by
  refine CallP_of (hX ▸ ir28_eq) (ho _ _ (by decide)) (Nat.le_of_ble_eq_true rfl) ?_
  refine W_seq (W_ops [0, 2] ?_)
  simp only [o28_0, WO_alloc, WO_move, WO_nil, geT_put, frame_nil, frame_cons, evO_const, keep_nil, keep_cons, keepK_eq, Nat.reduceEqDiff, reduceIte, eq_self, Nat.zero_add]
  intro fr e0 e2
  refine SeqK_n ?_
  have hg : Store.get (newAt s (.cells [.float .f64 0, .float .f64 0, .slice none 0 0, .slice none 0 0] false)).h s.nxt = some (.cells [.float .f64 0, .float .f64 0, .slice none 0 0, .slice none 0 0] false) := by rw [get_new, if_pos rfl]
  have hs1 : Same s (newAt s (.cells [.float .f64 0, .float .f64 0, .slice none 0 0, .slice none 0 0] false)) (fun _ => False) := .new
  have hnx : s.nxt < (newAt s (.cells [.float .f64 0, .float .f64 0, .slice none 0 0, .slice none 0 0] false)).nxt := Nat.lt_succ_self _
  generalize newAt s (.cells [.float .f64 0, .float .f64 0, .slice none 0 0, .slice none 0 0] false) = s1 at hg hs1 hnx ⊢
  have h1 : Bs s1 v b := h.same hs1 (fun _ _ h => h)
  have hk3 : (if (3 : Int) < (b.length : Nat) then (3 : Int) else (b.length : Nat)) = ((min b.length 3 : Nat) : Int) := by split <;> omega
  refine W_seq (W_ops [0, 2, 5] ?_)
  simp only [o28_1, WO_bu, bu_min, WO_move, WO_nil, PureK_some, geT_put, evO_tmp, evO_const, keep_nil, keep_cons, keepK_eq, List.map_cons, List.map_nil, Nat.reduceEqDiff, reduceIte, eq_self, e0, e2, h1.len, hk3]
  clear e0 e2
  intro fr e0 e2 e5
  refine SeqK_n ?_
  refine W_assoc ?_
  have hsl : slV 1 v none (some (.int .i64 ((min b.length 3 : Nat) : Int))) none = some (subS 1 v 0 (min b.length 3)) := h1.sl0 rfl (by omega)
  have htx := (Bs.sub h1 (Nat.zero_le (min b.length 3)) (by omega)).text
  have hss : slStrV (.string ⟨#[76, 75, 49]⟩) none (some (.int .i64 ((min b.length 3 : Nat) : Int))) = some (.string ((⟨#[76, 75, 49]⟩ : ByteArray).extract 0 (min b.length 3))) := slStr_0 rfl (by show _ ≤ 3; omega)
  have hcmp : ((⟨(subB b 0 (min b.length 3)).toArray⟩ : ByteArray).toList == ((⟨#[76, 75, 49]⟩ : ByteArray).extract 0 (min b.length 3)).toList) = decide (b.take (min b.length 3) = hdr.take (min b.length 3)) := by
    have hx : ((#[76, 75, 49] : Array UInt8).extract 0 (min b.length 3)).toList = hdr.take (min b.length 3) := by simp [hdr]
    have hy : (⟨(subB b 0 (min b.length 3)).toArray⟩ : ByteArray).data.toList = b.take (min b.length 3) := by simp [subB]
    rw [ba_toList, ba_toList, ByteArray.data_extract, hx, hy, Bool.eq_iff_iff, beq_iff_eq, decide_eq_true_eq]
  refine W_seq (W_draw0 [0, 2, 21] rfl ?_)
  simp only [d28_2, WD_bin, WD_move, WD_slSl, WD_slStr, WD_text, bins_neq, WD_nil, DPureK_some, DReadK_some, pastR_nil, joinAll_nil, setH_self, geT_put, evO_tmp, evO_const, keep_nil, keep_cons, keepK_eq, Option.map_some, Option.map_none, Nat.reduceEqDiff, Nat.reduceAdd, reduceIte, eq_self, true_and, Nat.zero_add, e0, e2, e5, hsl, htx, hss, hcmp]
  clear e0 e2 e5
  intro fr e0 e2 e21
  refine SeqK_n ?_
  refine W_seq (W_ifn e21 (fun hc => ?_) (fun hc => W_skip (SeqK_n ?_)))
  · have hf : fstF b = .bad := by unfold fstF; rw [if_pos hc]
    refine W_seq (W_ops [2, 3, 4] ?_)
    simp only [o28_3, WO_load, WO_move, WO_store, WO_nil, PureK_some, MemK_some, geT_put, puT_none, evO_tmp, evO_const, keep_nil, keep_cons, keepK_eq, Nat.reduceEqDiff, reduceIte, eq_self, e2, loadn_all (n := 4) hg rfl, store_all (n := 4) (vs := [.float .f64 0, .float .f64 0, .slice none 0 0, .slice none 0 0]) hg rfl rfl rfl]
    clear e0 e2 e21
    intro fr e2 e3 e4
    refine SeqK_n ?_
    exact W_ret (RetC3 e2 (loadn_all (by rw [get_set, if_pos rfl]) rfl) e3 e4 (hbad hf _ _ (hs1.trans (.set (F := fun b => b = s.nxt) rfl) (fun _ _ h => h) (fun _ hB h => by omega)) rfl rfl))
  replace hc : ¬ (b.take (min b.length 3) ≠ hdr.take (min b.length 3)) := fun h => h hc
  refine W_assoc ?_
  refine W_seq (W_ops [0, 2, 25] ?_)
  simp only [o28_4, WO_bin, WO_bu, WO_move, bin_lss, WO_nil, PureK_some, geT_put, evO_tmp, evO_const, keep_nil, keep_cons, keepK_eq, List.map_cons, List.map_nil, Nat.reduceEqDiff, reduceIte, eq_self, e0, e2, h1.len]
  clear e0 e2 e21
  intro fr e0 e2 e25
  refine SeqK_n ?_
  refine W_seq (W_if e25 (fun hc2 => ?_) (fun hc2 => W_skip (SeqK_n ?_)))
  · have hf : fstF b = .wait := by unfold fstF; rw [if_neg hc, if_pos (by omega)]
    refine W_seq (W_ops [2, 3, 4] ?_)
    simp only [o28_5, WO_load, WO_move, WO_store, WO_nil, PureK_some, MemK_some, geT_put, puT_none, evO_tmp, evO_const, keep_nil, keep_cons, keepK_eq, Nat.reduceEqDiff, reduceIte, eq_self, e2, loadn_all (n := 4) hg rfl, store_all (n := 4) (vs := [.float .f64 0, .float .f64 0, .slice none 0 0, .slice none 0 0]) hg rfl rfl rfl]
    clear e0 e2 e25
    intro fr e2 e3 e4
    refine SeqK_n ?_
    exact W_ret (RetC3 e2 (loadn_all (by rw [get_set, if_pos rfl]) rfl) e3 e4 (hwait hf _ _ (hs1.trans (.set (F := fun b => b = s.nxt) rfl) (fun _ _ h => h) (fun _ hB h => by omega)) rfl rfl))
  have hn7 : 7 ≤ b.length := by omega
  have hc2' : ¬ b.length < 7 := by omega
  have hN := getF_32 (b := b) (l := 3) (h := 7) rfl hn7
  have hsl2 : slV 1 v (some (.int .i64 3)) (some (.int .i64 7)) none = some (subS 1 v 3 7) := h1.sl rfl rfl (by omega) hn7
  refine W_seq (W_ops [0, 2, 6] ?_)
  simp only [o28_6, WO_call, WO_move, WO_slSl, PureK_some, geT_put, evO_tmp, evO_const, List.map_cons, List.map_nil, Option.map_some, Option.map_none, Nat.reduceEqDiff, reduceIte, eq_self, e0, hsl2]
  refine CallK_of (run49 hX ho (Bs.sub h1 (by omega : 3 ≤ 7) hn7) (by rw [subB_length hn7]; omega)) ?_
  rintro _ _ ⟨rfl, rfl⟩
  simp only [WO_conv, conv_int, WO_move, WO_nil, PureK_some, geT_put, evO_tmp, keep_nil, keep_cons, keepK_eq, Nat.reduceEqDiff, reduceIte, eq_self, e0, e2, wrap_i64 (n := ((getF 0 (subB b 3 7) : Nat) : Int)) (by omega) (by omega)]
  clear e0 e2 e25
  intro fr e0 e2 e6
  refine SeqK_n ?_
  have hfst0 : fstF b = if b.length < 7 then .wait
      else if badN (getF 0 (subB b 3 7)) = true then .bad
      else if b.length < 23 then .wait
      else if (finB (getF 0 (subB b 7 15)) && okU (getF 0 (subB b 15 23))) = false then .bad
      else if b.length < 27 then .wait
      else if badG (getF 0 (subB b 23 25)) (getF 0 (subB b 25 27)) ((getF 0 (subB b 3 7) - 20) / 4) = true then .bad
      else if b.length < getF 0 (subB b 3 7) + 11 then .wait
      else if fnvF 2166136261 (subB b 0 (getF 0 (subB b 3 7) + 7)) ≠ getF 0 (subB b (getF 0 (subB b 3 7) + 7) (getF 0 (subB b 3 7) + 11)) then .bad
      else .got (getF 0 (subB b 3 7)) := by unfold fstF; rw [if_neg hc]
  rw [if_neg hc2'] at hfst0
  generalize hNN : getF 0 (subB b 3 7) = N at hN e6 hfst0
  have h4 := tdiv_bnd hN
  refine W_seq (W_ops [0, 2, 6, 7] ?_)
  simp only [o28_7, WO_bin, WO_move, bin_quo, bin_sub, WO_nil, PureK_some, geT_put, evO_tmp, evO_const, keep_nil, keep_cons, keepK_eq, Nat.reduceEqDiff, reduceIte, eq_self, e0, e2, e6, wrap_i64 (n := (N : Int) - 20) (by omega) (by omega), (by decide : ¬ ((4 : Int) = 0)), wrap_i64 (n := ((N : Int) - 20).tdiv 4) (by omega) (by omega)]
  clear e0 e2 e6
  intro fr e0 e2 e6 e7
  refine SeqK_n ?_
  refine W_assoc ?_
  refine W_seq (W_opsB [0, 2, 6, 7, 44] (fun fr1 s2 => s1 = s2 ∧ geT fr1 0 = v ∧ geT fr1 2 = .pointer (some ⟨s.nxt, 0, none⟩) ∧ geT fr1 6 = .int .i64 (N : Nat) ∧ geT fr1 7 = .int .i64 (((N : Int) - 20).tdiv 4) ∧ geT fr1 44 = .bool (badN N)) ?_ ?_)
  · intro R' hR'
    have d4 : ¬ ((4 : Int) = 0) := by decide
    have hm : (N : Int).tmod 4 = ((N % 4 : Nat) : Int) := rfl
    by_cases a1 : N < 20
    · have a1' : (N : Int) < 20 := by omega
      simp only [o28_8, WO_nil, WO_move, WO_pick, WO_bin, WO_guard, PureK_some, geT_put, evO_tmp, evO_const, want_v, wantB_f, keep_nil, keep_cons, keepK_eq, Nat.reduceEqDiff, reduceIte, pick_b, bin_rem, bin_neq, bin_lss, bin_gtr, Bool.not_true, decide_true, Int.reduceEq, eq_self, Bool.false_eq_true, e0, e2, e6, e7, a1']
      intro fr e0 e2 e6 e7 e44
      exact hR' _ _ ⟨rfl, e0, e2, e6, e7, by rw [e44]; simp [badN, a1]⟩
    · have a1' : ¬ (N : Int) < 20 := by omega
      have ht : ((N : Int) - 20).tdiv 4 = (((N - 20) / 4 : Nat) : Int) := by rw [tdiv4, if_neg a1]
      by_cases a2 : N % 4 = 0
      · have a2' : ((N % 4 : Nat) : Int) = 0 := by omega
        simp only [o28_8, WO_nil, WO_move, WO_pick, WO_bin, WO_guard, PureK_some, geT_put, evO_tmp, evO_const, want_v, wantB_f, keep_nil, keep_cons, keepK_eq, Nat.reduceEqDiff, reduceIte, pick_b, bin_rem, bin_neq, bin_lss, bin_gtr, Bool.not_true, Bool.not_false, decide_true, decide_false, eq_self, Bool.false_eq_true, e0, e2, e6, e7, a1', d4, hm, a2']
        intro fr e0 e2 e6 e7 e44
        refine hR' _ _ ⟨rfl, e0, e2, e6, e7, ?_⟩
        rw [e44, ht]
        simp only [badN, a1, a2, decide_false, decide_true, Bool.false_or, Bool.not_true]
        congr 1
        exact decide_eq_decide.2 (by omega)
      · have a2' : ¬ ((N % 4 : Nat) : Int) = 0 := by omega
        simp only [o28_8, WO_nil, WO_move, WO_pick, WO_bin, WO_guard, PureK_some, geT_put, evO_tmp, evO_const, want_v, wantB_f, keep_nil, keep_cons, keepK_eq, Nat.reduceEqDiff, reduceIte, pick_b, bin_rem, bin_neq, bin_lss, bin_gtr, Bool.not_true, Bool.not_false, decide_false, eq_self, Bool.false_eq_true, e0, e2, e6, e7, a1', d4, hm, a2']
        intro fr e0 e2 e6 e7 e44
        exact hR' _ _ ⟨rfl, e0, e2, e6, e7, by rw [e44]; simp [badN, a1, a2]⟩
  clear e0 e2 e6 e7 fr
  rintro fr _ ⟨rfl, e0, e2, e6, e7, e44⟩
  refine SeqK_n (W_seq (W_cond e44 (fun hc3 => ?_) (fun hc3 => W_skip (SeqK_n ?_))))
  · have hf : fstF b = .bad := by rw [hfst0, if_pos hc3]
    refine W_seq (W_ops [2, 3, 4] ?_)
    simp only [o28_9, WO_load, WO_move, WO_store, WO_nil, PureK_some, MemK_some, geT_put, puT_none, evO_tmp, evO_const, keep_nil, keep_cons, keepK_eq, Nat.reduceEqDiff, reduceIte, eq_self, e2, loadn_all (n := 4) hg rfl, store_all (n := 4) (vs := [.float .f64 0, .float .f64 0, .slice none 0 0, .slice none 0 0]) hg rfl rfl rfl]
    clear e0 e2 e6 e7 e44
    intro fr e2 e3 e4
    refine SeqK_n ?_
    exact W_ret (RetC3 e2 (loadn_all (by rw [get_set, if_pos rfl]) rfl) e3 e4 (hbad hf _ _ (hs1.trans (.set (F := fun b => b = s.nxt) rfl) (fun _ _ h => h) (fun _ hB h => by omega)) rfl rfl))
  rw [if_neg (by rw [hc3]; simp)] at hfst0
  have hN20 : 20 ≤ N ∧ N % 4 = 0 ∧ (N - 20) / 4 ≤ 262144 := by
    simp only [badN, Bool.or_eq_false_iff, decide_eq_false_iff_not, Bool.not_eq_false', decide_eq_true_eq] at hc3
    omega
  rw [tdiv4, if_neg (by omega)] at e7
  refine W_assoc ?_
  refine W_seq (W_ops [0, 2, 6, 7, 48] ?_)
  simp only [o28_10, WO_bin, WO_bu, WO_move, bin_lss, WO_nil, PureK_some, geT_put, evO_tmp, evO_const, keep_nil, keep_cons, keepK_eq, List.map_cons, List.map_nil, Nat.reduceEqDiff, reduceIte, eq_self, e0, e2, e6, e7, h1.len]
  clear e0 e2 e6 e7 e44
  intro fr e0 e2 e6 e7 e48
  refine SeqK_n ?_
  refine W_seq (W_if e48 (fun hc4 => ?_) (fun hc4 => W_skip (SeqK_n ?_)))
  · have hf : fstF b = .wait := by rw [hfst0, if_pos (by omega)]
    refine W_seq (W_ops [2, 3, 4] ?_)
    simp only [o28_11, WO_load, WO_move, WO_store, WO_nil, PureK_some, MemK_some, geT_put, puT_none, evO_tmp, evO_const, keep_nil, keep_cons, keepK_eq, Nat.reduceEqDiff, reduceIte, eq_self, e2, loadn_all (n := 4) hg rfl, store_all (n := 4) (vs := [.float .f64 0, .float .f64 0, .slice none 0 0, .slice none 0 0]) hg rfl rfl rfl]
    clear e0 e2 e6 e7 e48
    intro fr e2 e3 e4
    refine SeqK_n ?_
    exact W_ret (RetC3 e2 (loadn_all (by rw [get_set, if_pos rfl]) rfl) e3 e4 (hwait hf _ _ (hs1.trans (.set (F := fun b => b = s.nxt) rfl) (fun _ _ h => h) (fun _ hB h => by omega)) rfl rfl))
  have hn23 : 23 ≤ b.length := by omega
  rw [if_neg (by omega)] at hfst0
  have hsl3 : slV 1 v (some (.int .i64 7)) (some (.int .i64 15)) none = some (subS 1 v 7 15) := h1.sl rfl rfl (by omega) (by omega)
  have hsl4 : slV 1 v (some (.int .i64 15)) (some (.int .i64 23)) none = some (subS 1 v 15 23) := h1.sl rfl rfl (by omega) hn23
  have hT := getF_lt (subB b 7 15) 0 (by omega)
  have hU := getF_lt (subB b 15 23) 0 (by omega)
  refine W_seq (W_draw0 [0, 2, 6, 7] rfl ?_)
  simp only [d28_12, WD_call, WD_move, WD_slSl, DPureK_some, joinF_nil, setH_self, geT_put, evO_tmp, evO_const, List.map_cons, List.map_nil, Option.map_some, Option.map_none, Nat.reduceEqDiff, Nat.reduceAdd, reduceIte, eq_self, Nat.zero_add, e0, hsl3]
  have hst1 : storeV s1 1 (.pointer (some ⟨s.nxt, 0, none⟩)) (.float .f64 (getF 0 (subB b 7 15))) = some (undefV, setBlk s1 s.nxt (.cells [.float .f64 (getF 0 (subB b 7 15)), .float .f64 0, .slice none 0 0, .slice none 0 0] false)) := store_g (o := 0) hg rfl (by simp)
  have hgA : Store.get (setBlk s1 s.nxt (.cells [.float .f64 (getF 0 (subB b 7 15)), .float .f64 0, .slice none 0 0, .slice none 0 0] false)).h s.nxt = some (.cells [.float .f64 (getF 0 (subB b 7 15)), .float .f64 0, .slice none 0 0, .slice none 0 0] false) := by rw [get_set, if_pos rfl]
  have hst2 : storeV (setBlk s1 s.nxt (.cells [.float .f64 (getF 0 (subB b 7 15)), .float .f64 0, .slice none 0 0, .slice none 0 0] false)) 1 (.pointer (some ⟨s.nxt, 1, none⟩)) (.float .f64 (getF 0 (subB b 15 23))) = some (undefV, setBlk (setBlk s1 s.nxt (.cells [.float .f64 (getF 0 (subB b 7 15)), .float .f64 0, .slice none 0 0, .slice none 0 0] false)) s.nxt (.cells [.float .f64 (getF 0 (subB b 7 15)), .float .f64 (getF 0 (subB b 15 23)), .slice none 0 0, .slice none 0 0] false)) :=
    store_g (o := 1) hgA rfl (by simp)
  refine DCallK_of rfl (run49 hX ho (Bs.sub h1 (by omega : 7 ≤ 15) (by omega)) (by rw [subB_length (by omega)]; omega)) ?_
  rintro _ _ ⟨rfl, rfl⟩
  simp only [WD_call, WD_ext, WD_move, WD_slSl, DPureK_some, DActK_some, preHead_cons, joinF_nil, setH_self, Nat.testBit, Nat.reduceShiftRight, Nat.reduceAnd, Nat.reduceBneDiff, List.all_nil, List.filter_nil, geT_put, evO_tmp, evO_const, List.map_cons, List.map_nil, Option.map_some, Option.map_none, Nat.reduceEqDiff, Nat.reduceAdd, reduceIte, eq_self, true_and, e0, extS_eq (s := s1) (ext1_nat hT), hsl4]
  refine DCallK_of rfl (run49 hX ho (Bs.sub h1 (by omega : 15 ≤ 23) hn23) (by rw [subB_length hn23]; omega)) ?_
  rintro _ _ ⟨rfl, rfl⟩
  simp only [WD_ext, WD_fieldAddr, fieldAddr_p, WD_store, WD_nil, DPureK_some, DActK_some, preHead_cons, joinF_nil, joinAll_nil, setH_self, Nat.testBit, Nat.reduceShiftRight, Nat.reduceAnd, Nat.reduceBneDiff, List.all_nil, List.filter_nil, geT_put, puT_none, evO_tmp, keep_nil, keep_cons, keepK_eq, List.map_cons, List.map_nil, Nat.reduceEqDiff, Nat.reduceAdd, reduceIte, eq_self, true_and, Nat.zero_add, Nat.add_zero, e0, e2, e6, e7, extS_eq (s := s1) (ext1_nat hU), hst1, hst2]
  clear e0 e2 e6 e7 e48
  intro fr e0 e2 e6 e7
  refine SeqK_n ?_
  have hg' : Store.get (setBlk (setBlk s1 s.nxt (.cells [.float .f64 (getF 0 (subB b 7 15)), .float .f64 0, .slice none 0 0, .slice none 0 0] false)) s.nxt (.cells [.float .f64 (getF 0 (subB b 7 15)), .float .f64 (getF 0 (subB b 15 23)), .slice none 0 0, .slice none 0 0] false)).h s.nxt = some (.cells [.float .f64 (getF 0 (subB b 7 15)), .float .f64 (getF 0 (subB b 15 23)), .slice none 0 0, .slice none 0 0] false) := by rw [get_set, if_pos rfl]
  have hs' : Same s (setBlk (setBlk s1 s.nxt (.cells [.float .f64 (getF 0 (subB b 7 15)), .float .f64 0, .slice none 0 0, .slice none 0 0] false)) s.nxt (.cells [.float .f64 (getF 0 (subB b 7 15)), .float .f64 (getF 0 (subB b 15 23)), .slice none 0 0, .slice none 0 0] false)) (fun _ => False) :=
    (hs1.trans (.set (F := fun b => b = s.nxt) rfl) (fun _ _ h => h) (fun _ hB h => by omega)).trans (.set (F := fun b => b = s.nxt) rfl) (fun _ _ h => h) (fun _ hB h => by omega)
  have hnx' : s.nxt < (setBlk (setBlk s1 s.nxt (.cells [.float .f64 (getF 0 (subB b 7 15)), .float .f64 0, .slice none 0 0, .slice none 0 0] false)) s.nxt (.cells [.float .f64 (getF 0 (subB b 7 15)), .float .f64 (getF 0 (subB b 15 23)), .slice none 0 0, .slice none 0 0] false)).nxt := hnx
  clear hg hs1 hnx hst1 hst2 hgA h1 htx
  generalize setBlk (setBlk s1 s.nxt (.cells [.float .f64 (getF 0 (subB b 7 15)), .float .f64 0, .slice none 0 0, .slice none 0 0] false)) s.nxt (.cells [.float .f64 (getF 0 (subB b 7 15)), .float .f64 (getF 0 (subB b 15 23)), .slice none 0 0, .slice none 0 0] false) = s2 at hg' hs' hnx' ⊢
  clear s1
  have hg := hg'
  have hs1 := hs'
  have hnx := hnx'
  clear hg' hs' hnx'
  have h1 : Bs s2 v b := h.same hs1 (fun _ _ h => h)
  generalize hTT : getF 0 (subB b 7 15) = T at hT hg hfst0
  generalize hUU : getF 0 (subB b 15 23) = U at hU hg hfst0
  refine W_assoc ?_
  refine W_seq (W_opsB [0, 2, 6, 7, 75] (fun fr1 s3 => s2 = s3 ∧ geT fr1 0 = v ∧ geT fr1 2 = .pointer (some ⟨s.nxt, 0, none⟩) ∧ geT fr1 6 = .int .i64 (N : Nat) ∧ geT fr1 7 = .int .i64 (((N - 20) / 4 : Nat)) ∧ geT fr1 75 = .bool (!(finB T && okU U))) ?_ ?_)
  · intro R' hR'
    simp only [o28_13, WO_fieldAddr, WO_load, WO_call, PureK_some, geT_put, evO_tmp, List.map_cons, List.map_nil, Nat.reduceEqDiff, reduceIte, fieldAddr_p, eq_self, List.getElem?_cons_zero, Nat.add_zero, e2, load_g (o := 0) hg]
    refine CallK_of (run45 hX ho) ?_
    rintro _ _ ⟨rfl, rfl⟩
    simp only [WO_bin, WO_call, WO_fieldAddr, fieldAddr_p, WO_load, WO_move, WO_pick, pick_b, WO_un, un_not, binf_gtr, PureK_some, WO_guard, want_v, wantB_f, geT_put, evO_tmp, evO_const, List.map_cons, List.map_nil, Nat.reduceEqDiff, reduceIte, Bool.not_not, eq_self, Nat.zero_add, List.getElem?_cons_zero, List.getElem?_cons_succ, e2, load_g (o := 1) hg]
    cases hx : finB T with
    | false =>
      simp only [WO_nil, PureK_some, geT_put, wantB_f, keep_nil, keep_cons, keepK_eq, Nat.reduceEqDiff, reduceIte, pick_b, Bool.not_true, Bool.not_false, eq_self, Bool.false_eq_true, e0, e2, e6, e7]
      intro fr e0 e2 e6 e7 e75
      exact hR' _ _ ⟨rfl, e0, e2, e6, e7, by rw [e75, hx]; rfl⟩
    | true =>
      simp only [reduceIte, Bool.not_true, eq_self, Bool.false_eq_true]
      refine CallK_of (run45 hX ho) ?_
      rintro _ _ ⟨rfl, rfl⟩
      simp only [WO_bin, WO_fieldAddr, fieldAddr_p, WO_load, WO_move, WO_pick, pick_b, WO_un, un_not, binf_gtr, WO_nil, PureK_some, WO_guard, want_v, wantB_f, geT_put, evO_tmp, evO_const, keep_nil, keep_cons, keepK_eq, Nat.reduceEqDiff, reduceIte, Bool.not_false, Bool.not_not, eq_self, Bool.false_eq_true, Nat.zero_add, List.getElem?_cons_zero, List.getElem?_cons_succ, e0, e2, e6, e7, load_g (o := 1) hg]
      cases hy : finB U with
      | false =>
        simp only [reduceIte, Bool.not_false, eq_self, Bool.false_eq_true]
        intro fr e0 e2 e6 e7 e75
        exact hR' _ _ ⟨rfl, e0, e2, e6, e7, by rw [e75, hx]; simp [okU, hy]⟩
      | true =>
        simp only [reduceIte, Bool.not_true, eq_self, Bool.false_eq_true]
        intro fr e0 e2 e6 e7 e75
        exact hR' _ _ ⟨rfl, e0, e2, e6, e7, by rw [e75, hx]; simp [okU, hy]⟩
  clear e0 e2 e6 e7 fr
  rintro fr _ ⟨rfl, e0, e2, e6, e7, e75⟩
  refine SeqK_n (W_seq (W_cond e75 (fun hc5 => ?_) (fun hc5 => W_skip (SeqK_n ?_))))
  · have hf : fstF b = .bad := by rw [hfst0, if_pos (by rw [Bool.not_eq_true'] at hc5; exact hc5)]
    refine W_seq (W_ops [2, 3, 4] ?_)
    simp only [o28_14, WO_load, WO_move, WO_store, WO_nil, PureK_some, MemK_some, geT_put, puT_none, evO_tmp, evO_const, keep_nil, keep_cons, keepK_eq, Nat.reduceEqDiff, reduceIte, eq_self, e2, loadn_all (n := 4) hg rfl, store_all (n := 4) (vs := [.float .f64 T, .float .f64 U, .slice none 0 0, .slice none 0 0]) hg rfl rfl rfl]
    clear e0 e2 e6 e7 e75
    intro fr e2 e3 e4
    refine SeqK_n ?_
    exact W_ret (RetC3 e2 (loadn_all (by rw [get_set, if_pos rfl]) rfl) e3 e4 (hbad hf _ _ (hs1.trans (.set (F := fun b => b = s.nxt) rfl) (fun _ _ h => h) (fun _ hB h => by omega)) rfl rfl))
  rw [if_neg (by rw [Bool.not_eq_false'] at hc5; rw [hc5]; simp)] at hfst0
  refine W_assoc ?_
  refine W_seq (W_ops [0, 2, 6, 7, 79] ?_)
  simp only [o28_15, WO_bin, WO_bu, WO_move, bin_lss, WO_nil, PureK_some, geT_put, evO_tmp, evO_const, keep_nil, keep_cons, keepK_eq, List.map_cons, List.map_nil, Nat.reduceEqDiff, reduceIte, eq_self, e0, e2, e6, e7, h1.len]
  clear e0 e2 e6 e7 e75
  intro fr e0 e2 e6 e7 e79
  refine SeqK_n ?_
  refine W_seq (W_if e79 (fun hc6 => ?_) (fun hc6 => W_skip (SeqK_n ?_)))
  · have hf : fstF b = .wait := by rw [hfst0, if_pos (by omega)]
    refine W_seq (W_ops [2, 3, 4] ?_)
    simp only [o28_16, WO_load, WO_move, WO_store, WO_nil, PureK_some, MemK_some, geT_put, puT_none, evO_tmp, evO_const, keep_nil, keep_cons, keepK_eq, Nat.reduceEqDiff, reduceIte, eq_self, e2, loadn_all (n := 4) hg rfl, store_all (n := 4) (vs := [.float .f64 T, .float .f64 U, .slice none 0 0, .slice none 0 0]) hg rfl rfl rfl]
    clear e0 e2 e6 e7 e79
    intro fr e2 e3 e4
    refine SeqK_n ?_
    exact W_ret (RetC3 e2 (loadn_all (by rw [get_set, if_pos rfl]) rfl) e3 e4 (hwait hf _ _ (hs1.trans (.set (F := fun b => b = s.nxt) rfl) (fun _ _ h => h) (fun _ hB h => by omega)) rfl rfl))
  have hn27 : 27 ≤ b.length := by omega
  rw [if_neg (by omega)] at hfst0
  have hsl5 : slV 1 v (some (.int .i64 23)) (some (.int .i64 25)) none = some (subS 1 v 23 25) := h1.sl rfl rfl (by omega) (by omega)
  have hsl6 : slV 1 v (some (.int .i64 25)) (some (.int .i64 27)) none = some (subS 1 v 25 27) := h1.sl rfl rfl (by omega) hn27
  have hR := getF_16 (b := b) (l := 23) (h := 25) rfl (by omega)
  have hG := getF_16 (b := b) (l := 25) (h := 27) rfl (by omega)
  refine W_seq (W_draw0 [0, 2, 6, 7, 8, 9] rfl ?_)
  simp only [d28_17, WD_call, WD_move, WD_slSl, DPureK_some, joinF_nil, setH_self, geT_put, evO_tmp, evO_const, List.map_cons, List.map_nil, Option.map_some, Option.map_none, Nat.reduceEqDiff, Nat.reduceAdd, reduceIte, eq_self, Nat.zero_add, e0, hsl5]
  refine DCallK_of rfl (run49 hX ho (Bs.sub h1 (by omega : 23 ≤ 25) (by omega)) (by rw [subB_length (by omega)]; omega)) ?_
  rintro _ _ ⟨rfl, rfl⟩
  simp only [WD_call, WD_conv, conv_int, WD_move, WD_slSl, DPureK_some, joinF_nil, setH_self, Nat.testBit, List.all_nil, List.filter_nil, geT_put, evO_tmp, evO_const, List.map_cons, List.map_nil, Option.map_some, Option.map_none, Nat.reduceEqDiff, Nat.reduceAdd, reduceIte, eq_self, true_and, e0, wrap_i64 (n := ((getF 0 (subB b 23 25) : Nat) : Int)) (by omega) (by omega), hsl6]
  refine DCallK_of rfl (run49 hX ho (Bs.sub h1 (by omega : 25 ≤ 27) hn27) (by rw [subB_length hn27]; omega)) ?_
  rintro _ _ ⟨rfl, rfl⟩
  simp only [WD_conv, conv_int, WD_move, WD_nil, DPureK_some, joinF_nil, joinAll_nil, setH_self, Nat.testBit, List.all_nil, List.filter_nil, geT_put, evO_tmp, keep_nil, keep_cons, keepK_eq, Nat.reduceEqDiff, Nat.reduceAdd, reduceIte, eq_self, true_and, e0, e2, e6, e7, wrap_i64 (n := ((getF 0 (subB b 25 27) : Nat) : Int)) (by omega) (by omega)]
  clear e0 e2 e6 e7 e79
  intro fr e0 e2 e6 e7 e8 e9
  refine SeqK_n ?_
  generalize hRR : getF 0 (subB b 23 25) = R at hR hfst0 e8
  generalize hGG : getF 0 (subB b 25 27) = G at hG hfst0 e9
  refine W_assoc ?_
  refine W_seq (W_opsB [0, 2, 6, 7, 8, 9, 106] (fun fr1 s3 => s2 = s3 ∧ geT fr1 0 = v ∧ geT fr1 2 = .pointer (some ⟨s.nxt, 0, none⟩) ∧ geT fr1 6 = .int .i64 (N : Nat) ∧ geT fr1 7 = .int .i64 (((N - 20) / 4 : Nat)) ∧ geT fr1 8 = .int .i64 (R : Nat) ∧ geT fr1 9 = .int .i64 (G : Nat) ∧ geT fr1 106 = .bool (badG R G ((N - 20) / 4))) ?_ ?_)
  · intro R' hR'
    simp only [o28_18, WO_move, WO_call, geT_put, evO_tmp, List.map_cons, List.map_nil, Nat.reduceEqDiff, reduceIte, eq_self, e8, e9]
    refine CallK_of (run46 hX ho (r := R) (n := G)) ?_
    rintro _ _ ⟨rfl, rfl⟩
    cases hL : largeB R G with
    | true =>
      simp only [WO_nil, WO_move, WO_pick, WO_bin, WO_guard, PureK_some, geT_put, evO_tmp, evO_const, want_v, wantB_t, wantB_f, keep_nil, keep_cons, keepK_eq, Nat.reduceEqDiff, reduceIte, pick_b, bin_mul, bin_eql, bin_neq, bin_gtr, Bool.not_true, eq_self, Bool.false_eq_true, decide_eq_true_eq, e0, e2, e6, e7, e8, e9]
      intro fr e0 e2 e6 e7 e8 e9 e106
      exact hR' _ _ ⟨rfl, e0, e2, e6, e7, e8, e9, by rw [e106]; simp [badG, hL]⟩
    | false =>
      have hRG : R ≤ 256 ∧ G ≤ 16384 ∧ R * G ≤ 262144 := by
        simp only [largeB, Bool.or_eq_false_iff, decide_eq_false_iff_not] at hL
        omega
      have hw := wrap_i64 (n := ((R * G : Nat) : Int)) (by omega) (by omega)
      have hdec : decide (((R * G : Nat) : Int) = (((N - 20) / 4 : Nat) : Int)) = decide (R * G = (N - 20) / 4) := decide_eq_decide.2 (by omega)
      by_cases hR0 : R = 0
      · have hR0' : (R : Int) = 0 := by omega
        by_cases hG0 : 0 < G
        · have hG0' : (0 : Int) < (G : Int) := by omega
          simp only [WO_nil, WO_move, WO_pick, WO_bin, WO_guard, PureK_some, geT_put, evO_tmp, evO_const, want_v, wantB_t, wantB_f, keep_nil, keep_cons, keepK_eq, Nat.reduceEqDiff, reduceIte, pick_b, bin_mul, bin_eql, bin_neq, bin_gtr, Bool.not_true, Bool.not_false, decide_true, eq_self, Bool.false_eq_true, e0, e2, e6, e7, e8, e9, hR0', hG0']
          intro fr e0 e2 e6 e7 e8 e9 e106
          exact hR' _ _ ⟨rfl, e0, e2, e6, e7, by rw [e8, hR0]; rfl, e9, by rw [e106]; simp [badG, hR0, hG0]⟩
        · have hG0' : ¬ (0 : Int) < (G : Int) := by omega
          simp only [WO_nil, WO_move, WO_pick, WO_bin, WO_guard, PureK_some, geT_put, evO_tmp, evO_const, want_v, wantB_t, wantB_f, keep_nil, keep_cons, keepK_eq, Nat.reduceEqDiff, reduceIte, pick_b, bin_mul, bin_eql, bin_neq, bin_gtr, Bool.not_false, decide_false, eq_self, Bool.false_eq_true, e0, e2, e6, e7, e8, e9, decide_eq_true hR0', hG0', ← Int.natCast_mul, hw, hdec]
          intro fr e0 e2 e6 e7 e8 e9 e106
          exact hR' _ _ ⟨rfl, e0, e2, e6, e7, e8, e9, by rw [e106]; simp [badG, hL, hG0]⟩
      · have hR0' : ¬ (R : Int) = 0 := by omega
        simp only [WO_nil, WO_move, WO_pick, WO_bin, WO_guard, PureK_some, geT_put, evO_tmp, evO_const, want_v, wantB_t, wantB_f, keep_nil, keep_cons, keepK_eq, Nat.reduceEqDiff, reduceIte, pick_b, bin_mul, bin_eql, bin_neq, bin_gtr, Bool.not_false, decide_false, eq_self, Bool.false_eq_true, e0, e2, e6, e7, e8, e9, hR0', ← Int.natCast_mul, hw, hdec]
        intro fr e0 e2 e6 e7 e8 e9 e106
        exact hR' _ _ ⟨rfl, e0, e2, e6, e7, e8, e9, by rw [e106]; simp [badG, hL, hR0]⟩
  clear e0 e2 e6 e7 e8 e9 fr
  rintro fr _ ⟨rfl, e0, e2, e6, e7, e8, e9, e106⟩
  refine SeqK_n (W_seq (W_cond e106 (fun hc7 => ?_) (fun hc7 => W_skip (SeqK_n ?_))))
  · have hf : fstF b = .bad := by rw [hfst0, if_pos hc7]
    refine W_seq (W_ops [2, 3, 4] ?_)
    simp only [o28_19, WO_load, WO_move, WO_store, WO_nil, PureK_some, MemK_some, geT_put, puT_none, evO_tmp, evO_const, keep_nil, keep_cons, keepK_eq, Nat.reduceEqDiff, reduceIte, eq_self, e2, loadn_all (n := 4) hg rfl, store_all (n := 4) (vs := [.float .f64 T, .float .f64 U, .slice none 0 0, .slice none 0 0]) hg rfl rfl rfl]
    clear e0 e2 e6 e7 e8 e9 e106
    intro fr e2 e3 e4
    refine SeqK_n ?_
    exact W_ret (RetC3 e2 (loadn_all (by rw [get_set, if_pos rfl]) rfl) e3 e4 (hbad hf _ _ (hs1.trans (.set (F := fun b => b = s.nxt) rfl) (fun _ _ h => h) (fun _ hB h => by omega)) rfl rfl))
  rw [if_neg (by rw [hc7]; simp)] at hfst0
  refine W_assoc ?_
  refine W_seq (W_ops [0, 2, 6, 7, 8, 9, 112] ?_)
  simp only [o28_20, WO_bin, WO_bu, WO_move, bin_add, bin_lss, WO_nil, PureK_some, geT_put, evO_tmp, evO_const, keep_nil, keep_cons, keepK_eq, List.map_cons, List.map_nil, Nat.reduceEqDiff, reduceIte, eq_self, e0, e2, e6, e7, e8, e9, h1.len, wrap_i64 (n := (N : Int) + 11) (by omega) (by omega)]
  clear e0 e2 e6 e7 e8 e9 e106
  intro fr e0 e2 e6 e7 e8 e9 e112
  refine SeqK_n ?_
  refine W_seq (W_if e112 (fun hc8 => ?_) (fun hc8 => W_skip (SeqK_n ?_)))
  · have hf : fstF b = .wait := by rw [hfst0, if_pos (by omega)]
    refine W_seq (W_ops [2, 3, 4] ?_)
    simp only [o28_21, WO_load, WO_move, WO_store, WO_nil, PureK_some, MemK_some, geT_put, puT_none, evO_tmp, evO_const, keep_nil, keep_cons, keepK_eq, Nat.reduceEqDiff, reduceIte, eq_self, e2, loadn_all (n := 4) hg rfl, store_all (n := 4) (vs := [.float .f64 T, .float .f64 U, .slice none 0 0, .slice none 0 0]) hg rfl rfl rfl]
    clear e0 e2 e6 e7 e8 e9 e112
    intro fr e2 e3 e4
    refine SeqK_n ?_
    exact W_ret (RetC3 e2 (loadn_all (by rw [get_set, if_pos rfl]) rfl) e3 e4 (hwait hf _ _ (hs1.trans (.set (F := fun b => b = s.nxt) rfl) (fun _ _ h => h) (fun _ hB h => by omega)) rfl rfl))
  have hnN : N + 11 ≤ b.length := by omega
  rw [if_neg (by omega)] at hfst0
  have hsl7 : slV 1 v none (some (.int .i64 ((N : Int) + 7))) none = some (subS 1 v 0 (N + 7)) := h1.sl0 (by omega) (by omega)
  have hsl8 : slV 1 v (some (.int .i64 ((N : Int) + 7))) (some (.int .i64 ((N : Int) + 11))) none = some (subS 1 v (N + 7) (N + 11)) := h1.sl (by omega) (by omega) (by omega) hnN
  have hfv := fnvF_lt (s := 2166136261) (by omega) (subB b 0 (N + 7))
  have hgt := getF_lt (subB b (N + 7) (N + 11)) 0 (by omega)
  refine W_assoc ?_
  refine W_seq (W_draw0 [0, 2, 6, 7, 8, 9, 127] rfl ?_)
  simp only [d28_22, WD_bin, WD_call, WD_move, WD_slSl, bin_add, DPureK_some, joinF_nil, setH_self, geT_put, evO_tmp, evO_const, List.map_cons, List.map_nil, Option.map_some, Option.map_none, Nat.reduceEqDiff, Nat.reduceAdd, reduceIte, eq_self, Nat.zero_add, e0, e6, hsl7, wrap_i64 (n := (N : Int) + 7) (by omega) (by omega)]
  refine DCallK_of rfl (run37 hX ho (Bs.sub h1 (Nat.zero_le (N + 7)) (by omega)) (by rw [subB_length (by omega)]; omega)) ?_
  rintro _ _ ⟨rfl, rfl⟩
  simp only [WD_bin, WD_call, WD_conv, conv_int, WD_move, WD_slSl, bin_add, DPureK_some, joinF_nil, setH_self, Nat.testBit, List.all_nil, List.filter_nil, geT_put, evO_tmp, evO_const, List.map_cons, List.map_nil, Option.map_some, Option.map_none, Nat.reduceEqDiff, Nat.reduceAdd, reduceIte, eq_self, true_and, e0, e6, hsl8, wrap_i64 (n := (N : Int) + 7) (by omega) (by omega), wrap_i64 (n := (N : Int) + 11) (by omega) (by omega), wrap_u64 (n := ((fnvF 2166136261 (subB b 0 (N + 7)) : Nat) : Int)) (by omega) (by omega)]
  refine DCallK_of rfl (run49 hX ho (Bs.sub h1 (by omega : N + 7 ≤ N + 11) hnN) (by rw [subB_length hnN]; omega)) ?_
  rintro _ _ ⟨rfl, rfl⟩
  simp only [WD_bin, bin_neq, WD_nil, DPureK_some, joinF_nil, joinAll_nil, setH_self, Nat.testBit, List.all_nil, List.filter_nil, geT_put, evO_tmp, keep_nil, keep_cons, keepK_eq, Nat.reduceEqDiff, Nat.reduceAdd, reduceIte, eq_self, true_and, e0, e2, e6, e7, e8, e9]
  clear e0 e2 e6 e7 e8 e9 e112
  intro fr e0 e2 e6 e7 e8 e9 e127
  refine SeqK_n ?_
  refine W_seq (W_ifn e127 (fun hc9 => ?_) (fun hc9 => W_skip (SeqK_n ?_)))
  · have hf : fstF b = .bad := by rw [hfst0, if_pos (by omega)]
    refine W_seq (W_ops [2, 3, 4] ?_)
    simp only [o28_23, WO_load, WO_move, WO_store, WO_nil, PureK_some, MemK_some, geT_put, puT_none, evO_tmp, evO_const, keep_nil, keep_cons, keepK_eq, Nat.reduceEqDiff, reduceIte, eq_self, e2, loadn_all (n := 4) hg rfl, store_all (n := 4) (vs := [.float .f64 T, .float .f64 U, .slice none 0 0, .slice none 0 0]) hg rfl rfl rfl]
    clear e0 e2 e6 e7 e8 e9 e127
    intro fr e2 e3 e4
    refine SeqK_n ?_
    exact W_ret (RetC3 e2 (loadn_all (by rw [get_set, if_pos rfl]) rfl) e3 e4 (hbad hf _ _ (hs1.trans (.set (F := fun b => b = s.nxt) rfl) (fun _ _ h => h) (fun _ hB h => by omega)) rfl rfl))
  rw [if_neg (by omega)] at hfst0
  subst hTT hUU
  exact hgot N fr s2 ⟨hNN.symm, hfst0, e0, e2, e6, e7, by rw [hRR]; exact e8, by rw [hGG]; exact e9, hg, hs1, hnx⟩
end Go.Proofs.Ytkfcejhebepdkaa

/- A new reader is fed once. -/
namespace Go.Proofs.Ytkfcejhebepdkaa
open Go Go.Vam


theorem run10 {X : Ctx} (hX : X.fns = fnsOf Try.prog) (ho : ∀ f args, f ≠ 9 → X.orc f args = none) {s : Mm} : CallP X 10 [] s (fun r s' => r = .pointer (some ⟨s.nxt, 0, none⟩) ∧ s' = newAt s (.cells [.slice none 0 0, .bool false] false)) := by
  refine CallP_of (hX ▸ ir10_eq) (ho _ _ (by decide)) (Nat.le_of_ble_eq_true rfl) ?_
  refine W_seq (W_ops [] ?_)
  simp only [o10_0, WO_move, WO_nil, frame_nil, evO_const, keep_nil, keepK_eq]
  intro fr
  refine SeqK_n ?_
  have hb : buildV [.slice none 0 0, .bool false] [] = some (.agg #[.slice none 0 0, .bool false]) := rfl
  refine W_seq (W_ops [0] ?_)
  simp only [o10_1, WO_box, WO_build, WO_move, WO_nil, PureK_some, geT_put, evO_tmp, keep_nil, keep_cons, keepK_eq, List.map_nil, Nat.reduceEqDiff, reduceIte, eq_self, hb]
  intro fr e0
  refine SeqK_n ?_
  exact W_ret (Ret1 e0 ⟨rfl, rfl⟩)

theorem run16 {X : Ctx} (hX : X.fns = fnsOf Try.prog) (ho : ∀ f args, f ≠ 9 → X.orc f args = none) {s : Mm} {R n : Nat} {v t : Value} {cs : List Value} {p : Bool} (hg : Store.get s.h R = some (.cells [v, t] p)) (hv : SlC s 1 v n cs) :
    CallP X 16 [.pointer (some ⟨R, 0, none⟩)] s (fun r s' => r = .int .i64 (n : Nat) ∧ s = s') := by
  refine CallP_of (hX ▸ ir16_eq) (ho _ _ (by decide)) (Nat.le_of_ble_eq_true rfl) ?_
  refine W_seq (W_ops [0] ?_)
  simp only [o16_0, WO_move, WO_nil, geT_put, frame_nil, frame_cons, evO_const, keep_nil, keep_cons, keepK_eq, Nat.reduceEqDiff, reduceIte, eq_self, Nat.zero_add]
  intro fr e0
  refine SeqK_n ?_
  refine W_assoc ?_
  refine W_seq (W_ops [0, 4] ?_)
  simp only [o16_1, WO_eq, ptr_some, WO_move, WO_nil, PureK_some, geT_put, evO_tmp, evO_const, keep_nil, keep_cons, keepK_eq, Nat.reduceEqDiff, reduceIte, eq_self, Bool.false_eq_true, e0]
  clear e0
  intro fr e0 e4
  refine SeqK_n ?_
  refine W_seq (W_cond e4 (fun h => by cases h) (fun _ => W_skip (SeqK_n ?_)))
  refine W_seq (W_ops [2] ?_)
  simp only [o16_3, WO_bu, WO_fieldAddr, fieldAddr_p, WO_load, WO_move, WO_nilCheck, nilCheck_p, WO_nil, PureK_some, geT_put, evO_tmp, keep_nil, keep_cons, keepK_eq, List.map_cons, List.map_nil, Nat.reduceEqDiff, reduceIte, eq_self, Nat.add_zero, List.getElem?_cons_zero, e0, load_g (o := 0) hg, hv.len]
  clear e0 e4
  intro fr e2
  refine SeqK_n ?_
  exact W_ret (Ret1 e2 ⟨rfl, rfl⟩)

/-- Told of bytes that hold no whole frame at their begin. -/
theorem run12_new {X : Ctx} (hX : X.fns = fnsOf Try.prog) (ho : ∀ f args, f ≠ 9 → X.orc f args = none) {s : Mm} {R : Nat} {v : Value} {b : List UInt8} (hg : Store.get s.h R = some (.cells [.slice none 0 0, .bool false] false)) (hR : R < s.nxt) (hb : Bs s v b) (hn : b.length ≤ 1048576)
    (hno : ∀ n, fstF b ≠ .got n) :
    CallP X 12 [.pointer (some ⟨R, 0, none⟩), v] s (fun r s' => (fstF b = .bad ∧ r = .tuple #[.slice none 0 0, .int .i64 270] ∧ Store.get s'.h R = some (.cells [.slice none 0 0, .bool true] false)) ∨
      (fstF b = .wait ∧ r = .tuple #[.slice none 0 0, .int .i64 0] ∧ ∃ v', Store.get s'.h R = some (.cells [v', .bool false] false) ∧ Bs s' v' b)) := by
  refine CallP_of (hX ▸ ir12_eq) (ho _ _ (by decide)) (Nat.le_of_ble_eq_true rfl) ?_
  refine W_seq (W_ops [0, 1] ?_)
  simp only [o12_0, WO_move, WO_nil, geT_put, frame_nil, frame_cons, evO_const, keep_nil, keep_cons, keepK_eq, Nat.reduceEqDiff, Nat.reduceAdd, reduceIte, eq_self, Nat.zero_add]
  intro fr e0 e1
  refine SeqK_n ?_
  refine W_seq (W_block ?_)
  refine W_seq (W_ops [0, 1, 10] ?_)
  simp only [o12_1, WO_eq, ptr_some, WO_move, WO_nil, PureK_some, geT_put, evO_tmp, evO_const, keep_nil, keep_cons, keepK_eq, Nat.reduceEqDiff, reduceIte, eq_self, Bool.false_eq_true, e0, e1]
  clear e0 e1
  intro fr e0 e1 e10
  refine SeqK_n ?_
  refine W_cond e10 (fun h => by cases h) (fun _ => ?_)
  refine W_seq (W_ops [0, 1, 13] ?_)
  simp only [o12_3, WO_bin, WO_bu, WO_move, bin_gtr, WO_nil, PureK_some, geT_put, evO_tmp, evO_const, keep_nil, keep_cons, keepK_eq, List.map_cons, List.map_nil, Nat.reduceEqDiff, reduceIte, eq_self, e0, e1, hb.len]
  clear e0 e1 e10
  intro fr e0 e1 e13
  refine SeqK_n ?_
  refine W_if e13 (fun h => by omega) (fun _ => ?_)
  refine W_seq (W_ops [0, 1, 17] ?_)
  simp only [o12_5, WO_fieldAddr, fieldAddr_p, WO_load, WO_move, WO_nilCheck, nilCheck_p, WO_nil, PureK_some, geT_put, evO_tmp, keep_nil, keep_cons, keepK_eq, Nat.reduceEqDiff, reduceIte, eq_self, Nat.zero_add, List.getElem?_cons_zero, List.getElem?_cons_succ, e0, e1, load_g (o := 1) hg]
  clear e0 e1 e13
  intro fr e0 e1 e17
  refine SeqK_n ?_
  refine W_cond e17 (fun h => by cases h) (fun _ => W_skip (BlkK_n (SeqK_n ?_)))
  obtain ⟨v2, s2, ha, ho2, hs2, hf2⟩ := (Own.nil : Own s 1 _ 0 []).append (bytes := 1) (SlC.src hb) (by rw [bsV_length]; omega) (bsV_one b) (by omega) (by omega) (by omega) (by omega)
  have hg2 : Store.get s2.h R = some (.cells [.slice none 0 0, .bool false] false) := by rw [hs2.get R hR (fun h => h)]; exact hg
  have hst : storeV s2 1 (.pointer (some ⟨R, 0, none⟩)) v2 = some (undefV, setBlk s2 R (.cells [v2, .bool false] false)) := store_g (o := 0) hg2 ho2.one (by simp)
  refine W_seq (W_ops [0] ?_)
  simp only [o12_7, WO_append, WO_fieldAddr, fieldAddr_p, WO_load, WO_move, WO_nilCheck, nilCheck_p, WO_store, WO_nil, PureK_some, MemK_some, geT_put, puT_none, evO_tmp, keep_nil, keep_cons, keepK_eq, Nat.reduceEqDiff, reduceIte, eq_self, Nat.add_zero, List.getElem?_cons_zero, e0, e1, load_g (o := 0) hg, ha, hst]
  clear e0 e1 e17
  intro fr e0
  refine SeqK_n ?_
  have hne : ∀ x, footV v2 x → x ≠ R := by
    intro x hx
    rcases hf2 x hx with h | h
    · exact h.elim
    · omega
  have ho3 : Own (setBlk s2 R (.cells [v2, .bool false] false)) 1 v2 (0 + b.length) ([] ++ bsV b) := ho2.same (F := fun x => x = R) (.set rfl) hne
  have hg3 : Store.get (setBlk s2 R (.cells [v2, .bool false] false)).h R = some (.cells [v2, .bool false] false) := by rw [get_set, if_pos rfl]
  have hR3 : R < (setBlk s2 R (.cells [v2, .bool false] false)).nxt := Nat.lt_of_lt_of_le hR hs2.nxt
  clear hst ha hg2 ho2 hs2
  generalize setBlk s2 R (.cells [v2, .bool false] false) = s3 at ho3 hg3 hR3 ⊢
  have hb3 : Bs s3 v2 b := Bs.of (by simpa using ho3.slc)
  refine W_seq (W_ops [0, 6] ?_)
  simp only [o12_8, WO_move, WO_nil, geT_put, evO_const, keep_nil, keep_cons, keepK_eq, Nat.reduceEqDiff, reduceIte, eq_self, e0]
  clear e0
  intro fr e0 e6
  refine SeqK_n ?_
  refine W_block (W_loop (fun m fr s => m = 0 ∧ s3 = s ∧ geT fr 0 = .pointer (some ⟨R, 0, none⟩) ∧ geT fr 6 = .slice none 0 0) 0 ⟨rfl, rfl, e0, e6⟩ ?_)
  clear e0 e6 fr
  rintro m fr _ ⟨rfl, rfl, e0, e6⟩
  refine W_block ?_
  refine W_seq (W_ops [0, 6, 7, 8, 9] ?_)
  simp only [o12_10, WO_call, WO_fieldAddr, fieldAddr_p, WO_load, WO_move, WO_nilCheck, nilCheck_p, PureK_some, geT_put, evO_tmp, List.map_cons, List.map_nil, Nat.reduceEqDiff, reduceIte, eq_self, Nat.add_zero, List.getElem?_cons_zero, e0, load_g (o := 0) hg3]
  refine CallK_of (run28 hX ho (P := fun r s' => ∃ cs : List Value, Same s3 s' (fun _ => False) ∧ cs.length = 4 ∧ cs.all oneCell = true ∧ ((fstF b = .bad ∧ r = .tuple #[.agg cs.toArray, .int .i64 0, .bool true]) ∨ (fstF b = .wait ∧ r = .tuple #[.agg cs.toArray, .int .i64 0, .bool false])))
    hb3 (by omega) (fun h s' cs a1 a2 a3 => ⟨cs, a1, a2, a3, .inl ⟨h, rfl⟩⟩) (fun h s' cs a1 a2 a3 => ⟨cs, a1, a2, a3, .inr ⟨h, rfl⟩⟩) (fun n fr s' g => absurd g.fst (hno n))) ?_
  rintro _ s4 ⟨cs, hs4, hcl, hc1, hres⟩
  have hg4 : Store.get s4.h R = some (.cells [v2, .bool false] false) := by rw [hs4.get R hR3 (fun h => h)]; exact hg3
  have hb4 : Bs s4 v2 b := SlC.same hb3 hs4 (fun _ _ h => h)
  have hga : Store.get (newAt s4 (.cells [.float .f64 0, .float .f64 0, .slice none 0 0, .slice none 0 0] false)).h s4.nxt = some (.cells [.float .f64 0, .float .f64 0, .slice none 0 0, .slice none 0 0] false) := by rw [get_new, if_pos rfl]
  have hsa := store_all hga hcl rfl hc1
  have hsame : Same s4 (setBlk (newAt s4 (.cells [.float .f64 0, .float .f64 0, .slice none 0 0, .slice none 0 0] false)) s4.nxt (.cells cs false)) (fun _ => False) :=
    (Same.new (F := fun _ => False)).trans (.set (F := fun b => b = s4.nxt) rfl) (fun _ _ h => h) (fun _ hB h => by omega)
  have hR4 : R < s4.nxt := Nat.lt_of_lt_of_le hR3 hs4.nxt
  have hg5 := hsame.get R hR4 (fun h => h)
  rw [hg4] at hg5
  have hb5 : Bs _ v2 b := SlC.same hb4 hsame (fun _ _ h => h)
  have hR5 := Nat.lt_of_lt_of_le hR4 hsame.nxt
  rcases hres with ⟨hf, rfl⟩ | ⟨hf, rfl⟩
  · simp only [WO_alloc, WO_extract, ext_30, ext_31, ext_32, WO_move, WO_store, WO_nil, PureK_some, MemK_some, geT_put, puT_none, evO_tmp, keep_nil, keep_cons, keepK_eq, Nat.reduceEqDiff, reduceIte, eq_self, e0, e6, hsa]
    clear e0 e6
    intro fr e0 e6 e7 e8 e9
    refine SeqK_n ?_
    refine W_assoc ?_
    refine W_seq (W_ops [0, 6, 7, 8, 40] ?_)
    simp only [o12_11, WO_move, WO_nil, geT_put, evO_tmp, keep_nil, keep_cons, keepK_eq, Nat.reduceEqDiff, reduceIte, eq_self, e0, e6, e7, e8, e9]
    clear e0 e6 e7 e8 e9
    intro fr e0 e6 e7 e8 e40
    refine SeqK_n ?_
    refine W_seq (W_cond e40 (fun _ => ?_) (fun h => by cases h))
    generalize setBlk (newAt s4 (.cells [.float .f64 0, .float .f64 0, .slice none 0 0, .slice none 0 0] false)) s4.nxt (.cells cs false) = s5 at hg5 hb5 hR5 ⊢
    have h1 : storeV s5 1 (.pointer (some ⟨R, 0, none⟩)) (.slice none 0 0) = some (undefV, setBlk s5 R (.cells [.slice none 0 0, .bool false] false)) := store_g (o := 0) hg5 rfl (by simp)
    have h2' : Store.get (setBlk s5 R (.cells [.slice none 0 0, .bool false] false)).h R = some (.cells [.slice none 0 0, .bool false] false) := by rw [get_set, if_pos rfl]
    have h2 : storeV (setBlk s5 R (.cells [.slice none 0 0, .bool false] false)) 1 (.pointer (some ⟨R, 1, none⟩)) (.bool true) = some (undefV, setBlk (setBlk s5 R (.cells [.slice none 0 0, .bool false] false)) R (.cells [.slice none 0 0, .bool true] false)) := store_g (o := 1) h2' rfl (by simp)
    refine W_seq (W_ops [6] ?_)
    simp only [o12_12, WO_fieldAddr, fieldAddr_p, WO_move, WO_nilCheck, nilCheck_p, WO_store, WO_nil, PureK_some, MemK_some, geT_put, puT_none, evO_tmp, evO_const, keep_nil, keep_cons, keepK_eq, Nat.reduceEqDiff, reduceIte, eq_self, Nat.zero_add, Nat.add_zero, e0, e6, h1, h2]
    clear e0 e6 e7 e8 e40
    intro fr e6
    refine SeqK_n ?_
    refine W_seq (W_ops [4, 5] ?_)
    simp only [o12_13, WO_move, WO_nil, geT_put, evO_tmp, evO_const, keep_nil, keep_cons, keepK_eq, Nat.reduceEqDiff, reduceIte, eq_self, e6]
    clear e6
    intro fr e4 e5
    refine SeqK_n ?_
    refine W_ret (SeqK_r (BlkK_r (LoopK_r (BlkK_r (Ret2 e4 e5 ?_)))))
    exact .inl ⟨hf, rfl, by rw [get_set, if_pos rfl]⟩
  · skip
    simp only [WO_alloc, WO_extract, ext_30, ext_31, ext_32, WO_move, WO_store, WO_nil, PureK_some, MemK_some, geT_put, puT_none, evO_tmp, keep_nil, keep_cons, keepK_eq, Nat.reduceEqDiff, reduceIte, eq_self, e0, e6, hsa]
    clear e0 e6
    intro fr e0 e6 e7 e8 e9
    refine SeqK_n ?_
    refine W_assoc ?_
    refine W_seq (W_ops [0, 6, 7, 8, 40] ?_)
    simp only [o12_11, WO_move, WO_nil, geT_put, evO_tmp, keep_nil, keep_cons, keepK_eq, Nat.reduceEqDiff, reduceIte, eq_self, e0, e6, e7, e8, e9]
    clear e0 e6 e7 e8 e9
    intro fr e0 e6 e7 e8 e40
    refine SeqK_n ?_
    refine W_seq (W_cond e40 (fun h => by cases h) (fun _ => W_skip (SeqK_n ?_)))
    refine W_assoc ?_
    refine W_seq (W_ops [0, 6, 7, 8, 49] ?_)
    simp only [o12_14, WO_bin, WO_move, bin_eql, WO_nil, PureK_some, geT_put, evO_tmp, evO_const, keep_nil, keep_cons, keepK_eq, Nat.reduceEqDiff, reduceIte, decide_true, eq_self, e0, e6, e7, e8]
    clear e0 e6 e7 e8 e40
    intro fr e0 e6 e7 e8 e49
    refine SeqK_n ?_
    refine W_seq (W_cond e49 (fun _ => ?_) (fun h => by simp at h))
    generalize setBlk (newAt s4 (.cells [.float .f64 0, .float .f64 0, .slice none 0 0, .slice none 0 0] false)) s4.nxt (.cells cs false) = s5 at hg5 hb5 hR5 ⊢
    obtain ⟨v6, s6, ha6, ho6, hs6, hf6⟩ := (Own.nil : Own s5 1 _ 0 []).append (bytes := 1) (SlC.src hb5) (by rw [bsV_length]; omega) (bsV_one b) (by omega) (by omega) (by omega) (by omega)
    have hg6 : Store.get s6.h R = some (.cells [v2, .bool false] false) := by rw [hs6.get R hR5 (fun h => h)]; exact hg5
    have h1 : storeV s6 1 (.pointer (some ⟨R, 0, none⟩)) v6 = some (undefV, setBlk s6 R (.cells [v6, .bool false] false)) := store_g (o := 0) hg6 ho6.one (by simp)
    refine W_seq (W_ops [6] ?_)
    simp only [o12_15, WO_append, WO_fieldAddr, fieldAddr_p, WO_load, WO_move, WO_nilCheck, nilCheck_p, WO_store, WO_nil, PureK_some, MemK_some, geT_put, puT_none, evO_tmp, evO_const, keep_nil, keep_cons, keepK_eq, Nat.reduceEqDiff, reduceIte, eq_self, Nat.add_zero, List.getElem?_cons_zero, e0, e6, load_g (o := 0) hg5, ha6, h1]
    clear e0 e6 e7 e8 e49
    intro fr e6
    refine SeqK_n ?_
    refine W_seq (W_ops [4, 5] ?_)
    simp only [o12_16, WO_move, WO_nil, geT_put, evO_tmp, evO_const, keep_nil, keep_cons, keepK_eq, Nat.reduceEqDiff, reduceIte, eq_self, e6]
    clear e6
    intro fr e4 e5
    refine SeqK_n ?_
    refine W_ret (SeqK_r (BlkK_r (LoopK_r (BlkK_r (Ret2 e4 e5 ?_)))))
    refine .inr ⟨hf, rfl, v6, by rw [get_set, if_pos rfl], Bs.of (n := 0 + b.length) ?_⟩
    have ho7 : Own (setBlk s6 R (.cells [v6, .bool false] false)) 1 v6 (0 + b.length) ([] ++ bsV b) := ho6.same (F := fun x => x = R) (.set rfl) (fun x hx e => by
      rcases hf6 x hx with h | h
      · exact h.elim
      · omega)
    simpa using ho7.slc

theorem wakes_is {X : Ctx} (hw : X.orc 9 [] = some (.bool true)) {s : Mm} : CallP X 9 [] s (fun r s' => r = .bool true ∧ s = s') := ⟨_, s, Call_orc hw, rfl, rfl⟩

end Go.Proofs.Ytkfcejhebepdkaa
