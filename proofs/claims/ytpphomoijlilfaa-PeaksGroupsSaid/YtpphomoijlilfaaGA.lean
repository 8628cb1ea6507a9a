/- What hangs together: plain. -/
import Derived.Test.YtpphomoijlilfaaIRA
import Derived.Test.YtpphomoijlilfaaWpB
import Derived.Test.YtpphomoijlilfaaWpC
import Derived.Sort.AssemblyPlain
import Derived.Test.YtpphomoijlilfaaVam25
import Derived.Laws.FloatBits
namespace Go.Hang
variable {α : Type}
inductive Reach (all : List α) (R : α → α → Prop) (x : α) : α → Prop
  | refl : Reach all R x x
  | step {y z : α} (h : Reach all R x y) (hz : z ∈ all) (hr : R y z) : Reach all R x z
theorem Reach.trans {all : List α} {R : α → α → Prop} {x y z : α} (h : Reach all R x y) (g : Reach all R y z) : Reach all R x z := by
  induction g with
  | refl => exact h
  | step _ hz hr ih => exact ih.step hz hr
theorem Reach.mem {all : List α} {R : α → α → Prop} {x y : α} (hx : x ∈ all) (h : Reach all R x y) : y ∈ all := by
  induction h with
  | refl => exact hx
  | step _ hz _ _ => exact hz
theorem Reach.symm {all : List α} {R : α → α → Prop} (hR : ∀ x ∈ all, ∀ y ∈ all, R x y → R y x) {x y : α} (hx : x ∈ all) (h : Reach all R x y) : Reach all R y x := by
  induction h with
  | refl => exact .refl
  | step h hz hr ih => exact (Reach.refl.step (h.mem hx) (hR _ (h.mem hx) _ hz hr)).trans ih
theorem Reach.mono {all all' : List α} {R : α → α → Prop} (hs : ∀ x ∈ all, x ∈ all') {x y : α} (h : Reach all R x y) : Reach all' R x y := by
  induction h with
  | refl => exact .refl
  | step _ hz hr ih => exact ih.step (hs _ hz) hr
structure Flood (all : List α) (R : α → α → Prop) (T : α → Prop) (x : α) (q : List α) (k : Nat) : Prop where
  nodup : q.Nodup
  sub : ∀ y ∈ q, y ∈ all ∧ Reach all R x y ∧ ¬ T y
  done : ∀ j y z, j < k → q[j]? = some y → z ∈ all → R y z → z ∈ q
  hx : x ∈ q
theorem Flood.start {all : List α} {R : α → α → Prop} {T : α → Prop} {x : α} (hx : x ∈ all) (hT : ¬ T x) : Flood all R T x [x] 0 :=
  ⟨by simp, fun y hy => by simp at hy; subst hy; exact ⟨hx, .refl, hT⟩, fun j y z hj => absurd hj (Nat.not_lt_zero j), by simp⟩
theorem Flood.more {all : List α} {R : α → α → Prop} {T : α → Prop} {x y z : α} {q : List α} {k : Nat} (h : Flood all R T x q k) (hk : q[k]? = some y) (hz : z ∈ all) (hr : R y z) (hT : ¬ T z) (hq : z ∉ q) : Flood all R T x (q ++ [z]) k := by
  refine ⟨?_, fun w hw => ?_, fun j u w hj hu hw hr2 => ?_, List.mem_append_left _ h.hx⟩
  · rw [List.nodup_append]
    exact ⟨h.nodup, by simp, fun a ha b hb => by simp at hb; subst hb; intro e; subst e; exact hq ha⟩
  · rcases List.mem_append.1 hw with hw | hw
    · exact h.sub w hw
    · simp at hw; subst hw
      exact ⟨hz, (h.sub y (List.mem_of_getElem? hk)).2.1.step hz hr, hT⟩
  · have hkl : k < q.length := (List.getElem?_eq_some_iff.1 hk).1
    rw [List.getElem?_append_left (by omega)] at hu
    exact List.mem_append_left _ (h.done j u w hj hu hw hr2)
theorem Flood.next {all : List α} {R : α → α → Prop} {T : α → Prop} {x y : α} {q : List α} {k : Nat} (h : Flood all R T x q k) (hk : q[k]? = some y) (ha : ∀ z ∈ all, R y z → z ∈ q) : Flood all R T x q (k + 1) := by
  refine ⟨h.nodup, h.sub, fun j u w hj hu hw hr => ?_, h.hx⟩
  by_cases e : j = k
  · subst e
    rw [hk] at hu; cases hu
    exact ha w hw hr
  · exact h.done j u w (by omega) hu hw hr
theorem Flood.whole {all : List α} {R : α → α → Prop} {T : α → Prop} {x : α} {q : List α} (h : Flood all R T x q q.length) (y : α) : y ∈ q ↔ y ∈ all ∧ Reach all R x y := by
  constructor
  · exact fun hy => ⟨(h.sub y hy).1, (h.sub y hy).2.1⟩
  · intro hh
    have hr := hh.2
    clear hh
    induction hr with
    | refl => exact h.hx
    | step _ hz hr ih =>
      obtain ⟨j, hj, e⟩ := List.getElem_of_mem ih
      exact h.done j _ _ hj (by rw [List.getElem?_eq_getElem hj, e]) hz hr
theorem sorted_eq {lt : α → α → Prop} (irr : ∀ x, ¬ lt x x) (tr : ∀ x y z, lt x y → lt y z → lt x z) : ∀ {a b : List α}, a.Pairwise lt → b.Pairwise lt → (∀ x, x ∈ a ↔ x ∈ b) → a = b := by
  intro a
  induction a with
  | nil =>
    intro b _ _ h
    cases b with
    | nil => rfl
    | cons y b => have := (h y).2 (by simp); simp at this
  | cons x a ih =>
    intro b ha hb h
    cases b with
    | nil => have := (h x).1 (by simp); simp at this
    | cons y b =>
      rw [List.pairwise_cons] at ha hb
      have e : x = y := by
        have h1 := (h x).1 (by simp)
        have h2 := (h y).2 (by simp)
        rcases List.mem_cons.1 h1 with h1 | h1
        · exact h1
        · rcases List.mem_cons.1 h2 with h2 | h2
          · exact h2.symm
          · exact absurd (tr _ _ _ (ha.1 y h2) (hb.1 x h1)) (irr x)
      subst e
      rw [ih ha.2 hb.2 fun z => ?_]
      constructor
      · intro hz
        rcases List.mem_cons.1 ((h z).1 (List.mem_cons_of_mem _ hz)) with e | e
        · subst e; exact absurd (ha.1 z hz) (irr z)
        · exact e
      · intro hz
        rcases List.mem_cons.1 ((h z).2 (List.mem_cons_of_mem _ hz)) with e | e
        · subst e; exact absurd (hb.1 z hz) (irr z)
        · exact e
def headLt (lt : α → α → Prop) (a b : List α) : Prop := ∃ x y, a.head? = some x ∧ b.head? = some y ∧ lt x y
structure Parts (all : List α) (R : α → α → Prop) (lt : α → α → Prop) (G : List (List α)) : Prop where
  some : ∀ g ∈ G, g ≠ []
  sort : ∀ g ∈ G, g.Pairwise lt
  whole : ∀ g ∈ G, ∀ x ∈ g, ∀ y, y ∈ g ↔ y ∈ all ∧ Reach all R x y
  every : ∀ x ∈ all, ∃ g ∈ G, x ∈ g
  order : G.Pairwise (headLt lt)
theorem Parts.same {all all' : List α} {R : α → α → Prop} {lt : α → α → Prop} {G H : List (List α)} (irr : ∀ x, ¬ lt x x) (tr : ∀ x y z, lt x y → lt y z → lt x z) (hs : ∀ x, x ∈ all ↔ x ∈ all') (hG : Parts all R lt G) (hH : Parts all' R lt H) : G = H := by
  have hr : ∀ x y, Reach all R x y ↔ Reach all' R x y := fun x y => ⟨Reach.mono fun z hz => (hs z).1 hz, Reach.mono fun z hz => (hs z).2 hz⟩
  have sub : ∀ {all all' : List α} {G H : List (List α)}, (∀ x, x ∈ all ↔ x ∈ all') → (∀ x y, Reach all R x y ↔ Reach all' R x y) → Parts all R lt G → Parts all' R lt H → ∀ g ∈ G, g ∈ H := by
    intro all all' G H hs hr hG hH g hg
    obtain ⟨x, hx⟩ : ∃ x, x ∈ g := by
      cases g with
      | nil => exact absurd rfl (hG.some _ hg)
      | cons x g => exact ⟨x, by simp⟩
    have hxa := ((hG.whole g hg x hx x).1 hx).1
    obtain ⟨h, hh, hxh⟩ := hH.every x ((hs x).1 hxa)
    have : g = h := sorted_eq irr tr (hG.sort g hg) (hH.sort h hh) fun y => by rw [hG.whole g hg x hx y, hH.whole h hh x hxh y, hs y, hr x y]
    rw [this]; exact hh
  refine sorted_eq (lt := headLt lt) ?_ ?_ hG.order hH.order fun g => ⟨sub hs hr hG hH g, sub (fun x => (hs x).symm) (fun x y => (hr x y).symm) hH hG g⟩
  · rintro a ⟨x, y, h1, h2, h3⟩
    rw [h1] at h2; cases h2
    exact irr x h3
  · rintro a b c ⟨x, y, h1, h2, h3⟩ ⟨y', z, h4, h5, h6⟩
    rw [h2] at h4; cases h4
    exact ⟨x, z, h1, h5, tr _ _ _ h3 h6⟩
end Go.Hang

/- Peaks: the cells about a cell, of any gate; what is asked of each. -/
namespace Go.Proofs.Ytpphomoijlilfaa.G
open Go Go.Vam
def iV (x : Nat) : Value := .int .i64 (x : Nat)
def cellV (c : Nat × Int) : Value := .agg #[.int .i64 (c.1 : Nat), .int .i64 c.2]
def eF (x : Nat) : List Value := [.float .f64 x]
def binsL (b B : Nat) : Nat := if b = 0 then B - 1 else b - 1
def binsR (b B : Nat) : Nat := if b = B - 1 then 0 else b + 1
def bins2 (b B : Nat) : List Nat := if binsL b B ∈ [b] then [b] else [b, binsL b B]
def bins3 (b B : Nat) : List Nat := if binsR b B ∈ bins2 b B then bins2 b B else bins2 b B ++ [binsR b B]
def binsUp (b B : Nat) : Nat → List Nat
  | 0 => [b]
  | 1 => bins2 b B
  | _ => bins3 b B
theorem binsUp_lt {b B : Nat} (h : b < B) (i : Nat) : ∀ x ∈ binsUp b B i, x < B := by
  have hl : binsL b B < B := by unfold binsL; split <;> omega
  have hr : binsR b B < B := by unfold binsR; split <;> omega
  have h2 : ∀ x ∈ bins2 b B, x < B := by
    intro x hx
    unfold bins2 at hx
    split at hx <;> simp at hx <;> rcases hx with rfl | rfl <;> assumption
  have h3 : ∀ x ∈ bins3 b B, x < B := by
    intro x hx
    unfold bins3 at hx
    split at hx
    · exact h2 x hx
    · rcases List.mem_append.1 hx with hx | hx
      · exact h2 x hx
      · simp at hx; rw [hx]; exact hr
  intro x hx
  match i with
  | 0 => simp [binsUp] at hx; omega
  | 1 => exact h2 x hx
  | n + 2 => exact h3 x hx
theorem binsUp_len {b B : Nat} (i : Nat) : 1 ≤ (binsUp b B i).length ∧ (binsUp b B i).length ≤ i + 1 ∧ (binsUp b B i).length ≤ 3 := by
  have h2 : 1 ≤ (bins2 b B).length ∧ (bins2 b B).length ≤ 2 := by unfold bins2; split <;> simp
  have h3 : 1 ≤ (bins3 b B).length ∧ (bins3 b B).length ≤ 3 := by
    unfold bins3; split
    · omega
    · simp; omega
  match i with
  | 0 => simp [binsUp]
  | 1 => simp only [binsUp]; omega
  | n + 2 => simp only [binsUp]; omega
def rowUp (b : Nat) (g : Int) (b' : Nat) (k : Nat) : List (Nat × Int) := ([-1, 0, 1].take k).filterMap fun e : Int => if b' ≠ b ∨ e ≠ 0 then some (b', wrapK .i64 (g + e)) else none
def nbrs (b : Nat) (g : Int) (B : Nat) : List (Nat × Int) := (bins3 b B).flatMap fun b' => rowUp b g b' 3
theorem rowUp_succ (b : Nat) (g : Int) (b' : Nat) {k : Nat} (hk : k < 3) : rowUp b g b' (k + 1) = rowUp b g b' k ++ (if b' ≠ b ∨ k ≠ 1 then [(b', wrapK .i64 (g + ((k : Int) - 1)))] else []) := by
  have : k = 0 ∨ k = 1 ∨ k = 2 := by omega
  rcases this with rfl | rfl | rfl
  · simp [rowUp]
  · by_cases hbb : b' = b <;> simp [rowUp, hbb]
  · by_cases hbb : b' = b <;> simp [rowUp, hbb]
theorem row_sub {b b' : Nat} {g : Int} {c : Nat × Int} {k : Nat} (hk : k ≤ 3) (h : c ∈ rowUp b g b' k) : c ∈ rowUp b g b' 3 := by
  unfold rowUp at *
  obtain ⟨e, he, hc⟩ := List.mem_filterMap.1 h
  exact List.mem_filterMap.2 ⟨e, List.mem_of_mem_take he, hc⟩
theorem run60 {X : Ctx} (hX : X.fns = fnsOf Try.prog) (ho : ∀ f args, f ≠ 15 ∧ f ≠ 38 → X.orc f args = none) {s : Mm} {v : Value} {xs : List Nat} {b : Nat} (h : SlC s 1 v xs.length (xs.map iV)) (hn : xs.length ≤ 1000) :
    CallP X 60 [v, .int .i64 (b : Nat)] s (fun r s' => ∃ z : Int, r = .int .i64 z ∧ decide (0 ≤ z) = decide (b ∈ xs) ∧ s = s') := by
  refine CallP_of (hX ▸ ir60_eq) (ho _ _ (by decide)) (Nat.le_of_ble_eq_true rfl) ?_
  refine qak (qan [0, 1] ?_)
  simp only [o60_0, qah, qaj, qad, frame_nil, qbc, qae, qab, qaa, qac, Nat.reduceEqDiff, Nat.reduceAdd, ↓reduceIte, eq_self, Nat.zero_add]
  intro fr e0 e1
  refine qai ?_
  refine qau ?_
  refine qak (qan [0, 1, 7, 8] ?_)
  simp only [o60_1, WO_bu, qah, qaj, qag, qad, qaf, qae, qab, qaa, qac, List.map_cons, List.map_nil, Nat.reduceEqDiff, ↓reduceIte, eq_self, e0, e1, h.len]
  clear e0 e1
  intro fr e0 e1 e7 e8
  refine qai ?_
  refine qak (qat (W_loop (fun m fr s1 => ∃ k, k + m = xs.length ∧ s = s1 ∧ b ∉ xs.take k ∧ geT fr 0 = v ∧ geT fr 1 = .int .i64 (b : Nat) ∧ geT fr 7 = .int .i64 (xs.length : Nat) ∧ geT fr 8 = .int .i64 (k : Nat)) xs.length ⟨0, by omega, rfl, by simp, e0, e1, e7, e8⟩ ?_))
  clear e0 e1 e7 e8 fr
  rintro m fr _ ⟨k, hk, rfl, hni, e0, e1, e7, e8⟩
  refine qak (qan [0, 1, 7, 8, 9] ?_)
  simp only [o60_3, qao, bin_lss, qaj, qag, qad, qaf, qab, qaa, qac, Nat.reduceEqDiff, ↓reduceIte, eq_self, e0, e1, e7, e8]
  clear e0 e1 e7 e8
  intro fr e0 e1 e7 e8 e9
  refine qai ?_
  refine W_while e9 (fun hlt => ?_) (fun hlt => ?_)
  · have hk1 : k < xs.length := by omega
    refine qak (qat ?_)
    refine qak (qan [0, 1, 5, 7, 8] ?_)
    simp only [o60_4, qah, qaj, qad, qaf, qab, qaa, qac, Nat.reduceEqDiff, ↓reduceIte, eq_self, e0, e1, e7, e8]
    clear e0 e1 e7 e8 e9
    intro fr e0 e1 e5 e7 e8
    refine qai ?_
    have hl : loadV s none (elP v k) = some (.int .i64 (xs[k] : Nat)) := h.load (by simp [hk1, iV])
    have hd : decide (((b : Nat) : Int) = ((xs[k] : Nat) : Int)) = decide (b = xs[k]) := decide_eq_decide.2 (by omega)
    refine qak (qan [0, 1, 5, 7, 8, 16] ?_)
    simp only [o60_5, WO_addrSl, qao, WO_load, qah, bin_eql, qaj, qag, qad, qaf, qab, qaa, qac, Nat.reduceEqDiff, ↓reduceIte, eq_self, Nat.mul_one, e0, e1, e5, e7, e8, h.addr (kk := .i64) (i := (k : Int)) rfl hk1, hl, hd]
    clear e0 e1 e5 e7 e8
    intro fr e0 e1 e5 e7 e8 e16
    refine qai ?_
    by_cases he : b = xs[k]
    · rw [decide_eq_true he] at e16
      refine W_cond e16 (fun _ => ?_) (fun h => by cases h)
      refine qak (qan [4] ?_)
      simp only [o60_6, qah, qaj, qad, qaf, qab, qaa, qac, ↓reduceIte, eq_self, e5]
      clear e0 e1 e5 e7 e8 e16
      intro fr e4
      refine qai ?_
      refine W_ret (BlkK_r (SeqK_r (LoopK_r (BlkK_r (SeqK_r (Ret1 e4 ⟨_, rfl, ?_, rfl⟩))))))
      rw [decide_eq_true (by omega), decide_eq_true (by rw [he]; exact List.getElem_mem hk1)]
    · rw [decide_eq_false he] at e16
      refine W_cond e16 (fun h => by cases h) (fun _ => W_skip (BlkK_n (qai ?_)))
      refine qan [0, 1, 7, 8] ?_
      simp only [o60_7, qao, qah, qax, qaj, qag, qad, qaf, qae, qab, qaa, qac, Nat.reduceEqDiff, ↓reduceIte, eq_self, e0, e1, e7, e8, qal (n := (k : Int) + 1) (by omega) (by omega)]
      clear e0 e1 e5 e7 e8 e16
      intro fr e0 e1 e7 e8
      refine LoopK_n (m' := m - 1) (by omega) ⟨k + 1, by omega, rfl, ?_, e0, e1, e7, by rw [e8]; rfl⟩
      rw [List.take_add_one, List.getElem?_eq_getElem hk1]
      simp only [List.mem_append, Option.toList_some, List.mem_singleton, not_or]
      exact ⟨hni, he⟩
  · have : k = xs.length := by omega
    subst this
    rw [List.take_length] at hni
    refine LoopK_x (BlkK_e (qai ?_))
    refine qak (qan [4] ?_)
    simp only [o60_8, qah, qaj, qad, qae, qab, qaa, qac, ↓reduceIte, eq_self]
    clear e0 e1 e7 e8 e9
    intro fr e4
    refine qai ?_
    exact W_ret (Ret1 e4 ⟨-1, rfl, by rw [decide_eq_false (by omega), decide_eq_false hni], rfl⟩)
theorem run52 {X : Ctx} (hX : X.fns = fnsOf Try.prog) (ho : ∀ f args, f ≠ 15 ∧ f ≠ 38 → X.orc f args = none) {s : Mm} {v : Value} {xs : List Nat} {b : Nat} (h : SlC s 1 v xs.length (xs.map iV)) (hn : xs.length ≤ 1000) :
    CallP X 52 [v, .int .i64 (b : Nat)] s (fun r s' => r = .bool (decide (b ∈ xs)) ∧ s = s') := by
  refine CallP_of (hX ▸ ir52_eq) (ho _ _ (by decide)) (Nat.le_of_ble_eq_true rfl) ?_
  refine qak (qan [0, 1] ?_)
  simp only [o52_0, qah, qaj, qad, frame_nil, qbc, qae, qab, qaa, qac, Nat.reduceEqDiff, Nat.reduceAdd, ↓reduceIte, eq_self, Nat.zero_add]
  intro fr e0 e1
  refine qai ?_
  refine qak (qan [4] ?_)
  simp only [o52_1, WO_call, qah, qad, qaf, List.map_cons, List.map_nil, Nat.reduceEqDiff, ↓reduceIte, eq_self, e0, e1]
  refine CallK_of (run60 hX ho h hn) ?_
  rintro _ _ ⟨z, rfl, hz, rfl⟩
  simp only [qao, qah, bin_geq, qaj, qag, qad, qaf, qae, qab, qaa, qac, ↓reduceIte, eq_self, hz]
  clear e0 e1
  intro fr e4
  refine qai ?_
  exact W_ret (Ret1 e4 ⟨rfl, rfl⟩)
set_option maxHeartbeats 1000000 in
theorem run30 {X : Ctx} (hX : X.fns = fnsOf Try.prog) (ho : ∀ f args, f ≠ 15 ∧ f ≠ 38 → X.orc f args = none) {s0 s : Mm} {ps0 l : List HP} {Ψ : List (Nat × Int) → List HP → Prop} {gf : FuncId} {fa : Array Value} {b B : Nat} {g : Int} (hb : b < B) (hB : B ≤ 9223372036854775807)
    (h0 : Ψ [] ps0) (H : Hold s0 s (ps0 ++ l))
    (hstep : ∀ pre c s ps l, c ∈ nbrs b g B → c.1 < B → Ψ pre ps → Hold s0 s (ps ++ l) → CallP X gf ([cellV c] ++ fa.toList) s (fun _ s' => ∃ ps', Ψ (pre ++ [c]) ps' ∧ Hold s0 s' (ps' ++ l))) :
    CallP X 30 [cellV (b, g), .int .i64 (B : Nat), .func (.func gf) #[] fa] s (fun _ s' => ∃ ps' x y, Ψ (nbrs b g B) ps' ∧ Hold s0 s' (ps' ++ (x :: y :: l))) := by
  have mid : ∀ {s : Mm} {x : HP} {ps l : List HP}, Hold s0 s (x :: (ps ++ l)) → Hold s0 s (ps ++ (x :: l)) := fun h => h.perm List.perm_middle.symm
  refine CallP_of (hX ▸ ir30_eq) (ho _ _ (by decide)) (Nat.le_of_ble_eq_true rfl) ?_
  have hbx : (cellV (b, g)).cells.toList = [.int .i64 (b : Nat), .int .i64 g] := rfl
  refine qak (qan [1, 2, 3] ?_)
  simp only [o30_0, WO_box, qaj, qad, frame_nil, qbc, qaf, qab, qaa, qac, Nat.reduceEqDiff, Nat.reduceAdd, ↓reduceIte, eq_self, Nat.zero_add, hbx]
  intro fr e1 e2 e3
  refine qai ?_
  have H1 := mid (H.new [.int .i64 (b : Nat), .int .i64 g])
  obtain ⟨Bc, hBc⟩ : ∃ Bc, Bc = s.nxt := ⟨_, rfl⟩
  rw [← hBc] at H1 e3
  generalize newAt s (.cells [.int .i64 (b : Nat), .int .i64 g] false) = s1 at H1 ⊢
  have LC : ∀ {s' : Mm} {ps l : List HP}, Hold s0 s' (ps ++ l) → HP.cell Bc [.int .i64 (b : Nat), .int .i64 g] ∈ l → loadV s' none (.pointer (some ⟨Bc, 0, none⟩)) = some (.int .i64 (b : Nat)) ∧ loadV s' none (.pointer (some ⟨Bc, 1, none⟩)) = some (.int .i64 g) :=
    fun h hm => ⟨load_g (o := 0) (h.cell (List.mem_append_right _ hm)), load_g (o := 1) (h.cell (List.mem_append_right _ hm))⟩
  obtain ⟨L0, L1⟩ := LC H1 (by simp)
  refine qak (qbb [1, 2, 3, 6, 7] rfl ?_)
  simp only [d30_1, WD_bin, WD_fieldAddr, fieldAddr_p, WD_load, qba, qax, qbd, WD_nil, qam, qas, qaw, qaq, qap, qad, qaf, qae, qab, qaa, qac, Nat.reduceEqDiff, Nat.reduceAdd, ↓reduceIte, eq_self, true_and, Nat.zero_add, Nat.add_zero, e1, e2, e3, L0, qal (n := (b : Int) - 1) (by omega) (by omega), qal (n := (b : Int) + 1) (by omega) (by omega)]
  clear e1 e2 e3
  intro fr e1 e2 e3 e6 e7
  refine qai ?_
  refine qau ?_
  have hd0 : decide (((b : Nat) : Int) = 0) = decide (b = 0) := decide_eq_decide.2 (by omega)
  refine qak (qan [1, 2, 3, 6, 7, 23] ?_)
  simp only [o30_2, qao, WO_fieldAddr, fieldAddr_p, WO_load, bin_eql, qaj, qag, qad, qaf, qae, qab, qaa, qac, Nat.reduceEqDiff, ↓reduceIte, eq_self, Nat.add_zero, e1, e2, e3, e6, e7, L0, hd0]
  clear e1 e2 e3 e6 e7
  intro fr e1 e2 e3 e6 e7 e23
  refine qai ?_
  refine qak (W_cutN (fun fr1 s3 => s1 = s3 ∧ geT fr1 1 = .int .i64 (B : Nat) ∧ geT fr1 2 = .func (.func gf) #[] fa ∧ geT fr1 3 = .pointer (some ⟨Bc, 0, none⟩) ∧ geT fr1 6 = .int .i64 (binsL b B : Nat) ∧ geT fr1 7 = .int .i64 ((b : Int) + 1)) ?_ ?_)
  · intro R' hR'
    by_cases h0 : b = 0
    · rw [decide_eq_true h0] at e23
      refine W_cond e23 (fun _ => ?_) (fun h => by cases h)
      refine qan [1, 2, 3, 6, 7] ?_
      simp only [o30_3, qao, qah, qbd, qaj, qag, qad, qaf, qae, qab, qaa, qac, Nat.reduceEqDiff, ↓reduceIte, eq_self, e1, e2, e3, e7, qal (n := (B : Int) - 1) (by omega) (by omega)]
      clear e1 e2 e3 e6 e7 e23
      intro fr e1 e2 e3 e6 e7
      refine hR' _ _ ⟨rfl, e1, e2, e3, ?_, e7⟩
      rw [e6, binsL, if_pos h0]; congr 1; omega
    · rw [decide_eq_false h0] at e23
      refine W_cond e23 (fun h => by cases h) (fun _ => W_skip (hR' _ _ ⟨rfl, e1, e2, e3, ?_, e7⟩))
      rw [e6, binsL, if_neg h0]; congr 1; omega
  clear e1 e2 e3 e6 e7 e23 fr
  rintro fr _ ⟨rfl, e1, e2, e3, e6, e7⟩
  refine qai ?_
  refine qau ?_
  have hdr : decide (((b : Nat) : Int) = (B : Nat) - 1) = decide (b = B - 1) := decide_eq_decide.2 (by omega)
  refine qak (qan [2, 3, 6, 7, 30] ?_)
  simp only [o30_4, qao, WO_fieldAddr, fieldAddr_p, WO_load, qah, bin_eql, qbd, qaj, qag, qad, qaf, qae, qab, qaa, qac, Nat.reduceEqDiff, ↓reduceIte, eq_self, Nat.add_zero, e1, e2, e3, e6, e7, L0, qal (n := (B : Int) - 1) (by omega) (by omega), hdr]
  clear e1 e2 e3 e6 e7
  intro fr e2 e3 e6 e7 e30
  refine qai ?_
  refine qak (W_cutN (fun fr1 s3 => s1 = s3 ∧ geT fr1 2 = .func (.func gf) #[] fa ∧ geT fr1 3 = .pointer (some ⟨Bc, 0, none⟩) ∧ geT fr1 6 = .int .i64 (binsL b B : Nat) ∧ geT fr1 7 = .int .i64 (binsR b B : Nat)) ?_ ?_)
  · intro R' hR'
    by_cases h0 : b = B - 1
    · rw [decide_eq_true h0] at e30
      refine W_cond e30 (fun _ => ?_) (fun h => by cases h)
      refine qan [2, 3, 6, 7] ?_
      simp only [o30_5, qah, qaj, qad, qae, qab, qaa, qac, Nat.reduceEqDiff, ↓reduceIte, eq_self, e2, e3, e6]
      clear e2 e3 e6 e7 e30
      intro fr e2 e3 e6 e7
      refine hR' _ _ ⟨rfl, e2, e3, e6, ?_⟩
      rw [e7, binsR, if_pos h0]; rfl
    · rw [decide_eq_false h0] at e30
      refine W_cond e30 (fun h => by cases h) (fun _ => W_skip (hR' _ _ ⟨rfl, e2, e3, e6, ?_⟩))
      rw [e7, binsR, if_neg h0]; rfl
  clear e2 e3 e6 e7 e30 fr
  rintro fr _ ⟨rfl, e2, e3, e6, e7⟩
  refine qai ?_
  have hbu : buildV [.int .i64 0, .int .i64 0, .int .i64 0] [(0, 1, .int .i64 (b : Nat)), (1, 1, .int .i64 (-1)), (2, 1, .int .i64 (-1))] = some (.agg #[.int .i64 (b : Nat), .int .i64 (-1), .int .i64 (-1)]) := rfl
  have H2 := H1.new [.int .i64 0, .int .i64 0, .int .i64 0]
  have st := store_all (n := 3) (vs := [.int .i64 (b : Nat), .int .i64 (-1), .int .i64 (-1)]) (H2.cell (List.mem_cons_self ..)) rfl rfl rfl
  simp only [List.toArray] at st
  have H3 := mid (H2.setc (cs' := [.int .i64 (b : Nat), .int .i64 (-1), .int .i64 (-1)]))
  refine qak (qan [2, 3, 6, 7, 8] ?_)
  simp only [o30_6, WO_alloc, WO_build, WO_fieldAddr, fieldAddr_p, WO_load, WO_store, qaj, qag, MemK_some, qad, puT_none, qaf, qae, qab, qaa, qac, List.map_cons, List.map_nil, Nat.reduceEqDiff, ↓reduceIte, eq_self, Nat.add_zero, e2, e3, e6, e7, L0, hbu, st]
  clear e2 e3 e6 e7
  intro fr e2 e3 e6 e7 e8
  refine qai ?_
  clear st H2 L0 L1
  generalize setBlk (newAt s1 (.cells [.int .i64 0, .int .i64 0, .int .i64 0] false)) s1.nxt (.cells [.int .i64 (b : Nat), .int .i64 (-1), .int .i64 (-1)] false) = s2 at H3 ⊢
  obtain ⟨Bm, hBm⟩ : ∃ Bm, Bm = s1.nxt := ⟨_, rfl⟩
  rw [← hBm] at H3 e8
  refine qak (qan [2, 3, 6, 7, 8, 9] ?_)
  simp only [o30_7, qah, qaj, qad, qae, qab, qaa, qac, Nat.reduceEqDiff, ↓reduceIte, eq_self, e2, e3, e6, e7, e8]
  clear e2 e3 e6 e7 e8
  intro fr e2 e3 e6 e7 e8 e9
  refine qai ?_
  have hbu2 : buildV [.int .i64 0, .int .i64 0] [(0, 1, .int .i64 (binsL b B : Nat)), (1, 1, .int .i64 (binsR b B : Nat))] = some (.agg #[.int .i64 (binsL b B : Nat), .int .i64 (binsR b B : Nat)]) := rfl
  refine qau ?_
  refine qak (qan [2, 3, 8, 9, 36, 37] ?_)
  simp only [o30_8, WO_build, qah, qaj, qag, qad, qaf, qae, qab, qaa, qac, List.map_cons, List.map_nil, Nat.reduceEqDiff, ↓reduceIte, eq_self, e2, e3, e6, e7, e8, e9, hbu2]
  clear e2 e3 e6 e7 e8 e9
  intro fr e2 e3 e8 e9 e36 e37
  refine qai ?_
  have metOf : ∀ ml : List Nat, ml.length ≤ 3 → ∀ (s : Mm) (l ps : List HP), Hold s0 s (ps ++ (HP.cell Bm (ml.map iV ++ List.replicate (3 - ml.length) (Value.int .i64 (-1))) :: l)) → SlC s 1 (.slice (some ⟨Bm, 0, none⟩) ml.length 3) ml.length (ml.map iV) := fun ml hm s l ps h => by
    obtain ⟨K, ⟨a, c, _⟩, _⟩ := h.mem (P := HP.cell Bm (ml.map iV ++ List.replicate (3 - ml.length) (Value.int .i64 (-1)))) (by simp)
    exact .mk (blk_cells a) c (by simp) (by simp) (.inl ⟨hm, by decide⟩)
  have slA : ∀ n : Nat, n ≤ 3 → slArrV 3 1 (.pointer (some ⟨Bm, 0, none⟩)) none (some (.int .i64 (n : Nat))) none = some (.slice (some ⟨Bm, 0, none⟩) n 3) := fun n hn => by
    simp only [slArrV, bounds_0 (rfl : ((n : Nat) : Int) = (n : Nat)) hn]
    simp [add_none']
  refine qak (qat (W_loop (fun m fr s3 => ∃ i, i + m = 2 ∧ geT fr 2 = .func (.func gf) #[] fa ∧ geT fr 3 = .pointer (some ⟨Bc, 0, none⟩) ∧ geT fr 8 = .pointer (some ⟨Bm, 0, none⟩) ∧ geT fr 9 = .int .i64 ((binsUp b B i).length : Nat) ∧ geT fr 36 = .agg #[.int .i64 (binsL b B : Nat), .int .i64 (binsR b B : Nat)] ∧ geT fr 37 = .int .i64 (i : Nat) ∧
    Hold s0 s3 (ps0 ++ (HP.cell Bm ((binsUp b B i).map iV ++ List.replicate (3 - (binsUp b B i).length) (Value.int .i64 (-1))) :: HP.cell Bc [.int .i64 (b : Nat), .int .i64 g] :: l))) 2 ⟨0, by omega, e2, e3, e8, e9, e36, e37, H3⟩ ?_))
  clear e2 e3 e8 e9 e36 e37 fr H3 s2
  rintro m fr s3 ⟨i, hi, e2, e3, e8, e9, e36, e37, H3⟩
  refine qak (qan [2, 3, 8, 9, 36, 37, 38] ?_)
  simp only [o30_10, qao, bin_lss, qaj, qag, qad, qaf, qae, qab, qaa, qac, Nat.reduceEqDiff, ↓reduceIte, eq_self, e2, e3, e8, e9, e36, e37]
  clear e2 e3 e8 e9 e36 e37
  intro fr e2 e3 e8 e9 e36 e37 e38
  refine qai ?_
  refine W_while e38 (fun hlt => ?_) (fun hlt => ?_)
  · have hi2 : i < 2 := by omega
    have hlen := binsUp_len (b := b) (B := B) i
    obtain ⟨x, hx⟩ : ∃ x : Nat, x = if i = 0 then binsL b B else binsR b B := ⟨_, rfl⟩
    have hidx : idxArrV 2 1 false (.agg #[.int .i64 (binsL b B : Nat), .int .i64 (binsR b B : Nat)]) (.int .i64 (i : Nat)) = some (.int .i64 (x : Nat)) := by
      rw [hx]
      match i, hi2 with
      | 0, _ => rfl
      | 1, _ => rfl
    have hnext : binsUp b B (i + 1) = if x ∈ binsUp b B i then binsUp b B i else binsUp b B i ++ [x] := by
      rw [hx]
      match i, hi2 with
      | 0, _ => simp only [binsUp, bins2, if_true]; split <;> rfl
      | 1, _ => simp only [binsUp, bins3]; rfl
    refine qak (qat ?_)
    refine qak (qan [2, 3, 8, 9, 11, 36, 37] ?_)
    simp only [o30_11, WO_idxArr, qah, qaj, qag, qad, qaf, qab, qaa, qac, Nat.reduceEqDiff, ↓reduceIte, eq_self, e2, e3, e8, e9, e36, e37, hidx]
    clear e2 e3 e8 e9 e36 e37 e38
    intro fr e2 e3 e8 e9 e11 e36 e37
    refine qai ?_
    refine qak (qan [2, 3, 8, 9, 11, 36, 37, 44] ?_)
    simp only [o30_12, WO_call, qah, WO_slArr, qag, qad, qaf, List.map_cons, List.map_nil, Option.map_some, Option.map_none, Nat.reduceEqDiff, ↓reduceIte, eq_self, e8, e9, e11, slA _ hlen.2.2]
    refine CallK_of (run52 hX ho (metOf _ hlen.2.2 _ _ _ H3) (by omega)) ?_
    rintro _ _ ⟨rfl, rfl⟩
    simp only [WO_un, un_not, qaj, qag, qad, qaf, qab, qaa, qac, Nat.reduceEqDiff, ↓reduceIte, eq_self, e2, e3, e8, e9, e11, e36, e37]
    clear e2 e3 e8 e9 e11 e36 e37
    intro fr e2 e3 e8 e9 e11 e36 e37 e44
    refine qai ?_
    by_cases hin : x ∈ binsUp b B i
    · rw [if_pos hin] at hnext
      rw [decide_eq_true hin] at e44
      refine W_cond e44 (fun h => by cases h) (fun _ => W_skip (BlkK_n (qai ?_)))
      refine qan [2, 3, 8, 9, 36, 37] ?_
      simp only [o30_15, qao, qah, qax, qaj, qag, qad, qaf, qae, qab, qaa, qac, Nat.reduceEqDiff, ↓reduceIte, eq_self, e2, e3, e8, e9, e36, e37, qal (n := (i : Int) + 1) (by omega) (by omega)]
      clear e2 e3 e8 e9 e11 e36 e37 e44
      intro fr e2 e3 e8 e9 e36 e37
      exact LoopK_n (m' := m - 1) (by omega) ⟨i + 1, by omega, e2, e3, e8, by rw [e9, hnext], e36, by rw [e37]; rfl, by rw [hnext]; exact H3⟩
    · rw [if_neg hin] at hnext
      rw [decide_eq_false hin] at e44
      refine W_cond e44 (fun _ => ?_) (fun h => by cases h)
      have hl3 : (binsUp b B i).length < 3 := by omega
      have hadr : addrArrV 3 1 (.pointer (some ⟨Bm, 0, none⟩)) (.int .i64 ((binsUp b B i).length : Nat)) = some (.pointer (some ⟨Bm, (binsUp b B i).length, none⟩)) := by
        have : (0 : Int) ≤ ((binsUp b B i).length : Int) ∧ ((binsUp b B i).length : Int) < ((3 : Nat) : Int) := ⟨by omega, by omega⟩
        simp only [addrArrV, idxV, if_pos this, add_none', Nat.mul_one, Nat.zero_add, Int.toNat_natCast]
      have hcell : HP.cell Bm ((binsUp b B i).map iV ++ List.replicate (3 - (binsUp b B i).length) (Value.int .i64 (-1))) ∈ (ps0 ++ (HP.cell Bm ((binsUp b B i).map iV ++ List.replicate (3 - (binsUp b B i).length) (Value.int .i64 (-1))) :: HP.cell Bc [.int .i64 (b : Nat), .int .i64 g] :: l)) := by simp
      have st := store_g (o := (binsUp b B i).length) (x := iV x) (H3.cell hcell) rfl (by simp; omega)
      have hset : ((binsUp b B i).map iV ++ List.replicate (3 - (binsUp b B i).length) (Value.int .i64 (-1))).set (binsUp b B i).length (iV x) = (binsUp b B (i + 1)).map iV ++ List.replicate (3 - (binsUp b B (i + 1)).length) (.int .i64 (-1)) := by
        rw [hnext, List.set_append_right _ _ (by simp), List.length_map, Nat.sub_self]
        obtain ⟨r, hr⟩ : ∃ r, 3 - (binsUp b B i).length = r + 1 := ⟨3 - (binsUp b B i).length - 1, by omega⟩
        rw [hr, List.replicate_succ, List.set_cons_zero, List.map_append, List.append_assoc, List.length_append]
        have : 3 - ((binsUp b B i).length + [x].length) = r := by simp; omega
        rw [this]; rfl
      rw [hset] at st
      have H4 := (H3.perm List.perm_middle).setc (cs' := (binsUp b B (i + 1)).map iV ++ List.replicate (3 - (binsUp b B (i + 1)).length) (Value.int .i64 (-1)))
      have H5 := mid H4
      simp only [iV] at st
      refine qak (qan [2, 3, 8, 9, 36, 37] ?_)
      simp only [o30_13, WO_addrArr, qah, WO_store, qaj, qag, MemK_some, qad, puT_none, qaf, qab, qaa, qac, Nat.reduceEqDiff, ↓reduceIte, eq_self, e2, e3, e8, e9, e11, e36, e37, hadr, st]
      clear e2 e3 e8 e9 e11 e36 e37 e44
      intro fr e2 e3 e8 e9 e36 e37
      refine qai ?_
      refine qan [2, 3, 8, 9, 36, 37] ?_
      simp only [o30_14, qao, qah, qax, qaj, qag, qad, qaf, qae, qab, qaa, qac, Nat.reduceEqDiff, ↓reduceIte, eq_self, e2, e3, e8, e9, e36, e37, qal (n := ((binsUp b B i).length : Int) + 1) (by omega) (by omega)]
      clear e2 e3 e8 e9 e36 e37
      intro fr e2 e3 e8 e9 e36 e37
      refine BlkK_n (qai ?_)
      refine qan [2, 3, 8, 9, 36, 37] ?_
      simp only [o30_15, qao, qah, qax, qaj, qag, qad, qaf, qae, qab, qaa, qac, Nat.reduceEqDiff, ↓reduceIte, eq_self, e2, e3, e8, e9, e36, e37, qal (n := (i : Int) + 1) (by omega) (by omega)]
      clear e2 e3 e8 e9 e36 e37
      intro fr e2 e3 e8 e9 e36 e37
      refine LoopK_n (m' := m - 1) (by omega) ⟨i + 1, by omega, e2, e3, e8, ?_, e36, by rw [e37]; rfl, H5⟩
      rw [e9, hnext]; simp
  · have hi2 : i = 2 := by omega
    subst hi2
    have e9' : geT fr 9 = .int .i64 ((bins3 b B).length : Nat) := e9
    have H4 : Hold s0 s3 (ps0 ++ (HP.cell Bm ((bins3 b B).map iV ++ List.replicate (3 - (bins3 b B).length) (Value.int .i64 (-1))) :: HP.cell Bc [.int .i64 (b : Nat), .int .i64 g] :: l)) := H3
    have hlen : (bins3 b B).length ≤ 3 := (binsUp_len (b := b) (B := B) 2).2.2
    have hlt3 : ∀ x ∈ bins3 b B, x < B := binsUp_lt hb 2
    clear H3 e9
    have e9 := e9'
    clear e9'
    refine LoopK_x (BlkK_e (qai ?_))
    refine qak (qan [2, 3, 52, 53, 54] ?_)
    simp only [o30_16, WO_bu, bu_len, qah, WO_slArr, qaj, qag, qad, qaf, qae, qab, qaa, qac, List.map_cons, List.map_nil, Option.map_some, Option.map_none, Nat.reduceEqDiff, ↓reduceIte, eq_self, e2, e3, e8, e9, slA _ hlen]
    clear e2 e3 e8 e9 e36 e37 e38
    intro fr e2 e3 e52 e53 e54
    refine qai ?_
    refine qat (W_loop (fun m fr s4 => ∃ j, j + m = (bins3 b B).length ∧ geT fr 2 = .func (.func gf) #[] fa ∧ geT fr 3 = .pointer (some ⟨Bc, 0, none⟩) ∧ geT fr 52 = .slice (some ⟨Bm, 0, none⟩) (bins3 b B).length 3 ∧ geT fr 53 = .int .i64 ((bins3 b B).length : Nat) ∧ geT fr 54 = .int .i64 (j : Nat) ∧
      ∃ ps, Ψ (((bins3 b B).take j).flatMap fun b' => rowUp b g b' 3) ps ∧ Hold s0 s4 (ps ++ (HP.cell Bm ((bins3 b B).map iV ++ List.replicate (3 - (bins3 b B).length) (Value.int .i64 (-1))) :: HP.cell Bc [.int .i64 (b : Nat), .int .i64 g] :: l))) (bins3 b B).length ⟨0, by omega, e2, e3, e52, e53, e54, ps0, by simpa using h0, H4⟩ ?_)
    clear e2 e3 e52 e53 e54 fr H4 s3
    rintro m fr s4 ⟨j, hj, e2, e3, e52, e53, e54, ps, hps, H4⟩
    refine qak (qan [2, 3, 52, 53, 54, 55] ?_)
    simp only [o30_18, qao, bin_lss, qaj, qag, qad, qaf, qab, qaa, qac, Nat.reduceEqDiff, ↓reduceIte, eq_self, e2, e3, e52, e53, e54]
    clear e2 e3 e52 e53 e54
    intro fr e2 e3 e52 e53 e54 e55
    refine qai ?_
    refine W_while e55 (fun hlt => ?_) (fun hlt => ?_)
    · have hj1 : j < (bins3 b B).length := by omega
      have hbj : (bins3 b B)[j] < B := hlt3 _ (List.getElem_mem hj1)
      have sm := metOf _ hlen _ _ _ H4
      have hl : loadV s4 none (elP (.slice (some ⟨Bm, 0, none⟩) (bins3 b B).length 3) j) = some (.int .i64 ((bins3 b B)[j] : Nat)) := sm.load (by simp [hj1, iV])
      refine qak (qat ?_)
      refine qak (qan [2, 3, 13, 52, 53, 54] ?_)
      simp only [o30_19, WO_addrSl, WO_load, qah, qaj, qag, qad, qaf, qab, qaa, qac, Nat.reduceEqDiff, ↓reduceIte, eq_self, Nat.mul_one, e2, e3, e52, e53, e54, sm.addr (kk := .i64) (i := (j : Int)) rfl hj1, hl]
      clear e2 e3 e52 e53 e54 e55
      intro fr e2 e3 e13 e52 e53 e54
      refine qai ?_
      have hbm : (bins3 b B)[j] ∈ bins3 b B := List.getElem_mem hj1
      generalize hbd : (bins3 b B)[j] = b' at hbj hbm e13
      refine qak (qan [2, 3, 13, 14, 52, 53, 54] ?_)
      simp only [o30_20, qah, qaj, qad, qae, qab, qaa, qac, Nat.reduceEqDiff, ↓reduceIte, eq_self, e2, e3, e13, e52, e53, e54]
      clear e2 e3 e13 e52 e53 e54
      intro fr e2 e3 e13 e14 e52 e53 e54
      refine qai ?_
      refine qat (W_loop (fun m2 fr s5 => ∃ k, k + m2 = 3 ∧ geT fr 2 = .func (.func gf) #[] fa ∧ geT fr 3 = .pointer (some ⟨Bc, 0, none⟩) ∧ geT fr 13 = .int .i64 (b' : Nat) ∧ geT fr 14 = .int .i64 ((k : Int) - 1) ∧ geT fr 52 = .slice (some ⟨Bm, 0, none⟩) (bins3 b B).length 3 ∧ geT fr 53 = .int .i64 ((bins3 b B).length : Nat) ∧ geT fr 54 = .int .i64 (j : Nat) ∧
        ∃ ps, Ψ ((((bins3 b B).take j).flatMap fun b' => rowUp b g b' 3) ++ rowUp b g b' k) ps ∧ Hold s0 s5 (ps ++ (HP.cell Bm ((bins3 b B).map iV ++ List.replicate (3 - (bins3 b B).length) (Value.int .i64 (-1))) :: HP.cell Bc [.int .i64 (b : Nat), .int .i64 g] :: l))) 3 ⟨0, by omega, e2, e3, e13, e14, e52, e53, e54, ps, by simpa [rowUp] using hps, H4⟩ ?_)
      clear e2 e3 e13 e14 e52 e53 e54 fr H4 hps sm hl s4 ps
      rintro m2 fr s5 ⟨k, hk, e2, e3, e13, e14, e52, e53, e54, ps, hps, H4⟩
      obtain ⟨L0, L1⟩ := LC H4 (by simp)
      refine qau ?_
      refine qak (qan [2, 3, 13, 14, 52, 53, 54, 59] ?_)
      simp only [o30_22, qao, qah, bin_leq, qaj, qag, qad, qaf, qae, qab, qaa, qac, Nat.reduceEqDiff, ↓reduceIte, eq_self, e2, e3, e13, e14, e52, e53, e54]
      clear e2 e3 e13 e14 e52 e53 e54
      intro fr e2 e3 e13 e14 e52 e53 e54 e59
      refine qai ?_
      refine W_while e59 (fun hlt2 => ?_) (fun hlt2 => ?_)
      · have hk3 : k < 3 := by omega
        have hrow := rowUp_succ b g b' hk3
        refine qak (qat ?_)
        have hd1 : decide (((b' : Nat) : Int) = (b : Nat)) = decide (b' = b) := decide_eq_decide.2 (by omega)
        have hd2 : decide ((k : Int) - 1 = 0) = decide (k = 1) := decide_eq_decide.2 (by omega)
        refine qak (W_opsB [2, 3, 13, 14, 52, 53, 54, 69] (fun fr1 s6 => s5 = s6 ∧ geT fr1 2 = .func (.func gf) #[] fa ∧ geT fr1 3 = .pointer (some ⟨Bc, 0, none⟩) ∧ geT fr1 13 = .int .i64 (b' : Nat) ∧ geT fr1 14 = .int .i64 ((k : Int) - 1) ∧ geT fr1 52 = .slice (some ⟨Bm, 0, none⟩) (bins3 b B).length 3 ∧ geT fr1 53 = .int .i64 ((bins3 b B).length : Nat) ∧ geT fr1 54 = .int .i64 (j : Nat) ∧ geT fr1 69 = .bool (decide (b' ≠ b ∨ k ≠ 1))) ?_ ?_)
        · intro R' hR'
          by_cases hbb : b' = b
          · by_cases hk1 : k = 1
            · simp only [o30_23, qaj, qah, WO_pick, qao, WO_fieldAddr, WO_load, WO_guard, qag, qad, qaf, qae, want_v, wantB_f, qab, qaa, qac, Nat.reduceEqDiff, ↓reduceIte, pick_b, fieldAddr_p, bin_neq, Bool.not_true, Bool.not_false, eq_self, Bool.false_eq_true, Nat.add_zero, e2, e3, e13, e14, e52, e53, e54, L0, hd1, hd2, decide_eq_true hbb, decide_eq_true hk1]
              intro fr e2 e3 e13 e14 e52 e53 e54 e69
              exact hR' _ _ ⟨rfl, e2, e3, e13, e14, e52, e53, e54, by rw [e69, decide_eq_false (by simp [hbb, hk1])]⟩
            · simp only [o30_23, qaj, qah, WO_pick, qao, WO_fieldAddr, WO_load, WO_guard, qag, qad, qaf, qae, want_v, wantB_f, qab, qaa, qac, Nat.reduceEqDiff, ↓reduceIte, pick_b, fieldAddr_p, bin_neq, Bool.not_true, Bool.not_false, eq_self, Bool.false_eq_true, Nat.add_zero, e2, e3, e13, e14, e52, e53, e54, L0, hd1, hd2, decide_eq_true hbb, decide_eq_false hk1]
              intro fr e2 e3 e13 e14 e52 e53 e54 e69
              exact hR' _ _ ⟨rfl, e2, e3, e13, e14, e52, e53, e54, by rw [e69, decide_eq_true (.inr hk1)]⟩
          · simp only [o30_23, qaj, qah, WO_pick, qao, WO_fieldAddr, WO_load, WO_guard, qag, qad, qaf, qae, want_v, wantB_f, qab, qaa, qac, Nat.reduceEqDiff, ↓reduceIte, pick_b, fieldAddr_p, bin_neq, Bool.not_true, Bool.not_false, eq_self, Bool.false_eq_true, Nat.add_zero, e2, e3, e13, e14, e52, e53, e54, L0, hd1, decide_eq_false hbb]
            intro fr e2 e3 e13 e14 e52 e53 e54 e69
            exact hR' _ _ ⟨rfl, e2, e3, e13, e14, e52, e53, e54, by rw [e69, decide_eq_true (.inl hbb)]⟩
        clear e2 e3 e13 e14 e52 e53 e54 e59 fr
        rintro fr _ ⟨rfl, e2, e3, e13, e14, e52, e53, e54, e69⟩
        have w1 := qal (n := (k : Int) - 1 + 1) (by omega) (by omega)
        by_cases hdo : b' ≠ b ∨ k ≠ 1
        · rw [decide_eq_true hdo] at e69
          rw [if_pos hdo] at hrow
          refine qai (W_cond e69 (fun _ => ?_) (fun h => by cases h))
          have hbu3 : buildV [.int .i64 0, .int .i64 0] [(0, 1, .int .i64 (b' : Nat)), (1, 1, .int .i64 (wrapK .i64 (g + ((k : Int) - 1))))] = some (cellV (b', wrapK .i64 (g + ((k : Int) - 1)))) := rfl
          refine qan [2, 3, 13, 14, 52, 53, 54] ?_
          simp only [o30_24, qao, WO_build, WO_fieldAddr, fieldAddr_p, WO_load, qah, qax, qag, qad, qaf, List.map_cons, List.map_nil, Nat.reduceEqDiff, ↓reduceIte, eq_self, Nat.zero_add, e2, e3, e13, e14, L1, hbu3]
          refine WO_callT ?_
          simp only [qad, qaf, List.map_cons, List.map_nil, Nat.reduceEqDiff, ↓reduceIte, eq_self, FunK_f]
          have hin : (b', wrapK .i64 (g + ((k : Int) - 1))) ∈ nbrs b g B := List.mem_flatMap.2 ⟨b', hbm, row_sub (k := k + 1) (by omega) (by rw [hrow]; simp)⟩
          refine CallK_of (hstep _ (b', wrapK .i64 (g + ((k : Int) - 1))) s5 ps _ hin hbj hps H4) ?_
          rintro _ s6 ⟨ps', hps', H5⟩
          simp only [qaj, qad, qab, qaa, qac, Nat.reduceEqDiff, ↓reduceIte, e2, e3, e13, e14, e52, e53, e54]
          clear e2 e3 e13 e14 e52 e53 e54 e69
          intro fr e2 e3 e13 e14 e52 e53 e54
          refine BlkK_n (qai ?_)
          refine qan [2, 3, 13, 14, 52, 53, 54] ?_
          simp only [o30_25, qao, qah, qax, qaj, qag, qad, qaf, qae, qab, qaa, qac, Nat.reduceEqDiff, ↓reduceIte, eq_self, e2, e3, e13, e14, e52, e53, e54, w1]
          clear e2 e3 e13 e14 e52 e53 e54
          intro fr e2 e3 e13 e14 e52 e53 e54
          refine LoopK_n (m' := m2 - 1) (by omega) ⟨k + 1, by omega, e2, e3, e13, by rw [e14]; congr 1; omega, e52, e53, e54, ps', ?_, H5⟩
          rw [hrow, ← List.append_assoc]
          exact hps'
        · rw [decide_eq_false hdo] at e69
          rw [if_neg hdo, List.append_nil] at hrow
          refine qai (W_cond e69 (fun h => by cases h) (fun _ => W_skip (BlkK_n (qai ?_))))
          refine qan [2, 3, 13, 14, 52, 53, 54] ?_
          simp only [o30_25, qao, qah, qax, qaj, qag, qad, qaf, qae, qab, qaa, qac, Nat.reduceEqDiff, ↓reduceIte, eq_self, e2, e3, e13, e14, e52, e53, e54, w1]
          clear e2 e3 e13 e14 e52 e53 e54 e69
          intro fr e2 e3 e13 e14 e52 e53 e54
          refine LoopK_n (m' := m2 - 1) (by omega) ⟨k + 1, by omega, e2, e3, e13, by rw [e14]; congr 1; omega, e52, e53, e54, ps, ?_, H4⟩
          rw [hrow]
          exact hps
      · have hk3 : k = 3 := by omega
        subst hk3
        refine LoopK_x (BlkK_e (BlkK_n (qai ?_)))
        refine qan [2, 3, 52, 53, 54] ?_
        simp only [o30_26, qao, qah, qax, qaj, qag, qad, qaf, qae, qab, qaa, qac, Nat.reduceEqDiff, ↓reduceIte, eq_self, e2, e3, e52, e53, e54, qal (n := (j : Int) + 1) (by omega) (by omega)]
        clear e2 e3 e13 e14 e52 e53 e54 e59
        intro fr e2 e3 e52 e53 e54
        refine LoopK_n (m' := m - 1) (by omega) ⟨j + 1, by omega, e2, e3, e52, e53, by rw [e54]; rfl, ps, ?_, H4⟩
        rw [List.take_add_one, List.getElem?_eq_getElem hj1, List.flatMap_append, hbd]
        simpa using hps
    · have hjl : j = (bins3 b B).length := by omega
      rw [hjl, List.take_length] at hps
      exact LoopK_x (BlkK_e (Ret0n ⟨ps, _, _, hps, H4⟩))
end Go.Proofs.Ytpphomoijlilfaa.G

/- Spots: their cells, neighbours; each cell's first one: plain. -/
namespace Go.Proofs.Ytpphomoijlilfaa.G
open Go Go.Vam Go.Hang
abbrev Sp := Int × Int × Nat
def cellI (x : Sp) : Int × Int := (x.1, x.2.1)
def okI (B : Int) (x : Sp) : Prop := 0 ≤ x.1 ∧ x.1 < B ∧ 0 ≤ x.2.1
instance (B : Int) (x : Sp) : Decidable (okI B x) := by unfold okI; infer_instance
def wI (x : Sp) : Prop := (-9223372036854775808 ≤ x.1 ∧ x.1 ≤ 9223372036854775807) ∧ (-9223372036854775808 ≤ x.2.1 ∧ x.2.1 ≤ 9223372036854775807)
def kC (c : Nat × Int) : Int × Int := ((c.1 : Int), c.2)
def nbI (B : Int) (x : Sp) : List (Int × Int) := (nbrs x.1.toNat x.2.1 B.toNat).map kC
def adj (B : Int) (x y : Sp) : Prop := cellI y ∈ nbI B x
theorem mem_row {b b' : Nat} {g : Int} {c : Nat × Int} : c ∈ rowUp b g b' 3 ↔ ∃ e : Int, (e = -1 ∨ e = 0 ∨ e = 1) ∧ (b' ≠ b ∨ e ≠ 0) ∧ c = (b', wrapK .i64 (g + e)) := by
  simp only [rowUp, List.take, List.mem_filterMap, List.mem_cons, List.not_mem_nil, or_false]
  constructor
  · rintro ⟨e, he, h⟩
    split at h
    · rename_i hc
      cases h
      exact ⟨e, he, hc, rfl⟩
    · cases h
  · rintro ⟨e, he, hc, rfl⟩
    exact ⟨e, he, by rw [if_pos hc]⟩
theorem mem_bins3 {b B x : Nat} : x ∈ bins3 b B ↔ x = b ∨ x = binsL b B ∨ x = binsR b B := by
  have h2 : ∀ x, x ∈ bins2 b B ↔ x = b ∨ x = binsL b B := by
    intro x
    unfold bins2
    split
    · rename_i h; simp at h; rw [h]; simp
    · simp
  unfold bins3
  split
  · rename_i h
    rw [h2] at h ⊢
    constructor
    · rintro (h | h)
      · exact .inl h
      · exact .inr (.inl h)
    · rintro (h' | h' | h')
      · exact .inl h'
      · exact .inr h'
      · rw [h']; exact h
  · rw [List.mem_append, h2]
    simp [or_assoc]
theorem wrap_back {g e y : Int} (hg : 0 ≤ g ∧ g ≤ 9223372036854775807) (he : e = -1 ∨ e = 0 ∨ e = 1) (hy : 0 ≤ y ∧ y ≤ 9223372036854775807) : y = wrapK .i64 (g + e) ↔ y = g + e := by
  by_cases h : g + e ≤ 9223372036854775807
  · rw [qal (by omega) h]
  · have h1 : g + e = 9223372036854775808 := by omega
    rw [h1]
    have h2 : wrapK .i64 9223372036854775808 = -9223372036854775808 := by decide
    rw [h2]
    omega
theorem adj_iff {B : Int} {x y : Sp} (hx : okI B x) (hy : okI B y) (wx : wI x) (wy : wI y) :
    adj B x y ↔ (y.1 = x.1 ∨ y.1 = (binsL x.1.toNat B.toNat : Nat) ∨ y.1 = (binsR x.1.toNat B.toNat : Nat)) ∧ (y.2.1 = x.2.1 - 1 ∨ y.2.1 = x.2.1 ∨ y.2.1 = x.2.1 + 1) ∧ cellI y ≠ cellI x := by
  obtain ⟨x1, x2, x3⟩ := hx
  obtain ⟨y1, y2, y3⟩ := hy
  obtain ⟨_, w1⟩ := wx
  obtain ⟨_, w2⟩ := wy
  unfold adj nbI
  simp only [List.mem_map, nbrs, List.mem_flatMap, mem_row, mem_bins3]
  constructor
  · rintro ⟨c, ⟨b', hb, e, he, hne, rfl⟩, hc⟩
    simp only [kC, cellI, Prod.mk.injEq] at hc
    have hg := (wrap_back (y := y.2.1) ⟨x3, w1.2⟩ he ⟨y3, w2.2⟩).1 hc.2.symm
    refine ⟨?_, ?_, ?_⟩
    · rcases hb with hb | hb | hb
      · exact .inl (by omega)
      · exact .inr (.inl (by rw [← hb]; exact hc.1.symm))
      · exact .inr (.inr (by rw [← hb]; exact hc.1.symm))
    · rcases he with rfl | rfl | rfl
      · exact .inl (by omega)
      · exact .inr (.inl (by omega))
      · exact .inr (.inr hg)
    · intro h
      simp only [cellI, Prod.mk.injEq] at h
      rcases hne with h' | h'
      · exact h' (by omega)
      · exact h' (by omega)
  · rintro ⟨hb, hg, hne⟩
    obtain ⟨e, he, hge⟩ : ∃ e : Int, (e = -1 ∨ e = 0 ∨ e = 1) ∧ y.2.1 = x.2.1 + e := by
      rcases hg with h | h | h
      · exact ⟨-1, .inl rfl, by omega⟩
      · exact ⟨0, .inr (.inl rfl), by omega⟩
      · exact ⟨1, .inr (.inr rfl), h⟩
    refine ⟨(y.1.toNat, wrapK .i64 (x.2.1 + e)), ⟨y.1.toNat, ?_, e, he, ?_, rfl⟩, ?_⟩
    · rcases hb with h | h | h
      · exact .inl (by omega)
      · exact .inr (.inl (by omega))
      · exact .inr (.inr (by omega))
    · by_cases hbb : y.1.toNat = x.1.toNat
      · right
        intro h0
        refine hne ?_
        simp only [cellI, Prod.mk.injEq]
        omega
      · exact .inl hbb
    · simp only [kC, cellI, Prod.mk.injEq]
      exact ⟨by omega, ((wrap_back ⟨x3, w1.2⟩ he ⟨y3, w2.2⟩).2 hge).symm⟩
theorem adj_symm {B : Int} {x y : Sp} (hx : okI B x) (hy : okI B y) (wx : wI x) (wy : wI y) (h : adj B x y) : adj B y x := by
  rw [adj_iff hx hy wx wy] at h
  rw [adj_iff hy hx wy wx]
  obtain ⟨h1, h2, h3⟩ := h
  obtain ⟨x1, x2, x3⟩ := hx
  obtain ⟨y1, y2, y3⟩ := hy
  refine ⟨?_, by omega, fun e => h3 e.symm⟩
  unfold binsL binsR at *
  rcases h1 with h1 | h1 | h1
  · exact .inl h1.symm
  · right; right
    split at h1
    · rw [if_pos (by omega)]; omega
    · rw [if_neg (by omega)]; omega
  · right; left
    split at h1
    · rw [if_pos (by omega)]; omega
    · rw [if_neg (by omega)]; omega
def First (l : List Sp) (y : Sp) : Prop := ∃ a b, l = a ++ y :: b ∧ ∀ z ∈ a, cellI z ≠ cellI y
def ddP (B : Int) : List Sp → List Sp → List Sp
  | [], acc => acc
  | x :: l, acc => if okI B x ∧ cellI x ∉ acc.map cellI then ddP B l (acc ++ [x]) else ddP B l acc
theorem ddP_nodup {B : Int} : ∀ (l acc : List Sp), (acc.map cellI).Nodup → ((ddP B l acc).map cellI).Nodup := by
  intro l
  induction l with
  | nil => intro acc h; exact h
  | cons x l ih =>
    intro acc h
    unfold ddP
    split
    · rename_i hc
      refine ih _ ?_
      rw [List.map_append, List.nodup_append]
      exact ⟨h, by simp, fun a ha b hb => by simp at hb; subst hb; intro e; subst e; exact hc.2 ha⟩
    · exact ih _ h
theorem first_cons {x y : Sp} {l : List Sp} : First (x :: l) y ↔ x = y ∨ (cellI x ≠ cellI y ∧ First l y) := by
  constructor
  · rintro ⟨a, b, h1, h2⟩
    cases a with
    | nil => left; simpa using congrArg List.head? h1
    | cons z a =>
      simp only [List.cons_append, List.cons.injEq] at h1
      obtain ⟨rfl, h1⟩ := h1
      exact .inr ⟨h2 _ (by simp), a, b, h1, fun w hw => h2 w (by simp [hw])⟩
  · rintro (rfl | ⟨h, a, b, rfl, h2⟩)
    · exact ⟨[], l, rfl, by simp⟩
    · exact ⟨x :: a, b, rfl, fun w hw => by
        rcases List.mem_cons.1 hw with rfl | hw
        · exact h
        · exact h2 w hw⟩
theorem ddP_mem {B : Int} (y : Sp) : ∀ (l acc : List Sp), y ∈ ddP B l acc ↔ y ∈ acc ∨ (cellI y ∉ acc.map cellI ∧ First (l.filter (fun x => decide (okI B x))) y) := by
  intro l
  induction l with
  | nil =>
    intro acc
    unfold ddP
    constructor
    · exact .inl
    · rintro (h | ⟨_, a, b, h, _⟩)
      · exact h
      · simp at h
  | cons x l ih =>
    intro acc
    unfold ddP
    by_cases hk : okI B x
    · have hfp : (x :: l).filter (fun x => decide (okI B x)) = x :: l.filter (fun x => decide (okI B x)) := List.filter_cons_of_pos (decide_eq_true hk)
      rw [hfp, first_cons]
      by_cases hc : cellI x ∈ acc.map cellI
      · rw [if_neg (fun h => h.2 hc), ih]
        constructor
        · rintro (h | ⟨h1, h2⟩)
          · exact .inl h
          · exact .inr ⟨h1, .inr ⟨fun e => h1 (by rw [← e]; exact hc), h2⟩⟩
        · rintro (h | ⟨h1, h2⟩)
          · exact .inl h
          · rcases h2 with rfl | ⟨_, h2⟩
            · exact absurd hc h1
            · exact .inr ⟨h1, h2⟩
      · rw [if_pos ⟨hk, hc⟩, ih]
        simp only [List.mem_append, List.mem_singleton, List.map_append, List.map_cons, List.map_nil, not_or]
        constructor
        · rintro ((h | rfl) | ⟨⟨h1, h1'⟩, h2⟩)
          · exact .inl h
          · exact .inr ⟨hc, .inl rfl⟩
          · exact .inr ⟨h1, .inr ⟨fun e => h1' e.symm, h2⟩⟩
        · rintro (h | ⟨h1, h2⟩)
          · exact .inl (.inl h)
          · rcases h2 with rfl | ⟨h2', h2⟩
            · exact .inl (.inr rfl)
            · exact .inr ⟨⟨h1, fun e => h2' e.symm⟩, h2⟩
    · have hfp : (x :: l).filter (fun x => decide (okI B x)) = l.filter (fun x => decide (okI B x)) := List.filter_cons_of_neg (by simpa using hk)
      rw [hfp, if_neg (fun h => hk h.1), ih]
end Go.Proofs.Ytpphomoijlilfaa.G

/- Rules for maps whose keys are pairs of numbers and whose values are numbers. -/
namespace Go.Vam
open Go
variable {s s' s0 : Mm}
def lookupV (s : Mm) (kt : ATy) (zero : Value) (ok : Bool) (m k : Value) : Option Value := match m with
  | .map none => match findKey kt k [] with
    | some none => some (if ok then .tuple #[zero, .bool false] else zero)
    | _ => none
  | .map (some r) => match Store.get s.h r with
    | some (.map es _) => match findKey kt k es with
      | some (some (_, v)) => some (if ok then .tuple #[v, .bool true] else v)
      | some none => some (if ok then .tuple #[zero, .bool false] else zero)
      | none => none
    | _ => none
  | _ => none
def mapPutV (s : Mm) (kt : ATy) (m k x : Value) : Option (Value × Mm) := match m with
  | .map (some r) => match Store.get s.h r with
    | some (.map es ck) => match findKey kt k es with
      | some (some (i, _)) => match es[i]? with
        | some e0 => if sameKey k e0.1 then some (undefV, { s with h := Store.put s.h r (some (.map (es.set i (k, x, e0.2.2)) ck)) }) else none
        | none => none
      | some none => some (undefV, { s with h := Store.put s.h r (some (.map (es ++ [(k, x, ck)]) (ck + 1))) })
      | none => none
    | _ => none
  | _ => none
def mapDelV (s : Mm) (kt : ATy) (m k : Value) : Option (Value × Mm) := match m with
  | .map none => match findKey kt k [] with
    | some none => some (undefV, s)
    | _ => none
  | .map (some r) => match Store.get s.h r with
    | some (.map es ck) => match findKey kt k es with
      | some (some (i, _)) => some (undefV, { s with h := Store.put s.h r (some (.map (es.eraseIdx i) ck)) })
      | some none => some (undefV, s)
      | none => none
    | _ => none
  | _ => none
section
variable {X : Ctx} {d : Option Tmp} {l : List AOper} {fr : Fr} {Q : Fr → Mm → Prop}
theorem WO_lookup {kt : ATy} {z : Value} {ok : Bool} {m k : Operand} : WO X (⟨.lookup kt z ok m k, d, none⟩ :: l) fr s Q = PureK X (lookupV s kt z ok (evO fr m) (evO fr k)) d l fr s Q := WO_read rfl
theorem WO_mapPut {kt : ATy} {m k x : Operand} : WO X (⟨.mapPut kt m k x, d, none⟩ :: l) fr s Q = MemK X (mapPutV s kt (evO fr m) (evO fr k) (evO fr x)) d l fr Q := WO_step rfl
theorem WO_mapDel {kt : ATy} {m k : Operand} : WO X (⟨.mapDel kt m k, d, none⟩ :: l) fr s Q = MemK X (mapDelV s kt (evO fr m) (evO fr k)) d l fr Q := WO_step rfl
theorem WO_makeMap : WO X (⟨.makeMap, d, none⟩ :: l) fr s Q = WO X l (puT fr d (.map (some s.nxt))) (newAt s (.map [] 0)) Q := by rw [WO_new rfl]; exact NewK_some
end
section
variable {X : Ctx} {d : Option Tmp} {l : List DOper} {fr : Fr} {Q : Fr → Mm → Prop} {i pre nid : Nat} {hist : List Mm} {acts : List Nat} {flt : List (Nat × Nat × ABlk)} {ws : List (Nat × (Mm → Bool))}
theorem pastOk_lookup {kt : ATy} {z : Value} {ok : Bool} {m k : Operand} {v : Value} {pre : Nat} : ∀ {acts : List Nat} {hist : List Mm}, pastOk fr (.lookup kt z ok m k) v pre acts hist = pastR (fun s => lookupV s kt z ok (evO fr m) (evO fr k)) v pre acts hist := by
  intro acts
  induction acts with
  | nil => intro hist; rfl
  | cons a al ih =>
    intro hist
    cases hist with
    | nil => rfl
    | cons s ss => simp only [pastOk, pastR, ih]; rfl
theorem WD_lookup {kt : ATy} {z : Value} {ok : Bool} {m k : Operand} : WD X (⟨⟨.lookup kt z ok m k, d, none⟩, pre⟩ :: l) i fr s hist acts flt nid ws Q = DReadK X (fun s => lookupV s kt z ok (evO fr m) (evO fr k)) (lookupV s kt z ok (evO fr m) (evO fr k)) d pre l i fr s hist acts flt nid ws Q := by
  have : WD X (⟨⟨.lookup kt z ok m k, d, none⟩, pre⟩ :: l) i fr s hist acts flt nid ws Q = ∃ v, lookupV s kt z ok (evO fr m) (evO fr k) = some v ∧ pastOk fr (.lookup kt z ok m k) v pre acts hist = true ∧ WD X l (i + 1) (puT fr d v) s hist acts flt nid ((i, fun s' => stillV s' ⟨i, fr, .lookup kt z ok m k, v⟩) :: ws) Q := rfl
  rw [this]
  unfold DReadK
  simp only [pastOk_lookup]
  rfl
theorem WD_mapDel {kt : ATy} {m k : Operand} : WD X (⟨⟨.mapDel kt m k, d, none⟩, pre⟩ :: l) i fr s hist acts flt nid ws Q = DActK X (mapDelV (setH s (joinF pre flt s.h).1) kt (evO fr m) (evO fr k)) d pre l i fr s hist acts flt nid ws Q := rfl
end
def pairT : ATy := .struct [(0, none, .int), (1, none, .int)]
def keyV (c : Int × Int) : Value := .agg #[.int .i64 c.1, .int .i64 c.2]
abbrev PM := List ((Int × Int) × Int × Nat)
def esOf (m : PM) : List (Value × Value × Nat) := m.map fun e => (keyV e.1, .int .i64 e.2.1, e.2.2)
theorem eq_key (a b : Int × Int) : eqV pairT (keyV a) (keyV b) = some (decide (a = b)) := by
  obtain ⟨a1, a2⟩ := a
  obtain ⟨b1, b2⟩ := b
  have h1 : ∀ x y : Int, eqV .int (.int .i64 x) (.int .i64 y) = some (x == y) := fun x y => by simp [eqV]
  show eqFs [(0, none, .int), (1, none, .int)] [.int .i64 a1, .int .i64 a2] [.int .i64 b1, .int .i64 b2] = _
  simp only [eqFs, partV, List.getElem?_cons_zero, List.getElem?_cons_succ, h1]
  by_cases e1 : a1 = b1
  · by_cases e2 : a2 = b2
    · simp [e1, e2]
    · simp [e1, e2]
  · simp [e1]
def getP (c : Int × Int) : PM → Nat → Option (Nat × Int)
  | [], _ => none
  | (k, v, _) :: m, i => if c = k then some (i, v) else getP c m (i + 1)
theorem find_es (c : Int × Int) : ∀ (m : PM) (i : Nat), findK pairT (keyV c) (esOf m) i = some ((getP c m i).map fun p => (p.1, .int .i64 p.2)) := by
  intro m
  induction m with
  | nil => intro i; rfl
  | cons e m ih =>
    obtain ⟨k, v, t⟩ := e
    intro i
    show (match eqV pairT (keyV c) (keyV k) with | some true => some (some (i, Value.int .i64 v)) | some false => findK pairT (keyV c) (esOf m) (i + 1) | none => none) = _
    rw [eq_key]
    by_cases h : c = k
    · simp [getP, h]
    · simp [getP, h, ih]
theorem findKey_es (c : Int × Int) (m : PM) : findKey pairT (keyV c) (esOf m) = some ((getP c m 0).map fun p => (p.1, .int .i64 p.2)) := by
  unfold findKey
  rw [eq_key, decide_eq_true rfl]
  exact find_es c m 0
def valP (c : Int × Int) (m : PM) : Option Int := (getP c m 0).map (·.2)
theorem getP_shift (c : Int × Int) : ∀ (m : PM) (i j : Nat), getP c m (i + j) = (getP c m i).map fun p => (p.1 + j, p.2) := by
  intro m
  induction m with
  | nil => intro i j; rfl
  | cons e m ih =>
    obtain ⟨k, v, t⟩ := e
    intro i j
    unfold getP
    split
    · rfl
    · rw [show i + j + 1 = (i + 1) + j by omega, ih]
theorem valP_cons (c k : Int × Int) (v : Int) (t : Nat) (m : PM) : valP c ((k, v, t) :: m) = if c = k then some v else valP c m := by
  unfold valP
  conv => lhs; unfold getP
  split
  · rfl
  · rw [show (0 : Nat) + 1 = 0 + 1 from rfl, getP_shift]; simp [Option.map_map, Function.comp_def]
theorem valP_app (c k : Int × Int) (v : Int) (t : Nat) : ∀ (m : PM), valP k m = none → valP c (m ++ [(k, v, t)]) = if c = k then some v else valP c m := by
  intro m
  induction m with
  | nil => intro _; exact valP_cons c k v t []
  | cons e m ih =>
    obtain ⟨k', v', t'⟩ := e
    intro h
    rw [valP_cons] at h
    split at h
    · cases h
    rename_i hk
    rw [List.cons_append, valP_cons, valP_cons, ih h]
    by_cases h1 : c = k'
    · rw [if_pos h1, if_neg (fun h2 => hk (h2.symm.trans h1)), if_pos h1]
    · rw [if_neg h1, if_neg h1]
def keysP (m : PM) : List (Int × Int) := m.map (·.1)
theorem getP_at {c : Int × Int} : ∀ {m : PM} {i n : Nat} {v : Int}, getP c m i = some (n, v) → ∃ t, i ≤ n ∧ m[n - i]? = some (c, v, t) := by
  intro m
  induction m with
  | nil => intro i n v h; cases h
  | cons e m ih =>
    obtain ⟨k, w, t⟩ := e
    intro i n v h
    unfold getP at h
    split at h
    · rename_i hk
      cases h
      exact ⟨t, Nat.le_refl _, by rw [Nat.sub_self, hk]; rfl⟩
    · obtain ⟨t', h1, h2⟩ := ih h
      exact ⟨t', by omega, by rw [show n - i = (n - (i + 1)) + 1 by omega]; exact h2⟩
theorem valP_none {c : Int × Int} : ∀ {m : PM}, valP c m = none ↔ c ∉ keysP m := by
  intro m
  induction m with
  | nil => simp [valP, getP, keysP]
  | cons e m ih =>
    obtain ⟨k, v, t⟩ := e
    rw [valP_cons]
    by_cases h : c = k
    · simp [h, keysP]
    · rw [if_neg h, ih]; simp [keysP, h]
theorem valP_set {k : Int × Int} {v : Int} : ∀ {m : PM} {n : Nat} {w : Int} {t : Nat}, (keysP m).Nodup → m[n]? = some (k, w, t) → ∀ c, valP c (m.set n (k, v, t)) = if c = k then some v else valP c m := by
  intro m
  induction m with
  | nil => intro n w t _ h; simp at h
  | cons e m ih =>
    obtain ⟨k', v', t'⟩ := e
    intro n w t hn h c
    cases n with
    | zero =>
      simp only [List.getElem?_cons_zero, Option.some.injEq, Prod.mk.injEq] at h
      obtain ⟨rfl, rfl, rfl⟩ := h
      rw [List.set_cons_zero, valP_cons, valP_cons]
      split <;> rfl
    | succ n =>
      rw [List.set_cons_succ, valP_cons, valP_cons]
      simp only [keysP, List.map_cons, List.nodup_cons] at hn
      rw [ih hn.2 h c]
      have hne : k ≠ k' := fun e => hn.1 (by rw [← e]; exact List.mem_map.2 ⟨_, List.mem_of_getElem? h, rfl⟩)
      by_cases h1 : c = k'
      · rw [if_pos h1, if_neg (fun h2 => hne (h2.symm.trans h1)), if_pos h1]
      · rw [if_neg h1, if_neg h1]
theorem valP_erase {k : Int × Int} : ∀ {m : PM} {n : Nat} {w : Int} {t : Nat}, (keysP m).Nodup → m[n]? = some (k, w, t) → ∀ c, valP c (m.eraseIdx n) = if c = k then none else valP c m := by
  intro m
  induction m with
  | nil => intro n w t _ h; simp at h
  | cons e m ih =>
    obtain ⟨k', v', t'⟩ := e
    intro n w t hn h c
    simp only [keysP, List.map_cons, List.nodup_cons] at hn
    cases n with
    | zero =>
      simp only [List.getElem?_cons_zero, Option.some.injEq, Prod.mk.injEq] at h
      obtain ⟨rfl, rfl, rfl⟩ := h
      rw [List.eraseIdx_cons_zero, valP_cons]
      by_cases h1 : c = k'
      · rw [if_pos h1]; subst h1; exact valP_none.2 hn.1
      · rw [if_neg h1, if_neg h1]
    | succ n =>
      rw [List.eraseIdx_cons_succ, valP_cons, valP_cons, ih hn.2 h c]
      have hne : k ≠ k' := fun e => hn.1 (by rw [← e]; exact List.mem_map.2 ⟨_, List.mem_of_getElem? h, rfl⟩)
      by_cases h1 : c = k'
      · rw [if_pos h1, if_neg (fun h2 => hne (h2.symm.trans h1)), if_pos h1]
      · rw [if_neg h1, if_neg h1]
theorem map_erase {α β : Type} (f : α → β) (l : List α) (n : Nat) : (l.map f).eraseIdx n = (l.eraseIdx n).map f := by
  rw [List.eraseIdx_eq_take_drop_succ, List.eraseIdx_eq_take_drop_succ, List.map_append, List.map_take, List.map_drop]
def HP.map (B : Nat) (f : Int × Int → Option Int) : HP where
  p s K := (∃ (m : PM) (ck : Nat), Store.get s.h B = some (.map (esOf m) ck) ∧ (keysP m).Nodup ∧ ∀ c, valP c m = f c) ∧ B < s.nxt ∧ K = (· = B)
  loc := by rintro s s' K F ⟨⟨m, ck, h, h2⟩, hb, rfl⟩ g hd; exact ⟨⟨m, ck, by rw [g.get _ hb (hd B rfl)]; exact h, h2⟩, Nat.lt_of_lt_of_le hb g.nxt, rfl⟩
theorem Hold.newMap {l : List HP} (h : Hold s0 s l) : Hold s0 (newAt s (.map [] 0)) (HP.map s.nxt (fun _ => none) :: l) :=
  h.add .new (K' := (· = s.nxt)) ⟨⟨[], 0, by rw [get_new, if_pos rfl]; rfl, List.nodup_nil, fun _ => rfl⟩, by rw [nxt_new]; omega, rfl⟩ (fun B hB => by rw [nxt_new]; omega)
theorem Hold.look {l : List HP} {B : Nat} {f : Int × Int → Option Int} (h : Hold s0 s l) (hm : HP.map B f ∈ l) (c : Int × Int) : lookupV s pairT (.int .i64 0) false (.map (some B)) (keyV c) = some (.int .i64 ((f c).getD 0)) := by
  obtain ⟨K, ⟨⟨m, ck, h1, h2, h3⟩, _⟩, _⟩ := h.mem hm
  unfold lookupV
  simp only [h1, findKey_es]
  have := h3 c
  unfold valP at this
  cases hg : getP c m 0 with
  | none => rw [hg] at this; rw [← this]; rfl
  | some p => rw [hg] at this; rw [← this]; rfl
theorem set_esOf (m : PM) (n : Nat) (e : (Int × Int) × Int × Nat) : (esOf m).set n (keyV e.1, .int .i64 e.2.1, e.2.2) = esOf (m.set n e) := by
  unfold esOf; rw [List.map_set]
theorem same_key (c : Int × Int) : sameKey (keyV c) (keyV c) = true := by simp [sameKey, keyV, flatKey]
theorem keys_set {m : PM} {n : Nat} {k : Int × Int} {w v : Int} {t : Nat} (h : m[n]? = some (k, w, t)) : keysP (m.set n (k, v, t)) = keysP m := by
  unfold keysP
  rw [List.map_set]
  refine List.ext_getElem? fun i => ?_
  rw [List.getElem?_set]
  by_cases hi : n = i
  · subst hi
    rw [if_pos rfl, List.getElem?_map, h]
    have : n < m.length := (List.getElem?_eq_some_iff.1 h).1
    rw [if_pos (by simpa using this)]; rfl
  · rw [if_neg hi]
theorem Hold.put {l : List HP} {B : Nat} {f : Int × Int → Option Int} (h : Hold s0 s (HP.map B f :: l)) (c : Int × Int) (v : Int) :
    ∃ s', mapPutV s pairT (.map (some B)) (keyV c) (.int .i64 v) = some (undefV, s') ∧ Hold s0 s' (HP.map B (fun k => if k = c then some v else f k) :: l) := by
  obtain ⟨K0, ⟨⟨m, ck, h1, h2, h3⟩, _⟩, _⟩ := h.mem (List.mem_cons_self ..)
  have key : ∀ (m' : PM) (ck' : Nat), (keysP m').Nodup → (∀ k, valP k m' = if k = c then some v else f k) → Hold s0 { s with h := Store.put s.h B (some (.map (esOf m') ck')) } (HP.map B (fun k => if k = c then some v else f k) :: l) := fun m' ck' g1 g2 => by
    refine h.upd ?_
    rintro K ⟨_, k2, rfl⟩ k3
    exact ⟨(· = B), ⟨⟨m', ck', by show Store.get (setBlk s B _).h B = _; rw [get_set, if_pos rfl], g1, g2⟩, k2, rfl⟩, .set rfl, fun B' hB => ⟨.inl hB, (k3 B' hB).1⟩⟩
  unfold mapPutV
  simp only [h1, findKey_es]
  cases hg : getP c m 0 with
  | none =>
    have hn : valP c m = none := by unfold valP; rw [hg]; rfl
    refine ⟨_, rfl, ?_⟩
    have e : esOf m ++ [(keyV c, .int .i64 v, ck)] = esOf (m ++ [(c, v, ck)]) := by unfold esOf; rw [List.map_append]; rfl
    rw [e]
    refine key _ _ ?_ fun k => ?_
    · unfold keysP
      rw [List.map_append, List.nodup_append]
      exact ⟨h2, by simp, fun a ha b hb => by
        simp at hb; subst hb
        intro e; subst e
        exact valP_none.1 hn ha⟩
    · rw [valP_app _ _ _ _ _ hn, h3]
  | some p =>
    obtain ⟨n, w⟩ := p
    obtain ⟨t, _, ht⟩ := getP_at hg
    rw [Nat.sub_zero] at ht
    have he : (esOf m)[n]? = some (keyV c, .int .i64 w, t) := by unfold esOf; rw [List.getElem?_map, ht]; rfl
    simp only [Option.map_some, he, same_key, if_true]
    refine ⟨_, rfl, ?_⟩
    have e : (esOf m).set n (keyV c, .int .i64 v, t) = esOf (m.set n (c, v, t)) := set_esOf m n (c, v, t)
    rw [e]
    exact key _ _ (by rw [keys_set ht]; exact h2) fun k => by rw [valP_set h2 ht k, h3]
theorem Hold.del {l : List HP} {B : Nat} {f : Int × Int → Option Int} (h : Hold s0 s (HP.map B f :: l)) (c : Int × Int) :
    ∃ s', mapDelV s pairT (.map (some B)) (keyV c) = some (undefV, s') ∧ Hold s0 s' (HP.map B (fun k => if k = c then none else f k) :: l) := by
  obtain ⟨K0, ⟨⟨m, ck, h1, h2, h3⟩, hb, _⟩, _⟩ := h.mem (List.mem_cons_self ..)
  have key : ∀ (m' : PM) (ck' : Nat) (s' : Mm), Same s s' (· = B) → s'.nxt = s.nxt → Store.get s'.h B = some (.map (esOf m') ck') → (keysP m').Nodup → (∀ k, valP k m' = if k = c then none else f k) → Hold s0 s' (HP.map B (fun k => if k = c then none else f k) :: l) := fun m' ck' s' gs gn g0 g1 g2 => by
    refine h.upd ?_
    rintro K ⟨_, k2, rfl⟩ k3
    exact ⟨(· = B), ⟨⟨m', ck', g0, g1, g2⟩, by rw [gn]; exact k2, rfl⟩, gs, fun B' hB => ⟨.inl hB, by rw [gn]; exact (k3 B' hB).1⟩⟩
  unfold mapDelV
  simp only [h1, findKey_es]
  cases hg : getP c m 0 with
  | none =>
    have hn : valP c m = none := by unfold valP; rw [hg]; rfl
    exact ⟨_, rfl, key m ck s (.refl _ _) rfl h1 h2 fun k => by
      by_cases hk : k = c
      · subst hk; rw [if_pos rfl]; exact hn
      · rw [if_neg hk, h3]⟩
  | some p =>
    obtain ⟨n, w⟩ := p
    obtain ⟨t, _, ht⟩ := getP_at hg
    rw [Nat.sub_zero] at ht
    refine ⟨_, rfl, ?_⟩
    have e : (esOf m).eraseIdx n = esOf (m.eraseIdx n) := map_erase _ m n
    rw [e]
    refine key _ ck _ (.set rfl) rfl (by show Store.get (setBlk s B _).h B = _; rw [get_set, if_pos rfl]) ?_ fun k => by rw [valP_erase h2 ht k, h3]
    unfold keysP
    rw [← map_erase]
    exact h2.sublist (List.eraseIdx_sublist ..)
end Go.Vam

/- Arrays of elements of any kind: what sorts do with them. -/
namespace Go.Vam
open Go Go.Sort
variable {α : Type} {s s' s0 : Mm}
structure El (sz : Nat) (ld : Option Nat) (eV : α → Value) (eC : α → List Value) : Prop where
  pos : 0 < sz
  len : ∀ x, (eC x).length = sz
  one : ∀ x, (eC x).all oneCell = true
  kind : (ld = none ∧ sz = 1 ∧ ∀ x, eC x = [eV x]) ∨ (ld = some sz ∧ ∀ x, eV x = .agg (eC x).toArray)
  same : ∀ x, sameO (some (eV x)) (eV x) = true
def flE (eC : α → List Value) (d : Array α) : List Value := d.toList.flatMap eC
variable {sz : Nat} {ld : Option Nat} {eV : α → Value} {eC : α → List Value}
theorem flat_len (hl : ∀ x, (eC x).length = sz) (l : List α) : (l.flatMap eC).length = l.length * sz := by
  induction l with
  | nil => simp
  | cons x l ih => simp only [List.flatMap_cons, List.length_append, hl, ih, List.length_cons, Nat.add_mul]; omega
theorem flE_len (hE : El sz ld eV eC) (d : Array α) : (flE eC d).length = d.size * sz := by
  unfold flE; rw [flat_len hE.len]; simp
theorem flat_part (hl : ∀ x, (eC x).length = sz) : ∀ (l : List α) (i : Nat) (hi : i < l.length), ((l.flatMap eC).drop (i * sz)).take sz = eC l[i] := by
  intro l
  induction l with
  | nil => intro i hi; simp at hi
  | cons x l ih =>
    intro i hi
    cases i with
    | zero =>
      rw [Nat.zero_mul, List.drop_zero, List.flatMap_cons, List.take_append_of_le_length (by rw [hl]; exact Nat.le_refl _), List.take_of_length_le (by rw [hl]; exact Nat.le_refl _)]
      rfl
    | succ i =>
      rw [List.flatMap_cons, show (i + 1) * sz = (eC x).length + i * sz by rw [hl, Nat.add_mul]; omega, List.drop_append]
      simp only [List.drop_eq_nil_of_le (show (eC x).length ≤ (eC x).length + i * sz by omega), List.nil_append, Nat.add_sub_cancel_left]
      simpa using ih i (by simpa using hi)
theorem putL_none (l : List Value) (n : Nat) : putL l n [] = l := by cases l <;> rfl
theorem putL_over : ∀ (a b r : List Value), a.length = b.length → putL (a ++ r) 0 b = b ++ r := by
  intro a
  induction a with
  | nil => intro b r h; cases b with
    | nil => exact putL_none _ _
    | cons _ _ => cases h
  | cons c a ih => intro b r h; cases b with
    | nil => cases h
    | cons v b => exact congrArg (v :: ·) (ih b r (by simpa using h))
theorem putL_skip (b r : List Value) (k : Nat) : ∀ (a : List Value), putL (a ++ r) (a.length + k) b = a ++ putL r k b := by
  intro a
  induction a with
  | nil => simp
  | cons c a ih =>
    cases b with
    | nil => rw [putL_none, putL_none]
    | cons v b =>
      rw [List.length_cons, show a.length + 1 + k = (a.length + k) + 1 by omega]
      exact congrArg (c :: ·) ih
theorem flat_set (hl : ∀ x, (eC x).length = sz) (y : α) : ∀ (l : List α) (i : Nat), i < l.length → putL (l.flatMap eC) (i * sz) (eC y) = (l.set i y).flatMap eC := by
  intro l
  induction l with
  | nil => intro i hi; simp at hi
  | cons x l ih =>
    intro i hi
    cases i with
    | zero =>
      rw [Nat.zero_mul, List.flatMap_cons, putL_over _ _ _ (by rw [hl, hl]), List.set_cons_zero, List.flatMap_cons]
    | succ i =>
      rw [List.flatMap_cons, show (i + 1) * sz = (eC x).length + i * sz by rw [hl, Nat.add_mul]; omega, putL_skip, List.set_cons_succ, List.flatMap_cons, ih i (by simpa using hi)]
theorem storen_g {B o n : Nat} {cs vs : List Value} {p : Bool} (hg : Store.get s.h B = some (.cells cs p)) (hv : vs.length = n) (hn : o + n ≤ cs.length) (h1 : vs.all oneCell = true) :
    storeV s n (.pointer (some ⟨B, o, none⟩)) (.agg vs.toArray) = some (undefV, setBlk s B (.cells (putL cs o vs) p)) := by
  have hc : (Value.agg vs.toArray).cells = vs.toArray := rfl
  simp only [storeV, hc, putCells, hg]
  rw [if_pos (by simpa using hv), if_neg (by simp), if_pos (by simp [hv, hn]), if_pos h1, Option.map_some]
  rfl
theorem putL_left (cs rest : List Value) (o : Nat) (vs : List Value) (h : o + vs.length ≤ cs.length) : putL (cs ++ rest) o vs = putL cs o vs ++ rest := by
  refine List.ext_getElem? fun i => ?_
  have hl := putL_length cs o vs
  rw [putL_get _ _ _ _ (by rw [List.length_append]; omega)]
  by_cases hi : i < cs.length
  · rw [List.getElem?_append_left hi, List.getElem?_append_left (l₁ := putL cs o vs) (by omega), putL_get _ _ _ _ h]
  · rw [List.getElem?_append_right (l₁ := cs) (by omega), List.getElem?_append_right (l₁ := putL cs o vs) (by omega), hl, if_neg (by omega)]
theorem Hold.storeN {l : List HP} {sz n m k : Nat} {v : Value} {cs vs : List Value} (h : Hold s0 s (HP.own sz v n cs :: l)) (hv : vs.length = m) (hm : 0 < m) (hk : k + m ≤ cs.length) (h1 : vs.all oneCell = true) :
    ∃ s', storeV s m (elP v k) (.agg vs.toArray) = some (undefV, s') ∧ Hold s0 s' (HP.own sz v n (putL cs k vs) :: l) := by
  have key : ∃ s', storeV s m (elP v k) (.agg vs.toArray) = some (undefV, s') ∧ Own s' sz v n (putL cs k vs) ∧ Same s s' (footV v) := by
    have ho := h.own (List.mem_cons_self ..)
    cases ho with
    | nil => simp at hk; omega
    | @opn B n cs hg hB hl hz =>
      refine ⟨setBlk s B (.cells (putL cs k vs) true), ?_, ?_, .set rfl⟩
      · simp only [elP, add_none', Nat.zero_add]
        exact storen_g hg hv hk h1
      · exact .opn (by rw [get_set, if_pos rfl]) hB (by rw [putL_length]; exact hl) hz
    | @cap B n c cs rest hg hB hl hr hn hc =>
      refine ⟨setBlk s B (.cells (putL cs k vs ++ rest) false), ?_, ?_, .set rfl⟩
      · simp only [elP, add_none', Nat.zero_add]
        rw [storen_g hg hv (by simp; omega) h1, putL_left _ _ _ _ (by omega)]
      · exact .cap (by rw [get_set, if_pos rfl]) hB (by rw [putL_length]; exact hl) hr hn hc
  obtain ⟨s', st, k1, k2⟩ := key
  refine ⟨s', st, h.upd ?_⟩
  rintro K ⟨_, rfl⟩ _
  exact ⟨footV v, ⟨k1, rfl⟩, k2, fun B hB => ⟨.inl hB, k1.slc.foot B hB⟩⟩
theorem mul_lt {i n sz : Nat} (h : i < n) : i * sz + sz ≤ n * sz := by
  have := Nat.mul_le_mul_right sz (show i + 1 ≤ n from h)
  rw [Nat.add_mul] at this; omega
theorem Hold.putE (hE : El sz ld eV eC) {l : List HP} {v : Value} {n : Nat} {d : Array α} (H : Hold s0 s (HP.own sz v n (flE eC d) :: l)) (hn : d.size = n) {i : Nat} (hi : i < n) (y : α) :
    ∃ s1, storeV s sz (elP v (i * sz)) (eV y) = some (undefV, s1) ∧ Hold s0 s1 (HP.own sz v n (flE eC (d.setIfInBounds i y)) :: l) := by
  have hf : flE eC (d.setIfInBounds i y) = putL (flE eC d) (i * sz) (eC y) := by
    unfold flE
    rw [Array.toList_setIfInBounds, flat_set hE.len y _ _ (by simpa using (by omega : i < d.size))]
  rw [hf]
  have hk : i * sz + sz ≤ (flE eC d).length := by rw [flE_len hE, hn]; exact mul_lt hi
  rcases hE.kind with ⟨_, rfl, hc⟩ | ⟨_, hc⟩
  · have h1 : oneCell (eV y) = true := by
      have := hE.one y
      rw [hc] at this
      simpa using this
    obtain ⟨s1, st, H1⟩ := H.store (k := i * 1) (x := eV y) (by omega) h1
    refine ⟨s1, st, ?_⟩
    have : putL (flE eC d) (i * 1) (eC y) = (flE eC d).set (i * 1) (eV y) := by
      rw [hc]
      refine List.ext_getElem? fun j => ?_
      rw [putL_get _ _ _ _ (by simpa using hk), List.getElem?_set]
      by_cases hj : i * 1 = j
      · subst hj; rw [if_pos rfl, if_pos (by simp), if_pos (by omega)]; simp
      · rw [if_neg hj, if_neg (by simp; omega)]
    rw [this]
    exact H1
  · obtain ⟨s1, st, H1⟩ := H.storeN (m := sz) (k := i * sz) (vs := eC y) (hE.len y) hE.pos hk (hE.one y)
    exact ⟨s1, by rw [hc]; exact st, H1⟩
variable [Inhabited α]
theorem get_list {d : Array α} {i : Nat} (hi : i < d.size) : d[i]! = d.toList[i]'(by simpa using hi) := by
  rw [Array.getElem!_eq_getD, Array.getD, dif_pos hi]; simp
theorem own_ld (hE : El sz ld eV eC) {l : List HP} {v : Value} {n : Nat} {d : Array α} (H : Hold s0 s (HP.own sz v n (flE eC d) :: l)) (hn : d.size = n) {i : Nat} (hi : i < n) :
    addrSlV sz v (.int .i64 (i : Nat)) = some (elP v (i * sz)) ∧ loadV s ld (elP v (i * sz)) = some (eV d[i]!) := by
  have sl := (H.own (List.mem_cons_self ..)).slc
  have h1 := sl.addr (kk := .i64) (i := (i : Int)) rfl hi
  refine ⟨h1, ?_⟩
  have hp : ((flE eC d).drop (i * sz)).take sz = eC d[i]! := by
    rw [get_list (by omega)]
    exact flat_part hE.len d.toList i (by simpa using (by omega : i < d.size))
  rcases hE.kind with ⟨rfl, rfl, hc⟩ | ⟨rfl, hc⟩
  · have hlt : i * 1 < (flE eC d).length := by rw [flE_len hE]; omega
    refine sl.load ?_
    rw [hc] at hp
    rw [List.getElem?_eq_getElem hlt]
    have h2 : ((flE eC d).drop (i * 1)).take 1 = [(flE eC d)[i * 1]] := by
      rw [List.drop_eq_getElem_cons hlt]; rfl
    rw [h2] at hp
    exact congrArg some (by injection hp)
  · rw [sl.loads (mul_lt hi) (by omega), hp, hc]
theorem Hold.swp (hE : El sz ld eV eC) {l : List HP} {v : Value} {n : Nat} {d : Array α} (H : Hold s0 s (HP.own sz v n (flE eC d) :: l)) (hn : d.size = n) {i j : Nat} (hi : i < n) (hj : j < n) :
    ∃ s1 s2, storeV s sz (elP v (i * sz)) (eV d[j]!) = some (undefV, s1) ∧ storeV s1 sz (elP v (j * sz)) (eV d[i]!) = some (undefV, s2) ∧ Hold s0 s2 (HP.own sz v n (flE eC (Sort.swp d i j)) :: l) := by
  obtain ⟨s1, st1, H1⟩ := H.putE hE hn hi d[j]!
  obtain ⟨s2, st2, H2⟩ := H1.putE hE (by simpa using hn) hj d[i]!
  exact ⟨s1, s2, st1, st2, H2⟩
theorem own_ld1 {eV : α → Value} {eC : α → List Value} (hE : El 1 none eV eC) {l : List HP} {v : Value} {n : Nat} {d : Array α} (H : Hold s0 s (HP.own 1 v n (flE eC d) :: l)) (hn : d.size = n) {i : Nat} (hi : i < n) :
    addrSlV 1 v (.int .i64 (i : Nat)) = some (elP v i) ∧ loadV s none (elP v i) = some (eV d[i]!) := by
  have h := own_ld hE H hn hi
  rw [Nat.mul_one] at h
  exact h
theorem Hold.swp1 {eV : α → Value} {eC : α → List Value} (hE : El 1 none eV eC) {l : List HP} {v : Value} {n : Nat} {d : Array α} (H : Hold s0 s (HP.own 1 v n (flE eC d) :: l)) (hn : d.size = n) {i j : Nat} (hi : i < n) (hj : j < n) :
    ∃ s1 s2, storeV s 1 (elP v i) (eV d[j]!) = some (undefV, s1) ∧ storeV s1 1 (elP v j) (eV d[i]!) = some (undefV, s2) ∧ Hold s0 s2 (HP.own 1 v n (flE eC (Sort.swp d i j)) :: l) := by
  have h := H.swp hE hn hi hj
  rw [Nat.mul_one, Nat.mul_one] at h
  exact h
def cmpV (C : FuncId) : Value := .func (.func C) #[] #[]
section
variable {X : Ctx} {fr : Fr} {s : Mm} {t : Tmp} {b : Bool} {d : Option Tmp} {pre : Nat} {l : List DOper} {i : Nat} {hist : List Mm} {acts : List Nat} {flt : List (Nat × Nat × ABlk)} {nid : Nat} {ws : List (Nat × (Mm → Bool))} {Q : Fr → Mm → Prop}
theorem WD_no_call {o : Operand} {xs : List Operand} (h : wantV fr (some (t, b)) = false) : WD X (⟨⟨.call o xs, d, some (t, b)⟩, pre⟩ :: l) i fr s hist acts flt nid ws Q = DActK X (some (undefV, (setH s (joinF pre flt s.h).1))) d pre l i fr s hist acts flt nid ws Q := WD_noAct rfl h
end
end Go.Vam

/- PeaksTops: its run at any arguments of no great bulk. -/
namespace Go.Proofs.Ytpphomoijlilfaa
open Go Go.Vam
theorem bulkAll_mem {H : Type} (l : List (DataW H)) : ∀ d ∈ l, Rows.uptoBulk d ≤ Rows.uptoBulkAll l := by
  induction l with
  | nil => simp
  | cons x r ih =>
    intro d hd
    rcases List.mem_cons.1 hd with rfl | hd
    · simp only [Rows.uptoBulkAll]; omega
    · have := ih d hd; simp only [Rows.uptoBulkAll]; omega
theorem bulk_one {H : Type} (d : DataW H) : 1 ≤ Rows.uptoBulk d := by
  cases d with
  | lit l => cases l <;> simp [Rows.uptoBulk]
  | nil => simp [Rows.uptoBulk]
  | ptr d => simp [Rows.uptoBulk]
  | slice elems spare => simp [Rows.uptoBulk]
  | agg parts => simp [Rows.uptoBulk]
  | iface t d => simp [Rows.uptoBulk]
  | map entries => simp [Rows.uptoBulk]
  | held h => simp [Rows.uptoBulk]
theorem bulk_len {H : Type} (l : List (DataW H)) : l.length ≤ Rows.uptoBulkAll l := by
  induction l with
  | nil => simp [Rows.uptoBulkAll]
  | cons x r ih => have := bulk_one x; simp only [Rows.uptoBulkAll, List.length_cons]; omega
theorem bulk {H : Type} : Bulk (Rows.uptoBulk (H := H)) :=
  ⟨bulk_one, fun ds rest d hd => by have := bulkAll_mem ds d hd; simp only [Rows.uptoBulk]; omega, fun ds rest => by have := bulk_len ds; simp only [Rows.uptoBulk]; omega,
    fun ds d hd => by have := bulkAll_mem ds d hd; simp only [Rows.uptoBulk]; omega⟩
theorem AbsL.cons {P : Program} {T : Type} {s : Mm} {t : TypeId} {ts : List TypeId} {vs : List Value} {ds : List (DataW T)} (h : AbsL P s (t :: ts) vs ds) : ∃ v vs' d ds', vs = v :: vs' ∧ ds = d :: ds' ∧ AbsV P s t v d ∧ AbsL P s ts vs' ds' := by
  cases vs with
  | nil => exact h.elim
  | cons v vs => cases ds with
    | nil => exact h.elim
    | cons d ds => exact ⟨v, vs, d, ds, rfl, rfl, h.1, h.2⟩
theorem AbsL.nil {P : Program} {T : Type} {s : Mm} {vs : List Value} {ds : List (DataW T)} (h : AbsL P s [] vs ds) : vs = [] ∧ ds = [] := by
  cases vs with
  | nil => cases ds with
    | nil => exact ⟨rfl, rfl⟩
    | cons d ds => exact h.elim
  | cons v vs => exact h.elim
end Go.Proofs.Ytpphomoijlilfaa

/- Peaks: the questions of sameness, and the document's beats and Next. -/
namespace Go.Proofs.Ytpphomoijlilfaa
open Go Go.Vam
def notNan (x : Nat) : Bool := ford .f64 x x == some .eq
theorem notNan_known {x : Nat} (h : notNan x = true) : fknown .f64 x = true := by
  unfold fknown
  rw [bne_iff_ne]
  intro e
  subst e
  exact absurd h (by decide +kernel)
theorem bits_nn {x : Nat} (h : notNan x = true) : extV 0 [.float .f64 x] = some (.int .u64 (x : Nat)) := by
  simp only [extV, notNan_known h, if_true]
theorem run22 {X : Ctx} (hX : X.fns = fnsOf Try.prog) (ho : ∀ f args, f ≠ 15 ∧ f ≠ 38 → X.orc f args = none) {s : Mm} {x : Nat} : CallP X 22 [.float .f64 x, .float .f64 x] s (fun r s' => r = .bool true ∧ s = s') := by
  have hq : (ford .f64 x x == some .eq) = notNan x := rfl
  refine CallP_of (hX ▸ ir22_eq) (ho _ _ (by decide)) (Nat.le_of_ble_eq_true rfl) ?_
  refine qak (qan [0, 1] ?_)
  simp only [o22_0, qah, qaj, qad, frame_nil, qbc, qae, qab, qaa, qac, Nat.reduceEqDiff, Nat.reduceAdd, ↓reduceIte, eq_self, Nat.zero_add]
  intro fr e0 e1
  refine qai ?_
  refine qau ?_
  cases h : notNan x with
  | true =>
    refine qak (qan [0, 1, 12] ?_)
    simp only [o22_1, qao, qah, WO_pick, pick_b, binf_neq, qaj, qag, WO_guard, want_v, wantB_f, qad, qaf, qae, qab, qaa, qac, Nat.reduceEqDiff, ↓reduceIte, Bool.not_true, Bool.not_false, eq_self, Bool.false_eq_true, e0, e1, hq, h]
    clear e0 e1
    intro fr e0 e1 e12
    refine qai ?_
    refine qak (W_cond e12 (fun h => by cases h) (fun _ => W_skip (qai ?_)))
    refine qak (qan [4] ?_)
    simp only [o22_3, qao, WO_ext, qah, bin_eql, qaj, qag, qad, qaf, qab, qaa, qac, List.map_cons, List.map_nil, Nat.reduceEqDiff, ↓reduceIte, decide_true, eq_self, e0, e1, bits_nn h]
    clear e0 e1 e12
    intro fr e4
    refine qai ?_
    exact W_ret (Ret1 e4 ⟨rfl, rfl⟩)
  | false =>
    refine qak (qan [0, 1, 12] ?_)
    simp only [o22_1, qao, qah, WO_pick, pick_b, binf_neq, qaj, qag, WO_guard, want_v, wantB_f, qad, qaf, qae, qab, qaa, qac, Nat.reduceEqDiff, ↓reduceIte, Bool.not_true, Bool.not_false, eq_self, Bool.false_eq_true, e0, e1, hq, h]
    clear e0 e1
    intro fr e0 e1 e12
    refine qai ?_
    refine qak (W_cond e12 (fun _ => ?_) (fun h => by cases h))
    refine qak (qan [4] ?_)
    simp only [o22_2, qao, qah, WO_pick, pick_b, binf_neq, qaj, qag, WO_guard, want_v, wantB_t, qad, qaf, qae, qab, qaa, qac, Nat.reduceEqDiff, ↓reduceIte, Bool.not_false, eq_self, e0, e1, hq, h]
    clear e0 e1 e12
    intro fr e4
    refine qai ?_
    exact W_ret (SeqK_r (Ret1 e4 ⟨rfl, rfl⟩))
end Go.Proofs.Ytpphomoijlilfaa

/- Peaks: the document's Highest, walked. -/
namespace Go.Proofs.Ytpphomoijlilfaa
open Go Go.Vam
section
variable {X : Ctx} {fr : Fr} {s : Mm} {t : Tmp} {b : Bool} {d : Option Tmp} {pre : Nat} {l : List DOper} {i : Nat} {hist : List Mm} {acts : List Nat} {flt : List (Nat × Nat × ABlk)} {nid : Nat} {ws : List (Nat × (Mm → Bool))} {Q : Fr → Mm → Prop}
end
end Go.Proofs.Ytpphomoijlilfaa

/- PeaksCentre: the plain law. -/
namespace Go.Proofs.Ytpphomoijlilfaa
open Go Go.Vam
abbrev SpI := Int × Int × Nat
def eI (x : SpI) : List Value := [.int .i64 x.1, .int .i64 x.2.1, .float .f64 x.2.2]
def sI (x : SpI) : Value := .agg #[.int .i64 x.1, .int .i64 x.2.1, .float .f64 x.2.2]
def atI (L : List SpI) (i : Nat) : SpI := L[i]?.getD (0, 0, 0)
theorem atI_eq {L : List SpI} {i : Nat} (hi : i < L.length) : atI L i = L[i] := by
  unfold atI; rw [List.getElem?_eq_getElem hi]; rfl
theorem flatI {L : List SpI} {i : Nat} (hi : i < L.length) : (L.flatMap eI)[i * 3]? = some (.int .i64 (atI L i).1) ∧ (L.flatMap eI)[i * 3 + 1]? = some (.int .i64 (atI L i).2.1) ∧ (L.flatMap eI)[i * 3 + 2]? = some (.float .f64 (atI L i).2.2) ∧ ((L.flatMap eI).drop (i * 3)).take 3 = eI (atI L i) := by
  rw [atI_eq hi]
  induction L generalizing i with
  | nil => simp at hi
  | cons x L ih =>
    cases i with
    | zero => exact ⟨rfl, rfl, rfl, rfl⟩
    | succ i =>
      have e : (i + 1) * 3 = i * 3 + 3 := by omega
      rw [e]
      exact ih (by simpa using hi)
theorem eI_len (L : List SpI) : (L.flatMap eI).length = L.length * 3 := by
  induction L with
  | nil => rfl
  | cons x L ih => rw [List.flatMap_cons, List.length_append, ih, List.length_cons]; simp only [eI, List.length_cons, List.length_nil]; omega
theorem eI_one (L : List SpI) : (L.flatMap eI).all oneCell = true := by
  induction L with
  | nil => rfl
  | cons x L ih => rw [List.flatMap_cons, List.all_append, ih]; rfl
end Go.Proofs.Ytpphomoijlilfaa

/- PeaksCentre: the small functions, walked. -/
namespace Go.Proofs.Ytpphomoijlilfaa
open Go Go.Vam
def mk77 : List Value := [.int .i64 77, .int .i64 0, .float .f64 0]
theorem run16 {X : Ctx} (hX : X.fns = fnsOf Try.prog) (ho : ∀ f args, f ≠ 15 ∧ f ≠ 38 → X.orc f args = none) {s0 s : Mm} {l : List HP} {v : Value} {L : List SpI} (H : Hold s0 s l) (a : SlC s0 3 v L.length (L.flatMap eI)) (hn : L.length ≤ 5864062014634) :
    CallP X 16 [v] s (fun r s' => Hold s0 s' (HP.lent 3 r L.length (L.flatMap eI) mk77 :: l)) := by
  refine CallP_of (hX ▸ ir16_eq) (ho _ _ (by decide)) (Nat.le_of_ble_eq_true rfl) ?_
  refine qak (qan [0] ?_)
  simp only [o16_0, qah, qaj, qad, frame_nil, qbc, qae, qab, qaa, qac, Nat.reduceEqDiff, ↓reduceIte, eq_self, Nat.zero_add]
  intro fr e0
  refine qai ?_
  have hb0 : buildSlV s 3 [.int .i64 0, .int .i64 0, .float .f64 0] 0 [] = some (.slice (some ⟨s.nxt, 0, none⟩) 0 0, .cells [] false) := rfl
  have H1 := (H.new []).cellOwn (sz := 3) (n := 0) rfl (by decide)
  have r1 := a.same H1.same (fun _ _ h => h)
  obtain ⟨v1, s2, ap1, H2⟩ := H1.append (bytes := 24) r1.src (eI_len _) (eI_one _) (by omega) (by decide) (by omega) (by omega) (by omega)
  simp only [Nat.zero_add, List.nil_append] at H2
  have hbu : buildV [.int .i64 0, .int .i64 0, .float .f64 0] [(0, 1, .int .i64 77)] = some (.agg #[.int .i64 77, .int .i64 0, .float .f64 0]) := rfl
  have hb1 : buildSlV s2 3 [.int .i64 0, .int .i64 0, .float .f64 0] 1 [(0, 3, .agg #[.int .i64 77, .int .i64 0, .float .f64 0])] = some (.slice (some ⟨s2.nxt, 0, none⟩) 1 1, .cells mk77 false) := rfl
  obtain ⟨v2, s3, ap2, H3⟩ := H2.push (bytes := 24) (new := mk77) rfl rfl (by omega) (by decide) (by omega) (by omega) (by omega)
  refine qak (qan [0, 3] ?_)
  simp only [o16_1, WO_append, WO_build, WO_buildSlice, qah, qaj, qag, MemK_some, NewK_some, qad, qaf, qae, qab, qaa, qac, List.map_cons, List.map_nil, Nat.reduceEqDiff, ↓reduceIte, eq_self, Nat.zero_mul, e0, hb0, ap1, hbu, hb1, ap2]
  clear e0
  intro fr e0 e3
  refine qai ?_
  have hsl := (H3.own (List.mem_cons_self ..)).slc.sl0 (k2 := .i64) (j := ((L.length : Nat) : Int)) rfl (Nat.le_succ _)
  have r3 := a.same H3.same (fun _ _ h => h)
  refine qak (qan [2] ?_)
  simp only [o16_2, WO_bu, qah, WO_slSl, qaj, qag, qad, qaf, qab, qaa, qac, List.map_cons, List.map_nil, Option.map_some, Option.map_none, Nat.reduceEqDiff, ↓reduceIte, eq_self, e0, e3, r3.len, hsl]
  clear e0 e3
  intro fr e2
  refine qai ?_
  exact W_ret (Ret1 e2 (H3.lend rfl))
set_option maxHeartbeats 1000000 in
theorem run13i {X : Ctx} (hX : X.fns = fnsOf Try.prog) (ho : ∀ f args, f ≠ 15 ∧ f ≠ 38 → X.orc f args = none) {s : Mm} {v v' : Value} {L : List SpI} (a1 : SlC s 3 v L.length (L.flatMap eI)) (a2 : SlC s 3 v' L.length (L.flatMap eI)) (hl : L.length ≤ 4611686018427387904) :
    CallP X 13 [v, v'] s (fun r s' => r = .bool true ∧ s = s') := by
  refine CallP_of (hX ▸ ir13_eq) (ho _ _ (by decide)) (Nat.le_of_ble_eq_true rfl) ?_
  refine qak (qan [0, 1] ?_)
  simp only [o13_0, qah, qaj, qad, frame_nil, qbc, qae, qab, qaa, qac, Nat.reduceEqDiff, Nat.reduceAdd, ↓reduceIte, eq_self, Nat.zero_add]
  intro fr e0 e1
  refine qai ?_
  refine qau ?_
  refine qak (qan [0, 1, 10] ?_)
  simp only [o13_1, qao, WO_bu, qah, bin_neq, qaj, qag, qad, qaf, qab, qaa, qac, List.map_cons, List.map_nil, Nat.reduceEqDiff, ↓reduceIte, Bool.not_true, decide_true, eq_self, e0, e1, a1.len, a2.len]
  clear e0 e1
  intro fr e0 e1 e10
  refine qai ?_
  refine qak (W_cond e10 (fun h => by cases h) (fun _ => W_skip (qai ?_)))
  refine qau ?_
  refine qak (qan [0, 1, 5] ?_)
  simp only [o13_3, qah, qaj, qad, qae, qab, qaa, qac, Nat.reduceEqDiff, ↓reduceIte, eq_self, e0, e1]
  clear e0 e1 e10
  intro fr e0 e1 e5
  refine qai ?_
  refine qak (qat (W_loop (fun m fr s1 => ∃ k, k + m = L.length ∧ s = s1 ∧ geT fr 0 = v ∧ geT fr 1 = v' ∧ geT fr 5 = .int .i64 (k : Nat)) L.length ⟨0, by omega, rfl, e0, e1, e5⟩ ?_))
  clear e0 e1 e5 fr
  rintro m fr _ ⟨k, hk, rfl, e0, e1, e5⟩
  refine qau ?_
  refine qak (qan [0, 1, 5, 14] ?_)
  simp only [o13_5, qao, WO_bu, qah, bin_lss, qaj, qag, qad, qaf, qab, qaa, qac, List.map_cons, List.map_nil, Nat.reduceEqDiff, ↓reduceIte, eq_self, e0, e1, e5, a1.len]
  clear e0 e1 e5
  intro fr e0 e1 e5 e14
  refine qai ?_
  refine W_while e14 (fun hlt => ?_) (fun hlt => ?_)
  · have hk1 : k < L.length := by omega
    obtain ⟨f0, f1, f2, f3⟩ := flatI hk1
    have q1 := a1.addr (kk := .i64) (i := (k : Int)) rfl hk1
    have q2 := a2.addr (kk := .i64) (i := (k : Int)) rfl hk1
    have p0 := a1.fld (by omega) (k * 3) 0
    have p1 := a1.fld (by omega) (k * 3) 1
    have p2 := a1.fld (by omega) (k * 3) 2
    have r0 := a2.fld (by omega) (k * 3) 0
    have r1 := a2.fld (by omega) (k * 3) 1
    have r2 := a2.fld (by omega) (k * 3) 2
    rw [Nat.add_zero] at p0 r0
    have l0 := a1.load f0
    have l1 := a1.load f1
    have l2 := a1.load f2
    have m0 := a2.load f0
    have m1 := a2.load f1
    have m2 := a2.load f2
    refine qak (qat ?_)
    refine qak (qbb [0, 1, 5, 54] rfl ?_)
    simp only [d13_6, qay, WD_bin, WD_call, WD_fieldAddr, WD_load, qba, WD_pick, pick_b, bin_neq, want_v, wantB_f, qam, qas, qaw, qar, qap, qad, qaf, qae, List.map_cons, List.map_nil, Nat.reduceEqDiff, Nat.reduceAdd, ↓reduceIte, Bool.not_true, Bool.not_false, decide_true, eq_self, Bool.false_eq_true, true_and, Nat.zero_add, e0, e1, e5, WD_yes, q1, q2, p0, p1, p2, r0, r1, r2, l0, l1, l2, m0, m1, m2]
    refine DCallK_of rfl (run22 hX ho) ?_
    rintro _ _ ⟨rfl, rfl⟩
    simp only [WD_pick, pick_b, WD_un, un_not, want_v, wantB_f, WD_nil, qam, qar, qaq, qap, Nat.testBit, Nat.reduceShiftRight, Nat.reduceAnd, Nat.reduceBneDiff, List.all_nil, List.all_cons, List.filter_nil, List.filter_cons, qad, qaf, qae, qab, qaa, qac, Nat.reduceEqDiff, Nat.reduceAdd, ↓reduceIte, Bool.not_true, Bool.not_false, Bool.and_true, Bool.true_or, eq_self, Bool.false_eq_true, true_and, e0, e1, e5, WD_yes]
    clear e0 e1 e5 e14
    intro fr e0 e1 e5 e54
    refine qai ?_
    refine W_cond e54 (fun h => by cases h) (fun _ => W_skip (BlkK_n (qai ?_)))
    refine qan [0, 1, 5] ?_
    simp only [o13_8, qao, qah, qax, qaj, qag, qad, qaf, qae, qab, qaa, qac, Nat.reduceEqDiff, ↓reduceIte, eq_self, e0, e1, e5, qal (n := (k : Int) + 1) (by omega) (by omega)]
    clear e0 e1 e5 e54
    intro fr e0 e1 e5
    exact LoopK_n (m' := m - 1) (by omega) ⟨k + 1, by omega, rfl, e0, e1, by rw [e5]; rfl⟩
  · refine LoopK_x (BlkK_e (qai ?_))
    refine qak (qan [4] ?_)
    simp only [o13_9, qah, qaj, qad, qae, qab, qaa, qac, ↓reduceIte, eq_self]
    clear e0 e1 e5 e14
    intro fr e4
    refine qai ?_
    exact W_ret (Ret1 e4 ⟨rfl, rfl⟩)
theorem run19 {X : Ctx} (hX : X.fns = fnsOf Try.prog) (ho : ∀ f args, f ≠ 15 ∧ f ≠ 38 → X.orc f args = none) {s : Mm} {c v : Value} {L : List SpI} (Le : Lent s 3 c L.length (L.flatMap eI) mk77) (a : SlC s 3 v L.length (L.flatMap eI)) (hl : L.length ≤ 5864062014634) :
    CallP X 19 [c, v] s (fun r s' => r = .bool true ∧ s = s') := by
  obtain ⟨room, hsl, r3⟩ := Le.mark (k := .i64) (i := ((L.length : Nat) : Int) + 1) rfl
  have B3 := r3.addr (kk := .i64) (i := ((L.length : Nat) : Int)) rfl (Nat.lt_succ_self _)
  have p0 := r3.fld (by omega) (L.length * 3) 0
  rw [Nat.add_zero] at p0
  have A3 : loadV s none (elP room (L.length * 3)) = some (.int .i64 77) := by
    refine r3.load ?_
    rw [List.getElem?_append_right (by rw [eI_len]; omega), eI_len, Nat.sub_self]; rfl
  refine CallP_of (hX ▸ ir19_eq) (ho _ _ (by decide)) (Nat.le_of_ble_eq_true rfl) ?_
  refine qak (qan [0, 1] ?_)
  simp only [o19_0, qah, qaj, qad, frame_nil, qbc, qae, qab, qaa, qac, Nat.reduceEqDiff, Nat.reduceAdd, ↓reduceIte, eq_self, Nat.zero_add]
  intro fr e0 e1
  refine qai ?_
  refine qak (qan [4] ?_)
  simp only [o19_1, WO_call, qah, qad, qaf, List.map_cons, List.map_nil, Nat.reduceEqDiff, ↓reduceIte, eq_self, e0, e1]
  refine CallK_of (run13i hX ho (Le.slc (eI_len _)) a (by omega)) ?_
  rintro _ _ ⟨rfl, rfl⟩
  simp only [WO_addrSl, qao, WO_bu, WO_fieldAddr, WO_load, qah, WO_pick, pick_b, WO_slSl, qax, bin_eql, qaj, qag, WO_guard, want_v, wantB_t, qad, qaf, qae, qab, qaa, qac, List.map_cons, List.map_nil, Option.map_some, Option.map_none, Nat.reduceEqDiff, ↓reduceIte, decide_true, eq_self, e0, e1, a.len, qal (n := ((L.length : Nat) : Int) + 1) (by omega) (by omega), hsl, B3, p0, A3]
  clear e0 e1
  intro fr e4
  refine qai ?_
  exact W_ret (Ret1 e4 ⟨rfl, rfl⟩)
end Go.Proofs.Ytpphomoijlilfaa

/- PeaksCentre, walked. -/
namespace Go.Proofs.Ytpphomoijlilfaa
open Go Go.Vam
section
variable {X : Ctx} {fr : Fr} {s : Mm} {d : Option Tmp} {pre : Nat} {l : List DOper} {i : Nat} {hist : List Mm} {acts : List Nat} {flt : List (Nat × Nat × ABlk)} {nid : Nat} {ws : List (Nat × (Mm → Bool))} {Q : Fr → Mm → Prop}
theorem WD_callN {f : FuncId} {xs : List Operand} : WD X (⟨⟨.call (.func f) xs, d, none⟩, pre⟩ :: l) i fr s hist acts flt nid ws Q = DCallK X f (xs.map (evO fr)) (setH s (joinF pre flt s.h).1) d pre l i fr s hist acts flt nid ws Q := by
  apply propext; exact ⟨fun h => h, fun h => h⟩
end
end Go.Proofs.Ytpphomoijlilfaa

/- PeaksCentre: its run at any arguments of no great bulk. -/
namespace Go.Proofs.Ytpphomoijlilfaa
open Go Go.Vam
theorem lists_of {α β : Type} {g : α → List Value} {p : α → Prop} : ∀ (ls : List (List Value)) (ds : List β), ds.length = ls.length → (∀ (i : Nat) (l : List Value) (d : β), ls[i]? = some l → ds[i]? = some d → ∃ x, l = g x ∧ p x) → ∃ xs : List α, ls = xs.map g ∧ ∀ x ∈ xs, p x := by
  intro ls
  induction ls with
  | nil => intro ds _ _; exact ⟨[], rfl, by simp⟩
  | cons l ls ih =>
    intro ds hd h
    cases ds with
    | nil => simp at hd
    | cons d ds =>
      obtain ⟨x, h1, h2⟩ := h 0 l d rfl rfl
      obtain ⟨xs, h3, h4⟩ := ih ds (by simpa using hd) (fun i l d hl hdd => h (i + 1) l d (by simpa using hl) (by simpa using hdd))
      exact ⟨x :: xs, by rw [h1, h3]; rfl, fun y hy => by
        rcases List.mem_cons.1 hy with rfl | hy
        · exact h2
        · exact h4 y hy⟩
theorem c29 : Try.prog.cellsOf 29 = 3 := by decide +kernel
theorem c3 : Try.prog.cellsOf 3 = 1 := by decide +kernel
theorem c24 : Try.prog.cellsOf 24 = 1 := by decide +kernel
theorem three {α : Type} {l : List α} (h : l.length = 3) : ∃ a b c, l = [a, b, c] := by
  match l, h with
  | [a, b, c], _ => exact ⟨a, b, c, rfl⟩
end Go.Proofs.Ytpphomoijlilfaa

/- Peaks: what a group's flood does with a cell. -/
namespace Go.Proofs.Ytpphomoijlilfaa.G
open Go Go.Vam
abbrev FM := Int × Int → Option Int
def visQ (f : FM) (all q : List SpI) (c : Int × Int) : List SpI := match f c with
  | some n => q ++ [atI all (n - 1).toNat]
  | none => q
def visF (f : FM) (c : Int × Int) : FM := fun k => if k = c then none else f k
theorem visF_none {f : FM} {c : Int × Int} (h : f c = none) : visF f c = f := by
  funext k
  unfold visF
  split
  · rename_i hk; rw [hk, h]
  · rfl
theorem spots_at {s : Mm} {v : Value} {L : List SpI} (a : SlC s 3 v L.length (L.flatMap eI)) {i : Nat} (hi : i < L.length) {j : Int} (hj : j = (i : Nat)) :
    addrSlV 3 v (.int .i64 j) = some (elP v (i * 3)) ∧ loadV s (some 3) (elP v (i * 3)) = some (sI (atI L i)) := by
  refine ⟨a.addr (kk := .i64) (by rw [hj]) hi, ?_⟩
  rw [a.loads (by omega) (by omega)]
  have h : ((L.flatMap eI).drop (i * 3)).take 3 = eI (atI L i) := by
    rw [atI_eq hi]
    exact flat_part (sz := 3) (eC := eI) (fun _ => rfl) L i hi
  rw [h]
  rfl
theorem buildSlD_sI {nid : Nat} {x : SpI} : buildSlD nid 3 [.int .i64 0, .int .i64 0, .float .f64 0] 1 [(0, 3, sI x)] = some (.slice (some ⟨nid, 0, none⟩) 1 1, .cells (eI x) false) := rfl
set_option maxHeartbeats 1000000 in
theorem run36 {X : Ctx} (hX : X.fns = fnsOf Try.prog) (ho : ∀ f args, f ≠ 15 ∧ f ≠ 38 → X.orc f args = none) {s0 s : Mm} {l : List HP} {Bm Bg Bt Ba : Nat} {f : FM} {gv av : Value} {q all : List SpI} {c : Nat × Int}
    (H : Hold s0 s (HP.map Bm f :: HP.cell Bg [gv] :: HP.own 3 gv q.length (q.flatMap eI) :: l)) (ht : HP.cell Bt [.map (some Bm)] ∈ l) (ha : HP.cell Ba [av] ∈ l) (hv : HP.own 3 av all.length (all.flatMap eI) ∈ l)
    (hn : ∀ n, f (kC c) = some n → 1 ≤ n ∧ n ≤ (all.length : Nat)) (hq : q.length ≤ 5864062014634) (hall : all.length ≤ 5864062014634) :
    CallP X 36 [cellV c, .pointer (some ⟨Bt, 0, none⟩), .pointer (some ⟨Bg, 0, none⟩), .pointer (some ⟨Ba, 0, none⟩)] s
      (fun _ s' => ∃ gv', Hold s0 s' (HP.map Bm (visF f (kC c)) :: HP.cell Bg [gv'] :: HP.own 3 gv' (visQ f all q (kC c)).length ((visQ f all q (kC c)).flatMap eI) :: l)) := by
  have hbx : (cellV c).cells.toList = [.int .i64 (c.1 : Nat), .int .i64 c.2] := rfl
  have H1 := H.new [.int .i64 (c.1 : Nat), .int .i64 c.2]
  have lt : loadV (newAt s (.cells [.int .i64 (c.1 : Nat), .int .i64 c.2] false)) none (.pointer (some ⟨Bt, 0, none⟩)) = some (.map (some Bm)) := load_g (o := 0) (H1.cell (B := Bt) (cs := [.map (some Bm)]) (by simp [ht]))
  have lc : loadV (newAt s (.cells [.int .i64 (c.1 : Nat), .int .i64 c.2] false)) (some 2) (.pointer (some ⟨s.nxt, 0, none⟩)) = some (keyV (kC c)) := (loadn_all (H1.cell (List.mem_cons_self ..)) rfl).trans rfl
  have lk := H1.look (B := Bm) (f := f) (by simp) (kC c)
  refine CallP_of (hX ▸ ir36_eq) (ho _ _ (by decide)) (Nat.le_of_ble_eq_true rfl) ?_
  refine qak (qan [1, 2, 3, 4] ?_)
  simp only [o36_0, WO_box, qaj, qad, frame_nil, qbc, qaf, qab, qaa, qac, Nat.reduceEqDiff, Nat.reduceAdd, ↓reduceIte, eq_self, Nat.zero_add, hbx]
  intro fr e1 e2 e3 e4
  refine qai ?_
  generalize newAt s (.cells [.int .i64 (c.1 : Nat), .int .i64 c.2] false) = s1 at H1 lt lc lk ⊢
  generalize s.nxt = Bc at H1 lc e4
  have hkt : ATy.struct [(0, none, .int), (1, none, .int)] = pairT := rfl
  refine qak (qan [1, 2, 3, 4, 5] ?_)
  simp only [o36_1, WO_load, WO_lookup, qah, qaj, qag, qad, qaf, qab, qaa, qac, Nat.reduceEqDiff, ↓reduceIte, eq_self, e1, e2, e3, e4, hkt, lt, lc, lk]
  clear e1 e2 e3 e4
  intro fr e1 e2 e3 e4 e5
  refine qai ?_
  refine qak (qan [1, 2, 3, 4, 5, 10] ?_)
  simp only [o36_2, qao, qah, bin_gtr, qaj, qag, qad, qaf, qae, qab, qaa, qac, Nat.reduceEqDiff, ↓reduceIte, eq_self, e1, e2, e3, e4, e5]
  clear e1 e2 e3 e4 e5
  intro fr e1 e2 e3 e4 e5 e10
  refine qai ?_
  cases hf : f (kC c) with
  | none =>
    rw [hf] at e10
    refine W_cond e10 (fun h => absurd h (by decide)) (fun _ => W_skip ?_)
    have hq' : visQ f all q (kC c) = q := by unfold visQ; rw [hf]
    rw [visF_none hf, hq']
    exact Ret0n ⟨gv, H1.tail⟩
  | some n =>
    obtain ⟨n1, n2⟩ := hn n hf
    rw [hf] at e5 e10
    have hd : decide ((0 : Int) < (some n).getD 0) = true := decide_eq_true (show (0 : Int) < n by omega)
    rw [hd] at e10
    refine W_cond e10 (fun _ => ?_) (fun h => by cases h)
    obtain ⟨i, hi, hni⟩ : ∃ i : Nat, i < all.length ∧ n - 1 = (i : Nat) := ⟨(n - 1).toNat, by omega, by omega⟩
    have hx : atI all (n - 1).toNat = atI all i := by rw [hni]; rfl
    have hq' : visQ f all q (kC c) = q ++ [atI all i] := by unfold visQ; rw [hf]; simp only [hx]
    rw [hq']
    generalize hxd : atI all i = x at *
    have H2 := H1.up3
    obtain ⟨gv', s3, ap, H3⟩ := H2.push (bytes := 24) (new := eI x) rfl rfl (by omega) (by decide) (by omega) (by omega) (by omega)
    have hog : oneCell gv' = true := (H3.own (List.mem_cons_self ..)).one
    have st : storeV s3 1 (.pointer (some ⟨Bg, 0, none⟩)) gv' = some (undefV, setBlk s3 Bg (.cells [gv'] false)) := store_g (cs := [gv]) (H3.cell (by simp)) hog Nat.zero_lt_one
    have H4 := (H3.up3.setc (cs' := [gv'])).up3
    refine qak (W_drawM [1, 4] 1 rfl ?_)
    intro s' hh hn' hs'
    have K := H1.keep hs'
    have lg : loadV s' none (.pointer (some ⟨Bg, 0, none⟩)) = some gv := load_g (o := 0) (K.cell (B := Bg) (cs := [gv]) (by simp))
    have la : loadV s' none (.pointer (some ⟨Ba, 0, none⟩)) = some av := load_g (o := 0) (K.cell (B := Ba) (cs := [av]) (by simp [ha]))
    obtain ⟨A, L⟩ := spots_at (K.own (v := av) (n := all.length) (cs := all.flatMap eI) (by simp [hv])).slc hi hni
    rw [hxd] at L
    have sn := setH_new (b := .cells (eI x) false) hh hn'
    have wn := qal (n := n - 1) (by omega) (by omega)
    have hg : ((some n).getD 0 : Int) = n := rfl
    rw [hg] at e5
    simp only [d36_3, qba, WD_bin, qay, WD_load, WD_buildSlice, WD_store, WD_append, WD_nil, qam, qas, qaz, DNewK_some, qaw, qav, preHead_cons, qar, joinF_cons, qaq, qap, Nat.testBit, Nat.reduceShiftRight, Nat.reduceAnd, Nat.reduceBneDiff, List.all_nil, List.all_cons, List.filter_nil, List.filter_cons, qad, puT_none, qaf, qae, qab, qaa, qac, List.map_cons, List.map_nil, Nat.reduceEqDiff, Nat.reduceAdd, ↓reduceIte, qbd, Bool.not_true, Bool.and_true, Bool.true_or, eq_self, Bool.false_eq_true, true_and, Nat.zero_add, Nat.zero_mul, e1, e2, e3, e4, e5, lg, la, wn, A, L, buildSlD_sI, sn, ap, st]
    clear e1 e2 e3 e4 e5
    intro fr e1 e4
    have lt2 : loadV (setBlk s3 Bg (.cells [gv'] false)) none (.pointer (some ⟨Bt, 0, none⟩)) = some (.map (some Bm)) := load_g (o := 0) (H4.cell (B := Bt) (cs := [.map (some Bm)]) (by simp [ht]))
    have lc2 : loadV (setBlk s3 Bg (.cells [gv'] false)) (some 2) (.pointer (some ⟨Bc, 0, none⟩)) = some (keyV (kC c)) := (loadn_all (H4.cell (B := Bc) (cs := [.int .i64 (c.1 : Nat), .int .i64 c.2]) (by simp)) rfl).trans rfl
    obtain ⟨s5, dl, H5⟩ := H4.del (kC c)
    refine qai ?_
    refine qan [] ?_
    simp only [o36_4, qaj, WO_load, qag, MemK_some, qad, puT_none, qaf, qab, qac, Nat.reduceEqDiff, ↓reduceIte, eq_self, e1, e4, hkt, lt2, lc2, WO_mapDel, dl]
    intro fr
    have H6 := H5.up3.tail
    rw [show q.flatMap eI ++ eI x = (q ++ [x]).flatMap eI by simp, show q.length + 1 = (q ++ [x]).length by simp] at H6
    exact Ret0n ⟨gv', H6⟩
end Go.Proofs.Ytpphomoijlilfaa.G

/- Peaks: Groups' first loop: each cell's first spot. -/
namespace Go.Proofs.Ytpphomoijlilfaa.G
open Go Go.Vam Go.Hang
def MapA (all : List SpI) (f : FM) : Prop := ∀ c n, f c = some n ↔ ∃ (i : Nat) (x : SpI), all[i]? = some x ∧ cellI x = c ∧ n = (i : Int) + 1
theorem MapA.nil : MapA [] (fun _ => none) := fun c n => by simp
theorem MapA.mem {all : List SpI} {f : FM} (h : MapA all f) (c : Int × Int) : decide (0 < (f c).getD 0) = decide (c ∈ all.map cellI) := by
  refine decide_eq_decide.2 ⟨fun hp => ?_, fun hm => ?_⟩
  · cases hf : f c with
    | none => rw [hf] at hp; simp at hp
    | some n =>
      obtain ⟨i, x, h1, h2, _⟩ := (h c n).1 hf
      exact List.mem_map.2 ⟨x, List.mem_of_getElem? h1, h2⟩
  · obtain ⟨x, hx, hc⟩ := List.mem_map.1 hm
    obtain ⟨i, hi, e⟩ := List.getElem_of_mem hx
    have := (h c ((i : Int) + 1)).2 ⟨i, x, by rw [List.getElem?_eq_getElem hi, e], hc, rfl⟩
    rw [this]
    show (0 : Int) < (i : Int) + 1
    omega
theorem MapA.add {all : List SpI} {f : FM} (h : MapA all f) {x : SpI} (hx : cellI x ∉ all.map cellI) : MapA (all ++ [x]) (fun k => if k = cellI x then some ((all.length : Int) + 1) else f k) := by
  intro c n
  show (if c = cellI x then some ((all.length : Int) + 1) else f c) = some n ↔ _
  by_cases hc : c = cellI x
  · rw [if_pos hc]
    constructor
    · intro hn
      injection hn with hn
      exact ⟨all.length, x, by simp, hc.symm, hn.symm⟩
    · rintro ⟨i, y, h1, h2, h3⟩
      by_cases hi : i < all.length
      · rw [List.getElem?_append_left hi] at h1
        exact absurd (List.mem_map.2 ⟨y, List.mem_of_getElem? h1, h2.trans hc⟩) hx
      · have : i = all.length := by
          have := (List.getElem?_eq_some_iff.1 h1).1
          simp at this; omega
        rw [h3, this]
  · rw [if_neg hc, h c n]
    constructor
    · rintro ⟨i, y, h1, h2, h3⟩
      exact ⟨i, y, by rw [List.getElem?_append_left (List.getElem?_eq_some_iff.1 h1).1]; exact h1, h2, h3⟩
    · rintro ⟨i, y, h1, h2, h3⟩
      by_cases hi : i < all.length
      · rw [List.getElem?_append_left hi] at h1; exact ⟨i, y, h1, h2, h3⟩
      · rw [List.getElem?_append_right (by omega)] at h1
        have h4 : i - all.length = 0 := by
          have := (List.getElem?_eq_some_iff.1 h1).1
          simp at this; omega
        rw [h4] at h1
        simp at h1
        exact absurd (h2.symm.trans (by rw [h1])) hc
def z3 : List Value := [.int .i64 0, .int .i64 0, .float .f64 0]
def cC (x : SpI) : List Value := [.int .i64 x.1, .int .i64 x.2.1]
theorem buildSl_sI {s : Mm} {x : SpI} : buildSlV s 3 [.int .i64 0, .int .i64 0, .float .f64 0] 1 [(0, 3, sI x)] = some (.slice (some ⟨s.nxt, 0, none⟩) 1 1, .cells (eI x) false) := rfl
set_option maxHeartbeats 4000000 in
theorem loop17a {X : Ctx} (hX : X.fns = fnsOf Try.prog) (ho : ∀ f args, f ≠ 15 ∧ f ≠ 38 → X.orc f args = none) {fr : Fr} {s0 s : Mm} {v : Value} {L : List SpI} {B : Int} {Bt Ba Bm : Nat} {Q : AExit → Fr → Mm → Prop} (a : SlC s0 3 v L.length (L.flatMap eI)) (hL : L.length ≤ 5864062014634)
    (e1 : geT fr 1 = .int .i64 B) (e5 : geT fr 5 = .pointer (some ⟨Bt, 0, none⟩)) (e6 : geT fr 6 = .pointer (some ⟨Ba, 0, none⟩)) (e15 : geT fr 15 = v) (e16 : geT fr 16 = .int .i64 (L.length : Nat)) (e17 : geT fr 17 = .int .i64 0)
    (H : Hold s0 s [HP.map Bm (fun _ => none), HP.cell Ba [.slice none 0 0], HP.own 3 (.slice none 0 0) 0 [], HP.cell Bt [.map (some Bm)]])
    (hQ : ∀ fr s av f, geT fr 1 = .int .i64 B → geT fr 5 = .pointer (some ⟨Bt, 0, none⟩) → geT fr 6 = .pointer (some ⟨Ba, 0, none⟩) → MapA (ddP B L []) f →
      Hold s0 s [HP.map Bm f, HP.cell Ba [av], HP.own 3 av (ddP B L []).length ((ddP B L []).flatMap eI), HP.cell Bt [.map (some Bm)]] → Q .normal fr s) :
    W X (.block 0 (.loop b17_4)) fr s Q := by
  refine qat (W_loop (fun m fr s1 => ∃ (i : Nat) (av : Value) (acc : List SpI) (f : FM), i + m = L.length ∧ acc.length ≤ i ∧ ddP B (L.drop i) acc = ddP B L [] ∧ MapA acc f ∧
    geT fr 1 = .int .i64 B ∧ geT fr 5 = .pointer (some ⟨Bt, 0, none⟩) ∧ geT fr 6 = .pointer (some ⟨Ba, 0, none⟩) ∧ geT fr 15 = v ∧ geT fr 16 = .int .i64 (L.length : Nat) ∧ geT fr 17 = .int .i64 (i : Nat) ∧
    Hold s0 s1 [HP.map Bm f, HP.cell Ba [av], HP.own 3 av acc.length (acc.flatMap eI), HP.cell Bt [.map (some Bm)]]) L.length
    ⟨0, _, [], _, by omega, Nat.le_refl _, rfl, MapA.nil, e1, e5, e6, e15, e16, e17, H⟩ ?_)
  clear e1 e5 e6 e15 e16 e17 fr H s
  rintro m fr s1 ⟨i, av, acc, f, hi, hacc, hdd, hM, e1, e5, e6, e15, e16, e17, H⟩
  refine qak (qan [1, 5, 6, 15, 16, 17, 18] ?_)
  simp only [o17_5, qao, bin_lss, qaj, qag, qad, qaf, qab, qaa, qac, Nat.reduceEqDiff, ↓reduceIte, eq_self, e1, e5, e6, e15, e16, e17]
  clear e1 e5 e6 e15 e16 e17
  intro fr e1 e5 e6 e15 e16 e17 e18
  refine qai ?_
  refine W_while e18 (fun hlt => ?_) (fun hlt => ?_)
  · have hiL : i < L.length := by omega
    obtain ⟨A, Ld⟩ := spots_at (a.same H.same (fun _ _ h => h)) hiL rfl
    have hxL : L[i] = atI L i := (atI_eq hiL).symm
    rw [List.drop_eq_getElem_cons hiL, ddP, hxL] at hdd
    generalize atI L i = x at hdd Ld
    have H1 := H.new z3
    have st3 : storeV (newAt s1 (.cells z3 false)) 3 (.pointer (some ⟨s1.nxt, 0, none⟩)) (sI x) = some (undefV, setBlk (newAt s1 (.cells z3 false)) s1.nxt (.cells (eI x) false)) := store_all (n := 3) (vs := eI x) (H1.cell (List.mem_cons_self ..)) rfl rfl rfl
    have H2 := H1.setc (cs' := eI x)
    have hz3 : newAt s1 (.cells [.int .i64 0, .int .i64 0, .float .f64 0] false) = newAt s1 (.cells z3 false) := rfl
    refine qak (qat ?_)
    refine qak (qan [1, 5, 6, 8, 15, 16, 17] ?_)
    simp only [o17_6, WO_addrSl, WO_alloc, WO_load, WO_store, qaj, qag, MemK_some, qad, puT_none, qaf, qab, qaa, qac, Nat.reduceEqDiff, ↓reduceIte, eq_self, e1, e5, e6, e15, e16, e17, A, Ld, hz3, st3]
    clear e1 e5 e6 e15 e16 e17 e18
    intro fr e1 e5 e6 e8 e15 e16 e17
    refine qai ?_
    clear st3 H1 hz3
    generalize setBlk (newAt s1 (.cells z3 false)) s1.nxt (.cells (eI x) false) = s2 at H2 ⊢
    generalize s1.nxt = Bs at H2 e8
    have l0 : loadV s2 none (.pointer (some ⟨Bs, 0, none⟩)) = some (.int .i64 x.1) := load_g (o := 0) (H2.cell (List.mem_cons_self ..))
    have l1 : loadV s2 none (.pointer (some ⟨Bs, 1, none⟩)) = some (.int .i64 x.2.1) := load_g (o := 1) (H2.cell (List.mem_cons_self ..))
    have hbu : buildV [.int .i64 0, .int .i64 0] [(0, 1, .int .i64 x.1), (1, 1, .int .i64 x.2.1)] = some (keyV (cellI x)) := rfl
    have H3 := H2.new [.int .i64 0, .int .i64 0]
    have st2 : storeV (newAt s2 (.cells [.int .i64 0, .int .i64 0] false)) 2 (.pointer (some ⟨s2.nxt, 0, none⟩)) (keyV (cellI x)) = some (undefV, setBlk (newAt s2 (.cells [.int .i64 0, .int .i64 0] false)) s2.nxt (.cells (cC x) false)) := store_all (n := 2) (vs := cC x) (H3.cell (List.mem_cons_self ..)) rfl rfl rfl
    have H4 := H3.setc (cs' := cC x)
    refine qak (qan [1, 5, 6, 8, 9, 15, 16, 17] ?_)
    simp only [o17_7, WO_alloc, WO_build, WO_fieldAddr, fieldAddr_p, WO_load, WO_store, qaj, qag, MemK_some, qad, puT_none, qaf, qab, qaa, qac, List.map_cons, List.map_nil, Nat.reduceEqDiff, ↓reduceIte, eq_self, Nat.zero_add, Nat.add_zero, e1, e5, e6, e8, e15, e16, e17, l0, l1, hbu, st2]
    clear e1 e5 e6 e8 e15 e16 e17
    intro fr e1 e5 e6 e8 e9 e15 e16 e17
    refine qai ?_
    clear st2 H3 l0 l1
    generalize setBlk (newAt s2 (.cells [.int .i64 0, .int .i64 0] false)) s2.nxt (.cells (cC x) false) = s3 at H4 ⊢
    generalize s2.nxt = Bc at H4 e9
    have l0 : loadV s3 none (.pointer (some ⟨Bs, 0, none⟩)) = some (.int .i64 x.1) := load_g (o := 0) (H4.cell (B := Bs) (cs := eI x) (by simp))
    have l1 : loadV s3 none (.pointer (some ⟨Bs, 1, none⟩)) = some (.int .i64 x.2.1) := load_g (o := 1) (H4.cell (B := Bs) (cs := eI x) (by simp))
    have lt : loadV s3 none (.pointer (some ⟨Bt, 0, none⟩)) = some (.map (some Bm)) := load_g (o := 0) (H4.cell (B := Bt) (cs := [.map (some Bm)]) (by simp))
    have lc : loadV s3 (some 2) (.pointer (some ⟨Bc, 0, none⟩)) = some (keyV (cellI x)) := (loadn_all (H4.cell (List.mem_cons_self ..)) rfl).trans rfl
    have lk := H4.look (B := Bm) (f := f) (by simp) (cellI x)
    have hkt : ATy.struct [(0, none, .int), (1, none, .int)] = pairT := rfl
    have hmem := hM.mem (cellI x)
    refine qau ?_
    refine qak (W_opsB [1, 5, 6, 8, 9, 15, 16, 17, 45] (fun fr s' => s3 = s' ∧ geT fr 1 = .int .i64 B ∧ geT fr 5 = .pointer (some ⟨Bt, 0, none⟩) ∧ geT fr 6 = .pointer (some ⟨Ba, 0, none⟩) ∧ geT fr 8 = .pointer (some ⟨Bs, 0, none⟩) ∧ geT fr 9 = .pointer (some ⟨Bc, 0, none⟩) ∧ geT fr 15 = v ∧ geT fr 16 = .int .i64 (L.length : Nat) ∧ geT fr 17 = .int .i64 (i : Nat) ∧
      geT fr 45 = .bool (!decide (okI B x ∧ cellI x ∉ acc.map cellI))) ?_ ?_)
    · intro R' hR'
      by_cases h1 : x.1 < 0
      · simp only [o17_8, qao, WO_fieldAddr, fieldAddr_p, WO_load, qah, WO_pick, pick_b, bin_lss, qaj, qag, WO_guard, want_v, wantB_f, qad, qaf, qae, qab, qaa, qac, Nat.reduceEqDiff, ↓reduceIte, Bool.not_true, eq_self, Bool.false_eq_true, Nat.add_zero, e1, e5, e6, e8, e9, e15, e16, e17, l0, hkt, decide_eq_true h1]
        intro fr e1 e5 e6 e8 e9 e15 e16 e17 e45
        exact hR' _ _ ⟨rfl, e1, e5, e6, e8, e9, e15, e16, e17, by rw [e45, decide_eq_false (fun h => by have := h.1.1; omega)]; rfl⟩
      · by_cases h2 : B ≤ x.1
        · simp only [o17_8, qao, WO_fieldAddr, fieldAddr_p, WO_load, qah, WO_pick, pick_b, bin_geq, bin_lss, qaj, qag, WO_guard, want_v, wantB_f, qad, qaf, qae, qab, qaa, qac, Nat.reduceEqDiff, ↓reduceIte, Bool.not_true, Bool.not_false, eq_self, Bool.false_eq_true, Nat.add_zero, e1, e5, e6, e8, e9, e15, e16, e17, l0, hkt, decide_eq_false h1, decide_eq_true h2]
          intro fr e1 e5 e6 e8 e9 e15 e16 e17 e45
          exact hR' _ _ ⟨rfl, e1, e5, e6, e8, e9, e15, e16, e17, by rw [e45, decide_eq_false (fun h => by have := h.1.2.1; omega)]; rfl⟩
        · by_cases h3 : x.2.1 < 0
          · simp only [o17_8, qao, WO_fieldAddr, fieldAddr_p, WO_load, qah, WO_pick, pick_b, bin_geq, bin_lss, qaj, qag, WO_guard, want_v, wantB_f, qad, qaf, qae, qab, qaa, qac, Nat.reduceEqDiff, ↓reduceIte, Bool.not_true, Bool.not_false, eq_self, Bool.false_eq_true, Nat.zero_add, Nat.add_zero, e1, e5, e6, e8, e9, e15, e16, e17, l0, l1, hkt, decide_eq_false h1, decide_eq_false h2, decide_eq_true h3]
            intro fr e1 e5 e6 e8 e9 e15 e16 e17 e45
            exact hR' _ _ ⟨rfl, e1, e5, e6, e8, e9, e15, e16, e17, by rw [e45, decide_eq_false (fun h => by have := h.1.2.2; omega)]; rfl⟩
          · simp only [o17_8, qao, WO_fieldAddr, fieldAddr_p, WO_load, WO_lookup, qah, WO_pick, pick_b, bin_geq, bin_gtr, bin_lss, qaj, qag, WO_guard, want_v, wantB_f, qad, qaf, qae, qab, qaa, qac, Nat.reduceEqDiff, ↓reduceIte, Bool.not_false, eq_self, Bool.false_eq_true, Nat.zero_add, Nat.add_zero, e1, e5, e6, e8, e9, e15, e16, e17, l0, l1, lt, lc, hkt, lk, decide_eq_false h1, decide_eq_false h2, decide_eq_false h3, hmem]
            intro fr e1 e5 e6 e8 e9 e15 e16 e17 e45
            refine hR' _ _ ⟨rfl, e1, e5, e6, e8, e9, e15, e16, e17, ?_⟩
            rw [e45]
            refine congrArg Value.bool ?_
            by_cases h4 : cellI x ∈ acc.map cellI
            · rw [decide_eq_true h4, decide_eq_false (fun h => h.2 h4)]; rfl
            · rw [decide_eq_false h4, decide_eq_true (show okI B x ∧ cellI x ∉ acc.map cellI from ⟨⟨by omega, by omega, by omega⟩, h4⟩)]; rfl
    clear e1 e5 e6 e8 e9 e15 e16 e17 fr
    rintro fr _ ⟨rfl, e1, e5, e6, e8, e9, e15, e16, e17, e45⟩
    refine qai ?_
    refine qak (W_ifn e45 (fun hno => ?_) (fun hyes => W_skip (qai ?_)))
    · rw [if_neg hno] at hdd
      refine W_exit (SeqK_x (BlkK_e (qai ?_)))
      refine qan [1, 5, 6, 15, 16, 17] ?_
      simp only [o17_11, qao, qah, qax, qaj, qag, qad, qaf, qae, qab, qaa, qac, Nat.reduceEqDiff, ↓reduceIte, eq_self, e1, e5, e6, e15, e16, e17, qal (n := (i : Int) + 1) (by omega) (by omega)]
      clear e1 e5 e6 e15 e16 e17
      intro fr e1 e5 e6 e15 e16 e17
      exact LoopK_n (m' := m - 1) (by omega) ⟨i + 1, av, acc, f, by omega, by omega, hdd, hM, e1, e5, e6, e15, e16, by rw [e17]; rfl, H4.tail.tail⟩
    · rw [if_pos hyes] at hdd
      have H5 := H4.up4
      obtain ⟨av', s4, ap, H6⟩ := H5.push (bytes := 24) (new := eI x) rfl rfl (by omega) (by decide) (by omega) (by omega) (by omega)
      have hog : oneCell av' = true := (H6.own (List.mem_cons_self ..)).one
      have la : loadV s3 none (.pointer (some ⟨Ba, 0, none⟩)) = some av := load_g (o := 0) (H4.cell (B := Ba) (cs := [av]) (by simp))
      have lx : loadV s3 (some 3) (.pointer (some ⟨Bs, 0, none⟩)) = some (sI x) := (loadn_all (H4.cell (B := Bs) (cs := eI x) (by simp)) rfl).trans rfl
      have st : storeV s4 1 (.pointer (some ⟨Ba, 0, none⟩)) av' = some (undefV, setBlk s4 Ba (.cells [av'] false)) := store_g (cs := [av]) (H6.cell (by simp)) hog Nat.zero_lt_one
      have H7 := (H6.up4).setc (cs' := [av'])
      refine qak (qan [1, 5, 6, 9, 15, 16, 17] ?_)
      simp only [o17_9, WO_append, WO_buildSlice, WO_load, WO_store, qaj, qag, MemK_some, NewK_some, qad, puT_none, qaf, qab, qaa, qac, List.map_cons, List.map_nil, Nat.reduceEqDiff, ↓reduceIte, eq_self, Nat.zero_mul, e1, e5, e6, e8, e9, e15, e16, e17, la, lx, buildSl_sI, ap, st]
      clear e1 e5 e6 e8 e9 e15 e16 e17 e45
      intro fr e1 e5 e6 e9 e15 e16 e17
      refine qai ?_
      generalize setBlk s4 Ba (.cells [av'] false) = s5 at H7 ⊢
      clear st ap H6 H5 la lx l0 l1 lt lc lk
      have lt : loadV s5 none (.pointer (some ⟨Bt, 0, none⟩)) = some (.map (some Bm)) := load_g (o := 0) (H7.cell (B := Bt) (cs := [.map (some Bm)]) (by simp))
      have lc : loadV s5 (some 2) (.pointer (some ⟨Bc, 0, none⟩)) = some (keyV (cellI x)) := (loadn_all (H7.cell (B := Bc) (cs := cC x) (by simp)) rfl).trans rfl
      have la : loadV s5 none (.pointer (some ⟨Ba, 0, none⟩)) = some av' := load_g (o := 0) (H7.cell (List.mem_cons_self ..))
      have hlen := (H7.own (sz := 3) (v := av') (n := acc.length + 1) (cs := acc.flatMap eI ++ eI x) (by simp)).slc.len
      obtain ⟨s6, pt, H8⟩ := (H7.up4).put (cellI x) ((acc.length + 1 : Nat) : Int)
      have H9 := H8.up4.tail.up3.tail
      rw [show acc.flatMap eI ++ eI x = (acc ++ [x]).flatMap eI by simp, show acc.length + 1 = (acc ++ [x]).length by simp] at H9
      refine qan [1, 5, 6, 15, 16, 17] ?_
      simp only [o17_10, WO_bu, WO_load, WO_mapPut, qaj, qag, MemK_some, qad, puT_none, qaf, qab, qaa, qac, List.map_cons, List.map_nil, Nat.reduceEqDiff, ↓reduceIte, eq_self, e1, e5, e6, e9, e15, e16, e17, lt, lc, la, hkt, hlen, pt]
      clear e1 e5 e6 e9 e15 e16 e17
      intro fr e1 e5 e6 e15 e16 e17
      refine BlkK_n (qai ?_)
      refine qan [1, 5, 6, 15, 16, 17] ?_
      simp only [o17_11, qao, qah, qax, qaj, qag, qad, qaf, qae, qab, qaa, qac, Nat.reduceEqDiff, ↓reduceIte, eq_self, e1, e5, e6, e15, e16, e17, qal (n := (i : Int) + 1) (by omega) (by omega)]
      clear e1 e5 e6 e15 e16 e17
      intro fr e1 e5 e6 e15 e16 e17
      refine LoopK_n (m' := m - 1) (by omega) ⟨i + 1, av', acc ++ [x], _, by omega, by simp; omega, hdd, ?_, e1, e5, e6, e15, e16, by rw [e17]; rfl, H9⟩
      have := hM.add hyes.2
      simpa using this
  · have hiL : i = L.length := by omega
    subst hiL
    rw [List.drop_length] at hdd
    have hdd2 : acc = ddP B L [] := hdd
    subst hdd2
    exact LoopK_x (BlkK_e (hQ _ _ av f e1 e5 e6 hM H))
end Go.Proofs.Ytpphomoijlilfaa.G

/- Peaks: Groups' flood. -/
namespace Go.Proofs.Ytpphomoijlilfaa.G
open Go Go.Vam Go.Hang
theorem len_le_of_sub : ∀ (q all : List SpI), q.Nodup → (∀ x ∈ q, x ∈ all) → q.length ≤ all.length := by
  intro q
  induction q with
  | nil => intro all _ _; simp
  | cons x q ih =>
    intro all hn hs
    rw [List.nodup_cons] at hn
    have hx := hs x (by simp)
    have := ih (all.erase x) hn.2 fun y hy => (List.mem_erase_of_ne (fun e => hn.1 (by rw [← e]; exact hy))).2 (hs y (by simp [hy]))
    rw [List.length_erase_of_mem hx] at this
    have : 0 < all.length := List.length_pos_of_mem hx
    simp only [List.length_cons]
    omega
theorem same_cell {all : List SpI} (hN : (all.map cellI).Nodup) {x y : SpI} (hx : x ∈ all) (hy : y ∈ all) (h : cellI x = cellI y) : x = y := by
  induction all with
  | nil => simp at hx
  | cons z all ih =>
    rw [List.map_cons, List.nodup_cons] at hN
    rcases List.mem_cons.1 hx with e | hx'
    · rcases List.mem_cons.1 hy with e' | hy'
      · rw [e, e']
      · exact absurd (List.mem_map.2 ⟨y, hy', by rw [← h, e]⟩) hN.1
    · rcases List.mem_cons.1 hy with e' | hy'
      · exact absurd (List.mem_map.2 ⟨x, hx', by rw [h, e']⟩) hN.1
      · exact ih hN.2 hx' hy'
def FI (all : List SpI) (T : SpI → Prop) (f : FM) (q : List SpI) : Prop := ∀ c n, f c = some n ↔ ∃ (i : Nat) (x : SpI), all[i]? = some x ∧ cellI x = c ∧ n = (i : Int) + 1 ∧ ¬ T x ∧ x ∉ q
theorem FI.take {all : List SpI} {T : SpI → Prop} {f : FM} {q : List SpI} (hN : (all.map cellI).Nodup) (h : FI all T f q) {x : SpI} (hx : x ∈ all) : FI all T (visF f (cellI x)) (q ++ [x]) := by
  intro c n
  unfold visF
  by_cases hc : c = cellI x
  · rw [if_pos hc]
    constructor
    · intro h; cases h
    · rintro ⟨i, z, h1, h2, _, _, h5⟩
      have := same_cell hN hx (List.mem_of_getElem? h1) (hc.symm.trans h2.symm)
      subst this
      exact absurd (by simp) h5
  · rw [if_neg hc, h c n]
    constructor
    · rintro ⟨i, z, h1, h2, h3, h4, h5⟩
      refine ⟨i, z, h1, h2, h3, h4, fun hm => ?_⟩
      rcases List.mem_append.1 hm with hm | hm
      · exact h5 hm
      · simp at hm; subst hm; exact hc h2.symm
    · rintro ⟨i, z, h1, h2, h3, h4, h5⟩
      exact ⟨i, z, h1, h2, h3, h4, fun hm => h5 (List.mem_append_left _ hm)⟩
def psF (Bm Bg Bt Ba : Nat) (f : FM) (gv av : Value) (q all : List SpI) : List HP :=
  [HP.map Bm f, HP.cell Bg [gv], HP.own 3 gv q.length (q.flatMap eI), HP.cell Bt [.map (some Bm)], HP.cell Ba [av], HP.own 3 av all.length (all.flatMap eI)]
def AskF (Bm Bg Bt Ba : Nat) (av : Value) (B : Int) (all : List SpI) (T : SpI → Prop) (x0 y : SpI) (k : Nat) (pre : List (Nat × Int)) (ps : List HP) : Prop :=
  ∃ gv q f, ps = psF Bm Bg Bt Ba f gv av q all ∧ Flood all (adj B) T x0 q k ∧ FI all T f q ∧ q[k]? = some y ∧ ∀ c ∈ pre.map kC, ∀ z ∈ all, cellI z = c → ¬ T z → z ∈ q
theorem ask36 {X : Ctx} (hX : X.fns = fnsOf Try.prog) (ho : ∀ f args, f ≠ 15 ∧ f ≠ 38 → X.orc f args = none) {s0 s : Mm} {l ps : List HP} {Bm Bg Bt Ba : Nat} {av : Value} {B : Int} {all : List SpI} {T : SpI → Prop} {x0 y : SpI} {k : Nat} {pre : List (Nat × Int)} {c : Nat × Int} (hN : (all.map cellI).Nodup) (hall : all.length ≤ 5864062014634)
    (hc : c ∈ nbrs y.1.toNat y.2.1 B.toNat) (hA : AskF Bm Bg Bt Ba av B all T x0 y k pre ps) (H : Hold s0 s (ps ++ l)) :
    CallP X 36 ([cellV c] ++ (#[.pointer (some ⟨Bt, 0, none⟩), .pointer (some ⟨Bg, 0, none⟩), .pointer (some ⟨Ba, 0, none⟩)] : Array Value).toList) s (fun _ s' => ∃ ps', AskF Bm Bg Bt Ba av B all T x0 y k (pre ++ [c]) ps' ∧ Hold s0 s' (ps' ++ l)) := by
  obtain ⟨gv, q, f, rfl, hF, hI, hk, hp⟩ := hA
  have hq : q.length ≤ all.length := len_le_of_sub _ _ hF.nodup fun x hx => (hF.sub x hx).1
  obtain ⟨r, s', h1, gv', H'⟩ := run36 hX ho (Bt := Bt) (Ba := Ba) (av := av) (all := all) (c := c) (f := f) (q := q) (l := [HP.cell Bt [.map (some Bm)], HP.cell Ba [av], HP.own 3 av all.length (all.flatMap eI)] ++ l) H (by simp) (by simp) (by simp)
    (fun n hn => by
      obtain ⟨i, x, g1, _, g3, _⟩ := (hI _ n).1 hn
      have := (List.getElem?_eq_some_iff.1 g1).1
      omega) (by omega) hall
  refine ⟨r, s', h1, psF Bm Bg Bt Ba (visF f (kC c)) gv' av (visQ f all q (kC c)) all, ⟨gv', visQ f all q (kC c), visF f (kC c), rfl, ?_⟩, H'⟩
  cases hf : f (kC c) with
  | none =>
    have hq' : visQ f all q (kC c) = q := by unfold visQ; rw [hf]
    rw [visF_none hf, hq']
    refine ⟨hF, hI, hk, fun d hd z hz hzc hT => ?_⟩
    rw [List.map_append, List.mem_append] at hd
    rcases hd with hd | hd
    · exact hp d hd z hz hzc hT
    · simp at hd
      subst hd
      by_cases hzq : z ∈ q
      · exact hzq
      · obtain ⟨i, hi, e⟩ := List.getElem_of_mem hz
        have := (hI (kC c) ((i : Int) + 1)).2 ⟨i, z, by rw [List.getElem?_eq_getElem hi, e], hzc, rfl, hT, hzq⟩
        rw [hf] at this; cases this
  | some n =>
    obtain ⟨i, x, g1, g2, g3, g4, g5⟩ := (hI _ n).1 hf
    have hx : atI all (n - 1).toNat = x := by
      have : (n - 1).toNat = i := by omega
      rw [this]; unfold atI; rw [g1]; rfl
    have hq' : visQ f all q (kC c) = q ++ [x] := by unfold visQ; rw [hf]; simp only [hx]
    have hxa := List.mem_of_getElem? g1
    rw [hq', ← g2]
    refine ⟨hF.more hk hxa (show cellI x ∈ nbI B y by unfold nbI; rw [g2]; exact List.mem_map.2 ⟨c, hc, rfl⟩) g4 g5, hI.take hN hxa, ?_, fun d hd z hz hzc hT => ?_⟩
    · rw [List.getElem?_append_left (List.getElem?_eq_some_iff.1 hk).1]; exact hk
    · rw [List.map_append, List.mem_append] at hd
      rcases hd with hd | hd
      · exact List.mem_append_left _ (hp d hd z hz hzc hT)
      · simp at hd
        subst hd
        have := same_cell hN hxa hz (g2.trans hzc.symm)
        subst this
        simp
end Go.Proofs.Ytpphomoijlilfaa.G

/- Peaks: Groups' flood, walked. -/
namespace Go.Proofs.Ytpphomoijlilfaa.G
open Go Go.Vam Go.Hang
theorem WD_mkFunc {X : Ctx} {d : Option Tmp} {l : List DOper} {fr : Fr} {s : Mm} {Q : Fr → Mm → Prop} {i pre nid : Nat} {hist : List Mm} {acts : List Nat} {flt : List (Nat × Nat × ABlk)} {ws : List (Nat × (Mm → Bool))} {fn : Fn} {a b : List Operand} :
    WD X (⟨⟨.mkFunc fn a b, d, none⟩, pre⟩ :: l) i fr s hist acts flt nid ws Q = WD X l (i + 1) (puT fr d (.func fn (a.map (evO fr)).toArray (b.map (evO fr)).toArray)) s hist acts flt nid ws Q := by
  show DPureK X (some _) d l i fr s hist acts flt nid ws Q = _
  rw [qam]
set_option maxHeartbeats 4000000 in
theorem loop17b {X : Ctx} (hX : X.fns = fnsOf Try.prog) (ho : ∀ f args, f ≠ 15 ∧ f ≠ 38 → X.orc f args = none) {fr : Fr} {s0 s : Mm} {l : List HP} {Bm Bg Bt Ba : Nat} {gv av ov w56 w57 : Value} {B : Int} {all : List SpI} {T : SpI → Prop} {x0 : SpI} {f : FM} {Q : AExit → Fr → Mm → Prop}
    (hB : 1 ≤ B ∧ B ≤ 9223372036854775807) (hok : ∀ x ∈ all, okI B x ∧ wI x) (hN : (all.map cellI).Nodup) (hall : all.length ≤ 5864062014634) (hT : ∀ x ∈ all, T x → ∀ y ∈ all, adj B x y → T y)
    (e1 : geT fr 1 = .int .i64 B) (e5 : geT fr 5 = .pointer (some ⟨Bt, 0, none⟩)) (e6 : geT fr 6 = .pointer (some ⟨Ba, 0, none⟩)) (e10 : geT fr 10 = ov) (e12 : geT fr 12 = .pointer (some ⟨Bg, 0, none⟩)) (e13 : geT fr 13 = .int .i64 0) (e56 : geT fr 56 = w56) (e57 : geT fr 57 = w57)
    (hF : Flood all (adj B) T x0 [x0] 0) (hI : FI all T f [x0])
    (H : Hold s0 s (psF Bm Bg Bt Ba f gv av [x0] all ++ l))
    (hQ : ∀ fr s gv q f, geT fr 1 = .int .i64 B → geT fr 5 = .pointer (some ⟨Bt, 0, none⟩) → geT fr 6 = .pointer (some ⟨Ba, 0, none⟩) → geT fr 10 = ov → geT fr 12 = .pointer (some ⟨Bg, 0, none⟩) → geT fr 56 = w56 → geT fr 57 = w57 →
      Flood all (adj B) T x0 q q.length → FI all T f q → Hold s0 s (psF Bm Bg Bt Ba f gv av q all ++ l) → Q .normal fr s) :
    W X (.block 4 (.loop b17_21)) fr s Q := by
  refine qat (W_loop (fun m fr s1 => ∃ (k : Nat) (gv : Value) (q : List SpI) (f : FM), k + m = all.length + 1 ∧ k ≤ q.length ∧
    geT fr 1 = .int .i64 B ∧ geT fr 5 = .pointer (some ⟨Bt, 0, none⟩) ∧ geT fr 6 = .pointer (some ⟨Ba, 0, none⟩) ∧ geT fr 10 = ov ∧ geT fr 12 = .pointer (some ⟨Bg, 0, none⟩) ∧ geT fr 13 = .int .i64 (k : Nat) ∧ geT fr 56 = w56 ∧ geT fr 57 = w57 ∧
    Flood all (adj B) T x0 q k ∧ FI all T f q ∧ Hold s0 s1 (psF Bm Bg Bt Ba f gv av q all ++ l)) (all.length + 1) ⟨0, gv, [x0], f, by omega, by simp, e1, e5, e6, e10, e12, e13, e56, e57, hF, hI, H⟩ ?_)
  clear e1 e5 e6 e10 e12 e13 e56 e57 fr H s hF hI gv f
  rintro m fr s1 ⟨k, gv, q, f, hk, hkq, e1, e5, e6, e10, e12, e13, e56, e57, hF, hI, H⟩
  have hq : q.length ≤ all.length := len_le_of_sub _ _ hF.nodup fun x hx => (hF.sub x hx).1
  have lg : loadV s1 none (.pointer (some ⟨Bg, 0, none⟩)) = some gv := load_g (o := 0) (H.cell (B := Bg) (cs := [gv]) (by simp [psF]))
  have sg := (H.own (sz := 3) (v := gv) (n := q.length) (cs := q.flatMap eI) (by simp [psF])).slc
  refine qau ?_
  refine qak (qan [1, 5, 6, 10, 12, 13, 56, 57, 94] ?_)
  simp only [o17_22, qao, WO_bu, WO_load, qah, bin_lss, qaj, qag, qad, qaf, qab, qaa, qac, List.map_cons, List.map_nil, Nat.reduceEqDiff, ↓reduceIte, eq_self, e1, e5, e6, e10, e12, e13, e56, e57, lg, sg.len]
  clear e1 e5 e6 e10 e12 e13 e56 e57
  intro fr e1 e5 e6 e10 e12 e13 e56 e57 e94
  refine qai ?_
  refine W_while e94 (fun hlt => ?_) (fun hlt => ?_)
  · have hk1 : k < q.length := by omega
    obtain ⟨y, hy⟩ : ∃ y, q[k]? = some y := ⟨q[k], List.getElem?_eq_getElem hk1⟩
    have hya := (hF.sub y (List.mem_of_getElem? hy)).1
    obtain ⟨⟨y1, y2, y3⟩, wy⟩ := hok y hya
    have hat : atI q k = y := by unfold atI; rw [hy]; rfl
    have A := sg.addr (kk := .i64) (i := (k : Int)) rfl hk1
    have p0 := sg.fld (by omega : 0 < q.length) (k * 3) 0
    have p1 := sg.fld (by omega : 0 < q.length) (k * 3) 1
    rw [Nat.add_zero] at p0
    obtain ⟨f0, f1, _⟩ := flatI hk1
    rw [hat] at f0 f1
    have l0 := sg.load f0
    have l1 := sg.load f1
    have hbu : buildV [.int .i64 0, .int .i64 0] [(0, 1, .int .i64 y.1), (1, 1, .int .i64 y.2.1)] = some (cellV (y.1.toNat, y.2.1)) := by
      show some (Value.agg #[.int .i64 y.1, .int .i64 y.2.1]) = some (Value.agg #[.int .i64 ((y.1.toNat : Nat) : Int), .int .i64 y.2.1])
      rw [Int.toNat_of_nonneg y1]
    have hBn : ((B.toNat : Nat) : Int) = B := Int.toNat_of_nonneg (by omega)
    refine qak (qat ?_)
    have hcall := run30 hX ho (s0 := s0) (s := s1) (ps0 := psF Bm Bg Bt Ba f gv av q all) (l := l) (Ψ := AskF Bm Bg Bt Ba av B all T x0 y k) (gf := 36) (fa := #[.pointer (some ⟨Bt, 0, none⟩), .pointer (some ⟨Bg, 0, none⟩), .pointer (some ⟨Ba, 0, none⟩)])
      (b := y.1.toNat) (B := B.toNat) (g := y.2.1) (by omega) (by omega) ⟨gv, q, f, rfl, hF, hI, hy, fun c hc => by simp at hc⟩ H (fun pre c s ps l hc _ hA hH => ask36 hX ho hN hall hc hA hH)
    rw [hBn] at hcall
    refine qbb [1, 5, 6, 10, 12, 13, 56, 57] rfl ?_
    simp only [d17_23, qay, WD_build, WD_call, WD_fieldAddr, WD_load, WD_mkFunc, qba, qam, qas, qaw, qar, qap, qad, qaf, List.map_cons, List.map_nil, Nat.reduceEqDiff, Nat.reduceAdd, ↓reduceIte, eq_self, true_and, Nat.zero_add, e1, e5, e6, e12, e13, lg, A, p0, p1, l0, l1, hbu, WD_mkFunc]
    refine DCallK_of rfl hcall ?_
    rintro _ s2 ⟨ps', u, w, ⟨gv', q', f', rfl, hF', hI', hk', hp'⟩, H2⟩
    simp only [WD_nil, qar, qaq, qap, Nat.testBit, Nat.reduceShiftRight, Nat.reduceAnd, Nat.reduceBneDiff, List.all_nil, List.all_cons, List.filter_nil, List.filter_cons, qad, qab, qaa, qac, Nat.reduceEqDiff, Nat.reduceAdd, ↓reduceIte, Bool.not_true, Bool.and_true, Bool.true_or, eq_self, Bool.false_eq_true, true_and, e1, e5, e6, e10, e12, e13, e56, e57]
    clear e1 e5 e6 e10 e12 e13 e56 e57
    intro fr e1 e5 e6 e10 e12 e13 e56 e57
    refine BlkK_n (qai ?_)
    have H3 := H2.up6.tail.up6.tail
    refine qan [1, 5, 6, 10, 12, 13, 56, 57] ?_
    simp only [o17_24, qao, qah, qax, qaj, qag, qad, qaf, qae, qab, qaa, qac, Nat.reduceEqDiff, ↓reduceIte, eq_self, e1, e5, e6, e10, e12, e13, e56, e57, qal (n := (k : Int) + 1) (by omega) (by omega)]
    clear e1 e5 e6 e10 e12 e13 e56 e57
    intro fr e1 e5 e6 e10 e12 e13 e56 e57
    refine LoopK_n (m' := m - 1) (by omega) ⟨k + 1, gv', q', f', by omega, (List.getElem?_eq_some_iff.1 hk').1, e1, e5, e6, e10, e12, by rw [e13]; rfl, e56, e57, hF'.next hk' (fun z hz hr => ?_), hI', H3⟩
    exact hp' (cellI z) hr z hz rfl (fun ht => (hF'.sub y (List.mem_of_getElem? hk')).2.2 (hT z hz ht y hya (adj_symm ⟨y1, y2, y3⟩ (hok z hz).1 wy (hok z hz).2 hr)))
  · have hkl : k = q.length := by omega
    subst hkl
    exact LoopK_x (BlkK_e (hQ _ _ gv q f e1 e5 e6 e10 e12 e56 e57 hF hI H))
end Go.Proofs.Ytpphomoijlilfaa.G
