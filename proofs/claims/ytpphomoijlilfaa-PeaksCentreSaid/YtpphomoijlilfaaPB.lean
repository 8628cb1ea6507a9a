/- Peaks: neighbours, the order; what tops are. -/
import Derived.Test.YtpphomoijlilfaaPA
import Derived.Test.YtpphomoijlilfaaFlB
import Derived.Test.YtpphomoijlilfaaWpB
namespace Go.Proofs.Ytpphomoijlilfaa
open Go Go.Vam

def aheadB (x y : Spot) : Bool := decide (x.1 < y.1) || (decide (x.1 = y.1) && decide (x.2.1 < y.2.1))
def dN (x y : Spot) (B : Nat) : Nat := (x.1 + B - y.1) % B
def eN (x y : Spot) : Int := (x.2.1 : Int) - y.2.1
def nextB (x y : Spot) (B : Nat) : Bool := (decide (dN x y B ≤ 1) || decide (dN x y B = B - 1)) && (decide (-1 ≤ eN x y) && (decide (eN x y ≤ 1) && (decide (dN x y B ≠ 0) || decide (eN x y ≠ 0))))
def sV (x : Spot) : Value := .agg #[.int .i64 (x.1 : Nat), .int .i64 (x.2.1 : Nat), .float .f64 x.2.2]

theorem tmod_sub {x y B : Nat} (hx : x < B) (hy : y < B) : ((x : Int) - y).tmod (B : Nat) = (x : Int) - y := by
  rcases Nat.le_total y x with h | h
  · have e : (x : Int) - y = ((x - y : Nat) : Int) := by omega
    rw [e, ← Int.ofNat_tmod, Nat.mod_eq_of_lt (by omega)]
  · have e : (x : Int) - y = -((y - x : Nat) : Int) := by omega
    rw [e, Int.neg_tmod, ← Int.ofNat_tmod, Nat.mod_eq_of_lt (by omega)]

theorem tmod_add {x y B : Nat} (hx : x < B) (hy : y < B) : ((x : Int) - y + (B : Nat)).tmod (B : Nat) = (((x + B - y) % B : Nat) : Int) := by
  have e : (x : Int) - y + (B : Nat) = ((x + B - y : Nat) : Int) := by omega
  rw [e, ← Int.ofNat_tmod]

theorem mem_bins3 {b B x : Nat} : x ∈ bins3 b B ↔ x = b ∨ x = binsL b B ∨ x = binsR b B := by
  have h2 : ∀ y, y ∈ bins2 b B ↔ y = b ∨ y = binsL b B := by
    intro y
    unfold bins2
    split
    · rename_i h
      simp at h
      simp [h]
    · simp
  unfold bins3
  split
  · rename_i h
    rw [h2] at h ⊢
    constructor
    · rintro (h | h)
      · exact .inl h
      · exact .inr (.inl h)
    · rintro (h' | h' | h')
      · exact .inl h'
      · exact .inr h'
      · rw [h']; exact h
  · rw [List.mem_append, h2]
    simp only [List.mem_singleton]
    constructor
    · rintro ((h | h) | h)
      · exact .inl h
      · exact .inr (.inl h)
      · exact .inr (.inr h)
    · rintro (h | h | h)
      · exact .inl (.inl h)
      · exact .inl (.inr h)
      · exact .inr h

theorem mem_nbrs {b B : Nat} {g : Int} {c : Nat × Int} : c ∈ nbrs b g B ↔ (c.1 = b ∨ c.1 = binsL b B ∨ c.1 = binsR b B) ∧ (-1 ≤ c.2 - g ∧ c.2 - g ≤ 1) ∧ (c.1 ≠ b ∨ c.2 ≠ g) := by
  unfold nbrs
  rw [List.mem_flatMap]
  constructor
  · rintro ⟨b', h1, h2⟩
    rw [mem_bins3] at h1
    unfold rowUp at h2
    rw [List.mem_filterMap] at h2
    obtain ⟨e, he, h3⟩ := h2
    have he' : e = -1 ∨ e = 0 ∨ e = 1 := by simpa using he
    split at h3
    · rename_i hc
      cases h3
      refine ⟨h1, ?_, ?_⟩
      · simp only; omega
      · simp only
        rcases hc with hc | hc
        · exact .inl hc
        · right; omega
    · cases h3
  · rintro ⟨h1, h2, h3⟩
    refine ⟨c.1, mem_bins3.2 h1, ?_⟩
    unfold rowUp
    rw [List.mem_filterMap]
    refine ⟨c.2 - g, ?_, ?_⟩
    · have : c.2 - g = -1 ∨ c.2 - g = 0 ∨ c.2 - g = 1 := by omega
      simpa using this
    · rw [if_pos]
      · congr 1
        apply Prod.ext
        · rfl
        · simp only; omega
      · rcases h3 with h3 | h3
        · exact .inl h3
        · right; omega

theorem bins_sym {b c B : Nat} (hb : b < B) (hc : c < B) (h : c = b ∨ c = binsL b B ∨ c = binsR b B) : b = c ∨ b = binsL c B ∨ b = binsR c B := by
  unfold binsL binsR at *
  rcases h with h | h | h
  · exact .inl h.symm
  · split at h <;> (repeat' split) <;> omega
  · split at h <;> (repeat' split) <;> omega

theorem dN_bins {x y : Spot} {B : Nat} (hx : x.1 < B) (hy : y.1 < B) (h : dN x y B ≤ 1 ∨ dN x y B = B - 1) : y.1 = x.1 ∨ y.1 = binsL x.1 B ∨ y.1 = binsR x.1 B := by
  have hd : dN x y B = if y.1 ≤ x.1 then x.1 - y.1 else x.1 + B - y.1 := by
    unfold dN
    split
    · have e : x.1 + B - y.1 = (x.1 - y.1) + B := by omega
      rw [e, Nat.add_mod_right, Nat.mod_eq_of_lt (by omega)]
    · rw [Nat.mod_eq_of_lt (by omega)]
  rw [hd] at h
  unfold binsL binsR
  split at h <;> (repeat' split) <;> omega

theorem dN_zero {x y : Spot} {B : Nat} (hx : x.1 < B) (hy : y.1 < B) : dN x y B = 0 ↔ x.1 = y.1 := by
  unfold dN
  by_cases h : y.1 ≤ x.1
  · have e : x.1 + B - y.1 = (x.1 - y.1) + B := by omega
    rw [e, Nat.add_mod_right, Nat.mod_eq_of_lt (by omega)]; omega
  · rw [Nat.mod_eq_of_lt (by omega)]; omega

theorem nextB_nbrs {x y : Spot} {B : Nat} (hx : x.1 < B) (hy : y.1 < B) (h : nextB x y B = true) : (y.1, (y.2.1 : Int)) ∈ nbrs x.1 x.2.1 B ∧ (x.1, (x.2.1 : Int)) ∈ nbrs y.1 y.2.1 B := by
  unfold nextB at h
  simp only [Bool.and_eq_true, Bool.or_eq_true, decide_eq_true_eq] at h
  obtain ⟨h1, h2, h3, h4⟩ := h
  unfold eN at h2 h3 h4
  have hb := dN_bins hx hy h1
  have hne : x.1 ≠ y.1 ∨ (x.2.1 : Int) ≠ y.2.1 := by
    rcases h4 with h4 | h4
    · left; intro e; exact h4 ((dN_zero hx hy).2 e)
    · right; omega
  constructor
  · rw [mem_nbrs]
    exact ⟨hb, ⟨by simp only; omega, by simp only; omega⟩, by simp only; omega⟩
  · rw [mem_nbrs]
    exact ⟨bins_sym hx hy hb, ⟨by simp only; omega, by simp only; omega⟩, by simp only; omega⟩

/-- All numbers of a map are floats. -/
def Fin64 (rows : List (List Nat)) : Prop := ∀ r ∈ rows, ∀ x ∈ r, x < 18446744073709551616

theorem vAt_lt {rows : List (List Nat)} (h : Fin64 rows) (b g : Nat) : vAt rows b g < 18446744073709551616 := by
  unfold vAt
  cases hb : rows[b]? with
  | none => simp
  | some r =>
    simp only [Option.getD_some]
    cases hg : r[g]? with
    | none => simp
    | some x => simp only [Option.getD_some]; exact h r (List.mem_of_getElem? hb) x (List.mem_of_getElem? hg)

theorem top_pos {rows : List (List Nat)} (hf : Fin64 rows) {b g : Nat} (h : topB rows b g = true) : ∃ k, fkey (vAt rows b g) = some k ∧ 0 < k := by
  unfold topB at h
  simp only [Bool.and_eq_true] at h
  obtain ⟨a, b', h1, h2, h3⟩ := (fgt_iff (vAt_lt hf b g) (by decide)).1 h.1
  rw [fkey_zero] at h2; cases h2
  exact ⟨a, h1, h3⟩

/-- Two tops are no neighbours. -/
theorem tops_apart {rows : List (List Nat)} (hf : Fin64 rows) {x y : Spot} (hx : x.1 < rows.length) (hy : y.1 < rows.length) (gx : x.2.1 < gatesN rows) (gy : y.2.1 < gatesN rows) (tx : topB rows x.1 x.2.1 = true) (ty : topB rows y.1 y.2.1 = true) : nextB x y rows.length = false := by
  cases hn : nextB x y rows.length with
  | false => rfl
  | true =>
    exfalso
    obtain ⟨n1, n2⟩ := nextB_nbrs hx hy hn
    obtain ⟨kx, k1, k2⟩ := top_pos hf tx
    obtain ⟨ky, k3, k4⟩ := top_pos hf ty
    unfold topB at tx ty
    simp only [Bool.and_eq_true, List.all_eq_true, Bool.not_eq_true'] at tx ty
    have b1 := tx.2 _ n1
    have b2 := ty.2 _ n2
    unfold beatB at b1 b2
    rw [decide_eq_true (by simp only; omega), Bool.true_and, decide_eq_true (by simp only; omega), Bool.true_and] at b1 b2
    have e1 : ((y.2.1 : Nat) : Int).toNat = y.2.1 := rfl
    have e2 : ((x.2.1 : Nat) : Int).toNat = x.2.1 := rfl
    simp only [e1] at b1
    simp only [e2] at b2
    unfold overB at b1 b2
    simp only [Bool.or_eq_false_iff] at b1 b2
    have lx := vAt_lt hf x.1 x.2.1
    have ly := vAt_lt hf y.1 y.2.1
    have g1 : ¬ kx < ky := fun h => by
      have := (fgt_iff ly lx).2 ⟨ky, kx, k3, k1, h⟩
      rw [this] at b1; exact absurd b1.1 (by simp)
    have g2 : ¬ ky < kx := fun h => by
      have := (fgt_iff lx ly).2 ⟨kx, ky, k1, k3, h⟩
      rw [this] at b2; exact absurd b2.1 (by simp)
    have hk : kx = ky := by omega
    have q1 := (feq_iff ly lx).2 ⟨kx, by rw [k3, hk], k1⟩
    have q2 := (feq_iff lx ly).2 ⟨kx, k1, by rw [k3, hk]⟩
    rw [q1, Bool.true_and] at b1
    rw [q2, Bool.true_and] at b2
    have c1 := b1.2
    have c2 := b2.2
    simp only [Bool.or_eq_false_iff, Bool.and_eq_false_iff, decide_eq_false_iff_not] at c1 c2
    have hne := (mem_nbrs.1 n1).2.2
    simp only at hne
    omega

/-- What a list of tops holds. -/
theorem high_mem {rows : List (List Nat)} {x : Spot} (h : x ∈ highF rows) : x.1 < rows.length ∧ x.2.1 < gatesN rows ∧ x.2.2 = vAt rows x.1 x.2.1 ∧ topB rows x.1 x.2.1 = true := by
  unfold highF highUp at h
  rw [List.mem_flatMap] at h
  obtain ⟨b, hb, h⟩ := h
  unfold highRow at h
  rw [List.mem_filterMap] at h
  obtain ⟨g, hg, h⟩ := h
  split at h
  · rename_i ht
    cases h
    exact ⟨by simpa using hb, by simpa using hg, rfl, ht⟩
  · cases h

theorem mem_high {rows : List (List Nat)} {b g : Nat} (hb : b < rows.length) (hg : g < gatesN rows) (h : topB rows b g = true) : (b, g, vAt rows b g) ∈ highF rows := by
  unfold highF highUp
  rw [List.mem_flatMap]
  refine ⟨b, by simpa using hb, ?_⟩
  unfold highRow
  rw [List.mem_filterMap]
  exact ⟨g, by simpa using hg, by rw [if_pos h]⟩

theorem high_sorted {rows : List (List Nat)} : (highF rows).Pairwise (fun x y => aheadB x y = true) := by
  unfold highF
  have row : ∀ b k, (highRow rows b k).Pairwise (fun x y => aheadB x y = true) ∧ ∀ x ∈ highRow rows b k, x.1 = b ∧ x.2.1 < k := by
    intro b k
    induction k with
    | zero => simp [highRow]
    | succ k ih =>
      rw [highRow_succ]
      split
      · refine ⟨?_, ?_⟩
        · rw [List.pairwise_append]
          refine ⟨ih.1, by simp, fun x hx y hy => ?_⟩
          simp at hy; subst hy
          obtain ⟨h1, h2⟩ := ih.2 x hx
          simp [aheadB, h1, h2]
        · intro x hx
          rcases List.mem_append.1 hx with hx | hx
          · have := ih.2 x hx; omega
          · simp at hx; subst hx; simp
      · rw [List.append_nil]
        exact ⟨ih.1, fun x hx => by have := ih.2 x hx; omega⟩
  have up : ∀ j, (highUp rows j).Pairwise (fun x y => aheadB x y = true) ∧ ∀ x ∈ highUp rows j, x.1 < j := by
    intro j
    induction j with
    | zero => simp [highUp]
    | succ j ih =>
      rw [highUp_succ]
      obtain ⟨r1, r2⟩ := row j (gatesN rows)
      refine ⟨?_, ?_⟩
      · rw [List.pairwise_append]
        refine ⟨ih.1, r1, fun x hx y hy => ?_⟩
        have h1 := ih.2 x hx
        have h2 := r2 y hy
        simp only [aheadB, Bool.or_eq_true, decide_eq_true_eq]
        left; omega
      · intro x hx
        rcases List.mem_append.1 hx with hx | hx
        · have := ih.2 x hx; omega
        · have := r2 x hx; omega
  exact (up rows.length).1

/-- The greatest of the cells gone over. -/
def MostI (rows : List (List Nat)) (done : Nat → Nat → Prop) (most : Nat) : Prop :=
  most < 18446744073709551616 ∧ (∀ b g, done b g → (ford .f64 (vAt rows b g) most == some .gt) = false) ∧
  (most = 0 ∨ (∃ b g, done b g ∧ most = vAt rows b g ∧ (∃ k, fkey most = some k ∧ 0 < k) ∧ ∀ b' g', done b' g' → (b' < b ∨ (b' = b ∧ g' < g)) → (ford .f64 (vAt rows b' g') most == some .eq) = false))

theorem MostI.step {rows : List (List Nat)} (hf : Fin64 rows) {done done' : Nat → Nat → Prop} {most j k : Nat} (h : MostI rows done most) (hd : ∀ b g, done' b g → done b g ∨ (b = j ∧ g = k)) (hd2 : ∀ b g, done b g → done' b g) (hjk : done' j k) (hbef : ∀ b g, done b g → b < j ∨ (b = j ∧ g < k)) :
    MostI rows done' (if (ford .f64 (vAt rows j k) most == some .gt) = true then vAt rows j k else most) := by
  obtain ⟨h0, h1, h2⟩ := h
  have lv := vAt_lt hf
  split
  · rename_i hgt
    obtain ⟨a, m, k1, k2, k3⟩ := (fgt_iff (lv j k) h0).1 hgt
    have hm0 : 0 ≤ m := by
      rcases h2 with rfl | ⟨_, _, _, _, ⟨x, hx, hx2⟩, _⟩
      · rw [fkey_zero] at k2; cases k2; omega
      · rw [hx] at k2; cases k2; omega
    -- what was not above the old one is below the new one
    have below : ∀ b g, done b g → ∀ c, fkey (vAt rows b g) = some c → c < a := fun b g hbg c hc => by
      have hn := h1 b g hbg
      apply Int.lt_of_not_ge
      intro hge
      have := (fgt_iff (lv b g) h0).2 ⟨c, m, hc, k2, by omega⟩
      rw [this] at hn; cases hn
    refine ⟨lv j k, fun b g hbg => ?_, .inr ⟨j, k, hjk, rfl, ⟨a, k1, by omega⟩, fun b g hbg hbe => ?_⟩⟩
    · cases hx : (ford .f64 (vAt rows b g) (vAt rows j k) == some .gt) with
      | false => rfl
      | true =>
        obtain ⟨c, d, q1, q2, q3⟩ := (fgt_iff (lv b g) (lv j k)).1 hx
        rw [k1] at q2; cases q2
        rcases hd b g hbg with hb | ⟨rfl, rfl⟩
        · have := below b g hb c q1; omega
        · rw [k1] at q1; cases q1; omega
    · cases hx : (ford .f64 (vAt rows b g) (vAt rows j k) == some .eq) with
      | false => rfl
      | true =>
        obtain ⟨c, q1, q2⟩ := (feq_iff (lv b g) (lv j k)).1 hx
        rw [k1] at q2; cases q2
        rcases hd b g hbg with hb | ⟨rfl, rfl⟩
        · have := below b g hb _ q1; omega
        · omega
  · rename_i hgt
    simp only [Bool.not_eq_true] at hgt
    refine ⟨h0, fun b g hbg => ?_, ?_⟩
    · rcases hd b g hbg with hb | ⟨rfl, rfl⟩
      · exact h1 b g hb
      · exact hgt
    · rcases h2 with h2 | ⟨b, g, q1, q2, q3, q4⟩
      · exact .inl h2
      · refine .inr ⟨b, g, hd2 b g q1, q2, q3, fun b' g' hbg hbe => ?_⟩
        rcases hd b' g' hbg with hb | ⟨rfl, rfl⟩
        · exact q4 b' g' hb hbe
        · have := hbef b g q1; omega

/-- One top is the greatest. -/
theorem most_top {rows : List (List Nat)} (hf : Fin64 rows) {most : Nat} (h : MostI rows (fun b g => b < rows.length ∧ g < gatesN rows) most) (hm : most ≠ 0) : ∃ b g, (b, g, most) ∈ highF rows := by
  obtain ⟨h0, h1, h2⟩ := h
  rcases h2 with h2 | ⟨b, g, ⟨hb, hg⟩, rfl, ⟨k, hk, hk0⟩, h4⟩
  · exact absurd h2 hm
  · refine ⟨b, g, mem_high hb hg ?_⟩
    unfold topB
    simp only [Bool.and_eq_true, List.all_eq_true, Bool.not_eq_true']
    refine ⟨(fgt_iff (vAt_lt hf b g) (by decide)).2 ⟨k, 0, hk, fkey_zero, hk0⟩, fun c hc => ?_⟩
    obtain ⟨n1, n2, n3⟩ := mem_nbrs.1 hc
    have hcb : c.1 < rows.length := by
      unfold binsL binsR at n1
      rcases n1 with n1 | n1 | n1
      · omega
      · rw [n1]; split <;> omega
      · rw [n1]; split <;> omega
    unfold beatB
    by_cases c0 : 0 ≤ c.2
    · by_cases c1 : c.2 < (gatesN rows : Int)
      · rw [decide_eq_true c0, decide_eq_true c1, Bool.true_and, Bool.true_and]
        have hdone : c.1 < rows.length ∧ c.2.toNat < gatesN rows := ⟨hcb, by omega⟩
        unfold overB
        rw [h1 _ _ hdone, Bool.false_or]
        by_cases hbe : c.1 < b ∨ (c.1 = b ∧ c.2 < (g : Int))
        · rw [h4 c.1 c.2.toNat hdone (by omega), Bool.false_and]
        · have e1 : decide (c.1 < b) = false := decide_eq_false (fun h => hbe (.inl h))
          have e2 : (decide (c.1 = b) && decide (c.2 < (g : Int))) = false := by
            rw [Bool.and_eq_false_iff, decide_eq_false_iff_not, decide_eq_false_iff_not]
            omega
          rw [e1, e2]; simp
      · rw [decide_eq_false c1]; simp
    · rw [decide_eq_false c0]; simp

/-- Nothing above nought: no top. -/
theorem none_top {rows : List (List Nat)} (hf : Fin64 rows) (h : MostI rows (fun b g => b < rows.length ∧ g < gatesN rows) 0) : highF rows = [] := by
  obtain ⟨_, h1, _⟩ := h
  apply List.eq_nil_iff_forall_not_mem.2
  intro x hx
  obtain ⟨a, b, c, d⟩ := high_mem hx
  have := h1 x.1 x.2.1 ⟨a, b⟩
  unfold topB at d
  simp only [Bool.and_eq_true] at d
  rw [this] at d
  exact absurd d.1 (by simp)


theorem run29 {X : Ctx} (hX : X.fns = fnsOf Try.prog) (ho : ∀ f args, f ≠ 15 → X.orc f args = none) {s : Mm} {x y : Spot} : CallP X 29 [sV x, sV y] s (fun r s' => r = .bool (aheadB x y) ∧ Same s s' (fun _ => False)) := by
  have hbx : ∀ x : Spot, (sV x).cells.toList = [.int .i64 (x.1 : Nat), .int .i64 (x.2.1 : Nat), .float .f64 x.2.2] := fun _ => rfl
  refine CallP_of (hX ▸ ir29_eq) (ho _ _ (by decide)) (Nat.le_of_ble_eq_true rfl) ?_
  refine W_seq (W_ops [2, 3] ?_)
  simp only [o29_0, WO_box, nxt_new, WO_move, WO_nil, geT_put, frame_nil, frame_cons, evO_tmp, evO_const, keep_nil, keep_cons, keepK_eq, Nat.reduceEqDiff, Nat.reduceAdd, ↓reduceIte, eq_self, Nat.zero_add, hbx]
  intro fr e2 e3
  refine SeqK_n ?_
  have H := ((Hold.refl s).new [.int .i64 (x.1 : Nat), .int .i64 (x.2.1 : Nat), .float .f64 x.2.2]).new [.int .i64 (y.1 : Nat), .int .i64 (y.2.1 : Nat), .float .f64 y.2.2]
  have hx : (newAt s (.cells [.int .i64 (x.1 : Nat), .int .i64 (x.2.1 : Nat), .float .f64 x.2.2] false)).nxt = s.nxt + 1 := rfl
  rw [hx] at H
  generalize newAt (newAt s (.cells [.int .i64 (x.1 : Nat), .int .i64 (x.2.1 : Nat), .float .f64 x.2.2] false)) (.cells [.int .i64 (y.1 : Nat), .int .i64 (y.2.1 : Nat), .float .f64 y.2.2] false) = s1 at H ⊢
  have cy := H.cell (List.mem_cons_self ..)
  have cx := H.cell (List.mem_cons_of_mem _ (List.mem_cons_self ..))
  have x0 := load_g (o := 0) cx
  have x1 := load_g (o := 1) cx
  have y0 := load_g (o := 0) cy
  have y1 := load_g (o := 1) cy
  simp only [List.getElem?_cons_zero, List.getElem?_cons_succ] at x0 x1 y0 y1
  have d1 : decide (((x.1 : Nat) : Int) < (y.1 : Nat)) = decide (x.1 < y.1) := decide_eq_decide.2 (by omega)
  have d2 : decide (((x.1 : Nat) : Int) = (y.1 : Nat)) = decide (x.1 = y.1) := decide_eq_decide.2 (by omega)
  have d3 : decide (((x.2.1 : Nat) : Int) < (y.2.1 : Nat)) = decide (x.2.1 < y.2.1) := decide_eq_decide.2 (by omega)
  cases h1 : decide (x.1 < y.1) with
  | true =>
    refine W_seq (W_ops [4] ?_)
    simp only [o29_1, WO_bin, WO_fieldAddr, fieldAddr_p, WO_load, WO_move, WO_pick, pick_b, bin_lss, WO_nil, PureK_some, WO_guard, want_v, wantB_f, geT_put, evO_tmp, evO_const, keep_nil, keep_cons, keepK_eq, Nat.reduceEqDiff, ↓reduceIte, Bool.not_true, eq_self, Bool.false_eq_true, Nat.zero_add, Nat.add_zero, e2, e3, x0, y0, d1, h1]
    clear e2 e3
    intro fr e4
    refine SeqK_n ?_
    exact W_ret (Ret1 e4 ⟨by rw [aheadB, h1, Bool.true_or], H.same⟩)
  | false =>
    cases h2 : decide (x.1 = y.1) with
    | false =>
      refine W_seq (W_ops [4] ?_)
      simp only [o29_1, WO_bin, WO_fieldAddr, fieldAddr_p, WO_load, WO_move, WO_pick, pick_b, bin_eql, bin_lss, WO_nil, PureK_some, WO_guard, want_v, wantB_t, wantB_f, geT_put, evO_tmp, evO_const, keep_nil, keep_cons, keepK_eq, Nat.reduceEqDiff, ↓reduceIte, Bool.not_false, eq_self, Bool.false_eq_true, Nat.add_zero, e2, e3, x0, y0, d1, h1, d2, h2]
      clear e2 e3
      intro fr e4
      refine SeqK_n ?_
      exact W_ret (Ret1 e4 ⟨by rw [aheadB, h1, h2]; rfl, H.same⟩)
    | true =>
      refine W_seq (W_ops [4] ?_)
      simp only [o29_1, WO_bin, WO_fieldAddr, fieldAddr_p, WO_load, WO_move, WO_pick, pick_b, bin_eql, bin_lss, WO_nil, PureK_some, WO_guard, want_v, wantB_t, wantB_f, geT_put, evO_tmp, evO_const, keep_nil, keep_cons, keepK_eq, Nat.reduceEqDiff, ↓reduceIte, Bool.not_false, eq_self, Bool.false_eq_true, Nat.zero_add, Nat.add_zero, e2, e3, x0, y0, d1, h1, d2, h2, x1, y1, d3]
      clear e2 e3
      intro fr e4
      refine SeqK_n ?_
      exact W_ret (Ret1 e4 ⟨by rw [aheadB, h1, h2]; simp, H.same⟩)

set_option maxHeartbeats 1000000 in
theorem run28 {X : Ctx} (hX : X.fns = fnsOf Try.prog) (ho : ∀ f args, f ≠ 15 → X.orc f args = none) {s : Mm} {x y : Spot} {B : Nat} (hx : x.1 < B) (hy : y.1 < B) (hB : B ≤ 1099511627776) (gx : x.2.1 ≤ 1099511627776) (gy : y.2.1 ≤ 1099511627776) :
    CallP X 28 [sV x, sV y, .int .i64 (B : Nat)] s (fun r s' => r = .bool (nextB x y B) ∧ Same s s' (fun _ => False)) := by
  have hbx : ∀ x : Spot, (sV x).cells.toList = [.int .i64 (x.1 : Nat), .int .i64 (x.2.1 : Nat), .float .f64 x.2.2] := fun _ => rfl
  refine CallP_of (hX ▸ ir28_eq) (ho _ _ (by decide)) (Nat.le_of_ble_eq_true rfl) ?_
  refine W_seq (W_ops [2, 3, 4] ?_)
  simp only [o28_0, WO_box, nxt_new, WO_move, WO_nil, geT_put, frame_nil, frame_cons, evO_tmp, evO_const, keep_nil, keep_cons, keepK_eq, Nat.reduceEqDiff, Nat.reduceAdd, ↓reduceIte, eq_self, Nat.zero_add, hbx]
  intro fr e2 e3 e4
  refine SeqK_n ?_
  have H := ((Hold.refl s).new [.int .i64 (x.1 : Nat), .int .i64 (x.2.1 : Nat), .float .f64 x.2.2]).new [.int .i64 (y.1 : Nat), .int .i64 (y.2.1 : Nat), .float .f64 y.2.2]
  have hxx : (newAt s (.cells [.int .i64 (x.1 : Nat), .int .i64 (x.2.1 : Nat), .float .f64 x.2.2] false)).nxt = s.nxt + 1 := rfl
  rw [hxx] at H
  generalize newAt (newAt s (.cells [.int .i64 (x.1 : Nat), .int .i64 (x.2.1 : Nat), .float .f64 x.2.2] false)) (.cells [.int .i64 (y.1 : Nat), .int .i64 (y.2.1 : Nat), .float .f64 y.2.2] false) = s1 at H ⊢
  have cy := H.cell (List.mem_cons_self ..)
  have cx := H.cell (List.mem_cons_of_mem _ (List.mem_cons_self ..))
  have x0 := load_g (o := 0) cx
  have x1 := load_g (o := 1) cx
  have y0 := load_g (o := 0) cy
  have y1 := load_g (o := 1) cy
  simp only [List.getElem?_cons_zero, List.getElem?_cons_succ] at x0 x1 y0 y1
  have hB0 : ¬ ((B : Nat) : Int) = 0 := by omega
  refine W_seq (W_ops [2, 3, 4, 7] ?_)
  simp only [o28_1, WO_bin, WO_fieldAddr, fieldAddr_p, WO_load, WO_move, bin_sub, WO_nil, PureK_some, geT_put, evO_tmp, keep_nil, keep_cons, keepK_eq, Nat.reduceEqDiff, ↓reduceIte, eq_self, Nat.zero_add, e2, e3, e4, x1, y1, wrap_i64 (n := (x.2.1 : Int) - (y.2.1 : Nat)) (by omega) (by omega)]
  clear e2 e3 e4
  intro fr e2 e3 e4 e7
  refine SeqK_n ?_
  refine W_seq (W_ops [2, 7, 8] ?_)
  simp only [o28_2, WO_bin, WO_fieldAddr, fieldAddr_p, WO_load, WO_move, bin_add, bin_rem, bin_sub, WO_nil, PureK_some, geT_put, evO_tmp, keep_nil, keep_cons, keepK_eq, Nat.reduceEqDiff, ↓reduceIte, eq_self, Nat.add_zero, e2, e3, e4, e7, x0, y0, wrap_i64 (n := (x.1 : Int) - (y.1 : Nat)) (by omega) (by omega), if_neg hB0, tmod_sub hx hy, wrap_i64 (n := (x.1 : Int) - (y.1 : Nat) + (B : Nat)) (by omega) (by omega), tmod_add hx hy]
  clear e2 e3 e4 e7
  intro fr e2 e7 e8
  refine SeqK_n ?_
  have hdN : (x.1 + B - y.1) % B = dN x y B := rfl
  have heN : (x.2.1 : Int) - (y.2.1 : Nat) = eN x y := rfl
  rw [hdN] at e8
  rw [heN] at e7
  have hdl : dN x y B < B := Nat.mod_lt _ (by omega)
  have n1 : decide ((dN x y B : Int) ≤ 1) = decide (dN x y B ≤ 1) := decide_eq_decide.2 (by omega)
  have n2 : decide ((dN x y B : Int) = (B : Nat) - 1) = decide (dN x y B = B - 1) := decide_eq_decide.2 (by omega)
  have n3 : decide ((dN x y B : Int) = 0) = decide (dN x y B = 0) := decide_eq_decide.2 (by omega)
  refine W_seq (W_opsB [7, 8, 9] (fun fr1 s6 => s1 = s6 ∧ geT fr1 7 = .int .i64 (eN x y) ∧ geT fr1 8 = .int .i64 (dN x y B : Nat) ∧ geT fr1 9 = .bool (decide (dN x y B ≤ 1) || decide (dN x y B = B - 1))) ?_ ?_)
  · intro R' hR'
    cases h1 : decide (dN x y B ≤ 1) with
    | true =>
      simp only [o28_3, WO_nil, WO_move, WO_pick, WO_bin, WO_guard, PureK_some, geT_put, evO_tmp, evO_const, want_v, wantB_f, keep_nil, keep_cons, keepK_eq, Nat.reduceEqDiff, ↓reduceIte, pick_b, bin_leq, Bool.not_true, eq_self, Bool.false_eq_true, e7, e8, n1, h1]
      intro fr e7 e8 e9
      exact hR' _ _ ⟨rfl, e7, e8, by rw [e9, h1, Bool.true_or]⟩
    | false =>
      simp only [o28_3, WO_nil, WO_move, WO_pick, WO_bin, WO_guard, PureK_some, geT_put, evO_tmp, evO_const, want_v, wantB_f, keep_nil, keep_cons, keepK_eq, Nat.reduceEqDiff, ↓reduceIte, pick_b, bin_sub, bin_eql, bin_leq, Bool.not_false, eq_self, Bool.false_eq_true, e2, e7, e8, n1, h1, wrap_i64 (n := (B : Int) - 1) (by omega) (by omega), n2]
      intro fr e7 e8 e9
      exact hR' _ _ ⟨rfl, e7, e8, by rw [e9, h1, Bool.false_or]⟩
  clear e2 e7 e8 fr
  rintro fr _ ⟨rfl, e7, e8, e9⟩
  refine SeqK_n ?_
  cases h1 : (decide (dN x y B ≤ 1) || decide (dN x y B = B - 1)) with
  | false =>
    refine W_seq (W_ops [6] ?_)
    simp only [o28_4, WO_bin, WO_move, WO_pick, pick_b, bin_neq, WO_nil, PureK_some, WO_guard, want_v, wantB_t, geT_put, evO_tmp, evO_const, keep_nil, keep_cons, keepK_eq, Nat.reduceEqDiff, ↓reduceIte, eq_self, Bool.false_eq_true, e7, e9, h1]
    clear e7 e8 e9
    intro fr e6
    refine SeqK_n ?_
    exact W_ret (Ret1 e6 ⟨by rw [nextB, h1, Bool.false_and], H.same⟩)
  | true =>
    cases h2 : decide (-1 ≤ eN x y) with
    | false =>
      refine W_seq (W_ops [6] ?_)
      simp only [o28_4, WO_bin, WO_move, WO_pick, pick_b, bin_geq, bin_neq, WO_nil, PureK_some, WO_guard, want_v, wantB_t, geT_put, evO_tmp, evO_const, keep_nil, keep_cons, keepK_eq, Nat.reduceEqDiff, ↓reduceIte, eq_self, Bool.false_eq_true, e7, e9, h1, h2]
      clear e7 e8 e9
      intro fr e6
      refine SeqK_n ?_
      exact W_ret (Ret1 e6 ⟨by rw [nextB, h1, h2]; rfl, H.same⟩)
    | true =>
      cases h3 : decide (eN x y ≤ 1) with
      | false =>
        refine W_seq (W_ops [6] ?_)
        simp only [o28_4, WO_bin, WO_move, WO_pick, pick_b, bin_geq, bin_leq, bin_neq, WO_nil, PureK_some, WO_guard, want_v, wantB_t, geT_put, evO_tmp, evO_const, keep_nil, keep_cons, keepK_eq, Nat.reduceEqDiff, ↓reduceIte, eq_self, Bool.false_eq_true, e7, e9, h1, h2, h3]
        clear e7 e8 e9
        intro fr e6
        refine SeqK_n ?_
        exact W_ret (Ret1 e6 ⟨by rw [nextB, h1, h2, h3]; rfl, H.same⟩)
      | true =>
        cases h4 : decide (dN x y B = 0) with
        | false =>
          refine W_seq (W_ops [6] ?_)
          simp only [o28_4, WO_bin, WO_move, WO_pick, pick_b, bin_geq, bin_leq, bin_neq, WO_nil, PureK_some, WO_guard, want_v, wantB_t, wantB_f, geT_put, evO_tmp, evO_const, keep_nil, keep_cons, keepK_eq, Nat.reduceEqDiff, ↓reduceIte, Bool.not_true, Bool.not_false, eq_self, Bool.false_eq_true, e7, e8, e9, h1, h2, h3, n3, h4]
          clear e7 e8 e9
          intro fr e6
          refine SeqK_n ?_
          refine W_ret (Ret1 e6 ⟨?_, H.same⟩)
          have : decide (dN x y B ≠ 0) = true := by simpa using h4
          rw [nextB, h1, h2, h3, this]; rfl
        | true =>
          refine W_seq (W_ops [6] ?_)
          simp only [o28_4, WO_bin, WO_move, WO_pick, pick_b, bin_geq, bin_leq, bin_neq, WO_nil, PureK_some, WO_guard, want_v, wantB_t, wantB_f, geT_put, evO_tmp, evO_const, keep_nil, keep_cons, keepK_eq, Nat.reduceEqDiff, ↓reduceIte, Bool.not_true, Bool.not_false, eq_self, Bool.false_eq_true, e7, e8, e9, h1, h2, h3, n3, h4]
          clear e7 e8 e9
          intro fr e6
          refine SeqK_n ?_
          refine W_ret (Ret1 e6 ⟨?_, H.same⟩)
          have : decide (dN x y B ≠ 0) = false := by simpa using h4
          rw [nextB, h1, h2, h3, this]
          simp

end Go.Proofs.Ytpphomoijlilfaa

/- PeaksTops: its run. -/
namespace Go.Proofs.Ytpphomoijlilfaa
open Go Go.Vam

theorem flat3 {L : List Spot} {i : Nat} (hi : i < L.length) : (L.flatMap eSp)[i * 3]? = some (.int .i64 (L[i].1 : Nat)) ∧ (L.flatMap eSp)[i * 3 + 1]? = some (.int .i64 (L[i].2.1 : Nat)) ∧ (L.flatMap eSp)[i * 3 + 2]? = some (.float .f64 L[i].2.2) ∧ ((L.flatMap eSp).drop (i * 3)).take 3 = eSp L[i] := by
  induction L generalizing i with
  | nil => simp at hi
  | cons x L ih =>
    cases i with
    | zero => exact ⟨rfl, rfl, rfl, rfl⟩
    | succ i =>
      have e : (i + 1) * 3 = i * 3 + 3 := by omega
      rw [e]
      exact ih (by simpa using hi)

def doneB (G j k b g : Nat) : Prop := (b < j ∧ g < G) ∨ (b = j ∧ g < k)
def gLaw (rows : List (List Nat)) (k : Nat) : Nat := if k = 0 then 0 else gatesUp rows k

theorem gLaw_succ {rows : List (List Nat)} {k : Nat} (hk : k < rows.length) (hl : rows[k].length ≤ 1048576) : gLaw rows (k + 1) = if k = 0 ∨ rows[k].length < gLaw rows k then rows[k].length else gLaw rows k := by
  unfold gLaw
  rw [if_neg (by omega : ¬ k + 1 = 0), gatesUp_succ hk]
  by_cases h0 : k = 0
  · subst h0
    rw [if_pos (.inl rfl)]
    have : gatesUp rows 0 = 9223372036854775807 := rfl
    rw [this]; omega
  · rw [if_neg h0]
    split <;> omega

def foundUp (L : List Spot) (most i : Nat) : Bool := (ford .f64 most 0 == some .eq) || (L.take i).any fun x => ford .f64 x.2.2 most == some .eq

theorem foundUp_succ {L : List Spot} {most i : Nat} (hi : i < L.length) : foundUp L most (i + 1) = (foundUp L most i || (ford .f64 L[i].2.2 most == some .eq)) := by
  unfold foundUp
  rw [List.take_add_one, List.getElem?_eq_getElem hi, List.any_append, Bool.or_assoc]
  simp


set_option maxHeartbeats 4000000 in
theorem run7 {X : Ctx} (hX : X.fns = fnsOf Try.prog) (ho : ∀ f args, f ≠ 15 → X.orc f args = none) (hw : X.orc 15 [] = some (.bool true)) {s : Mm} {mv : Value} {rows : List (List Nat)} (hT : TabE s 1 eF mv rows) (hmo : oneCell mv = true) (hl : rows.length ≤ 1048576) (hn : ∀ r ∈ rows, r.length ≤ 1048576) (hf : Fin64 rows) :
    CallP X 7 [mv] s (fun r _ => r = .bool true) := by
  refine CallP_of (hX ▸ ir7_eq) (ho _ _ (by decide)) (Nat.le_of_ble_eq_true rfl) ?_
  refine W_seq (W_ops [0] ?_)
  simp only [o7_0, WO_move, WO_nil, geT_put, frame_nil, frame_cons, evO_const, keep_nil, keep_cons, keepK_eq, Nat.reduceEqDiff, ↓reduceIte, eq_self, Nat.zero_add]
  intro fr e0
  refine SeqK_n ?_
  refine W_assoc ?_
  by_cases c1 : 40 < rows.length
  · have c1' : (40 : Int) < (rows.length : Nat) := by omega
    refine W_seq (W_ops [0, 14] ?_)
    simp only [o7_1, WO_bin, WO_bu, WO_move, bin_gtr, WO_nil, PureK_some, geT_put, evO_tmp, evO_const, keep_nil, keep_cons, keepK_eq, List.map_cons, List.map_nil, Nat.reduceEqDiff, ↓reduceIte, eq_self, e0, hT.len, decide_eq_true c1']
    clear e0
    intro fr e0 e14
    refine SeqK_n ?_
    refine W_seq (W_cond e14 (fun _ => ?_) (fun h => by cases h))
    refine W_seq (W_ops [2] ?_)
    simp only [o7_2, WO_call, List.map_nil]
    refine CallK_eq (Call_orc hw) ?_
    simp only [WO_move, WO_nil, geT_put, evO_tmp, keep_nil, keep_cons, keepK_eq, ↓reduceIte, eq_self]
    clear e0 e14
    intro fr e2
    refine SeqK_n ?_
    exact W_ret (SeqK_r (Ret1 e2 rfl))
  have c1' : ¬ (40 : Int) < (rows.length : Nat) := by omega
  refine W_seq (W_ops [0, 14] ?_)
  simp only [o7_1, WO_bin, WO_bu, WO_move, bin_gtr, WO_nil, PureK_some, geT_put, evO_tmp, evO_const, keep_nil, keep_cons, keepK_eq, List.map_cons, List.map_nil, Nat.reduceEqDiff, ↓reduceIte, eq_self, e0, hT.len, decide_eq_false c1']
  clear e0
  intro fr e0 e14
  refine SeqK_n ?_
  refine W_seq (W_cond e14 (fun h => by cases h) (fun _ => W_skip (SeqK_n ?_)))
  refine W_seq (W_ops [0, 3] ?_)
  simp only [o7_3, WO_call, WO_move, geT_put, evO_tmp, List.map_cons, List.map_nil, ↓reduceIte, eq_self, e0]
  refine CallK_of (run11 hX ho (Hold.refl s) hT hmo hl hn) ?_
  rintro lv s1 ⟨hlo, H1⟩
  simp only [WO_move, WO_nil, geT_put, evO_tmp, keep_nil, keep_cons, keepK_eq, Nat.reduceEqDiff, ↓reduceIte, eq_self, e0]
  clear e0 e14
  intro fr e0 e3
  refine SeqK_n ?_
  obtain ⟨L, hL⟩ : ∃ L, L = highF rows := ⟨_, rfl⟩
  rw [← hL] at H1
  have hT1 := hT.same H1.same
  refine W_seq (W_ops [0, 3, 4] ?_)
  simp only [o7_4, WO_move, WO_nil, geT_put, evO_const, keep_nil, keep_cons, keepK_eq, Nat.reduceEqDiff, ↓reduceIte, eq_self, e0, e3]
  clear e0 e3
  intro fr e0 e3 e4
  refine SeqK_n ?_
  refine W_assoc ?_
  refine W_seq (W_ops [0, 3, 4, 5] ?_)
  simp only [o7_5, WO_move, WO_nil, geT_put, evO_const, keep_nil, keep_cons, keepK_eq, Nat.reduceEqDiff, ↓reduceIte, eq_self, e0, e3, e4]
  clear e0 e3 e4
  intro fr e0 e3 e4 e5
  refine SeqK_n ?_
  refine W_seq (W_block (W_loop (fun m fr s2 => ∃ k, k + m = rows.length ∧ s1 = s2 ∧ geT fr 0 = mv ∧ geT fr 3 = lv ∧ geT fr 4 = .int .i64 (gLaw rows k : Nat) ∧ geT fr 5 = .int .i64 (k : Nat)) rows.length ⟨0, by omega, rfl, e0, e3, e4, e5⟩ ?_))
  clear e0 e3 e4 e5 fr
  rintro m fr _ ⟨k, hk, rfl, e0, e3, e4, e5⟩
  refine W_assoc ?_
  refine W_seq (W_ops [0, 3, 4, 5, 21] ?_)
  simp only [o7_7, WO_bin, WO_bu, WO_move, bin_lss, WO_nil, PureK_some, geT_put, evO_tmp, keep_nil, keep_cons, keepK_eq, List.map_cons, List.map_nil, Nat.reduceEqDiff, ↓reduceIte, eq_self, e0, e3, e4, e5, hT1.len]
  clear e0 e3 e4 e5
  intro fr e0 e3 e4 e5 e21
  refine SeqK_n ?_
  refine W_while e21 (fun hlt => ?_) (fun hlt => ?_)
  · have hk1 : k < rows.length := by omega
    have hnk := hn rows[k] (List.getElem_mem hk1)
    obtain ⟨c, B1, A1, r1⟩ := hT1.row hk1
    have hgs := gLaw_succ hk1 hnk
    have d0 : decide (((k : Nat) : Int) = 0) = decide (k = 0) := decide_eq_decide.2 (by omega)
    have d1 : decide (((rows[k].length : Nat) : Int) < (gLaw rows k : Nat)) = decide (rows[k].length < gLaw rows k) := decide_eq_decide.2 (by omega)
    refine W_seq (W_block ?_)
    refine W_seq (W_opsB [0, 3, 4, 5, 34] (fun fr1 s6 => s1 = s6 ∧ geT fr1 0 = mv ∧ geT fr1 3 = lv ∧ geT fr1 4 = .int .i64 (gLaw rows k : Nat) ∧ geT fr1 5 = .int .i64 (k : Nat) ∧ geT fr1 34 = .bool (decide (k = 0 ∨ rows[k].length < gLaw rows k))) ?_ ?_)
    · intro R' hR'
      by_cases h0 : k = 0
      · simp only [o7_8, WO_nil, WO_move, WO_pick, WO_bin, WO_guard, PureK_some, geT_put, evO_tmp, evO_const, want_v, wantB_f, keep_nil, keep_cons, keepK_eq, Nat.reduceEqDiff, ↓reduceIte, pick_b, bin_eql, Bool.not_true, eq_self, Bool.false_eq_true, e0, e3, e4, e5, d0, decide_eq_true h0]
        intro fr e0 e3 e4 e5 e34
        exact hR' _ _ ⟨rfl, e0, e3, e4, e5, by rw [e34, decide_eq_true (.inl h0)]⟩
      · have hor : decide (k = 0 ∨ rows[k].length < gLaw rows k) = decide (rows[k].length < gLaw rows k) := decide_eq_decide.2 ⟨fun h => h.resolve_left h0, .inr⟩
        simp only [o7_8, WO_nil, WO_move, WO_pick, WO_bin, WO_addrSl, WO_bu, WO_load, WO_guard, PureK_some, geT_put, evO_tmp, evO_const, want_v, wantB_f, keep_nil, keep_cons, keepK_eq, List.map_cons, List.map_nil, Nat.reduceEqDiff, ↓reduceIte, pick_b, bin_eql, bin_lss, Bool.not_false, eq_self, Bool.false_eq_true, e0, e3, e4, e5, d0, decide_eq_false h0, B1, A1, r1.len, d1]
        intro fr e0 e3 e4 e5 e34
        exact hR' _ _ ⟨rfl, e0, e3, e4, e5, by rw [e34, hor]⟩
    clear e0 e3 e4 e5 e21 fr
    rintro fr _ ⟨rfl, e0, e3, e4, e5, e34⟩
    by_cases hc : k = 0 ∨ rows[k].length < gLaw rows k
    · rw [decide_eq_true hc] at e34
      rw [if_pos hc] at hgs
      refine SeqK_n (W_cond e34 (fun _ => ?_) (fun h => by cases h))
      refine W_ops [0, 3, 4, 5] ?_
      simp only [o7_9, WO_addrSl, WO_bu, WO_load, WO_move, WO_nil, PureK_some, geT_put, evO_tmp, keep_nil, keep_cons, keepK_eq, List.map_cons, List.map_nil, Nat.reduceEqDiff, ↓reduceIte, eq_self, e0, e3, e5, B1, A1, r1.len]
      clear e0 e3 e4 e5 e34
      intro fr e0 e3 e4 e5
      refine BlkK_n (SeqK_n ?_)
      refine W_ops [0, 3, 4, 5] ?_
      simp only [o7_10, WO_bin, WO_move, bin_add, WO_nil, PureK_some, geT_put, evO_tmp, evO_const, keep_nil, keep_cons, keepK_eq, Nat.reduceEqDiff, ↓reduceIte, eq_self, e0, e3, e4, e5, wrap_i64 (n := (k : Int) + 1) (by omega) (by omega)]
      clear e0 e3 e4 e5
      intro fr e0 e3 e4 e5
      exact LoopK_n (m' := m - 1) (by omega) ⟨k + 1, by omega, rfl, e0, e3, by rw [e4, hgs], by rw [e5]; rfl⟩
    · rw [decide_eq_false hc] at e34
      rw [if_neg hc] at hgs
      refine SeqK_n (W_cond e34 (fun h => by cases h) (fun _ => W_skip (BlkK_n (SeqK_n ?_))))
      refine W_ops [0, 3, 4, 5] ?_
      simp only [o7_10, WO_bin, WO_move, bin_add, WO_nil, PureK_some, geT_put, evO_tmp, evO_const, keep_nil, keep_cons, keepK_eq, Nat.reduceEqDiff, ↓reduceIte, eq_self, e0, e3, e4, e5, wrap_i64 (n := (k : Int) + 1) (by omega) (by omega)]
      clear e0 e3 e4 e5 e34
      intro fr e0 e3 e4 e5
      exact LoopK_n (m' := m - 1) (by omega) ⟨k + 1, by omega, rfl, e0, e3, by rw [e4, hgs], by rw [e5]; rfl⟩
  · have hkk : k = rows.length := by omega
    subst hkk
    refine LoopK_x (BlkK_e (SeqK_n ?_))
    obtain ⟨G, hG⟩ : ∃ G, G = gLaw rows rows.length := ⟨_, rfl⟩
    rw [← hG] at e4
    have hGG : 0 < rows.length → G = gatesN rows := fun h => by rw [hG, gLaw, if_neg (by omega)]; rfl
    refine W_assoc ?_
    by_cases c2 : 200 < G
    · have c2' : (200 : Int) < (G : Nat) := by omega
      refine W_seq (W_ops [0, 3, 4, 41] ?_)
      simp only [o7_11, WO_bin, WO_move, bin_gtr, WO_nil, PureK_some, geT_put, evO_tmp, evO_const, keep_nil, keep_cons, keepK_eq, Nat.reduceEqDiff, ↓reduceIte, eq_self, e0, e3, e4, decide_eq_true c2']
      clear e0 e3 e4 e5 e21
      intro fr e0 e3 e4 e41
      refine SeqK_n ?_
      refine W_seq (W_cond e41 (fun _ => ?_) (fun h => by cases h))
      refine W_seq (W_ops [2] ?_)
      simp only [o7_12, WO_call, List.map_nil]
      refine CallK_eq (Call_orc hw) ?_
      simp only [WO_move, WO_nil, geT_put, evO_tmp, keep_nil, keep_cons, keepK_eq, ↓reduceIte, eq_self]
      clear e0 e3 e4 e41
      intro fr e2
      refine SeqK_n ?_
      exact W_ret (SeqK_r (Ret1 e2 rfl))
    have c2' : ¬ (200 : Int) < (G : Nat) := by omega
    refine W_seq (W_ops [0, 3, 4, 41] ?_)
    simp only [o7_11, WO_bin, WO_move, bin_gtr, WO_nil, PureK_some, geT_put, evO_tmp, evO_const, keep_nil, keep_cons, keepK_eq, Nat.reduceEqDiff, ↓reduceIte, eq_self, e0, e3, e4, decide_eq_false c2']
    clear e0 e3 e4 e5 e21
    intro fr e0 e3 e4 e41
    refine SeqK_n ?_
    refine W_seq (W_cond e41 (fun h => by cases h) (fun _ => W_skip (SeqK_n ?_)))
    have hLl : L.length ≤ 8000 := by
      have h1 := highUp_len (rows := rows) (j := rows.length)
      have h2 : L.length = (highUp rows rows.length).length := by rw [hL]; rfl
      rcases Nat.eq_zero_or_pos rows.length with h0 | h0
      · rw [h0] at h1 h2; omega
      · have h3 : rows.length * gatesN rows ≤ 40 * 200 := Nat.mul_le_mul (by omega) (by rw [← hGG h0]; omega)
        omega
    refine W_seq (W_ops [0, 3, 4, 6] ?_)
    simp only [o7_13, WO_move, WO_nil, geT_put, evO_const, keep_nil, keep_cons, keepK_eq, Nat.reduceEqDiff, ↓reduceIte, eq_self, e0, e3, e4]
    clear e0 e3 e4 e41
    intro fr e0 e3 e4 e6
    refine SeqK_n ?_
    refine W_assoc ?_
    refine W_seq (W_ops [0, 3, 4, 6, 7] ?_)
    simp only [o7_14, WO_move, WO_nil, geT_put, evO_const, keep_nil, keep_cons, keepK_eq, Nat.reduceEqDiff, ↓reduceIte, eq_self, e0, e3, e4, e6]
    clear e0 e3 e4 e6
    intro fr e0 e3 e4 e6 e7
    refine SeqK_n ?_
    have hM0 : MostI rows (doneB G 0 0) 0 := ⟨by decide, fun b g h => by unfold doneB at h; omega, .inl rfl⟩
    refine W_seq (W_block (W_loop (fun m fr s2 => ∃ j most, j + m = rows.length ∧ s1 = s2 ∧ MostI rows (doneB G j 0) most ∧ geT fr 0 = mv ∧ geT fr 3 = lv ∧ geT fr 4 = .int .i64 (G : Nat) ∧ geT fr 6 = .float .f64 most ∧ geT fr 7 = .int .i64 (j : Nat)) rows.length ⟨0, 0, by omega, rfl, hM0, e0, e3, e4, e6, e7⟩ ?_))
    clear e0 e3 e4 e6 e7 fr hk hlt hM0
    rintro m fr _ ⟨j, most, hj, rfl, hM, e0, e3, e4, e6, e7⟩
    refine W_assoc ?_
    refine W_seq (W_ops [0, 3, 4, 6, 7, 46] ?_)
    simp only [o7_16, WO_bin, WO_bu, WO_move, bin_lss, WO_nil, PureK_some, geT_put, evO_tmp, keep_nil, keep_cons, keepK_eq, List.map_cons, List.map_nil, Nat.reduceEqDiff, ↓reduceIte, eq_self, e0, e3, e4, e6, e7, hT1.len]
    clear e0 e3 e4 e6 e7
    intro fr e0 e3 e4 e6 e7 e46
    refine SeqK_n ?_
    refine W_while e46 (fun hlt => ?_) (fun hlt => ?_)
    · have hj1 : j < rows.length := by omega
      have hGj : G ≤ rows[j].length := by rw [hGG (by omega)]; exact gates_le (rows := rows) _ (List.getElem_mem hj1)
      obtain ⟨c, B1, A1, r1⟩ := hT1.row hj1
      refine W_seq (W_block ?_)
      refine W_seq (W_ops [0, 3, 4, 6, 7, 8] ?_)
      simp only [o7_17, WO_move, WO_nil, geT_put, evO_const, keep_nil, keep_cons, keepK_eq, Nat.reduceEqDiff, ↓reduceIte, eq_self, e0, e3, e4, e6, e7]
      clear e0 e3 e4 e6 e7 e46
      intro fr e0 e3 e4 e6 e7 e8
      refine SeqK_n ?_
      refine W_block (W_loop (fun m2 fr s2 => ∃ k most, k + m2 = G ∧ s1 = s2 ∧ MostI rows (doneB G j k) most ∧ geT fr 0 = mv ∧ geT fr 3 = lv ∧ geT fr 4 = .int .i64 (G : Nat) ∧ geT fr 6 = .float .f64 most ∧ geT fr 7 = .int .i64 (j : Nat) ∧ geT fr 8 = .int .i64 (k : Nat)) G ⟨0, most, by omega, rfl, hM, e0, e3, e4, e6, e7, e8⟩ ?_)
      clear e0 e3 e4 e6 e7 e8 fr hM most
      rintro m2 fr _ ⟨k, most, hk, rfl, hM, e0, e3, e4, e6, e7, e8⟩
      refine W_assoc ?_
      refine W_seq (W_ops [0, 3, 4, 6, 7, 8, 51] ?_)
      simp only [o7_19, WO_bin, WO_move, bin_lss, WO_nil, PureK_some, geT_put, evO_tmp, keep_nil, keep_cons, keepK_eq, Nat.reduceEqDiff, ↓reduceIte, eq_self, e0, e3, e4, e6, e7, e8]
      clear e0 e3 e4 e6 e7 e8
      intro fr e0 e3 e4 e6 e7 e8 e51
      refine SeqK_n ?_
      refine W_while e51 (fun hlt2 => ?_) (fun hlt2 => ?_)
      · have hk1 : k < G := by omega
        have hkl : k < rows[j].length := by omega
        have hq : vAt rows j k = rows[j][k] := by
          unfold vAt
          rw [List.getElem?_eq_getElem hj1, Option.getD_some, List.getElem?_eq_getElem hkl, Option.getD_some]
        have B2 := r1.addr (kk := .i64) (i := (k : Int)) rfl hkl
        rw [Nat.mul_one] at B2
        have A2 : loadV s1 none (elP c k) = some (.float .f64 (vAt rows j k)) := by
          refine r1.load ?_
          have hfm : rows[j].flatMap eF = rows[j].map (.float .f64) := flatMap_one (Value.float .f64) _
          rw [hq, hfm]; simp [hkl]
        have hst := hM.step hf (j := j) (k := k) (done' := doneB G j (k + 1)) (fun b g h => by unfold doneB at *; omega) (fun b g h => by unfold doneB at *; omega) (by unfold doneB; omega) (fun b g h => by unfold doneB at h; omega)
        refine W_seq (W_block ?_)
        refine W_seq (W_ops [0, 3, 4, 6, 7, 8, 62] ?_)
        simp only [o7_20, WO_addrSl, WO_bin, WO_load, WO_move, binf_gtr, WO_nil, PureK_some, geT_put, evO_tmp, keep_nil, keep_cons, keepK_eq, Nat.reduceEqDiff, ↓reduceIte, eq_self, e0, e3, e4, e6, e7, e8, B1, A1, B2, A2]
        clear e0 e3 e4 e6 e7 e8 e51
        intro fr e0 e3 e4 e6 e7 e8 e62
        refine SeqK_n ?_
        by_cases hgt : (ford .f64 (vAt rows j k) most == some .gt) = true
        · rw [if_pos hgt] at hst
          rw [hgt] at e62
          refine W_cond e62 (fun _ => ?_) (fun h => by cases h)
          refine W_ops [0, 3, 4, 6, 7, 8] ?_
          simp only [o7_21, WO_addrSl, WO_load, WO_move, WO_nil, PureK_some, geT_put, evO_tmp, keep_nil, keep_cons, keepK_eq, Nat.reduceEqDiff, ↓reduceIte, eq_self, e0, e3, e4, e7, e8, B1, A1, B2, A2]
          clear e0 e3 e4 e6 e7 e8 e62
          intro fr e0 e3 e4 e6 e7 e8
          refine BlkK_n (SeqK_n ?_)
          refine W_ops [0, 3, 4, 6, 7, 8] ?_
          simp only [o7_22, WO_bin, WO_move, bin_add, WO_nil, PureK_some, geT_put, evO_tmp, evO_const, keep_nil, keep_cons, keepK_eq, Nat.reduceEqDiff, ↓reduceIte, eq_self, e0, e3, e4, e6, e7, e8, wrap_i64 (n := (k : Int) + 1) (by omega) (by omega)]
          clear e0 e3 e4 e6 e7 e8
          intro fr e0 e3 e4 e6 e7 e8
          exact LoopK_n (m' := m2 - 1) (by omega) ⟨k + 1, _, by omega, rfl, hst, e0, e3, e4, e6, e7, by rw [e8]; rfl⟩
        · rw [if_neg hgt] at hst
          rw [Bool.not_eq_true] at hgt
          rw [hgt] at e62
          refine W_cond e62 (fun h => by cases h) (fun _ => W_skip (BlkK_n (SeqK_n ?_)))
          refine W_ops [0, 3, 4, 6, 7, 8] ?_
          simp only [o7_22, WO_bin, WO_move, bin_add, WO_nil, PureK_some, geT_put, evO_tmp, evO_const, keep_nil, keep_cons, keepK_eq, Nat.reduceEqDiff, ↓reduceIte, eq_self, e0, e3, e4, e6, e7, e8, wrap_i64 (n := (k : Int) + 1) (by omega) (by omega)]
          clear e0 e3 e4 e6 e7 e8 e62
          intro fr e0 e3 e4 e6 e7 e8
          exact LoopK_n (m' := m2 - 1) (by omega) ⟨k + 1, _, by omega, rfl, hst, e0, e3, e4, e6, e7, by rw [e8]; rfl⟩
      · have hkG : k = G := by omega
        subst hkG
        refine LoopK_x (BlkK_e (BlkK_n (SeqK_n ?_)))
        refine W_ops [0, 3, 4, 6, 7] ?_
        simp only [o7_23, WO_bin, WO_move, bin_add, WO_nil, PureK_some, geT_put, evO_tmp, evO_const, keep_nil, keep_cons, keepK_eq, Nat.reduceEqDiff, ↓reduceIte, eq_self, e0, e3, e4, e6, e7, wrap_i64 (n := (j : Int) + 1) (by omega) (by omega)]
        clear e0 e3 e4 e6 e7 e8 e51
        intro fr e0 e3 e4 e6 e7
        have hM' : MostI rows (doneB k (j + 1) 0) most := by
          have e : doneB k (j + 1) 0 = doneB k j k := by
            funext b g; unfold doneB; apply propext; omega
          rw [e]; exact hM
        exact LoopK_n (m' := m - 1) (by omega) ⟨j + 1, most, by omega, rfl, hM', e0, e3, e4, e6, by rw [e7]; rfl⟩
    · have hjl : j = rows.length := by omega
      subst hjl
      have hM' : MostI rows (fun b g => b < rows.length ∧ g < gatesN rows) most := by
        have e : doneB G rows.length 0 = (fun b g => b < rows.length ∧ g < gatesN rows) := by
          funext b g; unfold doneB; apply propext
          constructor
          · rintro (⟨h1, h2⟩ | h)
            · exact ⟨h1, by rw [← hGG (by omega)]; exact h2⟩
            · omega
          · rintro ⟨h1, h2⟩
            left; exact ⟨h1, by rw [hGG (by omega)]; exact h2⟩
        rw [← e]; exact hM
      refine LoopK_x (BlkK_e (SeqK_n ?_))
      refine W_seq (W_ops [0, 3, 4, 6, 9] ?_)
      simp only [o7_24, WO_bin, WO_move, binf_eql, WO_nil, PureK_some, geT_put, evO_tmp, evO_const, keep_nil, keep_cons, keepK_eq, Nat.reduceEqDiff, ↓reduceIte, eq_self, e0, e3, e4, e6]
      clear e0 e3 e4 e6 e7 e46
      intro fr e0 e3 e4 e6 e9
      refine SeqK_n ?_
      refine W_assoc ?_
      refine W_seq (W_ops [0, 3, 4, 6, 9, 10] ?_)
      simp only [o7_25, WO_move, WO_nil, geT_put, evO_const, keep_nil, keep_cons, keepK_eq, Nat.reduceEqDiff, ↓reduceIte, eq_self, e0, e3, e4, e6, e9]
      clear e0 e3 e4 e6 e9
      intro fr e0 e3 e4 e6 e9 e10
      refine SeqK_n ?_
      -- the tops, one by one
      refine W_seq (W_block (W_loop (fun m fr s2 => ∃ i, i + m = L.length ∧ geT fr 0 = mv ∧ geT fr 3 = lv ∧ geT fr 4 = .int .i64 (G : Nat) ∧ geT fr 6 = .float .f64 most ∧ geT fr 9 = .bool (foundUp L most i) ∧ geT fr 10 = .int .i64 (i : Nat) ∧ Hold s s2 [HP.own 3 lv L.length (L.flatMap eSp)]) L.length ⟨0, by omega, e0, e3, e4, e6, by rw [e9]; simp [foundUp], e10, H1⟩ ?_))
      clear e0 e3 e4 e6 e9 e10 fr hj hlt
      rintro m fr s2 ⟨i, hi, e0, e3, e4, e6, e9, e10, H2⟩
      have sl := (H2.own (List.mem_cons_self ..)).slc
      refine W_assoc ?_
      refine W_seq (W_ops [0, 3, 4, 6, 9, 10, 75] ?_)
      simp only [o7_27, WO_bin, WO_bu, WO_move, bin_lss, WO_nil, PureK_some, geT_put, evO_tmp, keep_nil, keep_cons, keepK_eq, List.map_cons, List.map_nil, Nat.reduceEqDiff, ↓reduceIte, eq_self, e0, e3, e4, e6, e9, e10, sl.len]
      clear e0 e3 e4 e6 e9 e10
      intro fr e0 e3 e4 e6 e9 e10 e75
      refine SeqK_n ?_
      refine W_while e75 (fun hlt => ?_) (fun hlt => ?_)
      · have hi1 : i < L.length := by omega
        have hmem : L[i] ∈ highF rows := by rw [← hL]; exact List.getElem_mem hi1
        obtain ⟨x, hx⟩ : ∃ x, x = L[i] := ⟨_, rfl⟩
        rw [← hx] at hmem
        obtain ⟨m1, m2, m3, m4⟩ := high_mem hmem
        have hrl : 0 < rows.length := by omega
        have hGn := hGG hrl
        have hT2 := hT.same H2.same
        have hGx : gatesN rows ≤ rows[x.1].length := gates_le (rows := rows) _ (List.getElem_mem m1)
        have hnx := hn rows[x.1] (List.getElem_mem m1)
        obtain ⟨c, B1, A1, r1⟩ := hT2.row m1
        have hq : vAt rows x.1 x.2.1 = rows[x.1][x.2.1]'(by omega) := by
          unfold vAt
          rw [List.getElem?_eq_getElem m1, Option.getD_some, List.getElem?_eq_getElem (by omega), Option.getD_some]
        have B2 := r1.addr (kk := .i64) (i := (x.2.1 : Int)) (k := x.2.1) rfl (by omega)
        rw [Nat.mul_one] at B2
        have A2 : loadV s2 none (elP c x.2.1) = some (.float .f64 x.2.2) := by
          refine r1.load ?_
          have hfm : rows[x.1].flatMap eF = rows[x.1].map (.float .f64) := flatMap_one (Value.float .f64) _
          rw [m3, hq, hfm]; simp
        obtain ⟨f0, f1, f2, f3⟩ := flat3 hi1
        rw [← hx] at f0 f1 f2 f3
        have aI := sl.addr (kk := .i64) (i := (i : Int)) rfl hi1
        have p0 := sl.fld (by omega) (i * 3) 0
        have p1 := sl.fld (by omega) (i * 3) 1
        have p2 := sl.fld (by omega) (i * 3) 2
        rw [Nat.add_zero] at p0
        have l0 := sl.load f0
        have l1 := sl.load f1
        have l2 := sl.load f2
        obtain ⟨kx, hkx, hkp⟩ := top_pos hf m4
        rw [← m3] at hkx
        have lx : x.2.2 < 18446744073709551616 := by rw [m3]; exact vAt_lt hf _ _
        have hpp : (ford .f64 x.2.2 x.2.2 == some .eq) = true := (feq_iff lx lx).2 ⟨kx, hkx, hkx⟩
        have hp0 : (ford .f64 x.2.2 0 == some .gt) = true := (fgt_iff lx (by decide)).2 ⟨kx, 0, hkx, fkey_zero, hkp⟩
        have q1 : decide (((x.1 : Nat) : Int) < 0) = false := decide_eq_false (by omega)
        have q2 : decide (((rows.length : Nat) : Int) ≤ (x.1 : Nat)) = false := decide_eq_false (by omega)
        have q3 : decide (((x.2.1 : Nat) : Int) < 0) = false := decide_eq_false (by omega)
        have q4 : decide (((G : Nat) : Int) ≤ (x.2.1 : Nat)) = false := decide_eq_false (by omega)
        refine W_seq (W_block ?_)
        refine W_assoc ?_
        refine W_seq (W_draw0 [0, 3, 4, 6, 9, 10, 142] rfl ?_)
        simp only [d7_28, WD_addrSl, WD_bin, WD_bu, WD_fieldAddr, WD_load, WD_move, WD_pick, pick_b, WD_un, un_not, bin_geq, binf_gtr, bin_lss, binf_neq, want_v, wantB_f, WD_nil, DPureK_some, DReadK_some, pastR_nil, joinAll_nil, setH_self, geT_put, evO_tmp, evO_const, keep_nil, keep_cons, keepK_eq, List.map_cons, List.map_nil, Nat.reduceEqDiff, Nat.reduceAdd, ↓reduceIte, Bool.not_true, Bool.not_false, eq_self, Bool.false_eq_true, true_and, Nat.zero_add, e0, e3, e4, e6, e9, e10, WD_yes, aI, p0, p1, p2, l0, l1, l2, q1, q2, q3, q4, hT2.len, B1, A1, B2, A2, hpp, hp0]
        clear e0 e3 e4 e6 e9 e10 e75
        intro fr e0 e3 e4 e6 e9 e10 e142
        refine SeqK_n ?_
        refine W_seq (W_cond e142 (fun h => by cases h) (fun _ => W_skip (SeqK_n ?_)))
        have hfs := foundUp_succ (most := most) hi1
        rw [← hx] at hfs
        refine W_seq (W_opsB [0, 3, 4, 6, 9, 10] (fun fr1 s6 => s2 = s6 ∧ geT fr1 0 = mv ∧ geT fr1 3 = lv ∧ geT fr1 4 = .int .i64 (G : Nat) ∧ geT fr1 6 = .float .f64 most ∧ geT fr1 9 = .bool (foundUp L most (i + 1)) ∧ geT fr1 10 = .int .i64 (i : Nat)) ?_ ?_)
        · intro R' hR'
          cases hfu : foundUp L most i with
          | true =>
            rw [hfu] at e9
            simp only [o7_30, WO_nil, WO_move, WO_pick, WO_guard, PureK_some, geT_put, evO_tmp, evO_const, want_v, wantB_f, keep_nil, keep_cons, keepK_eq, Nat.reduceEqDiff, ↓reduceIte, pick_b, Bool.not_true, eq_self, Bool.false_eq_true, e0, e3, e4, e6, e9, e10]
            intro fr e0 e3 e4 e6 e9 e10
            exact hR' _ _ ⟨rfl, e0, e3, e4, e6, by rw [e9, hfs, hfu, Bool.true_or], e10⟩
          | false =>
            rw [hfu] at e9
            simp only [o7_30, WO_nil, WO_move, WO_pick, WO_bin, WO_fieldAddr, WO_addrSl, WO_load, WO_guard, PureK_some, geT_put, evO_tmp, evO_const, want_v, wantB_f, keep_nil, keep_cons, keepK_eq, Nat.reduceEqDiff, ↓reduceIte, pick_b, binf_eql, Bool.not_false, eq_self, Bool.false_eq_true, e0, e3, e4, e6, e9, e10, aI, p2, l2]
            intro fr e0 e3 e4 e6 e9 e10
            exact hR' _ _ ⟨rfl, e0, e3, e4, e6, by rw [e9, hfs, hfu, Bool.false_or], e10⟩
        clear e0 e3 e4 e6 e9 e10 e142 fr
        rintro fr _ ⟨rfl, e0, e3, e4, e6, e9, e10⟩
        refine SeqK_n ?_
        refine W_seq (W_ops [0, 3, 4, 6, 9, 10, 11] ?_)
        simp only [o7_31, WO_move, WO_nil, geT_put, evO_const, keep_nil, keep_cons, keepK_eq, Nat.reduceEqDiff, ↓reduceIte, eq_self, e0, e3, e4, e6, e9, e10]
        clear e0 e3 e4 e6 e9 e10
        intro fr e0 e3 e4 e6 e9 e10 e11
        refine SeqK_n ?_
        clear sl aI p0 p1 p2 l0 l1 l2 B1 A1 r1 B2 A2 hT2
        refine W_block (W_loop (fun mm fr s2 => ∃ k, k + mm = i ∧ geT fr 0 = mv ∧ geT fr 3 = lv ∧ geT fr 4 = .int .i64 (G : Nat) ∧ geT fr 6 = .float .f64 most ∧ geT fr 9 = .bool (foundUp L most (i + 1)) ∧ geT fr 10 = .int .i64 (i : Nat) ∧ geT fr 11 = .int .i64 (k : Nat) ∧ Hold s s2 [HP.own 3 lv L.length (L.flatMap eSp)]) i ⟨0, by omega, e0, e3, e4, e6, e9, e10, e11, H2⟩ ?_)
        clear e0 e3 e4 e6 e9 e10 e11 fr H2 s2
        rintro mm fr s2 ⟨k, hk, e0, e3, e4, e6, e9, e10, e11, H2⟩
        refine W_assoc ?_
        refine W_seq (W_ops [0, 3, 4, 6, 9, 10, 11, 155] ?_)
        simp only [o7_33, WO_bin, WO_move, bin_lss, WO_nil, PureK_some, geT_put, evO_tmp, keep_nil, keep_cons, keepK_eq, Nat.reduceEqDiff, ↓reduceIte, eq_self, e0, e3, e4, e6, e9, e10, e11]
        clear e0 e3 e4 e6 e9 e10 e11
        intro fr e0 e3 e4 e6 e9 e10 e11 e155
        refine SeqK_n ?_
        refine W_while e155 (fun hlt2 => ?_) (fun hlt2 => ?_)
        · have hki : k < i := by omega
          have hk1 : k < L.length := by omega
          obtain ⟨y, hy⟩ : ∃ y, y = L[k] := ⟨_, rfl⟩
          have hmemy : y ∈ highF rows := by rw [hy, ← hL]; exact List.getElem_mem hk1
          obtain ⟨n1, n2, n3, n4⟩ := high_mem hmemy
          have hap := tops_apart hf m1 n1 m2 n2 m4 n4
          have hso : aheadB y x = true := by
            rw [hy, hx]
            have := high_sorted (rows := rows)
            rw [← hL] at this
            exact List.pairwise_iff_getElem.1 this k i hk1 hi1 hki
          have hny := hn rows[y.1] (List.getElem_mem n1)
          have hGy : gatesN rows ≤ rows[y.1].length := gates_le (rows := rows) _ (List.getElem_mem n1)
          have sl := (H2.own (List.mem_cons_self ..)).slc
          have aI := sl.addr (kk := .i64) (i := (i : Int)) rfl hi1
          have aK := sl.addr (kk := .i64) (i := (k : Int)) rfl hk1
          have ld : ∀ s', Same s2 s' (fun _ => False) → ∀ (q : Nat) (hq : q < L.length), loadV s' (some 3) (elP lv (q * 3)) = some (sV L[q]) := fun s' hs q hq => by
            rw [(sl.same hs (fun _ _ h => h)).loads (by omega) (by omega), (flat3 hq).2.2.2]; rfl
          have lI := ld s2 (.refl _ _) i hi1
          have lK := ld s2 (.refl _ _) k hk1
          rw [← hx] at lI
          rw [← hy] at lK
          have hTl := (hT.same H2.same).len
          refine W_seq (W_block ?_)
          refine W_seq (W_draw0 [0, 3, 4, 6, 9, 10, 11, 186] rfl ?_)
          simp only [d7_34, WD_addrSl, WD_bu, WD_call, WD_load, WD_move, DPureK_some, DReadK_some, pastR_nil, joinF_nil, setH_self, geT_put, evO_tmp, List.map_cons, List.map_nil, Nat.reduceEqDiff, Nat.reduceAdd, ↓reduceIte, eq_self, true_and, Nat.zero_add, e0, e3, e10, e11, aI, aK, lI, lK, hTl]
          refine DCallK_of rfl (run28 hX ho m1 n1 (by omega) (by omega) (by omega)) ?_
          rintro _ s3 ⟨rfl, hs3⟩
          have lI3 := ld s3 hs3 i hi1
          have lK3 := ld s3 hs3 k hk1
          rw [← hx] at lI3
          rw [← hy] at lK3
          simp only [WD_addrSl, WD_call, WD_load, WD_move, want_v, wantB_f, DPureK_some, DReadK_some, pastR_cons, joinF_nil, setH_self, Nat.testBit, Nat.reduceShiftRight, Nat.reduceAnd, Nat.reduceBneDiff, List.all_nil, List.all_cons, List.filter_nil, List.filter_cons, geT_put, evO_tmp, List.map_cons, List.map_nil, Nat.reduceEqDiff, Nat.reduceAdd, ↓reduceIte, Bool.not_true, Bool.not_false, Bool.and_true, Bool.true_or, eq_self, Bool.false_eq_true, true_and, e3, e10, e11, WD_yes, hap, aI, aK, lI3, lK3]
          refine DCallK_of rfl (run29 hX ho) ?_
          rintro _ s4 ⟨rfl, hs4⟩
          simp only [WD_move, WD_pick, pick_b, WD_un, un_not, want_v, wantB_t, wantB_f, WD_nil, DPureK_some, joinF_nil, joinAll_nil, setH_self, Nat.testBit, Nat.reduceShiftRight, Nat.reduceAnd, Nat.reduceBneDiff, List.all_nil, List.all_cons, List.filter_nil, List.filter_cons, geT_put, evO_tmp, evO_const, keep_nil, keep_cons, keepK_eq, Nat.reduceEqDiff, Nat.reduceAdd, ↓reduceIte, Bool.not_true, Bool.not_false, Bool.and_true, Bool.true_or, eq_self, Bool.false_eq_true, true_and, e0, e3, e4, e6, e9, e10, e11, WD_yes, hso, WD_no_move, WD_no_bin]
          clear e0 e3 e4 e6 e9 e10 e11 e155
          intro fr e0 e3 e4 e6 e9 e10 e11 e186
          refine SeqK_n ?_
          refine W_cond e186 (fun h => by cases h) (fun _ => W_skip (BlkK_n (SeqK_n ?_)))
          refine W_ops [0, 3, 4, 6, 9, 10, 11] ?_
          simp only [o7_36, WO_bin, WO_move, bin_add, WO_nil, PureK_some, geT_put, evO_tmp, evO_const, keep_nil, keep_cons, keepK_eq, Nat.reduceEqDiff, ↓reduceIte, eq_self, e0, e3, e4, e6, e9, e10, e11, wrap_i64 (n := (k : Int) + 1) (by omega) (by omega)]
          clear e0 e3 e4 e6 e9 e10 e11 e186
          intro fr e0 e3 e4 e6 e9 e10 e11
          exact LoopK_n (m' := mm - 1) (by omega) ⟨k + 1, by omega, e0, e3, e4, e6, e9, e10, by rw [e11]; rfl, (H2.keep hs3).keep hs4⟩
        · refine LoopK_x (BlkK_e (BlkK_n (SeqK_n ?_)))
          refine W_ops [0, 3, 4, 6, 9, 10] ?_
          simp only [o7_37, WO_bin, WO_move, bin_add, WO_nil, PureK_some, geT_put, evO_tmp, evO_const, keep_nil, keep_cons, keepK_eq, Nat.reduceEqDiff, ↓reduceIte, eq_self, e0, e3, e4, e6, e9, e10, wrap_i64 (n := (i : Int) + 1) (by omega) (by omega)]
          clear e0 e3 e4 e6 e9 e10 e11 e155
          intro fr e0 e3 e4 e6 e9 e10
          exact LoopK_n (m' := m - 1) (by omega) ⟨i + 1, by omega, e0, e3, e4, e6, e9, by rw [e10]; rfl, H2⟩
      · have hil : i = L.length := by omega
        subst hil
        refine LoopK_x (BlkK_e (SeqK_n ?_))
        by_cases hm0 : most = 0
        · subst hm0
          have hnil := none_top hf hM'
          rw [← hL] at hnil
          have hfo : foundUp L 0 L.length = true := by unfold foundUp; rw [show (ford .f64 0 0 == some .eq) = true from by decide +kernel]; rfl
          have hg0 : (ford .f64 0 0 == some .gt) = false := by decide +kernel
          have hl0 : decide (((L.length : Nat) : Int) = 0) = true := decide_eq_true (by rw [hnil]; rfl)
          rw [hfo] at e9
          refine W_seq (W_ops [2] ?_)
          simp only [o7_38, WO_bin, WO_bu, WO_call, WO_move, WO_pick, pick_b, bin_eql, binf_gtr, PureK_some, WO_guard, want_v, wantB_t, wantB_f, geT_put, evO_tmp, evO_const, List.map_cons, List.map_nil, Nat.reduceEqDiff, ↓reduceIte, Bool.not_false, eq_self, Bool.false_eq_true, e3, e6, e9, hg0, sl.len, hl0]
          refine CallK_eq (Call_orc hw) ?_
          simp only [WO_move, WO_pick, pick_b, WO_nil, PureK_some, geT_put, evO_tmp, evO_const, keep_nil, keep_cons, keepK_eq, Nat.reduceEqDiff, ↓reduceIte, eq_self]
          clear e0 e3 e4 e6 e9 e10 e75
          intro fr e2
          refine SeqK_n ?_
          exact W_ret (Ret1 e2 rfl)
        · obtain ⟨b, g, hbg⟩ := most_top hf hM' hm0
          obtain ⟨t1, t2, t3, t4⟩ := high_mem hbg
          simp only at t1 t2 t3 t4
          obtain ⟨kx, hkx, hkp⟩ := top_pos hf t4
          rw [← t3] at hkx
          have lx : most < 18446744073709551616 := hM'.1
          have hg0 : (ford .f64 most 0 == some .gt) = true := (fgt_iff lx (by decide)).2 ⟨kx, 0, hkx, fkey_zero, hkp⟩
          have hfo : foundUp L most L.length = true := by
            unfold foundUp
            rw [List.take_length]
            have : (L.any fun x => ford .f64 x.2.2 most == some .eq) = true := by
              rw [List.any_eq_true]
              exact ⟨_, by rw [hL]; exact hbg, (feq_iff lx lx).2 ⟨kx, hkx, hkx⟩⟩
            rw [this, Bool.or_true]
          rw [hfo] at e9
          refine W_seq (W_ops [2] ?_)
          simp only [o7_38, WO_bin, WO_call, WO_move, WO_pick, pick_b, binf_gtr, PureK_some, WO_guard, want_v, wantB_t, wantB_f, geT_put, evO_tmp, evO_const, List.map_nil, Nat.reduceEqDiff, ↓reduceIte, Bool.not_true, eq_self, Bool.false_eq_true, e6, e9, hg0]
          refine CallK_eq (Call_orc hw) ?_
          simp only [WO_move, WO_pick, pick_b, WO_nil, PureK_some, geT_put, evO_tmp, evO_const, keep_nil, keep_cons, keepK_eq, Nat.reduceEqDiff, ↓reduceIte, eq_self]
          clear e0 e3 e4 e6 e9 e10 e75
          intro fr e2
          refine SeqK_n ?_
          exact W_ret (Ret1 e2 rfl)

end Go.Proofs.Ytpphomoijlilfaa

/- PeaksTops: its run at any arguments of no great bulk. -/
namespace Go.Proofs.Ytpphomoijlilfaa
open Go Go.Vam

theorem bulkAll_mem {H : Type} (l : List (DataW H)) : ∀ d ∈ l, Rows.uptoBulk d ≤ Rows.uptoBulkAll l := by
  induction l with
  | nil => simp
  | cons x r ih =>
    intro d hd
    rcases List.mem_cons.1 hd with rfl | hd
    · simp only [Rows.uptoBulkAll]; omega
    · have := ih d hd; simp only [Rows.uptoBulkAll]; omega

theorem bulk_one {H : Type} (d : DataW H) : 1 ≤ Rows.uptoBulk d := by
  cases d with
  | lit l => cases l <;> simp [Rows.uptoBulk]
  | nil => simp [Rows.uptoBulk]
  | ptr d => simp [Rows.uptoBulk]
  | slice elems spare => simp [Rows.uptoBulk]
  | agg parts => simp [Rows.uptoBulk]
  | iface t d => simp [Rows.uptoBulk]
  | map entries => simp [Rows.uptoBulk]
  | held h => simp [Rows.uptoBulk]

theorem bulk_len {H : Type} (l : List (DataW H)) : l.length ≤ Rows.uptoBulkAll l := by
  induction l with
  | nil => simp [Rows.uptoBulkAll]
  | cons x r ih => have := bulk_one x; simp only [Rows.uptoBulkAll, List.length_cons]; omega

theorem bulk {H : Type} : Bulk (Rows.uptoBulk (H := H)) :=
  ⟨bulk_one, fun ds rest d hd => by have := bulkAll_mem ds d hd; simp only [Rows.uptoBulk]; omega, fun ds rest => by have := bulk_len ds; simp only [Rows.uptoBulk]; omega,
    fun ds d hd => by have := bulkAll_mem ds d hd; simp only [Rows.uptoBulk]; omega⟩

theorem AbsL.cons {P : Program} {T : Type} {s : Mm} {t : TypeId} {ts : List TypeId} {vs : List Value} {ds : List (DataW T)} (h : AbsL P s (t :: ts) vs ds) : ∃ v vs' d ds', vs = v :: vs' ∧ ds = d :: ds' ∧ AbsV P s t v d ∧ AbsL P s ts vs' ds' := by
  cases vs with
  | nil => exact h.elim
  | cons v vs => cases ds with
    | nil => exact h.elim
    | cons d ds => exact ⟨v, vs, d, ds, rfl, rfl, h.1, h.2⟩

theorem AbsL.nil {P : Program} {T : Type} {s : Mm} {vs : List Value} {ds : List (DataW T)} (h : AbsL P s [] vs ds) : vs = [] ∧ ds = [] := by
  cases vs with
  | nil => cases ds with
    | nil => exact ⟨rfl, rfl⟩
    | cons d ds => exact h.elim
  | cons v vs => exact h.elim

theorem wfl (x : Nat) (hx : (Lit.float .f64 x).wf = true) : x < 18446744073709551616 := by simpa [Lit.wf] using hx

set_option maxRecDepth 100000 in
/-- A map that is handed in. -/
theorem map_open {T : Type} {s : Mm} (hs : Lt s) {v : Value} {d : DataW T} (h : AbsV Try.prog s 22 v d) : ∃ rows : List (List Nat), TabE s 1 eF v rows ∧ oneCell v = true ∧ rows.length ≤ Rows.uptoBulk d ∧ (∀ r ∈ rows, r.length ≤ Rows.uptoBulk d) ∧ Fin64 rows := by
  unfold AbsV at h
  rw [Try.underlying22] at h
  have c1 : Try.prog.cellsOf 23 = 1 := by decide +kernel
  have c2 : Try.prog.cellsOf 24 = 1 := by decide +kernel
  obtain ⟨w, rows, g1, g2, g3, g4⟩ := Abs.tabB (f := Value.float .f64) (p := fun x => x < 18446744073709551616) bulk hs Try.underlying22 Try.underlying23 c1 c2 h (fun l d hl => by
    obtain ⟨n, k1, _, k2⟩ := Abs.f Try.underlying24 hl
    exact ⟨n, k1, wfl n k2⟩)
  cases g1
  refine ⟨rows, g2, ?_, g3, fun r hr => (g4 r hr).1, fun r hr => (g4 r hr).2⟩
  obtain ⟨c, a, _⟩ := g2
  exact a.one

set_option maxRecDepth 100000 in
theorem runPeaksTops {T : Type} {s : Mm} {avs : List Value} {ds : List (DataW T)} (hs : Lt s) (h : AbsL Try.prog s [22] avs ds) (hk : Rows.uptoBulkAll ds ≤ 1048576) : CallP ⟨orcW 15, fnsOf Try.prog⟩ 7 avs s (fun v _ => v = .bool true) := by
  obtain ⟨v0, vs, d0, ds, rfl, rfl, h0, h⟩ := AbsL.cons h
  obtain ⟨rfl, rfl⟩ := AbsL.nil h
  obtain ⟨rows, g1, g2, g3, g4, g5⟩ := map_open hs h0
  have hb := bulkAll_mem [d0] d0 (by simp)
  exact run7 (X := ⟨orcW 15, fnsOf Try.prog⟩) rfl (fun f args hf => orcW_other hf args) (orcW_self 15) g1 g2 (by omega) (fun r hr => by have := g4 r hr; omega) g5

end Go.Proofs.Ytpphomoijlilfaa
