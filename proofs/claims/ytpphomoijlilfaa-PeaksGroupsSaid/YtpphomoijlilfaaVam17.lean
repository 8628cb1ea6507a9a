/- A region that draws its order: what a plan is, and what the run in the order of the text leaves to look at. -/
import Derived.Test.YtpphomoijlilfaaVam16
import Derived.Orders
namespace Go.Vam
open Go
structure Plan (P : Program) (nt : Nat) (ops : Array Oper) (l : List DOper) : Prop where
  len : l.length = ops.size
  ok : ∀ (i : Nat) (o : Oper) (d : DOper), ops[i]? = some o → l[i]? = some d → OperOk P nt ops o d.o
  edge : ∀ (i : Nat) (o : Oper) (e : Edge), ops[i]? = some o → e ∈ o.after → Region.binds .any e = true → e.on < i
  lt : ∀ (i : Nat) (d : DOper) (j : Nat), l[i]? = some d → d.pre.testBit j = true → j < i
  why : ∀ (i : Nat) (o : Oper) (d : DOper) (j : Nat), ops[i]? = some o → l[i]? = some d → d.pre.testBit j = true →
    ∃ e ∈ o.after, Region.binds .any e = true ∧ (e.on = j ∨ ∃ d', l[e.on]? = some d' ∧ d'.pre.testBit j = true)
  trans : ∀ (i : Nat) (d : DOper) (j : Nat) (d' : DOper) (k : Nat), l[i]? = some d → d.pre.testBit j = true → l[j]? = some d' → d'.pre.testBit k = true → d.pre.testBit k = true
  opr : ∀ (i : Nat) (o : Oper) (d : DOper), ops[i]? = some o → l[i]? = some d → ∀ t ∈ tmpsOf d.o.op.operands, t ∈ tmpsOf o.op.operands.toList
  nosel : ∀ (i : Nat) (o : Oper) cs b, ops[i]? = some o → o.op ≠ .select cs b
  apart : ∀ (i j : Nat) (o p : Oper) (d e : DOper), ops[i]? = some o → l[i]? = some d → ops[j]? = some p → l[j]? = some e → j < i → d.pre.testBit j = false →
    (∀ t, e.o.dst = some t → t ∉ readsOf o d.o ∧ d.o.dst ≠ some t) ∧ (∀ t, d.o.dst = some t → t ∉ readsOf p e.o)
theorem binds_any (e : Edge) : Region.binds .any e = bindsAny e := by
  unfold Region.binds bindsAny
  cases e.ground <;> rfl
theorem apartOk_spec {d : DOper} {ds : List Tmp} {i : Nat} : ∀ {l : List (Nat × List Tmp × DOper)}, apartOk d ds i l = true → ∀ p ∈ l, d.pre.testBit p.1 = false →
    (∀ t, p.2.2.o.dst = some t → t ∉ ds ∧ d.o.dst ≠ some t) ∧ (∀ t, d.o.dst = some t → t ∉ p.2.1) := by
  intro l
  induction l with
  | nil => intro _ p hp; cases hp
  | cons q l ih =>
    intro h p hp hb
    obtain ⟨j, r, e⟩ := q
    simp only [apartOk, Bool.and_eq_true, Bool.or_eq_true] at h
    cases hp with
    | head =>
      rcases h.1 with h1 | h1
      · rw [hb] at h1; cases h1
      · refine ⟨fun t ht => ?_, fun t ht => ?_⟩
        · have := h1.1; rw [show e.o.dst = some t from ht] at this; simpa using this
        · have := h1.2; rw [ht] at this; simpa using this
    | tail _ hp => exact ih h.2 p hp hb
def DoneOk (ops : Array Oper) (pl : List DOper) (i : Nat) (done : List (Nat × List Tmp × DOper)) : Prop :=
  (∀ p ∈ done, p.1 < i ∧ pl[p.1]? = some p.2.2 ∧ ∃ o, ops[p.1]? = some o ∧ p.2.1 = readsOf o p.2.2.o) ∧ (∀ j, j < i → ∃ p ∈ done, p.1 = j)
theorem find_done {done : List (Nat × List Tmp × DOper)} {j : Nat} {p : Nat × List Tmp × DOper} (h : done.find? (fun p => p.1 == j) = some p) : p ∈ done ∧ p.1 = j := by
  exact ⟨List.mem_of_find?_eq_some h, by simpa using List.find?_some h⟩
theorem drawGo_spec {ops : Array Oper} {pl : List DOper} : ∀ (l : List DOper) (i : Nat) (done : List (Nat × List Tmp × DOper)), (∀ k, l[k]? = pl[i + k]?) → DoneOk ops pl i done →
    drawGo ops l i done = true →
    ∀ (k : Nat) (d : DOper), i ≤ k → pl[k]? = some d → ∃ o, ops[k]? = some o ∧
      (∀ e ∈ o.after, Region.binds .any e = true → e.on < k) ∧ (∀ j, d.pre.testBit j = true → j < k) ∧
      (∀ j, d.pre.testBit j = true → ∃ e ∈ o.after, Region.binds .any e = true ∧ (e.on = j ∨ ∃ d', pl[e.on]? = some d' ∧ d'.pre.testBit j = true)) ∧
      (∀ j d' m, d.pre.testBit j = true → pl[j]? = some d' → d'.pre.testBit m = true → d.pre.testBit m = true) ∧
      (∀ t ∈ tmpsOf d.o.op.operands, t ∈ tmpsOf o.op.operands.toList) ∧ (∀ cs b, o.op ≠ .select cs b) ∧
      (∀ j p e, j < k → ops[j]? = some p → pl[j]? = some e → d.pre.testBit j = false → (∀ t, e.o.dst = some t → t ∉ readsOf o d.o ∧ d.o.dst ≠ some t) ∧ (∀ t, d.o.dst = some t → t ∉ readsOf p e.o)) := by
  intro l
  induction l with
  | nil =>
    intro i done hl hd h k d hk hpl
    have := hl (k - i)
    rw [show i + (k - i) = k by omega, hpl] at this
    simp at this
  | cons d0 l ih =>
    intro i done hl hd h k d hk hpl
    have h0 : pl[i]? = some d0 := by simpa using (hl 0).symm
    have hl' : ∀ k, l[k]? = pl[i + 1 + k]? := fun k => by
      have := hl (k + 1)
      simp only [List.getElem?_cons_succ] at this
      rw [this]; congr 1; omega
    simp only [drawGo] at h
    cases ho : ops[i]? with
    | none => rw [ho] at h; cases h
    | some o =>
      rw [ho] at h
      simp only [Bool.and_eq_true] at h
      obtain ⟨⟨⟨⟨⟨⟨c1, c2⟩, c3⟩, c4⟩, c5⟩, c6⟩, c7⟩ := h
      have hd' : DoneOk ops pl (i + 1) ((i, readsOf o d0.o, d0) :: done) := by
        refine ⟨fun p hp => ?_, fun j hj => ?_⟩
        · cases hp with
          | head => exact ⟨Nat.lt_succ_self _, h0, o, ho, rfl⟩
          | tail _ hp => obtain ⟨a, b, c⟩ := hd.1 p hp; exact ⟨by omega, b, c⟩
        · rcases Nat.lt_or_ge j i with hj' | hj'
          · obtain ⟨p, a, b⟩ := hd.2 j hj'; exact ⟨p, List.mem_cons_of_mem _ a, b⟩
          · exact ⟨(i, readsOf o d0.o, d0), List.mem_cons_self .., by simp; omega⟩
      rcases Nat.lt_or_ge i k with hik | hik
      · exact ih (i + 1) _ hl' hd' c7 k d hik hpl
      · obtain rfl : i = k := by omega
        rw [h0] at hpl; cases hpl
        have hplt : ∀ j, d0.pre.testBit j = true → j < i := by
          intro j hj
          have hlt := of_decide_eq_true c2
          rcases Nat.lt_or_ge j i with x | x
          · exact x
          · rw [Nat.testBit_lt_two_pow (Nat.lt_of_lt_of_le hlt (Nat.pow_le_pow_right (by decide) x))] at hj; cases hj
        rw [List.all_eq_true] at c1 c3 c4
        refine ⟨o, ho, fun e he hb => ?_, hplt, fun j hj => ?_, fun j d' m hj hd1 hm => ?_, fun t ht => ?_, fun cs b hsel => ?_, fun j p e hj hp he hb => ?_⟩
        · have := c1 e (by simpa using he)
          rw [binds_any] at hb
          rw [hb] at this
          simpa using this
        · have := c3 j (by simpa using hplt j hj)
          rw [hj] at this
          simp only [Bool.not_true, Bool.false_or, Bool.and_eq_true, List.any_eq_true] at this
          obtain ⟨⟨e, he, hb, hor⟩, _⟩ := this
          refine ⟨e, by simpa using he, by rw [binds_any]; exact hb, ?_⟩
          rw [Bool.or_eq_true] at hor
          rcases hor with x | x
          · exact .inl (by simpa using x)
          · right
            cases hf : done.find? (fun p => p.1 == e.on) with
            | none => rw [hf] at x; simp at x
            | some p =>
              rw [hf] at x
              obtain ⟨p1, p2⟩ := find_done hf
              obtain ⟨q1, q2, q3⟩ := hd.1 p p1
              rw [p2] at q2
              exact ⟨p.2.2, q2, by simpa using x⟩
        · have := c3 j (by simpa using hplt j hj)
          rw [hj] at this
          simp only [Bool.not_true, Bool.false_or, Bool.and_eq_true] at this
          obtain ⟨_, hsub⟩ := this
          cases hf : done.find? (fun p => p.1 == j) with
          | none => rw [hf] at hsub; simp at hsub
          | some p =>
            rw [hf] at hsub
            obtain ⟨p1, p2⟩ := find_done hf
            obtain ⟨q1, q2, q3⟩ := hd.1 p p1
            rw [p2, hd1] at q2; cases q2
            simp at hsub
            have := congrArg (fun x => x.testBit m) hsub
            simp only [Nat.testBit_and, hm, Bool.true_and] at this
            exact this
        · have := c4 t ht
          simpa using this
        · rw [hsel] at c5; cases c5
        · obtain ⟨q, a, b⟩ := hd.2 j hj
          obtain ⟨q1, q2, o', q3, q4⟩ := hd.1 q a
          rw [b] at q2 q3
          rw [he] at q2; cases q2
          rw [hp] at q3; cases q3
          have := apartOk_spec c6 q a (by rw [b]; exact hb)
          rw [q4] at this
          exact this
theorem plan_of {P : Program} {nt : Nat} {ops : Array Oper} {l : List AOper} (hc : compL P nt ops ops.toList = some l)
    (hg : drawGo ops (l.zipIdx.map fun p => (⟨p.1, (Region.before ops).getD p.2 0⟩ : DOper)) 0 [] = true) :
    Plan P nt ops (l.zipIdx.map fun p => (⟨p.1, (Region.before ops).getD p.2 0⟩ : DOper)) := by
  have hcl : ∀ (os : List Oper) (l : List AOper), compL P nt ops os = some l → l.length = os.length ∧ ∀ (i : Nat) (o : Oper) (a : AOper), os[i]? = some o → l[i]? = some a → OperOk P nt ops o a := by
    intro os
    induction os with
    | nil => intro l h; simp [compL] at h; subst h; exact ⟨rfl, fun i o a h => by simp at h⟩
    | cons o os ih =>
      intro l h
      obtain ⟨a, l', h1, h2, rfl⟩ := compL_cons h
      obtain ⟨g1, g2⟩ := ih l' h2
      refine ⟨by simp [g1], fun i p b x y => ?_⟩
      cases i with
      | zero => simp at x y; subst x; subst y; exact compO_spec h1
      | succ i => simp at x y; exact g2 i p b x y
  obtain ⟨h1, h2⟩ := hcl _ _ hc
  have hlen : (l.zipIdx.map fun p => (⟨p.1, (Region.before ops).getD p.2 0⟩ : DOper)).length = ops.size := by simp [h1]
  have hget : ∀ (i : Nat) (d : DOper), (l.zipIdx.map fun p => (⟨p.1, (Region.before ops).getD p.2 0⟩ : DOper))[i]? = some d → l[i]? = some d.o := by
    intro i d hd
    simp only [List.getElem?_map, Option.map_eq_some_iff] at hd
    obtain ⟨q, hq, rfl⟩ := hd
    rw [List.getElem?_zipIdx] at hq
    obtain ⟨x, hx, rfl⟩ := Option.map_eq_some_iff.1 hq
    exact hx
  generalize (l.zipIdx.map fun p => (⟨p.1, (Region.before ops).getD p.2 0⟩ : DOper)) = pl at hg hlen hget ⊢
  have hspec := drawGo_spec (pl := pl) pl 0 [] (fun k => by simp) ⟨fun p hp => by (cases hp), fun j hj => by omega⟩ hg
  refine ⟨hlen, fun i o d ho hd => ?_, fun i o e ho he hb => ?_, fun i d j hd hj => ?_, fun i o d j ho hd hj => ?_, fun i d j d' k hd hj hd' hk => ?_, fun i o d ho hd => ?_, fun i o cs b ho => ?_, fun i j o p d e ho hd hp he hj hb => ?_⟩
  · exact h2 i o d.o (by simpa using ho) (hget i d hd)
  · have hi : i < ops.size := (Array.getElem?_eq_some_iff.1 ho).1
    obtain ⟨d, hd⟩ : ∃ d, pl[i]? = some d := ⟨_, List.getElem?_eq_getElem (by omega)⟩
    obtain ⟨o', ho', c, _⟩ := hspec i d (Nat.zero_le _) hd
    rw [ho] at ho'; cases ho'
    exact c e he hb
  · obtain ⟨o', ho', _, c, _⟩ := hspec i d (Nat.zero_le _) hd
    exact c j hj
  · obtain ⟨o', ho', _, _, c, _⟩ := hspec i d (Nat.zero_le _) hd
    rw [ho] at ho'; cases ho'
    exact c j hj
  · obtain ⟨o', ho', _, _, _, c, _⟩ := hspec i d (Nat.zero_le _) hd
    exact c j d' k hj hd' hk
  · obtain ⟨o', ho', _, _, _, _, c, _⟩ := hspec i d (Nat.zero_le _) hd
    rw [ho] at ho'; cases ho'
    exact c
  · have hi : i < ops.size := (Array.getElem?_eq_some_iff.1 ho).1
    obtain ⟨d, hd⟩ : ∃ d, pl[i]? = some d := ⟨_, List.getElem?_eq_getElem (by omega)⟩
    obtain ⟨o', ho', _, _, _, _, _, c, _⟩ := hspec i d (Nat.zero_le _) hd
    rw [ho] at ho'; cases ho'
    exact c cs b
  · obtain ⟨o', ho', _, _, _, _, _, _, c⟩ := hspec i d (Nat.zero_le _) hd
    rw [ho] at ho'; cases ho'
    exact c j p e hj hp he hb
end Go.Vam
