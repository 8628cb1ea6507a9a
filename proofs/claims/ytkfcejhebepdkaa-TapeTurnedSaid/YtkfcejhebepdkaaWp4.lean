/- Slices that may grow. -/
import Derived.Test.YtkfcejhebepdkaaWp3
namespace Go.Vam
open Go

variable {s : Mm}

/-- A slice over a block of its own, from the block's begin on. -/
inductive Own (s : Mm) (sz : Nat) : Value → Nat → List Value → Prop
  | nil : Own s sz (.slice none 0 0) 0 []
  | opn {B n : Nat} {cs : List Value} (h : Store.get s.h B = some (.cells cs true)) (hB : B < s.nxt) (hl : cs.length = n * sz) : Own s sz (.slice (some ⟨B, 0, none⟩) n (OPEN + sz)) n cs
  | cap {B n c : Nat} {cs rest : List Value} (h : Store.get s.h B = some (.cells (cs ++ rest) false)) (hB : B < s.nxt) (hl : cs.length = n * sz) (hr : rest.length = (c - n) * sz) (hn : n ≤ c) (hc : c < OPEN) :
      Own s sz (.slice (some ⟨B, 0, none⟩) n c) n cs

theorem Own.length {sz n : Nat} {v : Value} {cs : List Value} (h : Own s sz v n cs) : cs.length = n * sz := by
  cases h with
  | nil => simp
  | opn h hB hl => exact hl
  | cap h hB hl => exact hl

theorem Own.slc {sz n : Nat} {v : Value} {cs : List Value} (h : Own s sz v n cs) : SlC s sz v n cs := by
  cases h with
  | nil => exact .nil
  | opn h hB hl => exact .mk (blk_cells h) hB (by rw [List.drop_zero, ← hl, List.take_length]) (by omega) (.inr rfl)
  | cap h hB hl hr hn hc =>
    refine .mk (blk_cells h) hB ?_ (by simp; omega) (.inl ⟨hn, hc⟩)
    rw [List.drop_zero, ← hl, List.take_left]

theorem Own.same {s s' : Mm} {F : Nat → Prop} {sz n : Nat} {v : Value} {cs : List Value} (h : Own s sz v n cs) (g : Same s s' F) (hF : ∀ b, footV v b → ¬ F b) : Own s' sz v n cs := by
  cases h with
  | nil => exact .nil
  | opn h hB hl => exact .opn (by rw [g.get _ hB (hF _ rfl)]; exact h) (Nat.lt_of_lt_of_le hB g.nxt) hl
  | cap h hB hl hr hn hc => exact .cap (by rw [g.get _ hB (hF _ rfl)]; exact h) (Nat.lt_of_lt_of_le hB g.nxt) hl hr hn hc

theorem SlC.cells {sz n : Nat} {v : Value} {cs : List Value} (h : SlC s sz v n cs) : cellsOfSl s sz v = some cs := by
  cases h with
  | nil => rfl
  | @mk B o n cap all cs hb hB hc ho hcap =>
    subst hc
    simp only [cellsOfSl, cellsAt]
    unfold blk at hb
    split at hb
    · rename_i h; cases hb; simp only [h, Option.isSome_none, Bool.false_eq_true, if_false, if_pos ho]
    · rename_i h; cases hb; simp only [h, Option.isSome_none, Bool.false_eq_true, if_false, if_pos ho]
    · cases hb

theorem SlC.src {sz n : Nat} {v : Value} {cs : List Value} (h : SlC s sz v n cs) : srcCells s sz v = some (n, cs) := by
  have hc := h.cells
  cases h with
  | nil => rfl
  | mk hb hB hc' ho hcap =>
    simp only [cellsOfSl] at hc
    simp only [srcCells, hc, Option.map_some]

theorem src_str {b : ByteArray} : srcCells s 1 (.string b) = some (b.size, strCells b) := rfl

theorem putL_app : ∀ (a vs rest : List Value), vs.length ≤ rest.length → putL (a ++ rest) a.length vs = a ++ vs ++ rest.drop vs.length := by
  intro a
  induction a with
  | nil =>
    intro vs
    induction vs with
    | nil => intro rest _; cases rest <;> simp [putL]
    | cons v vs ih =>
      intro rest h
      cases rest with
      | nil => simp at h
      | cons r rest =>
        have := ih rest (by simpa using h)
        simp only [List.nil_append, List.length_nil] at this ⊢
        simp only [putL, this, List.cons_append, List.length_cons, List.drop_succ_cons]
  | cons x a ih =>
    intro vs rest h
    have := ih vs rest h
    cases vs with
    | nil => simp [putL]
    | cons v vs => simp only [List.cons_append, List.length_cons, putL]; rw [this]; simp

/-- append to a slice of one's own. -/
theorem Own.append {sz n m bytes : Nat} {v xv : Value} {cs new : List Value} (h : Own s sz v n cs) (hx : srcCells s sz xv = some (m, new)) (hnew : new.length = m * sz) (hone : new.all oneCell = true)
    (hsz : 0 < sz) (hb : 0 < bytes) (hb2 : bytes ≤ 1048576) (hsize : (n + m) * bytes ≤ 140737488355328) :
    ∃ v' s', appendV s bytes sz v xv = some (v', s') ∧ Own s' sz v' (n + m) (cs ++ new) ∧ Same s s' (footV v) ∧ (∀ b, footV v' b → footV v b ∨ s.nxt ≤ b) := by
  have hcells := h.slc.cells
  by_cases hm : m = 0
  · have hn0 : new = [] := by subst hm; simpa using hnew
    subst hm hn0
    refine ⟨v, s, ?_, by simpa using h, .refl _ _, fun b hb => .inl hb⟩
    cases h with
    | nil => simp only [appendV, hx, if_true]; simp
    | opn h hB hl => simp only [appendV, hx, if_true]; rw [if_pos (.inl (by omega))]
    | cap h hB hl hr hn hc => simp only [appendV, hx, if_true]; rw [if_pos (.inr hn)]
  · cases h with
    | nil =>
      simp only [cellsOfSl] at hcells
      have hO : (0 : Nat) < OPEN := by unfold OPEN; omega
      refine ⟨.slice (some ⟨s.nxt, 0, none⟩) (0 + m) (OPEN + sz), newAt s (.cells ([] ++ new) true), ?_, ?_, .new, fun b hb => .inr (by simp only [footV] at hb; omega)⟩
      · simp only [appendV, hx, if_neg hm]
        rw [if_neg (by omega), if_pos ⟨hsz, hb, hb2, hsize, hone⟩]
        simp only [cellsOfSl, if_pos hO]
      · exact .opn (by rw [get_new, if_pos rfl]) (by rw [nxt_new]; omega) (by simpa using hnew)
    | @opn B n cs h hB hl =>
      have hO : ¬ (OPEN + sz < OPEN) := by omega
      refine ⟨.slice (some ⟨s.nxt, 0, none⟩) (n + m) (OPEN + sz), { h := Store.put (Store.put s.h B none) s.nxt (some (.cells (cs ++ new) true)), nxt := s.nxt + 1 }, ?_, ?_, ⟨Nat.le_succ _, fun b hb hF => ?_⟩, fun b hb => .inr (by simp only [footV] at hb; omega)⟩
      · simp only [appendV, hx, if_neg hm]
        rw [if_neg (by omega), if_pos ⟨hsz, hb, hb2, hsize, hone⟩]
        simp only [hcells, if_neg hO, if_true, h, Nat.zero_add, hl]
      · exact .opn (by rw [Store.get_put, if_pos rfl]) (Nat.lt_succ_self _) (by simp only [List.length_append, hl, hnew, Nat.add_mul])
      · rw [Store.get_put, if_neg (by omega), Store.get_put, if_neg (fun e : b = B => hF e)]
    | @cap B n c cs rest h hB hl hr hn hc =>
      by_cases hfit : n + m ≤ c
      · have hrest : new.length ≤ rest.length := by
          rw [hnew, hr]; exact Nat.mul_le_mul_right _ (by omega)
        refine ⟨.slice (some ⟨B, 0, none⟩) (n + m) c, setBlk s B (.cells (cs ++ new ++ rest.drop new.length) false), ?_, ?_, .set rfl, fun b hb => .inl hb⟩
        · simp only [appendV, hx, if_neg hm]
          rw [if_pos ⟨hc, hfit⟩]
          simp only [add_none', Nat.zero_add, putCells, h, Option.isSome_none, Bool.false_eq_true, if_false]
          rw [if_pos (by simp only [List.length_append, hl, hnew, hr]; rw [← Nat.add_mul, ← Nat.add_mul]; exact Nat.mul_le_mul_right _ (by omega)), if_pos hone]
          simp only [Option.map_some, ← hl, putL_app _ _ _ hrest]
          rfl
        · refine .cap (rest := rest.drop new.length) (by rw [get_set, if_pos rfl]) hB (by simp only [List.length_append, hl, hnew, Nat.add_mul]) ?_ hfit hc
          rw [List.length_drop, hr, hnew, ← Nat.sub_mul]; congr 1; omega
      · refine ⟨.slice (some ⟨s.nxt, 0, none⟩) (n + m) (OPEN + sz), newAt s (.cells (cs ++ new) true), ?_, ?_, .new, fun b hb => .inr (by simp only [footV] at hb; omega)⟩
        · simp only [appendV, hx, if_neg hm]
          rw [if_neg (by omega), if_pos ⟨hsz, hb, hb2, hsize, hone⟩]
          simp only [hcells, if_pos hc]
        · exact .opn (by rw [get_new, if_pos rfl]) (by rw [nxt_new]; omega) (by simp only [List.length_append, hl, hnew, Nat.add_mul])

/-- A slice that was made. -/
theorem own_make {sz c n : Nat} {z : List Value} (hz : z.length = sz) (hn : n ≤ c) (hc : c < OPEN) :
    Own (newAt s (.cells (repZ z c) false)) sz (.slice (some ⟨s.nxt, 0, none⟩) n c) n (repZ z n) := by
  have hsplit : ∀ n c : Nat, n ≤ c → repZ z c = repZ z n ++ repZ z (c - n) := by
    intro n
    induction n with
    | zero => intro c _; simp [repZ]
    | succ n ih =>
      intro c h
      obtain ⟨c, rfl⟩ : ∃ d, c = d + 1 := ⟨c - 1, by omega⟩
      simp only [repZ, List.append_assoc]
      have e : c + 1 - (n + 1) = c - n := by omega
      rw [e, ← ih c (by omega)]
  exact .cap (rest := repZ z (c - n)) (by rw [get_new, if_pos rfl, hsplit n c hn]) (by rw [nxt_new]; omega) (by rw [repZ_length, hz]) (by rw [repZ_length, hz]) hn hc

/-! ## What a function answers -/

section ret
variable {fr : Fr} {P : Value → Mm → Prop}
theorem Ret0 (g : P (.tuple #[]) s) : RetK [] P .ret fr s := RetK_r rfl g
theorem Ret0n (g : P (.tuple #[]) s) : RetK [] P .normal fr s := RetK_n rfl g
theorem Ret1 {t : Tmp} {v : Value} (h : geT fr t = v) (g : P v s) : RetK [.tmp t] P .ret fr s := by subst h; exact RetK_r rfl g
theorem Ret2 {t u : Tmp} {v v' : Value} (h : geT fr t = v) (h' : geT fr u = v') (g : P (.tuple #[v, v']) s) : RetK [.tmp t, .tmp u] P .ret fr s := by subst h; subst h'; exact RetK_r rfl g
theorem RetC1 {t : Tmp} {n : Option Nat} {a v : Value} (h : geT fr t = a) (h' : loadV s n a = some v) (g : P v s) : RetK [.cell t n] P .ret fr s := by
  subst h; exact RetK_r (vs := [v]) (by simp only [resVs, resV, h']) g
theorem RetC2 {t u : Tmp} {n : Option Nat} {a v v' : Value} (h : geT fr t = a) (h' : loadV s n a = some v) (h2 : geT fr u = v') (g : P (.tuple #[v, v']) s) : RetK [.cell t n, .tmp u] P .ret fr s := by
  subst h; subst h2; exact RetK_r (vs := [v, geT fr u]) (by simp only [resVs, resV, h']) g
theorem RetC3 {t u x : Tmp} {n : Option Nat} {a v v' v2 : Value} (h : geT fr t = a) (h' : loadV s n a = some v) (h2 : geT fr u = v') (h3 : geT fr x = v2) (g : P (.tuple #[v, v', v2]) s) : RetK [.cell t n, .tmp u, .tmp x] P .ret fr s := by
  subst h; subst h2; subst h3; exact RetK_r (vs := [v, geT fr u, geT fr x]) (by simp only [resVs, resV, h']) g
end ret

end Go.Vam
