/- Append, copy and their kin. -/
import Derived.Test.YtpphomoijlilfaaVam11
namespace Go.Vam
open Go
section
variable {P : Program} {ρ : Rho} {w : World} {F H : Type} [Store F Value] [Store H ABlk]
theorem VL.refl_str (b : ByteArray) : VL ρ (strCells b) (strCells b) := by
  refine ⟨rfl, fun i v v' h g => ?_⟩
  rw [h] at g; cases g
  simp only [strCells, List.getElem?_map, Option.map_eq_some_iff] at h
  obtain ⟨x, _, rfl⟩ := h
  exact .int _ _
theorem src_sound {s : AS H} (hR : Rep ρ s w) {sz n : Nat} {x x' : Value} {new : List Value} (hx : VR ρ x x') (h : srcCells s sz x = some (n, new)) :
    (Builtin.lenOf x').run P w = .ok n w ∧ new.length = n * sz ∧
      ∀ m, m ≤ n → ∃ c : Array Value, (∀ w₁ : World, w₁.heap = w.heap → (Builtin.firstCells sz m x').run P w₁ = .ok c w₁) ∧ VL ρ (new.take (m * sz)) c.toList := by
  cases hx <;> simp only [srcCells] at h <;> first | (cases h; done) | skip
  · rename_i b
    split at h
    case isFalse => cases h
    rename_i hs
    subst hs
    cases h
    refine ⟨rfl, by simp [strCells], fun m hm => ⟨_, fun w₁ _ => rfl, ?_⟩⟩
    have : (((b.extract 0 m).data.map fun x => (Value.int .u8 x.toNat))).toList = (strCells b).take (m * 1) := by
      simp [strCells]
    rw [this]
    exact (VL.refl_str b).take _
  · cases h
    exact ⟨rfl, by simp, fun m hm => ⟨#[], fun w₁ _ => rfl, by simp; exact .nil ρ⟩⟩
  all_goals
    obtain ⟨cs, hcs, he⟩ := Option.map_eq_some_iff.1 h
    simp only [Prod.mk.injEq] at he
    obtain ⟨rfl, rfl⟩ := he
  · rename_i B off len cap L hL hc
    obtain ⟨c, ce, cfz, h1, h2, h3, h4⟩ := hR.cells hL hcs
    refine ⟨rfl, h3, fun m hm => ⟨_, fun w₁ e₁ => run_loadCells P w₁ L.b (L.sh + off) (m * sz) c ce cfz (by rw [e₁]; exact h1) (by have := Nat.mul_le_mul_right sz hm; omega), ?_⟩⟩
    have := h4.take (m * sz)
    rw [List.take_take, Nat.min_eq_left (Nat.mul_le_mul_right sz hm)] at this
    simpa using this
  · rename_i B off len cap L hL ht hl hz
    obtain ⟨c, ce, cfz, h1, h2, h3, h4⟩ := hR.cells hL hcs
    refine ⟨rfl, h3, fun m hm => ⟨_, fun w₁ e₁ => run_loadCells P w₁ L.b (L.sh + off) (m * sz) c ce cfz (by rw [e₁]; exact h1) (by have := Nat.mul_le_mul_right sz hm; omega), ?_⟩⟩
    have := h4.take (m * sz)
    rw [List.take_take, Nat.min_eq_left (Nat.mul_le_mul_right sz hm)] at this
    simpa using this
  · rename_i B off L a' hL hz
    obtain ⟨c, _, _, rfl⟩ := cellsAt_spec hcs
    refine ⟨rfl, by simp, fun m hm => ?_⟩
    have : m = 0 := by omega
    subst this
    refine ⟨#[], fun w₁ _ => ?_, by simp; exact .nil ρ⟩
    simp only [Builtin.firstCells, Nat.zero_mul]
    rfl
  · rename_i B off len cap g L hL ht hl hz
    obtain ⟨c, ce, cfz, h1, h2, h3, h4⟩ := hR.cells hL hcs
    refine ⟨rfl, h3, fun m hm => ⟨_, fun w₁ e₁ => run_loadCells P w₁ L.b (L.sh + off) (m * sz) c ce cfz (by rw [e₁]; exact h1) (by have := Nat.mul_le_mul_right sz hm; omega), ?_⟩⟩
    have := h4.take (m * sz)
    rw [List.take_take, Nat.min_eq_left (Nat.mul_le_mul_right sz hm)] at this
    simpa using this
theorem growBy_le' (need : Nat) : ∀ (r c : Nat), 4 * c ≤ 5 * need + 768 → 4 * Builtin.growBy need r c ≤ 5 * need + 768 := by
  intro r
  induction r with
  | zero => intro c h; exact h
  | succ r ih =>
    intro c h
    simp only [Builtin.growBy]
    split
    · exact h
    · exact ih _ (by omega)
theorem nextcap_bytes {need cap bytes : Nat} (h : cap < need) (hb : bytes ≤ 1048576) (hn : need * bytes ≤ 140737488355328) : ¬ Builtin.nextslicecap need cap * bytes > 2 ^ 48 := by
  have h4 : 4 * Builtin.nextslicecap need cap ≤ 5 * need + 2048 := by
    unfold Builtin.nextslicecap
    split
    · omega
    · split
      · omega
      · have := growBy_le' need 4 cap (by omega); omega
  have : 4 * (Builtin.nextslicecap need cap * bytes) ≤ 5 * (need * bytes) + 2048 * bytes := by
    have := Nat.mul_le_mul_right bytes h4
    rw [Nat.add_mul, Nat.mul_assoc, Nat.mul_assoc] at this
    omega
  omega
theorem run_append_fit {st xt ty e : TypeId} {i : TypeInfo} {base : Option Addr} {len cap n : Nat} {x : Value} {new : Array Value}
    (hst : P.underlying st = some (.slice e)) (hxt : ∃ d, P.underlying xt = some d ∧ ∀ k, d ≠ .int k) (hi : P.info? e = some i)
    (hlen : (Builtin.lenOf x).run P w = .ok n w) (hnew : (Builtin.firstCells i.size n x).run P w = .ok new w) (hfit : len + n ≤ cap) :
    (Builtin.append_ #[st, xt] ty #[.slice base len cap, x]).run P w =
      match base with
      | some a => ((storeCells (a.add (len * i.size)) new.toList).run P w).andThen fun _ w' => .ok (.slice base (len + n) cap) w'
      | none => .ok (.slice base (len + n) cap) w := by
  obtain ⟨d, hd, hni⟩ := hxt
  have hsize : sizeT P e = some i.size := by simp [sizeT, hi]
  unfold Builtin.append_
  simp only [List.getElem?_toArray, List.getElem?_cons_zero, List.getElem?_cons_succ, Sem.run_bind, run_underlying hst, Result.andThen_ok, run_sizeT hsize, Sem.run_pure, run_underlying hd]
  rw [if_neg Bool.false_ne_true]
  simp only [Sem.run_bind, hlen, Result.andThen_ok]
  rw [if_pos hfit]
  simp only [Bool.not_false, if_true, Sem.run_bind, hnew, Result.andThen_ok]
  cases base <;> simp only [Sem.run_bind, Sem.run_pure]
theorem run_append_grow {st xt ty e : TypeId} {i : TypeInfo} {zv : Value} {base : Option Addr} {len cap n : Nat} {x : Value} {old new : Array Value}
    (hst : P.underlying st = some (.slice e)) (hxt : ∃ d, P.underlying xt = some d ∧ ∀ k, d ≠ .int k) (hi : P.info? e = some i) (hz : i.zero = some zv)
    (hlen : (Builtin.lenOf x).run P w = .ok n w) (hold : ∀ w₁ : World, w₁.heap = w.heap → (Builtin.firstCells i.size len (.slice base len cap)).run P w₁ = .ok old w₁)
    (hnew : ∀ w₁ : World, w₁.heap = w.heap → (Builtin.firstCells i.size n x).run P w₁ = .ok new w₁)
    (hgrow : cap < len + n) (hb0 : 0 < i.bytes) (hb : i.bytes ≤ 1048576) (hn : (len + n) * i.bytes ≤ 140737488355328) :
    ∃ (newCap : Nat) (rest : Array Value), len + n ≤ newCap ∧ rest.size = (newCap - (len + n)) * zv.cells.size ∧
      (Builtin.append_ #[st, xt] ty #[.slice base len cap, x]).run P w = .ok (.slice (some ⟨w.heap.size, 0, none⟩) (len + n) newCap) (w.drew.alloc (.cells (old ++ new ++ rest) e)) := by
  obtain ⟨d, hd, hni⟩ := hxt
  have hsize : sizeT P e = some i.size := by simp [sizeT, hi]
  have hcap : ∀ t, len + n ≤ (Question.appendCap (len + n) cap e).cut t := by intro t; simp [Question.cut]
  refine ⟨(Question.appendCap (len + n) cap e).cut (w.tape w.drawn (Question.appendCap (len + n) cap e)),
    Builtin.zeroCells zv.cells ((Question.appendCap (len + n) cap e).cut (w.tape w.drawn (Question.appendCap (len + n) cap e)) - (len + n)), hcap _, by simp [Builtin.zeroCells], ?_⟩
  unfold Builtin.append_
  simp only [List.getElem?_toArray, List.getElem?_cons_zero, List.getElem?_cons_succ, Sem.run_bind, run_underlying hst, Result.andThen_ok, run_sizeT hsize, Sem.run_pure, run_underlying hd]
  rw [if_neg Bool.false_ne_true]
  simp only [Sem.run_bind, hlen, Result.andThen_ok]
  rw [if_neg (by omega)]
  simp only [Sem.run_bind, run_typeInfo' hi, Result.andThen_ok]
  rw [if_neg (by rintro ⟨_, h | h⟩ <;> first | (cases h; done) | omega)]
  simp only [Sem.run_bind, run_typeInfo' hi, Result.andThen_ok]
  rw [if_neg (nextcap_bytes hgrow hb hn)]
  simp only [Sem.run_bind, run_choose_free P _ w (show (Question.appendCap (len + n) cap e).forced = false from rfl), Result.andThen_ok, run_typeInfo' hi, run_askRoom, hold w.drew rfl,
    Bool.not_false, if_true, hnew w.drew rfl, run_zero hi hz, run_newRow, Sem.run_pure, World.size_drew]
def Leaves (P : Program) (ρ : Rho) (s : AS H) (w : World) (m : Sem Value) (v : Value) (s' : AS H) : Prop :=
  ∃ ρ' w' v', m.run P w = .ok v' w' ∧ VR ρ' v v' ∧ Rep ρ' s' w' ∧ Ext ρ s w ρ' s' w'
theorem isSome_put {h : H} {B x : Nat} {b : ABlk} : (Store.get (Store.put h B (some b)) x).isSome = if x = B then true else (Store.get h x).isSome := by
  rw [Store.get_put]; split <;> rfl
theorem open_new {s : AS H} (hR : Rep ρ s w) {e : TypeId} {sz need newCap : Nat} {cs : List Value} {c : Array Value} (hcs : VL ρ cs (c.toList.take cs.length)) (hlen : cs.length = need * sz)
    (hcap : need ≤ newCap) (hc : c.size = newCap * sz) (hzO : sz < OPEN) (h' : H) (hsub : ∀ B b, Store.get h' B = some b → Store.get s.h B = some b) {w1 : World} (hq : Quiet w w1) :
    ∃ ρ', VR ρ' (.slice (some ⟨s.nxt, 0, none⟩) need (OPEN + sz)) (.slice (some ⟨w.heap.size, 0, none⟩) need newCap) ∧
      Rep ρ' { h := Store.put h' s.nxt (some (.cells cs true)), nxt := s.nxt + 1 } (w1.alloc (.cells c e)) ∧
      Ext ρ s w ρ' { h := Store.put h' s.nxt (some (.cells cs true)), nxt := s.nxt + 1 } (w1.alloc (.cells c e)) := by
  have hf := hR.fresh s.nxt (Nat.le_refl _)
  let L : Loc := ⟨w.heap.size, 0, c.size, sz, (0, 0), e⟩
  have hR1 : Rep ρ ({ h := h', nxt := s.nxt } : AS H) w1 := (hR.quiet hq).weaken (Nat.le_refl _) hsub
  have hnew := Rep.newAt (s' := ({ h := Store.put h' s.nxt (some (.cells cs true)), nxt := s.nxt + 1 } : AS H)) (w' := w1.alloc (.cells c e)) (B := s.nxt) (L := L) (b := .cells cs true) hR1 hf
    (Nat.lt_succ_self _) (Nat.le_succ _) (fun x => Store.get_put _ _ _ _) (by rw [hq.heap]) (by simp) (fun k hk => by
      show (w1.heap.push _)[k]? = _
      rw [Array.getElem?_push, if_neg (by omega)]) (by
      refine ⟨c, ?_, rfl, .inl rfl, ?_, fun i v hv => ?_⟩
      · show (w1.heap.push _)[w.heap.size]? = some (.cells c e (0, 0))
        rw [hq.heap]; simp
      · show 0 + cs.length ≤ c.size
        have := Nat.mul_le_mul_right sz hcap
        omega
      · obtain ⟨v', g1, g2⟩ := hcs.get hv
        refine ⟨v', ?_, g2.mono (Sub.upd L hf)⟩
        rw [List.getElem?_take] at g1
        split at g1
        · rw [Array.getElem?_toList] at g1
          show c[0 + i]? = some v'
          simpa using g1
        · cases g1) rfl rfl rfl rfl
  refine ⟨upd ρ s.nxt L, ?_, hnew.1, ?_⟩
  · have := VR.slOpen (ρ := upd ρ s.nxt L) (B := s.nxt) (off := 0) (len := need) (cap := newCap) (upd_self ρ s.nxt L) (by show 0 + 0 + newCap * sz = c.size; omega) hcap hzO
    simpa using this
  · have hx := hnew.2 (Nat.le_refl _)
    refine ⟨Nat.le_succ _, hx.keep, by rw [hx.os, hq.os], by rw [hx.tape, hq.tape], by rw [hx.output, hq.output], ?_, ?_, ?_, fun B cs1 hB => hsub B _ (hx.ros B cs1 hB)⟩
    · have := hx.size; rw [hq.heap] at this; exact this
    · intro b hb hu
      have := hx.frame b (by rw [hq.heap]; exact hb) (fun B L' hB hL' => hu B L' (by
        obtain ⟨bb, hbb, hr⟩ := hB
        exact ⟨bb, hsub B bb hbb, hr⟩) hL')
      rw [this, hq.heap]
    · intro B L' hB hL'
      rcases hx.img B L' hB hL' with x | ⟨B0, L0, x, y, z⟩
      · left; rw [hq.heap] at x; exact x
      · refine .inr ⟨B0, L0, ?_, y, z⟩
        obtain ⟨bb, hbb, hr⟩ := x
        exact ⟨bb, hsub B0 bb hbb, hr⟩
theorem append_in_place {s : AS H} (hR : Rep ρ s w) {st xt ty e : TypeId} {i : TypeInfo} {B off len n c' : Nat} {L : Loc} {cs old new : List Value} {cnew : Array Value} {xv' : Value}
    (hL : ρ B = some L) (ht : L.sh + off + c' * L.sz = L.tot) (hszL : L.sz = i.size) (hzO : i.size < OPEN) (hg : Store.get s.h B = some (.cells cs true)) (hend : off + len * i.size = cs.length)
    (hold : cellsOfSl s i.size (.slice (some ⟨B, off, none⟩) len (OPEN + L.sz)) = some old) (hvn : VL ρ new cnew.toList) (hnl : new.length = n * i.size) (hone : new.all oneCell = true)
    (hfit : len + n ≤ c') (hnew : (Builtin.firstCells i.size n xv').run P w = .ok cnew w)
    (hst : P.underlying st = some (.slice e)) (hxt : ∃ d, P.underlying xt = some d ∧ ∀ k, d ≠ .int k) (hi : P.info? e = some i) (hlen : (Builtin.lenOf xv').run P w = .ok n w) :
    Leaves P ρ s w (Builtin.append_ #[st, xt] ty #[.slice (some ⟨L.b, L.sh + off, none⟩) len c', xv']) (.slice (some ⟨s.nxt, 0, none⟩) (len + n) (OPEN + i.size))
      { h := Store.put (Store.put s.h B none) s.nxt (some (.cells (old ++ new) true)), nxt := s.nxt + 1 } := by
  obtain ⟨L0, hL0, c, h2, h3, h4, h5, h6⟩ := hR.blk _ _ hg
  rw [hL] at hL0; cases hL0
  have hf := hR.fresh s.nxt (Nat.le_refl _)
  have hBn : B < s.nxt := by
    rcases Nat.lt_or_ge B s.nxt with h | h
    · exact h
    · rw [hR.fresh B h] at hL; cases hL
  have hcl := hvn.1
  simp only [cellsOfSl] at hold
  obtain ⟨cs2, hg2, hl2, rfl⟩ := cellsAt_spec hold
  obtain rfl : cs = cs2 := by
    rcases hg2 with ⟨o2, hg2⟩ | hg2
    · rw [hg] at hg2; cases hg2; rfl
    · rw [hg] at hg2; cases hg2
  have hmul : (len + n) * i.size ≤ c' * i.size := Nat.mul_le_mul_right _ hfit
  rw [Nat.add_mul] at hmul
  rw [hszL] at ht
  have hone' : cnew.toList.all oneCell = true := by
    rw [List.all_eq_true] at hone ⊢
    intro x hx
    obtain ⟨j, hj⟩ := List.mem_iff_getElem?.1 hx
    have hj' : j < new.length := by have := (List.getElem?_eq_some_iff.1 hj).1; omega
    have := hvn.2 j new[j] x (by simp [hj']) hj
    rw [this.oneCell]; exact hone _ (List.getElem_mem hj')
  obtain ⟨w', c2, r1, r2, r3, r4, r5, r6, r7, r8⟩ := run_storeCells P L.b (L.sh + off + len * i.size) L.elem L.fz cnew.toList 0 w c h2 (by rw [h3]; exact h4) (by rw [h3, ← hcl, hnl]; omega) hone'
  have hsz2 : c2.size = c.size := by
    have := congrArg List.length r3; simpa [putL_length] using this
  let L' : Loc := ⟨L.b, L.sh + off, L.tot, i.size, L.fz, L.elem⟩
  have hsub := Sub.upd L' hf
  have hget : ∀ x, Store.get (Store.put (Store.put s.h B none) s.nxt (some (ABlk.cells (((cs.drop off).take (len * i.size)) ++ new) true))) x =
      if x = s.nxt then some (.cells (((cs.drop off).take (len * i.size)) ++ new) true) else if x = B then none else Store.get s.h x := by
    intro x; rw [Store.get_put]; split
    · rfl
    · rw [Store.get_put]
  refine ⟨upd ρ s.nxt L', w', .slice (some ⟨L.b, L.sh + off, none⟩) (len + n) c', ?_, ?_, ⟨?_, ?_, ?_, ?_⟩, ⟨Nat.le_succ _, ?_, r4, r5, r6, by rw [r7]; exact Nat.le_refl _, ?_, ?_, ?_⟩⟩
  · rw [run_append_fit hst hxt hi hlen hnew hfit]
    simp only [add_none]
    rw [r1]; rfl
  · have := VR.slOpen (ρ := upd ρ s.nxt L') (B := s.nxt) (off := 0) (len := len + n) (cap := c') (upd_self ρ s.nxt L') (by show L.sh + off + 0 + c' * i.size = L.tot; omega) hfit hzO
    simpa using this
  · intro x b hx
    simp only [hget] at hx
    split at hx
    · rename_i ex
      cases hx
      subst ex
      refine ⟨L', upd_self _ _ _, c2, r2, by rw [hsz2]; exact h3, h4, ?_, ?_⟩
      · show L.sh + off + (((cs.drop off).take (len * i.size)) ++ new).length ≤ L.tot
        simp only [List.length_append, List.length_take, List.length_drop, hnl]
        omega
      · intro j v hj
        show ∃ v', c2[L.sh + off + j]? = some v' ∧ VR (upd ρ s.nxt L') v v'
        have hc2 := getElem?_of_toList r3 (L.sh + off + j)
        rw [putL_get _ _ _ _ (by simp only [Array.length_toList] at *; omega)] at hc2
        rcases Nat.lt_or_ge j (len * i.size) with hjl | hjl
        · rw [List.getElem?_append_left (by simp; omega), List.getElem?_take, if_pos hjl, List.getElem?_drop] at hj
          obtain ⟨v', q1, q2⟩ := h6 _ _ hj
          rw [if_neg (by omega), Array.getElem?_toList] at hc2
          refine ⟨v', ?_, q2.mono hsub⟩
          rw [hc2, Nat.add_assoc]; exact q1
        · have hlt : ((cs.drop off).take (len * i.size)).length = len * i.size := by simp; omega
          rw [List.getElem?_append_right (by omega), hlt] at hj
          obtain ⟨v', q1, q2⟩ := hvn.get hj
          have hjn : j - len * i.size < new.length := (List.getElem?_eq_some_iff.1 hj).1
          rw [if_pos (by simp only [Array.length_toList] at *; omega)] at hc2
          refine ⟨v', ?_, q2.mono hsub⟩
          rw [hc2, ← q1]; congr 1; omega
    · split at hx
      · cases hx
      · rename_i n1 n2
        obtain ⟨Lx, p1, p2⟩ := hR.blk _ _ hx
        refine ⟨Lx, hsub _ _ p1, (p2.of_block (r8 _ fun eb => ?_)).mono hsub⟩
        exact n2 (hR.inj' hg rfl hx hL p1 eb)
  · intro x y Lx Ly hx hy px py eb
    obtain ⟨kx, hx, hkx⟩ := hx
    simp only [hget] at hx hy
    unfold upd at px py
    by_cases ex : x = s.nxt
    · by_cases ey : y = s.nxt
      · rw [ex, ey]
      · rw [if_pos ex] at px; rw [if_neg ey] at py hy; cases px
        split at hy
        · cases hy
        · rename_i nb
          obtain ⟨ky, hy⟩ := Option.isSome_iff_exists.1 hy
          exact absurd (hR.inj' hg rfl hy hL py eb.symm) nb
    · by_cases ey : y = s.nxt
      · rw [if_neg ex] at px hx; rw [if_pos ey] at py; cases py
        split at hx
        · cases hx
        · rename_i nb
          exact absurd (hR.inj' hg rfl hx hL px eb) nb
      · rw [if_neg ex] at px hx; rw [if_neg ey] at py hy
        split at hx
        · cases hx
        · split at hy
          · cases hy
          · exact hR.inj x y Lx Ly ⟨kx, hx, hkx⟩ hy px py eb
  · intro x hx
    unfold upd
    rw [if_neg (by simp at hx; omega)]
    exact hR.fresh x (by simp at hx; omega)
  · intro x Lx px
    rw [r7]
    unfold upd at px
    split at px
    · cases px; exact hR.lt B L hL
    · exact hR.lt _ _ px
  · intro x hx
    unfold upd; rw [if_neg (by omega)]
  · intro b _ hu
    exact r8 b fun eb => hu B L ⟨_, hg, rfl⟩ hL eb.symm
  · intro x Lx hx px
    obtain ⟨kx, hx, hkx⟩ := hx
    simp only [hget] at hx
    unfold upd at px
    split at px
    · cases px; exact .inr ⟨B, L, ⟨_, hg, rfl⟩, hL, rfl⟩
    · rename_i ne
      rw [if_neg ne] at hx
      split at hx
      · cases hx
      · exact .inr ⟨x, Lx, ⟨kx, hx, hkx⟩, px, rfl⟩
  · intro x cs1 hx
    simp only [hget] at hx
    split at hx
    · cases hx
    · split at hx
      · cases hx
      · exact hx
theorem append_sound {s s' : AS H} (hR : Rep ρ s w) {st xt ty e : TypeId} {i : TypeInfo} {zv : Value} {sv xv sv' xv' v : Value}
    (hst : P.underlying st = some (.slice e)) (hxt : ∃ d, P.underlying xt = some d ∧ ∀ k, d ≠ .int k) (hi : P.info? e = some i) (hz : i.zero = some zv) (hzs : zv.cells.size = i.size)
    (hs : VR ρ sv sv') (hx : VR ρ xv xv') (h : appendV s i.bytes i.size sv xv = some (v, s')) :
    Leaves P ρ s w (Builtin.append_ #[st, xt] ty #[sv', xv']) v s' := by
  unfold appendV at h
  split at h
  · rename_i base len cap n new hsrc
    obtain ⟨hlen, hnl, hfc⟩ := src_sound (P := P) hR hx hsrc
    obtain ⟨cnew, hnew, hvn⟩ := hfc n (Nat.le_refl _)
    rw [← hnl, List.take_length] at hvn
    split at h
    ·
      rename_i hn0
      subst hn0
      split at h
      · rename_i hcap
        cases h
        have hcn : cnew.toList = [] := by
          have := hvn.1
          rw [hnl, Nat.zero_mul] at this
          exact List.length_eq_zero_iff.1 this.symm
        have hfit : ∀ (b' : Option Addr) (l' c' : Nat), sv' = .slice b' l' c' → l' ≤ c' → Leaves P ρ s w (Builtin.append_ #[st, xt] ty #[sv', xv']) (.slice base len cap) s := by
          intro b' l' c' e1 e2
          subst e1
          refine ⟨ρ, w, .slice b' l' c', ?_, hs, hR, .refl _ _ _⟩
          rw [run_append_fit hst hxt hi hlen (hnew w rfl) (by omega)]
          cases b' with
          | none => simp
          | some a => simp only [hcn, storeCells]; rfl
        cases hs with
        | slNil => exact hfit _ _ _ rfl (Nat.le_refl _)
        | sl hL hc => exact hfit _ _ _ rfl (by omega)
        | slOpen hL ht hl => exact hfit _ _ _ rfl hl
        | slOpen0 hL => exact hfit _ _ _ rfl (Nat.le_refl _)
        | slHalf hL ht hl => exact hfit _ _ _ rfl (Nat.le_trans hl.1 hl.2)
      · cases h
    · rename_i hn0
      split at h
      ·
        rename_i hroom
        split at h
        · rename_i a
          obtain ⟨s1, hp, he⟩ := Option.map_eq_some_iff.1 h
          simp only [Prod.mk.injEq] at he
          obtain ⟨rfl, rfl⟩ := he
          cases hs with
          | sl hL hc =>
            rename_i B off L
            rw [add_none] at hp
            obtain ⟨w', r1, r2, r3, r4, _⟩ := hR.store P hL hp hvn
            refine ⟨ρ, w', .slice (some ⟨L.b, L.sh + off, none⟩) (len + n) cap, ?_, .sl hL hc, r2, r3⟩
            rw [run_append_fit hst hxt hi hlen (hnew w rfl) hroom.2]
            simp only [add_none]
            rw [Nat.add_assoc, r1]
            rfl
          | slOpen hL ht hl => omega
          | slOpen0 hL => omega
          | slHalf hL ht hl => rw [Nat.mul_add] at hroom; omega
        · cases h
      · rename_i hroom
        split at h
        · rename_i hcond
          obtain ⟨c1, c0, c2, c3, c4, c5⟩ := hcond
          split at h
          · rename_i old hold
            have hgrowcase : ∀ (b' : Option Addr) (c' : Nat), sv' = .slice b' len c' → c' < len + n →
                (∃ cold : Array Value, (∀ w₁ : World, w₁.heap = w.heap → (Builtin.firstCells i.size len (.slice b' len c')).run P w₁ = .ok cold w₁) ∧ VL ρ old cold.toList ∧ old.length = len * i.size) →
                ∀ h' : H, (∀ B b, Store.get h' B = some b → Store.get s.h B = some b) →
                Leaves P ρ s w (Builtin.append_ #[st, xt] ty #[sv', xv']) (.slice (some ⟨s.nxt, 0, none⟩) (len + n) (OPEN + i.size)) { h := Store.put h' s.nxt (some (.cells (old ++ new) true)), nxt := s.nxt + 1 } := by
              intro b' c' e1 e2 ⟨cold, g1, g2, g3⟩ h' hsub
              subst e1
              obtain ⟨newCap, rest, q1, q2, q3⟩ := run_append_grow hst hxt hi hz hlen g1 hnew e2 c2 c3 c4 (ty := ty)
              have hcl1 := g2.1
              have hcl2 := hvn.1
              have hsz : (cold ++ cnew ++ rest).size = newCap * i.size := by
                simp only [Array.size_append, q2, hzs]
                simp only [Array.length_toList] at hcl1 hcl2
                rw [← hcl1, ← hcl2, g3, hnl, Nat.sub_mul, Nat.add_mul]
                have := Nat.mul_le_mul_right i.size q1
                rw [Nat.add_mul] at this
                omega
              have hvl : VL ρ (old ++ new) ((cold ++ cnew ++ rest).toList.take (old ++ new).length) := by
                have := g2.append hvn
                have e2 : (cold ++ cnew ++ rest).toList.take (old ++ new).length = cold.toList ++ cnew.toList := by
                  simp only [Array.toList_append, List.length_append]
                  rw [List.take_append_of_le_length (by simp; simp at hcl1 hcl2; omega)]
                  rw [List.take_of_length_le (by simp; simp at hcl1 hcl2; omega)]
                rw [e2]; exact this
              obtain ⟨ρ', k1, k2, k3⟩ := open_new hR (e := e) (sz := i.size) (need := len + n) (newCap := newCap) hvl (by rw [List.length_append, g3, hnl, Nat.add_mul]) q1 hsz c0 h' hsub (Quiet.drew w)
              exact ⟨ρ', _, _, q3, k1, k2, k3⟩
            have hfind : ∀ (B off : Nat) (L : Loc), ρ B = some L → cellsAt s ⟨B, off, none⟩ (len * i.size) = some old → ∀ c',
                ∃ cold : Array Value, (∀ w₁ : World, w₁.heap = w.heap → (Builtin.firstCells i.size len (.slice (some ⟨L.b, L.sh + off, none⟩) len c')).run P w₁ = .ok cold w₁) ∧ VL ρ old cold.toList ∧ old.length = len * i.size := by
              intro B off L hL hc c'
              obtain ⟨c, ce, cfz, h1, h2, h3, h4⟩ := hR.cells hL hc
              exact ⟨_, fun w₁ e₁ => run_loadCells P w₁ L.b (L.sh + off) (len * i.size) c ce cfz (by rw [e₁]; exact h1) h2, by simpa using h4, h3⟩
            split at h
            ·
              rename_i hclt
              cases h
              cases hs with
              | slNil =>
                simp only [cellsOfSl, Option.some.injEq] at hold
                subst hold
                exact hgrowcase _ _ rfl (by omega) ⟨#[], fun w₁ _ => rfl, .nil ρ, by simp⟩ s.h (fun _ _ h => h)
              | sl hL hc =>
                exact hgrowcase _ _ rfl (by omega) (hfind _ _ _ hL hold _) s.h (fun _ _ h => h)
              | slOpen hL ht hl => omega
              | slOpen0 hL => omega
              | slHalf hL ht hl => rw [Nat.mul_add] at hclt; omega
            · split at h
              · rename_i hclt hceq
                split at h
                · rename_i a
                  split at h
                  · rename_i cs hg
                    split at h
                    · rename_i hend
                      cases h
                      have hdel : ∀ B b, Store.get (Store.put s.h a.block none) B = some b → Store.get s.h B = some b := by
                        intro B b hB
                        rw [Store.get_put] at hB
                        split at hB
                        · cases hB
                        · exact hB
                      cases hs with
                      | sl hL hc => omega
                      | slOpen0 hL =>
                        rename_i B off L a'
                        refine hgrowcase _ _ rfl (by omega) ⟨#[], fun w₁ _ => ?_, ?_, ?_⟩ _ hdel
                        · simp only [Builtin.firstCells, Nat.zero_mul]; rfl
                        · simp only [cellsOfSl, Nat.zero_mul] at hold
                          obtain ⟨_, _, _, rfl⟩ := cellsAt_spec hold
                          simp; exact .nil ρ
                        · simp only [cellsOfSl, Nat.zero_mul] at hold
                          obtain ⟨_, _, _, rfl⟩ := cellsAt_spec hold
                          simp
                      | slHalf hL ht hl hz =>
                        have hO : OPEN = 18446744073709551616 := rfl
                        rw [Nat.mul_add] at hceq; omega
                      | slOpen hL ht hl hz =>
                        rename_i B off c' L
                        have hszL : L.sz = i.size := by omega
                        by_cases hfit : len + n ≤ c'
                        ·
                          simp only at hend hg hdel
                          exact append_in_place hR hL ht hszL c0 hg hend hold hvn hnl c5 hfit (hnew w rfl) hst hxt hi hlen
                        · exact hgrowcase _ _ rfl (by omega) (hfind _ _ _ hL hold _) _ hdel
                    · cases h
                  · cases h
                · cases h
              · cases h
          · cases h
        · cases h
  · cases h
end
end Go.Vam
