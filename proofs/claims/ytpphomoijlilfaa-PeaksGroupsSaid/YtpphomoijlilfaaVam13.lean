/- Copy, stores, maps, texts as bytes, the library's functions: what changes memory, but calls. -/
import Derived.Test.YtpphomoijlilfaaVam12
namespace Go.Vam
open Go
section
variable {P : Program} {ρ : Rho} {w : World} {F H : Type} [Store F Value] [Store H ABlk]
theorem Rep.same {s s' : AS H} (hR : Rep ρ s w) (hn : s'.nxt = s.nxt) (hg : ∀ x, Store.get s'.h x = Store.get s.h x) : Rep ρ s' w ∧ Ext ρ s w ρ s' w :=
  ⟨hR.weaken (by omega) (fun B b h => by rw [← hg]; exact h), ⟨by omega, fun _ _ => rfl, rfl, rfl, rfl, Nat.le_refl _, fun _ _ _ => rfl, fun B L h g => .inr ⟨B, L, (let ⟨k, hk, hr⟩ := h; ⟨k, by rw [← hg]; exact hk, hr⟩), g, rfl⟩, fun B cs hB => by rw [← hg]; exact hB⟩⟩
theorem putCells_nil {s s' : AS H} {a : Addr} (h : putCells s a [] = some s') : s'.nxt = s.nxt ∧ ∀ x, Store.get s'.h x = Store.get s.h x := by
  unfold putCells at h
  split at h
  · rename_i cs o hg
    split at h
    · cases h
    · split at h
      · simp at h
        subst h
        refine ⟨rfl, fun x => ?_⟩
        have hp : putL cs a.off [] = cs := by cases cs <;> simp [putL]
        simp only [hp, Store.get_put]
        split
        · rename_i e; rw [e, hg]
        · rfl
      · cases h
  · cases h
theorem copy_sound {s s' : AS H} (hR : Rep ρ s w) {dt st ty e : TypeId} {sz : Nat} {d x d' x' v : Value} (hdt : P.underlying dt = some (.slice e)) (hsz : sizeT P e = some sz)
    (hd : VR ρ d d') (hx : VR ρ x x') (h : copyV s sz d x = some (v, s')) :
    Leaves P ρ s w (Builtin.copy_ #[dt, st] ty #[d', x']) v s' := by
  unfold copyV at h
  split at h
  · rename_i base len cap n cs hsrc
    obtain ⟨hlen, hnl, hfc⟩ := src_sound (P := P) hR hx hsrc
    obtain ⟨c, hc, hvc⟩ := hfc (Nat.min n len) (Nat.min_le_left _ _)
    have hrun : ∀ (b' : Option Addr) (c' : Nat), (Builtin.copy_ #[dt, st] ty #[.slice b' len c', x']).run P w =
        match b' with
        | some a => ((storeCells a c.toList).run P w).andThen fun _ w' => .ok (.int .i64 (Nat.min n len)) w'
        | none => .ok (.int .i64 (Nat.min n len)) w := by
      intro b' c'
      unfold Builtin.copy_
      simp only [List.getElem?_toArray, List.getElem?_cons_zero, List.getElem?_cons_succ, Sem.run_bind, run_underlying hdt, Result.andThen_ok, hlen, run_sizeT hsz, hc w rfl]
      cases b' <;> simp only [Sem.run_bind, Sem.run_pure, goInt]
    simp only at h
    split at h
    · rename_i a
      obtain ⟨s1, hp, he⟩ := Option.map_eq_some_iff.1 h
      simp only [Prod.mk.injEq] at he
      obtain ⟨rfl, rfl⟩ := he
      have key : ∀ (B off : Nat) (L : Loc) (c' : Nat), a = ⟨B, off, none⟩ → ρ B = some L → Leaves P ρ s w (Builtin.copy_ #[dt, st] ty #[.slice (some ⟨L.b, L.sh + off, none⟩) len c', x']) (.int .i64 (Nat.min n len)) s1 := by
        intro B off L c' e1 hL
        subst e1
        obtain ⟨w', r1, r2, r3, r4, _⟩ := hR.store P hL hp hvc
        exact ⟨ρ, w', .int .i64 (Nat.min n len), by rw [hrun]; simp only [r1]; rfl, .int _ _, r2, r3⟩
      cases hd with
      | sl hL _ => exact key _ _ _ _ rfl hL
      | slOpen hL _ _ => exact key _ _ _ _ rfl hL
      | slHalf hL _ _ => exact key _ _ _ _ rfl hL
      | slOpen0 hL =>
        have hm : Nat.min n 0 = 0 := Nat.min_zero n
        have hcn : c.toList = [] := by
          have := hvc.1
          rw [hm, Nat.zero_mul] at this
          exact List.length_eq_zero_iff.1 (by simpa using this.symm)
        rw [hm, Nat.zero_mul, List.take_zero] at hp
        obtain ⟨h1, h2⟩ := putCells_nil hp
        obtain ⟨h3, h4⟩ := hR.same h1 h2
        exact ⟨ρ, w, .int .i64 (Nat.min n 0), by rw [hrun]; simp only [hcn, storeCells]; rfl, .int _ _, h3, h4⟩
    · cases h
      cases hd
      exact ⟨ρ, w, .int .i64 (Nat.min n 0), hrun none 0, by rw [show Nat.min n 0 = 0 from Nat.min_zero n]; exact .int _ _, hR, .refl _ _ _⟩
  · cases h
theorem bytes_sound {s : AS H} (hR : Rep ρ s w) {e : TypeId} (b : ByteArray) :
    Leaves P ρ s w (Conv.stringToBytes e b) (.slice (some ⟨s.nxt, 0, none⟩) b.size (OPEN + 1)) (Vam.newAt s (.cells (strCells b) true)) := by
  have hf := hR.fresh s.nxt (Nat.le_refl _)
  obtain ⟨cap, hcap, hch⟩ : ∃ cap, b.size ≤ cap ∧ (choose (.appendCap b.size 0 e)).run P w = .ok cap w.drew :=
    ⟨_, by simp [Question.cut], run_choose_free P _ w rfl⟩
  let c : Array Value := (b.data.map fun x => (Value.int .u8 x.toNat)) ++ Array.replicate (cap - b.size) (.int .u8 0)
  have hsz : c.size = cap := by
    have : b.data.size = b.size := rfl
    simp [c, this]; omega
  let L : Loc := ⟨w.heap.size, 0, cap, 1, (cap, cap + 1), e⟩
  let w1 : World := (w.drew.alloc (.cells c e)).freeze ⟨w.heap.size, cap, none⟩ 1
  have hrun : (Conv.stringToBytes e b).run P w = .ok (.slice (some ⟨w.heap.size, 0, none⟩) b.size cap) w1 := by
    simp only [Conv.stringToBytes, Sem.run_bind, hch, Result.andThen_ok, run_newRow, markStringish, run_shape, Sem.run_pure]
    have hsh : (w.drew.alloc (.cells c e)).shape? w.drew.heap.size = some (e, c.size) := by
      show (match (w.heap.push (Obj.cells c e))[w.heap.size]? with | some (.cells c elem _) => some (elem, c.size) | _ => none) = _
      simp
    have hsh' : World.shape? (w.drew.alloc (Obj.cells (Array.map (fun b => Value.int IntKind.u8 ↑b.toNat) b.data ++ Array.replicate (cap - b.size) (Value.int IntKind.u8 0)) e)) w.drew.heap.size = some (e, c.size) := hsh
    rw [hsh', hsz]
    simp only [run_freeze, Result.andThen_ok]
    rfl
  have hheap : ∀ k, w1.heap[k]? = if k = w.heap.size then some (.cells c e (cap, cap + 1)) else w.heap[k]? := by
    intro k
    simp only [w1, World.freeze, World.alloc, World.drew]
    rw [if_neg (by decide)]
    simp only [Array.getElem?_modify, Array.getElem?_push]
    by_cases hk : k = w.heap.size
    · subst hk; simp
    · rw [if_neg (Ne.symm hk), if_neg hk, if_neg hk]
  have hsz1 : w1.heap.size = w.heap.size + 1 := by
    simp only [w1, World.freeze]
    rw [if_neg (by decide)]
    simp
  have hnew := Rep.newAt (s' := (Vam.newAt s (.cells (strCells b) true) : AS H)) (w' := w1) (B := s.nxt) (L := L) (b := .cells (strCells b) true) hR hf
    (Nat.lt_succ_self _) (Nat.le_succ _) (fun x => Store.get_put _ _ _ _) rfl hsz1 (fun k hk => by rw [hheap, if_neg (by omega)]) (by
      refine ⟨c, by rw [hheap]; simp [L], hsz, .inr (Nat.le_refl _), ?_, fun i v hv => ?_⟩
      · show 0 + (strCells b).length ≤ cap
        have : b.data.toList.length = b.size := rfl
        simp [strCells]; exact hcap
      · refine ⟨v, ?_, ?_⟩
        · show c[0 + i]? = some v
          have hi := (List.getElem?_eq_some_iff.1 hv).1
          have hv' := hv
          simp only [strCells, List.getElem?_map, Option.map_eq_some_iff] at hv'
          obtain ⟨x, hx, rfl⟩ := hv'
          have hlt : i < b.data.size := by simpa using (List.getElem?_eq_some_iff.1 hx).1
          simp only [c, Nat.zero_add]
          rw [Array.getElem?_append_left (by simpa using hlt)]
          rw [Array.getElem?_toList] at hx
          simp [hx]
        · simp only [strCells, List.getElem?_map, Option.map_eq_some_iff] at hv
          obtain ⟨x, _, rfl⟩ := hv
          exact .int _ _) rfl rfl rfl rfl
  refine ⟨upd ρ s.nxt L, w1, _, hrun, ?_, hnew.1, hnew.2 (Nat.le_refl _)⟩
  have := VR.slOpen (ρ := upd ρ s.nxt L) (B := s.nxt) (off := 0) (len := b.size) (cap := cap) (upd_self ρ s.nxt L) (by show 0 + 0 + cap * 1 = cap; omega) hcap (by show 1 < OPEN; decide)
  simpa using this
theorem EsR.set {es : List (Value × Value × Nat)} {es' : Array MapEntry} (h : EsR ρ es es'.toList) {i : Nat} {k k' v v' : Value} {b : Nat} (hk : VR ρ k k') (hv : VR ρ v v') :
    EsR ρ (es.set i (k, v, b)) (es'.toList.set i ⟨k', v', b⟩) := by
  refine ⟨by simpa using h.1, fun j e e' x y => ?_⟩
  rw [List.getElem?_set] at x y
  split at x
  · rename_i hij
    rw [if_pos hij] at y
    split at x
    · rename_i hl
      split at y
      · cases x; cases y; exact ⟨hk, hv, rfl⟩
      · cases y
    · cases x
  · rename_i hij
    rw [if_neg hij] at y
    exact h.2 j e e' x y
theorem EsR.append {es : List (Value × Value × Nat)} {es' : List MapEntry} (h : EsR ρ es es') {k k' v v' : Value} {b : Nat} (hk : VR ρ k k') (hv : VR ρ v v') :
    EsR ρ (es ++ [(k, v, b)]) (es' ++ [⟨k', v', b⟩]) := by
  have hl := h.1
  refine ⟨by simpa using h.1, fun j e e' x y => ?_⟩
  rcases Nat.lt_or_ge j es.length with hj | hj
  · rw [List.getElem?_append_left hj] at x
    rw [List.getElem?_append_left (by omega)] at y
    exact h.2 j e e' x y
  · rw [List.getElem?_append_right hj] at x
    rw [List.getElem?_append_right (by omega), ← hl] at y
    cases hq : j - es.length with
    | zero => rw [hq] at x y; simp at x y; subst x; subst y; exact ⟨hk, hv, rfl⟩
    | succ n => rw [hq] at x; simp at x
theorem EsR.erase {es : List (Value × Value × Nat)} {es' : List MapEntry} (h : EsR ρ es es') (i : Nat) : EsR ρ (es.eraseIdx i) (es'.eraseIdx i) := by
  have hl := h.1
  refine ⟨by simp [List.length_eraseIdx, hl], fun j e e' x y => ?_⟩
  rw [List.getElem?_eraseIdx] at x y
  split at x
  · rename_i hj; rw [if_pos hj] at y; exact h.2 _ e e' x y
  · rename_i hj; rw [if_neg hj] at y; exact h.2 _ e e' x y
theorem Rep.setMap {s : AS H} (hR : Rep ρ s w) {B : Nat} {L : Loc} {es es1 : List (Value × Value × Nat)} {ck ck1 : Nat} {es1' : Array MapEntry} (hL : ρ B = some L) (hg : Store.get s.h B = some (.map es ck))
    (h1 : EsR ρ es1 es1'.toList) :
    ∃ w', (setObj L.b (.map es1' ck1)).run P w = .ok () w' ∧ Rep ρ ({ s with h := Store.put s.h B (some (.map es1 ck1)) } : AS H) w' ∧ Ext ρ s w ρ ({ s with h := Store.put s.h B (some (.map es1 ck1)) } : AS H) w' := by
  obtain ⟨L0, hL0, es', g2, g3⟩ := hR.blk _ _ hg
  rw [hL] at hL0; cases hL0
  have hlt := hR.lt _ _ hL
  let w' : World := { w with heap := w.heap.setIfInBounds L.b (.map es1' ck1) }
  have hheap : ∀ k, w'.heap[k]? = if k = L.b then some (.map es1' ck1) else w.heap[k]? := by
    intro k
    simp only [w']
    rw [Array.getElem?_setIfInBounds]
    by_cases hk : k = L.b
    · subst hk; simp [hlt]
    · rw [if_neg (Ne.symm hk), if_neg hk]
  have hsome : ∀ x, (Store.get (Store.put s.h B (some (ABlk.map es1 ck1))) x).isSome = (Store.get s.h x).isSome := by
    intro x; rw [isSome_put]; split
    · rename_i e; rw [e, hg]; rfl
    · rfl
  have hrw : ∀ x, Rw ({ s with h := Store.put s.h B (some (.map es1 ck1)) } : AS H) x → Rw s x := by
    rintro x ⟨k, hk, hkr⟩
    simp only [Store.get_put] at hk
    split at hk
    · rename_i e; rw [e]; exact ⟨_, hg, rfl⟩
    · exact ⟨k, hk, hkr⟩
  refine ⟨w', by simp only [setObj, Sem.run, g2]; rfl, ⟨?_, ?_, hR.fresh, fun x Lx h => by simp only [w', Array.size_setIfInBounds]; exact hR.lt x Lx h⟩,
    ⟨Nat.le_refl _, fun _ _ => rfl, rfl, rfl, rfl, by simp [w'], fun b _ hu => ?_, fun x Lx hx px => .inr ⟨x, Lx, hrw x hx, px, rfl⟩, fun x cs1 hx => ?_⟩⟩
  · intro x b hx
    simp only [Store.get_put] at hx
    split at hx
    · rename_i e; cases hx; subst e
      exact ⟨L, hL, es1', by rw [hheap, if_pos rfl], h1⟩
    · rename_i ne
      obtain ⟨Lx, p, q⟩ := hR.blk _ _ hx
      refine ⟨Lx, p, q.of_block ?_⟩
      rw [hheap, if_neg (fun e => ne (hR.inj' hg rfl hx hL p e))]
  · intro x y Lx Ly hx hy px py e
    simp only [hsome] at hy
    exact hR.inj x y Lx Ly (hrw x hx) hy px py e
  · rw [hheap, if_neg (fun e => hu B L ⟨_, hg, rfl⟩ hL e.symm)]
  · simp only [Store.get_put] at hx
    split at hx
    · cases hx
    · exact hx
theorem flatKey_eq {x y x' y' : Value} (h : flatKey x y = true) (hx : VR ρ x x') (hy : VR ρ y y') : x' = y' ∧ ∀ n, Instr.sameBits n x' y' = true := by
  unfold flatKey at h
  split at h
  · cases hx; cases hy; simp at h; subst h; exact ⟨rfl, fun n => by cases n <;> simp [Instr.sameBits]⟩
  · cases hx; cases hy; simp at h; obtain ⟨rfl, rfl⟩ := h; exact ⟨rfl, fun n => by cases n <;> simp [Instr.sameBits]⟩
  · cases hx; cases hy
    simp at h
    rename_i a b
    obtain ⟨⟨a⟩⟩ := a; obtain ⟨⟨b⟩⟩ := b
    simp at h; subst h
    have hb : ((⟨⟨a⟩⟩ : ByteArray) == ⟨⟨a⟩⟩) = true := by rw [beq_toListBytes]; simp
    exact ⟨rfl, fun n => by cases n <;> simp only [Instr.sameBits] <;> exact hb⟩
  · cases h
theorem sameKey_bits {x y x' y' : Value} (h : sameKey x y = true) (hx : VR ρ x x') (hy : VR ρ y y') : Instr.sameBits 10000 y' x' = true := by
  unfold sameKey at h
  split at h
  · rename_i xs ys
    obtain ⟨xs', rfl, h1, h2⟩ := VL.of_agg hx
    obtain ⟨ys', rfl, g1, g2⟩ := VL.of_agg hy
    simp only [Bool.and_eq_true, beq_iff_eq] at h
    obtain ⟨hs, hall⟩ := h
    have e1 : xs'.size = xs.size := by simpa using h1.symm
    have e2 : ys'.size = ys.size := by simpa using g1.symm
    simp only [Instr.sameBits, Bool.and_eq_true, beq_iff_eq]
    refine ⟨by omega, ?_⟩
    rw [List.all_eq_true] at hall ⊢
    intro p hp
    obtain ⟨i, hi⟩ := List.mem_iff_getElem?.1 hp
    rw [List.getElem?_zip_eq_some] at hi
    have hix : i < xs.toList.length := by have := (List.getElem?_eq_some_iff.1 hi.2).1; simp at this ⊢; omega
    have hiy : i < ys.toList.length := by have := (List.getElem?_eq_some_iff.1 hi.1).1; simp at this ⊢; omega
    have hm : (xs.toList[i], ys.toList[i]) ∈ xs.toList.zip ys.toList := by
      refine List.mem_iff_getElem?.2 ⟨i, ?_⟩
      rw [List.getElem?_zip_eq_some]
      exact ⟨by simp, by simp⟩
    have hf := hall _ hm
    have k1 := h2 i xs.toList[i] p.2 (List.getElem?_eq_getElem hix) hi.2
    have k2 := g2 i ys.toList[i] p.1 (List.getElem?_eq_getElem hiy) hi.1
    obtain ⟨ee, hb⟩ := flatKey_eq hf k1 k2
    rw [ee] at hb ⊢
    exact hb _
  · obtain ⟨ee, hb⟩ := flatKey_eq h hx hy
    rw [ee] at hb
    rw [ee]
    exact hb _
theorem strish_sound {s s' : AS H} (hR : Rep ρ s w) {t e : TypeId} {x x' v : Value} (ht : P.underlying t = some (.slice e)) (he : P.underlying e = some (.int .u8)) (hx : VR ρ x x') (h : strishV s x = some (v, s')) :
    Leaves P ρ s w (convert t t x') v s' := by
  unfold strishV at h
  split at h
  case h_2 => cases h
  rename_i a len cap
  split at h
  case h_2 => cases h
  rename_i cs o hg
  split at h
  · cases h
  · rename_i hcond
    simp only [not_or, Nat.not_le] at hcond
    have hv : Value.slice (some ⟨s.nxt, a.off, none⟩) len cap = v := by cases h; rfl
    have hs' : ({ h := Store.put (Store.put s.h a.block none) s.nxt (some (.cells cs o)), nxt := s.nxt + 1 } : AS H) = s' := by cases h; rfl
    subst hv
    have hxx : ∃ B off L, a = ⟨B, off, none⟩ ∧ x' = .slice (some ⟨L.b, L.sh + off, none⟩) len cap ∧ ρ B = some L := by
      cases hx with
      | sl hh hc => exact ⟨_, _, _, rfl, rfl, hh⟩
      | slOpen hh ht hl => have := hcond.2; simp [OPEN] at this; omega
      | slOpen0 hh => have := hcond.2; simp [OPEN] at this; omega
      | slHalf hh ht hl => have h2 := hcond.2; rw [Nat.mul_add] at h2; simp [OPEN] at h2; omega
    obtain ⟨B, off, L, rfl, rfl, hL⟩ := hxx
    simp only at hg
    obtain ⟨L0, hL0, c, h2, h3, h4, h5, h6⟩ := hR.blk _ _ hg
    rw [hL] at hL0; cases hL0
    have hf := hR.fresh s.nxt (Nat.le_refl _)
    have hlt := hR.lt _ _ hL
    have hBn : B < s.nxt := by
      rcases Nat.lt_or_ge B s.nxt with h | h
      · exact h
      · rw [hR.fresh B h] at hL; cases hL
    obtain ⟨fz', hfz, hfz'⟩ : ∃ fz' : Nat × Nat, fz' = (if L.fz.1 == L.fz.2 then (c.size, c.size + 1) else (min L.fz.1 c.size, max L.fz.2 (c.size + 1))) ∧ L.tot ≤ fz'.1 := by
      refine ⟨_, rfl, ?_⟩
      split
      · simp only; omega
      · rename_i hne
        simp only
        rcases h4 with h4 | h4
        · rw [h4] at hne; simp at hne
        · omega
    let L' : Loc := { L with fz := fz' }
    let w' : World := w.freeze { block := L.b, off := c.size } 1
    have hheap : ∀ k, w'.heap[k]? = if k = L.b then some (.cells c L.elem fz') else w.heap[k]? := by
      intro k
      simp only [w', World.freeze]
      rw [if_neg (by decide)]
      simp only [Array.getElem?_modify]
      by_cases hk : L.b = k
      · subst hk
        rw [if_pos rfl, if_pos rfl, h2]
        simp only [Option.map_some, hfz]
      · rw [if_neg hk, if_neg (Ne.symm hk)]
    have hsize : w'.heap.size = w.heap.size := by
      simp only [w', World.freeze]; rw [if_neg (by decide)]; simp
    have hsub := Sub.upd L' hf
    have hget : ∀ x, Store.get s'.h x = if x = s.nxt then some (.cells cs o) else if x = B then none else Store.get s.h x := by
      intro x; rw [← hs']; simp only [Store.get_put]
    have hnx : s'.nxt = s.nxt + 1 := by rw [← hs']
    have hrun : (convert t t (.slice (some ⟨L.b, L.sh + off, none⟩) len cap)).run P w = .ok (.slice (some ⟨L.b, L.sh + off, none⟩) len cap) w' := by
      have hshape : w.shape? L.b = some (L.elem, c.size) := by simp only [World.shape?, h2]
      simp only [convert, Sem.run_bind, run_underlying ht, run_underlying he, Result.andThen_ok, beq_self_eq_true, markStringish, shape, freeze, Sem.run, hshape]
      rfl
    refine ⟨upd ρ s.nxt L', w', _, hrun, ?_, ⟨?_, ?_, ?_, ?_⟩, ⟨by rw [hnx]; exact Nat.le_succ _, ?_, rfl, rfl, rfl, by rw [hsize]; exact Nat.le_refl _, ?_, ?_, ?_⟩⟩
    · exact VR.sl (ρ := upd ρ s.nxt L') (B := s.nxt) (off := off) (L := L') (upd_self ρ s.nxt L') hcond.2
    · intro x b hx
      rw [hget] at hx
      split at hx
      · rename_i ex
        cases hx
        subst ex
        refine ⟨L', upd_self _ _ _, c, by rw [hheap, if_pos rfl], h3, .inr hfz', h5, fun i u hu => ?_⟩
        obtain ⟨u', p, q⟩ := h6 i u hu
        exact ⟨u', p, q.mono hsub⟩
      · split at hx
        · cases hx
        · rename_i n1 n2
          obtain ⟨Lx, p1, p2⟩ := hR.blk _ _ hx
          refine ⟨Lx, hsub _ _ p1, (p2.of_block ?_).mono hsub⟩
          rw [hheap, if_neg (fun eb => n2 (hR.inj' hg rfl hx hL p1 eb))]
    · intro x y Lx Ly hx hy px py eb
      obtain ⟨kx, hx, hkx⟩ := hx
      rw [hget] at hx hy
      unfold upd at px py
      by_cases ex : x = s.nxt
      · by_cases ey : y = s.nxt
        · rw [ex, ey]
        · rw [if_pos ex] at px; rw [if_neg ey] at py hy; cases px
          split at hy
          · cases hy
          · rename_i nb
            obtain ⟨ky, hy⟩ := Option.isSome_iff_exists.1 hy
            exact absurd (hR.inj' hg rfl hy hL py eb.symm) nb
      · by_cases ey : y = s.nxt
        · rw [if_neg ex] at px hx; rw [if_pos ey] at py; cases py
          split at hx
          · cases hx
          · rename_i nb
            exact absurd (hR.inj' hg rfl hx hL px eb) nb
        · rw [if_neg ex] at px hx; rw [if_neg ey] at py hy
          split at hx
          · cases hx
          · split at hy
            · cases hy
            · exact hR.inj x y Lx Ly ⟨kx, hx, hkx⟩ hy px py eb
    · intro x hx
      rw [hnx] at hx
      unfold upd
      rw [if_neg (by omega)]
      exact hR.fresh x (by omega)
    · intro x Lx px
      rw [hsize]
      unfold upd at px
      split at px
      · cases px; exact hlt
      · exact hR.lt _ _ px
    · intro x hx
      unfold upd; rw [if_neg (by omega)]
    · intro b _ hu
      rw [hheap, if_neg (fun eb => hu B L ⟨_, hg, rfl⟩ hL eb.symm)]
    · intro x Lx hx px
      obtain ⟨kx, hx, hkx⟩ := hx
      rw [hget] at hx
      unfold upd at px
      split at px
      · cases px; exact .inr ⟨B, L, ⟨_, hg, rfl⟩, hL, rfl⟩
      · rename_i ne
        rw [if_neg ne] at hx
        split at hx
        · cases hx
        · exact .inr ⟨x, Lx, ⟨kx, hx, hkx⟩, px, rfl⟩
    · intro x cs1 hx
      rw [hget] at hx
      split at hx
      · cases hx
      · split at hx
        · cases hx
        · exact hx
end
end Go.Vam
