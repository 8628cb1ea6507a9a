/- Rules for regions that draw their order; tests. -/
import Derived.Test.YtkfcejhebepdkaaWp2
namespace Go.Vam
open Go

variable {X : Ctx}

/-- Another store of blocks. -/
def setH (s : Mm) (h : FunS ABlk) : Mm := { s with h := h }

def actP (X : Ctx) (fr : Fr) (s : Mm) (op : AOp) (v : Value) (s' : Mm) : Prop := match op with
  | .call (.func f) xs => Call X f (xs.map (evO fr)) s v s'
  | op => actV (fun _ _ _ => none) fr s op = some (v, s')

theorem actP_run {fr : Fr} {s : Mm} {op : AOp} {v : Value} {s' : Mm} (h : actP X fr s op v s') : ∃ n, actV (X.cf n) fr s op = some (v, s') := by
  unfold actP at h
  split at h
  · rename_i f xs
    obtain ⟨n, hn⟩ := h
    refine ⟨n, ?_⟩
    show (X.cf n) f ((#[] : Array Value).toList ++ xs.map (evO fr) ++ (#[] : Array Value).toList) s = _
    simpa using hn
  · exact ⟨0, actV_mono (fun _ _ _ _ e => by cases e) h⟩

def WD (X : Ctx) : List DOper → Nat → Fr → Mm → List Mm → List Nat → List (Nat × Nat × ABlk) → Nat → List (Nat × (Mm → Bool)) → (Fr → Mm → Prop) → Prop
  | [], _, fr, s, _, _, flt, _, _, Q => Q fr { s with h := joinAll flt s.h }
  | o :: l, i, fr, s, hist, acts, flt, nid, ws, Q =>
    if wantV fr o.o.guard = true then
      match o.o.op.kind with
      | .pur => ∃ v, pureV fr o.o.op = some v ∧ WD X l (i + 1) (puT fr o.o.dst v) s hist acts flt nid ws Q
      | .rd => ∃ v, readV fr s o.o.op = some v ∧ pastOk fr o.o.op v o.pre acts hist = true ∧ WD X l (i + 1) (puT fr o.o.dst v) s hist acts flt nid ((i, fun s' => stillV s' ⟨i, fr, o.o.op, v⟩) :: ws) Q
      | .new => ∃ v b, newV fr nid o.o.op = some (v, b) ∧ WD X l (i + 1) (puT fr o.o.dst v) s hist acts ((i, nid, b) :: flt) (nid + 1) ws Q
      | .act => preHead o.pre acts = true ∧ ∃ v s', actP X fr { s with h := (joinF o.pre flt s.h).1 } o.o.op v s' ∧ (ws.all fun w => o.pre.testBit w.1 || w.2 s') = true ∧
          WD X l (i + 1) (puT fr o.o.dst v) s' (s :: hist) (i :: acts) (joinF o.pre flt s.h).2 nid (ws.filter fun w => !o.pre.testBit w.1) Q
    else
      match o.o.op.kind with
      | .pur => WD X l (i + 1) (puT fr o.o.dst undefV) s hist acts flt nid ws Q
      | .rd => WD X l (i + 1) (puT fr o.o.dst undefV) s hist acts flt nid ws Q
      | .new => WD X l (i + 1) (puT fr o.o.dst undefV) s hist acts flt (nid + 1) ws Q
      | .act => preHead o.pre acts = true ∧ (ws.all fun w => o.pre.testBit w.1 || w.2 { s with h := (joinF o.pre flt s.h).1 }) = true ∧
          WD X l (i + 1) (puT fr o.o.dst undefV) { s with h := (joinF o.pre flt s.h).1 } (s :: hist) (i :: acts) (joinF o.pre flt s.h).2 nid (ws.filter fun w => !o.pre.testBit w.1) Q

theorem all_watch {wl : List (Watch Fr)} {pre : Nat} {s' : Mm} : (wl.all fun w => pre.testBit w.i || stillV s' w) = ((wl.map (fun w => (w.i, fun s' => stillV s' w))).all fun w : Nat × (Mm → Bool) => pre.testBit w.1 || w.2 s') := by
  rw [List.all_map]; rfl

theorem filter_watch {wl : List (Watch Fr)} {pre : Nat} : (wl.filter fun w => !pre.testBit w.i).map (fun w => (w.i, fun s' => stillV s' w)) = (wl.map (fun w => (w.i, fun s' => stillV (H := FunS ABlk) s' w))).filter fun w => !pre.testBit w.1 := by
  rw [List.filter_map]; rfl

theorem WD_sound {Q : Fr → Mm → Prop} : ∀ (l : List DOper) (i : Nat) (fr : Fr) (s : Mm) (hist : List Mm) (acts : List Nat) (flt : List (Nat × Nat × ABlk)) (nid : Nat) (wl : List (Watch Fr)),
    WD X l i fr s hist acts flt nid (wl.map fun w => (w.i, fun s' => stillV s' w)) Q → ∃ n d', evD (X.cf n) l i { fr, s, hist, acts, flt, nid, watch := wl } = some d' ∧ Q d'.fr { d'.s with h := joinAll d'.flt d'.s.h } := by
  intro l
  induction l with
  | nil => intro i fr s hist acts flt nid wl h; exact ⟨0, _, rfl, h⟩
  | cons o l ih =>
    intro i fr s hist acts flt nid wl h
    simp only [WD] at h
    split at h
    · rename_i hw
      split at h
      · rename_i hk
        obtain ⟨v, h1, h2⟩ := h
        obtain ⟨n, d', h3, h4⟩ := ih _ _ _ _ _ _ _ wl h2
        exact ⟨n, d', by simp only [evD, stepD, hk, hw, if_true, h1]; exact h3, h4⟩
      · rename_i hk
        obtain ⟨v, h1, hp, h2⟩ := h
        obtain ⟨n, d', h3, h4⟩ := ih _ _ _ _ _ _ _ (⟨i, fr, o.o.op, v⟩ :: wl) h2
        exact ⟨n, d', by simp only [evD, stepD, hk, hw, if_true, h1, hp]; exact h3, h4⟩
      · rename_i hk
        obtain ⟨v, b, h1, h2⟩ := h
        obtain ⟨n, d', h3, h4⟩ := ih _ _ _ _ _ _ _ wl h2
        exact ⟨n, d', by simp only [evD, stepD, hk, hw, if_true, h1]; exact h3, h4⟩
      · rename_i hk
        obtain ⟨hp, v, s', h1, ha, h2⟩ := h
        rw [← filter_watch] at h2
        rw [← all_watch] at ha
        obtain ⟨m, hm⟩ := actP_run h1
        obtain ⟨n, d', h3, h4⟩ := ih _ _ _ _ _ _ _ _ h2
        refine ⟨max n m, d', ?_, h4⟩
        simp only [evD, stepD, hk, hp, hw, if_true, actV_mono (X.cf_mono m (max n m) (Nat.le_max_right _ _)) hm, ha]
        exact evD_mono (X.cf_mono n (max n m) (Nat.le_max_left _ _)) l h3
    · rename_i hw
      split at h
      · rename_i hk
        obtain ⟨n, d', h3, h4⟩ := ih _ _ _ _ _ _ _ wl h
        exact ⟨n, d', by simp only [evD, stepD, hk, if_neg hw]; exact h3, h4⟩
      · rename_i hk
        obtain ⟨n, d', h3, h4⟩ := ih _ _ _ _ _ _ _ wl h
        exact ⟨n, d', by simp only [evD, stepD, hk, if_neg hw]; exact h3, h4⟩
      · rename_i hk
        obtain ⟨n, d', h3, h4⟩ := ih _ _ _ _ _ _ _ wl h
        exact ⟨n, d', by simp only [evD, stepD, hk, if_neg hw]; exact h3, h4⟩
      · rename_i hk
        obtain ⟨hp, ha, h2⟩ := h
        rw [← filter_watch] at h2
        rw [← all_watch] at ha
        obtain ⟨n, d', h3, h4⟩ := ih _ _ _ _ _ _ _ _ h2
        exact ⟨n, d', by simp only [evD, stepD, hk, hp, if_neg hw, if_true, ha]; exact h3, h4⟩

theorem W_draw (L : List Nat) {l : List DOper} {fr : Fr} {s : Mm} {Q : AExit → Fr → Mm → Prop} (c : Nat) (hc : countNew l = c) (h : WD X l 0 fr { s with nxt := s.nxt + c } [] [] [] s.nxt [] (KeepK L (Q .normal))) : W X (.draw l) fr s Q := by
  subst hc
  obtain ⟨n, d', h1, h2⟩ := WD_sound l 0 fr _ [] [] [] s.nxt [] h
  exact ⟨n, .normal, d'.fr, _, by simp only [evC, evDraw, h1], h2.of⟩

theorem W_draw0 (L : List Nat) {l : List DOper} {fr : Fr} {s : Mm} {Q : AExit → Fr → Mm → Prop} (hc : countNew l = 0) (h : WD X l 0 fr s [] [] [] s.nxt [] (KeepK L (Q .normal))) : W X (.draw l) fr s Q := W_draw L 0 hc h

section draw
variable {d : Option Tmp} {l : List DOper} {fr : Fr} {s : Mm} {Q : Fr → Mm → Prop} {i pre nid : Nat} {hist : List Mm} {acts : List Nat} {flt : List (Nat × Nat × ABlk)} {ws : List (Nat × (Mm → Bool))}

def DPureK (X : Ctx) (o : Option Value) (d : Option Tmp) (l : List DOper) (i : Nat) (fr : Fr) (s : Mm) (hist : List Mm) (acts : List Nat) (flt : List (Nat × Nat × ABlk)) (nid : Nat) (ws : List (Nat × (Mm → Bool))) (Q : Fr → Mm → Prop) : Prop :=
  ∃ v, o = some v ∧ WD X l (i + 1) (puT fr d v) s hist acts flt nid ws Q
theorem DPureK_some {v : Value} : DPureK X (some v) d l i fr s hist acts flt nid ws Q = WD X l (i + 1) (puT fr d v) s hist acts flt nid ws Q := by
  apply propext
  constructor
  · rintro ⟨v', h, g⟩; cases h; exact g
  · intro h; exact ⟨v, rfl, h⟩

def sameO (o : Option Value) (v : Value) : Bool := match o with
  | some v' => sameV v' v
  | none => false

/-- A read: what it tells now, and in the states before the acts that need not come first. -/
def pastR (r : Mm → Option Value) (v : Value) (pre : Nat) : List Nat → List Mm → Bool
  | a :: as, s :: ss => if pre.testBit a then true else sameO (r s) v && pastR r v pre as ss
  | _, _ => true

def DReadK (X : Ctx) (r : Mm → Option Value) (o : Option Value) (d : Option Tmp) (pre : Nat) (l : List DOper) (i : Nat) (fr : Fr) (s : Mm) (hist : List Mm) (acts : List Nat) (flt : List (Nat × Nat × ABlk)) (nid : Nat) (ws : List (Nat × (Mm → Bool))) (Q : Fr → Mm → Prop) : Prop :=
  ∃ v, o = some v ∧ pastR r v pre acts hist = true ∧ WD X l (i + 1) (puT fr d v) s hist acts flt nid ((i, fun s' => sameO (r s') v) :: ws) Q

theorem DReadK_some {r : Mm → Option Value} {v : Value} : DReadK X r (some v) d pre l i fr s hist acts flt nid ws Q = (pastR r v pre acts hist = true ∧ WD X l (i + 1) (puT fr d v) s hist acts flt nid ((i, fun s' => sameO (r s') v) :: ws) Q) := by
  apply propext
  constructor
  · rintro ⟨v', h, g⟩; cases h; exact g
  · intro h; exact ⟨v, rfl, h⟩

theorem pastR_nil {r : Mm → Option Value} {v : Value} : pastR r v pre [] [] = true := rfl
theorem pastR_cons {r : Mm → Option Value} {v : Value} {a : Nat} {as : List Nat} {ss : List Mm} : pastR r v pre (a :: as) (s :: ss) = if pre.testBit a then true else sameO (r s) v && pastR r v pre as ss := rfl

def DActK (X : Ctx) (o : Option (Value × Mm)) (d : Option Tmp) (pre : Nat) (l : List DOper) (i : Nat) (fr : Fr) (s : Mm) (hist : List Mm) (acts : List Nat) (flt : List (Nat × Nat × ABlk)) (nid : Nat) (ws : List (Nat × (Mm → Bool))) (Q : Fr → Mm → Prop) : Prop :=
  preHead pre acts = true ∧ ∃ v s', o = some (v, s') ∧ (ws.all fun w => pre.testBit w.1 || w.2 s') = true ∧
          WD X l (i + 1) (puT fr d v) s' (s :: hist) (i :: acts) (joinF pre flt s.h).2 nid (ws.filter fun w => !pre.testBit w.1) Q

theorem DActK_some {v : Value} {s' : Mm} : DActK X (some (v, s')) d pre l i fr s hist acts flt nid ws Q = (preHead pre acts = true ∧ (ws.all fun w => pre.testBit w.1 || w.2 s') = true ∧
    WD X l (i + 1) (puT fr d v) s' (s :: hist) (i :: acts) (joinF pre flt s.h).2 nid (ws.filter fun w => !pre.testBit w.1) Q) := by
  apply propext
  constructor
  · rintro ⟨h0, v', s1, h, g⟩; cases h; exact ⟨h0, g⟩
  · rintro ⟨h0, h⟩; exact ⟨h0, v, s', rfl, h⟩

def DCallK (X : Ctx) (f : FuncId) (args : List Value) (s0 : Mm) (d : Option Tmp) (pre : Nat) (l : List DOper) (i : Nat) (fr : Fr) (s : Mm) (hist : List Mm) (acts : List Nat) (flt : List (Nat × Nat × ABlk)) (nid : Nat) (ws : List (Nat × (Mm → Bool))) (Q : Fr → Mm → Prop) : Prop :=
  preHead pre acts = true ∧ ∃ v s', Call X f args s0 v s' ∧ (ws.all fun w => pre.testBit w.1 || w.2 s') = true ∧
          WD X l (i + 1) (puT fr d v) s' (s :: hist) (i :: acts) (joinF pre flt s.h).2 nid (ws.filter fun w => !pre.testBit w.1) Q

theorem DCallK_of {f : FuncId} {args : List Value} {s0 : Mm} {P : Value → Mm → Prop} (h0 : preHead pre acts = true) (h : CallP X f args s0 P) (h1 : ∀ v s', P v s' → (ws.all fun w => pre.testBit w.1 || w.2 s') = true ∧
    WD X l (i + 1) (puT fr d v) s' (s :: hist) (i :: acts) (joinF pre flt s.h).2 nid (ws.filter fun w => !pre.testBit w.1) Q) : DCallK X f args s0 d pre l i fr s hist acts flt nid ws Q := by
  obtain ⟨v, s', h2, h3⟩ := h
  exact ⟨h0, v, s', h2, h1 v s' h3⟩

def DNewK (X : Ctx) (o : Option (Value × ABlk)) (d : Option Tmp) (l : List DOper) (i : Nat) (fr : Fr) (s : Mm) (hist : List Mm) (acts : List Nat) (flt : List (Nat × Nat × ABlk)) (nid : Nat) (ws : List (Nat × (Mm → Bool))) (Q : Fr → Mm → Prop) : Prop :=
  ∃ v b, o = some (v, b) ∧ WD X l (i + 1) (puT fr d v) s hist acts ((i, nid, b) :: flt) (nid + 1) ws Q

theorem DNewK_some {v : Value} {b : ABlk} : DNewK X (some (v, b)) d l i fr s hist acts flt nid ws Q = WD X l (i + 1) (puT fr d v) s hist acts ((i, nid, b) :: flt) (nid + 1) ws Q := by
  apply propext
  constructor
  · rintro ⟨v', b', h, g⟩; cases h; exact g
  · intro h; exact ⟨v, b, rfl, h⟩

theorem WD_nil : WD X [] i fr s hist acts flt nid ws Q = Q fr (setH s (joinAll flt s.h)) := rfl
theorem WD_nil0 : WD X [] i fr s hist acts [] nid ws Q = Q fr s := rfl
theorem WD_pure {op : AOp} (h : op.kind = .pur) : WD X (⟨⟨op, d, none⟩, pre⟩ :: l) i fr s hist acts flt nid ws Q = DPureK X (pureV fr op) d l i fr s hist acts flt nid ws Q := by
  simp only [WD, wantV, if_true, h]; rfl

theorem pv_pick {c a b : Operand} : pureV fr (.pick c a b) = pickV (evO fr c) (evO fr a) (evO fr b) := by
  simp only [pureV]; split <;> rename_i h
  · rw [h]; rfl
  · unfold pickV; split <;> first | rfl | (rename_i h'; exact absurd h' (h _))
theorem pv_extract {x : Operand} {j : Nat} : pureV fr (.extract x j) = extractV (evO fr x) j := by
  simp only [pureV]
  cases evO fr x <;> rfl
theorem WD_move {x : Operand} : WD X (⟨⟨.move x, d, none⟩, pre⟩ :: l) i fr s hist acts flt nid ws Q = DPureK X (some (evO fr x)) d l i fr s hist acts flt nid ws Q := WD_pure rfl
theorem WD_pick {c a b : Operand} : WD X (⟨⟨.pick c a b, d, none⟩, pre⟩ :: l) i fr s hist acts flt nid ws Q = DPureK X (pickV (evO fr c) (evO fr a) (evO fr b)) d l i fr s hist acts flt nid ws Q := by rw [WD_pure rfl, pv_pick]
theorem WD_bin {op : BinOp} {x y : Operand} : WD X (⟨⟨.bin op x y, d, none⟩, pre⟩ :: l) i fr s hist acts flt nid ws Q = DPureK X (binV op (evO fr x) (evO fr y)) d l i fr s hist acts flt nid ws Q := WD_pure rfl
theorem WD_eq {neg : Bool} {t : ATy} {x y : Operand} : WD X (⟨⟨.eq neg t x y, d, none⟩, pre⟩ :: l) i fr s hist acts flt nid ws Q = DPureK X (eqBV neg t (evO fr x) (evO fr y)) d l i fr s hist acts flt nid ws Q := WD_pure rfl
theorem WD_un {op : UnOp} {x : Operand} : WD X (⟨⟨.un op x, d, none⟩, pre⟩ :: l) i fr s hist acts flt nid ws Q = DPureK X (unV op (evO fr x)) d l i fr s hist acts flt nid ws Q := WD_pure rfl
theorem WD_conv {c : ConvK} {x : Operand} : WD X (⟨⟨.conv c x, d, none⟩, pre⟩ :: l) i fr s hist acts flt nid ws Q = DPureK X (convV c (evO fr x)) d l i fr s hist acts flt nid ws Q := WD_pure rfl
theorem WD_nilCheck {x : Operand} : WD X (⟨⟨.nilCheck x, d, none⟩, pre⟩ :: l) i fr s hist acts flt nid ws Q = DPureK X (nilCheckV (evO fr x)) d l i fr s hist acts flt nid ws Q := WD_pure rfl
theorem WD_extract {x : Operand} {j : Nat} : WD X (⟨⟨.extract x j, d, none⟩, pre⟩ :: l) i fr s hist acts flt nid ws Q = DPureK X (extractV (evO fr x) j) d l i fr s hist acts flt nid ws Q := by rw [WD_pure rfl, pv_extract]
theorem WD_field {off : Nat} {n : Option Nat} {x : Operand} : WD X (⟨⟨.field off n x, d, none⟩, pre⟩ :: l) i fr s hist acts flt nid ws Q = DPureK X (fieldV off n (evO fr x)) d l i fr s hist acts flt nid ws Q := WD_pure rfl
theorem WD_fieldAddr {off : Nat} {x : Operand} : WD X (⟨⟨.fieldAddr off x, d, none⟩, pre⟩ :: l) i fr s hist acts flt nid ws Q = DPureK X (fieldAddrV off (evO fr x)) d l i fr s hist acts flt nid ws Q := WD_pure rfl
theorem WD_addrArr {len sz : Nat} {x y : Operand} : WD X (⟨⟨.addrArr len sz x y, d, none⟩, pre⟩ :: l) i fr s hist acts flt nid ws Q = DPureK X (addrArrV len sz (evO fr x) (evO fr y)) d l i fr s hist acts flt nid ws Q := WD_pure rfl
theorem WD_addrSl {sz : Nat} {x y : Operand} : WD X (⟨⟨.addrSl sz x y, d, none⟩, pre⟩ :: l) i fr s hist acts flt nid ws Q = DPureK X (addrSlV sz (evO fr x) (evO fr y)) d l i fr s hist acts flt nid ws Q := WD_pure rfl
theorem WD_idxArr {len sz : Nat} {agg : Bool} {x y : Operand} : WD X (⟨⟨.idxArr len sz agg x y, d, none⟩, pre⟩ :: l) i fr s hist acts flt nid ws Q = DPureK X (idxArrV len sz agg (evO fr x) (evO fr y)) d l i fr s hist acts flt nid ws Q := WD_pure rfl
theorem WD_idxStr {x y : Operand} : WD X (⟨⟨.idxStr x y, d, none⟩, pre⟩ :: l) i fr s hist acts flt nid ws Q = DPureK X (idxStrV (evO fr x) (evO fr y)) d l i fr s hist acts flt nid ws Q := WD_pure rfl
theorem WD_slStr {x : Operand} {lo hi : Option Operand} : WD X (⟨⟨.slStr x lo hi, d, none⟩, pre⟩ :: l) i fr s hist acts flt nid ws Q = DPureK X (slStrV (evO fr x) (lo.map (evO fr)) (hi.map (evO fr))) d l i fr s hist acts flt nid ws Q := WD_pure rfl
theorem WD_slSl {sz : Nat} {x : Operand} {lo hi mx : Option Operand} : WD X (⟨⟨.slSl sz x lo hi mx, d, none⟩, pre⟩ :: l) i fr s hist acts flt nid ws Q = DPureK X (slV sz (evO fr x) (lo.map (evO fr)) (hi.map (evO fr)) (mx.map (evO fr))) d l i fr s hist acts flt nid ws Q := WD_pure rfl
theorem WD_slArr {n sz : Nat} {x : Operand} {lo hi mx : Option Operand} : WD X (⟨⟨.slArr n sz x lo hi mx, d, none⟩, pre⟩ :: l) i fr s hist acts flt nid ws Q = DPureK X (slArrV n sz (evO fr x) (lo.map (evO fr)) (hi.map (evO fr)) (mx.map (evO fr))) d l i fr s hist acts flt nid ws Q := WD_pure rfl
theorem WD_build {z : List Value} {ps : List (Nat × Nat × Operand)} : WD X (⟨⟨.build z ps, d, none⟩, pre⟩ :: l) i fr s hist acts flt nid ws Q = DPureK X (buildV z (ps.map fun p => (p.1, p.2.1, evO fr p.2.2))) d l i fr s hist acts flt nid ws Q := WD_pure rfl
theorem WD_bu {b : ABu} {xs : List Operand} : WD X (⟨⟨.bu b xs, d, none⟩, pre⟩ :: l) i fr s hist acts flt nid ws Q = DPureK X (buV b (xs.map (evO fr))) d l i fr s hist acts flt nid ws Q := WD_pure rfl

theorem pastOk_load {n : Option Nat} {a : Operand} {v : Value} : ∀ (acts : List Nat) (hist : List Mm), pastOk fr (.load n a) v pre acts hist = pastR (fun s => loadV s n (evO fr a)) v pre acts hist := by
  intro acts
  induction acts with
  | nil => intro hist; cases hist <;> rfl
  | cons a acts ih =>
    intro hist
    cases hist with
    | nil => rfl
    | cons s hist => simp only [pastOk, pastR, ih]; rfl
theorem WD_load {n : Option Nat} {a : Operand} : WD X (⟨⟨.load n a, d, none⟩, pre⟩ :: l) i fr s hist acts flt nid ws Q = DReadK X (fun s => loadV s n (evO fr a)) (loadV s n (evO fr a)) d pre l i fr s hist acts flt nid ws Q := by
  have : WD X (⟨⟨.load n a, d, none⟩, pre⟩ :: l) i fr s hist acts flt nid ws Q = ∃ v, loadV s n (evO fr a) = some v ∧ pastOk fr (.load n a) v pre acts hist = true ∧ WD X l (i + 1) (puT fr d v) s hist acts flt nid ((i, fun s' => stillV s' ⟨i, fr, .load n a, v⟩) :: ws) Q := rfl
  rw [this]
  unfold DReadK
  simp only [pastOk_load]
  rfl

theorem pastOk_text {a : Operand} {v : Value} : ∀ (acts : List Nat) (hist : List Mm), pastOk fr (.text a) v pre acts hist = pastR (fun s => textV s (evO fr a)) v pre acts hist := by
  intro acts
  induction acts with
  | nil => intro hist; cases hist <;> rfl
  | cons a acts ih =>
    intro hist
    cases hist with
    | nil => rfl
    | cons s hist => simp only [pastOk, pastR, ih]; rfl
theorem WD_text {a : Operand} : WD X (⟨⟨.text a, d, none⟩, pre⟩ :: l) i fr s hist acts flt nid ws Q = DReadK X (fun s => textV s (evO fr a)) (textV s (evO fr a)) d pre l i fr s hist acts flt nid ws Q := by
  have : WD X (⟨⟨.text a, d, none⟩, pre⟩ :: l) i fr s hist acts flt nid ws Q = ∃ v, textV s (evO fr a) = some v ∧ pastOk fr (.text a) v pre acts hist = true ∧ WD X l (i + 1) (puT fr d v) s hist acts flt nid ((i, fun s' => stillV s' ⟨i, fr, .text a, v⟩) :: ws) Q := rfl
  rw [this]
  unfold DReadK
  simp only [pastOk_text]
  rfl

theorem WD_alloc {e : TypeId} {z : List Value} : WD X (⟨⟨.alloc e z, d, none⟩, pre⟩ :: l) i fr s hist acts flt nid ws Q = WD X l (i + 1) (puT fr d (.pointer (some ⟨nid, 0, none⟩))) s hist acts ((i, nid, .cells z false) :: flt) (nid + 1) ws Q := by
  show DNewK X (some _) d l i fr s hist acts flt nid ws Q = _
  rw [DNewK_some]
theorem WD_box {e : TypeId} {x : Operand} : WD X (⟨⟨.box e x, d, none⟩, pre⟩ :: l) i fr s hist acts flt nid ws Q = WD X l (i + 1) (puT fr d (.pointer (some ⟨nid, 0, none⟩))) s hist acts ((i, nid, .cells (evO fr x).cells.toList false) :: flt) (nid + 1) ws Q := by
  show DNewK X (some _) d l i fr s hist acts flt nid ws Q = _
  rw [DNewK_some]
def buildSlD (nid _sz : Nat) (zero : List Value) (len : Nat) (ps : List (Nat × Nat × Value)) : Option (Value × ABlk) :=
  (fillL (repZ zero len) ps).map fun cs => (.slice (some ⟨nid, 0, none⟩) len len, .cells cs false)
def makeSlD (nid : Nat) (bytes : Nat) (zero : List Value) (l c : Value) : Option (Value × ABlk) := match l, c with
  | .int _ l, .int _ c =>
    if 0 ≤ l ∧ l ≤ c ∧ c < 4611686018427387904 ∧ bytes * c.toNat ≤ 281474976710656 then
      some (.slice (some ⟨nid, 0, none⟩) l.toNat c.toNat, .cells (repZ zero c.toNat) false)
    else none
  | _, _ => none
theorem WD_buildSlice {e : TypeId} {sz : Nat} {z : List Value} {len : Nat} {ps : List (Nat × Operand)} : WD X (⟨⟨.buildSlice e sz z len ps, d, none⟩, pre⟩ :: l) i fr s hist acts flt nid ws Q = DNewK X (buildSlD nid sz z len (ps.map fun p => (p.1 * sz, sz, evO fr p.2))) d l i fr s hist acts flt nid ws Q := rfl
theorem WD_makeSlice {e : TypeId} {bytes sz : Nat} {z : List Value} {a c : Operand} : WD X (⟨⟨.makeSlice e bytes sz z a c, d, none⟩, pre⟩ :: l) i fr s hist acts flt nid ws Q = DNewK X (makeSlD nid bytes z (evO fr a) (evO fr c)) d l i fr s hist acts flt nid ws Q := rfl
theorem WD_store {n : Nat} {a x : Operand} : WD X (⟨⟨.store n a x, d, none⟩, pre⟩ :: l) i fr s hist acts flt nid ws Q = DActK X (storeV (setH s (joinF pre flt s.h).1) n (evO fr a) (evO fr x)) d pre l i fr s hist acts flt nid ws Q := rfl
theorem WD_append {e : TypeId} {bytes sz : Nat} {z : List Value} {a x : Operand} : WD X (⟨⟨.append e bytes sz z a x, d, none⟩, pre⟩ :: l) i fr s hist acts flt nid ws Q = DActK X (appendV (setH s (joinF pre flt s.h).1) bytes sz (evO fr a) (evO fr x)) d pre l i fr s hist acts flt nid ws Q := rfl
theorem WD_copy {sz : Nat} {a x : Operand} : WD X (⟨⟨.copy sz a x, d, none⟩, pre⟩ :: l) i fr s hist acts flt nid ws Q = DActK X (copyV (setH s (joinF pre flt s.h).1) sz (evO fr a) (evO fr x)) d pre l i fr s hist acts flt nid ws Q := rfl
def extS (s : Mm) (e : Nat) (xs : List Value) : Option (Value × Mm) := (extV e xs).map fun v => (v, s)
theorem extS_eq {e : Nat} {xs : List Value} {v : Value} (h : extV e xs = some v) : extS s e xs = some (v, s) := by simp only [extS, h, Option.map_some]
theorem WD_ext {e : Nat} {f : FuncId} {xs : List Operand} : WD X (⟨⟨.ext e f xs, d, none⟩, pre⟩ :: l) i fr s hist acts flt nid ws Q = DActK X (extS (setH s (joinF pre flt s.h).1) e (xs.map (evO fr))) d pre l i fr s hist acts flt nid ws Q := rfl
theorem WD_call {f : FuncId} {xs : List Operand} : WD X (⟨⟨.call (.func f) xs, d, none⟩, pre⟩ :: l) i fr s hist acts flt nid ws Q = DCallK X f (xs.map (evO fr)) (setH s (joinF pre flt s.h).1) d pre l i fr s hist acts flt nid ws Q := rfl

/-- An operation whose guard holds, or doesn't. -/
theorem WD_yes {op : AOp} {t : Tmp} {b : Bool} (h : wantV fr (some (t, b)) = true) : WD X (⟨⟨op, d, some (t, b)⟩, pre⟩ :: l) i fr s hist acts flt nid ws Q = WD X (⟨⟨op, d, none⟩, pre⟩ :: l) i fr s hist acts flt nid ws Q := by
  have h2 : wantV fr none = true := rfl
  simp only [WD, h, h2, if_true]
theorem WD_no {op : AOp} {t : Tmp} {b : Bool} (hk : op.kind = .pur ∨ op.kind = .rd) (h : wantV fr (some (t, b)) = false) : WD X (⟨⟨op, d, some (t, b)⟩, pre⟩ :: l) i fr s hist acts flt nid ws Q = WD X l (i + 1) (puT fr d undefV) s hist acts flt nid ws Q := by
  rcases hk with hk | hk <;> simp only [WD, h, Bool.false_eq_true, if_false, hk]
def DSkipK (X : Ctx) (d : Option Tmp) (pre : Nat) (l : List DOper) (i : Nat) (fr : Fr) (s : Mm) (hist : List Mm) (acts : List Nat) (flt : List (Nat × Nat × ABlk)) (nid : Nat) (ws : List (Nat × (Mm → Bool))) (Q : Fr → Mm → Prop) : Prop :=
  DActK X (some (undefV, (setH s (joinF pre flt s.h).1))) d pre l i fr s hist acts flt nid ws Q
theorem WD_noAct {op : AOp} {t : Tmp} {b : Bool} (hk : op.kind = .act) (h : wantV fr (some (t, b)) = false) : WD X (⟨⟨op, d, some (t, b)⟩, pre⟩ :: l) i fr s hist acts flt nid ws Q =
    DActK X (some (undefV, (setH s (joinF pre flt s.h).1))) d pre l i fr s hist acts flt nid ws Q := by
  rw [DActK_some]
  simp only [WD, h, Bool.false_eq_true, if_false, hk]
  rfl

theorem preHead_nil {p : Nat} : preHead p [] = true := rfl
theorem preHead_cons {p a : Nat} {as : List Nat} : preHead p (a :: as) = p.testBit a := rfl
theorem joinF_nil {h : FunS ABlk} : joinF pre [] h = (h, []) := rfl
theorem joinF_cons {h : FunS ABlk} {id : Nat} {b : ABlk} {fl : List (Nat × Nat × ABlk)} : joinF pre ((i, id, b) :: fl) h = if pre.testBit i then (Store.put (joinF pre fl h).1 id (some b), (joinF pre fl h).2) else ((joinF pre fl h).1, (i, id, b) :: (joinF pre fl h).2) := rfl
theorem joinAll_nil {h : FunS ABlk} : joinAll [] h = h := rfl
theorem joinAll_cons {h : FunS ABlk} {id : Nat} {b : ABlk} {fl : List (Nat × Nat × ABlk)} : joinAll ((i, id, b) :: fl) h = Store.put (joinAll fl h) id (some b) := rfl
theorem setH_self : setH s s.h = s := rfl
theorem setH_h {h : FunS ABlk} : (setH s h).h = h := rfl
theorem setH_nxt {h : FunS ABlk} : (setH s h).nxt = s.nxt := rfl

end draw

/-! ## Tests -/

theorem W_if {t : Tmp} {p : Prop} [Decidable p] {a b : ACode} {fr : Fr} {s : Mm} {Q : AExit → Fr → Mm → Prop} (hc : geT fr t = .bool (decide p)) (ht : p → W X a fr s Q) (he : ¬ p → W X b fr s Q) : W X (.cond (.tmp t) a b) fr s Q :=
  W_cond hc (fun h => ht (of_decide_eq_true h)) (fun h => he (of_decide_eq_false h))

theorem W_ifn {t : Tmp} {p : Prop} [Decidable p] {a b : ACode} {fr : Fr} {s : Mm} {Q : AExit → Fr → Mm → Prop} (hc : geT fr t = .bool (!decide p)) (ht : ¬ p → W X a fr s Q) (he : p → W X b fr s Q) : W X (.cond (.tmp t) a b) fr s Q :=
  W_cond hc (fun h => ht (by simpa using h)) (fun h => he (by simpa using h))

theorem W_while {t : Tmp} {p : Prop} [Decidable p] {id : Nat} {b : ACode} {fr : Fr} {s : Mm} {Q : AExit → Fr → Mm → Prop} (hc : geT fr t = .bool (decide p)) (ht : p → W X b fr s Q) (he : ¬ p → Q (.exit id) fr s) :
    W X (.seq (.cond (.tmp t) .skip (.exit id)) b) fr s Q :=
  W_seq (W_if hc (fun h => W_skip (ht h)) (fun h => W_exit (he h)))

/-- Operations, and what they leave. -/
theorem W_opsB (L : List Nat) (R : Fr → Mm → Prop) {l : List AOper} {fr : Fr} {s : Mm} {Q : AExit → Fr → Mm → Prop} (h : ∀ R' : Fr → Mm → Prop, (∀ fr' s', R fr' s' → R' fr' s') → WO X l fr s (KeepK L R')) (g : ∀ fr' s', R fr' s' → Q .normal fr' s') : W X (.ops l) fr s Q :=
  let ⟨n, f, s1, h1, h2⟩ := h R fun _ _ h => h
  ⟨n, _, f, s1, by simp only [evC, h1], g _ _ h2.of⟩

/-- A piece of code that goes on behind its end, and what it leaves. -/
theorem W_cutN (R : Fr → Mm → Prop) {c : ACode} {fr : Fr} {s : Mm} {Q : AExit → Fr → Mm → Prop} (h : ∀ R' : AExit → Fr → Mm → Prop, (∀ fr' s', R fr' s' → R' .normal fr' s') → W X c fr s R') (g : ∀ fr' s', R fr' s' → Q .normal fr' s') : W X c fr s Q := by
  have := h (fun e fr s => e = .normal ∧ R fr s) (fun _ _ h => ⟨rfl, h⟩)
  refine this.mono ?_
  rintro _ fr' s' ⟨rfl, h⟩
  exact g _ _ h

theorem W_assoc {a b c : ACode} {fr : Fr} {s : Mm} {Q : AExit → Fr → Mm → Prop} (h : W X (.seq a (.seq b c)) fr s Q) : W X (.seq (.seq a b) c) fr s Q := by
  obtain ⟨n, e, f, s', h1, h2⟩ := h
  refine ⟨n, e, f, s', ?_, h2⟩
  simp only [evC] at h1 ⊢
  cases ha : evC (X.cf n) n a fr s with
  | none => rw [ha] at h1; cases h1
  | some r =>
    obtain ⟨e1, f1, s1⟩ := r
    rw [ha] at h1
    cases e1 with
    | normal =>
      simp only at h1 ⊢
      exact h1
    | exit id => simp only at h1 ⊢; exact h1
    | ret => simp only at h1 ⊢; exact h1

end Go.Vam
