/- One byte turned: no frame (plain lists). -/
import Derived.Test.YtkfcejhebepdkaaTB
import Derived.Test.YtkfcejhebepdkaaTA
import Derived.Test.YtkfcejhebepdkaaWpA
import Derived.Test.YtkfcejhebepdkaaTC
namespace Go.Proofs.Ytkfcejhebepdkaa
open Go Go.Vam

theorem xor_inj {s a b : Nat} (h : s ^^^ a = s ^^^ b) : a = b := by
  have h2 : s ^^^ (s ^^^ a) = s ^^^ (s ^^^ b) := by rw [h]
  rwa [← Nat.xor_assoc, ← Nat.xor_assoc, Nat.xor_self, Nat.zero_xor, Nat.zero_xor] at h2

theorem mul_inj {a b : Nat} (ha : a < 4294967296) (hb : b < 4294967296) (h : a * 16777619 % 4294967296 = b * 16777619 % 4294967296) : a = b := by
  have hq : 16777619 * 899433627 = 4294967296 * 3513497 + 1 := by decide
  have key : ∀ x : Nat, x < 4294967296 → (x * 16777619 % 4294967296) * 899433627 % 4294967296 = x := fun x hx => by
    rw [Nat.mul_mod, Nat.mod_mod, ← Nat.mul_mod, Nat.mul_assoc, hq, Nat.mul_add, Nat.mul_one, Nat.mul_left_comm, Nat.mul_add_mod, Nat.mod_eq_of_lt hx]
  rw [← key a ha, ← key b hb, h]

theorem fnvF_app (s : Nat) (a b : List UInt8) : fnvF s (a ++ b) = fnvF (fnvF s a) b := by
  induction a generalizing s with
  | nil => rfl
  | cons c a ih => exact ih _

theorem fnvF_inj (l : List UInt8) : ∀ s t : Nat, s < 4294967296 → t < 4294967296 → fnvF s l = fnvF t l → s = t := by
  induction l with
  | nil => intro s t _ _ h; exact h
  | cons c l ih =>
    intro s t hs ht h
    have hc := c.toNat_lt
    have h1 : s ^^^ c.toNat < 4294967296 := Nat.xor_lt_two_pow (n := 32) hs (by omega)
    have h2 : t ^^^ c.toNat < 4294967296 := Nat.xor_lt_two_pow (n := 32) ht (by omega)
    have := mul_inj h1 h2 (ih _ _ (Nat.mod_lt _ (by omega)) (Nat.mod_lt _ (by omega)) h)
    rw [Nat.xor_comm s, Nat.xor_comm t] at this
    exact xor_inj this

/-- One byte turned turns the sum. -/
theorem fnvF_set {l : List UInt8} {i : Nat} {x : UInt8} (hi : i < l.length) (hx : x ≠ l[i]) : fnvF 2166136261 (l.set i x) ≠ fnvF 2166136261 l := by
  intro h
  have e : l = l.take i ++ l[i] :: l.drop (i + 1) := by simp
  rw [List.set_eq_take_append_cons_drop, if_pos hi] at h
  have h2 : fnvF 2166136261 (l.take i ++ x :: l.drop (i + 1)) = fnvF 2166136261 (l.take i ++ l[i] :: l.drop (i + 1)) := by rw [h, ← e]
  rw [fnvF_app, fnvF_app] at h2
  have hs := fnvF_lt (s := 2166136261) (by omega) (l.take i)
  have hc := x.toNat_lt
  have hd := (l[i]).toNat_lt
  have h3 := fnvF_inj _ _ _ (Nat.mod_lt _ (by omega)) (Nat.mod_lt _ (by omega)) h2
  have h4 := xor_inj (mul_inj (Nat.xor_lt_two_pow (n := 32) hs (by omega)) (Nat.xor_lt_two_pow (n := 32) hs (by omega)) h3)
  exact hx (UInt8.toNat_inj.1 h4)

set_option maxRecDepth 10000 in
theorem getF_inj : ∀ (l m : List UInt8) (p q k : Nat), l.length = m.length → p < 256 ^ k → q < 256 ^ k → k + l.length ≤ 8 → getF p l = getF q m → p = q ∧ l = m := by
  intro l
  induction l with
  | nil => intro m p q k h _ _ _ e; cases m with
    | nil => exact ⟨e, rfl⟩
    | cons c m => simp at h
  | cons c l ih =>
    intro m p q k h hp hq hk e
    cases m with
    | nil => simp at h
    | cons d m =>
      simp only [List.length_cons] at h hk
      have hc := c.toNat_lt
      have hd := d.toNat_lt
      have h1 : p * 256 + c.toNat < 256 ^ (k + 1) := by rw [Nat.pow_succ]; omega
      have h2 : q * 256 + d.toNat < 256 ^ (k + 1) := by rw [Nat.pow_succ]; omega
      have hle : 256 ^ (k + 1) ≤ 256 ^ 8 := Nat.pow_le_pow_right (by omega) (by omega)
      have e8 : (256 : Nat) ^ 8 = 18446744073709551616 := by decide
      simp only [getF] at e
      rw [Nat.mod_eq_of_lt (by omega), Nat.mod_eq_of_lt (by omega)] at e
      obtain ⟨g1, g2⟩ := ih m _ _ (k + 1) (by omega) h1 h2 (by omega) e
      refine ⟨by omega, ?_⟩
      rw [g2, UInt8.toNat_inj.1 (by omega : c.toNat = d.toNat)]

set_option maxRecDepth 10000 in
theorem getF_be (N : Nat) : ∀ (k p j : Nat), p < 256 ^ j → j + k ≤ 8 → getF p (beN N k) = p * 256 ^ k + N % 256 ^ k := by
  intro k
  induction k with
  | zero => intro p j _ _; simp [beN, getF]; omega
  | succ k ih =>
    intro p j hp hj
    have hle : 256 ^ (j + 1) ≤ 256 ^ 8 := Nat.pow_le_pow_right (by omega) (by omega)
    have e8 : (256 : Nat) ^ 8 = 18446744073709551616 := by decide
    have hb : (UInt8.ofNat (N / 256 ^ k)).toNat = N / 256 ^ k % 256 := by simp
    have h1 : p * 256 + N / 256 ^ k % 256 < 256 ^ (j + 1) := by rw [Nat.pow_succ]; omega
    simp only [beN, getF, hb]
    rw [Nat.mod_eq_of_lt (by omega), ih _ (j + 1) h1 (by omega), Nat.mod_pow_succ, Nat.add_mul, Nat.pow_succ]
    rw [Nat.mul_assoc, Nat.mul_comm 256, Nat.mul_comm (256 ^ k) (N / 256 ^ k % 256)]
    omega

theorem getF_be0 {N k : Nat} (hk : k ≤ 8) (hN : N < 256 ^ k) : getF 0 (beN N k) = N := by
  rw [getF_be N k 0 0 (by simp) (by omega), Nat.mod_eq_of_lt hN]; omega

theorem subB_mid {a x c : List UInt8} {l h : Nat} (ha : a.length = l) (hx : x.length = h - l) : subB (a ++ (x ++ c)) l h = x := by
  unfold subB
  rw [List.drop_left' ha, ← hx, List.take_left']
  rfl

theorem subB_set_out {b : List UInt8} {i l h : Nat} {x : UInt8} (hi : i < l ∨ h ≤ i) : subB (b.set i x) l h = subB b l h := by
  unfold subB
  rw [List.drop_set]
  split
  · rfl
  · rw [List.take_set]
    rcases hi with hi | hi
    · omega
    · rw [List.set_eq_of_length_le (by simp; omega)]

theorem subB_set_in {b : List UInt8} {i l h : Nat} {x : UInt8} (h1 : l ≤ i) : subB (b.set i x) l h = (subB b l h).set (i - l) x := by
  unfold subB
  rw [List.drop_set, if_neg (by omega), List.take_set]

theorem subB_get {b : List UInt8} {i l h : Nat} (h1 : l ≤ i) (h2 : i < h) (hh : h ≤ b.length) : (subB b l h)[i - l]? = b[i]? := by
  unfold subB
  rw [List.getElem?_take, if_pos (by omega), List.getElem?_drop]
  congr 1; omega

/-- NO FRAME BEGINS IN A FRAME's BYTES OF WHICH ONE WAS TURNED. -/
theorem turned {T U : Nat} {re im : List (List Int)} (hc : chkE T U re im = 0) {i : Nat} {x : UInt8} (hi : i < (encF T U re im).length) (hx : x ≠ (encF T U re im)[i]) (n : Nat) : fstF ((encF T U re im).set i x) ≠ .got n := by
  obtain ⟨_, _, hok, hlg⟩ := chk_spec hc
  obtain ⟨hl, hcr, hci⟩ := okB_spec hok
  obtain ⟨hR, hN, hRN⟩ := large_spec hlg
  obtain ⟨b, hb⟩ : ∃ b, b = encF T U re im := ⟨_, rfl⟩
  obtain ⟨p, hp⟩ : ∃ p, p = encBody T U re im := ⟨_, rfl⟩
  obtain ⟨M, hM⟩ : ∃ M, M = 4 * re.length * colsN re := ⟨_, rfl⟩
  have hMb : M ≤ 1048576 := by rw [hM, Nat.mul_assoc]; omega
  have hpl : p.length = 27 + M := by
    rw [hp, encBody, List.length_append, encRows_length (n := colsN re) re im hl hcr hci, hM, Nat.mul_assoc]
    simp [encHead, hdr, beN_length]
  have hbp : b = p ++ beN (fnvF 2166136261 p) 4 := by rw [hb, hp]; rfl
  have hbl : b.length = 31 + M := by rw [hbp, List.length_append, hpl, beN_length]; omega
  have hfv := fnvF_lt (s := 2166136261) (by omega) p
  have s37 : subB b 3 7 = beN (20 + M) 4 := by
    rw [hb, encF, encBody, encHead, hM]
    simp only [List.append_assoc]
    exact subB_mid rfl (by rw [beN_length])
  have s23 : subB b 23 25 = beN re.length 2 := by
    have : b = (hdr ++ (beN (20 + M) 4 ++ (beN T 8 ++ beN U 8))) ++ (beN re.length 2 ++ (beN (colsN re) 2 ++ (encRows re im ++ beN (fnvF 2166136261 p) 4))) := by
      rw [hbp, hp, encBody, encHead, hM]; simp only [List.append_assoc]
    rw [this]
    exact subB_mid (by simp [hdr, beN_length]) (by rw [beN_length])
  have s25 : subB b 25 27 = beN (colsN re) 2 := by
    have : b = (hdr ++ (beN (20 + M) 4 ++ (beN T 8 ++ (beN U 8 ++ beN re.length 2)))) ++ (beN (colsN re) 2 ++ (encRows re im ++ beN (fnvF 2166136261 p) 4)) := by
      rw [hbp, hp, encBody, encHead, hM]; simp only [List.append_assoc]
    rw [this]
    exact subB_mid (by simp [hdr, beN_length]) (by rw [beN_length])
  have sp : subB b 0 (27 + M) = p := by
    have : b = [] ++ (p ++ beN (fnvF 2166136261 p) 4) := by rw [hbp]; rfl
    rw [this]
    exact subB_mid rfl (by rw [hpl]; omega)
  have ss : subB b (27 + M) (31 + M) = beN (fnvF 2166136261 p) 4 := by
    have : b = p ++ (beN (fnvF 2166136261 p) 4 ++ []) := by rw [hbp, List.append_nil]
    rw [this]
    exact subB_mid hpl (by rw [beN_length]; omega)
  have g37 : getF 0 (subB b 3 7) = 20 + M := by rw [s37, getF_be0 (by omega) (by omega)]
  have g23 : getF 0 (subB b 23 25) = re.length := by rw [s23, getF_be0 (by omega) (by omega)]
  have g25 : getF 0 (subB b 25 27) = colsN re := by rw [s25, getF_be0 (by omega) (by omega)]
  have gs : getF 0 (subB b (27 + M) (31 + M)) = fnvF 2166136261 p := by rw [ss, getF_be0 (by omega) (by omega)]
  rw [← hb] at hi ⊢
  have hx' : x ≠ b[i] := by
    intro e; apply hx; rw [e]; congr 1
  intro hg
  -- the number of bytes as it is read
  unfold fstF at hg
  split at hg; · cases hg
  split at hg; · cases hg
  split at hg; · cases hg
  rename_i hbN
  split at hg; · cases hg
  split at hg; · cases hg
  split at hg; · cases hg
  split at hg; · cases hg
  rename_i hbG
  split at hg; · cases hg
  rename_i hlen
  split at hg; · cases hg
  rename_i hsum
  clear hg
  rw [List.length_set] at hlen
  simp only [ne_eq, Classical.not_not] at hsum
  by_cases hin : 3 ≤ i ∧ i < 7
  · -- the number itself is turned
    rw [subB_set_out (l := 23) (.inl (by omega)), subB_set_out (l := 25) (.inl (by omega)), g23, g25] at hbG
    have hne : getF 0 (subB (b.set i x) 3 7) ≠ 20 + M := by
      intro e
      rw [← g37, subB_set_in hin.1] at e
      have hlen4 : (subB b 3 7).length = 4 := by rw [subB_length (by omega)]
      have := (getF_inj _ _ 0 0 0 (by simp) (by simp) (by simp) (by rw [List.length_set, hlen4]; omega) e).2
      have h2 : ((subB b 3 7).set (i - 3) x)[i - 3]? = (subB b 3 7)[i - 3]? := by rw [this]
      rw [List.getElem?_set_self (by omega), subB_get hin.1 hin.2 (by omega), List.getElem?_eq_getElem hi] at h2
      exact hx' (by simpa using h2)
    simp only [badN, Bool.or_eq_true, decide_eq_true_eq, Bool.not_eq_true', decide_eq_false_iff_not, not_or] at hbN
    simp only [badG, Bool.or_eq_true, Bool.and_eq_true, decide_eq_true_eq, Bool.not_eq_true', decide_eq_false_iff_not, not_or, Classical.not_not] at hbG
    have h3 := hbG.2.2
    have hM' : M = 4 * (re.length * colsN re) := by rw [hM, Nat.mul_assoc]
    omega
  · rw [subB_set_out (l := 3) (h := 7) (by omega), g37] at hlen hsum
    rw [show 20 + M + 7 = 27 + M by omega, show 20 + M + 11 = 31 + M by omega] at hsum
    by_cases hend : i < 27 + M
    · rw [subB_set_in (Nat.zero_le _), sp, subB_set_out (l := 27 + M) (.inl hend), gs, Nat.sub_zero] at hsum
      refine fnvF_set (l := p) (i := i) (x := x) (by omega) ?_ hsum
      intro e
      apply hx'
      rw [e]
      have : b[i]? = p[i]? := by rw [hbp, List.getElem?_append_left (by omega)]
      rw [List.getElem?_eq_getElem hi, List.getElem?_eq_getElem (by omega)] at this
      exact (Option.some.inj this).symm
    · rw [subB_set_out (h := 27 + M) (.inr (by omega)), sp, ← gs, subB_set_in (by omega)] at hsum
      have hlen4 : (subB b (27 + M) (31 + M)).length = 4 := by rw [subB_length (by omega)]; omega
      have := (getF_inj _ _ 0 0 0 (by simp) (by simp) (by simp) (by rw [hlen4]; omega) hsum).2
      have h2 : ((subB b (27 + M) (31 + M)).set (i - (27 + M)) x)[i - (27 + M)]? = (subB b (27 + M) (31 + M))[i - (27 + M)]? := by rw [← this]
      rw [List.getElem?_set_self (by omega), subB_get (by omega) (by omega) (by omega), List.getElem?_eq_getElem hi] at h2
      exact hx' (by simpa using h2)

end Go.Proofs.Ytkfcejhebepdkaa

/- What is handed in: a frame. -/
namespace Go.Proofs.Ytkfcejhebepdkaa
open Go Go.Vam

theorem AbsL.cons {P : Program} {T : Type} {s : Mm} {t : TypeId} {ts : List TypeId} {vs : List Value} {ds : List (DataW T)} (h : AbsL P s (t :: ts) vs ds) : ∃ v vs' d ds', vs = v :: vs' ∧ ds = d :: ds' ∧ AbsV P s t v d ∧ AbsL P s ts vs' ds' := by
  cases vs with
  | nil => exact h.elim
  | cons v vs => cases ds with
    | nil => exact h.elim
    | cons d ds => exact ⟨v, vs, d, ds, rfl, rfl, h.1, h.2⟩

theorem AbsL.nil {P : Program} {T : Type} {s : Mm} {vs : List Value} {ds : List (DataW T)} (h : AbsL P s [] vs ds) : vs = [] ∧ ds = [] := by
  cases vs with
  | nil => cases ds with
    | nil => exact ⟨rfl, rfl⟩
    | cons d ds => exact h.elim
  | cons v vs => exact h.elim

def i16R (l : List (List Int)) : Prop := ∀ r ∈ l, ∀ x ∈ r, -32768 ≤ x ∧ x ≤ 32767

set_option maxRecDepth 100000 in
theorem frame_open {T : Type} {s : Mm} (hs : Lt s) {v : Value} {d : DataW T} (h : AbsV Try.prog s 42 v d) :
    ∃ T U rv iv re im, v = .agg #[.float .f64 T, .float .f64 U, rv, iv] ∧ TabC s rv re ∧ TabC s iv im ∧ re.length ≤ 9223372036854775807 ∧ im.length ≤ 9223372036854775807 ∧ T < 18446744073709551616 ∧ U < 18446744073709551616 ∧ i16R re ∧ i16R im ∧
      (∀ r ∈ re, r.length ≤ 9223372036854775807) ∧ (∀ r ∈ im, r.length ≤ 9223372036854775807) := by
  unfold AbsV at h
  rw [Try.underlying42] at h
  obtain ⟨cs, rfl, h⟩ := h
  obtain ⟨ds, rfl, hc, hd, hel⟩ := h.st Try.underlying42
  have h4 : Try.prog.cellsOf 42 = 4 := by decide +kernel
  have h1 : Try.prog.cellsOf 39 = 1 := by decide +kernel
  have h1' : Try.prog.cellsOf 40 = 1 := by decide +kernel
  have h67 : Try.prog.cellsOf 67 = 1 := by decide +kernel
  have h68 : Try.prog.cellsOf 68 = 1 := by decide +kernel
  rw [h4] at hc
  obtain ⟨l⟩ := cs
  simp only at hc hel
  match l, hc with
  | [a, b, c, e], _ =>
    match ds, hd with
    | [d0, d1, d2, d3], _ =>
      have e0 := hel 0 _ d0 rfl rfl
      have e1 := hel 1 _ d1 rfl rfl
      have e2 := hel 2 _ d2 rfl rfl
      have e3 := hel 3 _ d3 rfl rfl
      simp only [h1, h1'] at e0 e1 e2 e3
      obtain ⟨T, g0, _, w0⟩ := Abs.f Try.underlying39 e0
      obtain ⟨U, g1, _, w1⟩ := Abs.f Try.underlying39 e1
      obtain ⟨rv, re, cr, g2, r1, r2, r3⟩ := Abs.tab hs Try.underlying40 Try.underlying67 Try.underlying68 h67 h68 e2
      obtain ⟨iv, im, ci, g3, i1, i2, i3⟩ := Abs.tab hs Try.underlying40 Try.underlying67 Try.underlying68 h67 h68 e3
      simp only [List.drop_zero, List.drop_succ_cons, List.take_succ_cons, List.take_zero, List.cons.injEq, and_true] at g0 g1 g2 g3
      subst g0 g1 g2 g3
      have rng : ∀ x : Int, (Lit.int .i16 x).wf = true → -32768 ≤ x ∧ x ≤ 32767 := fun x hx => by
        simp only [Lit.wf, IntKind.min, IntKind.max, IntKind.bits, IntKind.signed] at hx
        simpa using hx
      have wfl : ∀ x : Nat, (Lit.float .f64 x).wf = true → x < 18446744073709551616 := fun x hx => by
        simpa [Lit.wf] using hx
      have idx : ∀ {l : List (List Int)} {r : List Int}, r ∈ l → ∃ i : Nat, l[i]? = some r := fun h => List.mem_iff_getElem?.1 h
      exact ⟨T, U, _, _, re, im, rfl, ⟨cr, r1, fun i r h => (r3 i r h).1⟩, ⟨ci, i1, fun i r h => (i3 i r h).1⟩, r2, i2, wfl _ w0, wfl _ w1,
        fun r hr x hx => by obtain ⟨i, hi⟩ := idx hr; exact rng x ((r3 i r hi).2.2 x hx), fun r hr x hx => by obtain ⟨i, hi⟩ := idx hr; exact rng x ((i3 i r hi).2.2 x hx),
        fun r hr => by obtain ⟨i, hi⟩ := idx hr; exact (r3 i r hi).2.1, fun r hr => by obtain ⟨i, hi⟩ := idx hr; exact (i3 i r hi).2.1⟩

end Go.Proofs.Ytkfcejhebepdkaa

/- Bytes of frames, one behind the other, in pieces (plain lists). -/
namespace Go.Proofs.Ytkfcejhebepdkaa
open Go Go.Vam

def encFr (f : FrS) : List UInt8 := encF f.T f.U f.re f.im
def encs : List FrS → List UInt8
  | [] => []
  | f :: fs => encFr f ++ encs fs

/-- A frame that can be written. -/
structure Good (f : FrS) : Prop where
  chk : chkE f.T f.U f.re f.im = 0
  T : f.T < 18446744073709551616
  U : f.U < 18446744073709551616
  re : ∀ r ∈ f.re, ∀ x ∈ r, -32768 ≤ x ∧ x ≤ 32767
  im : ∀ r ∈ f.im, ∀ x ∈ r, -32768 ≤ x ∧ x ≤ 32767

theorem subB_pre {b q : List UInt8} {l h : Nat} (hh : h ≤ b.length) : subB (b ++ q) l h = subB b l h := by
  unfold subB
  by_cases hl : l ≤ b.length
  · rw [List.drop_append_of_le_length hl, List.take_append_of_le_length (by simp; omega)]
  · have : h - l = 0 := by omega
    rw [this]; simp

theorem i16of_u16 {x : Int} (h : -32768 ≤ x ∧ x ≤ 32767) : i16of (u16 x) = x := by
  unfold i16of u16; split <;> omega

theorem encRow_split (a b : List Int) (hl : a.length = b.length) {g : Nat} (hg : g < a.length) :
    encRow a b = encRow (a.take g) (b.take g) ++ (beN (u16 a[g]) 2 ++ (beN (u16 (b[g]'(by omega))) 2 ++ encRow (a.drop (g + 1)) (b.drop (g + 1)))) := by
  have ea : a = a.take (g + 1) ++ a.drop (g + 1) := (List.take_append_drop _ _).symm
  have eb : b = b.take (g + 1) ++ b.drop (g + 1) := (List.take_append_drop _ _).symm
  have h1 : encRow a b = encRow (a.take (g + 1)) (b.take (g + 1)) ++ encRow (a.drop (g + 1)) (b.drop (g + 1)) := by
    rw [← encRow_app _ _ _ _ (by simp [hl]), ← ea, ← eb]
  rw [h1, encRow_take hl hg]
  simp only [List.append_assoc]

theorem encRows_split (a b : List (List Int)) (hl : a.length = b.length) {p : Nat} (hp : p < a.length) :
    encRows a b = encRows (a.take p) (b.take p) ++ (encRow a[p] (b[p]'(by omega)) ++ encRows (a.drop (p + 1)) (b.drop (p + 1))) := by
  have ea : a = a.take (p + 1) ++ a.drop (p + 1) := (List.take_append_drop _ _).symm
  have eb : b = b.take (p + 1) ++ b.drop (p + 1) := (List.take_append_drop _ _).symm
  have h1 : encRows a b = encRows (a.take (p + 1)) (b.take (p + 1)) ++ encRows (a.drop (p + 1)) (b.drop (p + 1)) := by
    rw [← encRows_app _ _ _ _ (by simp [hl]), ← ea, ← eb]
  rw [h1, encRows_take hl hp]
  simp only [List.append_assoc]

/-- The bytes of one number. -/
theorem enc_cell {f : FrS} (hf : Good f) (r : List UInt8) {p g : Nat} (hp : p < f.re.length) (hg : g < colsN f.re) :
    ∃ (h1 : p < f.im.length) (h2 : g < f.re[p].length) (h3 : g < f.im[p].length),
    subB (encFr f ++ r) (27 + 4 * (p * colsN f.re + g) + 0) (27 + 4 * (p * colsN f.re + g) + 0 + 2) = beN (u16 f.re[p][g]) 2 ∧ subB (encFr f ++ r) (27 + 4 * (p * colsN f.re + g) + 2) (27 + 4 * (p * colsN f.re + g) + 2 + 2) = beN (u16 f.im[p][g]) 2 := by
  obtain ⟨_, _, hok, hlg⟩ := chk_spec hf.chk
  obtain ⟨hl, hcr, hci⟩ := okB_spec hok
  have h1 : p < f.im.length := by omega
  have e1 : f.re[p].length = colsN f.re := hcr _ (by simp)
  have e2 : f.im[p].length = colsN f.re := hci _ (by simp)
  have h2 : g < f.re[p].length := by omega
  have h3 : g < f.im[p].length := by omega
  refine ⟨h1, h2, h3, ?_⟩
  have hX : (encHead f.T f.U f.re.length (colsN f.re) ++ (encRows (f.re.take p) (f.im.take p) ++ encRow (f.re[p].take g) (f.im[p].take g))).length = 27 + 4 * (p * colsN f.re + g) := by
    have r1 := encRows_length (n := colsN f.re) (f.re.take p) (f.im.take p) (by simp [hl]) (fun r h => hcr r (List.mem_of_mem_take h)) (fun r h => hci r (List.mem_of_mem_take h))
    have r2 := encRow_length (f.re[p].take g) (f.im[p].take g) (by simp [e1, e2])
    have r3 : (encHead f.T f.U f.re.length (colsN f.re)).length = 27 := by simp [encHead, hdr, beN_length]
    rw [List.length_append, List.length_append, r1, r2, r3, List.length_take, List.length_take, Nat.min_eq_left (by omega), Nat.min_eq_left (by omega)]
    omega
  have hE : encFr f ++ r = (encHead f.T f.U f.re.length (colsN f.re) ++ (encRows (f.re.take p) (f.im.take p) ++ encRow (f.re[p].take g) (f.im[p].take g))) ++ (beN (u16 f.re[p][g]) 2 ++ (beN (u16 f.im[p][g]) 2 ++
      (encRow (f.re[p].drop (g + 1)) (f.im[p].drop (g + 1)) ++ (encRows (f.re.drop (p + 1)) (f.im.drop (p + 1)) ++ (beN (fnvF 2166136261 (encBody f.T f.U f.re f.im)) 4 ++ r))))) := by
    unfold encFr encF
    generalize beN (fnvF 2166136261 (encBody f.T f.U f.re f.im)) 4 = z
    unfold encBody
    rw [encRows_split f.re f.im hl hp, encRow_split f.re[p] f.im[p] (by omega) h2]
    simp only [List.append_assoc]
  constructor
  · rw [hE]
    exact subB_mid (by rw [hX]; omega) (by rw [beN_length]; omega)
  · have hE2 := hE
    rw [← List.append_assoc] at hE2
    rw [hE2]
    exact subB_mid (by rw [List.length_append, hX, beN_length]) (by rw [beN_length]; omega)

theorem enc_head {f : FrS} (hf : Good f) (r : List UInt8) : getF 0 (subB (encFr f ++ r) 3 7) = 20 + 4 * f.re.length * colsN f.re ∧ getF 0 (subB (encFr f ++ r) 7 15) = f.T ∧ getF 0 (subB (encFr f ++ r) 15 23) = f.U ∧ rowsN (encFr f ++ r) = f.re.length ∧ colN (encFr f ++ r) = colsN f.re ∧
    (encFr f).length = 31 + 4 * f.re.length * colsN f.re ∧ (encFr f ++ r).take 3 = hdr ∧ fnvF 2166136261 (subB (encFr f ++ r) 0 (27 + 4 * f.re.length * colsN f.re)) = getF 0 (subB (encFr f ++ r) (27 + 4 * f.re.length * colsN f.re) (31 + 4 * f.re.length * colsN f.re)) := by
  obtain ⟨_, _, hok, hlg⟩ := chk_spec hf.chk
  obtain ⟨hl, hcr, hci⟩ := okB_spec hok
  obtain ⟨hR, hN, hRN⟩ := large_spec hlg
  obtain ⟨M, hM⟩ : ∃ M, M = 4 * f.re.length * colsN f.re := ⟨_, rfl⟩
  have hMb : M ≤ 1048576 := by rw [hM, Nat.mul_assoc]; omega
  obtain ⟨p, hp⟩ : ∃ p, p = encBody f.T f.U f.re f.im := ⟨_, rfl⟩
  obtain ⟨b, hb⟩ : ∃ b, b = encFr f ++ r := ⟨_, rfl⟩
  have hpl : p.length = 27 + M := by
    rw [hp, encBody, List.length_append, encRows_length (n := colsN f.re) f.re f.im hl hcr hci, hM, Nat.mul_assoc]
    simp [encHead, hdr, beN_length]
  have hE : encFr f = p ++ beN (fnvF 2166136261 p) 4 := by rw [hp]; rfl
  have hbp : b = p ++ (beN (fnvF 2166136261 p) 4 ++ r) := by rw [hb, hE, List.append_assoc]
  have hfv := fnvF_lt (s := 2166136261) (by omega) p
  have hpe : p = hdr ++ (beN (20 + M) 4 ++ (beN f.T 8 ++ (beN f.U 8 ++ (beN f.re.length 2 ++ (beN (colsN f.re) 2 ++ encRows f.re f.im))))) := by
    rw [hp, encBody, encHead, hM]; simp only [List.append_assoc]
  rw [← hb, ← hM]
  have e8 : (256 : Nat) ^ 8 = 18446744073709551616 := by decide
  refine ⟨?_, ?_, ?_, ?_, ?_, by rw [hE, List.length_append, hpl, beN_length]; omega, ?_, ?_⟩
  · have : b = hdr ++ (beN (20 + M) 4 ++ (beN f.T 8 ++ (beN f.U 8 ++ (beN f.re.length 2 ++ (beN (colsN f.re) 2 ++ (encRows f.re f.im ++ (beN (fnvF 2166136261 p) 4 ++ r))))))) := by rw [hbp, hpe]; simp only [List.append_assoc]
    rw [this, subB_mid (l := 3) (by simp [hdr]) (by rw [beN_length]), getF_be0 (by omega) (by omega)]
  · have : b = (hdr ++ beN (20 + M) 4) ++ (beN f.T 8 ++ (beN f.U 8 ++ (beN f.re.length 2 ++ (beN (colsN f.re) 2 ++ (encRows f.re f.im ++ (beN (fnvF 2166136261 p) 4 ++ r)))))) := by rw [hbp, hpe]; simp only [List.append_assoc]
    rw [this, subB_mid (by simp [hdr, beN_length]) (by rw [beN_length]), getF_be0 (by omega) (by rw [e8]; exact hf.T)]
  · have : b = (hdr ++ (beN (20 + M) 4 ++ beN f.T 8)) ++ (beN f.U 8 ++ (beN f.re.length 2 ++ (beN (colsN f.re) 2 ++ (encRows f.re f.im ++ (beN (fnvF 2166136261 p) 4 ++ r))))) := by rw [hbp, hpe]; simp only [List.append_assoc]
    rw [this, subB_mid (by simp [hdr, beN_length]) (by rw [beN_length]), getF_be0 (by omega) (by rw [e8]; exact hf.U)]
  · have : b = (hdr ++ (beN (20 + M) 4 ++ (beN f.T 8 ++ beN f.U 8))) ++ (beN f.re.length 2 ++ (beN (colsN f.re) 2 ++ (encRows f.re f.im ++ (beN (fnvF 2166136261 p) 4 ++ r)))) := by rw [hbp, hpe]; simp only [List.append_assoc]
    unfold rowsN
    rw [this, subB_mid (by simp [hdr, beN_length]) (by rw [beN_length]), getF_be0 (by omega) (by omega)]
  · have : b = (hdr ++ (beN (20 + M) 4 ++ (beN f.T 8 ++ (beN f.U 8 ++ beN f.re.length 2)))) ++ (beN (colsN f.re) 2 ++ (encRows f.re f.im ++ (beN (fnvF 2166136261 p) 4 ++ r))) := by rw [hbp, hpe]; simp only [List.append_assoc]
    unfold colN
    rw [this, subB_mid (by simp [hdr, beN_length]) (by rw [beN_length]), getF_be0 (by omega) (by omega)]
  · rw [hbp, hpe]; rfl
  · have h1 : subB b 0 (27 + M) = p := by
      have : b = [] ++ (p ++ (beN (fnvF 2166136261 p) 4 ++ r)) := by rw [hbp]; rfl
      rw [this]; exact subB_mid rfl (by rw [hpl]; omega)
    have h2 : subB b (27 + M) (31 + M) = beN (fnvF 2166136261 p) 4 := by rw [hbp]; exact subB_mid hpl (by rw [beN_length]; omega)
    rw [h1, h2, getF_be0 (by omega) (by omega)]

theorem fst_enc {f : FrS} (hf : Good f) (r : List UInt8) : fstF (encFr f ++ r) = .got (20 + 4 * f.re.length * colsN f.re) := by
  obtain ⟨hT, hU, hok, hlg⟩ := chk_spec hf.chk
  obtain ⟨h1, h2, h3, h4, h5, h6, h7, h8⟩ := enc_head hf r
  obtain ⟨hR, hN, hRN⟩ := large_spec hlg
  obtain ⟨M, hM⟩ : ∃ M, M = 4 * f.re.length * colsN f.re := ⟨_, rfl⟩
  have hM2 : M = 4 * (f.re.length * colsN f.re) := by rw [hM, Nat.mul_assoc]
  rw [← hM] at h1 h6 h8 ⊢
  have hlen : (encFr f ++ r).length = 31 + M + r.length := by rw [List.length_append, h6]
  unfold rowsN at h4
  unfold colN at h5
  unfold fstF
  rw [Nat.min_eq_right (by omega), h7, h1, h2, h3, h4, h5]
  rw [if_neg (by simp [hdr]), if_neg (by omega), if_neg, if_neg (by omega), if_neg (by rw [hT, hU]; simp), if_neg (by omega), if_neg, if_neg (by omega), if_neg]
  · simp only [ne_eq, Classical.not_not]
    rw [show 20 + M + 7 = 27 + M by omega, show 20 + M + 11 = 31 + M by omega]; exact h8
  · have hz : f.re.length = 0 → colsN f.re = 0 := fun h => by
      unfold colsN
      rw [List.eq_nil_of_length_eq_zero h]; rfl
    simp only [badG, Bool.or_eq_true, Bool.and_eq_true, decide_eq_true_eq, Bool.not_eq_true', decide_eq_false_iff_not, not_or, Classical.not_not]
    refine ⟨by rw [hlg]; simp, fun h => by have := hz h.1; omega, by omega⟩
  · simp only [badN, Bool.or_eq_true, decide_eq_true_eq, Bool.not_eq_true', decide_eq_false_iff_not, not_or, Classical.not_not]
    omega

theorem decA_at {b : List UInt8} {C o c : Nat} (hc : c < C) : (decA b C o)[c]? = some (i16of (getF 0 (subB b (27 + 4 * c + o) (27 + 4 * c + o + 2)))) := by
  unfold decA
  rw [List.getElem?_map, List.getElem?_range hc]; rfl

/-- Rows that are read cell by cell are the rows. -/
theorem chunk_eq {rows : List (List Int)} {G : Nat} {flat : List Int} (hG : ∀ r ∈ rows, r.length = G) (hl : flat.length = rows.length * G)
    (h : ∀ (p g : Nat) (hp : p < rows.length) (hg : g < rows[p].length), flat[p * G + g]? = some rows[p][g]) : chunk rows.length G flat = rows := by
  apply List.ext_getElem
  · exact chunk_length
  · intro p h1 h2
    have hp : p < rows.length := h2
    have hr : rows[p].length = G := hG _ (by simp)
    have hmul : p * G + G ≤ rows.length * G := by rw [← Nat.succ_mul]; exact Nat.mul_le_mul_right _ hp
    have e : (chunk rows.length G flat)[p] = (flat.drop (p * G)).take G := by simp [chunk]
    rw [e]
    apply List.ext_getElem?
    intro g
    by_cases hg : g < G
    · rw [List.getElem?_take, if_pos hg, List.getElem?_drop, h p g hp (by omega), List.getElem?_eq_getElem (by omega)]
    · rw [List.getElem?_eq_none (by rw [List.length_take, List.length_drop, hl]; omega), List.getElem?_eq_none (by omega)]

theorem frOf_enc {f : FrS} (hf : Good f) (r : List UInt8) : frOf (encFr f ++ r) = f := by
  obtain ⟨hT, hU, hok, hlg⟩ := chk_spec hf.chk
  obtain ⟨hl, hcr, hci⟩ := okB_spec hok
  obtain ⟨h1, h2, h3, h4, h5, h6, h7, h8⟩ := enc_head hf r
  unfold frOf
  rw [h2, h3, h4, h5]
  have u16lt : ∀ x : Int, u16 x < 65536 := fun x => by unfold u16; omega
  have key : ∀ p g : Nat, p < f.re.length → g < colsN f.re → p * colsN f.re + g < f.re.length * colsN f.re := fun p g hp hg => by
    have hmul : p * colsN f.re + colsN f.re ≤ f.re.length * colsN f.re := by rw [← Nat.succ_mul]; exact Nat.mul_le_mul_right _ hp
    omega
  have e1 : chunk f.re.length (colsN f.re) (decA (encFr f ++ r) (f.re.length * colsN f.re) 0) = f.re := by
    refine chunk_eq hcr (by simp [decA]) fun p g hp hg => ?_
    have hrl := hcr f.re[p] (by simp)
    obtain ⟨_, _, _, a, _⟩ := enc_cell hf r hp (show g < colsN f.re by omega)
    rw [decA_at (key p g hp (by omega)), a, getF_be0 (by omega) (by have := u16lt f.re[p][g]; omega), i16of_u16 (hf.re _ (List.getElem_mem hp) _ (List.getElem_mem hg))]
  have e2 : chunk f.re.length (colsN f.re) (decA (encFr f ++ r) (f.re.length * colsN f.re) 2) = f.im := by
    have : f.re.length = f.im.length := hl
    have e : chunk f.im.length (colsN f.re) (decA (encFr f ++ r) (f.re.length * colsN f.re) 2) = f.im := by
      refine chunk_eq hci (by simp [decA, hl]) fun p g hp hg => ?_
      have hrl := hci f.im[p] (by simp)
      obtain ⟨_, _, _, _, a⟩ := enc_cell hf r (show p < f.re.length by omega) (show g < colsN f.re by omega)
      rw [decA_at (key p g (by omega) (by omega)), a, getF_be0 (by omega) (by have := u16lt f.im[p][g]; omega), i16of_u16 (hf.im _ (List.getElem_mem hp) _ (List.getElem_mem hg))]
    rw [← this] at e; exact e
  rw [e1, e2]

/-- A begin that is too short: it is waited for. -/
theorem fst_short {b q : List UInt8} {n : Nat} (h : fstF (b ++ q) = .got n) (hlt : b.length < n + 11) : fstF b = .wait := by
  obtain ⟨hn, h20, h4, hlen, hlg, hcell, hz, hT, hU, hh, _⟩ := fst_got h
  have hb3 : b.take (min b.length 3) = hdr.take (min b.length 3) := by
    rw [← hh, List.take_take, Nat.min_assoc, Nat.min_self, List.take_append_of_le_length (Nat.min_le_left _ _)]
  unfold fstF
  rw [if_neg (fun h => h hb3)]
  by_cases c1 : b.length < 7
  · rw [if_pos c1]
  rw [if_neg c1]
  have s37 : subB b 3 7 = subB (b ++ q) 3 7 := (subB_pre (by omega)).symm
  rw [s37, ← hn, if_neg (by
    simp only [badN, Bool.or_eq_true, decide_eq_true_eq, Bool.not_eq_true', decide_eq_false_iff_not, not_or, Classical.not_not]
    have := large_spec hlg; omega)]
  by_cases c2 : b.length < 23
  · rw [if_pos c2]
  rw [if_neg c2]
  have s7 : subB b 7 15 = subB (b ++ q) 7 15 := (subB_pre (by omega)).symm
  have s15 : subB b 15 23 = subB (b ++ q) 15 23 := (subB_pre (by omega)).symm
  rw [s7, s15, if_neg (by rw [hT, hU]; simp)]
  by_cases c3 : b.length < 27
  · rw [if_pos c3]
  rw [if_neg c3]
  have s23 : subB b 23 25 = subB (b ++ q) 23 25 := (subB_pre (by omega)).symm
  have s25 : subB b 25 27 = subB (b ++ q) 25 27 := (subB_pre (by omega)).symm
  rw [s23, s25, if_neg, if_pos hlt]
  simp only [badG, Bool.or_eq_true, Bool.and_eq_true, decide_eq_true_eq, Bool.not_eq_true', decide_eq_false_iff_not, not_or, Classical.not_not]
  unfold rowsN colN at *
  exact ⟨by rw [hlg]; simp, fun h => by have := hz h.1; omega, hcell⟩

theorem encFr_length {f : FrS} (hf : Good f) : (encFr f).length = 20 + 4 * f.re.length * colsN f.re + 11 := by
  have := (enc_head hf []).2.2.2.2.2.1; omega

theorem fst_nil : fstF [] = .wait := rfl

/-- A STREAM OF FRAMES, CUT ANYWHERE: what is told, and what is held. -/
theorem feed_pre : ∀ (fs : List FrS), (∀ f ∈ fs, Good f) → ∀ (p q : List UInt8), encs fs = p ++ q → ∀ N, p.length < N →
    ∃ j w, j ≤ fs.length ∧ feedF N p = (fs.take j, some w) ∧ encs (fs.take j) ++ w = p ∧ fstF w = .wait := by
  intro fs
  induction fs with
  | nil =>
    intro _ p q h N hN
    have : p = [] := by
      have h' : ([] : List UInt8) = p ++ q := h
      exact (List.append_eq_nil_iff.1 h'.symm).1
    subst this
    obtain ⟨N, rfl⟩ : ∃ k, N = k + 1 := ⟨N - 1, by omega⟩
    exact ⟨0, [], Nat.le_refl _, by simp only [feedF, fst_nil]; rfl, rfl, fst_nil⟩
  | cons f fs ih =>
    intro hgood p q h N hN
    have hf := hgood f (by simp)
    have hlen := encFr_length hf
    obtain ⟨N, rfl⟩ : ∃ k, N = k + 1 := ⟨N - 1, by omega⟩
    have h' : encFr f ++ encs fs = p ++ q := h
    by_cases hlt : p.length < (encFr f).length
    · have hg : fstF (p ++ q) = .got (20 + 4 * f.re.length * colsN f.re) := by rw [← h']; exact fst_enc hf _
      have hw := fst_short hg (by omega)
      exact ⟨0, p, Nat.zero_le _, by simp only [feedF, hw]; rfl, rfl, hw⟩
    · obtain ⟨p', hp'⟩ : ∃ p', p = encFr f ++ p' := by
        refine ⟨p.drop (encFr f).length, ?_⟩
        have : p.take (encFr f).length = encFr f := by
          have h2 := congrArg (List.take (encFr f).length) h'
          rw [List.take_left, List.take_append_of_le_length (by omega)] at h2
          exact h2.symm
        conv => lhs; rw [← List.take_append_drop (encFr f).length p, this]
      subst hp'
      have hq : encs fs = p' ++ q := by rw [List.append_assoc] at h'; exact List.append_cancel_left h'
      obtain ⟨j, w, a1, a2, a3, a4⟩ := ih (fun g hg => hgood g (by simp [hg])) p' q hq N (by rw [List.length_append] at hN; omega)
      have hd : (encFr f ++ p').drop (20 + 4 * f.re.length * colsN f.re + 11) = p' := by rw [← hlen, List.drop_left]
      refine ⟨j + 1, w, by simpa using a1, ?_, ?_, a4⟩
      · simp only [feedF, fst_enc hf p', frOf_enc hf p', hd, a2, List.take_succ_cons]
      · simp only [List.take_succ_cons, encs, List.append_assoc, a3]

theorem encs_app : ∀ (a b : List FrS), encs (a ++ b) = encs a ++ encs b := by
  intro a
  induction a with
  | nil => intro b; rfl
  | cons f a ih => intro b; simp only [List.cons_append, encs, ih, List.append_assoc]

/-- Nothing is held where all has come. -/
theorem wait_all {fs : List FrS} (hg : ∀ f ∈ fs, Good f) (h : fstF (encs fs) = .wait) : fs = [] := by
  cases fs with
  | nil => rfl
  | cons f fs =>
    have : fstF (encFr f ++ encs fs) = .wait := h
    rw [fst_enc (hg f (by simp))] at this
    cases this

end Go.Proofs.Ytkfcejhebepdkaa

/- Lists of frames that are the same; frames that are handed in. -/
namespace Go.Proofs.Ytkfcejhebepdkaa
open Go Go.Vam

/-- What any frame's numbers are. -/
structure FOk (f : FrS) : Prop where
  T : f.T < 18446744073709551616
  U : f.U < 18446744073709551616
  re : ∀ r ∈ f.re, ∀ x ∈ r, -32768 ≤ x ∧ x ≤ 32767
  im : ∀ r ∈ f.im, ∀ x ∈ r, -32768 ≤ x ∧ x ≤ 32767
  lr : f.re.length ≤ 9223372036854775807
  li : f.im.length ≤ 9223372036854775807
  lr2 : ∀ r ∈ f.re, r.length ≤ 9223372036854775807
  li2 : ∀ r ∈ f.im, r.length ≤ 9223372036854775807

theorem TabC.g {s : Mm} {v : Value} {rows : List (List Int)} (h : TabC s v rows) : TabG s v rows (fun b => b < s.nxt) := by
  obtain ⟨c, a, b⟩ := h
  exact ⟨c, a, a.foot, fun i r h => let ⟨x, y, z⟩ := b i r h; ⟨x, y, z, z.foot⟩⟩

set_option maxRecDepth 100000 in
theorem frame_abs {T : Type} {s : Mm} (hs : Lt s) {cs : List Value} {d : DataW T} (h : Abs Try.prog s 42 cs d) :
    ∃ (f : FrS) (rv iv : Value), cs = [.float .f64 f.T, .float .f64 f.U, rv, iv] ∧ TabG s rv f.re (fun b => b < s.nxt) ∧ TabG s iv f.im (fun b => b < s.nxt) ∧ FOk f := by
  have hv : AbsV Try.prog s 42 (.agg cs.toArray) d := by
    unfold AbsV
    rw [Try.underlying42]
    exact ⟨cs.toArray, rfl, h⟩
  obtain ⟨T, U, rv, iv, re, im, h1, h2, h3, h4, h5, h6, h7, h8, h9, h10, h11⟩ := frame_open hs hv
  refine ⟨⟨T, U, re, im⟩, rv, iv, ?_, h2.g, h3.g, ⟨h6, h7, h8, h9, h4, h5, h10, h11⟩⟩
  have := congrArg Value.cells h1
  have h2' : cs.toArray = #[.float .f64 T, .float .f64 U, rv, iv] := this
  have := congrArg Array.toList h2'
  simpa using this

theorem frames_abs {T : Type} {s : Mm} (hs : Lt s) : ∀ (ls : List (List Value)) (ds : List (DataW T)), ds.length = ls.length → (∀ (i : Nat) (l : List Value) (d : DataW T), ls[i]? = some l → ds[i]? = some d → Abs Try.prog s 42 l d) →
    ∃ fs : List FrS, fs.length = ls.length ∧ FrsG s (fun b => b < s.nxt) ls.flatten fs ∧ ∀ f ∈ fs, FOk f := by
  intro ls
  induction ls with
  | nil => intro ds _ _; exact ⟨[], rfl, .nil, by simp⟩
  | cons l ls ih =>
    intro ds hd h
    cases ds with
    | nil => simp at hd
    | cons d ds =>
      obtain ⟨f, rv, iv, rfl, t1, t2, ok⟩ := frame_abs hs (h 0 l d rfl rfl)
      obtain ⟨fs, h1, h2, h3⟩ := ih ds (by simpa using hd) (fun i l d hl hdd => h (i + 1) l d (by simpa using hl) (by simpa using hdd))
      exact ⟨f :: fs, by simp [h1], .cons t1 t2 h2, fun g hg => by
        rcases List.mem_cons.1 hg with rfl | hg
        · exact ok
        · exact h3 g hg⟩

set_option maxRecDepth 100000 in
theorem frames_open {T : Type} {s : Mm} (hs : Lt s) {v : Value} {d : DataW T} (h : AbsV Try.prog s 33 v d) :
    ∃ (fs : List FrS) (cells : List Value), SlC s 4 v fs.length cells ∧ FrsG s (fun b => b < s.nxt) cells fs ∧ (∀ f ∈ fs, FOk f) ∧ fs.length ≤ 9223372036854775807 := by
  unfold AbsV at h
  rw [Try.underlying33] at h
  have h4 : Try.prog.cellsOf 42 = 4 := by decide +kernel
  obtain ⟨v', ls, ds, h1, h2, h3, h4', h5⟩ := Abs.sl hs Try.underlying33 h4 h
  cases h1
  obtain ⟨fs, g1, g2, g3⟩ := frames_abs hs ls ds h4' (fun i l d hl hd => (h5 i l d hl hd).2)
  rw [← g1] at h2 h3
  exact ⟨fs, _, h2, g2, g3, h3⟩

theorem FrsG.load {s : Mm} {K : Nat → Prop} {v : Value} {c : List Value} {fs : List FrS} (h : FrsG s K c fs) (hv : SlC s 4 v fs.length c) {i : Nat} {f : FrS} (hf : fs[i]? = some f) :
    ∃ rv iv, loadV s (some 4) (elP v (i * 4)) = some (.agg #[.float .f64 f.T, .float .f64 f.U, rv, iv]) ∧ TabG s rv f.re K ∧ TabG s iv f.im K := by
  obtain ⟨rv, iv, a, b⟩ := h.at i f hf
  have hi := (List.getElem?_eq_some_iff.1 hf).1
  exact ⟨rv, iv, by rw [hv.loads (m := 4) (j := i * 4) (by omega) (by omega), a], b⟩


theorem run14_self {X : Ctx} (hX : X.fns = fnsOf Try.prog) (ho : ∀ f args, f ≠ 9 → X.orc f args = none) {s : Mm} {K K' : Nat → Prop} {v v' : Value} {c c' : List Value} {fs : List FrS} (h1 : FrsG s K c fs) (h2 : FrsG s K' c' fs) (hv : SlC s 4 v fs.length c) (hv' : SlC s 4 v' fs.length c') (hl : fs.length ≤ 9223372036854775807) (hok : ∀ f ∈ fs, FOk f) :
    CallP X 14 [v, v'] s (fun r s' => r = .bool true ∧ Same s s' (fun _ => False)) := by
  refine CallP_of (hX ▸ ir14_eq) (ho _ _ (by decide)) (Nat.le_of_ble_eq_true rfl) ?_
  refine W_seq (W_ops [0, 1] ?_)
  simp only [o14_0, WO_move, WO_nil, geT_put, frame_nil, frame_cons, evO_const, keep_nil, keep_cons, keepK_eq, Nat.reduceEqDiff, Nat.reduceAdd, reduceIte, eq_self, Nat.zero_add]
  intro fr e0 e1
  refine SeqK_n ?_
  refine W_assoc ?_
  refine W_seq (W_ops [0, 1, 11] ?_)
  simp only [o14_1, WO_bin, WO_bu, WO_move, bin_neq, WO_nil, PureK_some, geT_put, evO_tmp, keep_nil, keep_cons, keepK_eq, List.map_cons, List.map_nil, Nat.reduceEqDiff, reduceIte, Bool.not_true, decide_true, eq_self, e0, e1, hv.len, hv'.len]
  clear e0 e1
  intro fr e0 e1 e11
  refine SeqK_n ?_
  refine W_seq (W_cond e11 (fun h => by cases h) (fun _ => W_skip (SeqK_n ?_)))
  refine W_assoc ?_
  refine W_seq (W_ops [0, 1, 5] ?_)
  simp only [o14_3, WO_move, WO_nil, geT_put, evO_const, keep_nil, keep_cons, keepK_eq, Nat.reduceEqDiff, reduceIte, eq_self, e0, e1]
  clear e0 e1 e11
  intro fr e0 e1 e5
  refine SeqK_n ?_
  refine W_seq (W_block (W_loop (fun m fr s1 => ∃ k, k + m = fs.length ∧ Same s s1 (fun _ => False) ∧ geT fr 0 = v ∧ geT fr 1 = v' ∧ geT fr 5 = .int .i64 (k : Nat)) fs.length ⟨0, by omega, .refl _ _, e0, e1, e5⟩ ?_))
  clear e0 e1 e5 fr
  rintro m fr s1 ⟨k, hk, hs1, e0, e1, e5⟩
  refine W_assoc ?_
  refine W_seq (W_ops [0, 1, 5, 15] ?_)
  simp only [o14_5, WO_bin, WO_bu, WO_move, bin_lss, WO_nil, PureK_some, geT_put, evO_tmp, keep_nil, keep_cons, keepK_eq, List.map_cons, List.map_nil, Nat.reduceEqDiff, reduceIte, eq_self, e0, e1, e5, hv.len]
  clear e0 e1 e5
  intro fr e0 e1 e5 e15
  refine SeqK_n ?_
  refine W_while e15 (fun hlt => ?_) (fun hlt => ?_)
  · have hk1 : k < fs.length := by omega
    have hg1 := h1.same hs1 (fun _ _ h => h)
    have hg2 := h2.same hs1 (fun _ _ h => h)
    have hv1 := hv.same hs1 (fun _ _ h => h)
    have hv2 := hv'.same hs1 (fun _ _ h => h)
    obtain ⟨rv, iv, L1, r1, i1⟩ := hg1.load hv1 (List.getElem?_eq_getElem hk1)
    obtain ⟨rv', iv', L2, r2, i2⟩ := hg2.load hv2 (List.getElem?_eq_getElem hk1)
    have ok := hok fs[k] (by simp)
    refine W_seq (W_block ?_)
    refine W_seq (W_draw0 [0, 1, 5, 6] rfl ?_)
    simp only [d14_6, WD_addrSl, WD_call, WD_load, WD_move, DPureK_some, DReadK_some, pastR_nil, joinF_nil, setH_self, geT_put, evO_tmp, List.map_cons, List.map_nil, Nat.reduceEqDiff, Nat.reduceAdd, reduceIte, eq_self, true_and, Nat.zero_add, e0, e1, e5, hv.addr (kk := .i64) (i := (k : Int)) rfl hk1, hv'.addr (kk := .i64) (i := (k : Int)) rfl hk1, L1, L2]
    refine DCallK_of rfl (run25_self hX ho r1.tab i1.tab r2.tab i2.tab ok.lr ok.li ok.lr2 ok.li2) ?_
    rintro _ s2 ⟨rfl, hs2⟩
    simp only [WD_move, WD_nil, DPureK_some, joinF_nil, joinAll_nil, setH_self, Nat.testBit, Nat.reduceShiftRight, Nat.reduceAnd, Nat.reduceBneDiff, List.all_nil, List.all_cons, List.filter_nil, List.filter_cons, geT_put, evO_tmp, keep_nil, keep_cons, keepK_eq, Nat.reduceEqDiff, Nat.reduceAdd, reduceIte, Bool.not_true, Bool.and_true, Bool.true_or, eq_self, Bool.false_eq_true, true_and, e0, e1, e5]
    clear e0 e1 e5 e15
    intro fr e0 e1 e5 e6
    refine SeqK_n ?_
    refine W_seq (W_ops [0, 1, 5, 28] ?_)
    simp only [o14_7, WO_move, WO_un, un_not, WO_nil, PureK_some, geT_put, evO_tmp, keep_nil, keep_cons, keepK_eq, Nat.reduceEqDiff, reduceIte, Bool.not_true, eq_self, e0, e1, e5, e6]
    clear e0 e1 e5 e6
    intro fr e0 e1 e5 e28
    refine SeqK_n ?_
    refine W_cond e28 (fun h => by cases h) (fun _ => W_skip (BlkK_n (SeqK_n ?_)))
    refine W_ops [0, 1, 5] ?_
    simp only [o14_9, WO_bin, WO_move, bin_add, WO_nil, PureK_some, geT_put, evO_tmp, evO_const, keep_nil, keep_cons, keepK_eq, Nat.reduceEqDiff, reduceIte, eq_self, e0, e1, e5, wrap_i64 (n := (k : Int) + 1) (by omega) (by omega)]
    clear e0 e1 e5 e28
    intro fr e0 e1 e5
    exact LoopK_n (m' := m - 1) (by omega) ⟨k + 1, by omega, hs1.trans hs2 (fun _ _ h => h) (fun _ _ h => h), e0, e1, by rw [e5]; rfl⟩
  · refine LoopK_x (BlkK_e (SeqK_n ?_))
    refine W_seq (W_ops [4] ?_)
    simp only [o14_10, WO_move, WO_nil, geT_put, evO_const, keep_nil, keep_cons, keepK_eq, reduceIte, eq_self]
    clear e0 e1 e5 e15
    intro fr e4
    refine SeqK_n ?_
    exact W_ret (Ret1 e4 ⟨rfl, hs1⟩)

end Go.Proofs.Ytkfcejhebepdkaa
