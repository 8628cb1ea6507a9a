/- One byte turned: no frame (plain lists). -/
import Derived.Test.YtkfcejhebepdkaaT3
namespace Go.Proofs.Ytkfcejhebepdkaa
open Go Go.Vam

theorem xor_inj {s a b : Nat} (h : s ^^^ a = s ^^^ b) : a = b := by
  have h2 : s ^^^ (s ^^^ a) = s ^^^ (s ^^^ b) := by rw [h]
  rwa [← Nat.xor_assoc, ← Nat.xor_assoc, Nat.xor_self, Nat.zero_xor, Nat.zero_xor] at h2

theorem mul_inj {a b : Nat} (ha : a < 4294967296) (hb : b < 4294967296) (h : a * 16777619 % 4294967296 = b * 16777619 % 4294967296) : a = b := by
  have hq : 16777619 * 899433627 = 4294967296 * 3513497 + 1 := by decide
  have key : ∀ x : Nat, x < 4294967296 → (x * 16777619 % 4294967296) * 899433627 % 4294967296 = x := fun x hx => by
    rw [Nat.mul_mod, Nat.mod_mod, ← Nat.mul_mod, Nat.mul_assoc, hq, Nat.mul_add, Nat.mul_one, Nat.mul_left_comm, Nat.mul_add_mod, Nat.mod_eq_of_lt hx]
  rw [← key a ha, ← key b hb, h]

theorem fnvF_app (s : Nat) (a b : List UInt8) : fnvF s (a ++ b) = fnvF (fnvF s a) b := by
  induction a generalizing s with
  | nil => rfl
  | cons c a ih => exact ih _

theorem fnvF_inj (l : List UInt8) : ∀ s t : Nat, s < 4294967296 → t < 4294967296 → fnvF s l = fnvF t l → s = t := by
  induction l with
  | nil => intro s t _ _ h; exact h
  | cons c l ih =>
    intro s t hs ht h
    have hc := c.toNat_lt
    have h1 : s ^^^ c.toNat < 4294967296 := Nat.xor_lt_two_pow (n := 32) hs (by omega)
    have h2 : t ^^^ c.toNat < 4294967296 := Nat.xor_lt_two_pow (n := 32) ht (by omega)
    have := mul_inj h1 h2 (ih _ _ (Nat.mod_lt _ (by omega)) (Nat.mod_lt _ (by omega)) h)
    rw [Nat.xor_comm s, Nat.xor_comm t] at this
    exact xor_inj this

/-- One byte turned turns the sum. -/
theorem fnvF_set {l : List UInt8} {i : Nat} {x : UInt8} (hi : i < l.length) (hx : x ≠ l[i]) : fnvF 2166136261 (l.set i x) ≠ fnvF 2166136261 l := by
  intro h
  have e : l = l.take i ++ l[i] :: l.drop (i + 1) := by simp
  rw [List.set_eq_take_append_cons_drop, if_pos hi] at h
  have h2 : fnvF 2166136261 (l.take i ++ x :: l.drop (i + 1)) = fnvF 2166136261 (l.take i ++ l[i] :: l.drop (i + 1)) := by rw [h, ← e]
  rw [fnvF_app, fnvF_app] at h2
  have hs := fnvF_lt (s := 2166136261) (by omega) (l.take i)
  have hc := x.toNat_lt
  have hd := (l[i]).toNat_lt
  have h3 := fnvF_inj _ _ _ (Nat.mod_lt _ (by omega)) (Nat.mod_lt _ (by omega)) h2
  have h4 := xor_inj (mul_inj (Nat.xor_lt_two_pow (n := 32) hs (by omega)) (Nat.xor_lt_two_pow (n := 32) hs (by omega)) h3)
  exact hx (UInt8.toNat_inj.1 h4)

set_option maxRecDepth 10000 in
theorem getF_inj : ∀ (l m : List UInt8) (p q k : Nat), l.length = m.length → p < 256 ^ k → q < 256 ^ k → k + l.length ≤ 8 → getF p l = getF q m → p = q ∧ l = m := by
  intro l
  induction l with
  | nil => intro m p q k h _ _ _ e; cases m with
    | nil => exact ⟨e, rfl⟩
    | cons c m => simp at h
  | cons c l ih =>
    intro m p q k h hp hq hk e
    cases m with
    | nil => simp at h
    | cons d m =>
      simp only [List.length_cons] at h hk
      have hc := c.toNat_lt
      have hd := d.toNat_lt
      have h1 : p * 256 + c.toNat < 256 ^ (k + 1) := by rw [Nat.pow_succ]; omega
      have h2 : q * 256 + d.toNat < 256 ^ (k + 1) := by rw [Nat.pow_succ]; omega
      have hle : 256 ^ (k + 1) ≤ 256 ^ 8 := Nat.pow_le_pow_right (by omega) (by omega)
      have e8 : (256 : Nat) ^ 8 = 18446744073709551616 := by decide
      simp only [getF] at e
      rw [Nat.mod_eq_of_lt (by omega), Nat.mod_eq_of_lt (by omega)] at e
      obtain ⟨g1, g2⟩ := ih m _ _ (k + 1) (by omega) h1 h2 (by omega) e
      refine ⟨by omega, ?_⟩
      rw [g2, UInt8.toNat_inj.1 (by omega : c.toNat = d.toNat)]

set_option maxRecDepth 10000 in
theorem getF_be (N : Nat) : ∀ (k p j : Nat), p < 256 ^ j → j + k ≤ 8 → getF p (beN N k) = p * 256 ^ k + N % 256 ^ k := by
  intro k
  induction k with
  | zero => intro p j _ _; simp [beN, getF]; omega
  | succ k ih =>
    intro p j hp hj
    have hle : 256 ^ (j + 1) ≤ 256 ^ 8 := Nat.pow_le_pow_right (by omega) (by omega)
    have e8 : (256 : Nat) ^ 8 = 18446744073709551616 := by decide
    have hb : (UInt8.ofNat (N / 256 ^ k)).toNat = N / 256 ^ k % 256 := by simp
    have h1 : p * 256 + N / 256 ^ k % 256 < 256 ^ (j + 1) := by rw [Nat.pow_succ]; omega
    simp only [beN, getF, hb]
    rw [Nat.mod_eq_of_lt (by omega), ih _ (j + 1) h1 (by omega), Nat.mod_pow_succ, Nat.add_mul, Nat.pow_succ]
    rw [Nat.mul_assoc, Nat.mul_comm 256, Nat.mul_comm (256 ^ k) (N / 256 ^ k % 256)]
    omega

theorem getF_be0 {N k : Nat} (hk : k ≤ 8) (hN : N < 256 ^ k) : getF 0 (beN N k) = N := by
  rw [getF_be N k 0 0 (by simp) (by omega), Nat.mod_eq_of_lt hN]; omega

theorem subB_mid {a x c : List UInt8} {l h : Nat} (ha : a.length = l) (hx : x.length = h - l) : subB (a ++ (x ++ c)) l h = x := by
  unfold subB
  rw [List.drop_left' ha, ← hx, List.take_left']
  rfl

theorem subB_set_out {b : List UInt8} {i l h : Nat} {x : UInt8} (hi : i < l ∨ h ≤ i) : subB (b.set i x) l h = subB b l h := by
  unfold subB
  rw [List.drop_set]
  split
  · rfl
  · rw [List.take_set]
    rcases hi with hi | hi
    · omega
    · rw [List.set_eq_of_length_le (by simp; omega)]

theorem subB_set_in {b : List UInt8} {i l h : Nat} {x : UInt8} (h1 : l ≤ i) : subB (b.set i x) l h = (subB b l h).set (i - l) x := by
  unfold subB
  rw [List.drop_set, if_neg (by omega), List.take_set]

theorem subB_get {b : List UInt8} {i l h : Nat} (h1 : l ≤ i) (h2 : i < h) (hh : h ≤ b.length) : (subB b l h)[i - l]? = b[i]? := by
  unfold subB
  rw [List.getElem?_take, if_pos (by omega), List.getElem?_drop]
  congr 1; omega

/-- NO FRAME BEGINS IN A FRAME's BYTES OF WHICH ONE WAS TURNED. -/
theorem turned {T U : Nat} {re im : List (List Int)} (hc : chkE T U re im = 0) {i : Nat} {x : UInt8} (hi : i < (encF T U re im).length) (hx : x ≠ (encF T U re im)[i]) (n : Nat) : fstF ((encF T U re im).set i x) ≠ .got n := by
  obtain ⟨_, _, hok, hlg⟩ := chk_spec hc
  obtain ⟨hl, hcr, hci⟩ := okB_spec hok
  obtain ⟨hR, hN, hRN⟩ := large_spec hlg
  obtain ⟨b, hb⟩ : ∃ b, b = encF T U re im := ⟨_, rfl⟩
  obtain ⟨p, hp⟩ : ∃ p, p = encBody T U re im := ⟨_, rfl⟩
  obtain ⟨M, hM⟩ : ∃ M, M = 4 * re.length * colsN re := ⟨_, rfl⟩
  have hMb : M ≤ 1048576 := by rw [hM, Nat.mul_assoc]; omega
  have hpl : p.length = 27 + M := by
    rw [hp, encBody, List.length_append, encRows_length (n := colsN re) re im hl hcr hci, hM, Nat.mul_assoc]
    simp [encHead, hdr, beN_length]
  have hbp : b = p ++ beN (fnvF 2166136261 p) 4 := by rw [hb, hp]; rfl
  have hbl : b.length = 31 + M := by rw [hbp, List.length_append, hpl, beN_length]; omega
  have hfv := fnvF_lt (s := 2166136261) (by omega) p
  have s37 : subB b 3 7 = beN (20 + M) 4 := by
    rw [hb, encF, encBody, encHead, hM]
    simp only [List.append_assoc]
    exact subB_mid rfl (by rw [beN_length])
  have s23 : subB b 23 25 = beN re.length 2 := by
    have : b = (hdr ++ (beN (20 + M) 4 ++ (beN T 8 ++ beN U 8))) ++ (beN re.length 2 ++ (beN (colsN re) 2 ++ (encRows re im ++ beN (fnvF 2166136261 p) 4))) := by
      rw [hbp, hp, encBody, encHead, hM]; simp only [List.append_assoc]
    rw [this]
    exact subB_mid (by simp [hdr, beN_length]) (by rw [beN_length])
  have s25 : subB b 25 27 = beN (colsN re) 2 := by
    have : b = (hdr ++ (beN (20 + M) 4 ++ (beN T 8 ++ (beN U 8 ++ beN re.length 2)))) ++ (beN (colsN re) 2 ++ (encRows re im ++ beN (fnvF 2166136261 p) 4)) := by
      rw [hbp, hp, encBody, encHead, hM]; simp only [List.append_assoc]
    rw [this]
    exact subB_mid (by simp [hdr, beN_length]) (by rw [beN_length])
  have sp : subB b 0 (27 + M) = p := by
    have : b = [] ++ (p ++ beN (fnvF 2166136261 p) 4) := by rw [hbp]; rfl
    rw [this]
    exact subB_mid rfl (by rw [hpl]; omega)
  have ss : subB b (27 + M) (31 + M) = beN (fnvF 2166136261 p) 4 := by
    have : b = p ++ (beN (fnvF 2166136261 p) 4 ++ []) := by rw [hbp, List.append_nil]
    rw [this]
    exact subB_mid hpl (by rw [beN_length]; omega)
  have g37 : getF 0 (subB b 3 7) = 20 + M := by rw [s37, getF_be0 (by omega) (by omega)]
  have g23 : getF 0 (subB b 23 25) = re.length := by rw [s23, getF_be0 (by omega) (by omega)]
  have g25 : getF 0 (subB b 25 27) = colsN re := by rw [s25, getF_be0 (by omega) (by omega)]
  have gs : getF 0 (subB b (27 + M) (31 + M)) = fnvF 2166136261 p := by rw [ss, getF_be0 (by omega) (by omega)]
  rw [← hb] at hi ⊢
  have hx' : x ≠ b[i] := by
    intro e; apply hx; rw [e]; congr 1
  intro hg
  -- the number of bytes as it is read
  unfold fstF at hg
  split at hg; · cases hg
  split at hg; · cases hg
  split at hg; · cases hg
  rename_i hbN
  split at hg; · cases hg
  split at hg; · cases hg
  split at hg; · cases hg
  split at hg; · cases hg
  rename_i hbG
  split at hg; · cases hg
  rename_i hlen
  split at hg; · cases hg
  rename_i hsum
  clear hg
  rw [List.length_set] at hlen
  simp only [ne_eq, Classical.not_not] at hsum
  by_cases hin : 3 ≤ i ∧ i < 7
  · -- the number itself is turned
    rw [subB_set_out (l := 23) (.inl (by omega)), subB_set_out (l := 25) (.inl (by omega)), g23, g25] at hbG
    have hne : getF 0 (subB (b.set i x) 3 7) ≠ 20 + M := by
      intro e
      rw [← g37, subB_set_in hin.1] at e
      have hlen4 : (subB b 3 7).length = 4 := by rw [subB_length (by omega)]
      have := (getF_inj _ _ 0 0 0 (by simp) (by simp) (by simp) (by rw [List.length_set, hlen4]; omega) e).2
      have h2 : ((subB b 3 7).set (i - 3) x)[i - 3]? = (subB b 3 7)[i - 3]? := by rw [this]
      rw [List.getElem?_set_self (by omega), subB_get hin.1 hin.2 (by omega), List.getElem?_eq_getElem hi] at h2
      exact hx' (by simpa using h2)
    simp only [badN, Bool.or_eq_true, decide_eq_true_eq, Bool.not_eq_true', decide_eq_false_iff_not, not_or] at hbN
    simp only [badG, Bool.or_eq_true, Bool.and_eq_true, decide_eq_true_eq, Bool.not_eq_true', decide_eq_false_iff_not, not_or, Classical.not_not] at hbG
    have h3 := hbG.2.2
    have hM' : M = 4 * (re.length * colsN re) := by rw [hM, Nat.mul_assoc]
    omega
  · rw [subB_set_out (l := 3) (h := 7) (by omega), g37] at hlen hsum
    rw [show 20 + M + 7 = 27 + M by omega, show 20 + M + 11 = 31 + M by omega] at hsum
    by_cases hend : i < 27 + M
    · rw [subB_set_in (Nat.zero_le _), sp, subB_set_out (l := 27 + M) (.inl hend), gs, Nat.sub_zero] at hsum
      refine fnvF_set (l := p) (i := i) (x := x) (by omega) ?_ hsum
      intro e
      apply hx'
      rw [e]
      have : b[i]? = p[i]? := by rw [hbp, List.getElem?_append_left (by omega)]
      rw [List.getElem?_eq_getElem hi, List.getElem?_eq_getElem (by omega)] at this
      exact (Option.some.inj this).symm
    · rw [subB_set_out (h := 27 + M) (.inr (by omega)), sp, ← gs, subB_set_in (by omega)] at hsum
      have hlen4 : (subB b (27 + M) (31 + M)).length = 4 := by rw [subB_length (by omega)]; omega
      have := (getF_inj _ _ 0 0 0 (by simp) (by simp) (by simp) (by rw [hlen4]; omega) hsum).2
      have h2 : ((subB b (27 + M) (31 + M)).set (i - (27 + M)) x)[i - (27 + M)]? = (subB b (27 + M) (31 + M))[i - (27 + M)]? := by rw [← this]
      rw [List.getElem?_set_self (by omega), subB_get (by omega) (by omega) (by omega), List.getElem?_eq_getElem hi] at h2
      exact hx' (by simpa using h2)

end Go.Proofs.Ytkfcejhebepdkaa
