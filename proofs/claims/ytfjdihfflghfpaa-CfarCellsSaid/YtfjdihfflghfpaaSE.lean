/- SumsSorted: the plain law, and its walk. -/
import Derived.Test.YtfjdihfflghfpaaSD
namespace Go.Proofs.Ytfjdihfflghfpaa
open Go Go.Vam Go.Sort

theorem srt_mono {d : Array UInt64} {i j : Nat} {x y : Int} (hij : i < j) (hx : (srt d)[i]? = some x) (hy : (srt d)[j]? = some y) : x ≤ y := by
  have hp : (srt d).Pairwise (fun a b => (!ltInt b a) = true) := by
    unfold srt
    refine List.pairwise_mergeSort (fun a b c h1 h2 => ?_) (fun a b => ?_) _
    · unfold ltInt at *
      simp only [Bool.not_eq_true', decide_eq_false_iff_not] at *
      omega
    · unfold ltInt
      by_cases h : b < a
      · have : ¬ a < b := by omega
        simp [h, this]
      · simp [h]
  obtain ⟨h1, h2⟩ := List.getElem?_eq_some_iff.1 hx
  obtain ⟨h3, h4⟩ := List.getElem?_eq_some_iff.1 hy
  have := List.pairwise_iff_getElem.1 hp i j h1 h3 hij
  rw [h2, h4] at this
  unfold ltInt at this
  simp only [Bool.not_eq_true', decide_eq_false_iff_not] at this
  omega

theorem srt_perm (d : Array UInt64) : (srt d).Perm (d.toList.map fun x => kap x.toNat) := List.mergeSort_perm _ _

def pc (L : List Int) (c : Int) (k : Nat) : Int := ((L.take k).count c : Nat)
theorem pc_succ {L : List Int} {c x : Int} {k : Nat} (h : L[k]? = some x) : pc L c (k + 1) = pc L c k + (if x = c then 1 else 0) := by
  unfold pc
  rw [List.take_add_one, h, List.count_append]
  by_cases hx : x = c
  · subst hx; simp
  · simp [hx]
theorem pc_le (L : List Int) (c : Int) (k : Nat) : 0 ≤ pc L c k ∧ pc L c k ≤ k := by
  unfold pc
  have := List.count_le_length (a := c) (l := L.take k)
  rw [List.length_take] at this
  omega

theorem toList_get {d : Array UInt64} {i : Nat} (hi : i < d.size) : (d.toList.map fun x => kap x.toNat)[i]? = some (kap (d[i]!).toNat) := by
  rw [List.getElem?_map, Array.getElem?_toList, Array.getElem?_eq_getElem hi, Array.getElem!_eq_getD, Array.getD, dif_pos hi]; rfl

theorem flA_push (d : Array UInt64) (x : UInt64) : flA (d.push x) = flA d ++ [.float .f64 x.toNat] := by simp [flA]
theorem push_get {d : Array UInt64} {x : UInt64} {j : Nat} (hj : j < d.size + 1) : (d.push x)[j]! = if j < d.size then d[j]! else x := by
  rw [Array.getElem!_eq_getD, Array.getD, dif_pos (by simpa using hj)]
  simp only [Array.getInternal_eq_getElem]
  rw [Array.getElem_push]
  split
  · rename_i h; rw [Array.getElem!_eq_getD, Array.getD, dif_pos h]; rfl
  · rfl

theorem flA_take (d : Array UInt64) (h : Nat) : flA (d.toList.take h).toArray = (flA d).take h := by simp [flA, List.map_take]


end Go.Proofs.Ytfjdihfflghfpaa

/- SumsSorted: its run at any argument. -/
namespace Go.Proofs.Ytfjdihfflghfpaa
open Go Go.Vam Go.Sort

theorem bulkAll_mem {H : Type} (l : List (DataW H)) : ∀ d ∈ l, Rows.uptoBulk d ≤ Rows.uptoBulkAll l := by
  induction l with
  | nil => simp
  | cons x r ih =>
    intro d hd
    rcases List.mem_cons.1 hd with rfl | hd
    · simp only [Rows.uptoBulkAll]; omega
    · have := ih d hd; simp only [Rows.uptoBulkAll]; omega

theorem bulk_one {H : Type} (d : DataW H) : 1 ≤ Rows.uptoBulk d := by
  cases d with
  | lit l => cases l <;> simp [Rows.uptoBulk]
  | nil => simp [Rows.uptoBulk]
  | ptr d => simp [Rows.uptoBulk]
  | slice elems spare => simp [Rows.uptoBulk]
  | agg parts => simp [Rows.uptoBulk]
  | iface t d => simp [Rows.uptoBulk]
  | map entries => simp [Rows.uptoBulk]
  | held h => simp [Rows.uptoBulk]

theorem bulk_len {H : Type} (l : List (DataW H)) : l.length ≤ Rows.uptoBulkAll l := by
  induction l with
  | nil => simp [Rows.uptoBulkAll]
  | cons x r ih => have := bulk_one x; simp only [Rows.uptoBulkAll, List.length_cons]; omega

theorem bulk {H : Type} : Bulk (Rows.uptoBulk (H := H)) :=
  ⟨bulk_one, fun ds rest d hd => by have := bulkAll_mem ds d hd; simp only [Rows.uptoBulk]; omega, fun ds rest => by have := bulk_len ds; simp only [Rows.uptoBulk]; omega,
    fun ds d hd => by have := bulkAll_mem ds d hd; simp only [Rows.uptoBulk]; omega⟩

theorem AbsL.cons {P : Program} {T : Type} {s : Mm} {t : TypeId} {ts : List TypeId} {vs : List Value} {ds : List (DataW T)} (h : AbsL P s (t :: ts) vs ds) : ∃ v vs' d ds', vs = v :: vs' ∧ ds = d :: ds' ∧ AbsV P s t v d ∧ AbsL P s ts vs' ds' := by
  cases vs with
  | nil => exact h.elim
  | cons v vs => cases ds with
    | nil => exact h.elim
    | cons d ds => exact ⟨v, vs, d, ds, rfl, rfl, h.1, h.2⟩

theorem AbsL.nil {P : Program} {T : Type} {s : Mm} {vs : List Value} {ds : List (DataW T)} (h : AbsL P s [] vs ds) : vs = [] ∧ ds = [] := by
  cases vs with
  | nil => cases ds with
    | nil => exact ⟨rfl, rfl⟩
    | cons d ds => exact h.elim
  | cons v vs => exact h.elim

theorem wfl (x : Nat) (hx : (Lit.float .f64 x).wf = true) : x < 18446744073709551616 := by simpa [Lit.wf] using hx

theorem c24 : Try.prog.cellsOf 24 = 1 := by decide +kernel

set_option maxRecDepth 100000 in
/-- Floats that are handed in. -/
theorem floats_open {T : Type} {s : Mm} (hs : Lt s) {v : Value} {d : DataW T} (h : AbsV Try.prog s 22 v d) : ∃ D : Array UInt64, SlC s 1 v D.size (flA D) ∧ D.size ≤ Rows.uptoBulk d := by
  unfold AbsV at h
  rw [Try.underlying22] at h
  obtain ⟨w, xs, h1, h2, h3, h4⟩ := Abs.onesB (f := Value.float .f64) (p := fun x => x < 18446744073709551616) bulk hs Try.underlying22 c24 h (fun l d hl => by
    obtain ⟨n, k, _, w⟩ := Abs.f Try.underlying24 hl
    exact ⟨n, k, wfl n w⟩)
  cases h1
  refine ⟨(xs.map UInt64.ofNat).toArray, ?_, by simpa using h3⟩
  have e : flA (xs.map UInt64.ofNat).toArray = xs.map (Value.float .f64) := by
    unfold flA
    simp only [List.map_map]
    refine List.map_congr_left fun x hx => ?_
    show Value.float .f64 (UInt64.ofNat x).toNat = _
    rw [UInt64.toNat_ofNat', Nat.mod_eq_of_lt (h4 x hx)]
  rw [e]
  simpa using h2

end Go.Proofs.Ytfjdihfflghfpaa
