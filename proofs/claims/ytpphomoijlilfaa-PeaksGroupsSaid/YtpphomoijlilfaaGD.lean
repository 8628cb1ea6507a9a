/- Peaks: the law of groups: what is done to a row. -/
import Derived.SizedLaws
import Derived.Test.YtpphomoijlilfaaGC
import Derived.Test.YtpphomoijlilfaaLwIr
import Derived.Test.YtpphomoijlilfaaGA
import Derived.Test.YtpphomoijlilfaaBase
/- What is handed in: spots, with what they weigh. -/
namespace Go.Vam
open Go Go.ChangeShapes

section
variable {P : Program} {T : Type} {s : Mm}

theorem wt_len {t e : TypeId} (ht : P.underlying t = some (.slice e)) {ds rest : List (DataW T)} {W : Nat} (h : ∀ n ∈ DataW.weights P t (.slice ds rest), n ≤ W) : ds.length * P.bytesOf e ≤ W := by
  have := h ((ds.length + rest.length) * P.bytesOf e) (by simp only [DataW.weights, ht]; exact List.mem_cons_self ..)
  exact Nat.le_trans (Nat.mul_le_mul_right _ (by omega)) this

theorem wt_all {e : TypeId} : ∀ {l : List (DataW T)} {d : DataW T}, d ∈ l → ∀ n ∈ d.weights P e, n ∈ DataW.weightsAll P e l
  | x :: r, d, hd, n, hn => by
    simp only [DataW.weightsAll, List.mem_append]
    rcases List.mem_cons.1 hd with rfl | hd
    · exact .inl hn
    · exact .inr (wt_all hd n hn)

theorem wt_el {t e : TypeId} (ht : P.underlying t = some (.slice e)) {ds rest : List (DataW T)} {W : Nat} (h : ∀ n ∈ DataW.weights P t (.slice ds rest), n ≤ W) {d : DataW T} (hd : d ∈ ds) : ∀ n ∈ d.weights P e, n ≤ W :=
  fun n hn => h n (by simp only [DataW.weights, ht]; exact List.mem_cons_of_mem _ (List.mem_append_left _ (wt_all hd n hn)))

end
end Go.Vam
namespace Go.Proofs.Ytpphomoijlilfaa.G
open Go Go.Vam Go.Hang
abbrev gateM (x : SpI) : SpI := (x.1, -9, x.2.2)
abbrev x8 : SpI := (0, -8, 0)
def gated (r : List SpI) (k : Nat) : List SpI := (r.take k).map gateM ++ r.drop k
theorem gated_len {r : List SpI} {k : Nat} : (gated r k).length = r.length := by
  unfold gated
  rw [List.length_append, List.length_map, List.length_take, List.length_drop]
  omega
theorem gated_zero (r : List SpI) : gated r 0 = r := by simp [gated]
theorem gated_all (r : List SpI) : gated r r.length = r.map gateM := by simp [gated]
theorem flat_gate {r : List SpI} {k : Nat} (hk : k < r.length) : ((gated r k).flatMap eI).set (k * 3 + 1) (.int .i64 (-9)) = (gated r (k + 1)).flatMap eI := by
  unfold gated
  rw [List.drop_eq_getElem_cons hk, List.take_add_one, List.getElem?_eq_getElem hk, List.map_append, List.flatMap_append, List.flatMap_append, List.flatMap_append, List.flatMap_cons]
  have hl : (((r.take k).map gateM).flatMap eI).length = k * 3 := by rw [eI_len, List.length_map, List.length_take]; omega
  rw [List.set_append_right _ _ (by omega), hl, List.append_assoc]
  congr 1
  rw [show k * 3 + 1 - k * 3 = 1 by omega]
  rfl
set_option maxHeartbeats 4000000 in
theorem loop4b {X : Ctx} (hX : X.fns = fnsOf Try.prog) (ho : ∀ f args, f ≠ 15 ∧ f ≠ 38 → X.orc f args = none) {fr : Fr} {s0 s : Mm} {l : List HP} {av rv v0 v5 v7 v8 : Value} {ac : List Value} {na i : Nat} {r : List SpI} {Q : AExit → Fr → Mm → Prop}
    (hr : r.length ≤ 5864062014634) (hi : i < na) (hac : ac[i]? = some rv)
    (e0 : geT fr 0 = v0) (e5 : geT fr 5 = v5) (e6 : geT fr 6 = av) (e7 : geT fr 7 = v7) (e8 : geT fr 8 = v8) (e9 : geT fr 9 = .int .i64 (i : Nat)) (e10 : geT fr 10 = .int .i64 0)
    (H : Hold s0 s (HP.own 3 rv r.length (r.flatMap eI) :: HP.own 1 av na ac :: l))
    (hQ : ∀ fr s, geT fr 0 = v0 → geT fr 5 = v5 → geT fr 6 = av → geT fr 7 = v7 → geT fr 8 = v8 → geT fr 9 = .int .i64 (i : Nat) →
      Hold s0 s (HP.own 3 rv r.length ((r.map gateM).flatMap eI) :: HP.own 1 av na ac :: l) → Q .normal fr s) :
    W X (.block 2 (.loop b4_13)) fr s Q := by
  refine qat (W_loop (fun m fr s1 => ∃ k, k + m = r.length ∧ geT fr 0 = v0 ∧ geT fr 5 = v5 ∧ geT fr 6 = av ∧ geT fr 7 = v7 ∧ geT fr 8 = v8 ∧ geT fr 9 = .int .i64 (i : Nat) ∧ geT fr 10 = .int .i64 (k : Nat) ∧
    Hold s0 s1 (HP.own 3 rv r.length ((gated r k).flatMap eI) :: HP.own 1 av na ac :: l)) r.length ⟨0, by omega, e0, e5, e6, e7, e8, e9, e10, by rw [gated_zero]; exact H⟩ ?_)
  clear e0 e5 e6 e7 e8 e9 e10 fr H s
  rintro m fr s1 ⟨k, hk, e0, e5, e6, e7, e8, e9, e10, H⟩
  have sr := (H.own (sz := 3) (v := rv) (n := r.length) (cs := (gated r k).flatMap eI) (by simp)).slc
  have sa := (H.own (sz := 1) (v := av) (n := na) (cs := ac) (by simp)).slc
  have A1 := sa.addr (kk := .i64) (i := ((i : Nat) : Int)) rfl hi
  rw [Nat.mul_one] at A1
  have L1 : loadV s1 none (elP av i) = some rv := sa.load hac
  refine qau ?_
  refine qak (qan [0, 5, 6, 7, 8, 9, 10, 58] ?_)
  simp only [o4_14, WO_addrSl, qao, WO_bu, WO_load, qah, bin_lss, qaj, qag, qad, qaf, qab, qaa, qac, List.map_cons, List.map_nil, Nat.reduceEqDiff, ↓reduceIte, eq_self, e0, e5, e6, e7, e8, e9, e10, A1, L1, sr.len]
  clear e0 e5 e6 e7 e8 e9 e10
  intro fr e0 e5 e6 e7 e8 e9 e10 e58
  refine qai ?_
  refine W_while e58 (fun hlt => ?_) (fun hlt => ?_)
  · have hk1 : k < r.length := by omega
    have A2 := sr.addr (kk := .i64) (i := ((k : Nat) : Int)) rfl hk1
    have p1 := sr.fld (by omega) (k * 3) 1
    obtain ⟨s2, st, H1⟩ := H.store (k := k * 3 + 1) (x := .int .i64 (-9)) (by rw [eI_len, gated_len]; omega) rfl
    rw [flat_gate hk1] at H1
    refine qak (qat ?_)
    refine qan [0, 5, 6, 7, 8, 9, 10] ?_
    simp only [o4_15, WO_addrSl, WO_fieldAddr, WO_load, qah, WO_store, qaj, qag, MemK_some, qad, puT_none, qaf, qae, qab, qaa, qac, Nat.reduceEqDiff, ↓reduceIte, eq_self, e0, e5, e6, e7, e8, e9, e10, A1, L1, A2, p1, st]
    clear e0 e5 e6 e7 e8 e9 e10 e58
    intro fr e0 e5 e6 e7 e8 e9 e10
    refine BlkK_n (qai ?_)
    refine qan [0, 5, 6, 7, 8, 9, 10] ?_
    simp only [o4_16, qao, qah, qax, qaj, qag, qad, qaf, qae, qab, qaa, qac, Nat.reduceEqDiff, ↓reduceIte, eq_self, e0, e5, e6, e7, e8, e9, e10, qal (n := (k : Int) + 1) (by omega) (by omega)]
    clear e0 e5 e6 e7 e8 e9 e10
    intro fr e0 e5 e6 e7 e8 e9 e10
    exact LoopK_n (m' := m - 1) (by omega) ⟨k + 1, by omega, e0, e5, e6, e7, e8, e9, by rw [e10]; rfl, H1⟩
  · have hkk : k = r.length := by omega
    subst hkk
    rw [gated_all] at H
    exact LoopK_x (BlkK_e (hQ _ _ e0 e5 e6 e7 e8 e9 H))
set_option maxHeartbeats 4000000 in
theorem loop4c {X : Ctx} (hX : X.fns = fnsOf Try.prog) (ho : ∀ f args, f ≠ 15 ∧ f ≠ 38 → X.orc f args = none) {fr : Fr} {s0 s : Mm} {l : List HP} {av rv v0 v5 v7 v8 : Value} {ac : List Value} {na i : Nat} {r : List SpI} {Q : AExit → Fr → Mm → Prop}
    (hr : r.length ≤ 5864062014634) (hi : i < na) (hac : ac[i]? = some rv)
    (e0 : geT fr 0 = v0) (e5 : geT fr 5 = v5) (e6 : geT fr 6 = av) (e7 : geT fr 7 = v7) (e8 : geT fr 8 = v8) (e9 : geT fr 9 = .int .i64 (i : Nat)) (e11 : geT fr 11 = .int .i64 0)
    (H : Hold s0 s (HP.own 3 rv r.length (r.flatMap eI) :: HP.own 1 av na ac :: l))
    (hQ : ∀ fr s v', geT fr 0 = v0 → geT fr 5 = v5 → geT fr 6 = av → geT fr 7 = v7 → geT fr 8 = v8 → geT fr 9 = .int .i64 (i : Nat) →
      Hold s0 s (HP.own 3 v' (r ++ List.replicate 5 x8).length ((r ++ List.replicate 5 x8).flatMap eI) :: HP.own 1 av na (ac.set i v') :: l) → Q .normal fr s) :
    W X (.block 4 (.loop b4_18)) fr s Q := by
  refine qat (W_loop (fun m fr s1 => ∃ k v', k + m = 5 ∧ geT fr 0 = v0 ∧ geT fr 5 = v5 ∧ geT fr 6 = av ∧ geT fr 7 = v7 ∧ geT fr 8 = v8 ∧ geT fr 9 = .int .i64 (i : Nat) ∧ geT fr 11 = .int .i64 (k : Nat) ∧
    Hold s0 s1 (HP.own 3 v' (r ++ List.replicate k x8).length ((r ++ List.replicate k x8).flatMap eI) :: HP.own 1 av na (ac.set i v') :: l)) 5 ⟨0, rv, by omega, e0, e5, e6, e7, e8, e9, e11, ?_⟩ ?_)
  · obtain ⟨h, rfl⟩ := List.getElem?_eq_some_iff.1 hac
    simpa using H
  clear e0 e5 e6 e7 e8 e9 e11 fr H s
  rintro m fr s1 ⟨k, v', hk, e0, e5, e6, e7, e8, e9, e11, H⟩
  refine qau ?_
  refine qak (qan [0, 5, 6, 7, 8, 9, 11, 69] ?_)
  simp only [o4_19, qao, qah, bin_lss, qaj, qag, qad, qaf, qae, qab, qaa, qac, Nat.reduceEqDiff, ↓reduceIte, eq_self, e0, e5, e6, e7, e8, e9, e11]
  clear e0 e5 e6 e7 e8 e9 e11
  intro fr e0 e5 e6 e7 e8 e9 e11 e69
  refine qai ?_
  refine W_while e69 (fun hlt => ?_) (fun hlt => ?_)
  · have hl2 : i < ac.length := (List.getElem?_eq_some_iff.1 hac).1
    have hlr : (r ++ List.replicate k x8).length = r.length + k := by simp
    have sa := (H.own (sz := 1) (v := av) (n := na) (cs := ac.set i v') (by simp)).slc
    have A1 := sa.addr (kk := .i64) (i := ((i : Nat) : Int)) rfl hi
    rw [Nat.mul_one] at A1
    have L1 : loadV s1 none (elP av i) = some v' := sa.load (by rw [List.getElem?_set_self hl2])
    have hbu : buildV [.int .i64 0, .int .i64 0, .float .f64 0] [(1, 1, .int .i64 (-8))] = some (.agg #[.int .i64 0, .int .i64 (-8), .float .f64 0]) := rfl
    have hbs : buildSlV s1 3 [.int .i64 0, .int .i64 0, .float .f64 0] 1 [(0, 3, .agg #[.int .i64 0, .int .i64 (-8), .float .f64 0])] = some (.slice (some ⟨s1.nxt, 0, none⟩) 1 1, .cells (eI x8) false) := rfl
    obtain ⟨v2, s2, ap, H1⟩ := H.push (bytes := 24) (new := eI x8) rfl rfl (by omega) (by decide) (by omega) (by omega) (by omega)
    have hone : oneCell v2 = true := (H1.own (List.mem_cons_self ..)).one
    obtain ⟨s3, st, H2⟩ := H1.up1.store (k := i) (x := v2) (by simpa using hl2) hone
    rw [List.set_set] at H2
    refine qak (qat ?_)
    refine qan [0, 5, 6, 7, 8, 9, 11] ?_
    simp only [o4_20, WO_addrSl, WO_append, WO_build, WO_buildSlice, WO_load, qah, WO_store, qaj, qag, MemK_some, NewK_some, qad, puT_none, qaf, qae, qab, qaa, qac, List.map_cons, List.map_nil, Nat.reduceEqDiff, ↓reduceIte, eq_self, Nat.zero_mul, e0, e5, e6, e7, e8, e9, e11, A1, L1, hbu, hbs, ap, st]
    clear e0 e5 e6 e7 e8 e9 e11 e69
    intro fr e0 e5 e6 e7 e8 e9 e11
    refine BlkK_n (qai ?_)
    refine qan [0, 5, 6, 7, 8, 9, 11] ?_
    simp only [o4_21, qao, qah, qax, qaj, qag, qad, qaf, qae, qab, qaa, qac, Nat.reduceEqDiff, ↓reduceIte, eq_self, e0, e5, e6, e7, e8, e9, e11, qal (n := (k : Int) + 1) (by omega) (by omega)]
    clear e0 e5 e6 e7 e8 e9 e11
    intro fr e0 e5 e6 e7 e8 e9 e11
    refine LoopK_n (m' := m - 1) (by omega) ⟨k + 1, v2, by omega, e0, e5, e6, e7, e8, e9, by rw [e11]; rfl, ?_⟩
    have e1 : r ++ List.replicate (k + 1) x8 = (r ++ List.replicate k x8) ++ [x8] := by rw [List.replicate_succ', List.append_assoc]
    rw [e1, List.flatMap_append, List.length_append]
    simpa using H2.up1
  · have hk5 : k = 5 := by omega
    subst hk5
    exact LoopK_x (BlkK_e (hQ _ _ v' e0 e5 e6 e7 e8 e9 H))
end Go.Proofs.Ytpphomoijlilfaa.G

/- Peaks: the law of groups: what is done to the groups, and what is asked of them. -/
namespace Go.Proofs.Ytpphomoijlilfaa.G
open Go Go.Vam Go.Hang
def turned (r : List SpI) : List SpI := r.map gateM ++ List.replicate 5 x8
theorem turned_len (r : List SpI) : (turned r).length = r.length + 5 := by simp [turned]
theorem step_map {α : Type} (f : α → α) {R : List α} {i : Nat} (h : i < R.length) : ((R.take i).map f ++ R.drop i).set i (f R[i]) = (R.take (i + 1)).map f ++ R.drop (i + 1) := by
  rw [List.drop_eq_getElem_cons h, List.take_add_one, List.getElem?_eq_getElem h, List.map_append, List.append_assoc]
  have hl : ((R.take i).map f).length = i := by rw [List.length_map, List.length_take]; omega
  rw [List.set_append_right _ _ (by omega), hl, Nat.sub_self]
  rfl
theorem step_at {α : Type} (f : α → α) {R : List α} {i : Nat} (h : i < R.length) : ((R.take i).map f ++ R.drop i)[i]? = some R[i] := by
  have hl : ((R.take i).map f).length = i := by rw [List.length_map, List.length_take]; omega
  rw [List.getElem?_append_right (by omega), hl, Nat.sub_self, List.drop_eq_getElem_cons h]
  rfl
theorem snd_at {G : Gs} {R : List (List SpI)} (h : G.map (·.2) = R) {i : Nat} (hi : i < R.length) : ∃ g, G[i]? = some g ∧ g.2 = R[i] := by
  subst h
  have hi' : i < G.length := by simpa using hi
  exact ⟨G[i], List.getElem?_eq_getElem hi', by simp⟩
theorem own_row {s0 s : Mm} {l : List HP} {G : Gs} (H : Hold s0 s l) (hl : ∀ P ∈ rowsHP G, P ∈ l) {i : Nat} {g : Value × List SpI} (hg : G[i]? = some g) : SlC s 3 g.1 g.2.length (g.2.flatMap eI) :=
  (H.own (sz := 3) (v := g.1) (n := g.2.length) (cs := g.2.flatMap eI) (hl _ (List.mem_map.2 ⟨g, List.mem_of_getElem? hg, rfl⟩))).slc
set_option maxHeartbeats 4000000 in
theorem loop4a {X : Ctx} (hX : X.fns = fnsOf Try.prog) (ho : ∀ f args, f ≠ 15 ∧ f ≠ 38 → X.orc f args = none) {fr : Fr} {s0 s : Mm} {l : List HP} {av cv v0 v5 v7 : Value} {GA GC : Gs} {R : List (List SpI)} {Q : AExit → Fr → Mm → Prop}
    (hR : R.length ≤ 5864062014634) (hr : ∀ r ∈ R, r.length ≤ 5864062014634) (hA : GA.map (·.2) = R) (hC : GC.map (·.2) = R)
    (hcv : HP.own 1 cv R.length (GC.map (·.1)) ∈ l) (hcr : ∀ P ∈ rowsHP GC, P ∈ l)
    (e0 : geT fr 0 = v0) (e5 : geT fr 5 = v5) (e6 : geT fr 6 = av) (e7 : geT fr 7 = v7) (e8 : geT fr 8 = cv) (e9 : geT fr 9 = .int .i64 0)
    (H : Hold s0 s (HP.own 1 av R.length (GA.map (·.1)) :: (rowsHP GA ++ l)))
    (hQ : ∀ fr s G, geT fr 0 = v0 → geT fr 5 = v5 → geT fr 6 = av → geT fr 7 = v7 → geT fr 8 = cv → G.map (·.2) = R.map turned →
      Hold s0 s (HP.own 1 av R.length (G.map (·.1)) :: (rowsHP G ++ l)) → Q .normal fr s) :
    W X (.block 0 (.loop b4_8)) fr s Q := by
  refine qat (W_loop (fun m fr s1 => ∃ (i : Nat) (G : Gs), i + m = R.length ∧ G.map (·.2) = (R.take i).map turned ++ R.drop i ∧
    geT fr 0 = v0 ∧ geT fr 5 = v5 ∧ geT fr 6 = av ∧ geT fr 7 = v7 ∧ geT fr 8 = cv ∧ geT fr 9 = .int .i64 (i : Nat) ∧
    Hold s0 s1 (HP.own 1 av R.length (G.map (·.1)) :: (rowsHP G ++ l))) R.length ⟨0, GA, by omega, by simpa using hA, e0, e5, e6, e7, e8, e9, H⟩ ?_)
  clear e0 e5 e6 e7 e8 e9 fr H s
  rintro m fr s1 ⟨i, G, hi, hG, e0, e5, e6, e7, e8, e9, H⟩
  have sa := (H.own (sz := 1) (v := av) (n := R.length) (cs := G.map (·.1)) (by simp)).slc
  have sc := (H.own (sz := 1) (v := cv) (n := R.length) (cs := GC.map (·.1)) (by simp [hcv])).slc
  refine qau ?_
  refine qak (qan [0, 5, 6, 7, 8, 9, 39] ?_)
  simp only [o4_9, qao, WO_bu, qah, bin_lss, qaj, qag, qad, qaf, qab, qaa, qac, List.map_cons, List.map_nil, Nat.reduceEqDiff, ↓reduceIte, eq_self, e0, e5, e6, e7, e8, e9, sa.len]
  clear e0 e5 e6 e7 e8 e9
  intro fr e0 e5 e6 e7 e8 e9 e39
  refine qai ?_
  refine W_while e39 (fun hlt => ?_) (fun hlt => ?_)
  · have hi1 : i < R.length := by omega
    have hGl : G.length = R.length := by have := congrArg List.length hG; simp at this; omega
    have hiG : i < G.length := by omega
    have hg2 : G[i].2 = R[i] := by
      have h1 : (G.map (·.2))[i]? = some R[i] := by rw [hG]; exact step_at turned hi1
      rw [List.getElem?_map, List.getElem?_eq_getElem hiG] at h1
      exact Option.some.inj h1
    obtain ⟨gc, hgc, hc2⟩ := snd_at hC hi1
    have sr := own_row H (G := G) (fun P hP => by simp [hP]) (List.getElem?_eq_getElem hiG)
    have sq := own_row H (G := GC) (fun P hP => by simp [hcr P hP]) hgc
    rw [hg2] at sr
    rw [hc2] at sq
    have hri := hr R[i] (List.getElem_mem hi1)
    have A1 := sa.addr (kk := .i64) (i := ((i : Nat) : Int)) rfl hi1
    have A2 := sc.addr (kk := .i64) (i := ((i : Nat) : Int)) rfl hi1
    rw [Nat.mul_one] at A1 A2
    have hac : (G.map (·.1))[i]? = some G[i].1 := by rw [List.getElem?_map, List.getElem?_eq_getElem hiG]; rfl
    have L1 : loadV s1 none (elP av i) = some G[i].1 := sa.load hac
    have L2 : loadV s1 none (elP cv i) = some gc.1 := sc.load (by rw [List.getElem?_map, hgc]; rfl)
    refine qak (qat ?_)
    refine qau ?_
    refine qak (qbb [0, 5, 6, 7, 8, 9, 51] rfl ?_)
    simp only [d4_10, qay, WD_call, WD_load, qba, qam, qas, qaw, qar, qap, qad, qaf, List.map_cons, List.map_nil, Nat.reduceEqDiff, Nat.reduceAdd, ↓reduceIte, eq_self, true_and, Nat.zero_add, e6, e8, e9, A1, L1, A2, L2]
    refine DCallK_of rfl (run13i hX ho sr sq (by omega)) ?_
    rintro _ _ ⟨rfl, rfl⟩
    simp only [WD_un, un_not, WD_nil, qam, qar, qaq, qap, Nat.testBit, Nat.reduceShiftRight, Nat.reduceAnd, Nat.reduceBneDiff, List.all_nil, List.all_cons, List.filter_nil, List.filter_cons, qad, qaf, qab, qaa, qac, Nat.reduceEqDiff, Nat.reduceAdd, ↓reduceIte, Bool.not_true, Bool.and_true, Bool.true_or, eq_self, Bool.false_eq_true, true_and, e0, e5, e6, e7, e8, e9]
    clear e0 e5 e6 e7 e8 e9 e39
    intro fr e0 e5 e6 e7 e8 e9 e51
    refine qai ?_
    refine qak (W_cond e51 (fun h => by cases h) (fun _ => W_skip (qai ?_)))
    have H1 : Hold s0 s1 (HP.own 3 G[i].1 R[i].length (R[i].flatMap eI) :: HP.own 1 av R.length (G.map (·.1)) :: (rowsHP (G.eraseIdx i) ++ l)) := by
      have := (H.perm (((rows_at hiG).append_right l).cons _)).up1
      simp only [rowP, hg2] at this
      exact this
    refine qau ?_
    refine qak (qan [0, 5, 6, 7, 8, 9, 10] ?_)
    simp only [o4_12, qah, qaj, qad, qae, qab, qaa, qac, Nat.reduceEqDiff, ↓reduceIte, eq_self, e0, e5, e6, e7, e8, e9]
    clear e0 e5 e6 e7 e8 e9 e51
    intro fr e0 e5 e6 e7 e8 e9 e10
    refine qai ?_
    refine qak (loop4b hX ho hri hi1 hac e0 e5 e6 e7 e8 e9 e10 H1 ?_)
    clear e0 e5 e6 e7 e8 e9 e10 fr H1 H sa sc sr sq A1 A2 L1 L2 s1
    intro fr s1 e0 e5 e6 e7 e8 e9 H1
    refine qai ?_
    refine qak (qan [0, 5, 6, 7, 8, 9, 11] ?_)
    simp only [o4_17, qah, qaj, qad, qae, qab, qaa, qac, Nat.reduceEqDiff, ↓reduceIte, eq_self, e0, e5, e6, e7, e8, e9]
    clear e0 e5 e6 e7 e8 e9
    intro fr e0 e5 e6 e7 e8 e9 e11
    refine qai ?_
    have hml : (R[i].map gateM).length = R[i].length := List.length_map ..
    rw [← hml] at H1
    refine loop4c hX ho (by omega) hi1 hac e0 e5 e6 e7 e8 e9 e11 H1 ?_
    clear e0 e5 e6 e7 e8 e9 e11 fr H1 s1
    intro fr s1 v' e0 e5 e6 e7 e8 e9 H1
    refine BlkK_n (qai ?_)
    refine qan [0, 5, 6, 7, 8, 9] ?_
    simp only [o4_22, qao, qah, qax, qaj, qag, qad, qaf, qae, qab, qaa, qac, Nat.reduceEqDiff, ↓reduceIte, eq_self, e0, e5, e6, e7, e8, e9, qal (n := (i : Int) + 1) (by omega) (by omega)]
    clear e0 e5 e6 e7 e8 e9
    intro fr e0 e5 e6 e7 e8 e9
    refine LoopK_n (m' := m - 1) (by omega) ⟨i + 1, G.set i (v', turned R[i]), by omega, ?_, e0, e5, e6, e7, e8, by rw [e9]; rfl, ?_⟩
    · rw [List.map_set, hG]
      exact step_map turned hi1
    · have e1 : (G.map (·.1)).set i v' = (G.set i (v', turned R[i])).map (·.1) := by rw [List.map_set]
      rw [e1] at H1
      exact H1.up1.perm (((rows_set hiG (v', turned R[i])).append_right l).cons _)
  · have hkk : i = R.length := by omega
    subst hkk
    rw [List.take_length, List.drop_length, List.append_nil] at hG
    exact LoopK_x (BlkK_e (hQ _ _ G e0 e5 e6 e7 e8 hG H))
set_option maxHeartbeats 4000000 in
theorem loop4e {X : Ctx} (hX : X.fns = fnsOf Try.prog) (ho : ∀ f args, f ≠ 15 ∧ f ≠ 38 → X.orc f args = none) {fr : Fr} {s0 s : Mm} {l : List HP} {av bv cv v0 v5 : Value} {GA GB GC : Gs} {R : List (List SpI)} {Q : AExit → Fr → Mm → Prop}
    (hR : R.length ≤ 5864062014634) (hr : ∀ r ∈ R, r.length ≤ 5864062014634) (hne : ∀ r ∈ R, r ≠ []) (hA : GA.map (·.2) = R.map turned) (hB : GB.map (·.2) = R) (hC : GC.map (·.2) = R)
    (hav : HP.own 1 av R.length (GA.map (·.1)) ∈ l) (har : ∀ P ∈ rowsHP GA, P ∈ l)
    (hbv : HP.own 1 bv R.length (GB.map (·.1)) ∈ l) (hbr : ∀ P ∈ rowsHP GB, P ∈ l)
    (hcv : HP.own 1 cv R.length (GC.map (·.1)) ∈ l) (hcr : ∀ P ∈ rowsHP GC, P ∈ l)
    (e0 : geT fr 0 = v0) (e5 : geT fr 5 = v5) (e6 : geT fr 6 = av) (e7 : geT fr 7 = bv) (e8 : geT fr 8 = cv) (e12 : geT fr 12 = .int .i64 0)
    (H : Hold s0 s l)
    (hQ : ∀ fr, geT fr 0 = v0 → geT fr 5 = v5 → Q .normal fr s) :
    W X (.block 6 (.loop b4_24)) fr s Q := by
  refine qat (W_loop (fun m fr s1 => ∃ (i : Nat), i + m = R.length ∧ s = s1 ∧
    geT fr 0 = v0 ∧ geT fr 5 = v5 ∧ geT fr 6 = av ∧ geT fr 7 = bv ∧ geT fr 8 = cv ∧ geT fr 12 = .int .i64 (i : Nat)) R.length ⟨0, by omega, rfl, e0, e5, e6, e7, e8, e12⟩ ?_)
  clear e0 e5 e6 e7 e8 e12 fr
  rintro m fr _ ⟨i, hi, rfl, e0, e5, e6, e7, e8, e12⟩
  have sa := (H.own hav).slc
  have sb := (H.own hbv).slc
  have sc := (H.own hcv).slc
  refine qau ?_
  refine qak (qan [0, 5, 6, 7, 8, 12, 85] ?_)
  simp only [o4_25, qao, WO_bu, qah, bin_lss, qaj, qag, qad, qaf, qab, qaa, qac, List.map_cons, List.map_nil, Nat.reduceEqDiff, ↓reduceIte, eq_self, e0, e5, e6, e7, e8, e12, sb.len]
  clear e0 e5 e6 e7 e8 e12
  intro fr e0 e5 e6 e7 e8 e12 e85
  refine qai ?_
  refine W_while e85 (fun hlt => ?_) (fun hlt => ?_)
  · have hi1 : i < R.length := by omega
    obtain ⟨ga, hga, ha2⟩ := snd_at hA (i := i) (by simpa using hi1)
    obtain ⟨gb, hgb, hb2⟩ := snd_at hB hi1
    obtain ⟨gc, hgc, hc2⟩ := snd_at hC hi1
    have ra := own_row H har hga
    have rb := own_row H hbr hgb
    have rc := own_row H hcr hgc
    rw [List.getElem_map] at ha2
    rw [ha2, turned_len] at ra
    rw [hb2] at rb
    rw [hc2] at rc
    have hri := hr R[i] (List.getElem_mem hi1)
    have hni := hne R[i] (List.getElem_mem hi1)
    have A1 := sa.addr (kk := .i64) (i := ((i : Nat) : Int)) rfl hi1
    have A2 := sb.addr (kk := .i64) (i := ((i : Nat) : Int)) rfl hi1
    have A3 := sc.addr (kk := .i64) (i := ((i : Nat) : Int)) rfl hi1
    rw [Nat.mul_one] at A1 A2 A3
    have L1 : loadV s none (elP av i) = some ga.1 := sa.load (by rw [List.getElem?_map, hga]; rfl)
    have L2 : loadV s none (elP bv i) = some gb.1 := sb.load (by rw [List.getElem?_map, hgb]; rfl)
    have L3 : loadV s none (elP cv i) = some gc.1 := sc.load (by rw [List.getElem?_map, hgc]; rfl)
    have A4 := ra.addr (kk := .i64) (i := 0) (k := 0) rfl (by omega)
    rw [Nat.zero_mul] at A4
    have p1 := ra.fld (by omega) 0 1
    rw [Nat.zero_add] at p1
    have L4 : loadV s none (elP ga.1 1) = some (.int .i64 (-9)) := ra.load (by
      obtain ⟨x, r, hx⟩ := List.exists_cons_of_ne_nil hni
      rw [hx]
      rfl)
    have hl5 : decide (((R[i].length + 5 : Nat) : Int) = ((R[i].length : Nat) : Int) + 5) = true := decide_eq_true (by omega)
    refine qak (qat ?_)
    refine qak (qbb [0, 5, 6, 7, 8, 12, 121] rfl ?_)
    simp only [d4_26, qay, WD_load, qba, qam, qas, qaw, qar, qap, qad, qaf, List.map_cons, List.map_nil, Nat.reduceEqDiff, Nat.reduceAdd, ↓reduceIte, eq_self, true_and, Nat.zero_add, e7, e8, e12, WD_callN, A2, L2, A3, L3]
    refine DCallK_of rfl (run13i hX ho rb rc (by omega)) ?_
    rintro _ _ ⟨rfl, rfl⟩
    simp only [qay, WD_bin, WD_bu, WD_fieldAddr, WD_load, qba, WD_pick, pick_b, WD_un, un_not, qax, bin_neq, want_v, wantB_f, WD_nil, qam, qas, pastR_cons, qar, qaq, qap, Nat.testBit, Nat.reduceShiftRight, Nat.reduceAnd, Nat.reduceBneDiff, List.all_nil, List.all_cons, List.filter_nil, List.filter_cons, qad, qaf, qae, qab, qaa, qac, List.map_cons, List.map_nil, Nat.reduceEqDiff, Nat.reduceAdd, ↓reduceIte, Bool.not_true, Bool.not_false, decide_true, Bool.and_true, Bool.true_or, eq_self, Bool.false_eq_true, true_and, e0, e5, e6, e7, e8, e12, WD_yes, A1, L1, A3, L3, A4, p1, L4, ra.len, rc.len, qal (n := ((R[i].length : Nat) : Int) + 5) (by omega) (by omega), hl5]
    clear e0 e5 e6 e7 e8 e12 e85
    intro fr e0 e5 e6 e7 e8 e12 e121
    refine qai ?_
    refine W_cond e121 (fun h => by cases h) (fun _ => W_skip (BlkK_n (qai ?_)))
    refine qan [0, 5, 6, 7, 8, 12] ?_
    simp only [o4_28, qao, qah, qax, qaj, qag, qad, qaf, qae, qab, qaa, qac, Nat.reduceEqDiff, ↓reduceIte, eq_self, e0, e5, e6, e7, e8, e12, qal (n := (i : Int) + 1) (by omega) (by omega)]
    clear e0 e5 e6 e7 e8 e12
    intro fr e0 e5 e6 e7 e8 e12
    exact LoopK_n (m' := m - 1) (by omega) ⟨i + 1, by omega, rfl, e0, e5, e6, e7, e8, by rw [e12]; rfl⟩
  · exact LoopK_x (BlkK_e (hQ _ e0 e5))
end Go.Proofs.Ytpphomoijlilfaa.G

/- Peaks: the law of groups, walked whole. -/
namespace Go.Proofs.Ytpphomoijlilfaa.G
open Go Go.Vam Go.Hang
theorem groups_len {B : Int} {L : List SpI} {R : List (List SpI)} (hP : Parts (ddP B L []) (adj B) ltI R) (hL : L.length ≤ 5864062014634) : (∀ r ∈ R, r.length ≤ 5864062014634) ∧ ∀ r ∈ R, r ≠ [] := by
  refine ⟨fun r hr => ?_, hP.some⟩
  have h1 : r.Nodup := (hP.sort r hr).imp fun h e => by subst e; exact ltI_irr _ h
  refine Nat.le_trans (len_le_of_sub r L h1 fun x hx => ?_) hL
  have h2 := ((hP.whole r hr x hx x).1 hx).1
  have h3 := ((dd_first x).1 h2).mem
  exact (List.mem_filter.1 h3).1
theorem perm_turn {α : Type} {a b c : α} {A B C : List α} {l : List α} : (c :: (C ++ b :: (B ++ a :: (A ++ l)))).Perm (a :: (A ++ (b :: (B ++ (c :: (C ++ l)))))) := by
  have h : ∀ {x : α} {X Y : List α}, (x :: (X ++ Y)) = (x :: X) ++ Y := fun {x X Y} => rfl
  rw [h (x := c), h (x := b), h (x := a), h (x := a), h (x := b), h (x := c)]
  generalize c :: C = c
  generalize b :: B = b
  generalize a :: A = a
  rw [← List.append_assoc, ← List.append_assoc, ← List.append_assoc, ← List.append_assoc]
  refine List.Perm.append_right l ?_
  rw [List.append_assoc]
  refine List.perm_append_comm.trans ?_
  rw [List.append_assoc, List.append_assoc]
  have h1 : (b ++ (a ++ c)).Perm ((a ++ c) ++ b) := List.perm_append_comm
  refine h1.trans ?_
  rw [List.append_assoc]
  exact List.Perm.append_left a List.perm_append_comm
set_option maxHeartbeats 4000000 in
theorem run4 {X : Ctx} (hX : X.fns = fnsOf Try.prog) (ho : ∀ f args, f ≠ 15 ∧ f ≠ 38 → X.orc f args = none) (hw : X.orc 15 [] = some (.bool true)) (hA38 : ∀ x y : SpI, X.orc 38 [sI x, sI y] = some (.int .i64 (ahZ x y))) {s : Mm} {v : Value} {L : List SpI} {B : Int} (a : SlC s 3 v L.length (L.flatMap eI)) (hL : L.length ≤ 5864062014634) (hB : B ≤ 9223372036854775807) (hwI : ∀ x ∈ L, wI x) :
    CallP X 4 [v, .int .i64 B] s (fun r _ => r = .bool true) := by
  refine CallP_of (hX ▸ ir4_eq) (ho _ _ (by decide)) (Nat.le_of_ble_eq_true rfl) ?_
  refine qak (qan [0, 1] ?_)
  simp only [o4_0, qah, qaj, qad, frame_nil, qbc, qae, qab, qaa, qac, Nat.reduceEqDiff, Nat.reduceAdd, ↓reduceIte, eq_self, Nat.zero_add]
  intro fr e0 e1
  refine qai ?_
  refine qak (qan [0, 1, 5] ?_)
  simp only [o4_1, WO_call, qah, qad, qaf, List.map_cons, List.map_nil, ↓reduceIte, eq_self, e0]
  refine CallK_of (run16 hX ho (Hold.refl s) a (by omega)) ?_
  rintro iv s1 H1
  simp only [qah, qaj, qad, qaf, qab, qaa, qac, Nat.reduceEqDiff, ↓reduceIte, eq_self, e0, e1]
  clear e0 e1
  intro fr e0 e1 e5
  refine qai ?_
  have Le := H1.lent (List.mem_cons_self ..)
  refine qak (qan [0, 1, 5, 6] ?_)
  simp only [o4_2, WO_call, qah, qad, qaf, List.map_cons, List.map_nil, Nat.reduceEqDiff, ↓reduceIte, eq_self, e1, e5]
  refine CallK_of (run17 hX ho hA38 H1 (Le.slc (eI_len _)) hL hB hwI) ?_
  rintro av s2 ⟨GA, hPA, -, H2⟩
  simp only [qah, qaj, qad, qaf, qab, qaa, qac, Nat.reduceEqDiff, ↓reduceIte, eq_self, e0, e1, e5]
  clear e0 e1 e5
  intro fr e0 e1 e5 e6
  refine qai ?_
  have Le2 := H2.lent (sz := 3) (c := iv) (n := L.length) (cs := L.flatMap eI) (mark := mk77) (by simp)
  refine qak (qan [0, 1, 5, 6, 7] ?_)
  simp only [o4_3, WO_call, qah, qad, qaf, List.map_cons, List.map_nil, Nat.reduceEqDiff, ↓reduceIte, eq_self, e1, e5]
  refine CallK_of (run17 hX ho hA38 H2 (Le2.slc (eI_len _)) hL hB hwI) ?_
  rintro bv s3 ⟨GB, hPB, -, H3⟩
  simp only [qah, qaj, qad, qaf, qab, qaa, qac, Nat.reduceEqDiff, ↓reduceIte, eq_self, e0, e1, e5, e6]
  clear e0 e1 e5 e6
  intro fr e0 e1 e5 e6 e7
  refine qai ?_
  refine qak (qan [0, 5, 6, 7, 8] ?_)
  simp only [o4_4, WO_call, qah, qad, qaf, List.map_cons, List.map_nil, Nat.reduceEqDiff, ↓reduceIte, eq_self, e0, e1]
  refine CallK_of (run18 hX ho H3 (a.same H3.same (fun _ _ h => h)) hL hB hwI) ?_
  rintro cv s4 ⟨GC, hPC, hCl, H4⟩
  simp only [qah, qaj, qad, qaf, qab, qaa, qac, Nat.reduceEqDiff, ↓reduceIte, eq_self, e0, e5, e6, e7]
  clear e0 e1 e5 e6 e7
  intro fr e0 e5 e6 e7 e8
  refine qai ?_
  obtain ⟨R, hR⟩ : ∃ R, R = GC.map (·.2) := ⟨_, rfl⟩
  rw [← hR] at hPC
  have hA : GA.map (·.2) = R := hPA.same ltI_irr ltI_tr (fun _ => Iff.rfl) hPC
  have hB2 : GB.map (·.2) = R := hPB.same ltI_irr ltI_tr (fun _ => Iff.rfl) hPC
  obtain ⟨hlen, hne⟩ := groups_len hPC hL
  have hRl : R.length ≤ 5864062014634 := by rw [hR, List.length_map]; exact hCl
  have lC : GC.length = R.length := by rw [hR, List.length_map]
  have lA : GA.length = R.length := by rw [← hA, List.length_map]
  have lB : GB.length = R.length := by rw [← hB2, List.length_map]
  rw [lC, lB, lA] at H4
  have H5 := H4.perm perm_turn
  clear hPA hPB hPC H1 H2 H3 H4 Le Le2
  have sa := (H5.own (sz := 1) (v := av) (n := R.length) (cs := GA.map (·.1)) (by simp)).slc
  have sb := (H5.own (sz := 1) (v := bv) (n := R.length) (cs := GB.map (·.1)) (by simp)).slc
  have sc := (H5.own (sz := 1) (v := cv) (n := R.length) (cs := GC.map (·.1)) (by simp)).slc
  refine qau ?_
  refine qak (qan [0, 5, 6, 7, 8, 35] ?_)
  simp only [o4_5, qao, WO_bu, qah, WO_pick, pick_b, bin_neq, qaj, qag, WO_guard, want_v, wantB_f, qad, qaf, qae, qab, qaa, qac, List.map_cons, List.map_nil, Nat.reduceEqDiff, ↓reduceIte, Bool.not_true, Bool.not_false, decide_true, eq_self, Bool.false_eq_true, e0, e5, e6, e7, e8, sa.len, sb.len, sc.len]
  clear e0 e5 e6 e7 e8
  intro fr e0 e5 e6 e7 e8 e35
  refine qai ?_
  refine qak (W_cond e35 (fun h => by cases h) (fun _ => W_skip (qai ?_)))
  clear sa sb sc
  refine qau ?_
  refine qak (qan [0, 5, 6, 7, 8, 9] ?_)
  simp only [o4_7, qah, qaj, qad, qae, qab, qaa, qac, Nat.reduceEqDiff, ↓reduceIte, eq_self, e0, e5, e6, e7, e8]
  clear e0 e5 e6 e7 e8 e35
  intro fr e0 e5 e6 e7 e8 e9
  refine qai ?_
  refine qak (loop4a hX ho hRl hlen hA hR.symm (by simp) (fun P hP => by simp [hP]) e0 e5 e6 e7 e8 e9 H5 ?_)
  clear e0 e5 e6 e7 e8 e9 fr H5 s4
  intro fr s4 G e0 e5 e6 e7 e8 hG H5
  refine qai ?_
  refine qau ?_
  refine qak (qan [0, 5, 6, 7, 8, 12] ?_)
  simp only [o4_23, qah, qaj, qad, qae, qab, qaa, qac, Nat.reduceEqDiff, ↓reduceIte, eq_self, e0, e5, e6, e7, e8]
  clear e0 e5 e6 e7 e8
  intro fr e0 e5 e6 e7 e8 e12
  refine qai ?_
  refine qak (loop4e hX ho hRl hlen hne hG hB2 hR.symm (by simp) (fun P hP => by simp [hP]) (by simp) (fun P hP => by simp [hP]) (by simp) (fun P hP => by simp [hP]) e0 e5 e6 e7 e8 e12 H5 ?_)
  clear e0 e5 e6 e7 e8 e12 fr
  intro fr e0 e5
  refine qai ?_
  have Le := H5.lent (sz := 3) (c := iv) (n := L.length) (cs := L.flatMap eI) (mark := mk77) (by simp)
  refine qak (qan [4] ?_)
  simp only [o4_29, WO_call, qah, qad, qaf, List.map_cons, List.map_nil, Nat.reduceEqDiff, ↓reduceIte, eq_self, e0, e5]
  refine CallK_of (run19 hX ho Le (a.same H5.same (fun _ _ h => h)) (by omega)) ?_
  rintro _ _ ⟨rfl, rfl⟩
  simp only [WO_call, qah, WO_guard, want_v, wantB_t, qad, qaf, List.map_nil, ↓reduceIte, eq_self]
  refine CallK_eq (Call_orc hw) ?_
  simp only [qah, WO_pick, pick_b, qaj, qag, qad, qaf, qae, qab, qaa, qac, Nat.reduceEqDiff, ↓reduceIte, eq_self]
  clear e0 e5
  intro fr e4
  refine qai ?_
  exact W_ret (Ret1 e4 rfl)
end Go.Proofs.Ytpphomoijlilfaa.G

/- Peaks: the law of groups: what is known of calls, and its arguments. -/
namespace Go.Proofs.Ytpphomoijlilfaa.G
open Go Go.Vam Go.Hang
theorem run38 {s : Mm} {x y : SpI} : CallP ⟨fun _ _ => none, fnsOf Try.prog⟩ 38 [sI x, sI y] s (fun r _ => r = .int .i64 (ahZ x y)) := by
  have hbx : ∀ x : SpI, (sI x).cells.toList = eI x := fun _ => rfl
  refine CallP_of (X := ⟨fun _ _ => none, fnsOf Try.prog⟩) ir38_eq rfl (Nat.le_of_ble_eq_true rfl) ?_
  refine qak (qan [2, 3] ?_)
  simp only [o38_0, WO_box, nxt_new, qah, qaj, qad, frame_nil, qbc, qaf, qae, qab, qaa, qac, Nat.reduceEqDiff, Nat.reduceAdd, ↓reduceIte, eq_self, Nat.zero_add, hbx]
  intro fr e2 e3
  refine qai ?_
  have H := ((Hold.refl s).new (eI x)).new (eI y)
  have hx : (newAt s (.cells (eI x) false)).nxt = s.nxt + 1 := rfl
  rw [hx] at H
  generalize newAt (newAt s (.cells (eI x) false)) (.cells (eI y) false) = s1 at H ⊢
  have x0 : loadV s1 none (.pointer (some ⟨s.nxt, 0, none⟩)) = some (.int .i64 x.1) := load_g (o := 0) (H.cell (cs := eI x) (by simp))
  have x1 : loadV s1 none (.pointer (some ⟨s.nxt, 1, none⟩)) = some (.int .i64 x.2.1) := load_g (o := 1) (H.cell (cs := eI x) (by simp))
  have y0 : loadV s1 none (.pointer (some ⟨s.nxt + 1, 0, none⟩)) = some (.int .i64 y.1) := load_g (o := 0) (H.cell (cs := eI y) (by simp))
  have y1 : loadV s1 none (.pointer (some ⟨s.nxt + 1, 1, none⟩)) = some (.int .i64 y.2.1) := load_g (o := 1) (H.cell (cs := eI y) (by simp))
  refine qau ?_
  cases h1 : decide (x.1 = y.1) with
  | true =>
    refine qak (qan [2, 3, 9] ?_)
    simp only [o38_1, qao, WO_fieldAddr, fieldAddr_p, WO_load, bin_neq, qaj, qag, qad, qaf, qab, qaa, qac, Nat.reduceEqDiff, ↓reduceIte, Bool.not_true, eq_self, Nat.add_zero, e2, e3, x0, y0, h1]
    clear e2 e3
    intro fr e2 e3 e9
    refine qai ?_
    refine qak (W_cond e9 (fun h => by cases h) (fun _ => W_skip (qai ?_)))
    refine qak (qan [4] ?_)
    simp only [o38_3, qao, WO_fieldAddr, fieldAddr_p, WO_load, qah, qbd, qaj, qag, qad, qaf, qab, qaa, qac, Nat.reduceEqDiff, ↓reduceIte, eq_self, Nat.zero_add, e2, e3, x1, y1]
    clear e2 e3 e9
    intro fr e4
    refine qai ?_
    refine W_ret (Ret1 e4 ?_)
    rw [ahZ, if_pos (of_decide_eq_true h1)]
  | false =>
    refine qak (qan [2, 3, 9] ?_)
    simp only [o38_1, qao, WO_fieldAddr, fieldAddr_p, WO_load, bin_neq, qaj, qag, qad, qaf, qab, qaa, qac, Nat.reduceEqDiff, ↓reduceIte, Bool.not_false, eq_self, Nat.add_zero, e2, e3, x0, y0, h1]
    clear e2 e3
    intro fr e2 e3 e9
    refine qai ?_
    refine qak (W_cond e9 (fun _ => ?_) (fun h => by cases h))
    refine qak (qan [4] ?_)
    simp only [o38_2, qao, WO_fieldAddr, fieldAddr_p, WO_load, qah, qbd, qaj, qag, qad, qaf, qab, qaa, qac, Nat.reduceEqDiff, ↓reduceIte, eq_self, Nat.add_zero, e2, e3, x0, y0]
    clear e2 e3 e9
    intro fr e4
    refine qai ?_
    refine W_ret (SeqK_r (Ret1 e4 ?_))
    rw [ahZ, if_neg (of_decide_eq_false h1)]
def spotOf : Value → Option SpI
  | .agg cs => match cs.toList with
    | [.int .i64 a, .int .i64 b, .float .f64 p] => some (a, b, p)
    | _ => none
  | _ => none
theorem spotOf_sI (x : SpI) : spotOf (sI x) = some x := rfl
theorem spotOf_eq {v : Value} {x : SpI} (h : spotOf v = some x) : v = sI x := by
  unfold spotOf at h
  split at h
  · rename_i cs
    split at h
    · rename_i a b p e
      cases h
      obtain ⟨l⟩ := cs
      simp only at e
      subst e
      rfl
    · cases h
  · cases h
def orcA (f : FuncId) (args : List Value) : Option Value :=
  if f = 38 then (match args with
    | [v, w] => (match spotOf v, spotOf w with
      | some x, some y => some (.int .i64 (ahZ x y))
      | _, _ => none)
    | _ => none)
  else orcW 15 f args
theorem orcA_38 (x y : SpI) : orcA 38 [sI x, sI y] = some (.int .i64 (ahZ x y)) := by
  unfold orcA
  rw [if_pos rfl]
  simp only [spotOf_sI]
theorem orcA_15 : orcA 15 [] = some (.bool true) := by
  unfold orcA
  rw [if_neg (by decide)]
  exact orcW_self 15
theorem orcA_other {f : FuncId} (args : List Value) (h : f ≠ 15 ∧ f ≠ 38) : orcA f args = none := by
  unfold orcA
  rw [if_neg h.2]
  exact orcW_other h.1 args
theorem sI_VR {ρ ρ' : Rho} {x : SpI} {v : Value} (h : VR ρ (sI x) v) : VR ρ' (sI x) v := by
  unfold sI at h ⊢
  cases h with
  | agg hl h =>
    refine .agg hl fun i u u' hu hu' => ?_
    have h1 := h i u u' hu hu'
    match i, hu with
    | 0, hu => cases hu; cases h1; exact .int _ _
    | 1, hu => cases hu; cases h1; exact .int _ _
    | 2, hu => cases hu; cases h1; exact .float (by assumption)
theorem sI_VL {ρ ρ' : Rho} {x y : SpI} {vs : List Value} (h : VL ρ [sI x, sI y] vs) : VL ρ' [sI x, sI y] vs :=
  ⟨h.1, fun i v v' hv hv' => by
    have h1 := h.2 i v v' hv hv'
    match i, hv with
    | 0, hv => cases hv; exact sI_VR h1
    | 1, hv => cases hv; exact sI_VR h1⟩
theorem rep_no (w : World) : Rep (fun _ => none) noBlk w :=
  ⟨fun _ _ hB => (nomatch hB), fun _ _ _ _ hB => absurd hB (by rintro ⟨k, hk, _⟩; cases hk), fun _ _ => rfl, fun _ _ hB => (nomatch hB)⟩
theorem orcA_ok (hw : endsTrue (evCall (Trie Value) (fnsOf Try.prog) 100000 15 [] none0) = true) : OrcOk Try.prog orcA := by
  intro g args v hv
  by_cases hg : g = 38
  · subst hg
    unfold orcA at hv
    rw [if_pos rfl] at hv
    split at hv
    · rename_i a b
      split at hv
      · rename_i x y hx hy
        have ex := spotOf_eq hx
        have ey := spotOf_eq hy
        subst ex ey
        cases hv
        refine ⟨?_, fun ρ args' w hargs => ?_⟩
        · obtain ⟨fn, h1, h2, h3⟩ := fnsOf_ok Try.prog 38 ir38 ir38_eq
          refine ⟨fn, h1, ?_, h3⟩
          unfold compFn at h2
          split at h2
          · rename_i hb; rw [hb]; rfl
          · cases h2
        · obtain ⟨v, s', ⟨n, hev⟩, rfl⟩ := run38 (s := noBlk) (x := x) (y := y)
          obtain ⟨_, hc⟩ := evX_sound ext mixed (fnsOf_ok Try.prog) (orc := fun _ _ => none) (fun _ _ _ h => by cases h) n 38 [sI x, sI y] noBlk _ s' hev (fun _ => none) w args' (sI_VL hargs) (rep_no w)
          refine hc.mono fun e w' he => ?_
          obtain ⟨ρ', v', rfl, h1, _, h3⟩ := he
          cases h1
          exact ⟨_, rfl, .int _ _, h3.below fun _ => (by rintro ⟨k, hk, _⟩; cases hk)⟩
      · cases hv
    · cases hv
  · unfold orcA at hv
    rw [if_neg hg] at hv
    exact orcW_ok ext mixed 100000 15 hw g args v hv
theorem wf64 {n : Int} (h : (Lit.int .i64 n).wf = true) : -9223372036854775808 ≤ n ∧ n ≤ 9223372036854775807 := by
  simp only [Lit.wf, Bool.and_eq_true, decide_eq_true_eq] at h
  exact h
set_option maxRecDepth 100000 in
theorem spot_openW {T : Type} {s : Mm} {l : List Value} {d : DataW T} (h : Abs Try.prog s 29 l d) : ∃ x : SpI, l = eI x ∧ wI x := by
  obtain ⟨ds, _, h1, h2, h3⟩ := Abs.st Try.underlying29 h
  rw [c29] at h1
  obtain ⟨a, b, c, rfl⟩ := three h1
  obtain ⟨d0, d1, d2, rfl⟩ := three h2
  have g0 := h3 0 _ d0 rfl rfl
  have g1 := h3 1 _ d1 rfl rfl
  have g2 := h3 2 _ d2 rfl rfl
  simp only [c3, c24] at g0 g1 g2
  obtain ⟨n0, k0, _, w0⟩ := Abs.i Try.underlying3 g0
  obtain ⟨n1, k1, _, w1⟩ := Abs.i Try.underlying3 g1
  obtain ⟨n2, k2, _, k3⟩ := Abs.f Try.underlying24 g2
  simp only [List.drop_zero, List.drop_succ_cons, List.take_succ_cons, List.take_zero, List.cons.injEq, and_true] at k0 k1 k2
  subst k0 k1 k2
  exact ⟨(n0, n1, n2), rfl, wf64 w0, wf64 w1⟩
set_option maxRecDepth 100000 in
theorem spots_openW {T : Type} {s : Mm} (hs : Lt s) {v : Value} {d : DataW T} (h : AbsV Try.prog s 25 v d) {W : Nat} (hw : ∀ n ∈ d.weights Try.prog 25, n ≤ W) : ∃ L : List SpI, SlC s 3 v L.length (L.flatMap eI) ∧ L.length * 24 ≤ W ∧ ∀ x ∈ L, wI x := by
  unfold AbsV at h
  have b29 : Try.prog.bytesOf 29 = 24 := by decide +kernel
  rw [Try.underlying25] at h
  obtain ⟨w, ls, ds, h1, h2, h3, h4, h5⟩ := Abs.slW hs Try.underlying25 c29 (by decide) h
  cases h1
  obtain ⟨xs, h6, h7⟩ := lists_of (g := eI) (p := fun x : SpI => wI x) ls ds h3 (fun i l d hl hd => spot_openW (h5 i l d hl hd).2)
  subst h6
  rw [List.length_map] at h2 h3
  refine ⟨xs, h2, ?_, h7⟩
  rcases h4 with h4 | ⟨rest, h4⟩
  · subst h4; simp only [List.length_nil] at h3; omega
  · subst h4; rw [← h3, ← b29]; exact wt_len Try.underlying25 hw
set_option maxRecDepth 100000 in
theorem runPeaksGroups {T : Type} {s : Mm} {avs : List Value} {ds : List (DataW T)} (hs : Lt s) (h : AbsL Try.prog s [25, 3] avs ds) (hk : (DataW.weightsEach Try.prog [25, 3] ds).all (· ≤ reachBytes) = true) : CallP ⟨orcA, fnsOf Try.prog⟩ 4 avs s (fun v _ => v = .bool true) := by
  obtain ⟨v0, vs, d0, ds, rfl, rfl, h0, h⟩ := AbsL.cons h
  obtain ⟨v1, vs, d1, ds, rfl, rfl, h1, h⟩ := AbsL.cons h
  obtain ⟨rfl, rfl⟩ := AbsL.nil h
  have hw : ∀ n ∈ d0.weights Try.prog 25, n ≤ 140737488351232 := fun n hn => of_decide_eq_true (List.all_eq_true.1 hk n (DataW.weights_mem_each (j := 0) rfl rfl n hn))
  obtain ⟨L, g1, g2, g3⟩ := spots_openW hs h0 hw
  have h1' : ∃ n, v1 = .int .i64 n ∧ n ≤ 9223372036854775807 := by
    unfold AbsV at h1
    rw [Try.underlying3] at h1
    obtain ⟨n, k, _, hw⟩ := Abs.i Try.underlying3 h1
    cases k
    exact ⟨n, rfl, (wf64 hw).2⟩
  obtain ⟨n, rfl, hn⟩ := h1'
  exact run4 (X := ⟨orcA, fnsOf Try.prog⟩) rfl (fun f args hf => orcA_other args hf) orcA_15 orcA_38 g1 (by omega) hn g3
end Go.Proofs.Ytpphomoijlilfaa.G
