/-
  load: Stow: a way that is whole.
-/
import Derived.Test.YtagcnokaajinlaaDoorStowB
namespace Go.Proofs.YtagcnokaajinlaaDoor
set_option linter.all false
set_option linter.unusedVariables false
set_option linter.unusedSimpArgs false
open Go.RowKit
/-- What Stow's search reads, and does not write. -/
structure SCx (w : World) (M : List Nat) (bP bN bV bC bR bB : Nat) (Ap Av Ac Ar : Option Addr) (np cp nc cc cv cr : Nat) (fv : Value) (wv cans r0 r1 : Nat → Int) (b : Int) : Prop where
  oP : OldB w bP [.slice Ap np cp]
  oN : OldB w bN [fv]
  oV : OldB w bV [.slice Av np cv]
  oC : OldB w bC [.slice Ac nc cc]
  oR : OldB w bR [.slice Ar np cr]
  oB : OldB w bB [.int .i64 b]
  nP : bP ∉ M
  nN : bN ∉ M
  nV : bV ∉ M
  nC : bC ∉ M
  nR : bR ∉ M
  nB : bB ∉ M
  rV : RdR w 1 Av np (fun k => [.int .i64 (wv k)])
  rC : RdR w 1 Ac nc (fun k => [.int .i64 (cans k)])
  rR : RdR w 2 Ar np (fun q => spL (r0 q) (r1 q))
  aV : 0 < np → Apart M Av
  aC : 0 < nc → Apart M Ac
  aR : 0 < np → Apart M Ar
  hr : RestOk r0 r1 np
  hnp : np ≤ 7
  hnc : nc ≤ 2
  hb : 0 ≤ b ∧ b ≤ 1000000000
  hw : ∀ k, k < np → 0 ≤ wv k ∧ wv k ≤ 1000000000000
theorem notin_sat {M M' : List Nat} {w w' : World} {K : List Fact} {q : Nat} (hs : Sat M w K w') (hM : ∀ b ∈ M', b ∈ feet K) (hq : q ∉ M) (hlt : q < w.heap.size) : q ∉ M' := fun hm => by
  rcases hs.ge q (hM q hm) with h | h
  · exact hq h
  · omega
theorem apart_sat {M M' : List Nat} {w w' : World} {K : List Fact} {sz n : Nat} {A : Option Addr} {r : Nat → List Value} (hs : Sat M w K w') (hM : ∀ b ∈ M', b ∈ feet K) (hR : RdR w sz A n r) (hA : 0 < n → Apart M A) : 0 < n → Apart M' A := fun hn q hq => by
  obtain ⟨b, o, e, hlt, _⟩ := hR.rd hn
  rw [e] at hq
  cases hq
  exact notin_sat hs hM (hA hn b (by rw [e]; rfl)) hlt
section
variable {w w' : World} {M M' : List Nat} {bP bN bV bC bR bB : Nat} {Ap Av Ac Ar : Option Addr} {np cp nc cc cv cr : Nat} {fv : Value} {wv cans r0 r1 : Nat → Int} {b : Int} {K : List Fact}
theorem SCx.sat (h : SCx w M bP bN bV bC bR bB Ap Av Ac Ar np cp nc cc cv cr fv wv cans r0 r1 b) (hs : Sat M w K w') (hM : ∀ b ∈ M', b ∈ feet K) : SCx w' M' bP bN bV bC bR bB Ap Av Ac Ar np cp nc cc cv cr fv wv cans r0 r1 b :=
  ⟨h.oP.sat hs h.nP, h.oN.sat hs h.nN, h.oV.sat hs h.nV, h.oC.sat hs h.nC, h.oR.sat hs h.nR, h.oB.sat hs h.nB,
    notin_sat hs hM h.nP h.oP.1, notin_sat hs hM h.nN h.oN.1, notin_sat hs hM h.nV h.oV.1, notin_sat hs hM h.nC h.oC.1, notin_sat hs hM h.nR h.oR.1, notin_sat hs hM h.nB h.oB.1,
    h.rV.sat0 hs h.aV, h.rC.sat0 hs h.aC, h.rR.sat0 hs h.aR, apart_sat hs hM h.rV h.aV, apart_sat hs hM h.rC h.aC, apart_sat hs hM h.rR h.aR, h.hr, h.hnp, h.hnc, h.hb, h.hw⟩
end
theorem wsum_bd {P : Nat} {wv : Nat → Int} : ∀ {i w : Nat}, (∀ k, k < i → 0 ≤ wv k ∧ wv k ≤ 1000000000000) → 0 ≤ wsum P wv i w ∧ wsum P wv i w ≤ i * 1000000000000
  | 0, _, _ => by simp [wsum]
  | i + 1, w, h => by
    have h1 := wsum_bd (P := P) (i := i) (w := w / P) fun k hk => h k (by omega)
    have h2 := h i (by omega)
    simp only [wsum]
    have e : ((i + 1 : Nat) : Int) * 1000000000000 = i * 1000000000000 + 1000000000000 := by omega
    split <;> omega
theorem leaf_small {P np nc way : Nat} {r0 r1 cans wv : Nat → Int} {b : Int} {st : St} (h : wsum P wv np way ≤ st.worth) : leafS P np nc r0 r1 cans wv b way st = st := if_pos h
theorem leaf_bad {P np nc way k : Nat} {r0 r1 cans wv : Nat → Int} {b : Int} {st : St} (hk : k < nc) (h : okT P np r0 r1 cans b way k = false) : leafS P np nc r0 r1 cans wv b way st = st := by
  unfold leafS
  split
  · rfl
  · rw [if_neg]
    intro h2
    have := allB_iff.1 h2 k hk
    rw [h] at this
    cases this
theorem leaf_good {P np nc way : Nat} {r0 r1 cans wv : Nat → Int} {b : Int} {st : St} (h : st.worth < wsum P wv np way) (h2 : ∀ k, k < nc → okT P np r0 r1 cans b way k = true) : leafS P np nc r0 r1 cans wv b way st = ⟨wsum P wv np way, way, nc⟩ := by
  unfold leafS
  rw [if_neg (by omega), if_pos (allB_iff.2 h2)]
abbrev SX : Type := (Nat → Option Addr) × (Nat → Nat) × (Option Addr × Nat) × (Nat → Option Addr) × (Nat → Nat)
def tA (A : Nat → Option Addr) (k j : Nat) : Option Addr := if j = 2 then none else A (2 * k + j)
def tC (c : Nat → Nat) (k j : Nat) : Nat := if j = 2 then 0 else c (2 * k + j)
theorem tie_rd {w : World} {A : Nat → Option Addr} {P np way k nc ns : Nat} (hA : ∀ i, i < ns → RdR w 1 (A i) (sln P np way i) (fun q => [.int .i64 (svl P np way i q)])) (hk : k < nc) (hns : ns = 2 * nc) : ∀ j, j < 3 → RdR w 1 (tA A k j) (tln P np way k j) (fun q => [.int .i64 (tvl P np way k j q)]) := fun j hj => by
  by_cases h : j = 2
  · subst h
    exact ⟨Rd.nil, fun i hi => by simp [tln] at hi⟩
  · have h1 := hA (2 * k + j) (by omega)
    simp only [tA, tln, tvl, if_neg h]
    exact h1
theorem tie_inx {P np way k : Nat} : ∀ j, j < 3 → Inx (tvl P np way k j) (tln P np way k j) np := fun j hj => by
  by_cases h : j = 2
  · subst h
    intro q hq
    simp [tln] at hq
  · simp only [tln, tvl, if_neg h]
    exact svl_inx P np way (2 * k + j)
theorem tln_le {P np way k j : Nat} (hnp : np ≤ 7) : tln P np way k j ≤ 7 := by
  unfold tln
  split
  · omega
  · have := sln_le P np way (2 * k + j); omega
theorem okT_no1 {P np way k : Nat} {r0 r1 cans : Nat → Int} {b : Int} (h : ¬ balV (wS r0 (svl P np way (2 * k)) (sln P np way (2 * k))) (wS r1 (svl P np way (2 * k)) (sln P np way (2 * k))) (wS r0 (svl P np way (2 * k + 1)) (sln P np way (2 * k + 1))) (wS r1 (svl P np way (2 * k + 1)) (sln P np way (2 * k + 1))) b = 2) : okT P np r0 r1 cans b way k = false := by
  unfold okT
  rw [decide_eq_false h]
  rfl
theorem okT_no2 {P np way k : Nat} {r0 r1 cans : Nat → Int} {b : Int} (h : ¬ wS r1 (catI (tln P np way k) (tvl P np way k)) (tot (tln P np way k) 3) ≤ cans k) : okT P np r0 r1 cans b way k = false := by
  unfold okT
  rw [decide_eq_false h, Bool.and_false]
theorem okT_yes {P np way k : Nat} {r0 r1 cans : Nat → Int} {b : Int} (h : balV (wS r0 (svl P np way (2 * k)) (sln P np way (2 * k))) (wS r1 (svl P np way (2 * k)) (sln P np way (2 * k))) (wS r0 (svl P np way (2 * k + 1)) (sln P np way (2 * k + 1))) (wS r1 (svl P np way (2 * k + 1)) (sln P np way (2 * k + 1))) b = 2) (h2 : wS r1 (catI (tln P np way k) (tvl P np way k)) (tot (tln P np way k) 3) ≤ cans k) : okT P np r0 r1 cans b way k = true := by
  unfold okT
  rw [decide_eq_true h, decide_eq_true h2]
  rfl
section
variable {w : World} {A : Nat → Option Addr} {c : Nat → Nat} {P np way k nc ns nr cr : Nat} {Ar : Option Addr} {r0 r1 : Nat → Int} {b : Int}
theorem tie_balance (hnp : np ≤ 7) (hA : ∀ i, i < ns → RdR w 1 (A i) (sln P np way i) (fun q => [.int .i64 (svl P np way i q)])) (hk : k < nc) (hns : ns = 2 * nc) (hr : RestOk r0 r1 np) (hb : 0 ≤ b ∧ b ≤ 1000000000) (hR : RdR w 2 Ar np (fun q => spL (r0 q) (r1 q))) :
    Calls Tryd.prog 48 #[.agg #[.slice (A (2 * k)) (sln P np way (2 * k)) (c (2 * k)), .slice (A (2 * k + 1)) (sln P np way (2 * k + 1)) (c (2 * k + 1)), .slice none 0 0, .slice Ar np cr], .int .i64 b] w
      (Ret w (.int .u8 (balV (wS r0 (svl P np way (2 * k)) (sln P np way (2 * k))) (wS r1 (svl P np way (2 * k)) (sln P np way (2 * k))) (wS r0 (svl P np way (2 * k + 1)) (sln P np way (2 * k + 1))) (wS r1 (svl P np way (2 * k + 1)) (sln P np way (2 * k + 1))) b))) := by
  have hI := tie_rd hA hk hns
  have h9 := balance_any (a := tA A k) (l := tln P np way k) (c := tC c k) (Ar := Ar) (cr := cr) (v := tvl P np way k) hr (b := b) (by omega) (fun j hj => by have := tln_le (P := P) (way := way) (k := k) (j := j) hnp; omega) (fun j hj => tie_inx j (by omega)) hR (fun j hj => hI j (by omega))
  simpa [tiedL, tA, tln, tC, tvl] using h9
theorem tie_all (hnp : np ≤ 7) (hA : ∀ i, i < ns → RdR w 1 (A i) (sln P np way i) (fun q => [.int .i64 (svl P np way i q)])) (hk : k < nc) (hns : ns = 2 * nc) :
    CallsK Tryd.prog 50 #[.agg #[.slice (A (2 * k)) (sln P np way (2 * k)) (c (2 * k)), .slice (A (2 * k + 1)) (sln P np way (2 * k + 1)) (c (2 * k + 1)), .slice none 0 0]] [] w (Option Addr × Nat) (fun x => .slice x.1 (tot (tln P np way k) 3) x.2) (fun x => [.own x.1 (tot (tln P np way k) 3) x.2 3 1 (fun q => [.int .i64 (catI (tln P np way k) (tvl P np way k) q)])]) := by
  have hI := tie_rd hA hk hns
  have t0 := tln_le (P := P) (way := way) (k := k) (j := 0) hnp
  have t1 := tln_le (P := P) (way := way) (k := k) (j := 1) hnp
  have t2 := tln_le (P := P) (way := way) (k := k) (j := 2) hnp
  have h9 := all_any (a := tA A k) (l := tln P np way k) (c := tC c k) (v := tvl P np way k) (by rw [tot3]; omega) hI
  rw [catN_catI] at h9
  have e : (tieL (tA A k) (tln P np way k) (tC c k)) = [.slice (A (2 * k)) (sln P np way (2 * k)) (c (2 * k)), .slice (A (2 * k + 1)) (sln P np way (2 * k + 1)) (c (2 * k + 1)), .slice none 0 0] := by simp [tieL, tA, tln, tC]
  rw [e] at h9
  exact h9
theorem tie_weight {Aq : Option Addr} {cq : Nat} (hnp : np ≤ 7) (hr : RestOk r0 r1 np) (hR : RdR w 2 Ar np (fun q => spL (r0 q) (r1 q))) (hQ : RdR w 1 Aq (tot (tln P np way k) 3) (fun q => [.int .i64 (catI (tln P np way k) (tvl P np way k) q)])) :
    Calls Tryd.prog 49 #[.agg #[.slice (A (2 * k)) (sln P np way (2 * k)) (c (2 * k)), .slice (A (2 * k + 1)) (sln P np way (2 * k + 1)) (c (2 * k + 1)), .slice none 0 0, .slice Ar np cr], .slice Aq (tot (tln P np way k) 3) cq] w
      (Ret w (.agg #[.int .i64 (wS r0 (catI (tln P np way k) (tvl P np way k)) (tot (tln P np way k) 3)), .int .i64 (wS r1 (catI (tln P np way k) (tvl P np way k)) (tot (tln P np way k) 3))])) := by
  have t0 := tln_le (P := P) (way := way) (k := k) (j := 0) hnp
  have t1 := tln_le (P := P) (way := way) (k := k) (j := 1) hnp
  have t2 := tln_le (P := P) (way := way) (k := k) (j := 2) hnp
  have h9 := weight_any (a := tA A k) (l := tln P np way k) (c := tC c k) (Ar := Ar) (cr := cr) (cp := cq) (v := catI (tln P np way k) (tvl P np way k)) hr (show tot (tln P np way k) 3 ≤ 1000 by rw [tot3]; omega) (inx_cat tie_inx) hR hQ
  have e : (tiedL (tA A k) (tln P np way k) (tC c k) Ar np cr) = [.slice (A (2 * k)) (sln P np way (2 * k)) (c (2 * k)), .slice (A (2 * k + 1)) (sln P np way (2 * k + 1)) (c (2 * k + 1)), .slice none 0 0, .slice Ar np cr] := by simp [tiedL, tA, tln, tC]
  rw [e] at h9
  exact h9
end
theorem tie_row {TB : Nat → Option Addr} {l Td : Nat → Nat} {A1 A2 : Option Addr} {d1 d2 k i : Nat} (hi : i < k + 1) :
    catR k (tieS TB l Td) (fun _ => [.slice A1 (l (2 * k)) d1, .slice A2 (l (2 * k + 1)) d2, .slice none 0 0]) i = tieS (updN (updN TB (2 * k) A1) (2 * k + 1) A2) l (updN (updN Td (2 * k) d1) (2 * k + 1) d2) i := by
  simp only [catR]
  by_cases h : i < k
  · have h1 : ¬ 2 * i = 2 * k + 1 := by omega
    have h2 : ¬ 2 * i = 2 * k := by omega
    have h3 : ¬ 2 * i + 1 = 2 * k + 1 := by omega
    have h4 : ¬ 2 * i + 1 = 2 * k := by omega
    rw [if_pos h]
    simp only [tieS, updN, if_neg h1, if_neg h2, if_neg h3, if_neg h4]
  · obtain rfl : i = k := by omega
    have h1 : ¬ 2 * i = 2 * i + 1 := by omega
    rw [if_neg h]
    simp only [tieS, updN, if_neg h1, if_true]
theorem ties_more {TB : Nat → Option Addr} {l Td : Nat → Nat} {v : Nat → Nat → Int} {A1 A2 : Option Addr} {d1 d2 k : Nat} :
    ownsK (updN (updN TB (2 * k) A1) (2 * k + 1) A2) l (updN (updN Td (2 * k) d1) (2 * k + 1) d2) v (2 * (k + 1)) =
      .own A2 (l (2 * k + 1)) d2 3 1 (fun q => [.int .i64 (v (2 * k + 1) q)]) :: .own A1 (l (2 * k)) d1 3 1 (fun q => [.int .i64 (v (2 * k) q)]) :: ownsK TB l Td v (2 * k) := by
  have h1 : ¬ 2 * k = 2 * k + 1 := by omega
  show ownsK _ _ _ _ (2 * k + 2) = _
  simp only [ownsK, updN, if_neg h1, if_true]
  rw [ownsK_congr (A2 := TB) (l2 := l) (c2 := Td) (v2 := v) fun i hi => ?_]
  have h2 : ¬ i = 2 * k + 1 := by omega
  have h3 : ¬ i = 2 * k := by omega
  simp only [updN, if_neg h2, if_neg h3, and_self]
theorem perm_tail3 {X Y Z : List Fact} : (X ++ (Y ++ Z)).Perm (Z ++ (Y ++ X)) := by
  refine List.perm_append_comm.trans ?_
  rw [List.append_assoc]
  exact (List.perm_append_comm.append_right _ |>.trans (by rw [List.append_assoc]) : ((Y ++ Z) ++ X).Perm (Z ++ (Y ++ X))) |> fun h => by simpa using h
set_option maxRecDepth 100000 in
set_option maxHeartbeats 1000000 in
theorem next_leaf {w : World} {P ns : Nat} {bP bN bS bV bW bC bR bB bT : Nat} {Sd Ap Av Ac Ar : Option Addr} {np cp nc cc cv cr way : Nat} {fv : Value} {wv cans r0 r1 : Nat → Int} {b : Int} {A : Nat → Option Addr} {c : Nat → Nat} {T : Option Addr × Nat} {TA : Nat → Option Addr} {Tc : Nat → Nat} {st : St}
    (hns : ns ≤ 2 * nc ∧ 2 * nc ≤ ns) (hM : Sat (feet (.blk bS 95 [.slice Sd ns ns] :: .own Sd ns ns 47 1 (fun s => [.slice (A s) (sln P np way s) (c s)]) :: .blk bW 3 [.int .i64 st.worth] :: .blk bT 27 [.slice T.1 st.n T.2] :: .own T.1 st.n T.2 59 3 (tieS TA (sln P np st.way) Tc) :: (ownsK A (sln P np way) c (svl P np way) ns ++ ownsK TA (sln P np st.way) Tc (svl P np st.way) (2 * st.n)))) w (.blk bS 95 [.slice Sd ns ns] :: .own Sd ns ns 47 1 (fun s => [.slice (A s) (sln P np way s) (c s)]) :: .blk bW 3 [.int .i64 st.worth] :: .blk bT 27 [.slice T.1 st.n T.2] :: .own T.1 st.n T.2 59 3 (tieS TA (sln P np st.way) Tc) :: (ownsK A (sln P np way) c (svl P np way) ns ++ ownsK TA (sln P np st.way) Tc (svl P np st.way) (2 * st.n))) w)
    (hX : SCx w (feet (.blk bS 95 [.slice Sd ns ns] :: .own Sd ns ns 47 1 (fun s => [.slice (A s) (sln P np way s) (c s)]) :: .blk bW 3 [.int .i64 st.worth] :: .blk bT 27 [.slice T.1 st.n T.2] :: .own T.1 st.n T.2 59 3 (tieS TA (sln P np st.way) Tc) :: (ownsK A (sln P np way) c (svl P np way) ns ++ ownsK TA (sln P np st.way) Tc (svl P np st.way) (2 * st.n)))) bP bN bV bC bR bB Ap Av Ac Ar np cp nc cc cv cr fv wv cans r0 r1 b) :
    CallsK Tryd.prog 47 #[.int .i64 np, .int .i64 (wsum P wv np way), .pointer (some ⟨bP, 0, none⟩), .pointer (some ⟨bN, 0, none⟩), .pointer (some ⟨bS, 0, none⟩), .pointer (some ⟨bV, 0, none⟩), .pointer (some ⟨bW, 0, none⟩), .pointer (some ⟨bC, 0, none⟩), .pointer (some ⟨bR, 0, none⟩), .pointer (some ⟨bB, 0, none⟩), .pointer (some ⟨bT, 0, none⟩)] (.blk bS 95 [.slice Sd ns ns] :: .own Sd ns ns 47 1 (fun s => [.slice (A s) (sln P np way s) (c s)]) :: .blk bW 3 [.int .i64 st.worth] :: .blk bT 27 [.slice T.1 st.n T.2] :: .own T.1 st.n T.2 59 3 (tieS TA (sln P np st.way) Tc) :: (ownsK A (sln P np way) c (svl P np way) ns ++ ownsK TA (sln P np st.way) Tc (svl P np st.way) (2 * st.n))) w SX (fun _ => .tuple #[])
      (fun x => .blk bS 95 [.slice Sd ns ns] :: .own Sd ns ns 47 1 (fun s => [.slice (x.1 s) (sln P np way s) (x.2.1 s)]) :: .blk bW 3 [.int .i64 (leafS P np nc r0 r1 cans wv b way st).worth] :: .blk bT 27 [.slice x.2.2.1.1 (leafS P np nc r0 r1 cans wv b way st).n x.2.2.1.2] :: .own x.2.2.1.1 (leafS P np nc r0 r1 cans wv b way st).n x.2.2.1.2 59 3 (tieS x.2.2.2.1 (sln P np (leafS P np nc r0 r1 cans wv b way st).way) x.2.2.2.2) :: (ownsK x.1 (sln P np way) x.2.1 (svl P np way) ns ++ ownsK x.2.2.2.1 (sln P np (leafS P np nc r0 r1 cans wv b way st).way) x.2.2.2.2 (svl P np (leafS P np nc r0 r1 cans wv b way st).way) (2 * (leafS P np nc r0 r1 cans wv b way st).n))) := by
  obtain ⟨oP, oN, oV, oC, oR, oB, nP, nN, nV, nC, nR, nB, rV, rC, rR, aV, aC, aR, hr, hnp, hnc, hb, hw⟩ := hX
  have ap1 := apart_of nP
  have ap2 := apart_of nC
  have ap3 := apart_of nR
  have ap4 := apart_of nB
  have hl : ∀ s, sln P np way s ≤ 7 := fun s => by have := sln_le P np way s; omega
  refine K_enter (S := feet _) (K := .blk bS 95 [.slice Sd ns ns] :: .own Sd ns ns 47 1 (fun s => [.slice (A s) (sln P np way s) (c s)]) :: .blk bW 3 [.int .i64 st.worth] :: .blk bT 27 [.slice T.1 st.n T.2] :: .own T.1 st.n T.2 59 3 (tieS TA (sln P np st.way) Tc) :: (ownsK A (sln P np way) c (svl P np way) ns ++ ownsK TA (sln P np st.way) Tc (svl P np st.way) (2 * st.n))) Tryd.func47 rfl Tryd.ntmps47 rfl hM ?_
  refine TW.seq fun Y1 hY1 => ?_
  refine TW.seq fun Y2 hY2 => ?_
  refine TW.region ?_
  refine TL.p Pu.mv ?_
  refine TL.p (by first | exact (Pu.ld ty_sc26) | exact (Pu.ldo ty_sc26)) ?_
  refine TL.p (Pu.ln Tryd.underlying26) ?_
  refine TL.p Pu.lt ?_
  refine TL.nil ?_
  refine TQ.thenN (hY2 _ _ ?_)
  refine TW.condF rfl ((by simp)) ?_
  refine TW.skip ?_
  refine TQ.thenN (hY1 _ _ ?_)
  refine TW.seq fun Y3 hY3 => ?_
  refine TW.seq fun Y4 hY4 => ?_
  refine TW.region ?_
  refine TL.p Pu.mv ?_
  refine TL.p (by first | exact (Pu.ld ty_sc3) | exact (Pu.ldo ty_sc3)) ?_
  refine TL.p Pu.le ?_
  refine TL.nil ?_
  refine TQ.thenN (hY4 _ _ ?_)
  refine TW.cond rfl (fun hc2 => ?_) (fun hc2 => ?_)
  · try simp only [decide_eq_true_eq, decide_eq_false_iff_not, Bool.not_eq_true', Bool.not_eq_false', Bool.and_eq_true, Bool.or_eq_true, Bool.and_eq_false_iff, Bool.or_eq_false_iff, Int.not_lt, Int.not_le] at hc2
    refine TW.ret ?_
    refine TQ.thenR ?_
    refine TQ.ret Tryd.results47 rfl (.nil) ?_
    exact fun w hw => ⟨(A, c, T, TA, Tc), rfl, by rw [leaf_small hc2]; exact hw⟩
  · try simp only [decide_eq_true_eq, decide_eq_false_iff_not, Bool.not_eq_true', Bool.not_eq_false', Bool.and_eq_true, Bool.or_eq_true, Bool.and_eq_false_iff, Bool.or_eq_false_iff, Int.not_lt, Int.not_le] at hc2
    refine TW.skip ?_
    refine TQ.thenN (hY3 _ _ ?_)
    refine TW.seq fun Y5 hY5 => ?_
    refine TW.region ?_
    refine TL.p Pu.as ?_
    refine TL.nil ?_
    refine TQ.thenN (hY5 _ _ ?_)
    refine TW.seq fun Y6 hY6 => ?_
    refine TW.seq fun Y7 hY7 => ?_
    refine TW.region ?_
    refine TL.p (by first | exact (Pu.ld ty_sc47) | exact (Pu.ldo ty_sc47)) ?_
    refine TL.p (Pu.ln Tryd.underlying47) ?_
    refine TL.p Pu.mv ?_
    refine TL.nil ?_
    refine TQ.thenN (hY7 _ _ ?_)
    refine TW.block ?_
    refine TW.loop4 (fun (k : Nat) (L : Option Addr × Nat) (TB : Nat → Option Addr) (Td : Nat → Nat) => [(72, .int .i64 (k : Int)), (71, .int .i64 (nc : Int)), (70, .slice Ac nc cc), (14, .slice L.1 k L.2), (0, .int .i64 (np : Int)), (1, .int .i64 (wsum P wv np way)), (2, .pointer (some ⟨bP, 0, none⟩)), (3, .pointer (some ⟨bN, 0, none⟩)), (4, .pointer (some ⟨bS, 0, none⟩)), (5, .pointer (some ⟨bV, 0, none⟩)), (6, .pointer (some ⟨bW, 0, none⟩)), (7, .pointer (some ⟨bC, 0, none⟩)), (8, .pointer (some ⟨bR, 0, none⟩)), (9, .pointer (some ⟨bB, 0, none⟩)), (10, .pointer (some ⟨bT, 0, none⟩))]) (fun k L TB Td => .own L.1 k L.2 59 3 (tieS TB (sln P np way) Td) :: .blk bS 95 [.slice Sd ns ns] :: .own Sd ns ns 47 1 (fun s => [.slice (A s) (sln P np way s) (c s)]) :: .blk bW 3 [.int .i64 st.worth] :: .blk bT 27 [.slice T.1 st.n T.2] :: .own T.1 st.n T.2 59 3 (tieS TA (sln P np st.way) Tc) :: (ownsK TB (sln P np way) Td (svl P np way) (2 * k) ++ (ownsK A (sln P np way) c (svl P np way) ns ++ ownsK TA (sln P np st.way) Tc (svl P np st.way) (2 * st.n)))) (fun k L TB Td => k ≤ nc ∧ ∀ j, j < k → okT P np r0 r1 cans b way j = true) (fun k L TB Td => nc - k) 0 (none, 0) (fun _ => none) (fun _ => 0) (by repeat (first | exact trivial | refine ⟨rfl, ?_⟩ | refine ⟨trivial, ?_⟩)) ?_ ?_ ?_
    · exact KSub.nilOwn (KSub.refl _)
    · exact ⟨by omega, fun j hj => by omega⟩
    rintro k L TB Td ⟨hk, hall⟩ Z1 hZ1
    refine TW.seq fun Y8 hY8 => ?_
    refine TW.region ?_
    refine TL.p Pu.lt ?_
    refine TL.nil ?_
    refine TQ.thenN (hY8 _ _ ?_)
    refine TW.seq fun Y9 hY9 => ?_
    refine TW.cond rfl (fun hc3 => ?_) (fun hc3 => ?_)
    · try simp only [decide_eq_true_eq, decide_eq_false_iff_not, Bool.not_eq_true', Bool.not_eq_false', Bool.and_eq_true, Bool.or_eq_true, Bool.and_eq_false_iff, Bool.or_eq_false_iff, Int.not_lt, Int.not_le] at hc3
      have hkn : k < nc := by omega
      have hA2 := aC (by omega)
      refine TW.skip ?_
      refine TQ.thenN (hY9 _ _ ?_)
      refine TW.seq fun Y10 hY10 => ?_
      refine TW.block ?_
      refine TW.seq fun Y11 hY11 => ?_
      refine TW.region ?_
      refine TL.p Pu.mv ?_
      refine TL.p (Pu.el ty_et47) ?_
      refine TL.p (by first | exact (Pu.ld ty_sc3) | exact (Pu.ldo ty_sc3)) ?_
      refine TL.p Pu.as ?_
      refine TL.p Pu.as ?_
      refine TL.nil ?_
      refine TQ.thenN (hY11 _ _ ?_)
      refine TW.seq fun Y12 hY12 => ?_
      refine TW.dw 15 ?_
      refine RK.tk (by first | exact (Pu.ld ty_sc95) | exact (Pu.ldo ty_sc95)) ?_
      refine RK.tk Pu.mv ?_
      refine RK.tk Pu.ml ?_
      refine RK.tk (Pu.el (q := 2 * k) ty_et95 (hk := by omega)) ?_
      refine RK.tk (by first | exact (Pu.ld ty_sc47) | exact (Pu.ldo ty_sc47)) ?_
      refine RK.tk (by first | exact (Pu.ld ty_sc95) | exact (Pu.ldo ty_sc95)) ?_
      refine RK.tk Pu.mv ?_
      refine RK.tk Pu.ml ?_
      refine RK.tk Pu.ad ?_
      refine RK.tk (Pu.el (q := 2 * k + 1) ty_et95 (hk := by omega)) ?_
      refine RK.tk (by first | exact (Pu.ld ty_sc47) | exact (Pu.ldo ty_sc47)) ?_
      refine RK.tk Pu.bd ?_
      refine RK.tk (by first | exact (Pu.ld ty_sc93) | exact (Pu.ldo ty_sc93)) ?_
      refine RK.tk Pu.bd ?_
      refine RK.float [.slice none 0 0, .slice none 0 0, .slice none 0 0, .slice none 0 0] ?_
      refine RK.ch [] ?_ ⟨ty_zr98, trivial⟩
      refine WK.n ?_
      intro b1
      first | refine TL.st ty_sz98 ?_ | refine TL.se ty_sz98 ?_
      refine TL.nil ?_
      refine TQ.thenN (hY12 _ _ ?_)
      refine TW.seq fun Y13 hY13 => ?_
      refine TW.seq fun Y14 hY14 => ?_
      refine TW.ex0k [.blk b1 98 [.slice (A (2 * k)) (sln P np way (2 * k)) (c (2 * k)), .slice (A (2 * k + 1)) (sln P np way (2 * k + 1)) (c (2 * k + 1)), .slice none 0 0, .slice Ar np cr]] ?_
      refine RG.tk 0 rfl (by first | exact (Pu.lds ty_ag98) | exact (Pu.ldso ty_ag98)) ?_
      refine RG.tk 1 rfl (by first | exact (Pu.ld ty_sc3) | exact (Pu.ldo ty_sc3)) ?_
      refine RG.a1 2 rfl (fun X2 hX2 => ?_)
      refine TL.cr rfl (enters Tryd.func48 rfl rfl) (fun w hw => by
          exact tie_balance hnp (ownsK_rd (A := A) (l := sln P np way) (c := c) (v := svl P np way) (n := ns) hw (fun φ hφ => by simp [hφ])) hkn (by omega) hr hb (rR.sat0 hw aR)) ?_
      refine TL.nil ?_
      refine TQ.nxt (hX2 _ _ (by repeat (first | exact HasL.nil | refine HasL.cons (by repeat (first | exact Pick.hd | apply Pick.tl)) ?_)) ?_)
      refine RG.tk 3 rfl Pu.ne ?_
      refine RG.tk 4 rfl Pu.mv ?_
      refine RG.guard (t := 95) rfl (fun hg1 => ?_) (fun hg1 => ?_)
      · try simp only [decide_eq_true_eq, decide_eq_false_iff_not, Bool.not_eq_true', Bool.not_eq_false', Int.natCast_pos] at hg1
        refine RG.ts 5 rfl ?_
        refine RG.ts 6 rfl ?_
        refine RG.ts 7 rfl ?_
        refine RG.ts 8 rfl ?_
        refine RG.ts 9 rfl ?_
        refine RG.ts 10 rfl ?_
        refine RG.ts 11 rfl ?_
        refine RG.ts 12 rfl ?_
        refine RG.tk 13 rfl Pu.kt ?_
        refine RG.nil ?_ (by kernel_rfl)
        refine TQ.thenN (hY14 _ _ ?_)
        refine TW.condT rfl rfl ?_
        refine TW.ret ?_
        refine TQ.thenR ?_
        refine TQ.blkR ?_
        refine TQ.thenR ?_
        refine TQ.thenR ?_
        refine TQ.blkR ?_
        refine TQ.thenR ?_
        refine TQ.ret Tryd.results47 rfl (.nil) ?_
        exact fun w hw => ⟨(A, c, T, TA, Tc), rfl, by
          rw [leaf_bad hkn (okT_no1 hg1)]
          exact hw.sub (by repeat (first | exact KSub.dropL _ (KSub.refl _) | refine KSub.cons Pick.hd ?_ | refine KSub.drop ?_))⟩
      · try simp only [decide_eq_true_eq, decide_eq_false_iff_not, Bool.not_eq_true', Bool.not_eq_false', Int.natCast_pos] at hg1
        refine RG.tk 5 rfl (by first | exact (Pu.lds ty_ag98) | exact (Pu.ldso ty_ag98)) ?_
        refine RG.tk 6 rfl (by first | exact Pu.fb ty_fa98_0 | exact Pu.fe ty_fa98_0) ?_
        refine RG.tk 7 rfl (by first | exact (Pu.lds ty_ag59) | exact (Pu.ldso ty_ag59)) ?_
        refine RG.tk 11 rfl Pu.mv ?_
        refine RG.a1 8 rfl (fun X8 hX8 => ?_)
        refine TL.gck rfl (enters Tryd.func50 rfl rfl) (fun w hw => by
            exact tie_all hnp (ownsK_rd (A := A) (l := sln P np way) (c := c) (v := svl P np way) (n := ns) hw (fun φ hφ => by simp [hφ])) hkn (by omega)) ?_
        rintro ⟨Aq, cq⟩
        refine TL.nil ?_
        refine TQ.nxt (hX8 _ _ (by repeat (first | exact HasL.nil | refine HasL.cons (by repeat (first | exact Pick.hd | apply Pick.tl)) ?_)) ?_)
        refine RG.a1 9 rfl (fun X9 hX9 => ?_)
        refine TL.cr rfl (enters Tryd.func49 rfl rfl) (fun w hw => by
            exact tie_weight hnp hr (rR.sat0 hw aR) (OwnR.rdr (hw.holds (.own Aq (tot (tln P np way k) 3) cq 3 1 (fun q => [.int .i64 (catI (tln P np way k) (tvl P np way k) q)])) (by simp)))) ?_
        refine TL.nil ?_
        refine TQ.nxt (hX9 _ _ (by repeat (first | exact HasL.nil | refine HasL.cons (by repeat (first | exact Pick.hd | apply Pick.tl)) ?_)) ?_)
        refine RG.tk 10 rfl Pu.fd ?_
        refine RG.tk 12 rfl Pu.gt ?_
        refine RG.tk 13 rfl Pu.kf ?_
        refine RG.nil ?_ (by kernel_rfl)
        refine TQ.thenN (hY14 _ _ ?_)
        refine TW.cond rfl (fun hc4 => ?_) (fun hc4 => ?_)
        · try simp only [decide_eq_true_eq, decide_eq_false_iff_not, Bool.not_eq_true', Bool.not_eq_false', Bool.and_eq_true, Bool.or_eq_true, Bool.and_eq_false_iff, Bool.or_eq_false_iff, Int.not_lt, Int.not_le] at hc4
          refine TW.ret ?_
          refine TQ.thenR ?_
          refine TQ.blkR ?_
          refine TQ.thenR ?_
          refine TQ.thenR ?_
          refine TQ.blkR ?_
          refine TQ.thenR ?_
          refine TQ.ret Tryd.results47 rfl (.nil) ?_
          exact fun w hw => ⟨(A, c, T, TA, Tc), rfl, by
            rw [leaf_bad hkn (okT_no2 (by omega))]
            exact hw.sub (by repeat (first | exact KSub.dropL _ (KSub.refl _) | refine KSub.cons Pick.hd ?_ | refine KSub.drop ?_))⟩
        · try simp only [decide_eq_true_eq, decide_eq_false_iff_not, Bool.not_eq_true', Bool.not_eq_false', Bool.and_eq_true, Bool.or_eq_true, Bool.and_eq_false_iff, Bool.or_eq_false_iff, Int.not_lt, Int.not_le] at hc4
          refine TW.skip ?_
          refine TQ.thenN (hY13 _ _ ?_)
          refine TW.dw 11 ?_
          refine RK.tk Pu.mv ?_
          refine RK.tk (by first | exact Pu.fb ty_fa98_0 | exact Pu.fe ty_fa98_0) ?_
          refine RK.tk (by first | exact Pu.fb ty_fa59_0 | exact Pu.fe ty_fa59_0) ?_
          refine RK.tk (by first | exact (Pu.ld ty_sc47) | exact (Pu.ldo ty_sc47)) ?_
          refine RK.keep ?_
          refine RK.tk (by first | exact Pu.fb ty_fa98_0 | exact Pu.fe ty_fa98_0) ?_
          refine RK.tk (by first | exact Pu.fb ty_fa59_1 | exact Pu.fe ty_fa59_1) ?_
          refine RK.tk (by first | exact (Pu.ld ty_sc47) | exact (Pu.ldo ty_sc47)) ?_
          refine RK.keep ?_
          refine RK.keep ?_
          refine RK.keep ?_
          refine RK.ch [false, false, true, false] ?_ trivial
          refine WK.call rfl (enters Tryd.func51 rfl rfl) rfl (fun w hw => by
              exact cloneI_any (by have := hl (2 * k); omega) ((ownsK_rd (A := A) (l := sln P np way) (c := c) (v := svl P np way) (n := ns) hw (fun φ hφ => by simp [hφ])) (2 * k) (by omega))) ?_
          rintro ⟨A1, d1⟩
          refine WK.call rfl (enters Tryd.func51 rfl rfl) rfl (fun w hw => by
              exact cloneI_any (by have := hl (2 * k + 1); omega) ((ownsK_rd (A := A) (l := sln P np way) (c := c) (v := svl P np way) (n := ns) hw (fun φ hφ => by simp [hφ])) (2 * k + 1) (by omega))) ?_
          rintro ⟨A2, d2⟩
          refine WK.p Pu.bd ?_
          refine WK.m Mk.bl ?_
          intro b2
          refine WK.n ?_
          first | refine TL.a0 ty_et27 ?_ | refine TL.ap ty_et27 ?_
          intro A3 c3
          refine TL.p Pu.as ?_
          refine TL.nil ?_
          refine TQ.blkN ?_
          refine TQ.thenN (hY10 _ _ ?_)
          refine TW.region ?_
          refine TL.p Pu.ad ?_
          refine TL.p Pu.mv ?_
          refine TL.nil ?_
          refine TQ.thenN (hZ1 (k + 1) (_, _) (updN (updN TB (2 * k) A1) (2 * k + 1) A2) (updN (updN Td (2 * k) d1) (2 * k + 1) d2) _ _ ?_ ?_ (by repeat (first | exact trivial | refine ⟨rfl, ?_⟩ | refine ⟨trivial, ?_⟩)) ?_)
          · refine ⟨by omega, fun j hj => ?_⟩
            by_cases h : j = k
            · subst h; exact okT_yes hg1 hc4
            · exact hall j (by omega)
          · exact (by first | omega | (simp only []; omega) | (simp; omega))
          · rw [ties_more]
            simp only [List.cons_append]
            refine KSub.own Pick.hd (fun i hi => tie_row hi) ?_
            repeat (first | exact KSub.drop (KSub.refl _) | exact KSub.drop (KSub.drop (KSub.drop (KSub.refl _))) | exact KSub.drop (KSub.drop (KSub.refl _)) | refine KSub.cons (by repeat (first | exact Pick.hd | apply Pick.tl)) ?_)
    · try simp only [decide_eq_true_eq, decide_eq_false_iff_not, Bool.not_eq_true', Bool.not_eq_false', Bool.and_eq_true, Bool.or_eq_true, Bool.and_eq_false_iff, Bool.or_eq_false_iff, Int.not_lt, Int.not_le] at hc3
      refine TW.exit ?_
      refine TQ.thenX ?_
      refine TQ.thenX ?_
      refine TQ.blkX ?_
      refine TQ.thenN (hY6 _ _ ?_)
      refine TW.region ?_
      obtain rfl : nc = k := by omega
      refine TL.perm (by repeat (first | exact perm_tail3 | apply List.Perm.cons)) ?_
      refine TL.p Pu.mv ?_
      refine TL.p Pu.mv ?_
      first | refine TL.st ty_sz27 ?_ | refine TL.se ty_sz27 ?_
      first | refine TL.st ty_sz3 ?_ | refine TL.se ty_sz3 ?_
      refine TL.nil ?_
      refine TQ.end Tryd.results47 rfl (.nil) ?_
      exact fun w hw => ⟨(A, c, L, TB, Td), rfl, by
        rw [leaf_good hc2 hall]
        exact hw.sub (by repeat (first | exact KSub.drop (KSub.dropL _ (KSub.refl _)) | refine KSub.cons (by repeat (first | exact Pick.hd | apply Pick.tl)) ?_))⟩
end Go.Proofs.YtagcnokaajinlaaDoor
