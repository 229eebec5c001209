/-
  Part 10 of the proof of loadTraded_holds: declarations of several texts, in build order. No condition on a program.
-/
import Derived.Test.YtljhdcclajikiaaGreatDoorTrac06
import Derived.Test.YtljhdcclajikiaaGreatDoorTrac09
namespace Go.Proofs.YtljhdcclajikiaaGreatDoor
set_option linter.all false
set_option linter.unusedVariables false
set_option linter.unusedSimpArgs false
open Go.RowKit
structure SCx (w : World) (M : List Nat) (bP bN bV bC bR bB : Nat) (Ap Av Ac Ar : Option Addr) (np cp nc cc cv cr : Nat) (fv : Value) (wv cans r0 r1 : Nat → Int) (b : Int) : Prop where
  oP : OldB w bP [.slice Ap np cp]
  oN : OldB w bN [fv]
  oV : OldB w bV [.slice Av np cv]
  oC : OldB w bC [.slice Ac nc cc]
  oR : OldB w bR [.slice Ar np cr]
  oB : OldB w bB [.int .i64 b]
  nP : bP ∉ M
  nN : bN ∉ M
  nV : bV ∉ M
  nC : bC ∉ M
  nR : bR ∉ M
  nB : bB ∉ M
  rV : RdR w 1 Av np (fun k => [.int .i64 (wv k)])
  rC : RdR w 1 Ac nc (fun k => [.int .i64 (cans k)])
  rR : RdR w 2 Ar np (fun q => spL (r0 q) (r1 q))
  aV : 0 < np → Apart M Av
  aC : 0 < nc → Apart M Ac
  aR : 0 < np → Apart M Ar
  hr : RestOk r0 r1 np
  hnp : np ≤ 7
  hnc : nc ≤ 2
  hb : 0 ≤ b ∧ b ≤ 1000000000
  hw : ∀ k, k < np → 0 ≤ wv k ∧ wv k ≤ 1000000000000
theorem notin_sat {M M' : List Nat} {w w' : World} {K : List Fact} {q : Nat} (hs : Sat M w K w') (hM : ∀ b ∈ M', b ∈ feet K) (hq : q ∉ M) (hlt : q < w.heap.size) : q ∉ M' := fun hm => by
  rcases hs.ge q (hM q hm) with h | h
  · exact hq h
  · omega
theorem apart_sat {M M' : List Nat} {w w' : World} {K : List Fact} {sz n : Nat} {A : Option Addr} {r : Nat → List Value} (hs : Sat M w K w') (hM : ∀ b ∈ M', b ∈ feet K) (hR : RdR w sz A n r) (hA : 0 < n → Apart M A) : 0 < n → Apart M' A := fun hn q hq => by
  obtain ⟨b, o, e, hlt, _⟩ := hR.rd hn
  rw [e] at hq
  cases hq
  exact notin_sat hs hM (hA hn b (by rw [e]; rfl)) hlt
section
variable {w w' : World} {M M' : List Nat} {bP bN bV bC bR bB : Nat} {Ap Av Ac Ar : Option Addr} {np cp nc cc cv cr : Nat} {fv : Value} {wv cans r0 r1 : Nat → Int} {b : Int} {K : List Fact}
theorem SCx.sat (h : SCx w M bP bN bV bC bR bB Ap Av Ac Ar np cp nc cc cv cr fv wv cans r0 r1 b) (hs : Sat M w K w') (hM : ∀ b ∈ M', b ∈ feet K) : SCx w' M' bP bN bV bC bR bB Ap Av Ac Ar np cp nc cc cv cr fv wv cans r0 r1 b :=
  ⟨h.oP.sat hs h.nP, h.oN.sat hs h.nN, h.oV.sat hs h.nV, h.oC.sat hs h.nC, h.oR.sat hs h.nR, h.oB.sat hs h.nB,
    notin_sat hs hM h.nP h.oP.1, notin_sat hs hM h.nN h.oN.1, notin_sat hs hM h.nV h.oV.1, notin_sat hs hM h.nC h.oC.1, notin_sat hs hM h.nR h.oR.1, notin_sat hs hM h.nB h.oB.1,
    h.rV.sat0 hs h.aV, h.rC.sat0 hs h.aC, h.rR.sat0 hs h.aR, apart_sat hs hM h.rV h.aV, apart_sat hs hM h.rC h.aC, apart_sat hs hM h.rR h.aR, h.hr, h.hnp, h.hnc, h.hb, h.hw⟩
end
theorem wsum_bd {P : Nat} {wv : Nat → Int} : ∀ {i w : Nat}, (∀ k, k < i → 0 ≤ wv k ∧ wv k ≤ 1000000000000) → 0 ≤ wsum P wv i w ∧ wsum P wv i w ≤ i * 1000000000000
  | 0, _, _ => by simp [wsum]
  | i + 1, w, h => by
    have h1 := wsum_bd (P := P) (i := i) (w := w / P) fun k hk => h k (by omega)
    have h2 := h i (by omega)
    simp only [wsum]
    have e : ((i + 1 : Nat) : Int) * 1000000000000 = i * 1000000000000 + 1000000000000 := by omega
    split <;> omega
theorem leaf_small {P np nc way : Nat} {r0 r1 cans wv : Nat → Int} {b : Int} {st : St} (h : wsum P wv np way ≤ st.worth) : leafS P np nc r0 r1 cans wv b way st = st := if_pos h
theorem leaf_bad {P np nc way k : Nat} {r0 r1 cans wv : Nat → Int} {b : Int} {st : St} (hk : k < nc) (h : okT P np r0 r1 cans b way k = false) : leafS P np nc r0 r1 cans wv b way st = st := by
  unfold leafS
  split
  · rfl
  · rw [if_neg]
    intro h2
    have := allB_iff.1 h2 k hk
    rw [h] at this
    cases this
theorem leaf_good {P np nc way : Nat} {r0 r1 cans wv : Nat → Int} {b : Int} {st : St} (h : st.worth < wsum P wv np way) (h2 : ∀ k, k < nc → okT P np r0 r1 cans b way k = true) : leafS P np nc r0 r1 cans wv b way st = ⟨wsum P wv np way, way, nc⟩ := by
  unfold leafS
  rw [if_neg (by omega), if_pos (allB_iff.2 h2)]
abbrev SX : Type := (Nat → Option Addr) × (Nat → Nat) × (Option Addr × Nat) × (Nat → Option Addr) × (Nat → Nat)
def tA (A : Nat → Option Addr) (k j : Nat) : Option Addr := if j = 2 then none else A (2 * k + j)
def tC (c : Nat → Nat) (k j : Nat) : Nat := if j = 2 then 0 else c (2 * k + j)
theorem tie_rd {w : World} {A : Nat → Option Addr} {P np way k nc ns : Nat} (hA : ∀ i, i < ns → RdR w 1 (A i) (sln P np way i) (fun q => [.int .i64 (svl P np way i q)])) (hk : k < nc) (hns : ns = 2 * nc) : ∀ j, j < 3 → RdR w 1 (tA A k j) (tln P np way k j) (fun q => [.int .i64 (tvl P np way k j q)]) := fun j hj => by
  by_cases h : j = 2
  · subst h
    exact ⟨Rd.nil, fun i hi => by simp [tln] at hi⟩
  · have h1 := hA (2 * k + j) (by omega)
    simp only [tA, tln, tvl, if_neg h]
    exact h1
theorem tie_inx {P np way k : Nat} : ∀ j, j < 3 → Inx (tvl P np way k j) (tln P np way k j) np := fun j hj => by
  by_cases h : j = 2
  · subst h
    intro q hq
    simp [tln] at hq
  · simp only [tln, tvl, if_neg h]
    exact svl_inx P np way (2 * k + j)
theorem tln_le {P np way k j : Nat} (hnp : np ≤ 7) : tln P np way k j ≤ 7 := by
  unfold tln
  split
  · omega
  · have := sln_le P np way (2 * k + j); omega
theorem okT_no1 {P np way k : Nat} {r0 r1 cans : Nat → Int} {b : Int} (h : ¬ balV (wS r0 (svl P np way (2 * k)) (sln P np way (2 * k))) (wS r1 (svl P np way (2 * k)) (sln P np way (2 * k))) (wS r0 (svl P np way (2 * k + 1)) (sln P np way (2 * k + 1))) (wS r1 (svl P np way (2 * k + 1)) (sln P np way (2 * k + 1))) b = 2) : okT P np r0 r1 cans b way k = false := by
  unfold okT
  rw [decide_eq_false h]
  rfl
theorem okT_no2 {P np way k : Nat} {r0 r1 cans : Nat → Int} {b : Int} (h : ¬ wS r1 (catI (tln P np way k) (tvl P np way k)) (tot (tln P np way k) 3) ≤ cans k) : okT P np r0 r1 cans b way k = false := by
  unfold okT
  rw [decide_eq_false h, Bool.and_false]
theorem okT_yes {P np way k : Nat} {r0 r1 cans : Nat → Int} {b : Int} (h : balV (wS r0 (svl P np way (2 * k)) (sln P np way (2 * k))) (wS r1 (svl P np way (2 * k)) (sln P np way (2 * k))) (wS r0 (svl P np way (2 * k + 1)) (sln P np way (2 * k + 1))) (wS r1 (svl P np way (2 * k + 1)) (sln P np way (2 * k + 1))) b = 2) (h2 : wS r1 (catI (tln P np way k) (tvl P np way k)) (tot (tln P np way k) 3) ≤ cans k) : okT P np r0 r1 cans b way k = true := by
  unfold okT
  rw [decide_eq_true h, decide_eq_true h2]
  rfl
section
variable {w : World} {A : Nat → Option Addr} {c : Nat → Nat} {P np way k nc ns nr cr : Nat} {Ar : Option Addr} {r0 r1 : Nat → Int} {b : Int}
theorem tie_balance (hnp : np ≤ 7) (hA : ∀ i, i < ns → RdR w 1 (A i) (sln P np way i) (fun q => [.int .i64 (svl P np way i q)])) (hk : k < nc) (hns : ns = 2 * nc) (hr : RestOk r0 r1 np) (hb : 0 ≤ b ∧ b ≤ 1000000000) (hR : RdR w 2 Ar np (fun q => spL (r0 q) (r1 q))) :
    Calls Tryz.prog 38 #[.agg #[.slice (A (2 * k)) (sln P np way (2 * k)) (c (2 * k)), .slice (A (2 * k + 1)) (sln P np way (2 * k + 1)) (c (2 * k + 1)), .slice none 0 0, .slice Ar np cr], .int .i64 b] w
      (Ret w (.int .u8 (balV (wS r0 (svl P np way (2 * k)) (sln P np way (2 * k))) (wS r1 (svl P np way (2 * k)) (sln P np way (2 * k))) (wS r0 (svl P np way (2 * k + 1)) (sln P np way (2 * k + 1))) (wS r1 (svl P np way (2 * k + 1)) (sln P np way (2 * k + 1))) b))) := by
  have hI := tie_rd hA hk hns
  have h9 := balance_any (a := tA A k) (l := tln P np way k) (c := tC c k) (Ar := Ar) (cr := cr) (v := tvl P np way k) hr (b := b) (by omega) (fun j hj => by have := tln_le (P := P) (way := way) (k := k) (j := j) hnp; omega) (fun j hj => tie_inx j (by omega)) hR (fun j hj => hI j (by omega))
  simpa [tiedL, tA, tln, tC, tvl] using h9
theorem tie_all (hnp : np ≤ 7) (hA : ∀ i, i < ns → RdR w 1 (A i) (sln P np way i) (fun q => [.int .i64 (svl P np way i q)])) (hk : k < nc) (hns : ns = 2 * nc) :
    CallsK Tryz.prog 44 #[.agg #[.slice (A (2 * k)) (sln P np way (2 * k)) (c (2 * k)), .slice (A (2 * k + 1)) (sln P np way (2 * k + 1)) (c (2 * k + 1)), .slice none 0 0]] [] w (Option Addr × Nat) (fun x => .slice x.1 (tot (tln P np way k) 3) x.2) (fun x => [.own x.1 (tot (tln P np way k) 3) x.2 3 1 (fun q => [.int .i64 (catI (tln P np way k) (tvl P np way k) q)])]) := by
  have hI := tie_rd hA hk hns
  have t0 := tln_le (P := P) (way := way) (k := k) (j := 0) hnp
  have t1 := tln_le (P := P) (way := way) (k := k) (j := 1) hnp
  have t2 := tln_le (P := P) (way := way) (k := k) (j := 2) hnp
  have h9 := all_any (a := tA A k) (l := tln P np way k) (c := tC c k) (v := tvl P np way k) (by rw [tot3]; omega) hI
  rw [catN_catI] at h9
  have e : (tieL (tA A k) (tln P np way k) (tC c k)) = [.slice (A (2 * k)) (sln P np way (2 * k)) (c (2 * k)), .slice (A (2 * k + 1)) (sln P np way (2 * k + 1)) (c (2 * k + 1)), .slice none 0 0] := by simp [tieL, tA, tln, tC]
  rw [e] at h9
  exact h9
theorem tie_weight {Aq : Option Addr} {cq : Nat} (hnp : np ≤ 7) (hr : RestOk r0 r1 np) (hR : RdR w 2 Ar np (fun q => spL (r0 q) (r1 q))) (hQ : RdR w 1 Aq (tot (tln P np way k) 3) (fun q => [.int .i64 (catI (tln P np way k) (tvl P np way k) q)])) :
    Calls Tryz.prog 43 #[.agg #[.slice (A (2 * k)) (sln P np way (2 * k)) (c (2 * k)), .slice (A (2 * k + 1)) (sln P np way (2 * k + 1)) (c (2 * k + 1)), .slice none 0 0, .slice Ar np cr], .slice Aq (tot (tln P np way k) 3) cq] w
      (Ret w (.agg #[.int .i64 (wS r0 (catI (tln P np way k) (tvl P np way k)) (tot (tln P np way k) 3)), .int .i64 (wS r1 (catI (tln P np way k) (tvl P np way k)) (tot (tln P np way k) 3))])) := by
  have t0 := tln_le (P := P) (way := way) (k := k) (j := 0) hnp
  have t1 := tln_le (P := P) (way := way) (k := k) (j := 1) hnp
  have t2 := tln_le (P := P) (way := way) (k := k) (j := 2) hnp
  have h9 := weight_any (a := tA A k) (l := tln P np way k) (c := tC c k) (Ar := Ar) (cr := cr) (cp := cq) (v := catI (tln P np way k) (tvl P np way k)) hr (show tot (tln P np way k) 3 ≤ 1000 by rw [tot3]; omega) (inx_cat tie_inx) hR hQ
  have e : (tiedL (tA A k) (tln P np way k) (tC c k) Ar np cr) = [.slice (A (2 * k)) (sln P np way (2 * k)) (c (2 * k)), .slice (A (2 * k + 1)) (sln P np way (2 * k + 1)) (c (2 * k + 1)), .slice none 0 0, .slice Ar np cr] := by simp [tiedL, tA, tln, tC]
  rw [e] at h9
  exact h9
end
theorem tie_row {TB : Nat → Option Addr} {l Td : Nat → Nat} {A1 A2 : Option Addr} {d1 d2 k i : Nat} (hi : i < k + 1) :
    catR k (tieS TB l Td) (fun _ => [.slice A1 (l (2 * k)) d1, .slice A2 (l (2 * k + 1)) d2, .slice none 0 0]) i = tieS (updN (updN TB (2 * k) A1) (2 * k + 1) A2) l (updN (updN Td (2 * k) d1) (2 * k + 1) d2) i := by
  simp only [catR]
  by_cases h : i < k
  · have h1 : ¬ 2 * i = 2 * k + 1 := by omega
    have h2 : ¬ 2 * i = 2 * k := by omega
    have h3 : ¬ 2 * i + 1 = 2 * k + 1 := by omega
    have h4 : ¬ 2 * i + 1 = 2 * k := by omega
    rw [if_pos h]
    simp only [tieS, updN, if_neg h1, if_neg h2, if_neg h3, if_neg h4]
  · obtain rfl : i = k := by omega
    have h1 : ¬ 2 * i = 2 * i + 1 := by omega
    rw [if_neg h]
    simp only [tieS, updN, if_neg h1, if_true]
theorem ties_more {TB : Nat → Option Addr} {l Td : Nat → Nat} {v : Nat → Nat → Int} {A1 A2 : Option Addr} {d1 d2 k : Nat} :
    ownsK (updN (updN TB (2 * k) A1) (2 * k + 1) A2) l (updN (updN Td (2 * k) d1) (2 * k + 1) d2) v (2 * (k + 1)) =
      .own A2 (l (2 * k + 1)) d2 3 1 (fun q => [.int .i64 (v (2 * k + 1) q)]) :: .own A1 (l (2 * k)) d1 3 1 (fun q => [.int .i64 (v (2 * k) q)]) :: ownsK TB l Td v (2 * k) := by
  have h1 : ¬ 2 * k = 2 * k + 1 := by omega
  show ownsK _ _ _ _ (2 * k + 2) = _
  simp only [ownsK, updN, if_neg h1, if_true]
  rw [ownsK_congr (A2 := TB) (l2 := l) (c2 := Td) (v2 := v) fun i hi => ?_]
  have h2 : ¬ i = 2 * k + 1 := by omega
  have h3 : ¬ i = 2 * k := by omega
  simp only [updN, if_neg h2, if_neg h3, and_self]
theorem perm_tail3 {X Y Z : List Fact} : (X ++ (Y ++ Z)).Perm (Z ++ (Y ++ X)) := by
  refine List.perm_append_comm.trans ?_
  rw [List.append_assoc]
  exact (List.perm_append_comm.append_right _ |>.trans (by rw [List.append_assoc]) : ((Y ++ Z) ++ X).Perm (Z ++ (Y ++ X))) |> fun h => by simpa using h
set_option maxRecDepth 100000 in
set_option maxHeartbeats 1000000 in
theorem next_leaf {w : World} {P ns : Nat} {bP bN bS bV bW bC bR bB bT : Nat} {Sd Ap Av Ac Ar : Option Addr} {np cp nc cc cv cr way : Nat} {fv : Value} {wv cans r0 r1 : Nat → Int} {b : Int} {A : Nat → Option Addr} {c : Nat → Nat} {T : Option Addr × Nat} {TA : Nat → Option Addr} {Tc : Nat → Nat} {st : St}
    (hns : ns ≤ 2 * nc ∧ 2 * nc ≤ ns) (hM : Sat (feet (.blk bS 91 [.slice Sd ns ns] :: .own Sd ns ns 24 1 (fun s => [.slice (A s) (sln P np way s) (c s)]) :: .blk bW 3 [.int .i64 st.worth] :: .blk bT 23 [.slice T.1 st.n T.2] :: .own T.1 st.n T.2 34 3 (tieS TA (sln P np st.way) Tc) :: (ownsK A (sln P np way) c (svl P np way) ns ++ ownsK TA (sln P np st.way) Tc (svl P np st.way) (2 * st.n)))) w (.blk bS 91 [.slice Sd ns ns] :: .own Sd ns ns 24 1 (fun s => [.slice (A s) (sln P np way s) (c s)]) :: .blk bW 3 [.int .i64 st.worth] :: .blk bT 23 [.slice T.1 st.n T.2] :: .own T.1 st.n T.2 34 3 (tieS TA (sln P np st.way) Tc) :: (ownsK A (sln P np way) c (svl P np way) ns ++ ownsK TA (sln P np st.way) Tc (svl P np st.way) (2 * st.n))) w)
    (hX : SCx w (feet (.blk bS 91 [.slice Sd ns ns] :: .own Sd ns ns 24 1 (fun s => [.slice (A s) (sln P np way s) (c s)]) :: .blk bW 3 [.int .i64 st.worth] :: .blk bT 23 [.slice T.1 st.n T.2] :: .own T.1 st.n T.2 34 3 (tieS TA (sln P np st.way) Tc) :: (ownsK A (sln P np way) c (svl P np way) ns ++ ownsK TA (sln P np st.way) Tc (svl P np st.way) (2 * st.n)))) bP bN bV bC bR bB Ap Av Ac Ar np cp nc cc cv cr fv wv cans r0 r1 b) :
    CallsK Tryz.prog 42 #[.int .i64 np, .int .i64 (wsum P wv np way), .pointer (some ⟨bP, 0, none⟩), .pointer (some ⟨bN, 0, none⟩), .pointer (some ⟨bS, 0, none⟩), .pointer (some ⟨bV, 0, none⟩), .pointer (some ⟨bW, 0, none⟩), .pointer (some ⟨bC, 0, none⟩), .pointer (some ⟨bR, 0, none⟩), .pointer (some ⟨bB, 0, none⟩), .pointer (some ⟨bT, 0, none⟩)] (.blk bS 91 [.slice Sd ns ns] :: .own Sd ns ns 24 1 (fun s => [.slice (A s) (sln P np way s) (c s)]) :: .blk bW 3 [.int .i64 st.worth] :: .blk bT 23 [.slice T.1 st.n T.2] :: .own T.1 st.n T.2 34 3 (tieS TA (sln P np st.way) Tc) :: (ownsK A (sln P np way) c (svl P np way) ns ++ ownsK TA (sln P np st.way) Tc (svl P np st.way) (2 * st.n))) w SX (fun _ => .tuple #[])
      (fun x => .blk bS 91 [.slice Sd ns ns] :: .own Sd ns ns 24 1 (fun s => [.slice (x.1 s) (sln P np way s) (x.2.1 s)]) :: .blk bW 3 [.int .i64 (leafS P np nc r0 r1 cans wv b way st).worth] :: .blk bT 23 [.slice x.2.2.1.1 (leafS P np nc r0 r1 cans wv b way st).n x.2.2.1.2] :: .own x.2.2.1.1 (leafS P np nc r0 r1 cans wv b way st).n x.2.2.1.2 34 3 (tieS x.2.2.2.1 (sln P np (leafS P np nc r0 r1 cans wv b way st).way) x.2.2.2.2) :: (ownsK x.1 (sln P np way) x.2.1 (svl P np way) ns ++ ownsK x.2.2.2.1 (sln P np (leafS P np nc r0 r1 cans wv b way st).way) x.2.2.2.2 (svl P np (leafS P np nc r0 r1 cans wv b way st).way) (2 * (leafS P np nc r0 r1 cans wv b way st).n))) := by
  obtain ⟨oP, oN, oV, oC, oR, oB, nP, nN, nV, nC, nR, nB, rV, rC, rR, aV, aC, aR, hr, hnp, hnc, hb, hw⟩ := hX
  have ap1 := apart_of nP
  have ap2 := apart_of nC
  have ap3 := apart_of nR
  have ap4 := apart_of nB
  have hl : ∀ s, sln P np way s ≤ 7 := fun s => by have := sln_le P np way s; omega
  refine K_enter (S := feet _) (K := .blk bS 91 [.slice Sd ns ns] :: .own Sd ns ns 24 1 (fun s => [.slice (A s) (sln P np way s) (c s)]) :: .blk bW 3 [.int .i64 st.worth] :: .blk bT 23 [.slice T.1 st.n T.2] :: .own T.1 st.n T.2 34 3 (tieS TA (sln P np st.way) Tc) :: (ownsK A (sln P np way) c (svl P np way) ns ++ ownsK TA (sln P np st.way) Tc (svl P np st.way) (2 * st.n))) Tryz.func42 rfl Tryz.ntmps42 rfl hM ?_
  refine TW.seq fun Y1 hY1 => ?_
  refine TW.seq fun Y2 hY2 => ?_
  refine TW.region ?_
  refine TL.p Pu.mv ?_
  refine TL.p (by first | exact (Pu.ld ty_sc22) | exact (Pu.ldo ty_sc22)) ?_
  refine TL.p (Pu.ln Tryz.underlying22) ?_
  refine TL.p Pu.lt ?_
  refine TL.nil ?_
  refine TQ.thenN (hY2 _ _ ?_)
  refine TW.condF rfl ((by simp)) ?_
  refine TW.skip ?_
  refine TQ.thenN (hY1 _ _ ?_)
  refine TW.seq fun Y3 hY3 => ?_
  refine TW.seq fun Y4 hY4 => ?_
  refine TW.region ?_
  refine TL.p Pu.mv ?_
  refine TL.p (by first | exact (Pu.ld ty_sc3) | exact (Pu.ldo ty_sc3)) ?_
  refine TL.p Pu.le ?_
  refine TL.nil ?_
  refine TQ.thenN (hY4 _ _ ?_)
  refine TW.cond rfl (fun hc2 => ?_) (fun hc2 => ?_)
  · try simp only [decide_eq_true_eq, decide_eq_false_iff_not, Bool.not_eq_true', Bool.not_eq_false', Bool.and_eq_true, Bool.or_eq_true, Bool.and_eq_false_iff, Bool.or_eq_false_iff, Int.not_lt, Int.not_le] at hc2
    refine TW.ret ?_
    refine TQ.thenR ?_
    refine TQ.ret Tryz.results42 rfl (.nil) ?_
    exact fun w hw => ⟨(A, c, T, TA, Tc), rfl, by rw [leaf_small hc2]; exact hw⟩
  · try simp only [decide_eq_true_eq, decide_eq_false_iff_not, Bool.not_eq_true', Bool.not_eq_false', Bool.and_eq_true, Bool.or_eq_true, Bool.and_eq_false_iff, Bool.or_eq_false_iff, Int.not_lt, Int.not_le] at hc2
    refine TW.skip ?_
    refine TQ.thenN (hY3 _ _ ?_)
    refine TW.seq fun Y5 hY5 => ?_
    refine TW.region ?_
    refine TL.p Pu.as ?_
    refine TL.nil ?_
    refine TQ.thenN (hY5 _ _ ?_)
    refine TW.seq fun Y6 hY6 => ?_
    refine TW.seq fun Y7 hY7 => ?_
    refine TW.region ?_
    refine TL.p (by first | exact (Pu.ld ty_sc24) | exact (Pu.ldo ty_sc24)) ?_
    refine TL.p (Pu.ln Tryz.underlying24) ?_
    refine TL.p Pu.mv ?_
    refine TL.nil ?_
    refine TQ.thenN (hY7 _ _ ?_)
    refine TW.block ?_
    refine TW.loop4 (fun (k : Nat) (L : Option Addr × Nat) (TB : Nat → Option Addr) (Td : Nat → Nat) => [(72, .int .i64 (k : Int)), (71, .int .i64 (nc : Int)), (70, .slice Ac nc cc), (14, .slice L.1 k L.2), (0, .int .i64 (np : Int)), (1, .int .i64 (wsum P wv np way)), (2, .pointer (some ⟨bP, 0, none⟩)), (3, .pointer (some ⟨bN, 0, none⟩)), (4, .pointer (some ⟨bS, 0, none⟩)), (5, .pointer (some ⟨bV, 0, none⟩)), (6, .pointer (some ⟨bW, 0, none⟩)), (7, .pointer (some ⟨bC, 0, none⟩)), (8, .pointer (some ⟨bR, 0, none⟩)), (9, .pointer (some ⟨bB, 0, none⟩)), (10, .pointer (some ⟨bT, 0, none⟩))]) (fun k L TB Td => .own L.1 k L.2 34 3 (tieS TB (sln P np way) Td) :: .blk bS 91 [.slice Sd ns ns] :: .own Sd ns ns 24 1 (fun s => [.slice (A s) (sln P np way s) (c s)]) :: .blk bW 3 [.int .i64 st.worth] :: .blk bT 23 [.slice T.1 st.n T.2] :: .own T.1 st.n T.2 34 3 (tieS TA (sln P np st.way) Tc) :: (ownsK TB (sln P np way) Td (svl P np way) (2 * k) ++ (ownsK A (sln P np way) c (svl P np way) ns ++ ownsK TA (sln P np st.way) Tc (svl P np st.way) (2 * st.n)))) (fun k L TB Td => k ≤ nc ∧ ∀ j, j < k → okT P np r0 r1 cans b way j = true) (fun k L TB Td => nc - k) 0 (none, 0) (fun _ => none) (fun _ => 0) (by repeat (first | exact trivial | refine ⟨rfl, ?_⟩ | refine ⟨trivial, ?_⟩)) ?_ ?_ ?_
    · exact KSub.nilOwn (KSub.refl _)
    · exact ⟨by omega, fun j hj => by omega⟩
    rintro k L TB Td ⟨hk, hall⟩ Z1 hZ1
    refine TW.seq fun Y8 hY8 => ?_
    refine TW.region ?_
    refine TL.p Pu.lt ?_
    refine TL.nil ?_
    refine TQ.thenN (hY8 _ _ ?_)
    refine TW.seq fun Y9 hY9 => ?_
    refine TW.cond rfl (fun hc3 => ?_) (fun hc3 => ?_)
    · try simp only [decide_eq_true_eq, decide_eq_false_iff_not, Bool.not_eq_true', Bool.not_eq_false', Bool.and_eq_true, Bool.or_eq_true, Bool.and_eq_false_iff, Bool.or_eq_false_iff, Int.not_lt, Int.not_le] at hc3
      have hkn : k < nc := by omega
      have hA2 := aC (by omega)
      refine TW.skip ?_
      refine TQ.thenN (hY9 _ _ ?_)
      refine TW.seq fun Y10 hY10 => ?_
      refine TW.block ?_
      refine TW.seq fun Y11 hY11 => ?_
      refine TW.region ?_
      refine TL.p Pu.mv ?_
      refine TL.p (Pu.el ty_et24) ?_
      refine TL.p (by first | exact (Pu.ld ty_sc3) | exact (Pu.ldo ty_sc3)) ?_
      refine TL.p Pu.as ?_
      refine TL.p Pu.as ?_
      refine TL.nil ?_
      refine TQ.thenN (hY11 _ _ ?_)
      refine TW.seq fun Y12 hY12 => ?_
      refine TW.dw 15 ?_
      refine RK.tk (by first | exact (Pu.ld ty_sc91) | exact (Pu.ldo ty_sc91)) ?_
      refine RK.tk Pu.mv ?_
      refine RK.tk Pu.ml ?_
      refine RK.tk (Pu.el (q := 2 * k) ty_et91 (hk := by omega)) ?_
      refine RK.tk (by first | exact (Pu.ld ty_sc24) | exact (Pu.ldo ty_sc24)) ?_
      refine RK.tk (by first | exact (Pu.ld ty_sc91) | exact (Pu.ldo ty_sc91)) ?_
      refine RK.tk Pu.mv ?_
      refine RK.tk Pu.ml ?_
      refine RK.tk Pu.ad ?_
      refine RK.tk (Pu.el (q := 2 * k + 1) ty_et91 (hk := by omega)) ?_
      refine RK.tk (by first | exact (Pu.ld ty_sc24) | exact (Pu.ldo ty_sc24)) ?_
      refine RK.tk Pu.bd ?_
      refine RK.tk (by first | exact (Pu.ld ty_sc81) | exact (Pu.ldo ty_sc81)) ?_
      refine RK.tk Pu.bd ?_
      refine RK.float [.slice none 0 0, .slice none 0 0, .slice none 0 0, .slice none 0 0] ?_
      refine RK.ch [] ?_ ⟨ty_zr84, trivial⟩
      refine WK.n ?_
      intro b1
      first | refine TL.st ty_sz84 ?_ | refine TL.se ty_sz84 ?_
      refine TL.nil ?_
      refine TQ.thenN (hY12 _ _ ?_)
      refine TW.seq fun Y13 hY13 => ?_
      refine TW.seq fun Y14 hY14 => ?_
      refine TW.ex0k [.blk b1 84 [.slice (A (2 * k)) (sln P np way (2 * k)) (c (2 * k)), .slice (A (2 * k + 1)) (sln P np way (2 * k + 1)) (c (2 * k + 1)), .slice none 0 0, .slice Ar np cr]] ?_
      refine RG.tk 0 rfl (by first | exact (Pu.lds ty_ag84) | exact (Pu.ldso ty_ag84)) ?_
      refine RG.tk 1 rfl (by first | exact (Pu.ld ty_sc3) | exact (Pu.ldo ty_sc3)) ?_
      refine RG.a1 2 rfl (fun X2 hX2 => ?_)
      refine TL.cr rfl (enters Tryz.func38 rfl rfl) (fun w hw => by
          exact tie_balance hnp (ownsK_rd (A := A) (l := sln P np way) (c := c) (v := svl P np way) (n := ns) hw (fun φ hφ => by simp [hφ])) hkn (by omega) hr hb (rR.sat0 hw aR)) ?_
      refine TL.nil ?_
      refine TQ.nxt (hX2 _ _ (by repeat (first | exact HasL.nil | refine HasL.cons (by repeat (first | exact Pick.hd | apply Pick.tl)) ?_)) ?_)
      refine RG.tk 3 rfl Pu.ne ?_
      refine RG.tk 4 rfl Pu.mv ?_
      refine RG.guard (t := 95) rfl (fun hg1 => ?_) (fun hg1 => ?_)
      · try simp only [decide_eq_true_eq, decide_eq_false_iff_not, Bool.not_eq_true', Bool.not_eq_false', Int.natCast_pos] at hg1
        refine RG.ts 5 rfl ?_
        refine RG.ts 6 rfl ?_
        refine RG.ts 7 rfl ?_
        refine RG.ts 8 rfl ?_
        refine RG.ts 9 rfl ?_
        refine RG.ts 10 rfl ?_
        refine RG.ts 11 rfl ?_
        refine RG.ts 12 rfl ?_
        refine RG.tk 13 rfl Pu.kt ?_
        refine RG.nil ?_ (by kernel_rfl)
        refine TQ.thenN (hY14 _ _ ?_)
        refine TW.condT rfl rfl ?_
        refine TW.ret ?_
        refine TQ.thenR ?_
        refine TQ.blkR ?_
        refine TQ.thenR ?_
        refine TQ.thenR ?_
        refine TQ.blkR ?_
        refine TQ.thenR ?_
        refine TQ.ret Tryz.results42 rfl (.nil) ?_
        exact fun w hw => ⟨(A, c, T, TA, Tc), rfl, by
          rw [leaf_bad hkn (okT_no1 hg1)]
          exact hw.sub (by repeat (first | exact KSub.dropL _ (KSub.refl _) | refine KSub.cons Pick.hd ?_ | refine KSub.drop ?_))⟩
      · try simp only [decide_eq_true_eq, decide_eq_false_iff_not, Bool.not_eq_true', Bool.not_eq_false', Int.natCast_pos] at hg1
        refine RG.tk 5 rfl (by first | exact (Pu.lds ty_ag84) | exact (Pu.ldso ty_ag84)) ?_
        refine RG.tk 6 rfl (by first | exact Pu.fb ty_fa84_0 | exact Pu.fe ty_fa84_0) ?_
        refine RG.tk 7 rfl (by first | exact (Pu.lds ty_ag34) | exact (Pu.ldso ty_ag34)) ?_
        refine RG.tk 11 rfl Pu.mv ?_
        refine RG.a1 8 rfl (fun X8 hX8 => ?_)
        refine TL.gck rfl (enters Tryz.func44 rfl rfl) (fun w hw => by
            exact tie_all hnp (ownsK_rd (A := A) (l := sln P np way) (c := c) (v := svl P np way) (n := ns) hw (fun φ hφ => by simp [hφ])) hkn (by omega)) ?_
        rintro ⟨Aq, cq⟩
        refine TL.nil ?_
        refine TQ.nxt (hX8 _ _ (by repeat (first | exact HasL.nil | refine HasL.cons (by repeat (first | exact Pick.hd | apply Pick.tl)) ?_)) ?_)
        refine RG.a1 9 rfl (fun X9 hX9 => ?_)
        refine TL.cr rfl (enters Tryz.func43 rfl rfl) (fun w hw => by
            exact tie_weight hnp hr (rR.sat0 hw aR) (OwnR.rdr (hw.holds (.own Aq (tot (tln P np way k) 3) cq 3 1 (fun q => [.int .i64 (catI (tln P np way k) (tvl P np way k) q)])) (by simp)))) ?_
        refine TL.nil ?_
        refine TQ.nxt (hX9 _ _ (by repeat (first | exact HasL.nil | refine HasL.cons (by repeat (first | exact Pick.hd | apply Pick.tl)) ?_)) ?_)
        refine RG.tk 10 rfl Pu.fd ?_
        refine RG.tk 12 rfl Pu.gt ?_
        refine RG.tk 13 rfl Pu.kf ?_
        refine RG.nil ?_ (by kernel_rfl)
        refine TQ.thenN (hY14 _ _ ?_)
        refine TW.cond rfl (fun hc4 => ?_) (fun hc4 => ?_)
        · try simp only [decide_eq_true_eq, decide_eq_false_iff_not, Bool.not_eq_true', Bool.not_eq_false', Bool.and_eq_true, Bool.or_eq_true, Bool.and_eq_false_iff, Bool.or_eq_false_iff, Int.not_lt, Int.not_le] at hc4
          refine TW.ret ?_
          refine TQ.thenR ?_
          refine TQ.blkR ?_
          refine TQ.thenR ?_
          refine TQ.thenR ?_
          refine TQ.blkR ?_
          refine TQ.thenR ?_
          refine TQ.ret Tryz.results42 rfl (.nil) ?_
          exact fun w hw => ⟨(A, c, T, TA, Tc), rfl, by
            rw [leaf_bad hkn (okT_no2 (by omega))]
            exact hw.sub (by repeat (first | exact KSub.dropL _ (KSub.refl _) | refine KSub.cons Pick.hd ?_ | refine KSub.drop ?_))⟩
        · try simp only [decide_eq_true_eq, decide_eq_false_iff_not, Bool.not_eq_true', Bool.not_eq_false', Bool.and_eq_true, Bool.or_eq_true, Bool.and_eq_false_iff, Bool.or_eq_false_iff, Int.not_lt, Int.not_le] at hc4
          refine TW.skip ?_
          refine TQ.thenN (hY13 _ _ ?_)
          refine TW.dw 11 ?_
          refine RK.tk Pu.mv ?_
          refine RK.tk (by first | exact Pu.fb ty_fa84_0 | exact Pu.fe ty_fa84_0) ?_
          refine RK.tk (by first | exact Pu.fb ty_fa34_0 | exact Pu.fe ty_fa34_0) ?_
          refine RK.tk (by first | exact (Pu.ld ty_sc24) | exact (Pu.ldo ty_sc24)) ?_
          refine RK.keep ?_
          refine RK.tk (by first | exact Pu.fb ty_fa84_0 | exact Pu.fe ty_fa84_0) ?_
          refine RK.tk (by first | exact Pu.fb ty_fa34_1 | exact Pu.fe ty_fa34_1) ?_
          refine RK.tk (by first | exact (Pu.ld ty_sc24) | exact (Pu.ldo ty_sc24)) ?_
          refine RK.keep ?_
          refine RK.keep ?_
          refine RK.keep ?_
          refine RK.ch [false, false, true, false] ?_ trivial
          refine WK.call rfl (enters Tryz.func45 rfl rfl) rfl (fun w hw => by
              exact cloneI_any (by have := hl (2 * k); omega) ((ownsK_rd (A := A) (l := sln P np way) (c := c) (v := svl P np way) (n := ns) hw (fun φ hφ => by simp [hφ])) (2 * k) (by omega))) ?_
          rintro ⟨A1, d1⟩
          refine WK.call rfl (enters Tryz.func45 rfl rfl) rfl (fun w hw => by
              exact cloneI_any (by have := hl (2 * k + 1); omega) ((ownsK_rd (A := A) (l := sln P np way) (c := c) (v := svl P np way) (n := ns) hw (fun φ hφ => by simp [hφ])) (2 * k + 1) (by omega))) ?_
          rintro ⟨A2, d2⟩
          refine WK.p Pu.bd ?_
          refine WK.m Mk.bl ?_
          intro b2
          refine WK.n ?_
          first | refine TL.a0 ty_et23 ?_ | refine TL.ap ty_et23 ?_
          intro A3 c3
          refine TL.p Pu.as ?_
          refine TL.nil ?_
          refine TQ.blkN ?_
          refine TQ.thenN (hY10 _ _ ?_)
          refine TW.region ?_
          refine TL.p Pu.ad ?_
          refine TL.p Pu.mv ?_
          refine TL.nil ?_
          refine TQ.thenN (hZ1 (k + 1) (_, _) (updN (updN TB (2 * k) A1) (2 * k + 1) A2) (updN (updN Td (2 * k) d1) (2 * k + 1) d2) _ _ ?_ ?_ (by repeat (first | exact trivial | refine ⟨rfl, ?_⟩ | refine ⟨trivial, ?_⟩)) ?_)
          · refine ⟨by omega, fun j hj => ?_⟩
            by_cases h : j = k
            · subst h; exact okT_yes hg1 hc4
            · exact hall j (by omega)
          · exact (by first | omega | (simp only []; omega) | (simp; omega))
          · rw [ties_more]
            simp only [List.cons_append]
            refine KSub.own Pick.hd (fun i hi => tie_row hi) ?_
            repeat (first | exact KSub.drop (KSub.refl _) | exact KSub.drop (KSub.drop (KSub.drop (KSub.refl _))) | exact KSub.drop (KSub.drop (KSub.refl _)) | refine KSub.cons (by repeat (first | exact Pick.hd | apply Pick.tl)) ?_)
    · try simp only [decide_eq_true_eq, decide_eq_false_iff_not, Bool.not_eq_true', Bool.not_eq_false', Bool.and_eq_true, Bool.or_eq_true, Bool.and_eq_false_iff, Bool.or_eq_false_iff, Int.not_lt, Int.not_le] at hc3
      refine TW.exit ?_
      refine TQ.thenX ?_
      refine TQ.thenX ?_
      refine TQ.blkX ?_
      refine TQ.thenN (hY6 _ _ ?_)
      refine TW.region ?_
      obtain rfl : nc = k := by omega
      refine TL.perm (by repeat (first | exact perm_tail3 | apply List.Perm.cons)) ?_
      refine TL.p Pu.mv ?_
      refine TL.p Pu.mv ?_
      first | refine TL.st ty_sz23 ?_ | refine TL.se ty_sz23 ?_
      first | refine TL.st ty_sz3 ?_ | refine TL.se ty_sz3 ?_
      refine TL.nil ?_
      refine TQ.end Tryz.results42 rfl (.nil) ?_
      exact fun w hw => ⟨(A, c, L, TB, Td), rfl, by
        rw [leaf_good hc2 hall]
        exact hw.sub (by repeat (first | exact KSub.drop (KSub.dropL _ (KSub.refl _)) | refine KSub.cons (by repeat (first | exact Pick.hd | apply Pick.tl)) ?_))⟩
end Go.Proofs.YtljhdcclajikiaaGreatDoor
namespace Go.Proofs.YtljhdcclajikiaaGreatDoor
set_option linter.all false
set_option linter.unusedVariables false
set_option linter.unusedSimpArgs false
open Go.RowKit
theorem OwnR.le {w : World} {A : Option Addr} {n cp : Nat} {E : TypeId} {sz : Nat} {r : Nat → List Value} (h : OwnR w A n cp E sz r) : n ≤ cp := by
  rcases h.own.2 with ⟨e, h0⟩ | ⟨g, cap, cur, e, hg, hh, hnc, _⟩
  · injection e with e1 e2 e3
    omega
  · injection e with e1 e2 e3
    subst e3
    exact hnc
theorem TL.le {c : Cx} {Q : Exit → Act → World → Prop} {F : Fr} {K K' : List Fact} {ops : Array Oper} {rest : List Oper} {A : Option Addr} {n cp : Nat} {E : TypeId} {sz : Nat} {r : Nat → List Value} (hp : Pick K (.own A n cp E sz r) K') (h : n ≤ cp → TL c ops Q rest F K) : TL c ops Q rest F K := fun a w hF hK =>
  h (OwnR.le (hK.holds _ hp.mem)) a w hF hK
section
variable {A A2 : Nat → Option Addr} {l l2 c c2 : Nat → Nat} {v v2 : Nat → Nat → Int} {s : Nat} {Z : List Fact}
theorem ownsK_perm2 {n : Nat} (h : s < n) : (ownsK A l c v n ++ Z).Perm (.own (A s) (l s) (c s) 3 1 (fun k => [.int .i64 (v s k)]) :: (ownsX A l c v s n ++ Z)) := (ownsK_perm h).append_right Z
theorem ownsK_put {A8 : Option Addr} {l8 c8 : Nat} {r : Nat → List Value} (hA : A2 s = A8) (hl : l2 s = l8) (hc : c2 s = c8) (hr : ∀ k, k < l8 → r k = [.int .i64 (v2 s k)]) :
    ∀ {n : Nat}, s < n → (∀ i, i < n → i ≠ s → A i = A2 i ∧ l i = l2 i ∧ c i = c2 i ∧ v i = v2 i) → KSub (.own A8 l8 c8 3 1 r :: (ownsX A l c v s n ++ Z)) (ownsK A2 l2 c2 v2 n ++ Z)
  | n + 1, hs, ho => by
    by_cases hn : n = s
    · subst hn
      simp only [ownsX, ownsK, if_true, List.cons_append]
      subst hA hl hc
      refine KSub.own Pick.hd hr ?_
      rw [ownsK_congr (A2 := A2) (l2 := l2) (c2 := c2) (v2 := v2) fun i hi => ho i (by omega) (by omega)]
      exact KSub.refl _
    · obtain ⟨h1, h2, h3, h4⟩ := ho n (by omega) hn
      simp only [ownsX, ownsK, if_neg hn, List.cons_append, h1, h2, h3, h4]
      exact KSub.cons (Pick.tl Pick.hd) (ownsK_put hA hl hc hr (n := n) (by omega) fun i hi hne => ho i (by omega) hne)
end
section
variable {P i way q s k : Nat} {A : Nat → Option Addr} {c : Nat → Nat} {A8 : Option Addr} {c8 : Nat}
theorem sd_row1 (hq : q + 1 < P) : updR (fun s => [Value.slice (A s) (sln P i way s) (c s)]) q [.slice A8 (sln P i way q + 1) c8] s = [.slice (updN A q A8 s) (sln P (i + 1) (way * P + (q + 1)) s) (updN c q c8 s)] := by
  unfold updR updN
  by_cases h : s = q
  · subst h; rw [sln_put hq]; simp
  · rw [sln_same hq (by omega)]; simp [h]
theorem sd_row2 (hq : q + 1 < P) : updR (fun s => [Value.slice (A s) (sln P (i + 1) (way * P + (q + 1)) s) (c s)]) q [.slice (A q) (sln P i way q) (c q)] s = [.slice (A s) (sln P i way s) (c s)] := by
  unfold updR
  by_cases h : s = q
  · subst h; simp
  · rw [if_neg h]
    show [Value.slice (A s) (sln P (i + 1) (way * P + (q + 1)) s) (c s)] = _
    rw [sln_same hq (by omega)]
theorem put_row {iv : Int} (hiv : iv = i) (hq : q + 1 < P) (hk : k < sln P i way q + 1) : catR (sln P i way q) (fun k => [Value.int .i64 (svl P i way q k)]) (fun _ => [.int .i64 iv]) k = [.int .i64 (svl P (i + 1) (way * P + (q + 1)) q k)] := by
  simp only [catR]
  by_cases h : k < sln P i way q
  · rw [if_pos h, svl_put hq h]
  · obtain rfl : k = sln P i way q := by omega
    rw [if_neg h, svl_last hq, hiv]
end
def NextOk (P ns : Nat) (bP bN bS bV bW bC bR bB bT : Nat) (Sd Ap Av Ac Ar : Option Addr) (np cp nc cc cv cr : Nat) (fv : Value) (wv cans r0 r1 : Nat → Int) (b : Int) (i : Nat) (f : Nat → St → St) : Prop :=
  ∀ (w : World) (way : Nat) (iv sv : Int) (A : Nat → Option Addr) (c : Nat → Nat) (T : Option Addr × Nat) (TA : Nat → Option Addr) (Tc : Nat → Nat) (st : St), iv = i → sv = wsum P wv i way →
    Sat (feet (.blk bS 91 [.slice Sd ns ns] :: .own Sd ns ns 24 1 (fun s => [.slice (A s) (sln P i way s) (c s)]) :: .blk bW 3 [.int .i64 st.worth] :: .blk bT 23 [.slice T.1 st.n T.2] :: .own T.1 st.n T.2 34 3 (tieS TA (sln P np st.way) Tc) :: (ownsK A (sln P i way) c (svl P i way) ns ++ ownsK TA (sln P np st.way) Tc (svl P np st.way) (2 * st.n)))) w (.blk bS 91 [.slice Sd ns ns] :: .own Sd ns ns 24 1 (fun s => [.slice (A s) (sln P i way s) (c s)]) :: .blk bW 3 [.int .i64 st.worth] :: .blk bT 23 [.slice T.1 st.n T.2] :: .own T.1 st.n T.2 34 3 (tieS TA (sln P np st.way) Tc) :: (ownsK A (sln P i way) c (svl P i way) ns ++ ownsK TA (sln P np st.way) Tc (svl P np st.way) (2 * st.n))) w →
    SCx w (feet (.blk bS 91 [.slice Sd ns ns] :: .own Sd ns ns 24 1 (fun s => [.slice (A s) (sln P i way s) (c s)]) :: .blk bW 3 [.int .i64 st.worth] :: .blk bT 23 [.slice T.1 st.n T.2] :: .own T.1 st.n T.2 34 3 (tieS TA (sln P np st.way) Tc) :: (ownsK A (sln P i way) c (svl P i way) ns ++ ownsK TA (sln P np st.way) Tc (svl P np st.way) (2 * st.n)))) bP bN bV bC bR bB Ap Av Ac Ar np cp nc cc cv cr fv wv cans r0 r1 b →
    CallsK Tryz.prog 42 #[.int .i64 iv, .int .i64 sv, .pointer (some ⟨bP, 0, none⟩), .pointer (some ⟨bN, 0, none⟩), .pointer (some ⟨bS, 0, none⟩), .pointer (some ⟨bV, 0, none⟩), .pointer (some ⟨bW, 0, none⟩), .pointer (some ⟨bC, 0, none⟩), .pointer (some ⟨bR, 0, none⟩), .pointer (some ⟨bB, 0, none⟩), .pointer (some ⟨bT, 0, none⟩)] (.blk bS 91 [.slice Sd ns ns] :: .own Sd ns ns 24 1 (fun s => [.slice (A s) (sln P i way s) (c s)]) :: .blk bW 3 [.int .i64 st.worth] :: .blk bT 23 [.slice T.1 st.n T.2] :: .own T.1 st.n T.2 34 3 (tieS TA (sln P np st.way) Tc) :: (ownsK A (sln P i way) c (svl P i way) ns ++ ownsK TA (sln P np st.way) Tc (svl P np st.way) (2 * st.n))) w SX (fun _ => .tuple #[])
      (fun x => .blk bS 91 [.slice Sd ns ns] :: .own Sd ns ns 24 1 (fun s => [.slice (x.1 s) (sln P i way s) (x.2.1 s)]) :: .blk bW 3 [.int .i64 (f way st).worth] :: .blk bT 23 [.slice x.2.2.1.1 (f way st).n x.2.2.1.2] :: .own x.2.2.1.1 (f way st).n x.2.2.1.2 34 3 (tieS x.2.2.2.1 (sln P np (f way st).way) x.2.2.2.2) :: (ownsK x.1 (sln P i way) x.2.1 (svl P i way) ns ++ ownsK x.2.2.2.1 (sln P np (f way st).way) x.2.2.2.2 (svl P np (f way st).way) (2 * (f way st).n)))
section
variable {P ns : Nat} {bP bN bS bV bW bC bR bB bT : Nat} {Sd Ap Av Ac Ar : Option Addr} {np cp nc cc cv cr : Nat} {wv cans r0 r1 : Nat → Int} {b : Int}
theorem stow_same {i way : Nat} {A : Nat → Option Addr} {c : Nat → Nat} {T : Option Addr × Nat} {TA : Nat → Option Addr} {Tc : Nat → Nat} {wo : Int} {wy n : Nat} (hP : 0 < P) :
    (.blk bS 91 [.slice Sd ns ns] :: .own Sd ns ns 24 1 (fun s => [.slice (A s) (sln P (i + 1) (way * P + 0) s) (c s)]) :: .blk bW 3 [.int .i64 wo] :: .blk bT 23 [.slice T.1 n T.2] :: .own T.1 n T.2 34 3 (tieS TA (sln P np wy) Tc) :: (ownsK A (sln P (i + 1) (way * P + 0)) c (svl P (i + 1) (way * P + 0)) ns ++ ownsK TA (sln P np wy) Tc (svl P np wy) (2 * n))) = .blk bS 91 [.slice Sd ns ns] :: .own Sd ns ns 24 1 (fun s => [.slice (A s) (sln P i way s) (c s)]) :: .blk bW 3 [.int .i64 wo] :: .blk bT 23 [.slice T.1 n T.2] :: .own T.1 n T.2 34 3 (tieS TA (sln P np wy) Tc) :: (ownsK A (sln P i way) c (svl P i way) ns ++ ownsK TA (sln P np wy) Tc (svl P np wy) (2 * n)) := by
  have e1 : sln P (i + 1) (way * P + 0) = sln P i way := funext fun s => sln_same hP (by omega)
  have e2 : svl P (i + 1) (way * P + 0) = svl P i way := funext fun s => svl_same hP (by omega)
  rw [e1, e2]
set_option maxRecDepth 100000 in
set_option maxHeartbeats 1000000 in
theorem next_step {i : Nat} {f : Nat → St → St} (hi : i < np) (hns : ns ≤ 2 * nc ∧ 2 * nc ≤ ns) (hP : P ≤ ns + 1 ∧ ns + 1 ≤ P)
    (ih : NextOk P ns bP bN bS bV bW bC bR bB bT Sd Ap Av Ac Ar np cp nc cc cv cr (.func (.func 42) #[] ([.pointer (some ⟨bP, 0, none⟩), .pointer (some ⟨bN, 0, none⟩), .pointer (some ⟨bS, 0, none⟩), .pointer (some ⟨bV, 0, none⟩), .pointer (some ⟨bW, 0, none⟩), .pointer (some ⟨bC, 0, none⟩), .pointer (some ⟨bR, 0, none⟩), .pointer (some ⟨bB, 0, none⟩), .pointer (some ⟨bT, 0, none⟩)]).toArray) wv cans r0 r1 b (i + 1) f) :
    NextOk P ns bP bN bS bV bW bC bR bB bT Sd Ap Av Ac Ar np cp nc cc cv cr (.func (.func 42) #[] ([.pointer (some ⟨bP, 0, none⟩), .pointer (some ⟨bN, 0, none⟩), .pointer (some ⟨bS, 0, none⟩), .pointer (some ⟨bV, 0, none⟩), .pointer (some ⟨bW, 0, none⟩), .pointer (some ⟨bC, 0, none⟩), .pointer (some ⟨bR, 0, none⟩), .pointer (some ⟨bB, 0, none⟩), .pointer (some ⟨bT, 0, none⟩)]).toArray) wv cans r0 r1 b i (fun way st => iter (fun q st => f (way * P + q) st) P st) := by
  intro w way iv sv A0 c0 T0 TA0 Tc0 st hiv hsv hM hX
  have hiv2 : iv ≤ i ∧ i ≤ iv := by omega
  have hsv2 : sv ≤ wsum P wv i way ∧ wsum P wv i way ≤ sv := by omega
  clear hiv hsv
  have hX0 := hX
  obtain ⟨oP, oN, oV, oC, oR, oB, nP, nN, nV, nC, nR, nB, rV, rC, rR, aV, aC, aR, hr, hnp, hnc, hb, hwv⟩ := hX
  have ap1 := apart_of nP
  have ap2 := apart_of nC
  have ap3 := apart_of nR
  have ap4 := apart_of nB
  have ap5 := apart_of nN
  have ap6 := apart_of nV
  have apV := aV (by omega)
  have hwi := hwv i hi
  have hsum := wsum_bd (P := P) (wv := wv) (i := i) (w := way) (fun k hk => hwv k (by omega))
  refine K_enter (S := feet _) (K := .blk bS 91 [.slice Sd ns ns] :: .own Sd ns ns 24 1 (fun s => [.slice (A0 s) (sln P i way s) (c0 s)]) :: .blk bW 3 [.int .i64 st.worth] :: .blk bT 23 [.slice T0.1 st.n T0.2] :: .own T0.1 st.n T0.2 34 3 (tieS TA0 (sln P np st.way) Tc0) :: (ownsK A0 (sln P i way) c0 (svl P i way) ns ++ ownsK TA0 (sln P np st.way) Tc0 (svl P np st.way) (2 * st.n))) Tryz.func42 rfl Tryz.ntmps42 rfl hM ?_
  refine TW.seq fun Y1 hY1 => ?_
  refine TW.seq fun Y2 hY2 => ?_
  refine TW.region ?_
  refine TL.p Pu.mv ?_
  refine TL.p (by first | exact (Pu.ld ty_sc22) | exact (Pu.ldo ty_sc22)) ?_
  refine TL.p (Pu.ln Tryz.underlying22) ?_
  refine TL.p Pu.lt ?_
  refine TL.nil ?_
  refine TQ.thenN (hY2 _ _ ?_)
  refine TW.condT rfl ((by simp; omega)) ?_
  refine TW.seq fun Y3 hY3 => ?_
  refine TW.region ?_
  refine TL.p (by first | exact (Pu.ld ty_sc92) | exact (Pu.ldo ty_sc92)) ?_
  refine TL.p Pu.mv ?_
  refine TL.p Pu.ad ?_
  refine TL.p Pu.mv ?_
  refine TL.perm (show (.blk bS 91 [.slice Sd ns ns] :: .own Sd ns ns 24 1 (fun s => [.slice (A0 s) (sln P i way s) (c0 s)]) :: .blk bW 3 [.int .i64 st.worth] :: .blk bT 23 [.slice T0.1 st.n T0.2] :: .own T0.1 st.n T0.2 34 3 (tieS TA0 (sln P np st.way) Tc0) :: (ownsK A0 (sln P i way) c0 (svl P i way) ns ++ ownsK TA0 (sln P np st.way) Tc0 (svl P np st.way) (2 * st.n))).Perm (.blk bS 91 [.slice Sd ns ns] :: .own Sd ns ns 24 1 (fun s => [.slice (A0 s) (sln P (i + 1) (way * P + 0) s) (c0 s)]) :: .blk bW 3 [.int .i64 st.worth] :: .blk bT 23 [.slice T0.1 st.n T0.2] :: .own T0.1 st.n T0.2 34 3 (tieS TA0 (sln P np st.way) Tc0) :: (ownsK A0 (sln P (i + 1) (way * P + 0)) c0 (svl P (i + 1) (way * P + 0)) ns ++ ownsK TA0 (sln P np st.way) Tc0 (svl P np st.way) (2 * st.n))) from by rw [stow_same (by omega)]) ?_
  refine TL.cvk rfl rfl (enters Tryz.func42 rfl rfl) (by rw [List.append_nil]) (fun w hw => by
      exact ih w (way * P + 0) (iv + 1) sv A0 c0 T0 TA0 Tc0 st (by omega) (by rw [wsum_child (by omega)]; simp; omega) hw.self (hX0.sat hw fun _ h => h)) ?_
  rintro ⟨A', c', T', TA', Tc'⟩
  refine TL.perm (by rw [List.append_nil]) ?_
  refine TL.nil ?_
  refine TQ.thenN (hY3 _ _ ?_)
  refine TW.seq fun Y4 hY4 => ?_
  refine TW.seq fun Y5 hY5 => ?_
  refine TW.region ?_
  refine TL.p (by first | exact (Pu.ld ty_sc91) | exact (Pu.ldo ty_sc91)) ?_
  refine TL.p (Pu.ln Tryz.underlying91) ?_
  refine TL.p Pu.mv ?_
  refine TL.nil ?_
  refine TQ.thenN (hY5 _ _ ?_)
  refine TW.block ?_
  refine TW.loop6 (fun (q : Nat) (A : Nat → Option Addr) (c : Nat → Nat) (T : Option Addr × Nat) (TA : Nat → Option Addr) (Tc : Nat → Nat) => [(29, .int .i64 (q : Int)), (28, .int .i64 (ns : Int)), (0, .int .i64 iv), (1, .int .i64 sv), (2, .pointer (some ⟨bP, 0, none⟩)), (3, .pointer (some ⟨bN, 0, none⟩)), (4, .pointer (some ⟨bS, 0, none⟩)), (5, .pointer (some ⟨bV, 0, none⟩)), (6, .pointer (some ⟨bW, 0, none⟩)), (7, .pointer (some ⟨bC, 0, none⟩)), (8, .pointer (some ⟨bR, 0, none⟩)), (9, .pointer (some ⟨bB, 0, none⟩)), (10, .pointer (some ⟨bT, 0, none⟩))]) (fun q A c T TA Tc => .blk bS 91 [.slice Sd ns ns] :: .own Sd ns ns 24 1 (fun s => [.slice (A s) (sln P i way s) (c s)]) :: .blk bW 3 [.int .i64 (iter (fun q st => f (way * P + q) st) (q + 1) st).worth] :: .blk bT 23 [.slice T.1 (iter (fun q st => f (way * P + q) st) (q + 1) st).n T.2] :: .own T.1 (iter (fun q st => f (way * P + q) st) (q + 1) st).n T.2 34 3 (tieS TA (sln P np (iter (fun q st => f (way * P + q) st) (q + 1) st).way) Tc) :: (ownsK A (sln P i way) c (svl P i way) ns ++ ownsK TA (sln P np (iter (fun q st => f (way * P + q) st) (q + 1) st).way) Tc (svl P np (iter (fun q st => f (way * P + q) st) (q + 1) st).way) (2 * (iter (fun q st => f (way * P + q) st) (q + 1) st).n))) (fun q A c T TA Tc => q ≤ ns) (fun q A c T TA Tc => ns - q) 0 A' c' T' TA' Tc' (by repeat (first | exact trivial | refine ⟨rfl, ?_⟩ | refine ⟨trivial, ?_⟩)) ?_ ?_ ?_
  · exact KSub.perm (by rw [stow_same (by omega)]; exact List.Perm.refl _)
  · exact Nat.zero_le _
  rintro q A c T TA Tc hq Z0 hZ0
  refine TW.seq fun Y6 hY6 => ?_
  refine TW.region ?_
  refine TL.p Pu.lt ?_
  refine TL.nil ?_
  refine TQ.thenN (hY6 _ _ ?_)
  refine TW.seq fun Y7 hY7 => ?_
  refine TW.cond rfl (fun hc1 => ?_) (fun hc1 => ?_)
  · try simp only [decide_eq_true_eq, decide_eq_false_iff_not, Bool.not_eq_true', Bool.not_eq_false', Bool.and_eq_true, Bool.or_eq_true, Bool.and_eq_false_iff, Bool.or_eq_false_iff, Int.not_lt, Int.not_le] at hc1
    have hqn : q < ns := by omega
    have hlq := sln_le P i way q
    refine TW.skip ?_
    refine TQ.thenN (hY7 _ _ ?_)
    refine TW.seq fun Y8 hY8 => ?_
    refine TW.block ?_
    refine TW.seq fun Y9 hY9 => ?_
    refine TW.region ?_
    refine TL.perm (by repeat (first | exact ownsK_perm2 hqn | apply List.Perm.cons)) ?_
    refine TL.p Pu.mv ?_
    refine TL.p Pu.as ?_
    refine TL.nil ?_
    refine TQ.thenN (hY9 _ _ ?_)
    refine TW.seq fun Y10 hY10 => ?_
    refine TW.expk [.blk bS 91 [.slice Sd ns ns]] (fun (⟨A8, c8⟩ : Option Addr × Nat) => ([(13, .int .i64 (q : Int)), (29, .int .i64 (q : Int)), (28, .int .i64 (ns : Int)), (0, .int .i64 iv), (1, .int .i64 sv), (2, .pointer (some ⟨bP, 0, none⟩)), (3, .pointer (some ⟨bN, 0, none⟩)), (4, .pointer (some ⟨bS, 0, none⟩)), (5, .pointer (some ⟨bV, 0, none⟩)), (6, .pointer (some ⟨bW, 0, none⟩)), (7, .pointer (some ⟨bC, 0, none⟩)), (8, .pointer (some ⟨bR, 0, none⟩)), (9, .pointer (some ⟨bB, 0, none⟩)), (10, .pointer (some ⟨bT, 0, none⟩))] : Fr)) (fun (⟨A8, c8⟩ : Option Addr × Nat) => .own Sd ns ns 24 1 (updR (fun s => [.slice (A s) (sln P i way s) (c s)]) q [.slice A8 (sln P i way q + 1) c8]) :: .own A8 (sln P i way q + 1) c8 3 1 (catR (sln P i way q) (fun k => [.int .i64 (svl P i way q k)]) (fun _ => [.int .i64 iv])) :: .blk bS 91 [.slice Sd ns ns] :: .blk bW 3 [.int .i64 (iter (fun q st => f (way * P + q) st) (q + 1) st).worth] :: .blk bT 23 [.slice T.1 (iter (fun q st => f (way * P + q) st) (q + 1) st).n T.2] :: .own T.1 (iter (fun q st => f (way * P + q) st) (q + 1) st).n T.2 34 3 (tieS TA (sln P np (iter (fun q st => f (way * P + q) st) (q + 1) st).way) Tc) :: (ownsX A (sln P i way) c (svl P i way) q ns ++ ownsK TA (sln P np (iter (fun q st => f (way * P + q) st) (q + 1) st).way) Tc (svl P np (iter (fun q st => f (way * P + q) st) (q + 1) st).way) (2 * (iter (fun q st => f (way * P + q) st) (q + 1) st).n))) ?_ (fun hE => ?_)
    · rintro ⟨A8, c8⟩
      refine TQ.thenN (hY10 _ _ ?_)
      refine TW.seq fun Y11 hY11 => ?_
      refine TW.dw 9 ?_
      refine RK.tk (by first | exact (Pu.ld ty_sc92) | exact (Pu.ldo ty_sc92)) ?_
      refine RK.tk Pu.mv ?_
      refine RK.tk Pu.ad ?_
      refine RK.tk Pu.mv ?_
      refine RK.tk (by first | exact (Pu.ld ty_sc24) | exact (Pu.ldo ty_sc24)) ?_
      refine RK.tk Pu.mv ?_
      refine RK.tk (Pu.el (q := i) ty_et24 (hk := by omega)) ?_
      refine RK.tk (by first | exact (Pu.ld ty_sc3) | exact (Pu.ldo ty_sc3)) ?_
      refine RK.tk Pu.ad ?_
      refine RK.ch [] ?_ trivial
      refine WK.n ?_
      refine TL.subK (K' := .blk bS 91 [.slice Sd ns ns] :: .own Sd ns ns 24 1 (fun s => [.slice ((updN A q A8) s) (sln P (i + 1) (way * P + (q + 1)) s) ((updN c q c8) s)]) :: .blk bW 3 [.int .i64 (iter (fun q st => f (way * P + q) st) (q + 1) st).worth] :: .blk bT 23 [.slice T.1 (iter (fun q st => f (way * P + q) st) (q + 1) st).n T.2] :: .own T.1 (iter (fun q st => f (way * P + q) st) (q + 1) st).n T.2 34 3 (tieS TA (sln P np (iter (fun q st => f (way * P + q) st) (q + 1) st).way) Tc) :: (ownsK (updN A q A8) (sln P (i + 1) (way * P + (q + 1))) (updN c q c8) (svl P (i + 1) (way * P + (q + 1))) ns ++ ownsK TA (sln P np (iter (fun q st => f (way * P + q) st) (q + 1) st).way) Tc (svl P np (iter (fun q st => f (way * P + q) st) (q + 1) st).way) (2 * (iter (fun q st => f (way * P + q) st) (q + 1) st).n))) (by
        refine KSub.cons (by repeat (first | exact Pick.hd | apply Pick.tl)) ?_
        refine KSub.own (by repeat (first | exact Pick.hd | apply Pick.tl)) (fun s hs => sd_row1 (by omega)) ?_
        refine KSub.cons (by repeat (first | exact Pick.hd | apply Pick.tl)) (KSub.cons (by repeat (first | exact Pick.hd | apply Pick.tl)) (KSub.cons (by repeat (first | exact Pick.hd | apply Pick.tl)) ?_))
        exact ownsK_put (A := A) (A2 := updN A q A8) (l := sln P i way) (l2 := sln P (i + 1) (way * P + (q + 1))) (c := c) (c2 := updN c q c8) (v := svl P i way) (v2 := svl P (i + 1) (way * P + (q + 1))) (s := q) (A8 := A8) (l8 := sln P i way q + 1) (c8 := c8) (r := catR (sln P i way q) (fun k => [.int .i64 (svl P i way q k)]) (fun _ => [.int .i64 iv])) (if_pos rfl) (sln_put (by omega)) (if_pos rfl) (fun k hk => put_row (by omega) (by omega) hk) hqn (fun j hj hne => ⟨(if_neg hne).symm, (sln_same (P := P) (i := i) (w := way) (q := q + 1) (s := j) (by omega) (by omega)).symm, (if_neg hne).symm, (svl_same (P := P) (i := i) (w := way) (q := q + 1) (s := j) (by omega) (by omega)).symm⟩)) ?_
      refine TL.cvk rfl rfl (enters Tryz.func42 rfl rfl) (by rw [List.append_nil]) (fun w hw => by
          exact ih w (way * P + (q + 1)) (iv + 1) (sv + wv i) (updN A q A8) (updN c q c8) T TA Tc (iter (fun q st => f (way * P + q) st) (q + 1) st) (by omega) (by rw [wsum_child (by omega), if_neg (by omega)]; omega) hw.self (hX0.sat hw fun _ h => h)) ?_
      rintro ⟨A', c', T', TA', Tc'⟩
      dsimp only
      refine TL.perm (by rw [List.append_nil]) ?_
      refine TL.perm (by repeat (first | exact ownsK_perm2 hqn | apply List.Perm.cons)) ?_
      refine TL.le (n := sln P (i + 1) (way * P + (q + 1)) q) (A := A' q) (cp := c' q) (by repeat (first | exact Pick.hd | apply Pick.tl)) (fun hle => ?_)
      have hput : sln P (i + 1) (way * P + (q + 1)) q = sln P i way q + 1 := sln_put (by omega)
      refine TL.nil ?_
      refine TQ.thenN (hY11 _ _ ?_)
      refine TW.dw 14 ?_
      refine RK.tk (by first | exact (Pu.ld ty_sc91) | exact (Pu.ldo ty_sc91)) ?_
      refine RK.tk Pu.mv ?_
      refine RK.tk (by first | exact (Pu.ld ty_sc91) | exact (Pu.ldo ty_sc91)) ?_
      refine RK.tk Pu.mv ?_
      refine RK.tk (Pu.el ty_et91) ?_
      refine RK.tk (by first | exact (Pu.ld ty_sc24) | exact (Pu.ldo ty_sc24)) ?_
      refine RK.tk (by first | exact (Pu.ld ty_sc91) | exact (Pu.ldo ty_sc91)) ?_
      refine RK.tk Pu.mv ?_
      refine RK.tk (Pu.el ty_et91) ?_
      refine RK.tk (by first | exact (Pu.ld ty_sc24) | exact (Pu.ldo ty_sc24)) ?_
      refine RK.tk (Pu.ln Tryz.underlying24) ?_
      refine RK.tk Pu.sb ?_
      refine RK.tk (Pu.sh (q := sln P i way q) ty_et24 (hk := by omega)) ?_
      refine RK.tk (Pu.el ty_et91) ?_
      refine RK.ch [] ?_ trivial
      refine WK.n ?_
      refine TL.take (m := sln P i way q) (A := A' q) (n := sln P (i + 1) (way * P + (q + 1)) q) (by repeat (first | exact Pick.hd | apply Pick.tl)) (by omega) ?_
      first | refine TL.st ty_sz24 ?_ | refine TL.se ty_sz24 ?_
      refine TL.nil ?_
      refine TQ.blkN ?_
      refine TQ.thenN (hY8 _ _ ?_)
      refine TW.region ?_
      refine TL.p Pu.ad ?_
      refine TL.p Pu.mv ?_
      refine TL.nil ?_
      refine TQ.thenN (hZ0 (q + 1) A' c' T' TA' Tc' _ _ ?_ ?_ (by repeat (first | exact trivial | refine ⟨rfl, ?_⟩ | refine ⟨trivial, ?_⟩)) ?_)
      · exact (by omega)
      · exact (by first | omega | (simp only []; omega) | (simp; omega))
      · refine KSub.cons (by repeat (first | exact Pick.hd | apply Pick.tl)) ?_
        refine KSub.own (by repeat (first | exact Pick.hd | apply Pick.tl)) (fun s hs => sd_row2 (by omega)) ?_
        refine KSub.cons (by repeat (first | exact Pick.hd | apply Pick.tl)) (KSub.cons (by repeat (first | exact Pick.hd | apply Pick.tl)) (KSub.cons (by repeat (first | exact Pick.hd | apply Pick.tl)) ?_))
        exact ownsK_put (A := A') (A2 := A') (l := sln P (i + 1) (way * P + (q + 1))) (l2 := sln P i way) (c := c') (c2 := c') (v := svl P (i + 1) (way * P + (q + 1))) (v2 := svl P i way) (s := q) (A8 := A' q) (l8 := sln P i way q) (c8 := c' q) (r := fun k => [.int .i64 (svl P (i + 1) (way * P + (q + 1)) q k)]) rfl rfl rfl (fun k hk => by rw [svl_put (by omega) hk]) hqn (fun j hj hne => ⟨rfl, sln_same (P := P) (i := i) (w := way) (q := q + 1) (s := j) (by omega) (by omega), rfl, svl_same (P := P) (i := i) (w := way) (q := q + 1) (s := j) (by omega) (by omega)⟩)
    refine RG.tk 0 rfl (by first | exact (Pu.ld ty_sc91) | exact (Pu.ldo ty_sc91)) ?_
    refine RG.tk 1 rfl Pu.mv ?_
    refine RG.tk 2 rfl (by first | exact (Pu.ld ty_sc91) | exact (Pu.ldo ty_sc91)) ?_
    refine RG.tk 3 rfl Pu.mv ?_
    refine RG.tk 6 rfl Pu.mv ?_
    refine RG.a2 4 7 rfl rfl (fun X4 hX4 => ?_) (fun X7 hX7 => ?_)
    · refine TL.p (Pu.el ty_et91) ?_
      refine TL.nil ?_
      refine TQ.nxt (hX4 _ _ (by repeat (first | exact HasL.nil | refine HasL.cons (by repeat (first | exact Pick.hd | apply Pick.tl)) ?_)) ?_)
      refine RG.a2 5 7 rfl rfl (fun X5 hX5 => ?_) (fun X7 hX7 => ?_)
      · refine TL.p (by first | exact (Pu.ld ty_sc24) | exact (Pu.ldo ty_sc24)) ?_
        refine TL.nil ?_
        refine TQ.nxt (hX5 _ _ (by repeat (first | exact HasL.nil | refine HasL.cons (by repeat (first | exact Pick.hd | apply Pick.tl)) ?_)) ?_)
        refine RG.a1 7 rfl (fun X7 hX7 => ?_)
        refine TL.m Mk.bl ?_
        intro x7
        refine TL.nil ?_
        refine TQ.nxt (hX7 _ _ (by repeat (first | exact HasL.nil | refine HasL.cons (by repeat (first | exact Pick.hd | apply Pick.tl)) ?_)) ?_)
        refine RG.a1 8 rfl (fun X8 hX8 => ?_)
        first | refine TL.a0 ty_et24 ?_ | refine TL.ap ty_et24 ?_
        intro A8 c8
        refine TL.nil ?_
        refine TQ.nxt (hX8 _ _ (by repeat (first | exact HasL.nil | refine HasL.cons (by repeat (first | exact Pick.hd | apply Pick.tl)) ?_)) ?_)
        refine RG.a1 9 rfl (fun X9 hX9 => ?_)
        refine TL.p (Pu.el ty_et91) ?_
        refine TL.nil ?_
        refine TQ.nxt (hX9 _ _ (by repeat (first | exact HasL.nil | refine HasL.cons (by repeat (first | exact Pick.hd | apply Pick.tl)) ?_)) ?_)
        refine RG.a1 10 rfl (fun X10 hX10 => ?_)
        first | refine TL.st ty_sz24 ?_ | refine TL.se ty_sz24 ?_
        refine TL.nil ?_
        refine TQ.nxt (hX10 _ _ (by repeat (first | exact HasL.nil | refine HasL.cons (by repeat (first | exact Pick.hd | apply Pick.tl)) ?_)) ?_)
        exact RG.nil (TQ.sub (by repeat (first | exact trivial | refine ⟨rfl, ?_⟩ | refine ⟨trivial, ?_⟩)) (by repeat (first | exact KSub.nil | refine KSub.cons (by repeat (first | exact Pick.hd | apply Pick.tl)) ?_ | exact KSub.refl _ | refine KSub.drop ?_)) (hE ⟨A8, c8⟩)) (by kernel_rfl)
      · refine TL.m Mk.bl ?_
        intro x7
        refine TL.nil ?_
        refine TQ.nxt (hX7 _ _ (by repeat (first | exact HasL.nil | refine HasL.cons (by repeat (first | exact Pick.hd | apply Pick.tl)) ?_)) ?_)
        refine RG.a1 5 rfl (fun X5 hX5 => ?_)
        refine TL.p (by first | exact (Pu.ld ty_sc24) | exact (Pu.ldo ty_sc24)) ?_
        refine TL.nil ?_
        refine TQ.nxt (hX5 _ _ (by repeat (first | exact HasL.nil | refine HasL.cons (by repeat (first | exact Pick.hd | apply Pick.tl)) ?_)) ?_)
        refine RG.a1 8 rfl (fun X8 hX8 => ?_)
        first | refine TL.a0 ty_et24 ?_ | refine TL.ap ty_et24 ?_
        intro A8 c8
        refine TL.nil ?_
        refine TQ.nxt (hX8 _ _ (by repeat (first | exact HasL.nil | refine HasL.cons (by repeat (first | exact Pick.hd | apply Pick.tl)) ?_)) ?_)
        refine RG.a1 9 rfl (fun X9 hX9 => ?_)
        refine TL.p (Pu.el ty_et91) ?_
        refine TL.nil ?_
        refine TQ.nxt (hX9 _ _ (by repeat (first | exact HasL.nil | refine HasL.cons (by repeat (first | exact Pick.hd | apply Pick.tl)) ?_)) ?_)
        refine RG.a1 10 rfl (fun X10 hX10 => ?_)
        first | refine TL.st ty_sz24 ?_ | refine TL.se ty_sz24 ?_
        refine TL.nil ?_
        refine TQ.nxt (hX10 _ _ (by repeat (first | exact HasL.nil | refine HasL.cons (by repeat (first | exact Pick.hd | apply Pick.tl)) ?_)) ?_)
        exact RG.nil (TQ.sub (by repeat (first | exact trivial | refine ⟨rfl, ?_⟩ | refine ⟨trivial, ?_⟩)) (by repeat (first | exact KSub.nil | refine KSub.cons (by repeat (first | exact Pick.hd | apply Pick.tl)) ?_ | exact KSub.refl _ | refine KSub.drop ?_)) (hE ⟨A8, c8⟩)) (by kernel_rfl)
    · refine TL.m Mk.bl ?_
      intro x7
      refine TL.nil ?_
      refine TQ.nxt (hX7 _ _ (by repeat (first | exact HasL.nil | refine HasL.cons (by repeat (first | exact Pick.hd | apply Pick.tl)) ?_)) ?_)
      refine RG.a1 4 rfl (fun X4 hX4 => ?_)
      refine TL.p (Pu.el ty_et91) ?_
      refine TL.nil ?_
      refine TQ.nxt (hX4 _ _ (by repeat (first | exact HasL.nil | refine HasL.cons (by repeat (first | exact Pick.hd | apply Pick.tl)) ?_)) ?_)
      refine RG.a1 5 rfl (fun X5 hX5 => ?_)
      refine TL.p (by first | exact (Pu.ld ty_sc24) | exact (Pu.ldo ty_sc24)) ?_
      refine TL.nil ?_
      refine TQ.nxt (hX5 _ _ (by repeat (first | exact HasL.nil | refine HasL.cons (by repeat (first | exact Pick.hd | apply Pick.tl)) ?_)) ?_)
      refine RG.a1 8 rfl (fun X8 hX8 => ?_)
      first | refine TL.a0 ty_et24 ?_ | refine TL.ap ty_et24 ?_
      intro A8 c8
      refine TL.nil ?_
      refine TQ.nxt (hX8 _ _ (by repeat (first | exact HasL.nil | refine HasL.cons (by repeat (first | exact Pick.hd | apply Pick.tl)) ?_)) ?_)
      refine RG.a1 9 rfl (fun X9 hX9 => ?_)
      refine TL.p (Pu.el ty_et91) ?_
      refine TL.nil ?_
      refine TQ.nxt (hX9 _ _ (by repeat (first | exact HasL.nil | refine HasL.cons (by repeat (first | exact Pick.hd | apply Pick.tl)) ?_)) ?_)
      refine RG.a1 10 rfl (fun X10 hX10 => ?_)
      first | refine TL.st ty_sz24 ?_ | refine TL.se ty_sz24 ?_
      refine TL.nil ?_
      refine TQ.nxt (hX10 _ _ (by repeat (first | exact HasL.nil | refine HasL.cons (by repeat (first | exact Pick.hd | apply Pick.tl)) ?_)) ?_)
      exact RG.nil (TQ.sub (by repeat (first | exact trivial | refine ⟨rfl, ?_⟩ | refine ⟨trivial, ?_⟩)) (by repeat (first | exact KSub.nil | refine KSub.cons (by repeat (first | exact Pick.hd | apply Pick.tl)) ?_ | exact KSub.refl _ | refine KSub.drop ?_)) (hE ⟨A8, c8⟩)) (by kernel_rfl)
  · try simp only [decide_eq_true_eq, decide_eq_false_iff_not, Bool.not_eq_true', Bool.not_eq_false', Bool.and_eq_true, Bool.or_eq_true, Bool.and_eq_false_iff, Bool.or_eq_false_iff, Int.not_lt, Int.not_le] at hc1
    obtain rfl : ns = q := by omega
    refine TW.exit ?_
    refine TQ.thenX ?_
    refine TQ.thenX ?_
    refine TQ.blkX ?_
    refine TQ.thenN (hY4 _ _ ?_)
    refine TW.ret ?_
    refine TQ.thenR ?_
    refine TQ.ret Tryz.results42 rfl (.nil) ?_
    have e : iter (fun q st => f (way * P + q) st) P st = iter (fun q st => f (way * P + q) st) (ns + 1) st := congrArg (fun n => iter (fun q st => f (way * P + q) st) n st) (by omega)
    exact fun w hw => ⟨(A, c, T, TA, Tc), rfl, by
      simp only [e]
      exact hw⟩
end
end Go.Proofs.YtljhdcclajikiaaGreatDoor
namespace Go.Proofs.YtljhdcclajikiaaGreatDoor
set_option linter.all false
set_option linter.unusedVariables false
set_option linter.unusedSimpArgs false
open Go.RowKit
section
variable {P ns : Nat} {bP bN bS bV bW bC bR bB bT : Nat} {Sd Ap Av Ac Ar : Option Addr} {np cp nc cc cv cr : Nat} {wv cans r0 r1 : Nat → Int} {b : Int}
theorem next_all (hns : ns ≤ 2 * nc ∧ 2 * nc ≤ ns) (hP : P ≤ ns + 1 ∧ ns + 1 ≤ P) : ∀ r, r ≤ np →
    NextOk P ns bP bN bS bV bW bC bR bB bT Sd Ap Av Ac Ar np cp nc cc cv cr (.func (.func 42) #[] ([.pointer (some ⟨bP, 0, none⟩), .pointer (some ⟨bN, 0, none⟩), .pointer (some ⟨bS, 0, none⟩), .pointer (some ⟨bV, 0, none⟩), .pointer (some ⟨bW, 0, none⟩), .pointer (some ⟨bC, 0, none⟩), .pointer (some ⟨bR, 0, none⟩), .pointer (some ⟨bB, 0, none⟩), .pointer (some ⟨bT, 0, none⟩)]).toArray) wv cans r0 r1 b (np - r) (dfs P (leafS P np nc r0 r1 cans wv b) r)
  | 0, _ => by
    intro w way iv sv A c T TA Tc st hiv hsv hM hX
    subst hiv hsv
    exact next_leaf hns hM hX
  | r + 1, h => by
    have h1 := next_all hns hP r (by omega)
    rw [show np - r = np - (r + 1) + 1 by omega] at h1
    exact next_step (by omega) hns hP h1
end
theorem KSub.left : ∀ (Y : List Fact) {R : List Fact}, KSub (Y ++ R) Y
  | [], _ => .nil
  | _ :: Y, _ => .cons .hd (KSub.left Y)
theorem nil_owns {P : Nat} {K L : List Fact} {v : Nat → Nat → Int} (h : KSub K L) : ∀ n, KSub K (ownsK (fun _ => none) (sln P 0 0) (fun _ => 0) v n ++ L)
  | 0 => h
  | n + 1 => KSub.nilOwn (nil_owns h n)
theorem disj_of {S : List Nat} {w0 w : World} {K M R : List Fact} (hs : Sat S w0 K w) (hp : K.Perm (M ++ R)) : ∀ φ ∈ R, ∀ b ∈ φ.foot, b ∉ feet M := fun φ hφ b hb hm => by
  have h1 := (hs.perm hp).nd
  rw [feet_append] at h1
  exact (List.nodup_append.1 h1).2.2 b hm b (List.mem_flatMap.2 ⟨φ, hφ, hb⟩) rfl
def code5 (e1 : Int) (b2 b3 b4 b5 : Bool) : Int := if e1 = 0 then (if b2 then (if b3 then (if b4 then (if b5 then 0 else 55) else 2) else 2) else 4) else e1
section
variable {e1 : Int} {b2 b3 b4 b5 : Bool}
theorem code5_1 (h1 : e1 ≠ 0) : code5 e1 b2 b3 b4 b5 = e1 := if_neg h1
theorem code5_2 (h1 : e1 = 0) (h2 : (if b2 then (0 : Int) else 4) ≠ 0) : code5 e1 b2 b3 b4 b5 = (if b2 then 0 else 4) := by cases b2 <;> simp_all [code5]
theorem code5_3 (h1 : e1 = 0) (h2 : (if b2 then (0 : Int) else 4) = 0) (h3 : (if b3 then (0 : Int) else 2) ≠ 0) : code5 e1 b2 b3 b4 b5 = (if b3 then 0 else 2) := by cases b2 <;> cases b3 <;> simp_all [code5]
theorem code5_4 (h1 : e1 = 0) (h2 : (if b2 then (0 : Int) else 4) = 0) (h3 : (if b3 then (0 : Int) else 2) = 0) (h4 : (if b4 then (0 : Int) else 2) ≠ 0) : code5 e1 b2 b3 b4 b5 = (if b4 then 0 else 2) := by cases b2 <;> cases b3 <;> cases b4 <;> simp_all [code5]
theorem code5_5 (h1 : e1 = 0) (h2 : (if b2 then (0 : Int) else 4) = 0) (h3 : (if b3 then (0 : Int) else 2) = 0) (h4 : (if b4 then (0 : Int) else 2) = 0) (h5 : (if b5 then (0 : Int) else 55) ≠ 0) : code5 e1 b2 b3 b4 b5 = (if b5 then 0 else 55) := by cases b2 <;> cases b3 <;> cases b4 <;> cases b5 <;> simp_all [code5]
theorem code5_0 (h1 : e1 = 0) (h2 : (if b2 then (0 : Int) else 4) = 0) (h3 : (if b3 then (0 : Int) else 2) = 0) (h4 : (if b4 then (0 : Int) else 2) = 0) (h5 : (if b5 then (0 : Int) else 55) = 0) : code5 e1 b2 b3 b4 b5 = 0 := by cases b2 <;> cases b3 <;> cases b4 <;> cases b5 <;> simp_all [code5]
end
def stowC (np : Nat) (pk : Nat → Nat → Int) (nc : Nat) (cans : Nat → Int) (nw : Nat) (wv : Nat → Int) (b : Int) : Int :=
  code5 (checkV np pk 0 (fun _ _ => 0) (fun _ _ _ => 0)) (decide ((np : Int) ≤ 7) && decide ((nc : Int) ≤ 2)) (inB5 0 1000000000 b) (allB nc fun k => inB5 0 1000000000 (cans k)) (decide ((nw : Int) = (np : Int)) && allB nw fun k => inB5 0 1000000000000 (wv k))
def stowB (np : Nat) (pk : Nat → Nat → Int) (nc : Nat) (cans wv : Nat → Int) (b : Int) : St := dfs (2 * nc + 1) (leafS (2 * nc + 1) np nc (fun q => rl (pk q)) (fun q => rh (pk q)) cans wv b) np 0 ⟨-1, 0, 0⟩
abbrev TX : Type := (Option Addr × Nat) × (Nat → Option Addr) × (Nat → Nat)
def tiesL (P np : Nat) (w n : Nat) (x : TX) : List Fact := .own x.1.1 n x.1.2 34 3 (tieS x.2.1 (sln P np w) x.2.2) :: ownsK x.2.1 (sln P np w) x.2.2 (svl P np w) (2 * n)
def stowL (bW bT np : Nat) (pk : Nat → Nat → Int) (nc : Nat) (cans wv : Nat → Int) (b : Int) (x : TX) : List Fact :=
  .blk bW 3 [.int .i64 (stowB np pk nc cans wv b).worth] :: .blk bT 23 [.slice x.1.1 (stowB np pk nc cans wv b).n x.1.2] :: tiesL (2 * nc + 1) np (stowB np pk nc cans wv b).way (stowB np pk nc cans wv b).n x
set_option maxRecDepth 100000 in
set_option maxHeartbeats 2000000 in
theorem stow1_any {w : World} {bP bC bB bV bW bT np cp nc cc nw cv : Nat} {Ap Ac Av : Option Addr} {pk : Nat → Nat → Int} {cans wv : Nat → Int} {b : Int}
    (hG : None0 w) (hnp : np ≤ 1000) (hnc : nc ≤ 1000) (hnw : nw ≤ 1000) (hR : RdR w 11 Ap np (fun k => packL (pk k))) (hC : RdR w 1 Ac nc (fun k => [.int .i64 (cans k)])) (hV : RdR w 1 Av nw (fun k => [.int .i64 (wv k)]))
    (aG : 0 ∉ [bW, bT]) (aR : 0 < np → Apart [bW, bT] Ap) (aC : 0 < nc → Apart [bW, bT] Ac) (aV : 0 < nw → Apart [bW, bT] Av)
    (oP : OldB w bP [.slice Ap np cp]) (oC : OldB w bC [.slice Ac nc cc]) (oB : OldB w bB [.int .i64 b]) (oV : OldB w bV [.slice Av nw cv]) (nP : bP ∉ [bW, bT]) (nC : bC ∉ [bW, bT]) (nB : bB ∉ [bW, bT]) (nV : bV ∉ [bW, bT])
    (hM : Sat [bW, bT] w [.blk bW 3 [.int .i64 0], .blk bT 23 [.slice none 0 0]] w) :
    Doing Tryz.prog 39 #[.pointer (some ⟨bP, 0, none⟩), .pointer (some ⟨bC, 0, none⟩), .pointer (some ⟨bB, 0, none⟩), .pointer (some ⟨bV, 0, none⟩), .pointer (some ⟨bW, 0, none⟩), .pointer (some ⟨bT, 0, none⟩)] [.blk bW 3 [.int .i64 0], .blk bT 23 [.slice none 0 0]] TX
      (fun x => if stowC np pk nc cans nw wv b = 0 then stowL bW bT np pk nc cans wv b x else [.blk bW 3 [.int .i64 0], .blk bT 23 [.slice none 0 0]]) (stowC np pk nc cans nw wv b) w := by
  have ap1 := apart_of nP
  have ap2 := apart_of nC
  have ap3 := apart_of nB
  have ap4 := apart_of nV
  refine K_enter (args := [.pointer (some ⟨bP, 0, none⟩), .pointer (some ⟨bC, 0, none⟩), .pointer (some ⟨bB, 0, none⟩), .pointer (some ⟨bV, 0, none⟩), .pointer (some ⟨bW, 0, none⟩), .pointer (some ⟨bT, 0, none⟩)]) (S := [bW, bT]) (K := [.blk bW 3 [.int .i64 0], .blk bT 23 [.slice none 0 0]]) Tryz.func39 rfl Tryz.ntmps39 rfl hM ?_
  refine TW.seq fun Y1 hY1 => ?_
  refine TW.region ?_
  refine TL.p (by first | exact (Pu.ld ty_sc22) | exact (Pu.ldo ty_sc22)) ?_
  refine TL.ct rfl (enters Tryz.func29 rfl rfl) (fun w hw => by
      exact check_any (a := fun _ _ => none) (l := fun _ _ => 0) (c := fun _ _ => 0) (v := fun _ _ _ => 0) (hG.sat hw aG) (by omega) (by omega) (hR.sat0 hw aR) ⟨Rd.nil, fun i hi => by omega⟩ (fun i hi => by omega) (fun i hi => by omega)) (fun hp1 => ?_) (fun hp1 => ?_)
  rotate_left
  · have hcode := code5_1 (b2 := decide ((np : Int) ≤ 7) && decide ((nc : Int) ≤ 2)) (b3 := inB5 0 1000000000 b) (b4 := allB nc fun k => inB5 0 1000000000 (cans k)) (b5 := decide ((nw : Int) = (np : Int)) && allB nw fun k => inB5 0 1000000000000 (wv k)) hp1
    refine TQ.thenP ?_
    refine TQ.pan rfl ?_
    exact fun w hw => Doing.no ((none, 0), fun _ => none, fun _ => 0) (by first | exact hp5 | exact hp4 | exact hp3 | exact hp2 | exact hp1) hcode (fun h => if_neg h) hw (by repeat (first | exact KSub.nil | refine KSub.cons (by repeat (first | exact Pick.hd | apply Pick.tl)) ?_))
  refine TL.nil ?_
  refine TQ.thenN (hY1 _ _ ?_)
  refine TW.seq fun Y2 hY2 => ?_
  refine TW.region ?_
  refine TL.p (by first | exact (Pu.ld ty_sc22) | exact (Pu.ldo ty_sc22)) ?_
  refine TL.p (Pu.ln Tryz.underlying22) ?_
  refine TL.p Pu.le ?_
  refine TL.p Pu.mv ?_
  refine TL.mid 8 [(18, .bool (decide ((np : Int) ≤ 7) && decide ((nc : Int) ≤ 2)))] ?_ (fun hM1 => ?_)
  · simp only [List.toList_toArray, List.drop_succ_cons, List.drop_zero]
    refine TL.ct rfl (enters Tryz.func40 rfl rfl) (fun w hw => by
        exact need_any _ _ _ (by decide)) (fun hp2 => ?_) (fun hp2 => ?_)
    rotate_left
    · have hcode := code5_2 (b3 := inB5 0 1000000000 b) (b4 := allB nc fun k => inB5 0 1000000000 (cans k)) (b5 := decide ((nw : Int) = (np : Int)) && allB nw fun k => inB5 0 1000000000000 (wv k)) hp1 hp2
      refine TQ.thenP ?_
      refine TQ.pan rfl ?_
      exact fun w hw => Doing.no ((none, 0), fun _ => none, fun _ => 0) (by first | exact hp5 | exact hp4 | exact hp3 | exact hp2 | exact hp1) hcode (fun h => if_neg h) hw (by repeat (first | exact KSub.nil | refine KSub.cons (by repeat (first | exact Pick.hd | apply Pick.tl)) ?_))
    refine TL.nil ?_
    refine TQ.thenN (hY2 _ _ ?_)
    refine TW.seq fun Y3 hY3 => ?_
    refine TW.region ?_
    refine TL.p (by first | exact (Pu.ld ty_sc3) | exact (Pu.ldo ty_sc3)) ?_
    refine TL.ct rfl (enters Tryz.func30 rfl rfl) (fun w hw => by
        exact bounded_any _ _) (fun hp3 => ?_) (fun hp3 => ?_)
    rotate_left
    · have hcode := code5_3 (b4 := allB nc fun k => inB5 0 1000000000 (cans k)) (b5 := decide ((nw : Int) = (np : Int)) && allB nw fun k => inB5 0 1000000000000 (wv k)) hp1 hp2 hp3
      refine TQ.thenP ?_
      refine TQ.pan rfl ?_
      exact fun w hw => Doing.no ((none, 0), fun _ => none, fun _ => 0) (by first | exact hp5 | exact hp4 | exact hp3 | exact hp2 | exact hp1) hcode (fun h => if_neg h) hw (by repeat (first | exact KSub.nil | refine KSub.cons (by repeat (first | exact Pick.hd | apply Pick.tl)) ?_))
    refine TL.nil ?_
    refine TQ.thenN (hY3 _ _ ?_)
    refine TW.seq fun Y4 hY4 => ?_
    refine TW.region ?_
    refine TL.p (by first | exact (Pu.ld ty_sc24) | exact (Pu.ldo ty_sc24)) ?_
    refine TL.cr rfl (enters Tryz.func41 rfl rfl) (fun w hw => by
        exact in_any _ _ (by omega) (hC.sat0 hw aC)) ?_
    refine TL.ct rfl (enters Tryz.func40 rfl rfl) (fun w hw => by
        exact need_any _ _ _ (by decide)) (fun hp4 => ?_) (fun hp4 => ?_)
    rotate_left
    · have hcode := code5_4 (b5 := decide ((nw : Int) = (np : Int)) && allB nw fun k => inB5 0 1000000000000 (wv k)) hp1 hp2 hp3 hp4
      refine TQ.thenP ?_
      refine TQ.pan rfl ?_
      exact fun w hw => Doing.no ((none, 0), fun _ => none, fun _ => 0) (by first | exact hp5 | exact hp4 | exact hp3 | exact hp2 | exact hp1) hcode (fun h => if_neg h) hw (by repeat (first | exact KSub.nil | refine KSub.cons (by repeat (first | exact Pick.hd | apply Pick.tl)) ?_))
    refine TL.nil ?_
    refine TQ.thenN (hY4 _ _ ?_)
    refine TW.seq fun Y5 hY5 => ?_
    refine TW.region ?_
    refine TL.p (by first | exact (Pu.ld ty_sc24) | exact (Pu.ldo ty_sc24)) ?_
    refine TL.p (Pu.ln Tryz.underlying24) ?_
    refine TL.p (by first | exact (Pu.ld ty_sc22) | exact (Pu.ldo ty_sc22)) ?_
    refine TL.p (Pu.ln Tryz.underlying22) ?_
    refine TL.p Pu.eq ?_
    refine TL.p Pu.mv ?_
    refine TL.mid 9 [(33, .bool (decide ((nw : Int) = (np : Int)) && allB nw fun k => inB5 0 1000000000000 (wv k)))] ?_ (fun hM2 => ?_)
    · simp only [List.toList_toArray, List.drop_succ_cons, List.drop_zero]
      refine TL.ct rfl (enters Tryz.func40 rfl rfl) (fun w hw => by
          exact need_any _ _ _ (by decide)) (fun hp5 => ?_) (fun hp5 => ?_)
      rotate_left
      · have hcode := code5_5 hp1 hp2 hp3 hp4 hp5
        refine TQ.thenP ?_
        refine TQ.pan rfl ?_
        exact fun w hw => Doing.no ((none, 0), fun _ => none, fun _ => 0) (by first | exact hp5 | exact hp4 | exact hp3 | exact hp2 | exact hp1) hcode (fun h => if_neg h) hw (by repeat (first | exact KSub.nil | refine KSub.cons (by repeat (first | exact Pick.hd | apply Pick.tl)) ?_))
      refine TL.nil ?_
      refine TQ.thenN (hY5 _ _ ?_)
      refine TW.seq fun Y6 hY6 => ?_
      refine TW.region ?_
      refine TL.p (by first | exact (Pu.ld ty_sc22) | exact (Pu.ldo ty_sc22)) ?_
      refine TL.call (M := []) rfl (enters Tryz.func33 rfl rfl) (List.Perm.refl _) rfl (fun w hw => by
          have hok := check_ok hp1
          exact rests_any (hG.sat hw aG) (by omega) hok.2.1 (hR.sat0 hw aR)) ?_
      rintro ⟨Ar, cr⟩
      refine TL.m (Mk.al ty_zr81) ?_
      intro b1
      first | refine TL.st ty_sz81 ?_ | refine TL.se ty_sz81 ?_
      refine TL.nil ?_
      refine TQ.thenN (hY6 _ _ ?_)
      refine TW.seq fun Y7 hY7 => ?_
      refine TW.region ?_
      refine TL.p (by first | exact (Pu.ld ty_sc24) | exact (Pu.ldo ty_sc24)) ?_
      refine TL.p (Pu.ln Tryz.underlying24) ?_
      refine TL.p Pu.ml ?_
      refine TL.ms (k := 2 * nc) ty_et91 ty_zr24 ?_ (hk := by omega)
      intro bm
      refine TL.m (Mk.al ty_zr91) ?_
      intro b2
      first | refine TL.st ty_sz91 ?_ | refine TL.se ty_sz91 ?_
      refine TL.nil ?_
      refine TQ.thenN (hY7 _ _ ?_)
      refine TW.seq fun Y8 hY8 => ?_
      refine TW.region ?_
      first | refine TL.st ty_sz3 ?_ | refine TL.se ty_sz3 ?_
      refine TL.nil ?_
      refine TQ.thenN (hY8 _ _ ?_)
      refine TW.seq fun Y9 hY9 => ?_
      refine TW.region ?_
      refine TL.m (Mk.al ty_zr92) ?_
      intro b3
      refine TL.nil ?_
      refine TQ.thenN (hY9 _ _ ?_)
      refine TW.seq fun Y10 hY10 => ?_
      refine TW.region ?_
      refine TL.p Pu.fn ?_
      first | refine TL.st ty_sz92 ?_ | refine TL.se ty_sz92 ?_
      refine TL.nil ?_
      refine TQ.thenN (hY10 _ _ ?_)
      refine TW.region ?_
      refine TL.p (by first | exact (Pu.ld ty_sc92) | exact (Pu.ldo ty_sc92)) ?_
      have hg7 := need_yes (by decide) hp2
      have hg3 := need_yes (by decide) hp3
      have hg4 := need_yes (by decide) hp4
      have hg5 := need_yes (by decide) hp5
      simp only [Bool.and_eq_true, decide_eq_true_eq] at hg7 hg5
      have enw : np = nw := by omega
      refine TL.subK (K' := .blk b2 91 [.slice (some ⟨bm, 0, none⟩) (2 * nc) (2 * nc)] :: .own (some ⟨bm, 0, none⟩) (2 * nc) (2 * nc) 24 1 (fun s => [.slice ((fun _ => none) s) (sln (2 * nc + 1) 0 0 s) ((fun _ => 0) s)]) :: .blk bW 3 [.int .i64 (-1)] :: .blk bT 23 [.slice none 0 0] :: .own none 0 0 34 3 (tieS (fun _ => none) (sln (2 * nc + 1) np 0) (fun _ => 0)) :: (ownsK (fun _ => none) (sln (2 * nc + 1) 0 0) (fun _ => 0) (svl (2 * nc + 1) 0 0) (2 * nc) ++ (.blk b3 92 [.func (.func 42) #[] ([.pointer (some ⟨bP, 0, none⟩), .pointer (some ⟨b3, 0, none⟩), .pointer (some ⟨b2, 0, none⟩), .pointer (some ⟨bV, 0, none⟩), .pointer (some ⟨bW, 0, none⟩), .pointer (some ⟨bC, 0, none⟩), .pointer (some ⟨b1, 0, none⟩), .pointer (some ⟨bB, 0, none⟩), .pointer (some ⟨bT, 0, none⟩)]).toArray] :: .blk b1 81 [.slice Ar np cr] :: .own Ar np cr 47 2 (fun q => spL (rl (pk q)) (rh (pk q))) :: []))) (by
        refine KSub.cons (by repeat (first | exact Pick.hd | apply Pick.tl)) (KSub.own (by repeat (first | exact Pick.hd | apply Pick.tl)) (fun s hs => rfl) (KSub.cons (by repeat (first | exact Pick.hd | apply Pick.tl)) (KSub.cons (by repeat (first | exact Pick.hd | apply Pick.tl)) (KSub.nilOwn (nil_owns ?_ _)))))
        repeat (first | exact KSub.nil | refine KSub.cons (by repeat (first | exact Pick.hd | apply Pick.tl)) ?_)) ?_
      refine TL.cvk rfl rfl (enters Tryz.func42 rfl rfl) (M := .blk b2 91 [.slice (some ⟨bm, 0, none⟩) (2 * nc) (2 * nc)] :: .own (some ⟨bm, 0, none⟩) (2 * nc) (2 * nc) 24 1 (fun s => [.slice ((fun _ => none) s) (sln (2 * nc + 1) 0 0 s) ((fun _ => 0) s)]) :: .blk bW 3 [.int .i64 (-1)] :: .blk bT 23 [.slice none 0 0] :: .own none 0 0 34 3 (tieS (fun _ => none) (sln (2 * nc + 1) np 0) (fun _ => 0)) :: (ownsK (fun _ => none) (sln (2 * nc + 1) 0 0) (fun _ => 0) (svl (2 * nc + 1) 0 0) (2 * nc) ++ ownsK (fun _ => none) (sln (2 * nc + 1) np 0) (fun _ => 0) (svl (2 * nc + 1) np 0) (2 * 0))) (K' := .blk b3 92 [.func (.func 42) #[] ([.pointer (some ⟨bP, 0, none⟩), .pointer (some ⟨b3, 0, none⟩), .pointer (some ⟨b2, 0, none⟩), .pointer (some ⟨bV, 0, none⟩), .pointer (some ⟨bW, 0, none⟩), .pointer (some ⟨bC, 0, none⟩), .pointer (some ⟨b1, 0, none⟩), .pointer (some ⟨bB, 0, none⟩), .pointer (some ⟨bT, 0, none⟩)]).toArray] :: .blk b1 81 [.slice Ar np cr] :: .own Ar np cr 47 2 (fun q => spL (rl (pk q)) (rh (pk q))) :: []) (List.Perm.of_eq (by simp [ownsK])) (fun w hw => by
          have hperm : (.blk b2 91 [.slice (some ⟨bm, 0, none⟩) (2 * nc) (2 * nc)] :: .own (some ⟨bm, 0, none⟩) (2 * nc) (2 * nc) 24 1 (fun s => [.slice ((fun _ => none) s) (sln (2 * nc + 1) 0 0 s) ((fun _ => 0) s)]) :: .blk bW 3 [.int .i64 (-1)] :: .blk bT 23 [.slice none 0 0] :: .own none 0 0 34 3 (tieS (fun _ => none) (sln (2 * nc + 1) np 0) (fun _ => 0)) :: (ownsK (fun _ => none) (sln (2 * nc + 1) 0 0) (fun _ => 0) (svl (2 * nc + 1) 0 0) (2 * nc) ++ (.blk b3 92 [.func (.func 42) #[] ([.pointer (some ⟨bP, 0, none⟩), .pointer (some ⟨b3, 0, none⟩), .pointer (some ⟨b2, 0, none⟩), .pointer (some ⟨bV, 0, none⟩), .pointer (some ⟨bW, 0, none⟩), .pointer (some ⟨bC, 0, none⟩), .pointer (some ⟨b1, 0, none⟩), .pointer (some ⟨bB, 0, none⟩), .pointer (some ⟨bT, 0, none⟩)]).toArray] :: .blk b1 81 [.slice Ar np cr] :: .own Ar np cr 47 2 (fun q => spL (rl (pk q)) (rh (pk q))) :: [])) : List Fact).Perm ((.blk b2 91 [.slice (some ⟨bm, 0, none⟩) (2 * nc) (2 * nc)] :: .own (some ⟨bm, 0, none⟩) (2 * nc) (2 * nc) 24 1 (fun s => [.slice ((fun _ => none) s) (sln (2 * nc + 1) 0 0 s) ((fun _ => 0) s)]) :: .blk bW 3 [.int .i64 (-1)] :: .blk bT 23 [.slice none 0 0] :: .own none 0 0 34 3 (tieS (fun _ => none) (sln (2 * nc + 1) np 0) (fun _ => 0)) :: (ownsK (fun _ => none) (sln (2 * nc + 1) 0 0) (fun _ => 0) (svl (2 * nc + 1) 0 0) (2 * nc) ++ ownsK (fun _ => none) (sln (2 * nc + 1) np 0) (fun _ => 0) (svl (2 * nc + 1) np 0) (2 * 0))) ++ (.blk b3 92 [.func (.func 42) #[] ([.pointer (some ⟨bP, 0, none⟩), .pointer (some ⟨b3, 0, none⟩), .pointer (some ⟨b2, 0, none⟩), .pointer (some ⟨bV, 0, none⟩), .pointer (some ⟨bW, 0, none⟩), .pointer (some ⟨bC, 0, none⟩), .pointer (some ⟨b1, 0, none⟩), .pointer (some ⟨bB, 0, none⟩), .pointer (some ⟨bT, 0, none⟩)]).toArray] :: .blk b1 81 [.slice Ar np cr] :: .own Ar np cr 47 2 (fun q => spL (rl (pk q)) (rh (pk q))) :: [])) := List.Perm.of_eq (by simp [ownsK])
          have hok := check_ok hp1
          have hsub : ∀ b ∈ feet (.blk b2 91 [.slice (some ⟨bm, 0, none⟩) (2 * nc) (2 * nc)] :: .own (some ⟨bm, 0, none⟩) (2 * nc) (2 * nc) 24 1 (fun s => [.slice ((fun _ => none) s) (sln (2 * nc + 1) 0 0 s) ((fun _ => 0) s)]) :: .blk bW 3 [.int .i64 (-1)] :: .blk bT 23 [.slice none 0 0] :: .own none 0 0 34 3 (tieS (fun _ => none) (sln (2 * nc + 1) np 0) (fun _ => 0)) :: (ownsK (fun _ => none) (sln (2 * nc + 1) 0 0) (fun _ => 0) (svl (2 * nc + 1) 0 0) (2 * nc) ++ ownsK (fun _ => none) (sln (2 * nc + 1) np 0) (fun _ => 0) (svl (2 * nc + 1) np 0) (2 * 0)) : List Fact), b ∈ feet (.blk b2 91 [.slice (some ⟨bm, 0, none⟩) (2 * nc) (2 * nc)] :: .own (some ⟨bm, 0, none⟩) (2 * nc) (2 * nc) 24 1 (fun s => [.slice ((fun _ => none) s) (sln (2 * nc + 1) 0 0 s) ((fun _ => 0) s)]) :: .blk bW 3 [.int .i64 (-1)] :: .blk bT 23 [.slice none 0 0] :: .own none 0 0 34 3 (tieS (fun _ => none) (sln (2 * nc + 1) np 0) (fun _ => 0)) :: (ownsK (fun _ => none) (sln (2 * nc + 1) 0 0) (fun _ => 0) (svl (2 * nc + 1) 0 0) (2 * nc) ++ (.blk b3 92 [.func (.func 42) #[] ([.pointer (some ⟨bP, 0, none⟩), .pointer (some ⟨b3, 0, none⟩), .pointer (some ⟨b2, 0, none⟩), .pointer (some ⟨bV, 0, none⟩), .pointer (some ⟨bW, 0, none⟩), .pointer (some ⟨bC, 0, none⟩), .pointer (some ⟨b1, 0, none⟩), .pointer (some ⟨bB, 0, none⟩), .pointer (some ⟨bT, 0, none⟩)]).toArray] :: .blk b1 81 [.slice Ar np cr] :: .own Ar np cr 47 2 (fun q => spL (rl (pk q)) (rh (pk q))) :: [])) : List Fact) := fun b hb => by
            have h1 : (feet (.blk b2 91 [.slice (some ⟨bm, 0, none⟩) (2 * nc) (2 * nc)] :: .own (some ⟨bm, 0, none⟩) (2 * nc) (2 * nc) 24 1 (fun s => [.slice ((fun _ => none) s) (sln (2 * nc + 1) 0 0 s) ((fun _ => 0) s)]) :: .blk bW 3 [.int .i64 (-1)] :: .blk bT 23 [.slice none 0 0] :: .own none 0 0 34 3 (tieS (fun _ => none) (sln (2 * nc + 1) np 0) (fun _ => 0)) :: (ownsK (fun _ => none) (sln (2 * nc + 1) 0 0) (fun _ => 0) (svl (2 * nc + 1) 0 0) (2 * nc) ++ (.blk b3 92 [.func (.func 42) #[] ([.pointer (some ⟨bP, 0, none⟩), .pointer (some ⟨b3, 0, none⟩), .pointer (some ⟨b2, 0, none⟩), .pointer (some ⟨bV, 0, none⟩), .pointer (some ⟨bW, 0, none⟩), .pointer (some ⟨bC, 0, none⟩), .pointer (some ⟨b1, 0, none⟩), .pointer (some ⟨bB, 0, none⟩), .pointer (some ⟨bT, 0, none⟩)]).toArray] :: .blk b1 81 [.slice Ar np cr] :: .own Ar np cr 47 2 (fun q => spL (rl (pk q)) (rh (pk q))) :: [])) : List Fact)).Perm _ := hperm.flatMap_right _
            rw [h1.mem_iff]
            show b ∈ feet _
            rw [feet_append]
            simp [hb]
          have hdj := disj_of hw hperm
          have hvl : ∀ k, k < np → 0 ≤ wv k ∧ wv k ≤ 1000000000000 := fun k hk => by
            have := allB_iff.1 hg5.2 k (by omega)
            simpa [inB5] using this
          have hV2 : RdR _ 1 Av np (fun k => [.int .i64 (wv k)]) := enw ▸ hV
          have oV2 : OldB _ bV [.slice Av np cv] := enw ▸ oV
          have aV2 : 0 < np → Apart [bW, bT] Av := fun h => aV (by omega)
          have hb3 : 0 ≤ b ∧ b ≤ 1000000000 := by simpa [inB5] using hg3
          have oN2 : OldB w b3 [(Value.func (.func 42) #[] ([.pointer (some ⟨bP, 0, none⟩), .pointer (some ⟨b3, 0, none⟩), .pointer (some ⟨b2, 0, none⟩), .pointer (some ⟨bV, 0, none⟩), .pointer (some ⟨bW, 0, none⟩), .pointer (some ⟨bC, 0, none⟩), .pointer (some ⟨b1, 0, none⟩), .pointer (some ⟨bB, 0, none⟩), .pointer (some ⟨bT, 0, none⟩)] : List Value).toArray)] := OldB.of_blk (T := 92) (cs := [(Value.func (.func 42) #[] ([.pointer (some ⟨bP, 0, none⟩), .pointer (some ⟨b3, 0, none⟩), .pointer (some ⟨b2, 0, none⟩), .pointer (some ⟨bV, 0, none⟩), .pointer (some ⟨bW, 0, none⟩), .pointer (some ⟨bC, 0, none⟩), .pointer (some ⟨b1, 0, none⟩), .pointer (some ⟨bB, 0, none⟩), .pointer (some ⟨bT, 0, none⟩)] : List Value).toArray)]) (hw.holds (.blk b3 92 [(Value.func (.func 42) #[] ([.pointer (some ⟨bP, 0, none⟩), .pointer (some ⟨b3, 0, none⟩), .pointer (some ⟨b2, 0, none⟩), .pointer (some ⟨bV, 0, none⟩), .pointer (some ⟨bW, 0, none⟩), .pointer (some ⟨bC, 0, none⟩), .pointer (some ⟨b1, 0, none⟩), .pointer (some ⟨bB, 0, none⟩), .pointer (some ⟨bT, 0, none⟩)] : List Value).toArray)]) (hperm.mem_iff.2 (by simp)))
          have hX : SCx w (feet (.blk b2 91 [.slice (some ⟨bm, 0, none⟩) (2 * nc) (2 * nc)] :: .own (some ⟨bm, 0, none⟩) (2 * nc) (2 * nc) 24 1 (fun s => [.slice ((fun _ => none) s) (sln (2 * nc + 1) 0 0 s) ((fun _ => 0) s)]) :: .blk bW 3 [.int .i64 (-1)] :: .blk bT 23 [.slice none 0 0] :: .own none 0 0 34 3 (tieS (fun _ => none) (sln (2 * nc + 1) np 0) (fun _ => 0)) :: (ownsK (fun _ => none) (sln (2 * nc + 1) 0 0) (fun _ => 0) (svl (2 * nc + 1) 0 0) (2 * nc) ++ ownsK (fun _ => none) (sln (2 * nc + 1) np 0) (fun _ => 0) (svl (2 * nc + 1) np 0) (2 * 0)))) bP b3 bV bC b1 bB Ap Av Ac Ar np cp nc cc cv cr (.func (.func 42) #[] ([.pointer (some ⟨bP, 0, none⟩), .pointer (some ⟨b3, 0, none⟩), .pointer (some ⟨b2, 0, none⟩), .pointer (some ⟨bV, 0, none⟩), .pointer (some ⟨bW, 0, none⟩), .pointer (some ⟨bC, 0, none⟩), .pointer (some ⟨b1, 0, none⟩), .pointer (some ⟨bB, 0, none⟩), .pointer (some ⟨bT, 0, none⟩)]).toArray) wv cans (fun q => rl (pk q)) (fun q => rh (pk q)) b :=
            ⟨oP.sat hw nP, oN2, oV2.sat hw nV, oC.sat hw nC, OldB.of_blk (hw.holds (.blk b1 81 [.slice Ar np cr]) (hperm.mem_iff.2 (by simp))), oB.sat hw nB,
              notin_sat hw hsub nP oP.1, hdj _ (List.mem_cons_self ..) b3 (by simp [Fact.foot]), notin_sat hw hsub nV oV.1, notin_sat hw hsub nC oC.1, hdj (.blk b1 81 [.slice Ar np cr]) (by simp) b1 (by simp [Fact.foot]), notin_sat hw hsub nB oB.1,
              hV2.sat0 hw aV2, hC.sat0 hw aC, OwnR.rdr (hw.holds (.own Ar np cr 47 2 (fun q => spL (rl (pk q)) (rh (pk q)))) (hperm.mem_iff.2 (by simp))), apart_sat hw hsub hV2 aV2, apart_sat hw hsub hC aC,
              fun _ q hq => hdj (.own Ar np cr 47 2 (fun q => spL (rl (pk q)) (rh (pk q)))) (by simp) q (by
                cases Ar with
                | none => cases hq
                | some p => simp at hq; simp [Fact.foot, hq]), RestOk.of_packs hok.2.1, by omega, by omega, hb3, hvl⟩
          have h9 := next_all (P := 2 * nc + 1) (ns := 2 * nc) (bP := bP) (bN := b3) (bS := b2) (bV := bV) (bW := bW) (bC := bC) (bR := b1) (bB := bB) (bT := bT) (Sd := some ⟨bm, 0, none⟩) (Ap := Ap) (Av := Av) (Ac := Ac) (Ar := Ar) (np := np) (cp := cp) (nc := nc) (cc := cc) (cv := cv) (cr := cr) (wv := wv) (cans := cans) (r0 := fun q => rl (pk q)) (r1 := fun q => rh (pk q)) (b := b) (by omega) (by omega) np (Nat.le_refl _)
          rw [Nat.sub_self] at h9
          exact h9 w 0 0 0 (fun _ => none) (fun _ => 0) (none, 0) (fun _ => none) (fun _ => 0) ⟨-1, 0, 0⟩ (by simp) rfl (Has.sat ⟨_, hperm⟩ hw).self hX) ?_
      rintro ⟨A', c', T', TA', Tc'⟩
      refine TL.nil ?_
      refine TQ.end Tryz.results39 rfl (.nil) ?_
      exact fun w hw => Doing.yes (T', TA', Tc') (code5_0 hp1 hp2 hp3 hp4 hp5) (fun h => if_pos h) hw (by
        unfold stowL tiesL
        simp only [List.cons_append, List.append_assoc]
        exact KSub.cons (by repeat (first | exact Pick.hd | apply Pick.tl)) (KSub.cons (by repeat (first | exact Pick.hd | apply Pick.tl)) (KSub.cons (by repeat (first | exact Pick.hd | apply Pick.tl)) (KSub.drop (KSub.drop (KSub.dropL _ (KSub.left _)))))))
    refine TL.guard (t := 30) rfl (fun hg1 => ?_) (fun hg1 => ?_)
    · refine TL.gd (by first | exact (Pu.ld ty_sc24) | exact (Pu.ldo ty_sc24)) ?_
      refine TL.cr rfl (enters Tryz.func41 rfl rfl) (fun w hw => by
          exact in_any _ _ (by omega) (hV.sat0 hw aV)) ?_
      refine TL.p Pu.kt ?_
      exact TL.sub (by repeat (first | exact trivial | refine ⟨rfl, ?_⟩ | refine ⟨trivial, ?_⟩ | refine ⟨(by show some (Value.bool _) = some (Value.bool _); simp [hg1]), ?_⟩)) (by repeat (first | exact KSub.nil | refine KSub.cons (by repeat (first | exact Pick.hd | apply Pick.tl)) ?_)) hM2
    · refine TL.gs ?_
      refine TL.gs ?_
      refine TL.p Pu.kf ?_
      exact TL.sub (by repeat (first | exact trivial | refine ⟨rfl, ?_⟩ | refine ⟨trivial, ?_⟩ | refine ⟨(by show some (Value.bool _) = some (Value.bool _); simp [hg1]), ?_⟩)) (by repeat (first | exact KSub.nil | refine KSub.cons (by repeat (first | exact Pick.hd | apply Pick.tl)) ?_)) hM2
  refine TL.guard (t := 14) rfl (fun hg2 => ?_) (fun hg2 => ?_)
  · refine TL.gd (by first | exact (Pu.ld ty_sc24) | exact (Pu.ldo ty_sc24)) ?_
    refine TL.gd (Pu.ln Tryz.underlying24) ?_
    refine TL.gd Pu.le ?_
    refine TL.p Pu.kt ?_
    exact TL.sub (by repeat (first | exact trivial | refine ⟨rfl, ?_⟩ | refine ⟨trivial, ?_⟩ | refine ⟨(by show some (Value.bool _) = some (Value.bool _); simp [hg2]), ?_⟩)) (by repeat (first | exact KSub.nil | refine KSub.cons (by repeat (first | exact Pick.hd | apply Pick.tl)) ?_)) hM1
  · refine TL.gs ?_
    refine TL.gs ?_
    refine TL.gs ?_
    refine TL.p Pu.kf ?_
    exact TL.sub (by repeat (first | exact trivial | refine ⟨rfl, ?_⟩ | refine ⟨trivial, ?_⟩ | refine ⟨(by show some (Value.bool _) = some (Value.bool _); simp [hg2]), ?_⟩)) (by repeat (first | exact KSub.nil | refine KSub.cons (by repeat (first | exact Pick.hd | apply Pick.tl)) ?_)) hM1
end Go.Proofs.YtljhdcclajikiaaGreatDoor
namespace Go.Proofs.YtljhdcclajikiaaGreatDoor
set_option linter.all false
set_option linter.unusedVariables false
set_option linter.unusedSimpArgs false
open Go.RowKit
def stowN (np : Nat) (pk : Nat → Nat → Int) (nc : Nat) (cans : Nat → Int) (nw : Nat) (wv : Nat → Int) (b : Int) : Nat := if stowC np pk nc cans nw wv b = 0 then (stowB np pk nc cans wv b).n else 0
def stowW (np : Nat) (pk : Nat → Nat → Int) (nc : Nat) (cans : Nat → Int) (nw : Nat) (wv : Nat → Int) (b : Int) : Int := if stowC np pk nc cans nw wv b = 0 then (stowB np pk nc cans wv b).worth else 0
set_option maxRecDepth 100000 in
set_option maxHeartbeats 1000000 in
theorem loadStow_any {w : World} {np cp nc cc nw cv : Nat} {Ap Ac Av : Option Addr} {pk : Nat → Nat → Int} {cans wv : Nat → Int} {b : Int}
    (hG : None0 w) (hnp : np ≤ 1000) (hnc : nc ≤ 1000) (hnw : nw ≤ 1000) (hR : RdR w 11 Ap np (fun k => packL (pk k))) (hC : RdR w 1 Ac nc (fun k => [.int .i64 (cans k)])) (hV : RdR w 1 Av nw (fun k => [.int .i64 (wv k)])) :
    CallsK Tryz.prog 10 #[.slice Ap np cp, .slice Ac nc cc, .slice Av nw cv, .int .i64 b] [] w TX (fun x => .tuple #[.slice x.1.1 (stowN np pk nc cans nw wv b) x.1.2, .int .i64 (stowW np pk nc cans nw wv b), .int .i64 (stowC np pk nc cans nw wv b)])
      (fun x => tiesL (2 * nc + 1) np (stowB np pk nc cans wv b).way (stowN np pk nc cans nw wv b) x) := by
  refine K_enter (S := []) (K := []) Tryz.func10 rfl Tryz.ntmps10 rfl (Sat.start _) ?_
  refine TW.seq fun Y1 hY1 => ?_
  refine TW.region ?_
  refine TL.m Mk.bx ?_
  intro b1
  refine TL.m Mk.bx ?_
  intro b2
  refine TL.m Mk.bx ?_
  intro b3
  refine TL.m Mk.bx ?_
  intro b4
  refine TL.m (Mk.al ty_zr23) ?_
  intro b5
  refine TL.m (Mk.al ty_zr3) ?_
  intro b6
  refine TL.p Pu.as ?_
  refine TL.nil ?_
  refine TQ.thenN (hY1 _ _ ?_)
  refine TW.seq fun Y2 hY2 => ?_
  refine TW.region ?_
  refine TL.p Pu.fn ?_
  refine TL.call rfl (enters Tryz.func27 rfl rfl) (M := [.blk b6 3 [.int .i64 0], .blk b5 23 [.slice none 0 0]]) (List.Perm.refl _) rfl (fun w hw => by
      have hB1 : Blk w b1 22 #[.slice Ap np cp] := hw.holds (.blk b1 22 [.slice Ap np cp]) (by simp)
      have hB2 : Blk w b2 24 #[.slice Ac nc cc] := hw.holds (.blk b2 24 [.slice Ac nc cc]) (by simp)
      have hB3 : Blk w b3 24 #[.slice Av nw cv] := hw.holds (.blk b3 24 [.slice Av nw cv]) (by simp)
      have hB4 : Blk w b4 3 #[.int .i64 b] := hw.holds (.blk b4 3 [.int .i64 b]) (by simp)
      have hnd := hw.nd
      simp [feet, Fact.foot] at hnd
      obtain ⟨hself, hge⟩ := feet_new (M := [.blk b6 3 [.int .i64 0], .blk b5 23 [.slice none 0 0]]) hw (List.Perm.refl _)
      have hge' : ∀ b ∈ [b6, b5], _ ≤ b := hge
      have hbel := Chg.ext hw.chg
      have m1 : b1 ∉ [b6, b5] := by simp; omega
      have m2 : b2 ∉ [b6, b5] := by simp; omega
      have m3 : b3 ∉ [b6, b5] := by simp; omega
      have m4 : b4 ∉ [b6, b5] := by simp; omega
      have m0 : 0 ∉ [b6, b5] := fun h => Nat.lt_irrefl 0 (Nat.lt_of_lt_of_le hG.1 (hge' 0 h))
      have aR := hR.apart (S := [b6, b5]) hge'
      have aC := hC.apart (S := [b6, b5]) hge'
      have aV := hV.apart (S := [b6, b5]) hge'
      have ht := trying_any (M := [.blk b6 3 [.int .i64 0], .blk b5 23 [.slice none 0 0]]) (code := stowC np pk nc cans nw wv b) (fs := []) (cs := [.pointer (some ⟨b1, 0, none⟩), .pointer (some ⟨b2, 0, none⟩), .pointer (some ⟨b4, 0, none⟩), .pointer (some ⟨b3, 0, none⟩), .pointer (some ⟨b6, 0, none⟩), .pointer (some ⟨b5, 0, none⟩)]) (enters Tryz.func39 rfl rfl) hself fun w' hw' => by
        have hb' := old_below hbel hw' hge
        exact stow1_any (cp := cp) (cc := cc) (cv := cv) (hG.ext hb') hnp hnc hnw (hR.sat (Sat.nil (Chg.of_ext hb')) Apart.nil) (hC.sat (Sat.nil (Chg.of_ext hb')) Apart.nil) (hV.sat (Sat.nil (Chg.of_ext hb')) Apart.nil) m0 aR aC aV ((OldB.of_blk (cs := [_]) hB1).sat hw' m1) ((OldB.of_blk (cs := [_]) hB2).sat hw' m2) ((OldB.of_blk (cs := [_]) hB4).sat hw' m4) ((OldB.of_blk (cs := [_]) hB3).sat hw' m3) m1 m2 m4 m3 hw'.self
      refine Calls.mono (R' := fun e w' => ∃ x : TX, e = .returned (.int .i64 (stowC np pk nc cans nw wv b)) ∧ Sat (feet [.blk b6 3 [.int .i64 0], .blk b5 23 [.slice none 0 0]]) w (.blk b6 3 [.int .i64 (stowW np pk nc cans nw wv b)] :: .blk b5 23 [.slice x.1.1 (stowN np pk nc cans nw wv b) x.1.2] :: tiesL (2 * nc + 1) np (stowB np pk nc cans wv b).way (stowN np pk nc cans nw wv b) x) w') ht ?_
      rintro e w' ⟨x, he, hs⟩
      unfold stowW stowN
      by_cases h0 : stowC np pk nc cans nw wv b = 0
      · refine ⟨x, he, ?_⟩
        replace hs : Sat _ w (if stowC np pk nc cans nw wv b = 0 then _ else _) w' := hs
        rw [if_pos h0] at hs
        rw [if_pos h0, if_pos h0]
        exact hs
      · refine ⟨((none, 0), fun _ => none, fun _ => 0), he, ?_⟩
        replace hs : Sat _ w (if stowC np pk nc cans nw wv b = 0 then _ else _) w' := hs
        rw [if_neg h0] at hs
        rw [if_neg h0, if_neg h0]
        exact hs.sub (KSub.cons Pick.hd (KSub.cons Pick.hd (KSub.nilOwn KSub.nil)))) ?_
  rintro ⟨⟨At, ct⟩, TA, Tc⟩
  refine TL.p Pu.as ?_
  refine TL.nil ?_
  refine TQ.thenN (hY2 _ _ ?_)
  refine TW.seq fun Y3 hY3 => ?_
  refine TW.ex0k [] ?_
  refine RG.tk 2 rfl Pu.mv ?_
  refine RG.a2 0 1 rfl rfl (fun X0 hX0 => ?_) (fun X1 hX1 => ?_)
  · refine TL.p (Pu.ld ty_sc23) ?_
    refine TL.nil ?_
    refine TQ.nxt (hX0 _ _ (by repeat (first | exact HasL.nil | refine HasL.cons (by repeat (first | exact Pick.hd | apply Pick.tl)) ?_)) ?_)
    refine RG.a2 1 3 rfl rfl (fun X1 hX1 => ?_) (fun X3 hX3 => ?_)
    · refine TL.p (Pu.ld ty_sc3) ?_
      refine TL.nil ?_
      refine TQ.nxt (hX1 _ _ (by repeat (first | exact HasL.nil | refine HasL.cons (by repeat (first | exact Pick.hd | apply Pick.tl)) ?_)) ?_)
      refine RG.a1 3 rfl (fun X3 hX3 => ?_)
      first | refine TL.st ty_sz23 ?_ | refine TL.se ty_sz23 ?_
      refine TL.nil ?_
      refine TQ.nxt (hX3 _ _ (by repeat (first | exact HasL.nil | refine HasL.cons (by repeat (first | exact Pick.hd | apply Pick.tl)) ?_)) ?_)
      refine RG.a1 4 rfl (fun X4 hX4 => ?_)
      first | refine TL.st ty_sz3 ?_ | refine TL.se ty_sz3 ?_
      refine TL.nil ?_
      refine TQ.nxt (hX4 _ _ (by repeat (first | exact HasL.nil | refine HasL.cons (by repeat (first | exact Pick.hd | apply Pick.tl)) ?_)) ?_)
      refine RG.tk 5 rfl Pu.as ?_
      refine RG.nil ?_ (by kernel_rfl)
      refine TQ.thenN (hY3 _ _ ?_)
      refine TW.ret ?_
      refine TQ.ret Tryz.results10 rfl ((RV.c1 ty_sc23 (RV.c1 ty_sc3 (.tmp rfl .nil)))) ?_
      exact fun w hw => ⟨((At, ct), TA, Tc), rfl, hw.sub (KSub.drop (KSub.drop (KSub.left _)))⟩
    · first | refine TL.st ty_sz23 ?_ | refine TL.se ty_sz23 ?_
      refine TL.nil ?_
      refine TQ.nxt (hX3 _ _ (by repeat (first | exact HasL.nil | refine HasL.cons (by repeat (first | exact Pick.hd | apply Pick.tl)) ?_)) ?_)
      refine RG.a1 1 rfl (fun X1 hX1 => ?_)
      refine TL.p (Pu.ld ty_sc3) ?_
      refine TL.nil ?_
      refine TQ.nxt (hX1 _ _ (by repeat (first | exact HasL.nil | refine HasL.cons (by repeat (first | exact Pick.hd | apply Pick.tl)) ?_)) ?_)
      refine RG.a1 4 rfl (fun X4 hX4 => ?_)
      first | refine TL.st ty_sz3 ?_ | refine TL.se ty_sz3 ?_
      refine TL.nil ?_
      refine TQ.nxt (hX4 _ _ (by repeat (first | exact HasL.nil | refine HasL.cons (by repeat (first | exact Pick.hd | apply Pick.tl)) ?_)) ?_)
      refine RG.tk 5 rfl Pu.as ?_
      refine RG.nil ?_ (by kernel_rfl)
      refine TQ.thenN (hY3 _ _ ?_)
      refine TW.ret ?_
      refine TQ.ret Tryz.results10 rfl ((RV.c1 ty_sc23 (RV.c1 ty_sc3 (.tmp rfl .nil)))) ?_
      exact fun w hw => ⟨((At, ct), TA, Tc), rfl, hw.sub (KSub.drop (KSub.drop (KSub.left _)))⟩
  · refine TL.p (Pu.ld ty_sc3) ?_
    refine TL.nil ?_
    refine TQ.nxt (hX1 _ _ (by repeat (first | exact HasL.nil | refine HasL.cons (by repeat (first | exact Pick.hd | apply Pick.tl)) ?_)) ?_)
    refine RG.a1 0 rfl (fun X0 hX0 => ?_)
    refine TL.p (Pu.ld ty_sc23) ?_
    refine TL.nil ?_
    refine TQ.nxt (hX0 _ _ (by repeat (first | exact HasL.nil | refine HasL.cons (by repeat (first | exact Pick.hd | apply Pick.tl)) ?_)) ?_)
    refine RG.a1 3 rfl (fun X3 hX3 => ?_)
    first | refine TL.st ty_sz23 ?_ | refine TL.se ty_sz23 ?_
    refine TL.nil ?_
    refine TQ.nxt (hX3 _ _ (by repeat (first | exact HasL.nil | refine HasL.cons (by repeat (first | exact Pick.hd | apply Pick.tl)) ?_)) ?_)
    refine RG.a1 4 rfl (fun X4 hX4 => ?_)
    first | refine TL.st ty_sz3 ?_ | refine TL.se ty_sz3 ?_
    refine TL.nil ?_
    refine TQ.nxt (hX4 _ _ (by repeat (first | exact HasL.nil | refine HasL.cons (by repeat (first | exact Pick.hd | apply Pick.tl)) ?_)) ?_)
    refine RG.tk 5 rfl Pu.as ?_
    refine RG.nil ?_ (by kernel_rfl)
    refine TQ.thenN (hY3 _ _ ?_)
    refine TW.ret ?_
    refine TQ.ret Tryz.results10 rfl ((RV.c1 ty_sc23 (RV.c1 ty_sc3 (.tmp rfl .nil)))) ?_
    exact fun w hw => ⟨((At, ct), TA, Tc), rfl, hw.sub (KSub.drop (KSub.drop (KSub.left _)))⟩
end Go.Proofs.YtljhdcclajikiaaGreatDoor
namespace Go.Proofs.YtljhdcclajikiaaGreatDoor
set_option linter.all false
set_option linter.unusedVariables false
set_option linter.unusedSimpArgs false
open Go.RowKit
theorem WK.gm {c : Cx} {Q : Exit → Act → World → Prop} {F : Fr} {K : List Fact} {ops : Array Oper} {nf : Nat} {fl : List Fl} {bs : List Bool} {pend : List (Nat × Oper)} {i : Nat} {d : Option Tmp} {op : Op} {ty : TypeId} {pos : String} {af : Array Edge} {g : Option (Nat × Bool)} {v : Nat → Value} {t : TypeId} {cs : List Value}
    (hm : Mk c F K ⟨d, op, ty, pos, af, g⟩ v t cs) (h : ∀ b, WK c ops Q nf fl bs pend (fput F d (v b)) (.blk b t cs :: K)) (hg : gdB F (frontOf ops nf) g = some true := by rfl) (hd : dok d c.n = true := by rfl) : WK c ops Q nf fl (false :: bs) ((i, ⟨d, op, ty, pos, af, g⟩) :: pend) F K :=
  WK.act fun a w' K' hF hK ho hK' => by
    refine wpOp_of ho (hF.wanted hg) ?_
    have hr := hm a w' hF hK
    unfold Oper.wp
    rw [hr]
    have hs : Sat [] w' [.blk w'.heap.size t cs] (w'.alloc (.cells cs.toArray t)) := (Sat.start w').new t cs
    exact hK' _ [.blk w'.heap.size t cs] _ _ hs (hF.fput hd _) (h w'.heap.size)
def sltP (h : Int) (j : Nat) : Int := ([1, 40000, 41000, 100, 200, 50, 100, 0, 0, h, 0] : List Int).getD j 0
def watP (d : Int) (j : Nat) : Int := ([3, 30000, 30000, 0, 0, 0, 0, 500, 600, 0, d] : List Int).getD j 0
def balN (k : Nat) : Int := ([10, 20, 30, 45] : List Int).getD k 0
def balP (k j : Nat) : Int := ([2, balN k, balN k, 0, 0, 0, 0, 0, 0, 0, 0] : List Int).getD j 0
def strB (j : Nat) : Int := ([1000, 1000, 0, 0, 0, 0, 0, 0, 0, 0, 0, 0, 0, 0, 0, 100, 120] : List Int).getD j 0
def strC (j : Nat) : Int := ([1000, 1000, 1000, 1000, 0, 0] : List Int).getD j 0
theorem span_any (a b : Int) (w : World) : Calls Tryz.prog 22 #[.int .i64 a, .int .i64 b] w (Ret w (.agg #[.int .i64 a, .int .i64 b])) := by
  refine K_enter (S := []) (K := []) Tryz.func22 rfl Tryz.ntmps22 rfl (Sat.start _) ?_
  refine TW.seq fun Y1 hY1 => ?_
  refine TW.region ?_
  refine TL.m (Mk.al ty_zr47) ?_
  intro b1
  refine TL.nil ?_
  refine TQ.thenN (hY1 _ _ ?_)
  refine TW.seq fun Y2 hY2 => ?_
  refine TW.region ?_
  refine TL.p Pu.mv ?_
  refine TL.p Pu.mv ?_
  refine TL.p Pu.bd ?_
  first | refine TL.st ty_sz47 ?_ | refine TL.se ty_sz47 ?_
  refine TL.nil ?_
  refine TQ.thenN (hY2 _ _ ?_)
  refine TW.ret ?_
  refine TQ.ret Tryz.results22 rfl ((RV.cs ty_ag47 .nil)) ?_
  exact fun w hw => Ret.of hw
theorem salt_any (h : Int) (w : World) : Calls Tryz.prog 15 #[.int .i64 h] w (Ret w (.agg (packL (sltP h)).toArray)) := by
  refine K_enter (S := []) (K := []) Tryz.func15 rfl Tryz.ntmps15 rfl (Sat.start _) ?_
  refine TW.seq fun Y1 hY1 => ?_
  refine TW.region ?_
  refine TL.m (Mk.al ty_zr58) ?_
  intro b1
  refine TL.nil ?_
  refine TQ.thenN (hY1 _ _ ?_)
  refine TW.seq fun Y2 hY2 => ?_
  refine TW.region ?_
  refine TL.cr rfl (enters Tryz.func22 rfl rfl) (fun w hw => by
      exact span_any _ _ _) ?_
  refine TL.cr rfl (enters Tryz.func22 rfl rfl) (fun w hw => by
      exact span_any _ _ _) ?_
  refine TL.cr rfl (enters Tryz.func22 rfl rfl) (fun w hw => by
      exact span_any _ _ _) ?_
  refine TL.p Pu.mv ?_
  refine TL.p Pu.bd ?_
  first | refine TL.st ty_sz58 ?_ | refine TL.se ty_sz58 ?_
  refine TL.nil ?_
  refine TQ.thenN (hY2 _ _ ?_)
  refine TW.ret ?_
  refine TQ.ret Tryz.results15 rfl ((RV.cs ty_ag58 .nil)) ?_
  exact fun w hw => Ret.of hw
theorem water_any (d : Int) (w : World) : Calls Tryz.prog 16 #[.int .i64 d] w (Ret w (.agg (packL (watP d)).toArray)) := by
  refine K_enter (S := []) (K := []) Tryz.func16 rfl Tryz.ntmps16 rfl (Sat.start _) ?_
  refine TW.seq fun Y1 hY1 => ?_
  refine TW.region ?_
  refine TL.m (Mk.al ty_zr58) ?_
  intro b1
  refine TL.nil ?_
  refine TQ.thenN (hY1 _ _ ?_)
  refine TW.seq fun Y2 hY2 => ?_
  refine TW.region ?_
  refine TL.cr rfl (enters Tryz.func22 rfl rfl) (fun w hw => by
      exact span_any _ _ _) ?_
  refine TL.cr rfl (enters Tryz.func22 rfl rfl) (fun w hw => by
      exact span_any _ _ _) ?_
  refine TL.p Pu.mv ?_
  refine TL.p Pu.bd ?_
  first | refine TL.st ty_sz58 ?_ | refine TL.se ty_sz58 ?_
  refine TL.nil ?_
  refine TQ.thenN (hY2 _ _ ?_)
  refine TW.ret ?_
  refine TQ.ret Tryz.results16 rfl ((RV.cs ty_ag58 .nil)) ?_
  exact fun w hw => Ret.of hw
theorem pair_any (A0 A1 : Option Addr) (n0 n1 c0 c1 : Nat) (w : World) : Calls Tryz.prog 18 #[.slice A0 n0 c0, .slice A1 n1 c1] w (Ret w (.agg #[.slice A0 n0 c0, .slice A1 n1 c1, .slice none 0 0])) := by
  refine K_enter (S := []) (K := []) Tryz.func18 rfl Tryz.ntmps18 rfl (Sat.start _) ?_
  refine TW.seq fun Y1 hY1 => ?_
  refine TW.region ?_
  refine TL.m (Mk.al ty_zr34) ?_
  intro b1
  refine TL.nil ?_
  refine TQ.thenN (hY1 _ _ ?_)
  refine TW.seq fun Y2 hY2 => ?_
  refine TW.region ?_
  refine TL.p Pu.mv ?_
  refine TL.p Pu.mv ?_
  refine TL.p Pu.bd ?_
  first | refine TL.st ty_sz34 ?_ | refine TL.se ty_sz34 ?_
  refine TL.nil ?_
  refine TQ.thenN (hY2 _ _ ?_)
  refine TW.ret ?_
  refine TQ.ret Tryz.results18 rfl ((RV.cs ty_ag34 .nil)) ?_
  exact fun w hw => Ret.of hw
theorem strong_any (w : World) : Calls Tryz.prog 20 #[] w (Ret w (.tuple #[.agg (breedL strB).toArray, .agg (camL strC false).toArray])) := by
  refine K_enter (S := []) (K := []) Tryz.func20 rfl Tryz.ntmps20 rfl (Sat.start _) ?_
  refine TW.seq fun Y1 hY1 => ?_
  refine TW.region ?_
  refine TL.m (Mk.al ty_zr65) ?_
  intro b1
  refine TL.m (Mk.al ty_zr67) ?_
  intro b2
  refine TL.nil ?_
  refine TQ.thenN (hY1 _ _ ?_)
  refine TW.seq fun Y2 hY2 => ?_
  refine TW.region ?_
  refine TL.cr rfl (enters Tryz.func22 rfl rfl) (fun w hw => by
      exact span_any _ _ _) ?_
  refine TL.p Pu.bd ?_
  refine TL.cr rfl (enters Tryz.func22 rfl rfl) (fun w hw => by
      exact span_any _ _ _) ?_
  refine TL.cr rfl (enters Tryz.func22 rfl rfl) (fun w hw => by
      exact span_any _ _ _) ?_
  refine TL.p Pu.bd ?_
  first | refine TL.st ty_sz65 ?_ | refine TL.se ty_sz65 ?_
  first | refine TL.st ty_sz67 ?_ | refine TL.se ty_sz67 ?_
  refine TL.nil ?_
  refine TQ.thenN (hY2 _ _ ?_)
  refine TW.ret ?_
  refine TQ.ret Tryz.results20 rfl ((RV.cs ty_ag65 (RV.cs ty_ag67 .nil))) ?_
  exact fun w hw => Ret.of hw
set_option maxRecDepth 100000 in
theorem bales_any (w : World) : CallsK Tryz.prog 17 #[] [] w (Option Addr × Nat) (fun x => .slice x.1 4 x.2) (fun x => [.own x.1 4 x.2 58 11 (fun k => packL (balP k))]) := by
  refine K_enter (S := []) (K := []) Tryz.func17 rfl Tryz.ntmps17 rfl (Sat.start _) ?_
  refine TW.seq fun Y1 hY1 => ?_
  refine TW.region ?_
  refine TL.p Pu.as ?_
  refine TL.nil ?_
  refine TQ.thenN (hY1 _ _ ?_)
  refine TW.seq fun Y2 hY2 => ?_
  refine TW.region ?_
  refine TL.p Pu.as ?_
  refine TL.nil ?_
  refine TQ.thenN (hY2 _ _ ?_)
  refine TW.seq fun Y3 hY3 => ?_
  refine TW.seq fun Y4 hY4 => ?_
  refine TW.region ?_
  refine TL.m Mk.bl ?_
  intro b1
  refine TL.p (Pu.ln Tryz.underlying24) ?_
  refine TL.p Pu.mv ?_
  refine TL.nil ?_
  refine TQ.thenN (hY4 _ _ ?_)
  refine TW.block ?_
  refine TW.loop3 (fun (k : Nat) (A : Option Addr) (cp : Nat) => [(6, .int .i64 (k : Int)), (5, .int .i64 4), (4, .slice (some ⟨b1, 0, none⟩) 4 4), (1, .slice A k cp)]) (fun k A cp => [.own A k cp 58 11 (fun k => packL (balP k)), .own (some ⟨b1, 0, none⟩) 4 4 3 1 (fun k => [.int .i64 (balN k)])]) (fun k A cp => k ≤ 4) (fun k A cp => 4 - k) 0 none 0 (by repeat (first | exact trivial | refine ⟨rfl, ?_⟩ | refine ⟨trivial, ?_⟩)) ?_ ?_ ?_
  · exact KSub.nilOwn (KSub.ofBlk Pick.hd rfl (fun i hi => rfl) rfl rfl KSub.nil)
  · exact Nat.zero_le _
  rintro k A cp hk Z0 hZ0
  refine TW.seq fun Y5 hY5 => ?_
  refine TW.region ?_
  refine TL.p Pu.lt ?_
  refine TL.nil ?_
  refine TQ.thenN (hY5 _ _ ?_)
  refine TW.seq fun Y6 hY6 => ?_
  refine TW.cond rfl (fun hc0 => ?_) (fun hc0 => ?_)
  · try simp only [decide_eq_true_eq, decide_eq_false_iff_not, Bool.not_eq_true', Bool.not_eq_false', Bool.and_eq_true, Bool.or_eq_true, Bool.and_eq_false_iff, Bool.or_eq_false_iff, Int.not_lt, Int.not_le] at hc0
    have hk4 : k < 4 := by omega
    refine TW.skip ?_
    refine TQ.thenN (hY6 _ _ ?_)
    refine TW.seq fun Y7 hY7 => ?_
    refine TW.block ?_
    refine TW.seq fun Y8 hY8 => ?_
    refine TW.region ?_
    refine TL.p (Pu.el ty_et24) ?_
    refine TL.p (Pu.ld ty_sc3) ?_
    refine TL.p Pu.as ?_
    refine TL.nil ?_
    refine TQ.thenN (hY8 _ _ ?_)
    refine TW.region ?_
    refine TL.p Pu.mv ?_
    refine TL.p Pu.mv ?_
    refine TL.p Pu.mv ?_
    refine TL.cr rfl (enters Tryz.func22 rfl rfl) (fun w hw => by
        exact span_any _ _ _) ?_
    refine TL.p Pu.bd ?_
    refine TL.m Mk.bl ?_
    intro b2
    first | refine TL.a0 ty_et22 ?_ | refine TL.ap ty_et22 ?_
    intro A3 c3
    refine TL.p Pu.as ?_
    refine TL.nil ?_
    refine TQ.blkN ?_
    refine TQ.thenN (hY7 _ _ ?_)
    refine TW.region ?_
    refine TL.p Pu.ad ?_
    refine TL.p Pu.mv ?_
    refine TL.nil ?_
    refine TQ.thenN (hZ0 (k + 1) _ _ _ _ ?_ ?_ (by repeat (first | exact trivial | refine ⟨rfl, ?_⟩ | refine ⟨trivial, ?_⟩)) ?_)
    · exact (by omega)
    · exact (by first | omega | (simp only []; omega) | (simp; omega))
    · exact KSub.app (by repeat (first | exact Pick.hd | apply Pick.tl)) rfl (by repeat (first | exact KSub.nil | refine KSub.cons (by repeat (first | exact Pick.hd | apply Pick.tl)) ?_))
  · try simp only [decide_eq_true_eq, decide_eq_false_iff_not, Bool.not_eq_true', Bool.not_eq_false', Bool.and_eq_true, Bool.or_eq_true, Bool.and_eq_false_iff, Bool.or_eq_false_iff, Int.not_lt, Int.not_le] at hc0
    obtain rfl : k = 4 := by omega
    refine TW.exit ?_
    refine TQ.thenX ?_
    refine TQ.thenX ?_
    refine TQ.blkX ?_
    refine TQ.thenN (hY3 _ _ ?_)
    refine TW.seq fun Y9 hY9 => ?_
    refine TW.region ?_
    refine TL.p Pu.mv ?_
    refine TL.p Pu.as ?_
    refine TL.nil ?_
    refine TQ.thenN (hY9 _ _ ?_)
    refine TW.ret ?_
    refine TQ.ret Tryz.results17 rfl ((.tmp rfl .nil)) ?_
    exact fun w hw => ⟨(A, cp), rfl, hw.sub (by repeat (first | exact KSub.nil | refine KSub.cons (by repeat (first | exact Pick.hd | apply Pick.tl)) ?_))⟩
def prA (A0 A1 : Option Addr) (j : Nat) : Option Addr := if j = 0 then A0 else if j = 1 then A1 else none
def prL' (L0 L1 : List Int) (j : Nat) : Nat := if j = 0 then L0.length else if j = 1 then L1.length else 0
def prC (c0 c1 : Nat) (j : Nat) : Nat := if j = 0 then c0 else if j = 1 then c1 else 0
def prV (L0 L1 : List Int) (j k : Nat) : Int := if j = 0 then L0.getD k 0 else if j = 1 then L1.getD k 0 else 0
theorem lay_pair {w : World} {A A0 A1 : Option Addr} {L0 L1 : List Int} (hG : None0 w) (hR : RdR w 11 A 4 (fun k => packL (balP k))) (h0 : RdR w 1 A0 L0.length (iL L0)) (h1 : RdR w 1 A1 L1.length (iL L1)) (hl : L0.length + L1.length ≤ 1000) : Lay1 w A 4 balP (prA A0 A1) (prL' L0 L1) (prV L0 L1) :=
  ⟨hG, by decide, hR, fun j hj => by
    have : j = 0 ∨ j = 1 ∨ j = 2 := by omega
    rcases this with rfl | rfl | rfl
    · exact h0
    · exact h1
    · exact ⟨Rd.nil, fun i hi => rfl⟩, by rw [tot3]; show L0.length + L1.length + 0 ≤ 1000; omega⟩
theorem eBal : balR 4 balP (prL' [0, 1] [3]) (prV [0, 1] [3]) 15 = 2 ∧ askedV 4 balP (prL' [0, 1] [3]) (prV [0, 1] [3]) 15 = 0 := by decide +kernel
theorem eSet : settC 4 balP (prL' [0, 1, 2, 3] []) (prV [0, 1, 2, 3] []) 5 = 0 ∧ settL 4 balP (prL' [0, 1, 2, 3] []) (prV [0, 1, 2, 3] []) 5 = [0, 3] := by decide +kernel
theorem eReady : readyR 4 balP (prL' [0, 1] [2]) (prV [0, 1] [2]) 0 strB strC = 2 ∧ readyC 4 balP (prL' [0, 1] [2]) (prV [0, 1] [2]) 0 strB strC = 0 := by decide +kernel
theorem eSalt : restK (sltP 150) = [.agg #[.int .i64 36000, .int .i64 41000], .agg #[.int .i64 0, .int .i64 4100], .int .u8 1, .int .i64 0] := by kernel_rfl
theorem eWater : restK (watP 55) = [.agg #[.int .i64 0, .int .i64 2500], .agg #[.int .i64 27500, .int .i64 30000], .int .u8 0, .int .i64 0] := by kernel_rfl
def onP (_ j : Nat) : Int := if j = 0 then 3 else 0
theorem eTrade : tradeC 4 balP 1 (fun _ => prL' [0, 1] [2]) (fun _ => prV [0, 1] [2]) [1] (fun _ => onP 0) 1 5 = 0 ∧ tradeM 4 balP 1 (fun _ => prL' [0, 1] [2]) (fun _ => prV [0, 1] [2]) [1] (fun _ => onP 0) 1 5 = [0] := by decide +kernel
theorem eTrade2 : tradeT balP 1 (fun _ => prL' [0, 1] [2]) (fun _ => prV [0, 1] [2]) [1] (fun _ => onP 0) 1 5 0 = [3] ∧ tradeT balP 1 (fun _ => prL' [0, 1] [2]) (fun _ => prV [0, 1] [2]) [1] (fun _ => onP 0) 1 5 1 = [0, 2] ∧ tradeT balP 1 (fun _ => prL' [0, 1] [2]) (fun _ => prV [0, 1] [2]) [1] (fun _ => onP 0) 1 5 2 = [] := by decide +kernel
theorem eStow : stowN 4 balP 1 (fun _ => 80) 4 (fun k => (k : Int) + 1) 15 = 1 ∧ stowW 4 balP 1 (fun _ => 80) 4 (fun k => (k : Int) + 1) 15 = 7 ∧ stowC 4 balP 1 (fun _ => 80) 4 (fun k => (k : Int) + 1) 15 = 0 := by decide +kernel
end Go.Proofs.YtljhdcclajikiaaGreatDoor
