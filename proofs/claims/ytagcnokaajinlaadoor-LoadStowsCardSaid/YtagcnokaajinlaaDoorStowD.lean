/-
  load: Stow: the search, by depth.
-/
import Derived.Test.YtagcnokaajinlaaDoorStowC
namespace Go.Proofs.YtagcnokaajinlaaDoor
set_option linter.all false
set_option linter.unusedVariables false
set_option linter.unusedSimpArgs false
open Go.RowKit
theorem OwnR.le {w : World} {A : Option Addr} {n cp : Nat} {E : TypeId} {sz : Nat} {r : Nat → List Value} (h : OwnR w A n cp E sz r) : n ≤ cp := by
  rcases h.own.2 with ⟨e, h0⟩ | ⟨g, cap, cur, e, hg, hh, hnc, _⟩
  · injection e with e1 e2 e3
    omega
  · injection e with e1 e2 e3
    subst e3
    exact hnc
theorem TL.le {c : Cx} {Q : Exit → Act → World → Prop} {F : Fr} {K K' : List Fact} {ops : Array Oper} {rest : List Oper} {A : Option Addr} {n cp : Nat} {E : TypeId} {sz : Nat} {r : Nat → List Value} (hp : Pick K (.own A n cp E sz r) K') (h : n ≤ cp → TL c ops Q rest F K) : TL c ops Q rest F K := fun a w hF hK =>
  h (OwnR.le (hK.holds _ hp.mem)) a w hF hK
section
variable {A A2 : Nat → Option Addr} {l l2 c c2 : Nat → Nat} {v v2 : Nat → Nat → Int} {s : Nat} {Z : List Fact}
theorem ownsK_perm2 {n : Nat} (h : s < n) : (ownsK A l c v n ++ Z).Perm (.own (A s) (l s) (c s) 3 1 (fun k => [.int .i64 (v s k)]) :: (ownsX A l c v s n ++ Z)) := (ownsK_perm h).append_right Z
theorem ownsK_put {A8 : Option Addr} {l8 c8 : Nat} {r : Nat → List Value} (hA : A2 s = A8) (hl : l2 s = l8) (hc : c2 s = c8) (hr : ∀ k, k < l8 → r k = [.int .i64 (v2 s k)]) :
    ∀ {n : Nat}, s < n → (∀ i, i < n → i ≠ s → A i = A2 i ∧ l i = l2 i ∧ c i = c2 i ∧ v i = v2 i) → KSub (.own A8 l8 c8 3 1 r :: (ownsX A l c v s n ++ Z)) (ownsK A2 l2 c2 v2 n ++ Z)
  | n + 1, hs, ho => by
    by_cases hn : n = s
    · subst hn
      simp only [ownsX, ownsK, if_true, List.cons_append]
      subst hA hl hc
      refine KSub.own Pick.hd hr ?_
      rw [ownsK_congr (A2 := A2) (l2 := l2) (c2 := c2) (v2 := v2) fun i hi => ho i (by omega) (by omega)]
      exact KSub.refl _
    · obtain ⟨h1, h2, h3, h4⟩ := ho n (by omega) hn
      simp only [ownsX, ownsK, if_neg hn, List.cons_append, h1, h2, h3, h4]
      exact KSub.cons (Pick.tl Pick.hd) (ownsK_put hA hl hc hr (n := n) (by omega) fun i hi hne => ho i (by omega) hne)
end
section
variable {P i way q s k : Nat} {A : Nat → Option Addr} {c : Nat → Nat} {A8 : Option Addr} {c8 : Nat}
theorem sd_row1 (hq : q + 1 < P) : updR (fun s => [Value.slice (A s) (sln P i way s) (c s)]) q [.slice A8 (sln P i way q + 1) c8] s = [.slice (updN A q A8 s) (sln P (i + 1) (way * P + (q + 1)) s) (updN c q c8 s)] := by
  unfold updR updN
  by_cases h : s = q
  · subst h; rw [sln_put hq]; simp
  · rw [sln_same hq (by omega)]; simp [h]
theorem sd_row2 (hq : q + 1 < P) : updR (fun s => [Value.slice (A s) (sln P (i + 1) (way * P + (q + 1)) s) (c s)]) q [.slice (A q) (sln P i way q) (c q)] s = [.slice (A s) (sln P i way s) (c s)] := by
  unfold updR
  by_cases h : s = q
  · subst h; simp
  · rw [if_neg h]
    show [Value.slice (A s) (sln P (i + 1) (way * P + (q + 1)) s) (c s)] = _
    rw [sln_same hq (by omega)]
theorem put_row {iv : Int} (hiv : iv = i) (hq : q + 1 < P) (hk : k < sln P i way q + 1) : catR (sln P i way q) (fun k => [Value.int .i64 (svl P i way q k)]) (fun _ => [.int .i64 iv]) k = [.int .i64 (svl P (i + 1) (way * P + (q + 1)) q k)] := by
  simp only [catR]
  by_cases h : k < sln P i way q
  · rw [if_pos h, svl_put hq h]
  · obtain rfl : k = sln P i way q := by omega
    rw [if_neg h, svl_last hq, hiv]
end
/-- The search from i digits on: it turns the best way by f. -/
def NextOk (P ns : Nat) (bP bN bS bV bW bC bR bB bT : Nat) (Sd Ap Av Ac Ar : Option Addr) (np cp nc cc cv cr : Nat) (fv : Value) (wv cans r0 r1 : Nat → Int) (b : Int) (i : Nat) (f : Nat → St → St) : Prop :=
  ∀ (w : World) (way : Nat) (iv sv : Int) (A : Nat → Option Addr) (c : Nat → Nat) (T : Option Addr × Nat) (TA : Nat → Option Addr) (Tc : Nat → Nat) (st : St), iv = i → sv = wsum P wv i way →
    Sat (feet (.blk bS 95 [.slice Sd ns ns] :: .own Sd ns ns 47 1 (fun s => [.slice (A s) (sln P i way s) (c s)]) :: .blk bW 3 [.int .i64 st.worth] :: .blk bT 27 [.slice T.1 st.n T.2] :: .own T.1 st.n T.2 59 3 (tieS TA (sln P np st.way) Tc) :: (ownsK A (sln P i way) c (svl P i way) ns ++ ownsK TA (sln P np st.way) Tc (svl P np st.way) (2 * st.n)))) w (.blk bS 95 [.slice Sd ns ns] :: .own Sd ns ns 47 1 (fun s => [.slice (A s) (sln P i way s) (c s)]) :: .blk bW 3 [.int .i64 st.worth] :: .blk bT 27 [.slice T.1 st.n T.2] :: .own T.1 st.n T.2 59 3 (tieS TA (sln P np st.way) Tc) :: (ownsK A (sln P i way) c (svl P i way) ns ++ ownsK TA (sln P np st.way) Tc (svl P np st.way) (2 * st.n))) w →
    SCx w (feet (.blk bS 95 [.slice Sd ns ns] :: .own Sd ns ns 47 1 (fun s => [.slice (A s) (sln P i way s) (c s)]) :: .blk bW 3 [.int .i64 st.worth] :: .blk bT 27 [.slice T.1 st.n T.2] :: .own T.1 st.n T.2 59 3 (tieS TA (sln P np st.way) Tc) :: (ownsK A (sln P i way) c (svl P i way) ns ++ ownsK TA (sln P np st.way) Tc (svl P np st.way) (2 * st.n)))) bP bN bV bC bR bB Ap Av Ac Ar np cp nc cc cv cr fv wv cans r0 r1 b →
    CallsK Tryd.prog 47 #[.int .i64 iv, .int .i64 sv, .pointer (some ⟨bP, 0, none⟩), .pointer (some ⟨bN, 0, none⟩), .pointer (some ⟨bS, 0, none⟩), .pointer (some ⟨bV, 0, none⟩), .pointer (some ⟨bW, 0, none⟩), .pointer (some ⟨bC, 0, none⟩), .pointer (some ⟨bR, 0, none⟩), .pointer (some ⟨bB, 0, none⟩), .pointer (some ⟨bT, 0, none⟩)] (.blk bS 95 [.slice Sd ns ns] :: .own Sd ns ns 47 1 (fun s => [.slice (A s) (sln P i way s) (c s)]) :: .blk bW 3 [.int .i64 st.worth] :: .blk bT 27 [.slice T.1 st.n T.2] :: .own T.1 st.n T.2 59 3 (tieS TA (sln P np st.way) Tc) :: (ownsK A (sln P i way) c (svl P i way) ns ++ ownsK TA (sln P np st.way) Tc (svl P np st.way) (2 * st.n))) w SX (fun _ => .tuple #[])
      (fun x => .blk bS 95 [.slice Sd ns ns] :: .own Sd ns ns 47 1 (fun s => [.slice (x.1 s) (sln P i way s) (x.2.1 s)]) :: .blk bW 3 [.int .i64 (f way st).worth] :: .blk bT 27 [.slice x.2.2.1.1 (f way st).n x.2.2.1.2] :: .own x.2.2.1.1 (f way st).n x.2.2.1.2 59 3 (tieS x.2.2.2.1 (sln P np (f way st).way) x.2.2.2.2) :: (ownsK x.1 (sln P i way) x.2.1 (svl P i way) ns ++ ownsK x.2.2.2.1 (sln P np (f way st).way) x.2.2.2.2 (svl P np (f way st).way) (2 * (f way st).n)))
section
variable {P ns : Nat} {bP bN bS bV bW bC bR bB bT : Nat} {Sd Ap Av Ac Ar : Option Addr} {np cp nc cc cv cr : Nat} {wv cans r0 r1 : Nat → Int} {b : Int}
theorem stow_same {i way : Nat} {A : Nat → Option Addr} {c : Nat → Nat} {T : Option Addr × Nat} {TA : Nat → Option Addr} {Tc : Nat → Nat} {wo : Int} {wy n : Nat} (hP : 0 < P) :
    (.blk bS 95 [.slice Sd ns ns] :: .own Sd ns ns 47 1 (fun s => [.slice (A s) (sln P (i + 1) (way * P + 0) s) (c s)]) :: .blk bW 3 [.int .i64 wo] :: .blk bT 27 [.slice T.1 n T.2] :: .own T.1 n T.2 59 3 (tieS TA (sln P np wy) Tc) :: (ownsK A (sln P (i + 1) (way * P + 0)) c (svl P (i + 1) (way * P + 0)) ns ++ ownsK TA (sln P np wy) Tc (svl P np wy) (2 * n))) = .blk bS 95 [.slice Sd ns ns] :: .own Sd ns ns 47 1 (fun s => [.slice (A s) (sln P i way s) (c s)]) :: .blk bW 3 [.int .i64 wo] :: .blk bT 27 [.slice T.1 n T.2] :: .own T.1 n T.2 59 3 (tieS TA (sln P np wy) Tc) :: (ownsK A (sln P i way) c (svl P i way) ns ++ ownsK TA (sln P np wy) Tc (svl P np wy) (2 * n)) := by
  have e1 : sln P (i + 1) (way * P + 0) = sln P i way := funext fun s => sln_same hP (by omega)
  have e2 : svl P (i + 1) (way * P + 0) = svl P i way := funext fun s => svl_same hP (by omega)
  rw [e1, e2]
set_option maxRecDepth 100000 in
set_option maxHeartbeats 1000000 in
theorem next_step {i : Nat} {f : Nat → St → St} (hi : i < np) (hns : ns ≤ 2 * nc ∧ 2 * nc ≤ ns) (hP : P ≤ ns + 1 ∧ ns + 1 ≤ P)
    (ih : NextOk P ns bP bN bS bV bW bC bR bB bT Sd Ap Av Ac Ar np cp nc cc cv cr (.func (.func 47) #[] ([.pointer (some ⟨bP, 0, none⟩), .pointer (some ⟨bN, 0, none⟩), .pointer (some ⟨bS, 0, none⟩), .pointer (some ⟨bV, 0, none⟩), .pointer (some ⟨bW, 0, none⟩), .pointer (some ⟨bC, 0, none⟩), .pointer (some ⟨bR, 0, none⟩), .pointer (some ⟨bB, 0, none⟩), .pointer (some ⟨bT, 0, none⟩)]).toArray) wv cans r0 r1 b (i + 1) f) :
    NextOk P ns bP bN bS bV bW bC bR bB bT Sd Ap Av Ac Ar np cp nc cc cv cr (.func (.func 47) #[] ([.pointer (some ⟨bP, 0, none⟩), .pointer (some ⟨bN, 0, none⟩), .pointer (some ⟨bS, 0, none⟩), .pointer (some ⟨bV, 0, none⟩), .pointer (some ⟨bW, 0, none⟩), .pointer (some ⟨bC, 0, none⟩), .pointer (some ⟨bR, 0, none⟩), .pointer (some ⟨bB, 0, none⟩), .pointer (some ⟨bT, 0, none⟩)]).toArray) wv cans r0 r1 b i (fun way st => iter (fun q st => f (way * P + q) st) P st) := by
  intro w way iv sv A0 c0 T0 TA0 Tc0 st hiv hsv hM hX
  have hiv2 : iv ≤ i ∧ i ≤ iv := by omega
  have hsv2 : sv ≤ wsum P wv i way ∧ wsum P wv i way ≤ sv := by omega
  clear hiv hsv
  have hX0 := hX
  obtain ⟨oP, oN, oV, oC, oR, oB, nP, nN, nV, nC, nR, nB, rV, rC, rR, aV, aC, aR, hr, hnp, hnc, hb, hwv⟩ := hX
  have ap1 := apart_of nP
  have ap2 := apart_of nC
  have ap3 := apart_of nR
  have ap4 := apart_of nB
  have ap5 := apart_of nN
  have ap6 := apart_of nV
  have apV := aV (by omega)
  have hwi := hwv i hi
  have hsum := wsum_bd (P := P) (wv := wv) (i := i) (w := way) (fun k hk => hwv k (by omega))
  refine K_enter (S := feet _) (K := .blk bS 95 [.slice Sd ns ns] :: .own Sd ns ns 47 1 (fun s => [.slice (A0 s) (sln P i way s) (c0 s)]) :: .blk bW 3 [.int .i64 st.worth] :: .blk bT 27 [.slice T0.1 st.n T0.2] :: .own T0.1 st.n T0.2 59 3 (tieS TA0 (sln P np st.way) Tc0) :: (ownsK A0 (sln P i way) c0 (svl P i way) ns ++ ownsK TA0 (sln P np st.way) Tc0 (svl P np st.way) (2 * st.n))) Tryd.func47 rfl Tryd.ntmps47 rfl hM ?_
  refine TW.seq fun Y1 hY1 => ?_
  refine TW.seq fun Y2 hY2 => ?_
  refine TW.region ?_
  refine TL.p Pu.mv ?_
  refine TL.p (by first | exact (Pu.ld ty_sc26) | exact (Pu.ldo ty_sc26)) ?_
  refine TL.p (Pu.ln Tryd.underlying26) ?_
  refine TL.p Pu.lt ?_
  refine TL.nil ?_
  refine TQ.thenN (hY2 _ _ ?_)
  refine TW.condT rfl ((by simp; omega)) ?_
  refine TW.seq fun Y3 hY3 => ?_
  refine TW.region ?_
  refine TL.p (by first | exact (Pu.ld ty_sc96) | exact (Pu.ldo ty_sc96)) ?_
  refine TL.p Pu.mv ?_
  refine TL.p Pu.ad ?_
  refine TL.p Pu.mv ?_
  refine TL.perm (show (.blk bS 95 [.slice Sd ns ns] :: .own Sd ns ns 47 1 (fun s => [.slice (A0 s) (sln P i way s) (c0 s)]) :: .blk bW 3 [.int .i64 st.worth] :: .blk bT 27 [.slice T0.1 st.n T0.2] :: .own T0.1 st.n T0.2 59 3 (tieS TA0 (sln P np st.way) Tc0) :: (ownsK A0 (sln P i way) c0 (svl P i way) ns ++ ownsK TA0 (sln P np st.way) Tc0 (svl P np st.way) (2 * st.n))).Perm (.blk bS 95 [.slice Sd ns ns] :: .own Sd ns ns 47 1 (fun s => [.slice (A0 s) (sln P (i + 1) (way * P + 0) s) (c0 s)]) :: .blk bW 3 [.int .i64 st.worth] :: .blk bT 27 [.slice T0.1 st.n T0.2] :: .own T0.1 st.n T0.2 59 3 (tieS TA0 (sln P np st.way) Tc0) :: (ownsK A0 (sln P (i + 1) (way * P + 0)) c0 (svl P (i + 1) (way * P + 0)) ns ++ ownsK TA0 (sln P np st.way) Tc0 (svl P np st.way) (2 * st.n))) from by rw [stow_same (by omega)]) ?_
  refine TL.cvk rfl rfl (enters Tryd.func47 rfl rfl) (by rw [List.append_nil]) (fun w hw => by
      exact ih w (way * P + 0) (iv + 1) sv A0 c0 T0 TA0 Tc0 st (by omega) (by rw [wsum_child (by omega)]; simp; omega) hw.self (hX0.sat hw fun _ h => h)) ?_
  rintro ⟨A', c', T', TA', Tc'⟩
  refine TL.perm (by rw [List.append_nil]) ?_
  refine TL.nil ?_
  refine TQ.thenN (hY3 _ _ ?_)
  refine TW.seq fun Y4 hY4 => ?_
  refine TW.seq fun Y5 hY5 => ?_
  refine TW.region ?_
  refine TL.p (by first | exact (Pu.ld ty_sc95) | exact (Pu.ldo ty_sc95)) ?_
  refine TL.p (Pu.ln Tryd.underlying95) ?_
  refine TL.p Pu.mv ?_
  refine TL.nil ?_
  refine TQ.thenN (hY5 _ _ ?_)
  refine TW.block ?_
  refine TW.loop6 (fun (q : Nat) (A : Nat → Option Addr) (c : Nat → Nat) (T : Option Addr × Nat) (TA : Nat → Option Addr) (Tc : Nat → Nat) => [(29, .int .i64 (q : Int)), (28, .int .i64 (ns : Int)), (0, .int .i64 iv), (1, .int .i64 sv), (2, .pointer (some ⟨bP, 0, none⟩)), (3, .pointer (some ⟨bN, 0, none⟩)), (4, .pointer (some ⟨bS, 0, none⟩)), (5, .pointer (some ⟨bV, 0, none⟩)), (6, .pointer (some ⟨bW, 0, none⟩)), (7, .pointer (some ⟨bC, 0, none⟩)), (8, .pointer (some ⟨bR, 0, none⟩)), (9, .pointer (some ⟨bB, 0, none⟩)), (10, .pointer (some ⟨bT, 0, none⟩))]) (fun q A c T TA Tc => .blk bS 95 [.slice Sd ns ns] :: .own Sd ns ns 47 1 (fun s => [.slice (A s) (sln P i way s) (c s)]) :: .blk bW 3 [.int .i64 (iter (fun q st => f (way * P + q) st) (q + 1) st).worth] :: .blk bT 27 [.slice T.1 (iter (fun q st => f (way * P + q) st) (q + 1) st).n T.2] :: .own T.1 (iter (fun q st => f (way * P + q) st) (q + 1) st).n T.2 59 3 (tieS TA (sln P np (iter (fun q st => f (way * P + q) st) (q + 1) st).way) Tc) :: (ownsK A (sln P i way) c (svl P i way) ns ++ ownsK TA (sln P np (iter (fun q st => f (way * P + q) st) (q + 1) st).way) Tc (svl P np (iter (fun q st => f (way * P + q) st) (q + 1) st).way) (2 * (iter (fun q st => f (way * P + q) st) (q + 1) st).n))) (fun q A c T TA Tc => q ≤ ns) (fun q A c T TA Tc => ns - q) 0 A' c' T' TA' Tc' (by repeat (first | exact trivial | refine ⟨rfl, ?_⟩ | refine ⟨trivial, ?_⟩)) ?_ ?_ ?_
  · exact KSub.perm (by rw [stow_same (by omega)]; exact List.Perm.refl _)
  · exact Nat.zero_le _
  rintro q A c T TA Tc hq Z0 hZ0
  refine TW.seq fun Y6 hY6 => ?_
  refine TW.region ?_
  refine TL.p Pu.lt ?_
  refine TL.nil ?_
  refine TQ.thenN (hY6 _ _ ?_)
  refine TW.seq fun Y7 hY7 => ?_
  refine TW.cond rfl (fun hc1 => ?_) (fun hc1 => ?_)
  · try simp only [decide_eq_true_eq, decide_eq_false_iff_not, Bool.not_eq_true', Bool.not_eq_false', Bool.and_eq_true, Bool.or_eq_true, Bool.and_eq_false_iff, Bool.or_eq_false_iff, Int.not_lt, Int.not_le] at hc1
    have hqn : q < ns := by omega
    have hlq := sln_le P i way q
    refine TW.skip ?_
    refine TQ.thenN (hY7 _ _ ?_)
    refine TW.seq fun Y8 hY8 => ?_
    refine TW.block ?_
    refine TW.seq fun Y9 hY9 => ?_
    refine TW.region ?_
    refine TL.perm (by repeat (first | exact ownsK_perm2 hqn | apply List.Perm.cons)) ?_
    refine TL.p Pu.mv ?_
    refine TL.p Pu.as ?_
    refine TL.nil ?_
    refine TQ.thenN (hY9 _ _ ?_)
    refine TW.seq fun Y10 hY10 => ?_
    refine TW.expk [.blk bS 95 [.slice Sd ns ns]] (fun (⟨A8, c8⟩ : Option Addr × Nat) => ([(13, .int .i64 (q : Int)), (29, .int .i64 (q : Int)), (28, .int .i64 (ns : Int)), (0, .int .i64 iv), (1, .int .i64 sv), (2, .pointer (some ⟨bP, 0, none⟩)), (3, .pointer (some ⟨bN, 0, none⟩)), (4, .pointer (some ⟨bS, 0, none⟩)), (5, .pointer (some ⟨bV, 0, none⟩)), (6, .pointer (some ⟨bW, 0, none⟩)), (7, .pointer (some ⟨bC, 0, none⟩)), (8, .pointer (some ⟨bR, 0, none⟩)), (9, .pointer (some ⟨bB, 0, none⟩)), (10, .pointer (some ⟨bT, 0, none⟩))] : Fr)) (fun (⟨A8, c8⟩ : Option Addr × Nat) => .own Sd ns ns 47 1 (updR (fun s => [.slice (A s) (sln P i way s) (c s)]) q [.slice A8 (sln P i way q + 1) c8]) :: .own A8 (sln P i way q + 1) c8 3 1 (catR (sln P i way q) (fun k => [.int .i64 (svl P i way q k)]) (fun _ => [.int .i64 iv])) :: .blk bS 95 [.slice Sd ns ns] :: .blk bW 3 [.int .i64 (iter (fun q st => f (way * P + q) st) (q + 1) st).worth] :: .blk bT 27 [.slice T.1 (iter (fun q st => f (way * P + q) st) (q + 1) st).n T.2] :: .own T.1 (iter (fun q st => f (way * P + q) st) (q + 1) st).n T.2 59 3 (tieS TA (sln P np (iter (fun q st => f (way * P + q) st) (q + 1) st).way) Tc) :: (ownsX A (sln P i way) c (svl P i way) q ns ++ ownsK TA (sln P np (iter (fun q st => f (way * P + q) st) (q + 1) st).way) Tc (svl P np (iter (fun q st => f (way * P + q) st) (q + 1) st).way) (2 * (iter (fun q st => f (way * P + q) st) (q + 1) st).n))) ?_ (fun hE => ?_)
    · rintro ⟨A8, c8⟩
      refine TQ.thenN (hY10 _ _ ?_)
      refine TW.seq fun Y11 hY11 => ?_
      refine TW.dw 9 ?_
      refine RK.tk (by first | exact (Pu.ld ty_sc96) | exact (Pu.ldo ty_sc96)) ?_
      refine RK.tk Pu.mv ?_
      refine RK.tk Pu.ad ?_
      refine RK.tk Pu.mv ?_
      refine RK.tk (by first | exact (Pu.ld ty_sc47) | exact (Pu.ldo ty_sc47)) ?_
      refine RK.tk Pu.mv ?_
      refine RK.tk (Pu.el (q := i) ty_et47 (hk := by omega)) ?_
      refine RK.tk (by first | exact (Pu.ld ty_sc3) | exact (Pu.ldo ty_sc3)) ?_
      refine RK.tk Pu.ad ?_
      refine RK.ch [] ?_ trivial
      refine WK.n ?_
      refine TL.subK (K' := .blk bS 95 [.slice Sd ns ns] :: .own Sd ns ns 47 1 (fun s => [.slice ((updN A q A8) s) (sln P (i + 1) (way * P + (q + 1)) s) ((updN c q c8) s)]) :: .blk bW 3 [.int .i64 (iter (fun q st => f (way * P + q) st) (q + 1) st).worth] :: .blk bT 27 [.slice T.1 (iter (fun q st => f (way * P + q) st) (q + 1) st).n T.2] :: .own T.1 (iter (fun q st => f (way * P + q) st) (q + 1) st).n T.2 59 3 (tieS TA (sln P np (iter (fun q st => f (way * P + q) st) (q + 1) st).way) Tc) :: (ownsK (updN A q A8) (sln P (i + 1) (way * P + (q + 1))) (updN c q c8) (svl P (i + 1) (way * P + (q + 1))) ns ++ ownsK TA (sln P np (iter (fun q st => f (way * P + q) st) (q + 1) st).way) Tc (svl P np (iter (fun q st => f (way * P + q) st) (q + 1) st).way) (2 * (iter (fun q st => f (way * P + q) st) (q + 1) st).n))) (by
        refine KSub.cons (by repeat (first | exact Pick.hd | apply Pick.tl)) ?_
        refine KSub.own (by repeat (first | exact Pick.hd | apply Pick.tl)) (fun s hs => sd_row1 (by omega)) ?_
        refine KSub.cons (by repeat (first | exact Pick.hd | apply Pick.tl)) (KSub.cons (by repeat (first | exact Pick.hd | apply Pick.tl)) (KSub.cons (by repeat (first | exact Pick.hd | apply Pick.tl)) ?_))
        exact ownsK_put (A := A) (A2 := updN A q A8) (l := sln P i way) (l2 := sln P (i + 1) (way * P + (q + 1))) (c := c) (c2 := updN c q c8) (v := svl P i way) (v2 := svl P (i + 1) (way * P + (q + 1))) (s := q) (A8 := A8) (l8 := sln P i way q + 1) (c8 := c8) (r := catR (sln P i way q) (fun k => [.int .i64 (svl P i way q k)]) (fun _ => [.int .i64 iv])) (if_pos rfl) (sln_put (by omega)) (if_pos rfl) (fun k hk => put_row (by omega) (by omega) hk) hqn (fun j hj hne => ⟨(if_neg hne).symm, (sln_same (P := P) (i := i) (w := way) (q := q + 1) (s := j) (by omega) (by omega)).symm, (if_neg hne).symm, (svl_same (P := P) (i := i) (w := way) (q := q + 1) (s := j) (by omega) (by omega)).symm⟩)) ?_
      refine TL.cvk rfl rfl (enters Tryd.func47 rfl rfl) (by rw [List.append_nil]) (fun w hw => by
          exact ih w (way * P + (q + 1)) (iv + 1) (sv + wv i) (updN A q A8) (updN c q c8) T TA Tc (iter (fun q st => f (way * P + q) st) (q + 1) st) (by omega) (by rw [wsum_child (by omega), if_neg (by omega)]; omega) hw.self (hX0.sat hw fun _ h => h)) ?_
      rintro ⟨A', c', T', TA', Tc'⟩
      dsimp only
      refine TL.perm (by rw [List.append_nil]) ?_
      refine TL.perm (by repeat (first | exact ownsK_perm2 hqn | apply List.Perm.cons)) ?_
      refine TL.le (n := sln P (i + 1) (way * P + (q + 1)) q) (A := A' q) (cp := c' q) (by repeat (first | exact Pick.hd | apply Pick.tl)) (fun hle => ?_)
      have hput : sln P (i + 1) (way * P + (q + 1)) q = sln P i way q + 1 := sln_put (by omega)
      refine TL.nil ?_
      refine TQ.thenN (hY11 _ _ ?_)
      refine TW.dw 14 ?_
      refine RK.tk (by first | exact (Pu.ld ty_sc95) | exact (Pu.ldo ty_sc95)) ?_
      refine RK.tk Pu.mv ?_
      refine RK.tk (by first | exact (Pu.ld ty_sc95) | exact (Pu.ldo ty_sc95)) ?_
      refine RK.tk Pu.mv ?_
      refine RK.tk (Pu.el ty_et95) ?_
      refine RK.tk (by first | exact (Pu.ld ty_sc47) | exact (Pu.ldo ty_sc47)) ?_
      refine RK.tk (by first | exact (Pu.ld ty_sc95) | exact (Pu.ldo ty_sc95)) ?_
      refine RK.tk Pu.mv ?_
      refine RK.tk (Pu.el ty_et95) ?_
      refine RK.tk (by first | exact (Pu.ld ty_sc47) | exact (Pu.ldo ty_sc47)) ?_
      refine RK.tk (Pu.ln Tryd.underlying47) ?_
      refine RK.tk Pu.sb ?_
      refine RK.tk (Pu.sh (q := sln P i way q) ty_et47 (hk := by omega)) ?_
      refine RK.tk (Pu.el ty_et95) ?_
      refine RK.ch [] ?_ trivial
      refine WK.n ?_
      refine TL.take (m := sln P i way q) (A := A' q) (n := sln P (i + 1) (way * P + (q + 1)) q) (by repeat (first | exact Pick.hd | apply Pick.tl)) (by omega) ?_
      first | refine TL.st ty_sz47 ?_ | refine TL.se ty_sz47 ?_
      refine TL.nil ?_
      refine TQ.blkN ?_
      refine TQ.thenN (hY8 _ _ ?_)
      refine TW.region ?_
      refine TL.p Pu.ad ?_
      refine TL.p Pu.mv ?_
      refine TL.nil ?_
      refine TQ.thenN (hZ0 (q + 1) A' c' T' TA' Tc' _ _ ?_ ?_ (by repeat (first | exact trivial | refine ⟨rfl, ?_⟩ | refine ⟨trivial, ?_⟩)) ?_)
      · exact (by omega)
      · exact (by first | omega | (simp only []; omega) | (simp; omega))
      · refine KSub.cons (by repeat (first | exact Pick.hd | apply Pick.tl)) ?_
        refine KSub.own (by repeat (first | exact Pick.hd | apply Pick.tl)) (fun s hs => sd_row2 (by omega)) ?_
        refine KSub.cons (by repeat (first | exact Pick.hd | apply Pick.tl)) (KSub.cons (by repeat (first | exact Pick.hd | apply Pick.tl)) (KSub.cons (by repeat (first | exact Pick.hd | apply Pick.tl)) ?_))
        exact ownsK_put (A := A') (A2 := A') (l := sln P (i + 1) (way * P + (q + 1))) (l2 := sln P i way) (c := c') (c2 := c') (v := svl P (i + 1) (way * P + (q + 1))) (v2 := svl P i way) (s := q) (A8 := A' q) (l8 := sln P i way q) (c8 := c' q) (r := fun k => [.int .i64 (svl P (i + 1) (way * P + (q + 1)) q k)]) rfl rfl rfl (fun k hk => by rw [svl_put (by omega) hk]) hqn (fun j hj hne => ⟨rfl, sln_same (P := P) (i := i) (w := way) (q := q + 1) (s := j) (by omega) (by omega), rfl, svl_same (P := P) (i := i) (w := way) (q := q + 1) (s := j) (by omega) (by omega)⟩)
    refine RG.tk 0 rfl (by first | exact (Pu.ld ty_sc95) | exact (Pu.ldo ty_sc95)) ?_
    refine RG.tk 1 rfl Pu.mv ?_
    refine RG.tk 2 rfl (by first | exact (Pu.ld ty_sc95) | exact (Pu.ldo ty_sc95)) ?_
    refine RG.tk 3 rfl Pu.mv ?_
    refine RG.tk 6 rfl Pu.mv ?_
    refine RG.a2 4 7 rfl rfl (fun X4 hX4 => ?_) (fun X7 hX7 => ?_)
    · refine TL.p (Pu.el ty_et95) ?_
      refine TL.nil ?_
      refine TQ.nxt (hX4 _ _ (by repeat (first | exact HasL.nil | refine HasL.cons (by repeat (first | exact Pick.hd | apply Pick.tl)) ?_)) ?_)
      refine RG.a2 5 7 rfl rfl (fun X5 hX5 => ?_) (fun X7 hX7 => ?_)
      · refine TL.p (by first | exact (Pu.ld ty_sc47) | exact (Pu.ldo ty_sc47)) ?_
        refine TL.nil ?_
        refine TQ.nxt (hX5 _ _ (by repeat (first | exact HasL.nil | refine HasL.cons (by repeat (first | exact Pick.hd | apply Pick.tl)) ?_)) ?_)
        refine RG.a1 7 rfl (fun X7 hX7 => ?_)
        refine TL.m Mk.bl ?_
        intro x7
        refine TL.nil ?_
        refine TQ.nxt (hX7 _ _ (by repeat (first | exact HasL.nil | refine HasL.cons (by repeat (first | exact Pick.hd | apply Pick.tl)) ?_)) ?_)
        refine RG.a1 8 rfl (fun X8 hX8 => ?_)
        first | refine TL.a0 ty_et47 ?_ | refine TL.ap ty_et47 ?_
        intro A8 c8
        refine TL.nil ?_
        refine TQ.nxt (hX8 _ _ (by repeat (first | exact HasL.nil | refine HasL.cons (by repeat (first | exact Pick.hd | apply Pick.tl)) ?_)) ?_)
        refine RG.a1 9 rfl (fun X9 hX9 => ?_)
        refine TL.p (Pu.el ty_et95) ?_
        refine TL.nil ?_
        refine TQ.nxt (hX9 _ _ (by repeat (first | exact HasL.nil | refine HasL.cons (by repeat (first | exact Pick.hd | apply Pick.tl)) ?_)) ?_)
        refine RG.a1 10 rfl (fun X10 hX10 => ?_)
        first | refine TL.st ty_sz47 ?_ | refine TL.se ty_sz47 ?_
        refine TL.nil ?_
        refine TQ.nxt (hX10 _ _ (by repeat (first | exact HasL.nil | refine HasL.cons (by repeat (first | exact Pick.hd | apply Pick.tl)) ?_)) ?_)
        exact RG.nil (TQ.sub (by repeat (first | exact trivial | refine ⟨rfl, ?_⟩ | refine ⟨trivial, ?_⟩)) (by repeat (first | exact KSub.nil | refine KSub.cons (by repeat (first | exact Pick.hd | apply Pick.tl)) ?_ | exact KSub.refl _ | exact KSub.drop (KSub.refl _))) (hE ⟨A8, c8⟩)) (by kernel_rfl)
      · refine TL.m Mk.bl ?_
        intro x7
        refine TL.nil ?_
        refine TQ.nxt (hX7 _ _ (by repeat (first | exact HasL.nil | refine HasL.cons (by repeat (first | exact Pick.hd | apply Pick.tl)) ?_)) ?_)
        refine RG.a1 5 rfl (fun X5 hX5 => ?_)
        refine TL.p (by first | exact (Pu.ld ty_sc47) | exact (Pu.ldo ty_sc47)) ?_
        refine TL.nil ?_
        refine TQ.nxt (hX5 _ _ (by repeat (first | exact HasL.nil | refine HasL.cons (by repeat (first | exact Pick.hd | apply Pick.tl)) ?_)) ?_)
        refine RG.a1 8 rfl (fun X8 hX8 => ?_)
        first | refine TL.a0 ty_et47 ?_ | refine TL.ap ty_et47 ?_
        intro A8 c8
        refine TL.nil ?_
        refine TQ.nxt (hX8 _ _ (by repeat (first | exact HasL.nil | refine HasL.cons (by repeat (first | exact Pick.hd | apply Pick.tl)) ?_)) ?_)
        refine RG.a1 9 rfl (fun X9 hX9 => ?_)
        refine TL.p (Pu.el ty_et95) ?_
        refine TL.nil ?_
        refine TQ.nxt (hX9 _ _ (by repeat (first | exact HasL.nil | refine HasL.cons (by repeat (first | exact Pick.hd | apply Pick.tl)) ?_)) ?_)
        refine RG.a1 10 rfl (fun X10 hX10 => ?_)
        first | refine TL.st ty_sz47 ?_ | refine TL.se ty_sz47 ?_
        refine TL.nil ?_
        refine TQ.nxt (hX10 _ _ (by repeat (first | exact HasL.nil | refine HasL.cons (by repeat (first | exact Pick.hd | apply Pick.tl)) ?_)) ?_)
        exact RG.nil (TQ.sub (by repeat (first | exact trivial | refine ⟨rfl, ?_⟩ | refine ⟨trivial, ?_⟩)) (by repeat (first | exact KSub.nil | refine KSub.cons (by repeat (first | exact Pick.hd | apply Pick.tl)) ?_ | exact KSub.refl _ | exact KSub.drop (KSub.refl _))) (hE ⟨A8, c8⟩)) (by kernel_rfl)
    · refine TL.m Mk.bl ?_
      intro x7
      refine TL.nil ?_
      refine TQ.nxt (hX7 _ _ (by repeat (first | exact HasL.nil | refine HasL.cons (by repeat (first | exact Pick.hd | apply Pick.tl)) ?_)) ?_)
      refine RG.a1 4 rfl (fun X4 hX4 => ?_)
      refine TL.p (Pu.el ty_et95) ?_
      refine TL.nil ?_
      refine TQ.nxt (hX4 _ _ (by repeat (first | exact HasL.nil | refine HasL.cons (by repeat (first | exact Pick.hd | apply Pick.tl)) ?_)) ?_)
      refine RG.a1 5 rfl (fun X5 hX5 => ?_)
      refine TL.p (by first | exact (Pu.ld ty_sc47) | exact (Pu.ldo ty_sc47)) ?_
      refine TL.nil ?_
      refine TQ.nxt (hX5 _ _ (by repeat (first | exact HasL.nil | refine HasL.cons (by repeat (first | exact Pick.hd | apply Pick.tl)) ?_)) ?_)
      refine RG.a1 8 rfl (fun X8 hX8 => ?_)
      first | refine TL.a0 ty_et47 ?_ | refine TL.ap ty_et47 ?_
      intro A8 c8
      refine TL.nil ?_
      refine TQ.nxt (hX8 _ _ (by repeat (first | exact HasL.nil | refine HasL.cons (by repeat (first | exact Pick.hd | apply Pick.tl)) ?_)) ?_)
      refine RG.a1 9 rfl (fun X9 hX9 => ?_)
      refine TL.p (Pu.el ty_et95) ?_
      refine TL.nil ?_
      refine TQ.nxt (hX9 _ _ (by repeat (first | exact HasL.nil | refine HasL.cons (by repeat (first | exact Pick.hd | apply Pick.tl)) ?_)) ?_)
      refine RG.a1 10 rfl (fun X10 hX10 => ?_)
      first | refine TL.st ty_sz47 ?_ | refine TL.se ty_sz47 ?_
      refine TL.nil ?_
      refine TQ.nxt (hX10 _ _ (by repeat (first | exact HasL.nil | refine HasL.cons (by repeat (first | exact Pick.hd | apply Pick.tl)) ?_)) ?_)
      exact RG.nil (TQ.sub (by repeat (first | exact trivial | refine ⟨rfl, ?_⟩ | refine ⟨trivial, ?_⟩)) (by repeat (first | exact KSub.nil | refine KSub.cons (by repeat (first | exact Pick.hd | apply Pick.tl)) ?_ | exact KSub.refl _ | exact KSub.drop (KSub.refl _))) (hE ⟨A8, c8⟩)) (by kernel_rfl)
  · try simp only [decide_eq_true_eq, decide_eq_false_iff_not, Bool.not_eq_true', Bool.not_eq_false', Bool.and_eq_true, Bool.or_eq_true, Bool.and_eq_false_iff, Bool.or_eq_false_iff, Int.not_lt, Int.not_le] at hc1
    obtain rfl : ns = q := by omega
    refine TW.exit ?_
    refine TQ.thenX ?_
    refine TQ.thenX ?_
    refine TQ.blkX ?_
    refine TQ.thenN (hY4 _ _ ?_)
    refine TW.ret ?_
    refine TQ.thenR ?_
    refine TQ.ret Tryd.results47 rfl (.nil) ?_
    have e : iter (fun q st => f (way * P + q) st) P st = iter (fun q st => f (way * P + q) st) (ns + 1) st := congrArg (fun n => iter (fun q st => f (way * P + q) st) n st) (by omega)
    exact fun w hw => ⟨(A, c, T, TA, Tc), rfl, by
      simp only [e]
      exact hw⟩
end
end Go.Proofs.YtagcnokaajinlaaDoor
