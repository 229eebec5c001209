/-
  Part 10 of the proof of loadTrades_holds: declarations of several texts, in build order. No condition on a program.
-/
import Derived.Test.YtjephihlkjpohaaGreatDoorTrad08
import Derived.Test.YtjephihlkjpohaaGreatDoorTrad09
import Derived.Test.YtjephihlkjpohaaGreatDoorTrad06
namespace Go.Proofs.YtjephihlkjpohaaGreatDoor
set_option linter.all false
set_option linter.unusedVariables false
set_option linter.unusedSimpArgs false
open Go.RowKit
theorem cmpI_self (x : List Int) : ¬ cmpI x x < 0 := setRun_inv.cmpI_irr
theorem refEarlier_any {w : World} {A B : Option Addr} {n m cA cB : Nat} {L M : List Int} (hn : n = L.length) (hm : m = M.length) (hnm : n = m) (h1 : n ≤ 1000000) (hA : RdR w 1 A n (iL L)) (hB : RdR w 1 B m (iL M)) :
    Calls Tryz.prog 105 #[.slice A n cA, .slice B m cB] w (Ret w (.bool (decide (cmpI L M < 0)))) := by
  subst hnm
  replace hn : n ≤ L.length ∧ L.length ≤ n := by omega
  replace hm : n ≤ M.length ∧ M.length ≤ n := by omega
  refine K_enter (S := []) (K := []) Tryz.func105 rfl Tryz.ntmps105 rfl (Sat.start _) ?_
  refine TW.seq fun Y1 hY1 => ?_
  refine TW.region ?_
  refine TL.p Pu.as ?_
  refine TL.nil ?_
  refine TQ.thenN (hY1 _ _ ?_)
  refine TW.seq fun Y2 hY2 => ?_
  refine TW.seq fun Y3 hY3 => ?_
  refine TW.region ?_
  refine TL.p Pu.as ?_
  refine TL.nil ?_
  refine TQ.thenN (hY3 _ _ ?_)
  refine TW.block ?_
  refine TW.loop1 (fun (k : Nat) => [(5, .int .i64 (k : Int)), (0, .slice A n cA), (1, .slice B n cB)]) (fun k => []) (fun k => k ≤ n ∧ ∀ j, j < k → L.getD j 0 = M.getD j 0) (fun k => n - k) 0 (by repeat (first | exact trivial | refine ⟨rfl, ?_⟩ | refine ⟨trivial, ?_⟩)) ?_ ?_ ?_
  · exact (by repeat (first | exact KSub.nil | refine KSub.cons (by repeat (first | exact Pick.hd | apply Pick.tl)) ?_))
  · exact ⟨Nat.zero_le _, fun j hj => by omega⟩
  rintro k ⟨hk, hall⟩ Z0 hZ0
  refine TW.seq fun Y4 hY4 => ?_
  refine TW.seq fun Y5 hY5 => ?_
  refine TW.region ?_
  refine TL.p Pu.mv ?_
  refine TL.p Pu.mv ?_
  refine TL.p (Pu.ln Tryz.underlying24) ?_
  refine TL.p Pu.lt ?_
  refine TL.nil ?_
  refine TQ.thenN (hY5 _ _ ?_)
  refine TW.cond rfl (fun hc0 => ?_) (fun hc0 => ?_)
  · try simp only [decide_eq_true_eq, decide_eq_false_iff_not, Bool.not_eq_true', Bool.not_eq_false', Bool.and_eq_true, Bool.or_eq_true, Bool.and_eq_false_iff, Bool.or_eq_false_iff, Int.not_lt, Int.not_le] at hc0
    have hkn : k < n := by omega
    refine TW.skip ?_
    refine TQ.thenN (hY4 _ _ ?_)
    refine TW.seq fun Y6 hY6 => ?_
    refine TW.block ?_
    refine TW.seq fun Y7 hY7 => ?_
    refine TW.dw 9 ?_
    refine RK.tk Pu.mv ?_
    refine RK.tk Pu.mv ?_
    refine RK.tk (Pu.el ty_et24) ?_
    refine RK.tk (Pu.ld ty_sc3) ?_
    refine RK.tk Pu.mv ?_
    refine RK.tk Pu.mv ?_
    refine RK.tk (Pu.el ty_et24) ?_
    refine RK.tk (Pu.ld ty_sc3) ?_
    refine RK.tk Pu.ne ?_
    refine RK.ch [] ?_ trivial
    refine WK.n ?_
    refine TL.nil ?_
    refine TQ.thenN (hY7 _ _ ?_)
    refine TW.cond rfl (fun hc1 => ?_) (fun hc1 => ?_)
    · try simp only [decide_eq_true_eq, decide_eq_false_iff_not, Bool.not_eq_true', Bool.not_eq_false', Bool.and_eq_true, Bool.or_eq_true, Bool.and_eq_false_iff, Bool.or_eq_false_iff, Int.not_lt, Int.not_le] at hc1
      have hval : decide (L.getD k 0 < M.getD k 0) = decide (cmpI L M < 0) := by
        by_cases h : L.getD k 0 < M.getD k 0
        · rw [decide_eq_true h, decide_eq_true (cmpI_first hall (by omega) (by omega) h)]
        · have h2 : cmpI M L < 0 := cmpI_first (k := k) (fun j hj => (hall j hj).symm) (by omega) (by omega) (by omega)
          rw [decide_eq_false h, decide_eq_false fun h3 => cmpI_self _ (cmpI_trans h2 h3)]
      refine TW.seq fun Y8 hY8 => ?_
      refine TW.dw 10 ?_
      refine RK.tk Pu.mv ?_
      refine RK.tk Pu.mv ?_
      refine RK.tk (Pu.el ty_et24) ?_
      refine RK.tk (Pu.ld ty_sc3) ?_
      refine RK.tk Pu.mv ?_
      refine RK.tk Pu.mv ?_
      refine RK.tk (Pu.el ty_et24) ?_
      refine RK.tk (Pu.ld ty_sc3) ?_
      refine RK.tk Pu.lt ?_
      refine RK.tk Pu.as ?_
      refine RK.ch [] ?_ trivial
      refine WK.n ?_
      refine TL.nil ?_
      refine TQ.thenN (hY8 _ _ ?_)
      refine TW.ret ?_
      refine TQ.blkR ?_
      refine TQ.thenR ?_
      refine TQ.thenR ?_
      refine TQ.blkR ?_
      refine TQ.thenR ?_
      refine TQ.ret Tryz.results105 rfl ((.tmp rfl .nil)) ?_
      exact fun w hw => ⟨ret_bool hval.symm, Chg.ext hw.chg⟩
    · try simp only [decide_eq_true_eq, decide_eq_false_iff_not, Bool.not_eq_true', Bool.not_eq_false', Bool.and_eq_true, Bool.or_eq_true, Bool.and_eq_false_iff, Bool.or_eq_false_iff, Int.not_lt, Int.not_le] at hc1
      refine TW.skip ?_
      refine TQ.blkN ?_
      refine TQ.thenN (hY6 _ _ ?_)
      refine TW.region ?_
      refine TL.p Pu.mv ?_
      refine TL.p Pu.ad ?_
      refine TL.p Pu.as ?_
      refine TL.nil ?_
      refine TQ.thenN (hZ0 (k + 1) _ _ ?_ ?_ (by repeat (first | exact trivial | refine ⟨rfl, ?_⟩ | refine ⟨trivial, ?_⟩)) ?_)
      · refine ⟨by omega, fun j hj => ?_⟩
        by_cases h : j = k
        · subst h; exact hc1
        · exact hall j (by omega)
      · exact (by first | omega | (simp only []; omega) | (simp; omega))
      · exact (by repeat (first | exact KSub.nil | refine KSub.cons (by repeat (first | exact Pick.hd | apply Pick.tl)) ?_))
  · try simp only [decide_eq_true_eq, decide_eq_false_iff_not, Bool.not_eq_true', Bool.not_eq_false', Bool.and_eq_true, Bool.or_eq_true, Bool.and_eq_false_iff, Bool.or_eq_false_iff, Int.not_lt, Int.not_le] at hc0
    have hkn : k = n := by omega
    refine TW.exit ?_
    refine TQ.thenX ?_
    refine TQ.thenX ?_
    refine TQ.blkX ?_
    refine TQ.thenN (hY2 _ _ ?_)
    refine TW.seq fun Y9 hY9 => ?_
    refine TW.region ?_
    refine TL.p Pu.as ?_
    refine TL.nil ?_
    refine TQ.thenN (hY9 _ _ ?_)
    refine TW.ret ?_
    refine TQ.ret Tryz.results105 rfl ((.tmp rfl .nil)) ?_
    exact fun w hw => ⟨ret_bool (by
      have e : L = M := List.ext_getElem (by omega) fun j h1 h2 => by
        have := hall j (by omega)
        simpa [List.getD_eq_getElem?_getD, h1, h2] using this
      rw [e, decide_eq_false (cmpI_self _)]), Chg.ext hw.chg⟩
theorem refWithout_any {w : World} {A B : Option Addr} {n m cA cB : Nat} {L M : List Int} (hn : n = L.length) (hm : m = M.length) (h1 : n ≤ 1000000) (h2 : m ≤ 1000000) (hA : RdR w 1 A n (iL L)) (hB : RdR w 1 B m (iL M)) :
    CallsK Tryz.prog 102 #[.slice A n cA, .slice B m cB] [] w (Option Addr × Nat) (fun x => .slice x.1 (L.filter fun x => !M.contains x).length x.2) (fun x => [.own x.1 (L.filter fun x => !M.contains x).length x.2 3 1 (iL (L.filter fun x => !M.contains x))]) := by
  replace hn : n ≤ L.length ∧ L.length ≤ n := by omega
  refine K_enter (S := []) (K := []) Tryz.func102 rfl Tryz.ntmps102 rfl (Sat.start _) ?_
  refine TW.seq fun Y1 hY1 => ?_
  refine TW.region ?_
  refine TL.p Pu.as ?_
  refine TL.nil ?_
  refine TQ.thenN (hY1 _ _ ?_)
  refine TW.seq fun Y2 hY2 => ?_
  refine TW.region ?_
  refine TL.p Pu.as ?_
  refine TL.nil ?_
  refine TQ.thenN (hY2 _ _ ?_)
  refine TW.seq fun Y3 hY3 => ?_
  refine TW.seq fun Y4 hY4 => ?_
  refine TW.region ?_
  refine TL.p Pu.as ?_
  refine TL.nil ?_
  refine TQ.thenN (hY4 _ _ ?_)
  refine TW.block ?_
  refine TW.loop5 (fun (k : Nat) (G : Option Addr) (t : Nat) (cg : Nat) (T : List Int) => [(6, .int .i64 (k : Int)), (5, .slice G t cg), (0, .slice A n cA), (1, .slice B m cB)]) (fun k G t cg T => [.own G t cg 3 1 (iL T)]) (fun k G t cg T => k ≤ n ∧ t = T.length ∧ T = (L.take k).filter (fun x => !M.contains x)) (fun k G t cg T => n - k) 0 none 0 0 [] (by repeat (first | exact trivial | refine ⟨rfl, ?_⟩ | refine ⟨trivial, ?_⟩)) ?_ ?_ ?_
  · exact KSub.nilOwn KSub.nil
  · exact ⟨Nat.zero_le _, rfl, by simp⟩
  rintro k G t cg T ⟨hk, ht, hT⟩ Z0 hZ0
  have htl : t ≤ k := by rw [ht, hT]; exact filter_take_le
  refine TW.seq fun Y5 hY5 => ?_
  refine TW.seq fun Y6 hY6 => ?_
  refine TW.region ?_
  refine TL.p Pu.mv ?_
  refine TL.p Pu.mv ?_
  refine TL.p (Pu.ln Tryz.underlying24) ?_
  refine TL.p Pu.lt ?_
  refine TL.nil ?_
  refine TQ.thenN (hY6 _ _ ?_)
  refine TW.cond rfl (fun hc0 => ?_) (fun hc0 => ?_)
  · try simp only [decide_eq_true_eq, decide_eq_false_iff_not, Bool.not_eq_true', Bool.not_eq_false', Bool.and_eq_true, Bool.or_eq_true, Bool.and_eq_false_iff, Bool.or_eq_false_iff, Int.not_lt, Int.not_le] at hc0
    have hkn : k < n := by omega
    refine TW.skip ?_
    refine TQ.thenN (hY5 _ _ ?_)
    refine TW.seq fun Y7 hY7 => ?_
    refine TW.block ?_
    refine TW.seq fun Y8 hY8 => ?_
    refine TW.region ?_
    refine TL.p Pu.mv ?_
    refine TL.p Pu.mv ?_
    refine TL.p Pu.mv ?_
    refine TL.p (Pu.el ty_et24) ?_
    refine TL.p (Pu.ld ty_sc3) ?_
    refine TL.cr rfl (enters Tryz.func69 rfl rfl) (fun w hw => by
        exact refHas_any _ hm (by omega) (hB.sat hw Apart.nil)) ?_
    refine TL.p Pu.no ?_
    refine TL.nil ?_
    refine TQ.thenN (hY8 _ _ ?_)
    refine TW.cond rfl (fun hc1 => ?_) (fun hc1 => ?_)
    · try simp only [decide_eq_true_eq, decide_eq_false_iff_not, Bool.not_eq_true', Bool.not_eq_false', Bool.and_eq_true, Bool.or_eq_true, Bool.and_eq_false_iff, Bool.or_eq_false_iff, Int.not_lt, Int.not_le] at hc1
      obtain ⟨T', hT'⟩ : ∃ y, y = T ++ [L.getD k 0] := ⟨_, rfl⟩
      have s1 : t + 1 = T'.length := by rw [hT', List.length_append, ← ht]; rfl
      have s2 : T' = (L.take (k + 1)).filter (fun x => !M.contains x) := by rw [hT', hT, filter_next (by omega) (by rw [hc1]; rfl)]
      refine TW.region ?_
      refine TL.p Pu.mv ?_
      refine TL.p Pu.mv ?_
      refine TL.p Pu.mv ?_
      refine TL.p (Pu.el ty_et24) ?_
      refine TL.p (Pu.ld ty_sc3) ?_
      refine TL.m Mk.bl ?_
      intro b1
      first | refine TL.a0 ty_et24 ?_ | refine TL.ap ty_et24 ?_
      intro A2 c2
      refine TL.p Pu.as ?_
      refine TL.nil ?_
      refine TQ.blkN ?_
      refine TQ.thenN (hY7 _ _ ?_)
      refine TW.region ?_
      refine TL.p Pu.mv ?_
      refine TL.p Pu.ad ?_
      refine TL.p Pu.as ?_
      refine TL.nil ?_
      refine TQ.thenN (hZ0 (k + 1) _ _ _ T' _ _ ?_ ?_ (by repeat (first | exact trivial | refine ⟨rfl, ?_⟩ | refine ⟨trivial, ?_⟩)) ?_)
      · exact ⟨by omega, s1, s2⟩
      · exact (by first | omega | (simp only []; omega) | (simp; omega))
      · first
          | exact KSub.own Pick.hd (iL_app ht hT' rfl) KSub.nil
          | exact KSub.own Pick.hd (fun i _ => by rw [hT']) KSub.nil
    · try simp only [decide_eq_true_eq, decide_eq_false_iff_not, Bool.not_eq_true', Bool.not_eq_false', Bool.and_eq_true, Bool.or_eq_true, Bool.and_eq_false_iff, Bool.or_eq_false_iff, Int.not_lt, Int.not_le] at hc1
      obtain ⟨T', hT'⟩ : ∃ y, y = T := ⟨_, rfl⟩
      have s1 : t = T'.length := by rw [hT', ← ht]
      have s2 : T' = (L.take (k + 1)).filter (fun x => !M.contains x) := by rw [hT', hT, filter_skip (by omega) (by rw [hc1]; rfl)]
      refine TW.skip ?_
      refine TQ.blkN ?_
      refine TQ.thenN (hY7 _ _ ?_)
      refine TW.region ?_
      refine TL.p Pu.mv ?_
      refine TL.p Pu.ad ?_
      refine TL.p Pu.as ?_
      refine TL.nil ?_
      refine TQ.thenN (hZ0 (k + 1) _ _ _ T' _ _ ?_ ?_ (by repeat (first | exact trivial | refine ⟨rfl, ?_⟩ | refine ⟨trivial, ?_⟩)) ?_)
      · exact ⟨by omega, s1, s2⟩
      · exact (by first | omega | (simp only []; omega) | (simp; omega))
      · first
          | exact KSub.own Pick.hd (iL_app ht hT' rfl) KSub.nil
          | exact KSub.own Pick.hd (fun i _ => by rw [hT']) KSub.nil
  · try simp only [decide_eq_true_eq, decide_eq_false_iff_not, Bool.not_eq_true', Bool.not_eq_false', Bool.and_eq_true, Bool.or_eq_true, Bool.and_eq_false_iff, Bool.or_eq_false_iff, Int.not_lt, Int.not_le] at hc0
    obtain rfl : n = k := by omega
    have eL : L.take n = L := List.take_of_length_le (by omega)
    rw [eL] at hT
    refine TW.exit ?_
    refine TQ.thenX ?_
    refine TQ.thenX ?_
    refine TQ.blkX ?_
    refine TQ.thenN (hY3 _ _ ?_)
    refine TW.seq fun Y9 hY9 => ?_
    refine TW.region ?_
    refine TL.p Pu.mv ?_
    refine TL.p Pu.as ?_
    refine TL.nil ?_
    refine TQ.thenN (hY9 _ _ ?_)
    refine TW.ret ?_
    refine TQ.ret Tryz.results102 rfl ((.tmp rfl .nil)) ?_
    exact fun w hw => ⟨(G, cg), by rw [← hT, ← ht]; rfl, by rw [← hT, ← ht]; exact hw.sub (by repeat (first | exact KSub.nil | refine KSub.cons (by repeat (first | exact Pick.hd | apply Pick.tl)) ?_))⟩
theorem setRun_few {L : List Int} {ok : List Int → Bool} (q : Nat) : (setRun L ok q).2 ≤ L.length ∧ (setRun L ok q).2 = (setRun L ok q).1.length ∨ L.length < (setRun L ok q).2 ∧ (setRun L ok q).1 = [] := by
  rcases setRun_inv (L := L) (ok := ok) q with ⟨_, h⟩ | ⟨p, _, h1, h2, _⟩
  · rw [h]; exact .inr ⟨Nat.lt_succ_self _, rfl⟩
  · refine .inl ⟨?_, h2⟩
    rw [h2, h1]
    exact sel_len _
theorem wS_wL {r : Nat → Int} {v : List Int} {n : Nat} (h : n = v.length) : wS r (fun k => v.getD k 0) n = wL r v := by subst h; rfl
theorem wL_bd0 {r0 r1 : Nat → Int} {nr : Nat} {L : List Int} (h : RestOk r0 r1 nr) (hL : InxL L nr) (hn : L.length ≤ 1000) : 0 ≤ wL r0 L ∧ wL r0 L ≤ 1000000000000 := by
  have := sumF_le (h.bd0 hL.inx) hn L.length (Nat.le_refl _)
  unfold wL wS
  dsimp only
  omega
theorem wL_bd1 {r0 r1 : Nat → Int} {nr : Nat} {L : List Int} (h : RestOk r0 r1 nr) (hL : InxL L nr) (hn : L.length ≤ 1000) : 0 ≤ wL r1 L ∧ wL r1 L ≤ 1000000000000 := by
  have := sumF_le (h.bd1 hL.inx) hn L.length (Nat.le_refl _)
  unfold wL wS
  dsimp only
  omega
set_option maxRecDepth 100000 in
set_option maxHeartbeats 4000000 in
theorem refSettle1_any {W : World} {A : Option Addr} {np cp : Nat} {pk : Nat → Nat → Int} {a : Nat → Option Addr} {l c : Nat → Nat} {v2 : Nat → Int} {L0 L1 : List Int} {b : Int} (h0 : l 0 = L0.length) (h1 : l 1 = L1.length) (hl : l 0 + l 1 ≤ 30) (h2 : l 2 ≤ 1000) (hP : ∀ q, q < np → packOk (pk q) = true) (hb : 0 ≤ b ∧ b ≤ 1000000000000) (i0 : InxL L0 np) (i1 : InxL L1 np)
    (hR : RdR W 11 A np (fun k => packL (pk k))) (hL0 : RdR W 1 (a 0) (l 0) (iL L0)) (hL1 : RdR W 1 (a 1) (l 1) (iL L1)) (hL2 : RdR W 1 (a 2) (l 2) (fun k => [.int .i64 (v2 k)])) :
    CallsK Tryz.prog 57 #[.slice A np cp, .agg (tieL a l c).toArray, .int .i64 b] [] W (Option Addr × Nat)
      (fun y => .tuple #[.slice y.1 (bestE (fun q => rl (pk q)) (fun q => rh (pk q)) b L0 L1).1.length y.2, .bool (decide (bestC (fun q => rl (pk q)) (fun q => rh (pk q)) b L0 L1 = 0))])
      (fun y => [.own y.1 (bestE (fun q => rl (pk q)) (fun q => rh (pk q)) b L0 L1).1.length y.2 3 1 (iL (bestE (fun q => rl (pk q)) (fun q => rh (pk q)) b L0 L1).1)]) := by
  have hrok := RestOk.of_packs hP
  obtain ⟨n, hn⟩ : ∃ n, n = L0.length + L1.length := ⟨_, rfl⟩
  have hn30 : n ≤ 30 := by omega
  have hpow : 2 ^ n ≤ 1073741824 := Nat.le_trans (Nat.pow_le_pow_right (by omega) hn30) (by decide)
  have hE : bestE (fun q => rl (pk q)) (fun q => rh (pk q)) b L0 L1 = bestS (fun q => rl (pk q)) (fun q => rh (pk q)) b L0 L1 (2 ^ n) := by rw [hn]; rfl
  have hC : decide (bestC (fun q => rl (pk q)) (fun q => rh (pk q)) b L0 L1 = 0) = decide ((bestS (fun q => rl (pk q)) (fun q => rh (pk q)) b L0 L1 (2 ^ n)).2 ≤ n) := by
    unfold bestC
    rw [hE, ← hn]
    by_cases h : (bestS (fun q => rl (pk q)) (fun q => rh (pk q)) b L0 L1 (2 ^ n)).2 ≤ n
    · rw [if_pos h, decide_eq_true h]; rfl
    · rw [if_neg h, decide_eq_false h]; rfl
  rw [hE, hC]
  clear hE hC
  have hSl : (sidesL L0 L1).length = n := by rw [sides_len, hn]
  have hm0 := fun M => mvd_len (S := L0) (C := L1) (M := M)
  have hm1 := fun M => mvd_len (S := L1) (C := L0) (M := M)
  unfold tieL
  refine K_enter (S := []) (K := []) Tryz.func57 rfl Tryz.ntmps57 rfl (Sat.start _) ?_
  refine TW.seq fun Y1 hY1 => ?_
  refine TW.region ?_
  refine TL.m Mk.bx ?_
  intro b1
  refine TL.p Pu.as ?_
  refine TL.p Pu.as ?_
  refine TL.nil ?_
  refine TQ.thenN (hY1 _ _ ?_)
  refine TW.seq fun Y2 hY2 => ?_
  refine TW.ex0k [.blk b1 36 [.slice (a 0) (l 0) (c 0), .slice (a 1) (l 1) (c 1), .slice (a 2) (l 2) (c 2)]] ?_
  refine RG.tk 1 rfl (by first | exact Pu.fb ty_fa36_0 | exact Pu.fe ty_fa36_0) ?_
  refine RG.tk 2 rfl (Pu.ld ty_sc24) ?_
  refine RG.tk 4 rfl (by first | exact Pu.fb ty_fa36_1 | exact Pu.fe ty_fa36_1) ?_
  refine RG.tk 5 rfl (Pu.ld ty_sc24) ?_
  refine RG.a1 0 rfl (fun X0 hX0 => ?_)
  refine TL.m Mk.bl ?_
  intro b2
  refine TL.nil ?_
  refine TQ.nxt (hX0 _ _ (by repeat (first | exact HasL.nil | refine HasL.cons (by repeat (first | exact Pick.hd | apply Pick.tl)) ?_)) ?_)
  refine RG.a1 3 rfl (fun X3 hX3 => ?_)
  refine TL.ob (b := b2) (sz := 1) (r := fun _ => []) (by repeat (first | exact Pick.hd | apply Pick.tl)) rfl ?_
  first | refine TL.a0 ty_et24 ?_ | refine TL.ap ty_et24 ?_
  intro A3 c3
  refine TL.nil ?_
  refine TQ.nxt (hX3 _ _ (by repeat (first | exact HasL.nil | refine HasL.cons (by repeat (first | exact Pick.hd | apply Pick.tl)) ?_)) ?_)
  refine RG.a1 6 rfl (fun X6 hX6 => ?_)
  first | refine TL.a0 ty_et24 ?_ | refine TL.ap ty_et24 ?_
  intro A4 c4
  refine TL.nil ?_
  refine TQ.nxt (hX6 _ _ (by repeat (first | exact HasL.nil | refine HasL.cons (by repeat (first | exact Pick.hd | apply Pick.tl)) ?_)) ?_)
  refine RG.a1 7 rfl (fun X7 hX7 => ?_)
  refine TL.subK (KSub.own (s := iL (L0 ++ L1)) Pick.hd (fun i _ => iL_cat h0 i) (KSub.refl _)) ?_
  refine TL.call rfl (enters Tryz.func58 rfl rfl) (M := [.own A4 (l 0 + l 1) c4 3 1 (iL (L0 ++ L1))]) (List.Perm.refl _) rfl (fun w hw => by
      exact refSorted_any (by rw [List.length_append]; omega) (by omega) (hw.holds (.own A4 (l 0 + l 1) c4 3 1 (iL (L0 ++ L1))) (by simp))) ?_
  intro _
  refine TL.nil ?_
  refine TQ.nxt (hX7 _ _ (by repeat (first | exact HasL.nil | refine HasL.cons (by repeat (first | exact Pick.hd | apply Pick.tl)) ?_)) ?_)
  refine RG.tk 8 rfl Pu.as ?_
  refine RG.nil ?_ (by kernel_rfl)
  refine TQ.thenN (hY2 _ _ ?_)
  refine TW.seq fun Y3 hY3 => ?_
  refine TW.region ?_
  have hln : l 0 + l 1 = n := by omega
  rw [hln]
  change TL _ _ _ _ _ (_ :: _)
  generalize hS : srt (L0 ++ L1) = S at *
  replace hSl : S.length ≤ n ∧ n ≤ S.length := by
    have : (sidesL L0 L1).length = n := hSl
    unfold sidesL at this
    rw [hS] at this
    omega
  have hSs : sidesL L0 L1 = S := hS
  generalize hr0 : (fun q => rl (pk q)) = r0 at *
  generalize hr1 : (fun q => rh (pk q)) = r1 at *
  refine TL.p Pu.as ?_
  refine TL.nil ?_
  refine TQ.thenN (hY3 _ _ ?_)
  refine TW.seq fun Y4 hY4 => ?_
  refine TW.region ?_
  refine TL.p Pu.as ?_
  refine TL.nil ?_
  refine TQ.thenN (hY4 _ _ ?_)
  refine TW.seq fun Y5 hY5 => ?_
  refine TW.seq fun Y6 hY6 => ?_
  refine TW.region ?_
  refine TL.p Pu.as ?_
  refine TL.nil ?_
  refine TQ.thenN (hY6 _ _ ?_)
  refine TW.block ?_
  refine TW.loop3 (fun (q : Nat) (G : Option Addr) (cg : Nat) => [(11, .int .i64 (q : Int)), (8, .slice A4 n c4), (9, .slice G (bestS r0 r1 b L0 L1 q).1.length cg), (10, .bool (decide ((bestS r0 r1 b L0 L1 q).2 ≤ n))), (0, .slice A np cp), (4, .pointer (some ⟨b1, 0, none⟩)), (2, .int .i64 b)]) (fun q G cg => [.own G (bestS r0 r1 b L0 L1 q).1.length cg 3 1 (iL (bestS r0 r1 b L0 L1 q).1), .own A4 n c4 3 1 (iL S), .blk b1 36 [.slice (a 0) (l 0) (c 0), .slice (a 1) (l 1) (c 1), .slice (a 2) (l 2) (c 2)]]) (fun q G cg => q ≤ 2 ^ n) (fun q G cg => 2 ^ n - q) 0 none 0 ⟨rfl, rfl, rfl, (by show some (Value.bool false) = some (Value.bool (decide ((sidesL L0 L1).length + 1 ≤ n))); rw [hSs, decide_eq_false (by omega)]), rfl, rfl, rfl, trivial⟩ ?_ ?_ ?_
  · exact KSub.nilOwn (by repeat (first | exact KSub.nil | refine KSub.cons (by repeat (first | exact Pick.hd | apply Pick.tl)) ?_))
  · exact Nat.zero_le _
  rintro q G cg hq Z0 hZ0
  have hstep := bestS_step (r0 := r0) (r1 := r1) (b := b) (q := q) hn
  rw [hSs] at hstep
  have hfew : (bestS r0 r1 b L0 L1 q).2 ≤ (sidesL L0 L1).length ∧ (bestS r0 r1 b L0 L1 q).2 = (bestS r0 r1 b L0 L1 q).1.length ∨ (sidesL L0 L1).length < (bestS r0 r1 b L0 L1 q).2 ∧ (bestS r0 r1 b L0 L1 q).1 = [] := setRun_few q
  have hlen1 : (bestS r0 r1 b L0 L1 q).1.length ≤ (sidesL L0 L1).length := (setRun_le q).2
  rw [hSs] at hfew hlen1
  generalize hs : bestS r0 r1 b L0 L1 q = s at *
  refine TW.seq fun Y7 hY7 => ?_
  refine TW.seq fun Y8 hY8 => ?_
  refine TW.region ?_
  refine TL.p Pu.mv ?_
  refine TL.p Pu.mv ?_
  refine TL.p (Pu.ln Tryz.underlying24) ?_
  refine TL.p (Pu.sl1 (j := n)) ?_
  refine TL.p Pu.lt ?_
  refine TL.nil ?_
  refine TQ.thenN (hY8 _ _ ?_)
  refine TW.cond rfl (fun hc0 => ?_) (fun hc0 => ?_)
  · try simp only [decide_eq_true_eq, decide_eq_false_iff_not, Bool.not_eq_true', Bool.not_eq_false', Bool.and_eq_true, Bool.or_eq_true, Bool.and_eq_false_iff, Bool.or_eq_false_iff, Int.not_lt, Int.not_le] at hc0
    have hqn : q < 2 ^ n := by omega
    refine TW.skip ?_
    refine TQ.thenN (hY7 _ _ ?_)
    refine TW.seq fun Y9 hY9 => ?_
    refine TW.block ?_
    refine TW.seq fun Y10 hY10 => ?_
    refine TW.region ?_
    refine TL.p Pu.as ?_
    refine TL.nil ?_
    refine TQ.thenN (hY10 _ _ ?_)
    refine TW.seq fun Y11 hY11 => ?_
    refine TW.seq fun Y12 hY12 => ?_
    refine TW.region ?_
    refine TL.p Pu.as ?_
    refine TL.nil ?_
    refine TQ.thenN (hY12 _ _ ?_)
    refine TW.block ?_
    refine TW.loop5 (fun (i : Nat) (B : Option Addr) (cb : Nat) (t : Nat) (T : List Int) => [(13, .int .i64 (i : Int)), (12, .slice B t cb), (11, .int .i64 (q : Int)), (8, .slice A4 n c4), (9, .slice G s.1.length cg), (10, .bool (decide (s.2 ≤ n))), (0, .slice A np cp), (4, .pointer (some ⟨b1, 0, none⟩)), (2, .int .i64 b)]) (fun i B cb t T => [.own B t cb 3 1 (iL T), .own G s.1.length cg 3 1 (iL s.1), .own A4 n c4 3 1 (iL S), .blk b1 36 [.slice (a 0) (l 0) (c 0), .slice (a 1) (l 1) (c 1), .slice (a 2) (l 2) (c 2)]]) (fun i B cb t T => i ≤ n ∧ t = T.length ∧ T = sel S q i) (fun i B cb t T => n - i) 0 none 0 0 [] (by repeat (first | exact trivial | refine ⟨rfl, ?_⟩ | refine ⟨trivial, ?_⟩)) ?_ ?_ ?_
    · exact KSub.nilOwn (by repeat (first | exact KSub.nil | refine KSub.cons (by repeat (first | exact Pick.hd | apply Pick.tl)) ?_))
    · exact ⟨Nat.zero_le _, rfl, rfl⟩
    rintro i B cb t T ⟨hi, ht, hT⟩ Z1 hZ1
    have htl : t ≤ i := by rw [ht, hT]; exact sel_len i
    refine TW.seq fun Y13 hY13 => ?_
    refine TW.seq fun Y14 hY14 => ?_
    refine TW.region ?_
    refine TL.p Pu.mv ?_
    refine TL.p Pu.mv ?_
    refine TL.p (Pu.ln Tryz.underlying24) ?_
    refine TL.p Pu.lt ?_
    refine TL.nil ?_
    refine TQ.thenN (hY14 _ _ ?_)
    refine TW.cond rfl (fun hc1 => ?_) (fun hc1 => ?_)
    · try simp only [decide_eq_true_eq, decide_eq_false_iff_not, Bool.not_eq_true', Bool.not_eq_false', Bool.and_eq_true, Bool.or_eq_true, Bool.and_eq_false_iff, Bool.or_eq_false_iff, Int.not_lt, Int.not_le] at hc1
      have hin : i < n := by omega
      refine TW.skip ?_
      refine TQ.thenN (hY13 _ _ ?_)
      refine TW.seq fun Y15 hY15 => ?_
      refine TW.block ?_
      refine TW.seq fun Y16 hY16 => ?_
      refine TW.region ?_
      refine TL.p Pu.mv ?_
      refine TL.p Pu.mv ?_
      refine TL.p Pu.srN ?_
      refine TL.p (Pu.an1 (hm := by have := Nat.div_le_self q (2 ^ i); omega)) ?_
      refine TL.p Pu.eq ?_
      refine TL.nil ?_
      refine TQ.thenN (hY16 _ _ ?_)
      refine TW.cond rfl (fun hc2 => ?_) (fun hc2 => ?_)
      · try simp only [decide_eq_true_eq, decide_eq_false_iff_not, Bool.not_eq_true', Bool.not_eq_false', Bool.and_eq_true, Bool.or_eq_true, Bool.and_eq_false_iff, Bool.or_eq_false_iff, Int.not_lt, Int.not_le] at hc2
        have hbit : q / 2 ^ i % 2 = 1 := by omega
        obtain ⟨T', hT'⟩ : ∃ y, y = T ++ [S.getD i 0] := ⟨_, rfl⟩
        have s1 : t + 1 = T'.length := by rw [hT', List.length_append, ← ht]; rfl
        have s2 : T' = sel S q (i + 1) := by rw [hT', hT]; simp only [sel]; rw [if_pos hbit]
        refine TW.region ?_
        refine TL.p Pu.mv ?_
        refine TL.p Pu.mv ?_
        refine TL.p Pu.mv ?_
        refine TL.p (Pu.el ty_et24) ?_
        refine TL.p (Pu.ld ty_sc3) ?_
        refine TL.m Mk.bl ?_
        intro b5
        first | refine TL.a0 ty_et24 ?_ | refine TL.ap ty_et24 ?_
        intro A6 c6
        refine TL.p Pu.as ?_
        refine TL.nil ?_
        refine TQ.blkN ?_
        refine TQ.thenN (hY15 _ _ ?_)
        refine TW.region ?_
        refine TL.p Pu.mv ?_
        refine TL.p Pu.ad ?_
        refine TL.p Pu.as ?_
        refine TL.nil ?_
        refine TQ.thenN (hZ1 (i + 1) _ _ _ T' _ _ ?_ ?_ (by repeat (first | exact trivial | refine ⟨rfl, ?_⟩ | refine ⟨trivial, ?_⟩)) ?_)
        · exact ⟨by omega, s1, s2⟩
        · exact (by first | omega | (simp only []; omega) | (simp; omega))
        · first
            | exact KSub.own Pick.hd (iL_app ht hT' rfl) (by repeat (first | exact KSub.nil | refine KSub.cons (by repeat (first | exact Pick.hd | apply Pick.tl)) ?_))
            | exact KSub.own Pick.hd (fun i _ => by rw [hT']) (by repeat (first | exact KSub.nil | refine KSub.cons (by repeat (first | exact Pick.hd | apply Pick.tl)) ?_))
      · try simp only [decide_eq_true_eq, decide_eq_false_iff_not, Bool.not_eq_true', Bool.not_eq_false', Bool.and_eq_true, Bool.or_eq_true, Bool.and_eq_false_iff, Bool.or_eq_false_iff, Int.not_lt, Int.not_le] at hc2
        have hbit : ¬ q / 2 ^ i % 2 = 1 := by omega
        obtain ⟨T', hT'⟩ : ∃ y, y = T := ⟨_, rfl⟩
        have s1 : t = T'.length := by rw [hT', ← ht]
        have s2 : T' = sel S q (i + 1) := by rw [hT', hT]; simp only [sel]; rw [if_neg hbit]
        refine TW.skip ?_
        refine TQ.blkN ?_
        refine TQ.thenN (hY15 _ _ ?_)
        refine TW.region ?_
        refine TL.p Pu.mv ?_
        refine TL.p Pu.ad ?_
        refine TL.p Pu.as ?_
        refine TL.nil ?_
        refine TQ.thenN (hZ1 (i + 1) _ _ _ T' _ _ ?_ ?_ (by repeat (first | exact trivial | refine ⟨rfl, ?_⟩ | refine ⟨trivial, ?_⟩)) ?_)
        · exact ⟨by omega, s1, s2⟩
        · exact (by first | omega | (simp only []; omega) | (simp; omega))
        · first
            | exact KSub.own Pick.hd (iL_app ht hT' rfl) (by repeat (first | exact KSub.nil | refine KSub.cons (by repeat (first | exact Pick.hd | apply Pick.tl)) ?_))
            | exact KSub.own Pick.hd (fun i _ => by rw [hT']) (by repeat (first | exact KSub.nil | refine KSub.cons (by repeat (first | exact Pick.hd | apply Pick.tl)) ?_))
    · try simp only [decide_eq_true_eq, decide_eq_false_iff_not, Bool.not_eq_true', Bool.not_eq_false', Bool.and_eq_true, Bool.or_eq_true, Bool.and_eq_false_iff, Bool.or_eq_false_iff, Int.not_lt, Int.not_le] at hc1
      obtain rfl : n = i := by omega
      subst ht
      refine TW.exit ?_
      refine TQ.thenX ?_
      refine TQ.thenX ?_
      refine TQ.blkX ?_
      refine TQ.thenN (hY11 _ _ ?_)
      refine TW.seq fun Y17 hY17 => ?_
      refine TW.region ?_
      refine TL.p (Pu.lds ty_ag36) ?_
      refine TL.p Pu.mv ?_
      refine TL.call (M := []) rfl (enters Tryz.func29 rfl rfl) (List.Perm.refl _) rfl (fun w hw => by
          exact refMoved_any (a := a) (l := l) (c := c) (M := T) h0 h1 rfl rfl (by omega) (by omega) h2 (by omega) (hL0.sat hw Apart.nil) (hL1.sat hw Apart.nil) (hL2.sat hw Apart.nil) (OwnR.rdr (hw.holds (.own B T.length cb 3 1 (iL T)) (by simp)))) ?_
      rintro ⟨⟨Ma, ma⟩, ⟨Mb, mb⟩, ⟨Mc, mc⟩⟩
      have hm0 := hm0 T
      have hm1 := hm1 T
      rw [← hT] at hstep
      simp only [mv3T, mv3K, List.cons_append, List.nil_append]
      refine TL.m (Mk.al ty_zr36) ?_
      intro b7
      first | refine TL.st ty_sz36 ?_ | refine TL.se ty_sz36 ?_
      refine TL.nil ?_
      refine TQ.thenN (hY17 _ _ ?_)
      refine TW.seq fun Y18 hY18 => ?_
      refine TW.seq fun Y19 hY19 => ?_
      refine TW.dw 11 ?_
      refine RK.tk Pu.mv ?_
      refine RK.tk (by first | exact Pu.fb ty_fa36_0 | exact Pu.fe ty_fa36_0) ?_
      refine RK.tk (Pu.ld ty_sc24) ?_
      refine RK.keep ?_
      refine RK.tk Pu.mv ?_
      refine RK.tk (by first | exact Pu.fb ty_fa36_1 | exact Pu.fe ty_fa36_1) ?_
      refine RK.tk (Pu.ld ty_sc24) ?_
      refine RK.keep ?_
      refine RK.tk Pu.mv ?_
      refine RK.keep ?_
      refine RK.keep ?_
      refine RK.ch [false, false, false, true] ?_ trivial
      refine WK.cr rfl (enters Tryz.func104 rfl rfl) (fun w hw => by
          have hu := refSum_any (cp := cp) (cn := ma) (by omega) hP (i0.mvd i1 (M := T)).inx (hR.sat hw Apart.nil) (OwnR.rdr (hw.holds (.own Ma (mvd L0 L1 T).length ma 3 1 (iL (mvd L0 L1 T))) (by simp)))
          rw [hr0, hr1, wS_wL rfl, wS_wL rfl] at hu
          exact hu) ?_
      refine WK.cr rfl (enters Tryz.func104 rfl rfl) (fun w hw => by
          have hu := refSum_any (cp := cp) (cn := mb) (by omega) hP (i1.mvd i0 (M := T)).inx (hR.sat hw Apart.nil) (OwnR.rdr (hw.holds (.own Mb (mvd L1 L0 T).length mb 3 1 (iL (mvd L1 L0 T))) (by simp)))
          rw [hr0, hr1, wS_wL rfl, wS_wL rfl] at hu
          exact hu) ?_
      refine WK.cr rfl (enters Tryz.func103 rfl rfl) (fun w hw => by
          exact refBalance5_any _ _ _ _ _ _ (wL_bd0 hrok (i0.mvd i1) (by omega)) (wL_bd1 hrok (i0.mvd i1) (by omega)) (wL_bd0 hrok (i1.mvd i0) (by omega)) (wL_bd1 hrok (i1.mvd i0) (by omega)) hb) ?_
      refine WK.p Pu.ne ?_
      refine WK.n ?_
      refine TL.nil ?_
      refine TQ.thenN (hY19 _ _ ?_)
      refine TW.cond rfl (fun hc3 => ?_) (fun hc3 => ?_)
      · try simp only [decide_eq_true_eq, decide_eq_false_iff_not, Bool.not_eq_true', Bool.not_eq_false', Bool.and_eq_true, Bool.or_eq_true, Bool.and_eq_false_iff, Bool.or_eq_false_iff, Int.not_lt, Int.not_le] at hc3
        have hst : bestS r0 r1 b L0 L1 (q + 1) = s := by rw [hstep]; unfold setStep; rw [if_neg (fun h => by have h9 := h.2; unfold mvOk at h9; exact hc3 (of_decide_eq_true h9))]
        obtain ⟨r', hr'⟩ : ∃ y : Option Addr × Nat, y = (G, cg) := ⟨_, rfl⟩
        refine TW.exit ?_
        refine TQ.thenX ?_
        refine TQ.blkX ?_
        refine TQ.thenN (hY9 _ _ ?_)
        refine TW.region ?_
        refine TL.p Pu.mv ?_
        refine TL.p Pu.ad ?_
        refine TL.p Pu.as ?_
        refine TL.nil ?_
        refine TQ.thenN (hZ0 (q + 1) r'.1 r'.2 _ _ ?_ ?_ ⟨rfl, rfl, (by rw [hst, hr']; rfl), (by rw [hst]; first | rfl | (show some (Value.bool true) = some (Value.bool (decide (T.length ≤ _))); rw [decide_eq_true (by omega)])), rfl, rfl, rfl, trivial⟩ ?_)
        · exact (by omega)
        · exact (by first | omega | (simp only []; omega) | (simp; omega))
        · rw [hst, hr']
          repeat (first | exact KSub.nil | refine KSub.cons (by repeat (first | exact Pick.hd | apply Pick.tl)) ?_)
      · try simp only [decide_eq_true_eq, decide_eq_false_iff_not, Bool.not_eq_true', Bool.not_eq_false', Bool.and_eq_true, Bool.or_eq_true, Bool.and_eq_false_iff, Bool.or_eq_false_iff, Int.not_lt, Int.not_le] at hc3
        have hok : mvOk r0 r1 b L0 L1 T = true := by unfold mvOk; exact decide_eq_true hc3
        refine TW.skip ?_
        refine TQ.thenN (hY18 _ _ ?_)
        refine TW.seq fun Y20 hY20 => ?_
        refine TW.join [(82, .bool (!decide (s.2 ≤ n) || decide ((T.length : Int) < (s.1.length : Int)) || (decide ((T.length : Int) = (s.1.length : Int)) && decide (cmpI T s.1 < 0))))] ?_ (fun hJ1 => ?_)
        · refine TQ.thenN (hY20 _ _ ?_)
          refine TW.cond rfl (fun hc4 => ?_) (fun hc4 => ?_)
          · try simp only [decide_eq_true_eq, decide_eq_false_iff_not, Bool.not_eq_true', Bool.not_eq_false', Bool.and_eq_true, Bool.or_eq_true, Bool.and_eq_false_iff, Bool.or_eq_false_iff, Int.not_lt, Int.not_le] at hc4
            have hst : bestS r0 r1 b L0 L1 (q + 1) = (T, T.length) := by
              have h8 : T.length < s.2 ∨ T.length = s.2 ∧ cmpI T s.1 < 0 := by omega
              rw [hstep]; unfold setStep; rw [if_pos ⟨h8, hok⟩]
            obtain ⟨r', hr'⟩ : ∃ y : Option Addr × Nat, y = (B, cb) := ⟨_, rfl⟩
            refine TW.region ?_
            refine TL.p Pu.mv ?_
            refine TL.p Pu.as ?_
            refine TL.p Pu.as ?_
            refine TL.nil ?_
            refine TQ.blkN ?_
            refine TQ.thenN (hY9 _ _ ?_)
            refine TW.region ?_
            refine TL.p Pu.mv ?_
            refine TL.p Pu.ad ?_
            refine TL.p Pu.as ?_
            refine TL.nil ?_
            refine TQ.thenN (hZ0 (q + 1) r'.1 r'.2 _ _ ?_ ?_ ⟨rfl, rfl, (by rw [hst, hr']; rfl), (by rw [hst]; first | rfl | (show some (Value.bool true) = some (Value.bool (decide (T.length ≤ _))); rw [decide_eq_true (by omega)])), rfl, rfl, rfl, trivial⟩ ?_)
            · exact (by omega)
            · exact (by first | omega | (simp only []; omega) | (simp; omega))
            · rw [hst, hr']
              repeat (first | exact KSub.nil | refine KSub.cons (by repeat (first | exact Pick.hd | apply Pick.tl)) ?_)
          · try simp only [decide_eq_true_eq, decide_eq_false_iff_not, Bool.not_eq_true', Bool.not_eq_false', Bool.and_eq_true, Bool.or_eq_true, Bool.and_eq_false_iff, Bool.or_eq_false_iff, Int.not_lt, Int.not_le] at hc4
            have hst : bestS r0 r1 b L0 L1 (q + 1) = s := by
              have h8 : ¬ (T.length < s.2 ∨ T.length = s.2 ∧ cmpI T s.1 < 0) := by omega
              rw [hstep]; unfold setStep; rw [if_neg fun h9 => h8 h9.1]
            obtain ⟨r', hr'⟩ : ∃ y : Option Addr × Nat, y = (G, cg) := ⟨_, rfl⟩
            refine TW.skip ?_
            refine TQ.blkN ?_
            refine TQ.thenN (hY9 _ _ ?_)
            refine TW.region ?_
            refine TL.p Pu.mv ?_
            refine TL.p Pu.ad ?_
            refine TL.p Pu.as ?_
            refine TL.nil ?_
            refine TQ.thenN (hZ0 (q + 1) r'.1 r'.2 _ _ ?_ ?_ ⟨rfl, rfl, (by rw [hst, hr']; rfl), (by rw [hst]; first | rfl | (show some (Value.bool true) = some (Value.bool (decide (T.length ≤ _))); rw [decide_eq_true (by omega)])), rfl, rfl, rfl, trivial⟩ ?_)
            · exact (by omega)
            · exact (by first | omega | (simp only []; omega) | (simp; omega))
            · rw [hst, hr']
              repeat (first | exact KSub.nil | refine KSub.cons (by repeat (first | exact Pick.hd | apply Pick.tl)) ?_)
        refine TW.region ?_
        refine TL.p Pu.mv ?_
        refine TL.p Pu.no ?_
        refine TL.p Pu.mv ?_
        refine TL.guard (t := 64) rfl (fun hg1 => ?_) (fun hg1 => ?_)
        · try simp only [decide_eq_true_eq, decide_eq_false_iff_not, Bool.not_eq_true', Bool.not_eq_false', Int.natCast_pos] at hg1
          refine TL.gs ?_
          refine TL.gs ?_
          refine TL.gs ?_
          refine TL.gs ?_
          refine TL.gs ?_
          refine TL.p Pu.kt ?_
          refine TL.p Pu.mv ?_
          refine TL.gs ?_
          refine TL.gs ?_
          refine TL.gs ?_
          refine TL.gs ?_
          refine TL.gs ?_
          refine TL.gs ?_
          refine TL.gs ?_
          refine TL.gs ?_
          refine TL.gs ?_
          refine TL.gs ?_
          refine TL.p Pu.kt ?_
          refine TL.nil ?_
          exact TQ.sub (by repeat (first | exact trivial | refine ⟨rfl, ?_⟩ | refine ⟨trivial, ?_⟩ | refine ⟨(by show some (Value.bool _) = some (Value.bool _); simp [hg1, -Int.ofNat_lt, -Int.ofNat_le]), ?_⟩)) (by repeat (first | exact KSub.nil | refine KSub.cons (by repeat (first | exact Pick.hd | apply Pick.tl)) ?_)) hJ1
        · try simp only [decide_eq_true_eq, decide_eq_false_iff_not, Bool.not_eq_true', Bool.not_eq_false', Int.natCast_pos] at hg1
          refine TL.gd Pu.mv ?_
          refine TL.gd (Pu.ln Tryz.underlying24) ?_
          refine TL.gd Pu.mv ?_
          refine TL.gd (Pu.ln Tryz.underlying24) ?_
          refine TL.gd Pu.lt ?_
          refine TL.p Pu.kf ?_
          refine TL.p Pu.mv ?_
          refine TL.guard (t := 71) rfl (fun hg2 => ?_) (fun hg2 => ?_)
          · try simp only [decide_eq_true_eq, decide_eq_false_iff_not, Bool.not_eq_true', Bool.not_eq_false', Int.natCast_pos] at hg2
            refine TL.gs ?_
            refine TL.gs ?_
            refine TL.gs ?_
            refine TL.gs ?_
            refine TL.gs ?_
            refine TL.gs ?_
            refine TL.gs ?_
            refine TL.gs ?_
            refine TL.gs ?_
            refine TL.gs ?_
            refine TL.p Pu.kt ?_
            refine TL.nil ?_
            exact TQ.sub (by repeat (first | exact trivial | refine ⟨rfl, ?_⟩ | refine ⟨trivial, ?_⟩ | refine ⟨(by show some (Value.bool _) = some (Value.bool _); simp [hg1, hg2, -Int.ofNat_lt, -Int.ofNat_le]), ?_⟩)) (by repeat (first | exact KSub.nil | refine KSub.cons (by repeat (first | exact Pick.hd | apply Pick.tl)) ?_)) hJ1
          · try simp only [decide_eq_true_eq, decide_eq_false_iff_not, Bool.not_eq_true', Bool.not_eq_false', Int.natCast_pos] at hg2
            refine TL.gd Pu.mv ?_
            refine TL.gd (Pu.ln Tryz.underlying24) ?_
            refine TL.gd Pu.mv ?_
            refine TL.gd (Pu.ln Tryz.underlying24) ?_
            refine TL.gd Pu.eq ?_
            refine TL.gd Pu.mv ?_
            refine TL.guard (t := 77) rfl (fun hg3 => ?_) (fun hg3 => ?_)
            · try simp only [decide_eq_true_eq, decide_eq_false_iff_not, Bool.not_eq_true', Bool.not_eq_false', Int.natCast_pos] at hg3
              refine TL.gd Pu.mv ?_
              refine TL.gd Pu.mv ?_
              refine TL.cr rfl (enters Tryz.func105 rfl rfl) (fun w hw => by
                  exact refEarlier_any (n := T.length) (m := s.1.length) (L := T) (M := s.1) rfl rfl (by omega) (by omega) (OwnR.rdr (hw.holds (.own B T.length cb 3 1 (iL T)) (by simp))) (OwnR.rdr (hw.holds (.own G s.1.length cg 3 1 (iL s.1)) (by simp)))) ?_
              refine TL.gd Pu.kt ?_
              refine TL.p Pu.kf ?_
              refine TL.nil ?_
              exact TQ.sub (by repeat (first | exact trivial | refine ⟨rfl, ?_⟩ | refine ⟨trivial, ?_⟩ | refine ⟨(by show some (Value.bool _) = some (Value.bool _); simp [hg1, hg2, hg3, -Int.ofNat_lt, -Int.ofNat_le]), ?_⟩)) (by repeat (first | exact KSub.nil | refine KSub.cons (by repeat (first | exact Pick.hd | apply Pick.tl)) ?_)) hJ1
            · try simp only [decide_eq_true_eq, decide_eq_false_iff_not, Bool.not_eq_true', Bool.not_eq_false', Int.natCast_pos] at hg3
              refine TL.gs ?_
              refine TL.gs ?_
              refine TL.gs ?_
              refine TL.gd Pu.kf ?_
              refine TL.p Pu.kf ?_
              refine TL.nil ?_
              exact TQ.sub (by repeat (first | exact trivial | refine ⟨rfl, ?_⟩ | refine ⟨trivial, ?_⟩ | refine ⟨(by show some (Value.bool _) = some (Value.bool _); simp [hg1, hg2, hg3, -Int.ofNat_lt, -Int.ofNat_le]), ?_⟩)) (by repeat (first | exact KSub.nil | refine KSub.cons (by repeat (first | exact Pick.hd | apply Pick.tl)) ?_)) hJ1
  · try simp only [decide_eq_true_eq, decide_eq_false_iff_not, Bool.not_eq_true', Bool.not_eq_false', Bool.and_eq_true, Bool.or_eq_true, Bool.and_eq_false_iff, Bool.or_eq_false_iff, Int.not_lt, Int.not_le] at hc0
    obtain rfl : q = 2 ^ n := by omega
    refine TW.exit ?_
    refine TQ.thenX ?_
    refine TQ.thenX ?_
    refine TQ.blkX ?_
    refine TQ.thenN (hY5 _ _ ?_)
    refine TW.seq fun Y21 hY21 => ?_
    refine TW.region ?_
    refine TL.p Pu.mv ?_
    refine TL.p Pu.mv ?_
    refine TL.p Pu.as ?_
    refine TL.p Pu.as ?_
    refine TL.nil ?_
    refine TQ.thenN (hY21 _ _ ?_)
    refine TW.ret ?_
    refine TQ.ret Tryz.results57 rfl ((.tmp rfl (.tmp rfl .nil))) ?_
    exact fun w hw => ⟨(G, cg), by rw [hs]; rfl, by rw [hs]; exact hw.sub (by repeat (first | exact KSub.nil | refine KSub.cons (by repeat (first | exact Pick.hd | apply Pick.tl)) ?_))⟩
end Go.Proofs.YtjephihlkjpohaaGreatDoor
namespace Go.Proofs.YtjephihlkjpohaaGreatDoor
set_option linter.all false
set_option linter.unusedVariables false
set_option linter.unusedSimpArgs false
open Go.RowKit
theorem bestC_or5 (r0 r1 : Nat → Int) (b : Int) (L0 L1 : List Int) : bestC r0 r1 b L0 L1 = 0 ∨ bestC r0 r1 b L0 L1 = 52 := by
  unfold bestC
  split
  · exact .inl rfl
  · exact .inr rfl
theorem refSettle_any {w : World} {A : Option Addr} {np cp : Nat} {pk : Nat → Nat → Int} {a : Nat → Option Addr} {l c : Nat → Nat} {v : Nat → Nat → Int} {b : Int} (hL : Lay1 w A np pk a l v) :
    CallsK Tryz.prog 20 #[.slice A np cp, .agg (tieL a l c).toArray, .int .i64 b] [] w (Option Addr × Nat) (fun y => .tuple #[.slice y.1 (settL np pk l v b).length y.2, .int .i64 (settC np pk l v b)]) (fun y => [.own y.1 (settL np pk l v b).length y.2 3 1 (iL (settL np pk l v b))]) := by
  refine K_enter (S := []) (K := []) Tryz.func20 rfl Tryz.ntmps20 rfl (Sat.start _) ?_
  refine TW.seq fun Y1 hY1 => ?_
  refine TW.region ?_
  refine TL.m Mk.bx ?_
  intro b1
  refine TL.p Pu.as ?_
  refine TL.p Pu.as ?_
  refine TL.nil ?_
  refine TQ.thenN (hY1 _ _ ?_)
  refine TW.seq fun Y2 hY2 => ?_
  refine TW.seq fun Y3 hY3 => ?_
  refine TW.region ?_
  refine TL.p Pu.mv ?_
  refine TL.p (Pu.lds ty_ag36) ?_
  refine TL.p Pu.mv ?_
  refine TL.cr rfl (enters Tryz.func60 rfl rfl) (fun w hw => by
      exact refAsked_any (hL.sat hw)) ?_
  refine TL.p Pu.as ?_
  refine TL.nil ?_
  refine TQ.thenN (hY3 _ _ ?_)
  refine TW.seq fun Y4 hY4 => ?_
  refine TW.region ?_
  refine TL.p Pu.mv ?_
  refine TL.p Pu.ne ?_
  refine TL.nil ?_
  refine TQ.thenN (hY4 _ _ ?_)
  refine TW.cond rfl (fun hc0 => ?_) (fun hc0 => ?_)
  · try simp only [decide_eq_true_eq, decide_eq_false_iff_not, Bool.not_eq_true', Bool.not_eq_false', Bool.and_eq_true, Bool.or_eq_true, Bool.and_eq_false_iff, Bool.or_eq_false_iff, Int.not_lt, Int.not_le] at hc0
    have hbad : askedV np pk l v b ≠ 0 := hc0
    have hC : settC np pk l v b = askedV np pk l v b := if_neg hbad
    have hN : settL np pk l v b = [] := if_neg (by rw [hC]; exact hbad)
    refine TW.seq fun Y5 hY5 => ?_
    refine TW.region ?_
    refine TL.p Pu.mv ?_
    refine TL.p Pu.as ?_
    refine TL.p Pu.as ?_
    refine TL.nil ?_
    refine TQ.thenN (hY5 _ _ ?_)
    refine TW.ret ?_
    refine TQ.thenR ?_
    refine TQ.ret Tryz.results20 rfl ((.tmp rfl (.tmp rfl .nil))) ?_
    exact fun w hw => ⟨(none, 0), by rw [hN, hC]; rfl, by rw [hN]; exact hw.sub (KSub.nilOwn KSub.nil)⟩
  · try simp only [decide_eq_true_eq, decide_eq_false_iff_not, Bool.not_eq_true', Bool.not_eq_false', Bool.and_eq_true, Bool.or_eq_true, Bool.and_eq_false_iff, Bool.or_eq_false_iff, Int.not_lt, Int.not_le] at hc0
    have hask : askedV np pk l v b = 0 := by simpa using hc0
    have hC : settC np pk l v b = settD pk l v b := if_pos hask
    refine TW.skip ?_
    refine TQ.thenN (hY2 _ _ ?_)
    refine TW.seq fun Y6 hY6 => ?_
    refine TW.region ?_
    refine TL.p Pu.mv ?_
    refine TL.p (Pu.lds ty_ag36) ?_
    refine TL.p Pu.mv ?_
    refine TL.call (M := []) rfl (enters Tryz.func57 rfl rfl) (List.Perm.refl _) rfl (fun w hw => by
        have hLw := hL.sat hw
        obtain ⟨h1, h2, h3⟩ := asked_ok hask
        obtain ⟨k1, k2, k3, k4⟩ := check1_ok h1
        rw [tot3] at k4
        have t0 := (hLw.hI 0 (by omega)).toI
        have t1 := (hLw.hI 1 (by omega)).toI
        rw [toI_len] at t0 t1
        exact refSettle1_any (a := a) (l := l) (c := c) (L0 := lft l v) (L1 := rgt l v) (v2 := v 2) toI_len.symm toI_len.symm (by omega) (by omega) k2 (by omega) (inxL_toI (k3 0 (by omega))) (inxL_toI (k3 1 (by omega))) hLw.hR t0 t1 (hLw.hI 2 (by omega))) ?_
    rintro ⟨As, cs⟩
    refine TL.p Pu.mv ?_
    refine TL.p Pu.ex ?_
    refine TL.p Pu.ex ?_
    refine TL.p Pu.as ?_
    refine TL.p Pu.as ?_
    refine TL.nil ?_
    refine TQ.thenN (hY6 _ _ ?_)
    refine TW.seq fun Y7 hY7 => ?_
    refine TW.seq fun Y8 hY8 => ?_
    refine TW.region ?_
    refine TL.p Pu.mv ?_
    refine TL.p Pu.no ?_
    refine TL.nil ?_
    refine TQ.thenN (hY8 _ _ ?_)
    refine TW.cond rfl (fun hc1 => ?_) (fun hc1 => ?_)
    · try simp only [decide_eq_true_eq, decide_eq_false_iff_not, Bool.not_eq_true', Bool.not_eq_false', Bool.and_eq_true, Bool.or_eq_true, Bool.and_eq_false_iff, Bool.or_eq_false_iff, Int.not_lt, Int.not_le] at hc1
      have hE : settD pk l v b = 52 := (bestC_or5 _ _ _ _ _).resolve_left hc1
      have hN : settL np pk l v b = [] := if_neg (by rw [hC, hE]; decide)
      refine TW.seq fun Y9 hY9 => ?_
      refine TW.region ?_
      refine TL.p Pu.as ?_
      refine TL.p Pu.as ?_
      refine TL.nil ?_
      refine TQ.thenN (hY9 _ _ ?_)
      refine TW.ret ?_
      refine TQ.thenR ?_
      refine TQ.ret Tryz.results20 rfl ((.tmp rfl (.tmp rfl .nil))) ?_
      exact fun w hw => ⟨(none, 0), by rw [hN, hC, hE]; rfl, by rw [hN]; exact hw.sub (KSub.nilOwn KSub.nil)⟩
    · try simp only [decide_eq_true_eq, decide_eq_false_iff_not, Bool.not_eq_true', Bool.not_eq_false', Bool.and_eq_true, Bool.or_eq_true, Bool.and_eq_false_iff, Bool.or_eq_false_iff, Int.not_lt, Int.not_le] at hc1
      have hE : settD pk l v b = 0 := hc1
      have hN : settL np pk l v b = (settB pk l v b).1 := if_pos (by rw [hC, hE])
      refine TW.skip ?_
      refine TQ.thenN (hY7 _ _ ?_)
      refine TW.seq fun Y10 hY10 => ?_
      refine TW.region ?_
      refine TL.p Pu.mv ?_
      refine TL.p Pu.as ?_
      refine TL.p Pu.as ?_
      refine TL.nil ?_
      refine TQ.thenN (hY10 _ _ ?_)
      refine TW.ret ?_
      refine TQ.ret Tryz.results20 rfl ((.tmp rfl (.tmp rfl .nil))) ?_
      exact fun w hw => ⟨(As, cs), by rw [hN, hC, hE]; rfl, by rw [hN]; exact hw.sub (by repeat (first | exact KSub.nil | refine KSub.cons (by repeat (first | exact Pick.hd | apply Pick.tl)) ?_))⟩
end Go.Proofs.YtjephihlkjpohaaGreatDoor
namespace Go.Proofs.YtjephihlkjpohaaGreatDoor
set_option linter.all false
set_option linter.unusedVariables false
set_option linter.unusedSimpArgs false
open Go.RowKit
def ownsT (X : Nat → Option Addr) (T : Nat → List Int) (D : Nat → Nat) : Nat → List Fact
  | 0 => []
  | s + 1 => .own (X s) (T s).length (D s) 3 1 (iL (T s)) :: ownsT X T D s
def ownsTX (X : Nat → Option Addr) (T : Nat → List Int) (D : Nat → Nat) (s : Nat) : Nat → List Fact
  | 0 => []
  | n + 1 => if n = s then ownsT X T D n else .own (X n) (T n).length (D n) 3 1 (iL (T n)) :: ownsTX X T D s n
def tieX (X : Nat → Option Addr) (T : Nat → List Int) (D : Nat → Nat) (i : Nat) : List Value := [.slice (X (3 * i)) (T (3 * i)).length (D (3 * i)), .slice (X (3 * i + 1)) (T (3 * i + 1)).length (D (3 * i + 1)), .slice (X (3 * i + 2)) (T (3 * i + 2)).length (D (3 * i + 2))]
section
variable {X X2 : Nat → Option Addr} {T T2 : Nat → List Int} {D D2 : Nat → Nat} {s : Nat}
theorem ownsT_congr : ∀ {n : Nat}, (∀ i, i < n → X i = X2 i ∧ T i = T2 i ∧ D i = D2 i) → ownsT X T D n = ownsT X2 T2 D2 n
  | 0, _ => rfl
  | n + 1, h => by
    obtain ⟨h1, h2, h3⟩ := h n (by omega)
    simp only [ownsT, h1, h2, h3, ownsT_congr (n := n) fun i hi => h i (by omega)]
theorem ownsT_perm : ∀ {n : Nat}, s < n → (ownsT X T D n).Perm (.own (X s) (T s).length (D s) 3 1 (iL (T s)) :: ownsTX X T D s n)
  | n + 1, h => by
    by_cases hs : n = s
    · subst hs
      simp only [ownsT, ownsTX, if_true]
      exact List.Perm.refl _
    · simp only [ownsT, ownsTX, if_neg hs]
      exact ((ownsT_perm (n := n) (by omega)).cons _).trans (List.Perm.swap _ _ _)
theorem ownsT_mem {n : Nat} (h : s < n) : Fact.own (X s) (T s).length (D s) 3 1 (iL (T s)) ∈ ownsT X T D n := (ownsT_perm h).mem_iff.2 (by simp)
theorem ownsT_put {k2 : Nat} {A : Option Addr} {c2 : Nat} {L : List Int} {r : Nat → List Value} (hk : k2 = L.length) (hr : ∀ i, i < k2 → r i = iL L i) : ∀ {n : Nat}, s < n → KSub (.own A k2 c2 3 1 r :: ownsTX X T D s n) (ownsT (updN X s A) (updN T s L) (updN D s c2) n)
  | n + 1, hs => by
    by_cases hn : n = s
    · subst hn
      have e1 : updN X n A n = A := if_pos rfl
      have e2 : updN T n L n = L := if_pos rfl
      have e3 : updN D n c2 n = c2 := if_pos rfl
      simp only [ownsTX, ownsT, if_true, e1, e2, e3, ← hk]
      refine KSub.own Pick.hd hr ?_
      rw [ownsT_congr (X := X) (T := T) (D := D) (X2 := updN X n A) (T2 := updN T n L) (D2 := updN D n c2) fun i hi => ⟨(if_neg (by omega)).symm, (if_neg (by omega)).symm, (if_neg (by omega)).symm⟩]
      exact KSub.refl _
    · have e1 : updN X s A n = X n := if_neg hn
      have e2 : updN T s L n = T n := if_neg hn
      have e3 : updN D s c2 n = D n := if_neg hn
      simp only [ownsTX, ownsT, if_neg hn, e1, e2, e3]
      exact KSub.cons (Pick.tl Pick.hd) (ownsT_put hk hr (by omega))
end
theorem ownsT_next {X : Nat → Option Addr} {T : Nat → List Int} {D : Nat → Nat} {n k2 c2 : Nat} {A : Option Addr} {L : List Int} {r : Nat → List Value} (hk : k2 = L.length) (hr : ∀ i, i < k2 → r i = iL L i) : KSub (.own A k2 c2 3 1 r :: ownsT X T D n) (ownsT (updN X n A) (updN T n L) (updN D n c2) (n + 1)) := by
  have e1 : updN X n A n = A := if_pos rfl
  have e2 : updN T n L n = L := if_pos rfl
  have e3 : updN D n c2 n = c2 := if_pos rfl
  simp only [ownsT, e1, e2, e3, ← hk]
  refine KSub.own Pick.hd hr ?_
  rw [ownsT_congr (X := X) (T := T) (D := D) (X2 := updN X n A) (T2 := updN T n L) (D2 := updN D n c2) fun i hi => ⟨(if_neg (by omega)).symm, (if_neg (by omega)).symm, (if_neg (by omega)).symm⟩]
  exact KSub.refl _
structure ArrT (P : Program) (t E : TypeId) (n sz : Nat) : Prop where
  ht : P.underlying t = some (.array n E)
  hs : ∀ w, (sizeOf E).run P w = .ok sz w
theorem Pu.ea {c : Cx} {F : Fr} {K : List Fact} {d : Option Tmp} {t E ty : TypeId} {pos : String} {af : Array Edge} {g : Option (Nat × Bool)} {x y : Operand} {b n sz q : Nat} {kk : IntKind} {i : Int} (hT : ArrT c.P t E n sz) (hx : ev F x = some (.pointer (some ⟨b, 0, none⟩)) := by rfl) (hy : ev F y = some (.int kk i) := by rfl) (hk : i.toNat = q := by first | exact Int.toNat_natCast _ | rfl) (h0 : 0 ≤ i := by omega) (h1 : i < n := by omega) :
    Pu c F K ⟨d, .indexAddr t x y, ty, pos, af, g⟩ (.pointer (elA (some ⟨b, 0, none⟩) q sz 0)) := fun a w hF _ => by
  simp [execOp, hF.evl hx, hF.evl hy, Instr.indexAt, asIntOf, run_underlying hT.ht, Instr.sureAddr, h0, h1, hT.hs, elA, hk]
theorem arr3 : ArrT Tryz.prog 64 24 3 1 := ⟨Tryz.underlying64, fun w => by kernel_rfl⟩
end Go.Proofs.YtjephihlkjpohaaGreatDoor
namespace Go.Proofs.YtjephihlkjpohaaGreatDoor
set_option linter.all false
set_option linter.unusedVariables false
set_option linter.unusedSimpArgs false
open Go.RowKit
def T0 (l : Nat → Nat → Nat) (v : Nat → Nat → Nat → Int) (s : Nat) : List Int := toI (v (s / 3) (s % 3)) (l (s / 3) (s % 3))
theorem T0_at {l : Nat → Nat → Nat} {v : Nat → Nat → Nat → Int} {i k : Nat} (hk : k < 3) : T0 l v (3 * i + k) = toI (v i k) (l i k) := by
  unfold T0
  rw [show (3 * i + k) / 3 = i by omega, show (3 * i + k) % 3 = k by omega]
def takeT (F : List Int) (T : Nat → List Int) (s : Nat) : List Int := (T s).filter fun x => !F.contains x
def cnt3 (T : Nat → List Int) (i : Nat) : Nat := (T (3 * i)).length + (T (3 * i + 1)).length + (T (3 * i + 2)).length
def takeZ (F : List Int) (T : Nat → List Int) : Nat → Int
  | 0 => F.length
  | i + 1 => takeZ F T i - ((cnt3 T i : Int) - cnt3 (takeT F T) i)
def takeC (np : Nat) (F : List Int) (T : Nat → List Int) (m : Nat) : Int := if (allB F.length (riseP (fun k => F.getD k 0) np) && decide (takeZ F T m = 0)) = true then 0 else 54
theorem takeT_len {F : List Int} {T : Nat → List Int} {s : Nat} : (takeT F T s).length ≤ (T s).length := List.length_filter_le _ _
theorem takeZ_bd {F : List Int} {T : Nat → List Int} {m : Nat} (hT : ∀ i, i < m → cnt3 T i ≤ 1000) : ∀ i, i ≤ m → takeZ F T i ≤ F.length ∧ (F.length : Int) - 1000 * i ≤ takeZ F T i
  | 0, _ => by simp [takeZ]
  | i + 1, h => by
    have h1 := takeZ_bd (F := F) hT i (by omega)
    have h2 := hT i (by omega)
    have a := takeT_len (F := F) (T := T) (s := 3 * i)
    have b := takeT_len (F := F) (T := T) (s := 3 * i + 1)
    have c := takeT_len (F := F) (T := T) (s := 3 * i + 2)
    simp only [takeZ, cnt3] at *
    omega
theorem Sat.apart {S : List Nat} {w0 w : World} {K K' : List Fact} {φ ψ : Fact} (hs : Sat S w0 K w) (hp : Pick K φ K') (hq : ψ ∈ K') : ∀ b ∈ φ.foot, b ∉ ψ.foot := fun b hb hc => by
  have h1 := (hs.perm hp.perm).nd
  rw [feet_cons] at h1
  exact (List.nodup_append.1 h1).2.2 b hb b (List.mem_flatMap.2 ⟨ψ, hq, hc⟩) rfl
theorem take1_any {w : World} {bx m cm : Nat} {B : Option Addr} {M : List Int} (x : Int) (hm : m = M.length) (h1 : m ≤ 1000000) (hb : OldB w bx [.slice B m cm]) (hM : RdR w 1 B m (iL M)) :
    Calls Tryz.prog 90 #[.int .i64 x, .pointer (some ⟨bx, 0, none⟩)] w (Ret w (.bool (M.contains x))) := by
  refine K_enter (S := []) (K := []) Tryz.func90 rfl Tryz.ntmps90 rfl (Sat.start _) ?_
  refine TW.seq fun Y1 hY1 => ?_
  refine TW.region ?_
  refine TL.p Pu.as ?_
  refine TL.nil ?_
  refine TQ.thenN (hY1 _ _ ?_)
  refine TW.seq fun Y2 hY2 => ?_
  refine TW.region ?_
  refine TL.p (by first | exact (Pu.ld ty_sc24) | exact (Pu.ldo ty_sc24)) ?_
  refine TL.p Pu.mv ?_
  refine TL.cr rfl (enters Tryz.func91 rfl rfl) (fun w hw => by
      exact hasI_any x hm h1 (hM.sat hw Apart.nil)) ?_
  refine TL.p Pu.as ?_
  refine TL.nil ?_
  refine TQ.thenN (hY2 _ _ ?_)
  refine TW.ret ?_
  refine TQ.ret Tryz.results90 rfl ((.tmp rfl .nil)) ?_
  exact fun w hw => Ret.of hw
def arrR (X : Nat → Option Addr) (T : Nat → List Int) (D : Nat → Nat) (a : Nat → Option Addr) (l c : Nat → Nat) (s k j : Nat) : List Value := if j < k then [.slice (X (s + j)) (T (s + j)).length (D (s + j))] else [.slice (a j) (l j) (c j)]
theorem arrR_here {X : Nat → Option Addr} {T : Nat → List Int} {D : Nat → Nat} {a : Nat → Option Addr} {l c : Nat → Nat} {s k : Nat} : arrR X T D a l c s k k = [.slice (a k) (l k) (c k)] := if_neg (by omega)
theorem tieX_congr {X X2 : Nat → Option Addr} {T T2 : Nat → List Int} {D D2 : Nat → Nat} {i : Nat} (h : ∀ s, s < 3 * i + 3 → X s = X2 s ∧ T s = T2 s ∧ D s = D2 s) : tieX X T D i = tieX X2 T2 D2 i := by
  obtain ⟨a1, a2, a3⟩ := h (3 * i) (by omega)
  obtain ⟨b1, b2, b3⟩ := h (3 * i + 1) (by omega)
  obtain ⟨c1, c2, c3⟩ := h (3 * i + 2) (by omega)
  simp only [tieX, a1, a2, a3, b1, b2, b3, c1, c2, c3]
abbrev TKx := (Option Addr × Nat) × (Nat → Option Addr) × (Nat → Nat)
def tiesX (m : Nat) (T : Nat → List Int) (x : TKx) : List Fact := .own x.1.1 m x.1.2 36 3 (tieX x.2.1 T x.2.2) :: ownsT x.2.1 T x.2.2 (3 * m)
set_option maxRecDepth 100000 in
set_option maxHeartbeats 4000000 in
theorem take_any {W : World} {AT Af : Option Addr} {m cT nf cf np : Nat} {a : Nat → Nat → Option Addr} {l c : Nat → Nat → Nat} {v : Nat → Nat → Nat → Int} {F : List Int} (hm : m ≤ 1000) (hnf : nf = F.length) (hf : nf ≤ 1000) (hnp : np ≤ 1000000000) (hl : ∀ i, i < m → tot (l i) 3 ≤ 1000)
    (hT : RdR W 3 AT m (fun i => tieL (a i) (l i) (c i))) (hI : ∀ i, i < m → ∀ j, j < 3 → RdR W 1 (a i j) (l i j) (fun k => [.int .i64 (v i j k)])) (hF : RdR W 1 Af nf (iL F)) :
    TryK Tryz.prog 49 #[.slice AT m cT, .slice Af nf cf, .int .i64 (np : Int)] [] TKx (fun x => .slice x.1.1 m x.1.2) (tiesX m (takeT F (T0 l v))) errs (takeC np F (T0 l v) m) W := by
  unfold TryK
  have hc3 : ∀ i, cnt3 (T0 l v) i = tot (l i) 3 := fun i => by
    unfold cnt3
    have e0 : T0 l v (3 * i) = toI (v i 0) (l i 0) := T0_at (k := 0) (by omega)
    rw [tot3, e0, T0_at (by omega), T0_at (by omega), toI_len, toI_len, toI_len]
  have hzb := takeZ_bd (F := F) (T := T0 l v) (m := m) fun i hi => by rw [hc3]; exact hl i hi
  generalize hTt : takeT F (T0 l v) = Tt at *
  have hTl : ∀ s, (Tt s).length ≤ (T0 l v s).length := fun s => by rw [← hTt]; exact takeT_len
  replace hnf : nf ≤ F.length ∧ F.length ≤ nf := ⟨Nat.le_of_eq hnf, Nat.le_of_eq hnf.symm⟩
  have hC1 : ∀ {e : Int}, (if (allB nf (riseP (fun k => F.getD k 0) np)) = true then (0 : Int) else e) ≠ 0 → takeC np F (T0 l v) m = 54 := fun h => by
    unfold takeC
    rw [show F.length = nf by omega, (need_no h).1]
    rfl
  have hC2 : ∀ {e z : Int}, (if decide (z = 0) = true then (0 : Int) else e) ≠ 0 → z = takeZ F (T0 l v) m → takeC np F (T0 l v) m = 54 := fun h h2 => by
    unfold takeC
    rw [← h2, (need_no h).1, Bool.and_false]
    rfl
  refine K_enter (S := []) (K := []) Tryz.func49 rfl Tryz.ntmps49 rfl (Sat.start _) ?_
  refine TW.seq fun Y1 hY1 => ?_
  refine TW.region ?_
  refine TL.m Mk.bx ?_
  intro b1
  refine TL.p Pu.as ?_
  refine TL.nil ?_
  refine TQ.thenN (hY1 _ _ ?_)
  refine TW.seq fun Y2 hY2 => ?_
  refine TW.region ?_
  refine TL.p (Pu.ld ty_sc24) ?_
  refine TL.p Pu.mv ?_
  refine TL.cr rfl (enters Tryz.func88 rfl rfl) (fun w hw => by
      exact rising_any (v := fun k => F.getD k 0) (by omega) (hF.sat hw Apart.nil) (by omega) (by omega)) ?_
  refine TL.ct rfl (enters Tryz.func76 rfl rfl) (fun w hw => by
      exact need_any _ _ _ (by decide)) (fun hp1 => ?_) (fun hp1 => ?_)
  rotate_left
  · refine TQ.thenP ?_
    refine TQ.pan rfl ?_
    exact fun w hw => .inr ⟨by first | (rw [hC2 hp2 hz]; decide) | (rw [hC1 hp1]; decide), by first | (rw [hC2 hp2 hz, (need_no hp2).2]) | (rw [hC1 hp1, (need_no hp1).2]), hw.sub KSub.nil⟩
  refine TL.nil ?_
  refine TQ.thenN (hY2 _ _ ?_)
  refine TW.seq fun Y3 hY3 => ?_
  refine TW.region ?_
  refine TL.p (Pu.ld ty_sc24) ?_
  refine TL.p (Pu.ln Tryz.underlying24) ?_
  refine TL.p Pu.as ?_
  refine TL.nil ?_
  refine TQ.thenN (hY3 _ _ ?_)
  refine TW.seq fun Y4 hY4 => ?_
  refine TW.region ?_
  refine TL.p Pu.as ?_
  refine TL.nil ?_
  refine TQ.thenN (hY4 _ _ ?_)
  refine TW.seq fun Y5 hY5 => ?_
  refine TW.seq fun Y6 hY6 => ?_
  refine TW.region ?_
  refine TL.p Pu.mv ?_
  refine TL.p (Pu.ln Tryz.underlying23) ?_
  refine TL.p Pu.mv ?_
  refine TL.nil ?_
  refine TQ.thenN (hY6 _ _ ?_)
  refine TW.block ?_
  refine TW.loop6 (fun (i : Nat) (z : Int) (An : Option Addr) (cn : Nat) (X : Nat → Option Addr) (D : Nat → Nat) => [(22, .int .i64 (i : Int)), (21, .int .i64 (m : Int)), (20, .slice AT m cT), (7, .int .i64 z), (8, .slice An i cn), (4, .pointer (some ⟨b1, 0, none⟩))]) (fun i z An cn X D => .own An i cn 36 3 (tieX X Tt D) :: .blk b1 24 [.slice Af nf cf] :: ownsT X Tt D (3 * i)) (fun i z An cn X D => i ≤ m ∧ z = takeZ F (T0 l v) i) (fun i z An cn X D => m - i) 0 _ none 0 (fun _ => none) (fun _ => 0) (by repeat (first | exact trivial | refine ⟨rfl, ?_⟩ | refine ⟨trivial, ?_⟩)) ?_ ?_ ?_
  · exact KSub.nilOwn (KSub.cons Pick.hd KSub.nil)
  · exact ⟨Nat.zero_le _, by simp only [takeZ]; omega⟩
  rintro i z An cn X D ⟨hi, hz⟩ Z0 hZ0
  have hzi := hzb i hi
  refine TW.seq fun Y7 hY7 => ?_
  refine TW.region ?_
  refine TL.p Pu.lt ?_
  refine TL.nil ?_
  refine TQ.thenN (hY7 _ _ ?_)
  refine TW.seq fun Y8 hY8 => ?_
  refine TW.cond rfl (fun hc0 => ?_) (fun hc0 => ?_)
  · try simp only [decide_eq_true_eq, decide_eq_false_iff_not, Bool.not_eq_true', Bool.not_eq_false', Bool.and_eq_true, Bool.or_eq_true, Bool.and_eq_false_iff, Bool.or_eq_false_iff, Int.not_lt, Int.not_le] at hc0
    have him : i < m := by omega
    have hli := hl i him
    refine TW.skip ?_
    refine TQ.thenN (hY8 _ _ ?_)
    refine TW.seq fun Y9 hY9 => ?_
    refine TW.block ?_
    refine TW.seq fun Y10 hY10 => ?_
    refine TW.region ?_
    refine TL.p (Pu.el ty_et23) ?_
    refine TL.p (Pu.lds ty_ag36) ?_
    refine TL.m (Mk.al ty_zr36) ?_
    intro b2
    first | refine TL.st ty_sz36 ?_ | refine TL.se ty_sz36 ?_
    refine TL.nil ?_
    refine TQ.thenN (hY10 _ _ ?_)
    refine TW.seq fun Y11 hY11 => ?_
    refine TW.region ?_
    refine TL.p (Pu.lds ty_ag36) ?_
    refine TL.cr rfl (enters Tryz.func85 rfl rfl) (fun w hw => by
        exact lists_any _ _ _ _) ?_
    refine TL.m (Mk.al ty_zr64) ?_
    intro b3
    first | refine TL.st ty_sz64 ?_ | refine TL.se ty_sz64 ?_
    refine TL.nil ?_
    refine TQ.thenN (hY11 _ _ ?_)
    refine TW.seq fun Y12 hY12 => ?_
    refine TW.seq fun Y13 hY13 => ?_
    refine TW.region ?_
    refine TL.p Pu.mv ?_
    refine TL.nil ?_
    refine TQ.thenN (hY13 _ _ ?_)
    refine TW.block ?_
    refine TW.loop3 (fun (k : Nat) (X : Nat → Option Addr) (D : Nat → Nat) => [(28, .int .i64 (k : Int)), (11, .pointer (some ⟨b3, 0, none⟩)), (10, .pointer (some ⟨b2, 0, none⟩)), (22, .int .i64 (i : Int)), (21, .int .i64 (m : Int)), (20, .slice AT m cT), (7, .int .i64 z), (8, .slice An i cn), (4, .pointer (some ⟨b1, 0, none⟩))]) (fun k X D => .own (some ⟨b3, 0, none⟩) 3 3 64 1 (arrR X Tt D (a i) (l i) (c i) (3 * i) k) :: .blk b2 36 (tieL (a i) (l i) (c i)) :: .own An i cn 36 3 (tieX X Tt D) :: .blk b1 24 [.slice Af nf cf] :: ownsT X Tt D (3 * i + k)) (fun k X D => k ≤ 3) (fun k X D => 3 - k) 0 X D (by repeat (first | exact trivial | refine ⟨rfl, ?_⟩ | refine ⟨trivial, ?_⟩)) ?_ ?_ ?_
    · refine KSub.ofBlk (by repeat (first | exact Pick.hd | apply Pick.tl)) rfl (fun j hj => ?_) rfl rfl (KSub.cons (by repeat (first | exact Pick.hd | apply Pick.tl)) (KSub.cons (by repeat (first | exact Pick.hd | apply Pick.tl)) (KSub.cons (by repeat (first | exact Pick.hd | apply Pick.tl)) (KSub.refl _))))
      unfold arrR
      rw [if_neg (by omega)]
      rfl
    · exact Nat.zero_le _
    rintro k X D hk Z1 hZ1
    refine TW.seq fun Y14 hY14 => ?_
    refine TW.region ?_
    refine TL.p Pu.lt ?_
    refine TL.nil ?_
    refine TQ.thenN (hY14 _ _ ?_)
    refine TW.seq fun Y15 hY15 => ?_
    refine TW.cond rfl (fun hc1 => ?_) (fun hc1 => ?_)
    · try simp only [decide_eq_true_eq, decide_eq_false_iff_not, Bool.not_eq_true', Bool.not_eq_false', Bool.and_eq_true, Bool.or_eq_true, Bool.and_eq_false_iff, Bool.or_eq_false_iff, Int.not_lt, Int.not_le] at hc1
      have hk3 : k < 3 := by omega
      have hIk := (hI i him k hk3).toI
      have hTk : (toI (v i k) (l i k)).filter (fun x => !F.contains x) = Tt (3 * i + k) := by rw [← hTt]; unfold takeT; rw [T0_at hk3]
      have hlk : l i k ≤ 1000 := by
        rw [tot3] at hli
        have : k = 0 ∨ k = 1 ∨ k = 2 := by omega
        rcases this with rfl | rfl | rfl <;> omega
      rw [toI_len] at hIk
      refine TW.skip ?_
      refine TQ.thenN (hY15 _ _ ?_)
      refine TW.seq fun Y16 hY16 => ?_
      refine TW.block ?_
      refine TW.seq fun Y17 hY17 => ?_
      refine TW.region ?_
      refine TL.p Pu.mv ?_
      refine TL.p Pu.as ?_
      refine TL.nil ?_
      refine TQ.thenN (hY17 _ _ ?_)
      refine TW.region ?_
      refine TL.p Pu.mv ?_
      refine TL.p Pu.mv ?_
      refine TL.p (Pu.ea (q := k) arr3) ?_
      refine TL.p (Pu.ld ty_sc24 (hq := Cells.own (m := 1) (by repeat (first | exact Pick.hd | apply Pick.tl)) (by omega) (by rw [arrR_here]; exact SubL.take SubL.nil))) ?_
      refine TL.call (M := []) rfl (enters Tryz.func80 rfl rfl) (List.Perm.refl _) rfl (fun w hw => by
          exact cloneI_any (v := fun q => (toI (v i k) (l i k)).getD q 0) (by omega) (hIk.sat hw Apart.nil)) ?_
      rintro ⟨A4, c4⟩
      refine TL.p Pu.fn ?_
      refine TL.call rfl (enters Tryz.func89 rfl rfl) (List.Perm.refl _) rfl (fun w hw => by
          have hO : OwnR w A4 (l i k) c4 3 1 (iL (toI (v i k) (l i k))) := hw.holds (.own A4 (l i k) c4 3 1 (fun q => [.int .i64 ((toI (v i k) (l i k)).getD q 0)])) (List.mem_cons_self ..)
          have hge := hw.ge
          have hB : OldB w b1 [.slice Af nf cf] := OldB.of_blk (hw.holds (.blk b1 24 [.slice Af nf cf]) (by simp))
          have hdis := hw.apart (φ := .own A4 (l i k) c4 3 1 (fun q => [.int .i64 ((toI (v i k) (l i k)).getD q 0)])) (ψ := .blk b1 24 [.slice Af nf cf]) Pick.hd (by simp)
          refine deleteI_any (fs := []) (cs := [.pointer (some ⟨b1, 0, none⟩)]) (p := fun x => F.contains x) toI_len.symm (by omega) (enters Tryz.func90 rfl rfl) hO fun x w' hc => ?_
          have hfe : feet [Fact.own A4 (l i k) c4 3 1 (iL (toI (v i k) (l i k)))] = (Fact.own A4 (l i k) c4 3 1 (fun q => [.int .i64 ((toI (v i k) (l i k)).getD q 0)])).foot := by simp [feet]; rfl
          have hap : ∀ b ∈ feet [Fact.own A4 (l i k) c4 3 1 (iL (toI (v i k) (l i k)))], W.heap.size ≤ b := fun b hb9 => by
            rcases hge b (by rw [hfe] at hb9; exact List.mem_append_left _ hb9) with h | h
            · cases h
            · exact h
          exact take1_any x (by omega) (by omega) (hB.chg hc (fun h => by rw [hfe] at h; exact hdis b1 h (by simp [Fact.foot]))) ((hF.sat hw Apart.nil).chg0 hc (hF.apart hap))) ?_
      intro _
      refine TL.p (Pu.ea (q := k) arr3) ?_
      refine TL.se ty_sz24 ?_ (hput := by rw [arrR_here]; exact PutL.put PutL.nil)
      refine TL.nil ?_
      refine TQ.blkN ?_
      refine TQ.thenN (hY16 _ _ ?_)
      refine TW.region ?_
      refine TL.p Pu.ad ?_
      refine TL.p Pu.mv ?_
      refine TL.nil ?_
      refine TQ.thenN (hZ1 (k + 1) (updN X (3 * i + k) A4) (updN D (3 * i + k) c4) _ _ ?_ ?_ (by repeat (first | exact trivial | refine ⟨rfl, ?_⟩ | refine ⟨trivial, ?_⟩)) ?_)
      · exact (by omega)
      · exact (by first | omega | (simp only []; omega) | (simp; omega))
      · have eX : updN X (3 * i + k) A4 (3 * i + k) = A4 := if_pos rfl
        have eD : updN D (3 * i + k) c4 (3 * i + k) = c4 := if_pos rfl
        have eT : updN Tt (3 * i + k) (Tt (3 * i + k)) = Tt := by funext s; unfold updN; split <;> simp_all
        have hn := ownsT_next (X := X) (T := Tt) (D := D) (n := 3 * i + k) (A := A4) (c2 := c4) (L := Tt (3 * i + k)) (k2 := ((toI (v i k) (l i k)).filter fun x => !F.contains x).length) (r := iL ((toI (v i k) (l i k)).filter fun x => !F.contains x)) (by rw [hTk]) (fun q _ => by rw [hTk])
        rw [eT] at hn
        refine KSub.own (by repeat (first | exact Pick.hd | apply Pick.tl)) (fun j hj => ?_) (KSub.cons (by repeat (first | exact Pick.hd | apply Pick.tl)) (KSub.own (by repeat (first | exact Pick.hd | apply Pick.tl)) (fun q hq => ?_) (KSub.cons (by repeat (first | exact Pick.hd | apply Pick.tl)) hn)))
        · unfold updR
          by_cases hjk : j = k
          · subst hjk
            rw [if_pos rfl]
            unfold arrR
            rw [if_pos (by omega), eX, eD, hTk]
          · rw [if_neg hjk]
            unfold arrR updN
            by_cases h9 : j < k
            · rw [if_pos h9, if_pos (by omega), if_neg (by omega), if_neg (by omega)]
            · rw [if_neg h9, if_neg (by omega)]
        · exact tieX_congr fun s hs => ⟨(if_neg (by omega)).symm, rfl, (if_neg (by omega)).symm⟩
    · try simp only [decide_eq_true_eq, decide_eq_false_iff_not, Bool.not_eq_true', Bool.not_eq_false', Bool.and_eq_true, Bool.or_eq_true, Bool.and_eq_false_iff, Bool.or_eq_false_iff, Int.not_lt, Int.not_le] at hc1
      obtain rfl : k = 3 := by omega
      have hcn : tot (fun j => (Tt (3 * i + j)).length) 3 = cnt3 Tt i := by rw [tot3]; rfl
      have hcl : cnt3 Tt i ≤ 1000 := by
        have h1 := hTl (3 * i)
        have h2 := hTl (3 * i + 1)
        have h3 := hTl (3 * i + 2)
        have h4 := hc3 i
        unfold cnt3 at *
        omega
      refine TW.exit ?_
      refine TQ.thenX ?_
      refine TQ.thenX ?_
      refine TQ.blkX ?_
      refine TQ.thenN (hY12 _ _ ?_)
      refine TW.seq fun Y18 hY18 => ?_
      refine TW.region ?_
      refine TL.subK (KSub.own (s := fun j => [.slice (X (3 * i + j)) (Tt (3 * i + j)).length (D (3 * i + j))]) Pick.hd (fun j hj => if_pos hj) (KSub.refl _)) ?_
      refine TL.p (Pu.ea (q := 0) arr3) ?_
      refine TL.p (Pu.ld ty_sc24) ?_
      refine TL.p (Pu.ea (q := 1) arr3) ?_
      refine TL.p (Pu.ld ty_sc24) ?_
      refine TL.p (Pu.ea (q := 2) arr3) ?_
      refine TL.p (Pu.ld ty_sc24) ?_
      refine TL.p Pu.bd ?_
      refine TL.m (Mk.al ty_zr36) ?_
      intro b4
      first | refine TL.st ty_sz36 ?_ | refine TL.se ty_sz36 ?_
      refine TL.nil ?_
      refine TQ.thenN (hY18 _ _ ?_)
      refine TW.seq fun Y19 hY19 => ?_
      refine TW.dw 10 ?_
      refine RK.tk Pu.mv ?_
      refine RK.tk (Pu.lds ty_ag36) ?_
      refine RK.keep ?_
      refine RK.keep ?_
      refine RK.tk (Pu.lds ty_ag36) ?_
      refine RK.keep ?_
      refine RK.keep ?_
      refine RK.keep ?_
      refine RK.keep ?_
      refine RK.keep ?_
      refine RK.ch [false, true, false, true, true, true, true] ?_ trivial
      refine WK.call rfl (enters Tryz.func72 rfl rfl) rfl (fun w hw => by
          exact all_any (a := a i) (l := l i) (c := c i) (v := v i) (by omega) (fun j hj => (hI i him j hj).sat hw Apart.nil)) ?_
      rintro ⟨Ab, cb⟩
      refine WK.p (Pu.ln Tryz.underlying24) ?_
      refine WK.call rfl (enters Tryz.func72 rfl rfl) rfl (fun w hw => by
          exact all_any (a := fun j => X (3 * i + j)) (l := fun j => (Tt (3 * i + j)).length) (c := fun j => D (3 * i + j)) (v := fun j q => (Tt (3 * i + j)).getD q 0) (by rw [hcn]; omega) (fun j hj => OwnR.rdr (hw.holds (.own (X (3 * i + j)) (Tt (3 * i + j)).length (D (3 * i + j)) 3 1 (iL (Tt (3 * i + j)))) (by have hm9 := ownsT_mem (X := X) (T := Tt) (D := D) (n := 3 * i + 3) (show 3 * i + j < 3 * i + 3 by omega); simp only [List.mem_cons, List.mem_append]; simp [hm9])))) ?_
      rintro ⟨Ac, cc⟩
      refine WK.p (Pu.ln Tryz.underlying24) ?_
      refine WK.p (Pu.sb (h := by rw [hcn]; omega)) ?_
      refine WK.p (Pu.sb (h := by rw [hcn]; omega)) ?_
      refine WK.p Pu.as ?_
      refine WK.n ?_
      refine TL.nil ?_
      refine TQ.thenN (hY19 _ _ ?_)
      refine TW.region ?_
      refine TL.p Pu.mv ?_
      refine TL.p (Pu.lds ty_ag36) ?_
      refine TL.m Mk.bl ?_
      intro b5
      first | refine TL.a0 ty_et23 ?_ | refine TL.ap ty_et23 ?_
      intro A6 c6
      refine TL.p Pu.as ?_
      refine TL.nil ?_
      refine TQ.blkN ?_
      refine TQ.thenN (hY9 _ _ ?_)
      refine TW.region ?_
      refine TL.p Pu.ad ?_
      refine TL.p Pu.mv ?_
      refine TL.nil ?_
      refine TQ.thenN (hZ0 (i + 1) _ _ _ X D _ _ ?_ ?_ (by repeat (first | exact trivial | refine ⟨rfl, ?_⟩ | refine ⟨trivial, ?_⟩)) ?_)
      · exact ⟨by omega, by rw [hz, hcn]; simp only [takeZ]; rw [hc3, ← hTt]⟩
      · exact (by first | omega | (simp only []; omega) | (simp; omega))
      · refine KSub.own Pick.hd (fun q hq => ?_) (KSub.cons (by repeat (first | exact Pick.hd | apply Pick.tl)) ?_)
        · unfold catR
          by_cases h9 : q < i
          · rw [if_pos h9]
          · obtain rfl : q = i := by omega
            rw [if_neg h9]
            rfl
        · repeat (first | exact KSub.refl _ | refine KSub.drop ?_)
  · try simp only [decide_eq_true_eq, decide_eq_false_iff_not, Bool.not_eq_true', Bool.not_eq_false', Bool.and_eq_true, Bool.or_eq_true, Bool.and_eq_false_iff, Bool.or_eq_false_iff, Int.not_lt, Int.not_le] at hc0
    obtain rfl : m = i := by omega
    refine TW.exit ?_
    refine TQ.thenX ?_
    refine TQ.thenX ?_
    refine TQ.blkX ?_
    refine TQ.thenN (hY5 _ _ ?_)
    refine TW.seq fun Y20 hY20 => ?_
    refine TW.region ?_
    refine TL.p Pu.mv ?_
    refine TL.p Pu.eq ?_
    refine TL.ct rfl (enters Tryz.func76 rfl rfl) (fun w hw => by
        exact need_any _ _ _ (by decide)) (fun hp2 => ?_) (fun hp2 => ?_)
    rotate_left
    · refine TQ.thenP ?_
      refine TQ.pan rfl ?_
      exact fun w hw => .inr ⟨by first | (rw [hC2 hp2 hz]; decide) | (rw [hC1 hp1]; decide), by first | (rw [hC2 hp2 hz, (need_no hp2).2]) | (rw [hC1 hp1, (need_no hp1).2]), hw.sub KSub.nil⟩
    refine TL.nil ?_
    refine TQ.thenN (hY20 _ _ ?_)
    refine TW.seq fun Y21 hY21 => ?_
    refine TW.region ?_
    refine TL.p Pu.mv ?_
    refine TL.p Pu.as ?_
    refine TL.nil ?_
    refine TQ.thenN (hY21 _ _ ?_)
    refine TW.ret ?_
    refine TQ.ret Tryz.results49 rfl ((.tmp rfl .nil)) ?_
    exact fun w hw => .inl ⟨by
      unfold takeC
      rw [show F.length = nf by omega, need_yes (by decide) hp1, ← hz, need_yes (by decide) hp2]
      rfl, ((An, cn), X, D), rfl, hw.sub (by unfold tiesX; exact KSub.cons Pick.hd (KSub.drop (KSub.refl _)))⟩
end Go.Proofs.YtjephihlkjpohaaGreatDoor
namespace Go.Proofs.YtjephihlkjpohaaGreatDoor
set_option linter.all false
set_option linter.unusedVariables false
set_option linter.unusedSimpArgs false
open Go.RowKit
theorem indexTied_any {g : FuncId} {fs cs : List Value} {A : Option Addr} {n cp : Nat} {v : Nat → Nat → Value} {p : Nat → Bool} {M : Nat → List Fact} {w : World} (hen : Enters Tryz.prog g) (hn : n ≤ 9223372036854775807)
    (hR : RdR w 3 A n (fun k => [v k 0, v k 1, v k 2])) (hA : 0 < n → Apart (feet (M 0)) A) (hM : Sat (feet (M 0)) w (M 0) w) (hfe : ∀ k, feet (M k) = feet (M 0))
    (hg : ∀ k, k < n → (∀ j, j < k → p j = false) → ∀ w', Sat (feet (M 0)) w (M k) w' → CallsK Tryz.prog g (fs ++ [Value.agg #[v k 0, v k 1, v k 2]] ++ cs).toArray (M k) w' Unit (fun _ => .bool (p k)) (fun _ => M (k + 1))) :
    CallsK Tryz.prog 154 #[.slice A n cp, .func (.func g) fs.toArray cs.toArray] (M 0) w (Fst p n) (fun x => .int .i64 (if x.1 < n then (x.1 : Int) else -1)) (fun x => M (aft n x.1)) := by
  refine K_enter (S := feet (M 0)) (K := M 0) Tryz.func154 rfl Tryz.ntmps154 rfl hM ?_
  refine TW.seq fun Y1 hY1 => ?_
  refine TW.region ?_
  refine TL.p Pu.as ?_
  refine TL.nil ?_
  refine TQ.thenN (hY1 _ _ ?_)
  refine TW.seq fun Y2 hY2 => ?_
  refine TW.seq fun Y3 hY3 => ?_
  refine TW.region ?_
  refine TL.p Pu.mv ?_
  refine TL.p (Pu.ln Tryz.underlying23) ?_
  refine TL.p Pu.mv ?_
  refine TL.nil ?_
  refine TQ.thenN (hY3 _ _ ?_)
  refine TW.block ?_
  refine TW.loop1 (fun (k : Nat) => [(8, .int .i64 (k : Int)), (7, .int .i64 (n : Int)), (0, .slice A n cp), (1, .func (.func g) fs.toArray cs.toArray)]) (fun k => M k) (fun k => k ≤ n ∧ ∀ j, j < k → p j = false) (fun k => n - k) 0 (by repeat (first | exact trivial | refine ⟨rfl, ?_⟩ | refine ⟨trivial, ?_⟩)) ?_ ?_ ?_
  · exact KSub.refl _
  · exact ⟨by omega, fun j hj => by omega⟩
  rintro k ⟨hk, hall⟩ Z0 hZ0
  refine TW.seq fun Y4 hY4 => ?_
  refine TW.region ?_
  refine TL.p Pu.lt ?_
  refine TL.nil ?_
  refine TQ.thenN (hY4 _ _ ?_)
  refine TW.seq fun Y5 hY5 => ?_
  refine TW.cond rfl (fun hc0 => ?_) (fun hc0 => ?_)
  · try simp only [decide_eq_true_eq, decide_eq_false_iff_not, Bool.not_eq_true', Bool.not_eq_false', Bool.and_eq_true, Bool.or_eq_true, Bool.and_eq_false_iff, Bool.or_eq_false_iff, Int.not_lt, Int.not_le] at hc0
    have hkn : k < n := by omega
    have hA := hA (by omega)
    refine TW.skip ?_
    refine TQ.thenN (hY5 _ _ ?_)
    refine TW.seq fun Y6 hY6 => ?_
    refine TW.block ?_
    refine TW.seq fun Y7 hY7 => ?_
    refine TW.region ?_
    refine TL.p Pu.mv ?_
    refine TL.p Pu.as ?_
    refine TL.nil ?_
    refine TQ.thenN (hY7 _ _ ?_)
    refine TW.seq fun Y8 hY8 => ?_
    refine TW.region ?_
    refine TL.p Pu.mv ?_
    refine TL.p Pu.mv ?_
    refine TL.p Pu.mv ?_
    refine TL.p (Pu.el ty_et23) ?_
    refine TL.p (Pu.lds ty_ag36) ?_
    refine TL.cvk rfl rfl hen (by rw [List.append_nil]) (fun w hw => by
        exact hg k (by omega) hall w hw) ?_
    intro _
    refine TL.nil ?_
    refine TQ.thenN (hY8 _ _ ?_)
    refine TW.cond rfl (fun hc1 => ?_) (fun hc1 => ?_)
    · try simp only [decide_eq_true_eq, decide_eq_false_iff_not, Bool.not_eq_true', Bool.not_eq_false', Bool.and_eq_true, Bool.or_eq_true, Bool.and_eq_false_iff, Bool.or_eq_false_iff, Int.not_lt, Int.not_le] at hc1
      refine TW.seq fun Y9 hY9 => ?_
      refine TW.region ?_
      refine TL.p Pu.mv ?_
      refine TL.p Pu.as ?_
      refine TL.nil ?_
      refine TQ.thenN (hY9 _ _ ?_)
      refine TW.ret ?_
      refine TQ.blkR ?_
      refine TQ.thenR ?_
      refine TQ.thenR ?_
      refine TQ.blkR ?_
      refine TQ.thenR ?_
      refine TQ.ret Tryz.results154 rfl ((.tmp rfl .nil)) ?_
      exact fun w hw => ⟨⟨k, by omega, hall, fun _ => hc1⟩, by simp [hkn]; rfl, by simpa [aft, hkn] using hw⟩
    · try simp only [decide_eq_true_eq, decide_eq_false_iff_not, Bool.not_eq_true', Bool.not_eq_false', Bool.and_eq_true, Bool.or_eq_true, Bool.and_eq_false_iff, Bool.or_eq_false_iff, Int.not_lt, Int.not_le] at hc1
      refine TW.skip ?_
      refine TQ.blkN ?_
      refine TQ.thenN (hY6 _ _ ?_)
      refine TW.region ?_
      refine TL.p Pu.ad ?_
      refine TL.p Pu.mv ?_
      refine TL.nil ?_
      refine TQ.thenN (hZ0 (k + 1) _ _ ?_ ?_ (by repeat (first | exact trivial | refine ⟨rfl, ?_⟩ | refine ⟨trivial, ?_⟩)) ?_)
      · refine ⟨by omega, fun j hj => ?_⟩
        by_cases h : j = k
        · subst h; exact hc1
        · exact hall j (by omega)
      · exact (by first | omega | (simp only []; omega) | (simp; omega))
      · rw [List.append_nil]; exact KSub.refl _
  · try simp only [decide_eq_true_eq, decide_eq_false_iff_not, Bool.not_eq_true', Bool.not_eq_false', Bool.and_eq_true, Bool.or_eq_true, Bool.and_eq_false_iff, Bool.or_eq_false_iff, Int.not_lt, Int.not_le] at hc0
    have hkn : k = n := by omega
    refine TW.exit ?_
    refine TQ.thenX ?_
    refine TQ.thenX ?_
    refine TQ.blkX ?_
    refine TQ.thenN (hY2 _ _ ?_)
    refine TW.seq fun Y10 hY10 => ?_
    refine TW.region ?_
    refine TL.p Pu.as ?_
    refine TL.nil ?_
    refine TQ.thenN (hY10 _ _ ?_)
    refine TW.ret ?_
    refine TQ.ret Tryz.results154 rfl ((.tmp rfl .nil)) ?_
    exact fun w hw => ⟨⟨k, by omega, hall, fun h => by omega⟩, by simp [hkn]; rfl, by simpa [aft, hkn] using hw⟩
theorem hasTied_st {g : FuncId} {fs cs : List Value} {A : Option Addr} {n cp : Nat} {v : Nat → Nat → Value} {p : Nat → Bool} {M : Nat → List Fact} {w : World} (hen : Enters Tryz.prog g) (hn : n ≤ 9223372036854775807)
    (hR : RdR w 3 A n (fun k => [v k 0, v k 1, v k 2])) (hA : 0 < n → Apart (feet (M 0)) A) (hM : Sat (feet (M 0)) w (M 0) w) (hfe : ∀ k, feet (M k) = feet (M 0))
    (hg : ∀ k, k < n → (∀ j, j < k → p j = false) → ∀ w', Sat (feet (M 0)) w (M k) w' → CallsK Tryz.prog g (fs ++ [Value.agg #[v k 0, v k 1, v k 2]] ++ cs).toArray (M k) w' Unit (fun _ => .bool (p k)) (fun _ => M (k + 1))) :
    CallsK Tryz.prog 128 #[.slice A n cp, .func (.func g) fs.toArray cs.toArray] (M 0) w (Fst p n) (fun x => .bool (decide (x.1 < n))) (fun x => M (aft n x.1)) := by
  refine K_enter (S := feet (M 0)) (K := M 0) Tryz.func128 rfl Tryz.ntmps128 rfl hM ?_
  refine TW.seq fun Y1 hY1 => ?_
  refine TW.region ?_
  refine TL.p Pu.as ?_
  refine TL.nil ?_
  refine TQ.thenN (hY1 _ _ ?_)
  refine TW.seq fun Y2 hY2 => ?_
  refine TW.region ?_
  refine TL.p Pu.mv ?_
  refine TL.p Pu.mv ?_
  refine TL.call rfl (enters Tryz.func154 rfl rfl) (by rw [List.append_nil]) rfl (fun w hw => by
      exact indexTied_any hen hn (hR.sat0 hw hA) hA hw.self hfe (fun k hk hp w' hw' => hg k hk hp w' (hw'.from hw.chg fun _ hb => .inl hb))) ?_
  intro x
  refine TL.p Pu.ge ?_
  refine TL.p Pu.as ?_
  refine TL.nil ?_
  refine TQ.thenN (hY2 _ _ ?_)
  refine TW.ret ?_
  refine TQ.ret Tryz.results128 rfl ((.tmp rfl .nil)) ?_
  exact fun w hw => ⟨x, by by_cases h : x.1 < n <;> simp [retV, h], by simpa using hw⟩
theorem hasTied_any {g : FuncId} {fs cs : List Value} {A : Option Addr} {n cp : Nat} {v : Nat → Nat → Value} {p : Nat → Bool} {w : World} (hen : Enters Tryz.prog g) (hn : n ≤ 9223372036854775807)
    (hR : RdR w 3 A n (fun k => [v k 0, v k 1, v k 2])) (hg : ∀ k, k < n → ∀ w', Below w.heap.size w w' → Calls Tryz.prog g (fs ++ [Value.agg #[v k 0, v k 1, v k 2]] ++ cs).toArray w' (Ret w' (.bool (p k)))) :
    Calls Tryz.prog 128 #[.slice A n cp, .func (.func g) fs.toArray cs.toArray] w (Ret w (.bool (anyB n p))) :=
  CallsK.retOf (hasTied_st (M := fun _ => []) hen hn hR (fun _ => Apart.nil) (Sat.start w) (fun _ => rfl) fun k hk _ w' hw' => CallsK.ret (hg k hk w' (Chg.ext hw'.chg))) fun x => by rw [x.any]; rfl
theorem everyTied1_any {g : FuncId} {fs cs : List Value} {b : Nat} {u : Nat → Value} {p : Bool} {w : World} (hen : Enters Tryz.prog g) (hb : OldB w b [.func (.func g) fs.toArray cs.toArray])
    (hg : ∀ w', Below w.heap.size w w' → Calls Tryz.prog g (fs ++ [Value.agg #[u 0, u 1, u 2]] ++ cs).toArray w' (Ret w' (.bool p))) :
    Calls Tryz.prog 129 #[Value.agg #[u 0, u 1, u 2], .pointer (some ⟨b, 0, none⟩)] w (Ret w (.bool (!p))) := by
  refine K_enter (S := []) (K := []) Tryz.func129 rfl Tryz.ntmps129 rfl (Sat.start _) ?_
  refine TW.seq fun Y1 hY1 => ?_
  refine TW.region ?_
  refine TL.m Mk.bx ?_
  intro b1
  refine TL.p Pu.as ?_
  refine TL.nil ?_
  refine TQ.thenN (hY1 _ _ ?_)
  refine TW.seq fun Y2 hY2 => ?_
  refine TW.region ?_
  refine TL.p (by first | exact (Pu.ld ty_sc157) | exact (Pu.ldo ty_sc157)) ?_
  refine TL.p (by first | exact (Pu.lds ty_ag36) | exact (Pu.ldso ty_ag36)) ?_
  refine TL.cv rfl rfl hen (fun w hw => by
      exact hg _ (Chg.ext hw.chg)) ?_
  refine TL.p Pu.no ?_
  refine TL.p Pu.as ?_
  refine TL.nil ?_
  refine TQ.thenN (hY2 _ _ ?_)
  refine TW.ret ?_
  refine TQ.ret Tryz.results129 rfl ((.tmp rfl .nil)) ?_
  exact fun w hw => Ret.of hw
theorem everyTied_any {g : FuncId} {fs cs : List Value} {A : Option Addr} {n cp : Nat} {v : Nat → Nat → Value} {p : Nat → Bool} {w : World} (hen : Enters Tryz.prog g) (hn : n ≤ 9223372036854775807)
    (hR : RdR w 3 A n (fun k => [v k 0, v k 1, v k 2])) (hg : ∀ k, k < n → ∀ w', Below w.heap.size w w' → Calls Tryz.prog g (fs ++ [Value.agg #[v k 0, v k 1, v k 2]] ++ cs).toArray w' (Ret w' (.bool (p k)))) :
    Calls Tryz.prog 92 #[.slice A n cp, .func (.func g) fs.toArray cs.toArray] w (Ret w (.bool (allB n p))) := by
  refine K_enter (S := []) (K := []) Tryz.func92 rfl Tryz.ntmps92 rfl (Sat.start _) ?_
  refine TW.seq fun Y1 hY1 => ?_
  refine TW.region ?_
  refine TL.m Mk.bx ?_
  intro b1
  refine TL.p Pu.as ?_
  refine TL.nil ?_
  refine TQ.thenN (hY1 _ _ ?_)
  refine TW.seq fun Y2 hY2 => ?_
  refine TW.region ?_
  refine TL.p Pu.mv ?_
  refine TL.p Pu.fn ?_
  refine TL.cr rfl (enters Tryz.func128 rfl rfl) (fun w hw => by
      have h1 := OldB.of_blk (hw.holds (.blk b1 157 [.func (.func g) fs.toArray cs.toArray]) (by simp))
      exact hasTied_any (fs := []) (v := v) (p := fun k => !p k) (enters Tryz.func129 rfl rfl) hn (hR.sat hw Apart.nil) fun k hk w' hb => everyTied1_any hen (h1.ext hb) fun w'' hb' => hg k hk w'' (((Chg.ext hw.chg).trans (hb.mono (Chg.ext hw.chg).size)).trans (hb'.mono (Nat.le_trans (Chg.ext hw.chg).size hb.size)))) ?_
  refine TL.p Pu.no ?_
  refine TL.p Pu.as ?_
  refine TL.nil ?_
  refine TQ.thenN (hY2 _ _ ?_)
  refine TW.ret ?_
  refine TQ.ret Tryz.results92 rfl ((.tmp rfl .nil)) ?_
  exact fun w hw => ⟨ret_bool (by rw [not_anyB]; simp), Chg.ext hw.chg⟩
def flatT (T : Nat → List Int) : Nat → List Int
  | 0 => []
  | s + 1 => flatT T s ++ T s
def putL (x : Nat → Int) : List Value := [.int .i64 (x 0), .int .i64 (x 1), .int .u8 (x 2)]
def putS (x : Nat → Int) : Nat := 3 * (x 1).toNat + (x 2).toNat
def putT (T : Nat → List Int) (P : Nat → Nat → Int) : Nat → Nat → List Int
  | 0 => T
  | k + 1 => updN (putT T P k) (putS (P k)) (srt (putT T P k (putS (P k)) ++ [P k 0]))
def usedP (m : Nat) (T : Nat → List Int) (P : Nat → Nat → Int) (k : Nat) : List Int := flatT T (3 * m) ++ toI (fun q => P q 0) k
def okPut (n m : Nat) (T : Nat → List Int) (P : Nat → Nat → Int) (k : Nat) : Bool := inB5 0 ((n : Int) - 1) (P k 0) && !decide (P k 0 ∈ usedP m T P k) && inB5 0 ((m : Int) - 1) (P k 1) && decide (P k 2 ≤ 2)
def putC (n m : Nat) (T : Nat → List Int) (P : Nat → Nat → Int) (np : Nat) : Int := if (allB np (okPut n m T P) && allB m fun i => decide (cnt3 (putT T P np) i ≤ 10)) = true then 0 else 54
theorem putT_len {T : Nat → List Int} {P : Nat → Nat → Int} {s : Nat} : ∀ k, (putT T P k s).length ≤ (T s).length + k
  | 0 => Nat.le_refl _
  | k + 1 => by
    have h := putT_len (T := T) (P := P) (s := s) k
    simp only [putT, updN]
    split
    · rename_i e
      rw [srt_len, List.length_append, ← e]
      simp only [List.length_cons, List.length_nil]
      omega
    · omega
theorem mark_mem (xs : List Int) (x : Int) : (mlook x (markAll xs)).getD (.bool false) = .bool (decide (x ∈ xs)) := by
  have key : ∀ (ys : List Int) (m : List (Int × Value)), (∀ y u, mlook y m = some u → u = .bool true) → ∀ y u, mlook y (ys.foldl (fun m x => mput x (.bool true) m) m) = some u → u = .bool true := by
    intro ys
    induction ys with
    | nil => intro m h; exact h
    | cons z zs ih =>
      intro m h
      rw [List.foldl_cons]
      refine ih _ fun y u hy => ?_
      rw [mlook_mput] at hy
      split at hy
      · injection hy with hy; exact hy.symm
      · exact h y u hy
  have h1 := mark_look x xs []
  have h2 := key xs [] (fun y u h => by simp [mlook] at h) x
  change (mlook x (markAll xs)).isSome = _ at h1
  change ∀ u, mlook x (markAll xs) = some u → _ at h2
  simp only [mlook, Option.isSome_none, Bool.or_false] at h1
  cases h : mlook x (markAll xs) with
  | none => rw [h] at h1; simp only [Option.isSome_none] at h1; rw [← h1]; rfl
  | some u => rw [h] at h1; simp only [Option.isSome_some] at h1; rw [← h1, h2 u h]; rfl
theorem all3_any {w : World} {A0 A1 A2 : Option Addr} {n0 n1 n2 c0 c1 c2 : Nat} {L0 L1 L2 : List Int} (h0 : n0 = L0.length) (h1 : n1 = L1.length) (h2 : n2 = L2.length) (ht : n0 + n1 + n2 ≤ 1000000) (hR0 : RdR w 1 A0 n0 (iL L0)) (hR1 : RdR w 1 A1 n1 (iL L1)) (hR2 : RdR w 1 A2 n2 (iL L2)) :
    CallsK Tryz.prog 72 #[.agg #[.slice A0 n0 c0, .slice A1 n1 c1, .slice A2 n2 c2]] [] w (Option Addr × Nat) (fun x => .slice x.1 (L0 ++ L1 ++ L2).length x.2) (fun x => [.own x.1 (L0 ++ L1 ++ L2).length x.2 3 1 (iL (L0 ++ L1 ++ L2))]) := by
  subst h0 h1 h2
  have e : tot (fun j => if j = 0 then L0.length else if j = 1 then L1.length else L2.length) 3 = (L0 ++ L1 ++ L2).length := by simp [tot]; omega
  refine (all_any (a := fun j => if j = 0 then A0 else if j = 1 then A1 else A2) (l := fun j => if j = 0 then L0.length else if j = 1 then L1.length else L2.length) (c := fun j => if j = 0 then c0 else if j = 1 then c1 else c2) (v := fun j => if j = 0 then fun k => L0.getD k 0 else if j = 1 then fun k => L1.getD k 0 else fun k => L2.getD k 0) (by rw [e, List.length_append, List.length_append]; omega)
    (fun j hj => ?_)).mono ?_
  · have : j = 0 ∨ j = 1 ∨ j = 2 := by omega
    rcases this with rfl | rfl | rfl
    · exact hR0
    · exact hR1
    · exact hR2
  rintro e' w' ⟨x, rfl, hs⟩
  refine ⟨x, by rw [e], ?_⟩
  rw [e] at hs
  refine hs.sub (KSub.own Pick.hd (fun i hi => ?_) KSub.nil)
  rw [cat3, ← iL_cat rfl, List.length_append]
  simp only [catR]
  have h10 : ¬ (1 : Nat) = 0 := by decide
  have h20 : ¬ (2 : Nat) = 0 := by decide
  have h21 : ¬ (2 : Nat) = 1 := by decide
  simp only [if_true, if_neg h10, if_neg h20, if_neg h21]
  by_cases h : i < L0.length + L1.length
  · rw [if_pos h, if_pos h, ← iL_cat rfl]
    simp only [catR]
    by_cases h9 : i < L0.length
    · rw [if_pos h9, if_pos h9]; rfl
    · rw [if_neg h9, if_neg h9]; rfl
  · rw [if_neg h, if_neg h]; rfl
theorem put1_any {w : World} {A0 A1 A2 : Option Addr} {n0 n1 n2 c0 c1 c2 : Nat} {L0 L1 L2 : List Int} (h0 : n0 = L0.length) (h1 : n1 = L1.length) (h2 : n2 = L2.length) (ht : n0 + n1 + n2 ≤ 1000000) (hR0 : RdR w 1 A0 n0 (iL L0)) (hR1 : RdR w 1 A1 n1 (iL L1)) (hR2 : RdR w 1 A2 n2 (iL L2)) :
    Calls Tryz.prog 93 #[.agg #[.slice A0 n0 c0, .slice A1 n1 c1, .slice A2 n2 c2]] w (Ret w (.bool (decide (n0 + n1 + n2 ≤ 10)))) := by
  refine K_enter (S := []) (K := []) Tryz.func93 rfl Tryz.ntmps93 rfl (Sat.start _) ?_
  refine TW.seq fun Y1 hY1 => ?_
  refine TW.region ?_
  refine TL.m Mk.bx ?_
  intro b1
  refine TL.p Pu.as ?_
  refine TL.nil ?_
  refine TQ.thenN (hY1 _ _ ?_)
  refine TW.seq fun Y2 hY2 => ?_
  refine TW.region ?_
  refine TL.p (Pu.lds ty_ag36) ?_
  refine TL.call (M := []) rfl (enters Tryz.func72 rfl rfl) (List.Perm.refl _) rfl (fun w hw => by
      exact all3_any h0 h1 h2 ht (hR0.sat hw Apart.nil) (hR1.sat hw Apart.nil) (hR2.sat hw Apart.nil)) ?_
  rintro ⟨Ac, cc⟩
  refine TL.p (Pu.ln Tryz.underlying24) ?_
  refine TL.p Pu.le ?_
  refine TL.p Pu.as ?_
  refine TL.nil ?_
  refine TQ.thenN (hY2 _ _ ?_)
  refine TW.ret ?_
  refine TQ.ret Tryz.results93 rfl ((.tmp rfl .nil)) ?_
  exact fun w hw => ⟨ret_bool (by
    have e : (L0 ++ L1 ++ L2).length = n0 + n1 + n2 := by rw [List.length_append, List.length_append]; omega
    rw [e]
    rw [decide_eq_decide]
    omega), Chg.ext hw.chg⟩
theorem index_ptr3 {An : Option Addr} (q p : Nat) (hp : p < 3) (w : World) : (Instr.index 155 (.agg #[.pointer (elA An q 3 0), .pointer (elA An q 3 1), .pointer (elA An q 3 2)]) (.int .u8 (p : Int))).run Tryz.prog w = .ok (.pointer (elA An q 3 p)) w := by
  have : p = 0 ∨ p = 1 ∨ p = 2 := by omega
  rcases this with rfl | rfl | rfl <;> simp [Instr.index, asIntOf, run_underlying Tryz.underlying155, part, Tryz.isAgg154, Tryz.sizeOf154]
theorem subl_tie {X : Nat → Option Addr} {T : Nat → List Int} {D : Nat → Nat} {q p : Nat} (hp : p < 3) : SubL (tieX X T D q) p 1 [.slice (X (3 * q + p)) (T (3 * q + p)).length (D (3 * q + p))] := by
  have : p = 0 ∨ p = 1 ∨ p = 2 := by omega
  rcases this with rfl | rfl | rfl
  · exact SubL.take SubL.nil
  · exact SubL.drop (SubL.take SubL.nil)
  · exact SubL.drop (SubL.drop (SubL.take SubL.nil))
theorem subl_tie0 {X : Nat → Option Addr} {T : Nat → List Int} {D : Nat → Nat} {q p : Nat} (hp : p < 3) : SubL (tieX X T D q) p 0 [] := by
  have : p = 0 ∨ p = 1 ∨ p = 2 := by omega
  rcases this with rfl | rfl | rfl
  · exact SubL.nil
  · exact SubL.drop SubL.nil
  · exact SubL.drop (SubL.drop SubL.nil)
theorem putl_tie {X : Nat → Option Addr} {T : Nat → List Int} {D : Nat → Nat} {q p : Nat} {v : Value} (hp : p < 3) : PutL (tieX X T D q) p [v] ((tieX X T D q).set p v) := by
  have : p = 0 ∨ p = 1 ∨ p = 2 := by omega
  rcases this with rfl | rfl | rfl
  · exact PutL.put PutL.nil
  · exact PutL.pass (PutL.put PutL.nil)
  · exact PutL.pass (PutL.pass (PutL.put PutL.nil))
theorem tieX_upd {X : Nat → Option Addr} {T : Nat → List Int} {D : Nat → Nat} {q p n2 c2 : Nat} {A : Option Addr} {L : List Int} (hp : p < 3) (hn : n2 = L.length) (i : Nat) : updR (tieX X T D) q ((tieX X T D q).set p (.slice A n2 c2)) i = tieX (updN X (3 * q + p) A) (updN T (3 * q + p) L) (updN D (3 * q + p) c2) i := by
  subst hn
  unfold updR
  by_cases hi : i = q
  · subst hi
    rw [if_pos rfl]
    have : p = 0 ∨ p = 1 ∨ p = 2 := by omega
    rcases this with rfl | rfl | rfl <;> simp [tieX, updN]
  · rw [if_neg hi]
    unfold tieX updN
    rw [if_neg (by omega), if_neg (by omega), if_neg (by omega), if_neg (by omega), if_neg (by omega), if_neg (by omega), if_neg (by omega), if_neg (by omega), if_neg (by omega)]
theorem tieX_len {X : Nat → Option Addr} {T T2 : Nat → List Int} {D : Nat → Nat} (h : ∀ s, (T s).length = (T2 s).length) (i : Nat) : tieX X T D i = tieX X T2 D i := by
  unfold tieX
  rw [h, h, h]
end Go.Proofs.YtjephihlkjpohaaGreatDoor
