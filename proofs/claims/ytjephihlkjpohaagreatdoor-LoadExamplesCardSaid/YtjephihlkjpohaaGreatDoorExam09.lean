/-
  Part 9 of the proof of loadExamples_holds: declarations of several texts, in build order. No condition on a program.
-/
import Derived.Test.YtjephihlkjpohaaGreatDoorExam08
namespace Go.Proofs.YtjephihlkjpohaaGreatDoor
set_option linter.all false
set_option linter.unusedVariables false
set_option linter.unusedSimpArgs false
open Go.RowKit
set_option maxRecDepth 100000 in
set_option maxHeartbeats 8000000 in
theorem put_any {W : World} {An AP : Option Addr} {cn m nP cP n : Nat} {X0 : Nat → Option Addr} {D0 : Nat → Nat} {T : Nat → List Int} {P : Nat → Nat → Int} (hm : m ≤ 1000) (hnP : nP ≤ 1000) (hn : n ≤ 1000000000) (hT : ∀ s, s < 3 * m → (T s).length ≤ 1000) (hP2 : ∀ k, k < nP → 0 ≤ P k 2)
    (hPR : RdR W 3 AP nP (fun k => putL (P k))) (hA : 0 < nP → Apart (feet (tiesX m T ((An, cn), X0, D0))) AP) (hM : Sat (feet (tiesX m T ((An, cn), X0, D0))) W (tiesX m T ((An, cn), X0, D0)) W) :
    TryK Tryz.prog 50 #[.slice An m cn, .slice AP nP cP, .int .i64 (n : Int)] (tiesX m T ((An, cn), X0, D0)) ((Nat → Option Addr) × (Nat → Nat)) (fun _ => .tuple #[]) (fun y => tiesX m (putT T P nP) ((An, cn), y.1, y.2)) errs (putC n m T P nP) W := by
  unfold TryK
  generalize hS : feet (tiesX m T ((An, cn), X0, D0)) = S at *
  have hTk : ∀ k s, s < 3 * m → (putT T P k s).length ≤ 1000 + k := fun k s hs => by have := putT_len (T := T) (P := P) (s := s) k; have := hT s hs; omega
  have hC1 : ∀ k, k < nP → okPut n m T P k = false → putC n m T P nP = 54 := fun k hk h => by
    unfold putC
    have : allB nP (okPut n m T P) = false := by
      cases h2 : allB nP (okPut n m T P) with
      | false => rfl
      | true => rw [allB_iff.1 h2 k hk] at h; cases h
    rw [this]
    rfl
  have hC2 : (allB m fun i => decide (cnt3 (putT T P nP) i ≤ 10)) = false → putC n m T P nP = 54 := fun h => by
    unfold putC
    rw [h, Bool.and_false]
    rfl
  refine K_enter (S := S) (K := .own An m cn 36 3 (tieX X0 T D0) :: ownsT X0 T D0 (3 * m)) Tryz.func50 rfl Tryz.ntmps50 rfl hM ?_
  refine TW.seq fun Y1 hY1 => ?_
  refine TW.region ?_
  refine TL.mm (kk := .i64) ?_
  intro b1
  refine TL.p Pu.as ?_
  refine TL.nil ?_
  refine TQ.thenN (hY1 _ _ ?_)
  refine TW.seq fun Y2 hY2 => ?_
  refine TW.seq fun Y3 hY3 => ?_
  refine TW.region ?_
  refine TL.p Pu.mv ?_
  refine TL.p (Pu.ln Tryz.underlying23) ?_
  refine TL.p Pu.mv ?_
  refine TL.nil ?_
  refine TQ.thenN (hY3 _ _ ?_)
  refine TW.block ?_
  refine TW.loop1 (fun (i : Nat) => [(18, .int .i64 (i : Int)), (17, .int .i64 (m : Int)), (16, .slice An m cn), (6, .map (some b1)), (0, .slice An m cn), (1, .slice AP nP cP), (2, .int .i64 (n : Int))]) (fun i => .obj b1 (mapO .i64 (markAll (flatT T (3 * i)))) :: .own An m cn 36 3 (tieX X0 T D0) :: ownsT X0 T D0 (3 * m)) (fun i => i ≤ m) (fun i => m - i) 0 (by repeat (first | exact trivial | refine ⟨rfl, ?_⟩ | refine ⟨trivial, ?_⟩)) ?_ ?_ ?_
  · exact KSub.refl _
  · exact Nat.zero_le _
  rintro i hi Z0 hZ0
  refine TW.seq fun Y4 hY4 => ?_
  refine TW.region ?_
  refine TL.p Pu.lt ?_
  refine TL.nil ?_
  refine TQ.thenN (hY4 _ _ ?_)
  refine TW.seq fun Y5 hY5 => ?_
  refine TW.cond rfl (fun hc0 => ?_) (fun hc0 => ?_)
  · try simp only [decide_eq_true_eq, decide_eq_false_iff_not, Bool.not_eq_true', Bool.not_eq_false', Bool.and_eq_true, Bool.or_eq_true, Bool.and_eq_false_iff, Bool.or_eq_false_iff, Int.not_lt, Int.not_le] at hc0
    have him : i < m := by omega
    have t0 := hT (3 * i) (by omega)
    have t1 := hT (3 * i + 1) (by omega)
    have t2 := hT (3 * i + 2) (by omega)
    refine TW.skip ?_
    refine TQ.thenN (hY5 _ _ ?_)
    refine TW.seq fun Y6 hY6 => ?_
    refine TW.block ?_
    refine TW.seq fun Y7 hY7 => ?_
    refine TW.region ?_
    refine TL.p (Pu.el ty_et23) ?_
    refine TL.p (Pu.lds ty_ag36) ?_
    refine TL.m (Mk.al ty_zr36) ?_
    intro b2
    first | refine TL.st ty_sz36 ?_ | refine TL.se ty_sz36 ?_
    refine TL.nil ?_
    refine TQ.thenN (hY7 _ _ ?_)
    refine TW.seq fun Y8 hY8 => ?_
    refine TW.region ?_
    refine TL.p (Pu.lds ty_ag36) ?_
    refine TL.call (M := []) rfl (enters Tryz.func72 rfl rfl) (List.Perm.refl _) rfl (fun w hw => by
        have m0 := ownsT_mem (X := X0) (T := T) (D := D0) (n := 3 * m) (show 3 * i < 3 * m by omega)
        have m1 := ownsT_mem (X := X0) (T := T) (D := D0) (n := 3 * m) (show 3 * i + 1 < 3 * m by omega)
        have m2 := ownsT_mem (X := X0) (T := T) (D := D0) (n := 3 * m) (show 3 * i + 2 < 3 * m by omega)
        exact all3_any rfl rfl rfl (by omega) (OwnR.rdr (hw.holds (.own (X0 (3 * i)) (T (3 * i)).length (D0 (3 * i)) 3 1 (iL (T (3 * i)))) (by simp [m0]))) (OwnR.rdr (hw.holds (.own (X0 (3 * i + 1)) (T (3 * i + 1)).length (D0 (3 * i + 1)) 3 1 (iL (T (3 * i + 1)))) (by simp [m1]))) (OwnR.rdr (hw.holds (.own (X0 (3 * i + 2)) (T (3 * i + 2)).length (D0 (3 * i + 2)) 3 1 (iL (T (3 * i + 2)))) (by simp [m2])))) ?_
    rintro ⟨A3, c3⟩
    obtain ⟨L, hL⟩ : ∃ L, L = T (3 * i) ++ T (3 * i + 1) ++ T (3 * i + 2) := ⟨_, rfl⟩
    simp only [← hL]
    have hLl : L.length ≤ 3000 := by rw [hL, List.length_append, List.length_append]; omega
    have hf : flatT T (3 * (i + 1)) = flatT T (3 * i) ++ L := by rw [hL, show 3 * (i + 1) = 3 * i + 3 from rfl]; simp only [flatT, List.append_assoc]
    refine TL.p (Pu.ln Tryz.underlying24) ?_
    refine TL.p Pu.mv ?_
    refine TL.nil ?_
    refine TQ.thenN (hY8 _ _ ?_)
    refine TW.block ?_
    refine TW.loop1 (fun (q : Nat) => [(25, .int .i64 (q : Int)), (24, .int .i64 (L.length : Int)), (23, .slice A3 L.length c3), (18, .int .i64 (i : Int)), (17, .int .i64 (m : Int)), (16, .slice An m cn), (6, .map (some b1)), (0, .slice An m cn), (1, .slice AP nP cP), (2, .int .i64 (n : Int))]) (fun q => .own A3 L.length c3 3 1 (iL L) :: .obj b1 (mapO .i64 (markAll (flatT T (3 * i) ++ L.take q))) :: .own An m cn 36 3 (tieX X0 T D0) :: ownsT X0 T D0 (3 * m)) (fun q => q ≤ L.length) (fun q => L.length - q) 0 (by repeat (first | exact trivial | refine ⟨rfl, ?_⟩ | refine ⟨trivial, ?_⟩)) ?_ ?_ ?_
    · rw [List.take_zero, List.append_nil]
      repeat (first | exact KSub.nil | refine KSub.cons (by repeat (first | exact Pick.hd | apply Pick.tl)) ?_ | exact KSub.refl _ | refine KSub.drop ?_)
    · exact Nat.zero_le _
    rintro q hq Z1 hZ1
    refine TW.seq fun Y9 hY9 => ?_
    refine TW.region ?_
    refine TL.p Pu.lt ?_
    refine TL.nil ?_
    refine TQ.thenN (hY9 _ _ ?_)
    refine TW.seq fun Y10 hY10 => ?_
    refine TW.cond rfl (fun hc1 => ?_) (fun hc1 => ?_)
    · try simp only [decide_eq_true_eq, decide_eq_false_iff_not, Bool.not_eq_true', Bool.not_eq_false', Bool.and_eq_true, Bool.or_eq_true, Bool.and_eq_false_iff, Bool.or_eq_false_iff, Int.not_lt, Int.not_le] at hc1
      have hql : q < L.length := by omega
      have htk := take_succ hql
      refine TW.skip ?_
      refine TQ.thenN (hY10 _ _ ?_)
      refine TW.seq fun Y11 hY11 => ?_
      refine TW.block ?_
      refine TW.seq fun Y12 hY12 => ?_
      refine TW.region ?_
      refine TL.p (Pu.el ty_et24) ?_
      refine TL.p (Pu.ld ty_sc3) ?_
      refine TL.p Pu.as ?_
      refine TL.nil ?_
      refine TQ.thenN (hY12 _ _ ?_)
      refine TW.region ?_
      refine TL.p Pu.mv ?_
      refine TL.p Pu.mv ?_
      refine TL.mu ty_mp151 ?_
      refine TL.nil ?_
      refine TQ.blkN ?_
      refine TQ.thenN (hY11 _ _ ?_)
      refine TW.region ?_
      refine TL.p Pu.ad ?_
      refine TL.p Pu.mv ?_
      refine TL.nil ?_
      refine TQ.thenN (hZ1 (q + 1) _ _ ?_ ?_ (by repeat (first | exact trivial | refine ⟨rfl, ?_⟩ | refine ⟨trivial, ?_⟩)) ?_)
      · exact (by omega)
      · exact (by first | omega | (simp only []; omega) | (simp; omega))
      · rw [htk, ← List.append_assoc, markAll_snoc]
        repeat (first | exact KSub.nil | refine KSub.cons (by repeat (first | exact Pick.hd | apply Pick.tl)) ?_ | exact KSub.refl _ | refine KSub.drop ?_)
    · try simp only [decide_eq_true_eq, decide_eq_false_iff_not, Bool.not_eq_true', Bool.not_eq_false', Bool.and_eq_true, Bool.or_eq_true, Bool.and_eq_false_iff, Bool.or_eq_false_iff, Int.not_lt, Int.not_le] at hc1
      obtain rfl : q = L.length := by omega
      refine TW.exit ?_
      refine TQ.thenX ?_
      refine TQ.thenX ?_
      refine TQ.blkX ?_
      refine TQ.blkN ?_
      refine TQ.thenN (hY6 _ _ ?_)
      refine TW.region ?_
      refine TL.p Pu.ad ?_
      refine TL.p Pu.mv ?_
      refine TL.nil ?_
      refine TQ.thenN (hZ0 (i + 1) _ _ ?_ ?_ (by repeat (first | exact trivial | refine ⟨rfl, ?_⟩ | refine ⟨trivial, ?_⟩)) ?_)
      · exact (by omega)
      · exact (by first | omega | (simp only []; omega) | (simp; omega))
      · rw [List.take_length, hf]
        exact KSub.drop (KSub.refl _)
  · try simp only [decide_eq_true_eq, decide_eq_false_iff_not, Bool.not_eq_true', Bool.not_eq_false', Bool.and_eq_true, Bool.or_eq_true, Bool.and_eq_false_iff, Bool.or_eq_false_iff, Int.not_lt, Int.not_le] at hc0
    obtain rfl : m = i := by omega
    refine TW.exit ?_
    refine TQ.thenX ?_
    refine TQ.thenX ?_
    refine TQ.blkX ?_
    refine TQ.thenN (hY2 _ _ ?_)
    refine TW.seq fun Y13 hY13 => ?_
    refine TW.seq fun Y14 hY14 => ?_
    refine TW.region ?_
    refine TL.p Pu.mv ?_
    refine TL.p (Pu.ln Tryz.underlying25) ?_
    refine TL.p Pu.mv ?_
    refine TL.nil ?_
    refine TQ.thenN (hY14 _ _ ?_)
    refine TW.block ?_
    refine TW.loop3 (fun (k : Nat) (X : Nat → Option Addr) (D : Nat → Nat) => [(35, .int .i64 (k : Int)), (34, .int .i64 (nP : Int)), (33, .slice AP nP cP), (6, .map (some b1)), (0, .slice An m cn), (1, .slice AP nP cP), (2, .int .i64 (n : Int))]) (fun k X D => .obj b1 (mapO .i64 (markAll (usedP m T P k))) :: .own An m cn 36 3 (tieX X (putT T P k) D) :: ownsT X (putT T P k) D (3 * m)) (fun k X D => k ≤ nP ∧ ∀ j, j < k → okPut n m T P j = true) (fun k X D => nP - k) 0 X0 D0 (by repeat (first | exact trivial | refine ⟨rfl, ?_⟩ | refine ⟨trivial, ?_⟩)) ?_ ?_ ?_
    · unfold usedP
      simp only [toI, List.range_zero, List.map_nil, List.append_nil, putT]
      exact KSub.refl _
    · exact ⟨Nat.zero_le _, fun j hj => by omega⟩
    rintro k X D ⟨hk, hall⟩ Z2 hZ2
    refine TW.seq fun Y15 hY15 => ?_
    refine TW.region ?_
    refine TL.p Pu.lt ?_
    refine TL.nil ?_
    refine TQ.thenN (hY15 _ _ ?_)
    refine TW.seq fun Y16 hY16 => ?_
    refine TW.cond rfl (fun hc2 => ?_) (fun hc2 => ?_)
    · try simp only [decide_eq_true_eq, decide_eq_false_iff_not, Bool.not_eq_true', Bool.not_eq_false', Bool.and_eq_true, Bool.or_eq_true, Bool.and_eq_false_iff, Bool.or_eq_false_iff, Int.not_lt, Int.not_le] at hc2
      have hkn : k < nP := by omega
      have hA' := hA (by omega)
      have hp0 := hP2 k hkn
      have hTk' := hTk k
      generalize hTn : putT T P k = Tk at *
      refine TW.skip ?_
      refine TQ.thenN (hY16 _ _ ?_)
      refine TW.seq fun Y17 hY17 => ?_
      refine TW.block ?_
      refine TW.seq fun Y18 hY18 => ?_
      refine TW.region ?_
      refine TL.p (Pu.el ty_et25) ?_
      refine TL.p (Pu.lds ty_ag66) ?_
      refine TL.m (Mk.al ty_zr66) ?_
      intro b3
      first | refine TL.st ty_sz66 ?_ | refine TL.se ty_sz66 ?_
      refine TL.nil ?_
      refine TQ.thenN (hY18 _ _ ?_)
      refine TW.seq fun Y19 hY19 => ?_
      refine TW.region ?_
      refine TL.p Pu.mv ?_
      refine TL.p Pu.sb ?_
      refine TL.p (by first | exact Pu.fb ty_fa66_0 | exact Pu.fe ty_fa66_0) ?_
      refine TL.p (Pu.ld ty_sc3) ?_
      refine TL.m Mk.bl ?_
      intro b4
      refine TL.cr rfl (enters Tryz.func78 rfl rfl) (fun w hw => by
          exact inOne_any _ _ _ (hw.holds _ (List.mem_cons_self ..))) ?_
      refine TL.mid 27 [(65, .bool (okPut n m T P k))] ?_ (fun hM1 => ?_)
      · simp only [List.toList_toArray, List.drop_succ_cons, List.drop_zero]
        refine TL.ct rfl (enters Tryz.func76 rfl rfl) (fun w hw => by
            exact need_any _ _ _ (by decide)) (fun hp1 => ?_) (fun hp1 => ?_)
        rotate_left
        · refine TQ.thenP ?_
          refine TQ.blkP ?_
          refine TQ.thenP ?_
          refine TQ.thenP ?_
          refine TQ.blkP ?_
          refine TQ.thenP ?_
          refine TQ.pan rfl ?_
          exact fun w hw => .inr ⟨by first | (rw [hC1 k hkn (need_no hp1).1]; decide) | (rw [hC2 (need_no hp2).1]; decide), by first | (rw [hC1 k hkn (need_no hp1).1, (need_no hp1).2]) | (rw [hC2 (need_no hp2).1, (need_no hp2).2]), hw.sub KSub.nil⟩
        refine TL.nil ?_
        refine TQ.thenN (hY19 _ _ ?_)
        refine TW.seq fun Y20 hY20 => ?_
        refine TW.region ?_
        have hok := need_yes (by decide) hp1
        have hok2 := hok
        unfold okPut at hok2
        simp only [inB5, Bool.and_eq_true, decide_eq_true_eq] at hok2
        obtain ⟨⟨⟨⟨g1, g2⟩, _⟩, ⟨g3, g4⟩⟩, g5⟩ := hok2
        obtain ⟨q, hq⟩ : ∃ q : Nat, P k 1 = q := ⟨(P k 1).toNat, by omega⟩
        obtain ⟨p, hp⟩ : ∃ p : Nat, P k 2 = p := ⟨(P k 2).toNat, by omega⟩
        have hqm : q < m := by omega
        have hp3 : p < 3 := by omega
        have hs3 : 3 * q + p < 3 * m := by omega
        have hls := hTk' (3 * q + p) hs3
        have hS9 : putS (P k) = 3 * q + p := by unfold putS; rw [hq, hp]; omega
        have ek : putT T P (k + 1) = updN Tk (3 * q + p) (srt (Tk (3 * q + p) ++ [P k 0])) := by simp only [putT, hS9, hTn]
        have eu : usedP m T P (k + 1) = usedP m T P k ++ [P k 0] := by unfold usedP; rw [toI_succ, List.append_assoc]
        refine TL.p Pu.mv ?_
        refine TL.p (by first | exact Pu.fb ty_fa66_0 | exact Pu.fe ty_fa66_0) ?_
        refine TL.p (Pu.ld ty_sc3) ?_
        refine TL.mu ty_mp151 ?_
        refine TL.nil ?_
        refine TQ.thenN (hY20 _ _ ?_)
        refine TW.seq fun Y21 hY21 => ?_
        refine TW.region ?_
        refine TL.perm (by repeat (first | exact ownsT_perm hs3 | apply List.Perm.cons)) ?_
        refine TL.p Pu.mv ?_
        refine TL.p (by first | exact Pu.fb ty_fa66_1 | exact Pu.fe ty_fa66_1) ?_
        refine TL.p (Pu.ld ty_sc3) ?_
        refine TL.p (Pu.el (q := q) ty_et23 (hk := by omega)) ?_
        refine TL.p Pu.as ?_
        refine TL.nil ?_
        refine TQ.thenN (hY21 _ _ ?_)
        refine TW.seq fun Y22 hY22 => ?_
        refine TW.dw 14 ?_
        refine RK.tk Pu.mv ?_
        refine RK.tk (by first | exact Pu.nn | exact Pu.nc) ?_
        refine RK.tk (by first | exact Pu.fb ty_fa36_0 | exact Pu.fe ty_fa36_0) ?_
        refine RK.tk Pu.mv ?_
        refine RK.tk (by first | exact Pu.nn | exact Pu.nc) ?_
        refine RK.tk (by first | exact Pu.fb ty_fa36_1 | exact Pu.fe ty_fa36_1) ?_
        refine RK.tk Pu.mv ?_
        refine RK.tk (by first | exact Pu.nn | exact Pu.nc) ?_
        refine RK.tk (by first | exact Pu.fb ty_fa36_2 | exact Pu.fe ty_fa36_2) ?_
        refine RK.tk Pu.bd ?_
        refine RK.tk (by first | exact Pu.fb ty_fa66_2 | exact Pu.fe ty_fa66_2) ?_
        refine RK.tk (Pu.ld ty_sc5) ?_
        refine RK.tk (Pu.ix (v := .pointer (elA An q 3 p)) (hr := fun w => by rw [hp]; exact index_ptr3 q p hp3 w)) ?_
        refine RK.tk Pu.as ?_
        refine RK.ch [] ?_ trivial
        refine WK.n ?_
        refine TL.nil ?_
        refine TQ.thenN (hY22 _ _ ?_)
        refine TW.seq fun Y23 hY23 => ?_
        refine TW.expk [.blk b3 66 (putL (P k))] (fun (⟨A7, c7⟩ : Option Addr × Nat) => ([(14, .pointer (elA An q 3 p)), (35, .int .i64 (k : Int)), (34, .int .i64 (nP : Int)), (33, .slice AP nP cP), (6, .map (some b1)), (0, .slice An m cn), (1, .slice AP nP cP), (2, .int .i64 (n : Int))] : Fr)) (fun (⟨A7, c7⟩ : Option Addr × Nat) => .own An m cn 36 3 (updR (tieX X Tk D) q ((tieX X Tk D q).set p (.slice A7 ((Tk (3 * q + p)).length + 1) c7))) :: .own A7 ((Tk (3 * q + p)).length + 1) c7 3 1 (catR (Tk (3 * q + p)).length (iL (Tk (3 * q + p))) (fun _ => [.int .i64 (P k 0)])) :: .obj b1 (mapO .i64 (mput (P k 0) (.bool true) (markAll (usedP m T P k)))) :: ownsTX X Tk D (3 * q + p) (3 * m)) ?_ (fun hE => ?_)
        · rintro ⟨A7, c7⟩
          refine TQ.thenN (hY23 _ _ ?_)
          refine TW.region ?_
          obtain ⟨Lx, hLx⟩ : ∃ y, y = Tk (3 * q + p) ++ [P k 0] := ⟨_, rfl⟩
          have hLn : (Tk (3 * q + p)).length + 1 = Lx.length := by rw [hLx, List.length_append]; rfl
          have eX : updN X (3 * q + p) A7 (3 * q + p) = A7 := if_pos rfl
          have eD : updN D (3 * q + p) c7 (3 * q + p) = c7 := if_pos rfl
          have eT : updN Tk (3 * q + p) Lx (3 * q + p) = Lx := if_pos rfl
          refine TL.subK (K' := .own An m cn 36 3 (tieX (updN X (3 * q + p) A7) (updN Tk (3 * q + p) Lx) (updN D (3 * q + p) c7)) :: .own A7 ((Tk (3 * q + p)).length + 1) c7 3 1 (iL Lx) :: .obj b1 (mapO .i64 (mput (P k 0) (.bool true) (markAll (usedP m T P k)))) :: ownsTX X Tk D (3 * q + p) (3 * m)) (KSub.own Pick.hd (fun i _ => tieX_upd hp3 hLn i) (KSub.own Pick.hd (iL_app rfl hLx rfl) (KSub.refl _))) ?_
          refine TL.p Pu.mv ?_
          refine TL.p (Pu.nc (hq := CellsN.own (by repeat (first | exact Pick.hd | apply Pick.tl)) hqm (subl_tie0 hp3))) ?_
          refine TL.p (Pu.ld (v := .slice A7 ((Tk (3 * q + p)).length + 1) c7) ty_sc24 (hq := by have h9 := subl_tie (X := updN X (3 * q + p) A7) (T := updN Tk (3 * q + p) Lx) (D := updN D (3 * q + p) c7) (q := q) hp3; rw [eX, eD, eT, ← hLn] at h9; exact Cells.own (by repeat (first | exact Pick.hd | apply Pick.tl)) hqm h9)) ?_
          refine TL.call rfl (enters Tryz.func54 rfl rfl) (List.Perm.swap _ _ _) rfl (fun w hw => by
              exact sortI_any hLn (by omega) (hw.holds (.own A7 ((Tk (3 * q + p)).length + 1) c7 3 1 (iL Lx)) (by simp))) ?_
          intro _
          refine TL.nil ?_
          refine TQ.blkN ?_
          refine TQ.thenN (hY17 _ _ ?_)
          refine TW.region ?_
          refine TL.p Pu.ad ?_
          refine TL.p Pu.mv ?_
          refine TL.nil ?_
          refine TQ.thenN (hZ2 (k + 1) (updN X (3 * q + p) A7) (updN D (3 * q + p) c7) _ _ ?_ ?_ (by repeat (first | exact trivial | refine ⟨rfl, ?_⟩ | refine ⟨trivial, ?_⟩)) ?_)
          · refine ⟨by omega, fun j hj => ?_⟩
            by_cases h : j = k
            · subst h; exact hok
            · exact hall j (by omega)
          · exact (by first | omega | (simp only []; omega) | (simp; omega))
          · rw [eu, markAll_snoc, ek, ← hLx]
            refine KSub.cons (by repeat (first | exact Pick.hd | apply Pick.tl)) (KSub.own (by repeat (first | exact Pick.hd | apply Pick.tl)) (fun i _ => tieX_len (fun s => ?_) i) ?_)
            · unfold updN
              split
              · exact (srt_len _).symm
              · rfl
            · exact ownsT_put (by rw [srt_len]; exact hLn) (fun i _ => rfl) hs3
        refine RG.tk 0 rfl Pu.mv ?_
        refine RG.tk 1 rfl Pu.mv ?_
        refine RG.tk 4 rfl (by first | exact Pu.fb ty_fa66_0 | exact Pu.fe ty_fa66_0) ?_
        refine RG.tk 5 rfl (Pu.ld ty_sc3) ?_
        refine RG.a2 2 6 rfl rfl (fun X2 hX2 => ?_) (fun X6 hX6 => ?_)
        · refine TL.p (Pu.nc (hq := CellsN.own (by repeat (first | exact Pick.hd | apply Pick.tl)) hqm (subl_tie0 hp3))) ?_
          refine TL.nil ?_
          refine TQ.nxt (hX2 _ _ (by repeat (first | exact HasL.nil | refine HasL.cons (by repeat (first | exact Pick.hd | apply Pick.tl)) ?_)) ?_)
          refine RG.a2 3 6 rfl rfl (fun X3 hX3 => ?_) (fun X6 hX6 => ?_)
          · refine TL.p (Pu.ld ty_sc24 (hq := Cells.own (by repeat (first | exact Pick.hd | apply Pick.tl)) hqm (subl_tie hp3))) ?_
            refine TL.nil ?_
            refine TQ.nxt (hX3 _ _ (by repeat (first | exact HasL.nil | refine HasL.cons (by repeat (first | exact Pick.hd | apply Pick.tl)) ?_)) ?_)
            refine RG.a1 6 rfl (fun X6 hX6 => ?_)
            refine TL.m Mk.bl ?_
            intro x6
            refine TL.nil ?_
            refine TQ.nxt (hX6 _ _ (by repeat (first | exact HasL.nil | refine HasL.cons (by repeat (first | exact Pick.hd | apply Pick.tl)) ?_)) ?_)
            refine RG.a1 7 rfl (fun X7 hX7 => ?_)
            first | refine TL.a0 ty_et24 ?_ | refine TL.ap ty_et24 ?_
            intro A7 c7
            refine TL.nil ?_
            refine TQ.nxt (hX7 _ _ (by repeat (first | exact HasL.nil | refine HasL.cons (by repeat (first | exact Pick.hd | apply Pick.tl)) ?_)) ?_)
            refine RG.a1 8 rfl (fun X8 hX8 => ?_)
            refine TL.p (Pu.nc (hq := CellsN.own (by repeat (first | exact Pick.hd | apply Pick.tl)) hqm (subl_tie0 hp3))) ?_
            refine TL.nil ?_
            refine TQ.nxt (hX8 _ _ (by repeat (first | exact HasL.nil | refine HasL.cons (by repeat (first | exact Pick.hd | apply Pick.tl)) ?_)) ?_)
            refine RG.a1 9 rfl (fun X9 hX9 => ?_)
            refine TL.se ty_sz24 ?_ (hput := putl_tie hp3)
            refine TL.nil ?_
            refine TQ.nxt (hX9 _ _ (by repeat (first | exact HasL.nil | refine HasL.cons (by repeat (first | exact Pick.hd | apply Pick.tl)) ?_)) ?_)
            exact RG.nil (TQ.sub (by repeat (first | exact trivial | refine ⟨rfl, ?_⟩ | refine ⟨trivial, ?_⟩)) (by repeat (first | exact KSub.nil | refine KSub.cons (by repeat (first | exact Pick.hd | apply Pick.tl)) ?_ | exact KSub.refl _ | refine KSub.drop ?_)) (hE ⟨A7, c7⟩)) (by kernel_rfl)
          · refine TL.m Mk.bl ?_
            intro x6
            refine TL.nil ?_
            refine TQ.nxt (hX6 _ _ (by repeat (first | exact HasL.nil | refine HasL.cons (by repeat (first | exact Pick.hd | apply Pick.tl)) ?_)) ?_)
            refine RG.a1 3 rfl (fun X3 hX3 => ?_)
            refine TL.p (Pu.ld ty_sc24 (hq := Cells.own (by repeat (first | exact Pick.hd | apply Pick.tl)) hqm (subl_tie hp3))) ?_
            refine TL.nil ?_
            refine TQ.nxt (hX3 _ _ (by repeat (first | exact HasL.nil | refine HasL.cons (by repeat (first | exact Pick.hd | apply Pick.tl)) ?_)) ?_)
            refine RG.a1 7 rfl (fun X7 hX7 => ?_)
            first | refine TL.a0 ty_et24 ?_ | refine TL.ap ty_et24 ?_
            intro A7 c7
            refine TL.nil ?_
            refine TQ.nxt (hX7 _ _ (by repeat (first | exact HasL.nil | refine HasL.cons (by repeat (first | exact Pick.hd | apply Pick.tl)) ?_)) ?_)
            refine RG.a1 8 rfl (fun X8 hX8 => ?_)
            refine TL.p (Pu.nc (hq := CellsN.own (by repeat (first | exact Pick.hd | apply Pick.tl)) hqm (subl_tie0 hp3))) ?_
            refine TL.nil ?_
            refine TQ.nxt (hX8 _ _ (by repeat (first | exact HasL.nil | refine HasL.cons (by repeat (first | exact Pick.hd | apply Pick.tl)) ?_)) ?_)
            refine RG.a1 9 rfl (fun X9 hX9 => ?_)
            refine TL.se ty_sz24 ?_ (hput := putl_tie hp3)
            refine TL.nil ?_
            refine TQ.nxt (hX9 _ _ (by repeat (first | exact HasL.nil | refine HasL.cons (by repeat (first | exact Pick.hd | apply Pick.tl)) ?_)) ?_)
            exact RG.nil (TQ.sub (by repeat (first | exact trivial | refine ⟨rfl, ?_⟩ | refine ⟨trivial, ?_⟩)) (by repeat (first | exact KSub.nil | refine KSub.cons (by repeat (first | exact Pick.hd | apply Pick.tl)) ?_ | exact KSub.refl _ | refine KSub.drop ?_)) (hE ⟨A7, c7⟩)) (by kernel_rfl)
        · refine TL.m Mk.bl ?_
          intro x6
          refine TL.nil ?_
          refine TQ.nxt (hX6 _ _ (by repeat (first | exact HasL.nil | refine HasL.cons (by repeat (first | exact Pick.hd | apply Pick.tl)) ?_)) ?_)
          refine RG.a1 2 rfl (fun X2 hX2 => ?_)
          refine TL.p (Pu.nc (hq := CellsN.own (by repeat (first | exact Pick.hd | apply Pick.tl)) hqm (subl_tie0 hp3))) ?_
          refine TL.nil ?_
          refine TQ.nxt (hX2 _ _ (by repeat (first | exact HasL.nil | refine HasL.cons (by repeat (first | exact Pick.hd | apply Pick.tl)) ?_)) ?_)
          refine RG.a1 3 rfl (fun X3 hX3 => ?_)
          refine TL.p (Pu.ld ty_sc24 (hq := Cells.own (by repeat (first | exact Pick.hd | apply Pick.tl)) hqm (subl_tie hp3))) ?_
          refine TL.nil ?_
          refine TQ.nxt (hX3 _ _ (by repeat (first | exact HasL.nil | refine HasL.cons (by repeat (first | exact Pick.hd | apply Pick.tl)) ?_)) ?_)
          refine RG.a1 7 rfl (fun X7 hX7 => ?_)
          first | refine TL.a0 ty_et24 ?_ | refine TL.ap ty_et24 ?_
          intro A7 c7
          refine TL.nil ?_
          refine TQ.nxt (hX7 _ _ (by repeat (first | exact HasL.nil | refine HasL.cons (by repeat (first | exact Pick.hd | apply Pick.tl)) ?_)) ?_)
          refine RG.a1 8 rfl (fun X8 hX8 => ?_)
          refine TL.p (Pu.nc (hq := CellsN.own (by repeat (first | exact Pick.hd | apply Pick.tl)) hqm (subl_tie0 hp3))) ?_
          refine TL.nil ?_
          refine TQ.nxt (hX8 _ _ (by repeat (first | exact HasL.nil | refine HasL.cons (by repeat (first | exact Pick.hd | apply Pick.tl)) ?_)) ?_)
          refine RG.a1 9 rfl (fun X9 hX9 => ?_)
          refine TL.se ty_sz24 ?_ (hput := putl_tie hp3)
          refine TL.nil ?_
          refine TQ.nxt (hX9 _ _ (by repeat (first | exact HasL.nil | refine HasL.cons (by repeat (first | exact Pick.hd | apply Pick.tl)) ?_)) ?_)
          exact RG.nil (TQ.sub (by repeat (first | exact trivial | refine ⟨rfl, ?_⟩ | refine ⟨trivial, ?_⟩)) (by repeat (first | exact KSub.nil | refine KSub.cons (by repeat (first | exact Pick.hd | apply Pick.tl)) ?_ | exact KSub.refl _ | refine KSub.drop ?_)) (hE ⟨A7, c7⟩)) (by kernel_rfl)
      refine TL.p Pu.mv ?_
      refine TL.guard (t := 45) rfl (fun hg1 => ?_) (fun hg1 => ?_)
      · refine TL.gd Pu.mv ?_
        refine TL.gd (by first | exact Pu.fb ty_fa66_0 | exact Pu.fe ty_fa66_0) ?_
        refine TL.gd (Pu.ld ty_sc3) ?_
        refine TL.gd (show Pu _ _ _ _ (.bool (decide (P k 0 ∈ usedP m T P k))) from by rw [← mark_mem]; exact Pu.l1 ty_mp151 ty_zv4) ?_
        refine TL.gd Pu.no ?_
        refine TL.p Pu.kt ?_
        refine TL.p Pu.mv ?_
        refine TL.guard (t := 52) rfl (fun hg2 => ?_) (fun hg2 => ?_)
        · refine TL.gd Pu.mv ?_
          refine TL.gd (Pu.ln Tryz.underlying23) ?_
          refine TL.gd Pu.sb ?_
          refine TL.gd (by first | exact Pu.fb ty_fa66_1 | exact Pu.fe ty_fa66_1) ?_
          refine TL.gd (Pu.ld ty_sc3) ?_
          refine TL.gm Mk.bl ?_
          intro b5
          refine TL.cr rfl (enters Tryz.func78 rfl rfl) (fun w hw => by
              exact inOne_any _ _ _ (hw.holds _ (List.mem_cons_self ..))) ?_
          refine TL.p Pu.kt ?_
          refine TL.p Pu.mv ?_
          refine TL.guard (t := 61) rfl (fun hg3 => ?_) (fun hg3 => ?_)
          · refine TL.gd (by first | exact Pu.fb ty_fa66_2 | exact Pu.fe ty_fa66_2) ?_
            refine TL.gd (Pu.ld ty_sc5) ?_
            refine TL.gd Pu.le ?_
            refine TL.p Pu.kt ?_
            exact TL.sub (by repeat (first | exact trivial | refine ⟨rfl, ?_⟩ | refine ⟨trivial, ?_⟩ | refine ⟨(by show some (Value.bool _) = some (Value.bool _); simp [hg1, hg2, hg3, okPut]), ?_⟩)) (by repeat (first | exact KSub.nil | refine KSub.cons (by repeat (first | exact Pick.hd | apply Pick.tl)) ?_ | exact KSub.refl _ | refine KSub.drop ?_)) hM1
          · refine TL.gs ?_
            refine TL.gs ?_
            refine TL.gs ?_
            refine TL.p Pu.kf ?_
            exact TL.sub (by repeat (first | exact trivial | refine ⟨rfl, ?_⟩ | refine ⟨trivial, ?_⟩ | refine ⟨(by show some (Value.bool _) = some (Value.bool _); simp [hg1, hg2, hg3, okPut]), ?_⟩)) (by repeat (first | exact KSub.nil | refine KSub.cons (by repeat (first | exact Pick.hd | apply Pick.tl)) ?_ | exact KSub.refl _ | refine KSub.drop ?_)) hM1
        · refine TL.gs ?_
          refine TL.gs ?_
          refine TL.gs ?_
          refine TL.gs ?_
          refine TL.gs ?_
          refine TL.gs ?_
          refine TL.gs ?_
          refine TL.p Pu.kf ?_
          refine TL.p Pu.mv ?_
          refine TL.gs ?_
          refine TL.gs ?_
          refine TL.gs ?_
          refine TL.p Pu.kf ?_
          exact TL.sub (by repeat (first | exact trivial | refine ⟨rfl, ?_⟩ | refine ⟨trivial, ?_⟩ | refine ⟨(by show some (Value.bool _) = some (Value.bool _); simp [hg1, hg2, okPut]), ?_⟩)) (by repeat (first | exact KSub.nil | refine KSub.cons (by repeat (first | exact Pick.hd | apply Pick.tl)) ?_ | exact KSub.refl _ | refine KSub.drop ?_)) hM1
      · refine TL.gs ?_
        refine TL.gs ?_
        refine TL.gs ?_
        refine TL.gs ?_
        refine TL.gs ?_
        refine TL.p Pu.kf ?_
        refine TL.p Pu.mv ?_
        refine TL.gs ?_
        refine TL.gs ?_
        refine TL.gs ?_
        refine TL.gs ?_
        refine TL.gs ?_
        refine TL.gs ?_
        refine TL.gs ?_
        refine TL.p Pu.kf ?_
        refine TL.p Pu.mv ?_
        refine TL.gs ?_
        refine TL.gs ?_
        refine TL.gs ?_
        refine TL.p Pu.kf ?_
        exact TL.sub (by repeat (first | exact trivial | refine ⟨rfl, ?_⟩ | refine ⟨trivial, ?_⟩ | refine ⟨(by show some (Value.bool _) = some (Value.bool _); simp [hg1, okPut]), ?_⟩)) (by repeat (first | exact KSub.nil | refine KSub.cons (by repeat (first | exact Pick.hd | apply Pick.tl)) ?_ | exact KSub.refl _ | refine KSub.drop ?_)) hM1
    · try simp only [decide_eq_true_eq, decide_eq_false_iff_not, Bool.not_eq_true', Bool.not_eq_false', Bool.and_eq_true, Bool.or_eq_true, Bool.and_eq_false_iff, Bool.or_eq_false_iff, Int.not_lt, Int.not_le] at hc2
      obtain rfl : nP = k := by omega
      refine TW.exit ?_
      refine TQ.thenX ?_
      refine TQ.thenX ?_
      refine TQ.blkX ?_
      refine TQ.thenN (hY13 _ _ ?_)
      refine TW.region ?_
      refine TL.p Pu.mv ?_
      refine TL.cr rfl (enters Tryz.func92 rfl rfl) (fun w hw => by
          have hR := OwnR.rdr (hw.holds (.own An m cn 36 3 (tieX X (putT T P nP) D)) (by simp))
          refine everyTied_any (fs := []) (cs := []) (v := fun i j => .slice (X (3 * i + j)) (putT T P nP (3 * i + j)).length (D (3 * i + j))) (p := fun i => decide (cnt3 (putT T P nP) i ≤ 10)) (enters Tryz.func93 rfl rfl) (by omega) hR fun i hi w' hb => ?_
          have m0 := ownsT_mem (X := X) (T := putT T P nP) (D := D) (n := 3 * m) (show 3 * i < 3 * m by omega)
          have m1 := ownsT_mem (X := X) (T := putT T P nP) (D := D) (n := 3 * m) (show 3 * i + 1 < 3 * m by omega)
          have m2 := ownsT_mem (X := X) (T := putT T P nP) (D := D) (n := 3 * m) (show 3 * i + 2 < 3 * m by omega)
          have l0 := hTk nP (3 * i) (by omega)
          have l1 := hTk nP (3 * i + 1) (by omega)
          have l2 := hTk nP (3 * i + 2) (by omega)
          exact put1_any (L0 := putT T P nP (3 * i)) (L1 := putT T P nP (3 * i + 1)) (L2 := putT T P nP (3 * i + 2)) rfl rfl rfl (by show (putT T P nP (3 * i)).length + (putT T P nP (3 * i + 1)).length + (putT T P nP (3 * i + 2)).length ≤ 1000000; omega) ((OwnR.rdr (hw.holds (.own (X (3 * i)) (putT T P nP (3 * i)).length (D (3 * i)) 3 1 (iL (putT T P nP (3 * i)))) (by simp [m0]))).chg (Chg.of_ext hb) Apart.nil) ((OwnR.rdr (hw.holds (.own (X (3 * i + 1)) (putT T P nP (3 * i + 1)).length (D (3 * i + 1)) 3 1 (iL (putT T P nP (3 * i + 1)))) (by simp [m1]))).chg (Chg.of_ext hb) Apart.nil) ((OwnR.rdr (hw.holds (.own (X (3 * i + 2)) (putT T P nP (3 * i + 2)).length (D (3 * i + 2)) 3 1 (iL (putT T P nP (3 * i + 2)))) (by simp [m2]))).chg (Chg.of_ext hb) Apart.nil)) ?_
      refine TL.ct rfl (enters Tryz.func76 rfl rfl) (fun w hw => by
          exact need_any _ _ _ (by decide)) (fun hp2 => ?_) (fun hp2 => ?_)
      rotate_left
      · refine TQ.pan rfl ?_
        exact fun w hw => .inr ⟨by first | (rw [hC1 k hkn (need_no hp1).1]; decide) | (rw [hC2 (need_no hp2).1]; decide), by first | (rw [hC1 k hkn (need_no hp1).1, (need_no hp1).2]) | (rw [hC2 (need_no hp2).1, (need_no hp2).2]), hw.sub KSub.nil⟩
      refine TL.nil ?_
      refine TQ.end Tryz.results50 rfl (.nil) ?_
      exact fun w hw => .inl ⟨by
        unfold putC
        rw [allB_iff.2 hall, need_yes (by decide) hp2]
        rfl, (X, D), rfl, hw.sub (KSub.drop (KSub.refl _))⟩
end Go.Proofs.YtjephihlkjpohaaGreatDoor
namespace Go.Proofs.YtjephihlkjpohaaGreatDoor
set_option linter.all false
set_option linter.unusedVariables false
set_option linter.unusedSimpArgs false
open Go.RowKit
theorem pick_of_mem {φ : Fact} : ∀ {K : List Fact}, φ ∈ K → ∃ K1, Pick K φ K1
  | ψ :: K, h => by
    rcases List.mem_cons.1 h with rfl | h
    · exact ⟨K, .hd⟩
    · obtain ⟨K1, hp⟩ := pick_of_mem h
      exact ⟨ψ :: K1, .tl hp⟩
theorem pick_weak {φ : Fact} {K K1 K' R : List Fact} (hp : Pick K φ K1) (h : K'.Perm (R ++ K)) : ∃ K1', Pick K' φ K1' ∧ K1'.Perm (R ++ K1) := by
  obtain ⟨K1', hp'⟩ := pick_of_mem (h.mem_iff.2 (List.mem_append_right R hp.mem))
  refine ⟨K1', hp', ?_⟩
  have h1 : (φ :: K1').Perm (φ :: (R ++ K1)) := hp'.perm.symm.trans (h.trans ((hp.perm.append_left R).trans List.perm_middle))
  exact (List.perm_cons φ).1 h1
theorem KSub.weaken {K L : List Fact} (h : KSub K L) : ∀ {K' R : List Fact}, K'.Perm (R ++ K) → KSub K' L := by
  induction h with
  | nil => exact fun _ => .nil
  | nilOwn _ ih => exact fun h => .nilOwn (ih h)
  | cons hp _ ih =>
    intro K' R h
    obtain ⟨K1', hp', h1⟩ := pick_weak hp h
    exact .cons hp' (ih h1)
  | own hp he _ ih =>
    intro K' R h
    obtain ⟨K1', hp', h1⟩ := pick_weak hp h
    exact .own hp' he (ih h1)
  | ofBlk hp a b c d _ ih =>
    intro K' R h
    obtain ⟨K1', hp', h1⟩ := pick_weak hp h
    exact .ofBlk hp' a b c d (ih h1)
theorem ownsT_set {X : Nat → Option Addr} {T : Nat → List Int} {D : Nat → Nat} {s n k2 c2 : Nat} {A : Option Addr} {L : List Int} {r : Nat → List Value} (hs : s < n) (hk : k2 = L.length) (hr : ∀ i, i < k2 → r i = iL L i) : KSub (.own A k2 c2 3 1 r :: ownsT X T D n) (ownsT (updN X s A) (updN T s L) (updN D s c2) n) :=
  KSub.weaken (R := [.own (X s) (T s).length (D s) 3 1 (iL (T s))]) (ownsT_put (X := X) (T := T) (D := D) hk hr hs) (((ownsT_perm hs).cons _).trans (List.Perm.swap _ _ _))
theorem feet_new2 {S : List Nat} {w0 w : World} {K M R : List Fact} (hs : Sat S w0 K w) (hp : K.Perm (M ++ R)) (hS : ∀ b ∈ S, b ∈ feet R) : Sat (feet M) w M w ∧ ∀ b ∈ feet M, w0.heap.size ≤ b := by
  have h1 := hs.perm hp
  refine ⟨(Has.sat ⟨R, List.Perm.refl _⟩ h1).self, fun b hb => ?_⟩
  rcases h1.ge b (by rw [feet_append]; simp [hb]) with h2 | h2
  · have hnd := h1.nd
    rw [feet_append] at hnd
    exact absurd rfl ((List.nodup_append.1 hnd).2.2 b hb b (hS b h2))
  · exact h2
section
variable (r0 r1 : Nat → Int) (b : Int) (T : Nat → List Int)
def trB (i : Nat) : List Int × Nat := bestE r0 r1 b (T (3 * i)) (T (3 * i + 1))
def trD (i : Nat) : Int := bestC r0 r1 b (T (3 * i)) (T (3 * i + 1))
def tr3 : Nat → Nat → List Int
  | 0 => T
  | i + 1 => updN (updN (tr3 i) (3 * i) (mvd (T (3 * i)) (T (3 * i + 1)) (trB r0 r1 b T i).1)) (3 * i + 1) (mvd (T (3 * i + 1)) (T (3 * i)) (trB r0 r1 b T i).1)
def movs : Nat → List Int
  | 0 => []
  | i + 1 => movs i ++ (trB r0 r1 b T i).1
variable {r0 r1 b T}
theorem tr3_at : ∀ {i s : Nat}, 3 * i ≤ s → tr3 r0 r1 b T i s = T s
  | 0, _, _ => rfl
  | i + 1, s, h => by
    simp only [tr3, updN]
    rw [if_neg (by omega), if_neg (by omega)]
    exact tr3_at (by omega)
theorem bestE_len {L0 L1 : List Int} : (bestE r0 r1 b L0 L1).1.length ≤ L0.length + L1.length := by
  have := (setRun_le (L := sidesL L0 L1) (ok := mvOk r0 r1 b L0 L1) (2 ^ (L0.length + L1.length))).2
  rw [sides_len] at this
  exact this
theorem movs_len {m : Nat} (hT : ∀ i, i < m → cnt3 T i ≤ 10) : ∀ i, i ≤ m → (movs r0 r1 b T i).length ≤ 10 * i
  | 0, _ => by simp [movs]
  | i + 1, h => by
    have h1 := movs_len hT i (by omega)
    have h2 := hT i (by omega)
    have h3 := bestE_len (r0 := r0) (r1 := r1) (b := b) (L0 := T (3 * i)) (L1 := T (3 * i + 1))
    simp only [movs, List.length_append, trB, cnt3] at *
    omega
end
theorem InxL.filter {L : List Int} {p : Int → Bool} {n : Nat} (h : InxL L n) : InxL (L.filter p) n := fun x hx => h x (List.mem_filter.1 hx).1
theorem putT_inx {n m : Nat} {T : Nat → List Int} {P : Nat → Nat → Int} {nP : Nat} (hT : ∀ s, s < 3 * m → InxL (T s) n) (hok : ∀ k, k < nP → okPut n m T P k = true) : ∀ k, k ≤ nP → ∀ s, s < 3 * m → InxL (putT T P k s) n
  | 0, _, s, hs => hT s hs
  | k + 1, hk, s, hs => by
    have ih := putT_inx hT hok k (by omega)
    have h1 := hok k (by omega)
    unfold okPut at h1
    simp only [inB5, Bool.and_eq_true, decide_eq_true_eq] at h1
    obtain ⟨⟨⟨⟨g1, g2⟩, _⟩, _⟩, _⟩ := h1
    simp only [putT, updN]
    split
    · rename_i e
      intro x hx
      rw [mem_srt, List.mem_append] at hx
      rcases hx with hx | hx
      · rw [← e] at hx; exact ih s hs x hx
      · obtain rfl := List.mem_singleton.1 hx
        omega
    · exact ih s hs
theorem putC_ok {n m : Nat} {T : Nat → List Int} {P : Nat → Nat → Int} {nP : Nat} (h : putC n m T P nP = 0) : (∀ k, k < nP → okPut n m T P k = true) ∧ ∀ i, i < m → cnt3 (putT T P nP) i ≤ 10 := by
  unfold putC at h
  split at h
  · rename_i h1
    rw [Bool.and_eq_true] at h1
    exact ⟨allB_iff.1 h1.1, fun i hi => of_decide_eq_true (allB_iff.1 h1.2 i hi)⟩
  · cases h
section
variable (np : Nat) (pk : Nat → Nat → Int) (m : Nat) (l : Nat → Nat → Nat) (v : Nat → Nat → Nat → Int) (F : List Int) (P : Nat → Nat → Int) (nP : Nat) (b : Int)
def askT : Int := if checkV np pk m l v = 0 then (if inB5 0 1000000000 b then 0 else 2) else checkV np pk m l v
def tr2 : Nat → List Int := putT (takeT F (T0 l v)) P nP
def tradeC : Int :=
  if askT np pk m l v b = 0 then
    if takeC np F (T0 l v) m = 0 then
      if putC np m (takeT F (T0 l v)) P nP = 0 then
        if (allB m fun i => decide (trD (fun q => rl (pk q)) (fun q => rh (pk q)) b (tr2 l v F P nP) i = 0)) = true then 0 else 52
      else putC np m (takeT F (T0 l v)) P nP
    else takeC np F (T0 l v) m
  else askT np pk m l v b
def tradeN : Nat := if tradeC np pk m l v F P nP b = 0 then m else 0
def tradeT : Nat → List Int := tr3 (fun q => rl (pk q)) (fun q => rh (pk q)) b (tr2 l v F P nP) m
def tradeM : List Int := if tradeC np pk m l v F P nP b = 0 then srt (movs (fun q => rl (pk q)) (fun q => rh (pk q)) b (tr2 l v F P nP) m) else []
end
theorem bestC_or (r0 r1 : Nat → Int) (b : Int) (L0 L1 : List Int) : bestC r0 r1 b L0 L1 = 0 ∨ bestC r0 r1 b L0 L1 = 52 := by
  unfold bestC
  split
  · exact .inl rfl
  · exact .inr rfl
abbrev TRx := TKx × (Option Addr × Nat)
def tradeF (x y n : Nat) (T : Nat → List Int) (M : List Int) (z : TRx) : List Fact := .blk y 24 [.slice z.2.1 M.length z.2.2] :: .blk x 23 [.slice z.1.1.1 n z.1.1.2] :: .own z.2.1 M.length z.2.2 3 1 (iL M) :: tiesX n T z.1
end Go.Proofs.YtjephihlkjpohaaGreatDoor
namespace Go.Proofs.YtjephihlkjpohaaGreatDoor
set_option linter.all false
set_option linter.unusedVariables false
set_option linter.unusedSimpArgs false
open Go.RowKit
theorem trade_no {M K : List Fact} {x y : Nat} {np m nP : Nat} {pk : Nat → Nat → Int} {l : Nat → Nat → Nat} {v : Nat → Nat → Nat → Int} {F : List Int} {P : Nat → Nat → Int} {b : Int} {w w' : World} {code : Int} (hc : code ≠ 0) (e : tradeC np pk m l v F P nP b = code) (hs : Sat (feet M) w K w') (hK : KSub K [.blk y 24 [.slice none 0 0], .blk x 23 [.slice none 0 0]]) :
    ∃ z : TRx, Sat (feet M) w (tradeF x y (tradeN np pk m l v F P nP b) (tradeT pk m l v F P nP b) (tradeM np pk m l v F P nP b) z) w' ∧ Ending.panicked (errs code) = if tradeC np pk m l v F P nP b = 0 then .returned (.tuple #[]) else .panicked (errs (tradeC np pk m l v F P nP b)) := by
  subst e
  refine ⟨(((none, 0), fun _ => none, fun _ => 0), (none, 0)), ?_, by rw [if_neg hc]⟩
  unfold tradeF tradeN tradeM
  rw [if_neg hc, if_neg hc]
  exact (hs.sub hK).sub (KSub.cons Pick.hd (KSub.cons Pick.hd (KSub.nilOwn (KSub.nilOwn KSub.nil))))
theorem tie_set2 {X : Nat → Option Addr} {T : Nat → List Int} {D : Nat → Nat} {i : Nat} {A1 A2 : Option Addr} {c1 c2 : Nat} {L1 L2 : List Int} (j : Nat) : updR (tieX X T D) i [.slice A1 L1.length c1, .slice A2 L2.length c2, .slice (X (3 * i + 2)) (T (3 * i + 2)).length (D (3 * i + 2))] j = tieX (updN (updN X (3 * i) A1) (3 * i + 1) A2) (updN (updN T (3 * i) L1) (3 * i + 1) L2) (updN (updN D (3 * i) c1) (3 * i + 1) c2) j := by
  unfold updR
  by_cases hj : j = i
  · subst hj
    rw [if_pos rfl]
    simp [tieX, updN]
  · rw [if_neg hj]
    unfold tieX updN
    repeat rw [if_neg (by omega)]
section
variable {np m nP : Nat} {pk : Nat → Nat → Int} {l : Nat → Nat → Nat} {v : Nat → Nat → Nat → Int} {F : List Int} {P : Nat → Nat → Int} {b : Int}
theorem T0_bd {n : Nat} (h : ∀ i, i < m → (∀ j, j < 3 → allB (l i j) (riseP (v i j) n) = true) ∧ tot (l i) 3 ≤ 10) : ∀ s, s < 3 * m → InxL (T0 l v s) n ∧ (T0 l v s).length ≤ 10 := fun s hs => by
  obtain ⟨h1, h2⟩ := h (s / 3) (by omega)
  rw [tot3] at h2
  refine ⟨inxL_toI (rise_inx (h1 (s % 3) (by omega))), ?_⟩
  unfold T0
  rw [toI_len]
  have : s % 3 = 0 ∨ s % 3 = 1 ∨ s % 3 = 2 := by omega
  rcases this with h | h | h <;> rw [h] <;> omega
end
set_option maxRecDepth 100000 in
set_option maxHeartbeats 8000000 in
theorem trade1_any {W0 w : World} {A AT Af AP : Option Addr} {np cp m cT nf cf nP cP bp bt bb bo bn x y : Nat} {pk : Nat → Nat → Int} {a : Nat → Nat → Option Addr} {l c : Nat → Nat → Nat} {v : Nat → Nat → Nat → Int} {F : List Int} {P : Nat → Nat → Int} {b : Int}
    (hL : Lay W0 A AT np m pk a l c v) (hF : RdR W0 1 Af nf (iL F)) (hnf : nf = F.length) (hf : nf ≤ 1000) (hPR : RdR W0 3 AP nP (fun k => putL (P k))) (hnP : nP ≤ 1000) (hP2 : ∀ k, k < nP → 0 ≤ P k 2)
    (hb : Below W0.heap.size W0 w) (hS : ∀ b ∈ [y, x], W0.heap.size ≤ b)
    (h1 : OldB w bp [.slice A np cp]) (h2 : OldB w bt [.slice AT m cT]) (h3 : OldB w bb [.int .i64 b]) (h4 : OldB w bo [.slice Af nf cf]) (h5 : OldB w bn [.slice AP nP cP]) (n1 : bp ∉ [y, x]) (n2 : bt ∉ [y, x]) (n3 : bb ∉ [y, x]) (n4 : bo ∉ [y, x]) (n5 : bn ∉ [y, x])
    (hM : Sat [y, x] w [.blk y 24 [.slice none 0 0], .blk x 23 [.slice none 0 0]] w) :
    Doing Tryz.prog 46 #[.pointer (some ⟨bp, 0, none⟩), .pointer (some ⟨bt, 0, none⟩), .pointer (some ⟨bb, 0, none⟩), .pointer (some ⟨bo, 0, none⟩), .pointer (some ⟨bn, 0, none⟩), .pointer (some ⟨x, 0, none⟩), .pointer (some ⟨y, 0, none⟩)] [.blk y 24 [.slice none 0 0], .blk x 23 [.slice none 0 0]] TRx
      (tradeF x y (tradeN np pk m l v F P nP b) (tradeT pk m l v F P nP b) (tradeM np pk m l v F P nP b)) (tradeC np pk m l v F P nP b) w := by
  have hnp := hL.hnp
  have hm := hL.hm
  have ap1 := apart_of n1
  have ap2 := apart_of n2
  have ap3 := apart_of n3
  have ap4 := apart_of n4
  have ap5 := apart_of n5
  refine K_enter (args := [.pointer (some ⟨bp, 0, none⟩), .pointer (some ⟨bt, 0, none⟩), .pointer (some ⟨bb, 0, none⟩), .pointer (some ⟨bo, 0, none⟩), .pointer (some ⟨bn, 0, none⟩), .pointer (some ⟨x, 0, none⟩), .pointer (some ⟨y, 0, none⟩)]) (S := [y, x]) (K := [.blk y 24 [.slice none 0 0], .blk x 23 [.slice none 0 0]]) Tryz.func46 rfl Tryz.ntmps46 rfl hM ?_
  refine TW.seq fun Y1 hY1 => ?_
  refine TW.region ?_
  refine TL.p (by first | exact (Pu.ld ty_sc22) | exact (Pu.ldo ty_sc22)) ?_
  refine TL.p (by first | exact (Pu.ld ty_sc23) | exact (Pu.ldo ty_sc23)) ?_
  refine TL.ct rfl (enters Tryz.func47 rfl rfl) (fun w hw => by
      exact (hL.ext (old_below hb hw hS)).check) (fun hp1 => ?_) (fun hp1 => ?_)
  rotate_left
  · have hp1' : checkV np pk m l v ≠ 0 := hp1
    have hcode : tradeC np pk m l v F P nP b = checkV np pk m l v := by unfold tradeC askT; rw [if_neg hp1', if_neg hp1']
    refine TQ.thenP ?_
    refine TQ.pan rfl ?_
    exact fun w hw => trade_no (by first | exact hp5 | exact hp4 | exact hp3 | exact hp2 | exact hp1) hcode hw (by repeat (first | exact KSub.nil | refine KSub.cons (by repeat (first | exact Pick.hd | apply Pick.tl)) ?_))
  refine TL.nil ?_
  refine TQ.thenN (hY1 _ _ ?_)
  refine TW.seq fun Y2 hY2 => ?_
  refine TW.region ?_
  refine TL.p (by first | exact (Pu.ld ty_sc3) | exact (Pu.ldo ty_sc3)) ?_
  refine TL.ct rfl (enters Tryz.func48 rfl rfl) (fun w hw => by
      exact bounded_any _ _) (fun hp2 => ?_) (fun hp2 => ?_)
  rotate_left
  · have hp1' : checkV np pk m l v = 0 := hp1
    have hcode : tradeC np pk m l v F P nP b = (if inB5 0 1000000000 b then 0 else 2) := by unfold tradeC askT; rw [if_pos hp1', if_neg hp2]
    refine TQ.thenP ?_
    refine TQ.pan rfl ?_
    exact fun w hw => trade_no (by first | exact hp5 | exact hp4 | exact hp3 | exact hp2 | exact hp1) hcode hw (by repeat (first | exact KSub.nil | refine KSub.cons (by repeat (first | exact Pick.hd | apply Pick.tl)) ?_))
  refine TL.nil ?_
  refine TQ.thenN (hY2 _ _ ?_)
  refine TW.seq fun Y3 hY3 => ?_
  refine TW.region ?_
  refine TL.p (by first | exact (Pu.ld ty_sc23) | exact (Pu.ldo ty_sc23)) ?_
  refine TL.p (by first | exact (Pu.ld ty_sc24) | exact (Pu.ldo ty_sc24)) ?_
  refine TL.p (by first | exact (Pu.ld ty_sc22) | exact (Pu.ldo ty_sc22)) ?_
  refine TL.p (Pu.ln Tryz.underlying22) ?_
  refine TL.ctk rfl (enters Tryz.func49 rfl rfl) (M := []) (List.Perm.refl _) (fun w hw => by
      have hLw := hL.ext (old_below hb hw hS)
      exact take_any hm hnf hf hnp hLw.hL hLw.hT hLw.hI (hF.chg (Chg.of_ext (old_below hb hw hS)) Apart.nil)) ?_ (fun hp3 => ?_)
  rotate_left
  · have hask : askT np pk m l v b = 0 := by unfold askT; rw [if_pos (show checkV np pk m l v = 0 from hp1)]; exact hp2
    have hcode : tradeC np pk m l v F P nP b = takeC np F (T0 l v) m := by unfold tradeC; rw [if_pos hask, if_neg hp3]
    refine TQ.thenP ?_
    refine TQ.pan rfl ?_
    exact fun w hw => trade_no (by first | exact hp5 | exact hp4 | exact hp3 | exact hp2 | exact hp1) hcode hw (by repeat (first | exact KSub.nil | refine KSub.cons (by repeat (first | exact Pick.hd | apply Pick.tl)) ?_))
  rintro ⟨⟨An, cn⟩, X, D⟩ hp3
  refine TL.perm List.perm_append_comm ?_
  refine TL.p Pu.as ?_
  refine TL.nil ?_
  refine TQ.thenN (hY3 _ _ ?_)
  refine TW.seq fun Y4 hY4 => ?_
  refine TW.region ?_
  refine TL.p Pu.mv ?_
  refine TL.p (by first | exact (Pu.ld ty_sc25) | exact (Pu.ldo ty_sc25)) ?_
  refine TL.p (by first | exact (Pu.ld ty_sc22) | exact (Pu.ldo ty_sc22)) ?_
  refine TL.p (Pu.ln Tryz.underlying22) ?_
  refine TL.ctk rfl (enters Tryz.func50 rfl rfl) (M := tiesX m (takeT F (T0 l v)) ((An, cn), X, D)) List.perm_append_comm (fun w hw => by
      obtain ⟨hself, hge⟩ := feet_new2 (M := tiesX m (takeT F (T0 l v)) ((An, cn), X, D)) (R := [.blk y 24 [.slice none 0 0], .blk x 23 [.slice none 0 0]]) hw List.perm_append_comm (by intro b hb9; simpa [feet, Fact.foot] using hb9)
      have hPw := hPR.chg (Chg.of_ext (old_below hb hw hS)) Apart.nil
      have hbd := T0_bd (l := l) (v := v) (check_ok hp1).2.2
      have hS9 : ∀ b9 ∈ feet (tiesX m (takeT F (T0 l v)) ((An, cn), X, D)), W0.heap.size ≤ b9 := fun b9 h9 => Nat.le_trans hb.size (hge b9 h9)
      exact put_any hm hnP hnp (fun s hs => Nat.le_trans takeT_len (by have := (hbd s hs).2; omega)) hP2 hPw (hPR.apart hS9) hself) ?_ (fun hp4 => ?_)
  rotate_left
  · have hask : askT np pk m l v b = 0 := by unfold askT; rw [if_pos (show checkV np pk m l v = 0 from hp1)]; exact hp2
    have hcode : tradeC np pk m l v F P nP b = putC np m (takeT F (T0 l v)) P nP := by unfold tradeC; rw [if_pos hask, if_pos hp3, if_neg hp4]
    refine TQ.thenP ?_
    refine TQ.pan rfl ?_
    exact fun w hw => trade_no (by first | exact hp5 | exact hp4 | exact hp3 | exact hp2 | exact hp1) hcode hw (by repeat (first | exact KSub.nil | refine KSub.cons (by repeat (first | exact Pick.hd | apply Pick.tl)) ?_))
  rintro ⟨X2, D2⟩ hp4
  refine TL.perm List.perm_append_comm ?_
  refine TL.nil ?_
  refine TQ.thenN (hY4 _ _ ?_)
  refine TW.seq fun Y5 hY5 => ?_
  refine TW.region ?_
  refine TL.p (by first | exact (Pu.ld ty_sc22) | exact (Pu.ldo ty_sc22)) ?_
  refine TL.call (M := []) rfl (enters Tryz.func51 rfl rfl) (List.Perm.refl _) rfl (fun w hw => by
      have hLw := hL.ext (old_below hb hw hS)
      exact rests_any hLw.hG hnp (check_ok hp1).2.1 hLw.hR) ?_
  rintro ⟨Ar, cr⟩
  generalize hT2 : putT (takeT F (T0 l v)) P nP = T2
  simp only [tiesX, List.cons_append, List.nil_append]
  refine TL.p Pu.as ?_
  refine TL.nil ?_
  refine TQ.thenN (hY5 _ _ ?_)
  refine TW.seq fun Y6 hY6 => ?_
  refine TW.region ?_
  refine TL.p Pu.as ?_
  refine TL.nil ?_
  refine TQ.thenN (hY6 _ _ ?_)
  refine TW.seq fun Y7 hY7 => ?_
  refine TW.seq fun Y8 hY8 => ?_
  refine TW.region ?_
  refine TL.p Pu.mv ?_
  refine TL.p (Pu.ln Tryz.underlying23) ?_
  refine TL.p Pu.mv ?_
  refine TL.nil ?_
  refine TQ.thenN (hY8 _ _ ?_)
  refine TW.block ?_
  obtain ⟨hok, hcnt⟩ := putC_ok hp4
  rw [hT2] at hcnt
  have hbd := T0_bd (l := l) (v := v) (check_ok hp1).2.2
  have hinx : ∀ s, s < 3 * m → InxL (T2 s) np := fun s hs => by
    rw [← hT2]
    exact putT_inx (fun s hs => (hbd s hs).1.filter) hok nP (Nat.le_refl _) s hs
  have hbb := need_yes (by decide) hp2
  simp only [inB5, Bool.and_eq_true, decide_eq_true_eq] at hbb
  have hRo := RestOk.of_packs (check_ok hp1).2.1
  have hask : askT np pk m l v b = 0 := by unfold askT; rw [if_pos (show checkV np pk m l v = 0 from hp1)]; exact hp2
  have hcodeD : tradeC np pk m l v F P nP b = if (allB m fun i => decide (trD (fun q => rl (pk q)) (fun q => rh (pk q)) b T2 i = 0)) = true then 0 else 52 := by
    unfold tradeC
    rw [if_pos hask, if_pos hp3, if_pos hp4, show tr2 l v F P nP = T2 from hT2]
  obtain ⟨r0, hr0⟩ : ∃ r : Nat → Int, r = fun q => rl (pk q) := ⟨_, rfl⟩
  obtain ⟨r1, hr1⟩ : ∃ r : Nat → Int, r = fun q => rh (pk q) := ⟨_, rfl⟩
  have hRr : (fun q => spL (rl (pk q)) (rh (pk q))) = fun q => spL (r0 q) (r1 q) := by rw [hr0, hr1]
  rw [← hr0, ← hr1] at hRo hcodeD
  have hTT : tradeT pk m l v F P nP b = tr3 r0 r1 b T2 m := by unfold tradeT; rw [show tr2 l v F P nP = T2 from hT2, ← hr0, ← hr1]
  have hMM : tradeC np pk m l v F P nP b = 0 → tradeM np pk m l v F P nP b = srt (movs r0 r1 b T2 m) := fun h => by unfold tradeM; rw [if_pos h, show tr2 l v F P nP = T2 from hT2, ← hr0, ← hr1]
  clear hr0 hr1
  have hml := movs_len (r0 := r0) (r1 := r1) (b := b) hcnt
  refine TW.loop6 (fun (i : Nat) (X : Nat → Option Addr) (D : Nat → Nat) (Am : Option Addr) (cm : Nat) (g : Nat) => [(33, .int .i64 (i : Int)), (32, .int .i64 (m : Int)), (31, .slice An m cn), (7, .slice An m cn), (8, .slice Ar np cr), (9, .slice Am g cm), (2, .pointer (some ⟨bb, 0, none⟩)), (5, .pointer (some ⟨x, 0, none⟩)), (6, .pointer (some ⟨y, 0, none⟩))]) (fun i X D Am cm g => .own Am g cm 3 1 (iL (movs r0 r1 b T2 i)) :: .own An m cn 36 3 (tieX X (tr3 r0 r1 b T2 i) D) :: .own Ar np cr 43 2 (fun q => spL (r0 q) (r1 q)) :: .blk y 24 [.slice none 0 0] :: .blk x 23 [.slice none 0 0] :: ownsT X (tr3 r0 r1 b T2 i) D (3 * m)) (fun i X D Am cm g => i ≤ m ∧ g = (movs r0 r1 b T2 i).length ∧ ∀ j, j < i → trD r0 r1 b T2 j = 0) (fun i X D Am cm g => m - i) 0 X2 D2 none 0 0 (by repeat (first | exact trivial | refine ⟨rfl, ?_⟩ | refine ⟨trivial, ?_⟩)) ?_ ?_ ?_
  · rw [hRr]
    refine KSub.nilOwn ?_
    repeat (first | refine KSub.cons (by repeat (first | exact Pick.hd | apply Pick.tl)) ?_ | exact KSub.refl _ | refine KSub.drop ?_)
  · exact ⟨Nat.zero_le _, rfl, fun j hj => by omega⟩
  rintro i X D Am cm g ⟨hi, hg, hall⟩ Z0 hZ0
  clear hRr
  have hmi := hml i hi
  refine TW.seq fun Y9 hY9 => ?_
  refine TW.region ?_
  refine TL.p Pu.lt ?_
  refine TL.nil ?_
  refine TQ.thenN (hY9 _ _ ?_)
  refine TW.seq fun Y10 hY10 => ?_
  refine TW.cond rfl (fun hc0 => ?_) (fun hc0 => ?_)
  · try simp only [decide_eq_true_eq, decide_eq_false_iff_not, Bool.not_eq_true', Bool.not_eq_false', Bool.and_eq_true, Bool.or_eq_true, Bool.and_eq_false_iff, Bool.or_eq_false_iff, Int.not_lt, Int.not_le] at hc0
    have him : i < m := by omega
    have hci := hcnt i him
    have m0 := ownsT_mem (X := X) (T := tr3 r0 r1 b T2 i) (D := D) (n := 3 * m) (show 3 * i < 3 * m by omega)
    have m1 := ownsT_mem (X := X) (T := tr3 r0 r1 b T2 i) (D := D) (n := 3 * m) (show 3 * i + 1 < 3 * m by omega)
    have i0 := hinx (3 * i) (by omega)
    have i1 := hinx (3 * i + 1) (by omega)
    have hcc : (T2 (3 * i)).length + (T2 (3 * i + 1)).length ≤ 10 := by unfold cnt3 at hci; omega
    have hbl := bestE_len (r0 := r0) (r1 := r1) (b := b) (L0 := T2 (3 * i)) (L1 := T2 (3 * i + 1))
    have hml2 := hml (i + 1) (by omega)
    have hmm : (movs r0 r1 b T2 (i + 1)).length = (movs r0 r1 b T2 i).length + (bestE r0 r1 b (T2 (3 * i)) (T2 (3 * i + 1))).1.length := by simp only [movs, List.length_append, trB]
    refine TW.skip ?_
    refine TQ.thenN (hY10 _ _ ?_)
    refine TW.seq fun Y11 hY11 => ?_
    refine TW.block ?_
    refine TW.seq fun Y12 hY12 => ?_
    refine TW.region ?_
    refine TL.p Pu.mv ?_
    refine TL.p (Pu.el ty_et23) ?_
    refine TL.p (by first | exact (Pu.lds ty_ag36) | exact (Pu.ldso ty_ag36)) ?_
    refine TL.m (Mk.al ty_zr36) ?_
    intro b1
    refine TL.p Pu.as ?_
    first | refine TL.st ty_sz36 ?_ | refine TL.se ty_sz36 ?_
    refine TL.nil ?_
    refine TQ.thenN (hY12 _ _ ?_)
    refine TW.seq fun Y13 hY13 => ?_
    refine TW.region ?_
    refine TL.p (by first | exact (Pu.lds ty_ag36) | exact (Pu.ldso ty_ag36)) ?_
    refine TL.p Pu.mv ?_
    refine TL.p Pu.bd ?_
    refine TL.m (Mk.al ty_zr112) ?_
    intro b2
    first | refine TL.st ty_sz112 ?_ | refine TL.se ty_sz112 ?_
    refine TL.nil ?_
    refine TQ.thenN (hY13 _ _ ?_)
    refine TW.seq fun Y14 hY14 => ?_
    refine TW.region ?_
    refine TL.p (by first | exact (Pu.lds ty_ag112) | exact (Pu.ldso ty_ag112)) ?_
    refine TL.p (by first | exact (Pu.ld ty_sc3) | exact (Pu.ldo ty_sc3)) ?_
    refine TL.ctk rfl (enters Tryz.func52 rfl rfl) (M := []) (List.Perm.refl _) (fun w hw => by
        have e0 : tr3 r0 r1 b T2 i (3 * i) = T2 (3 * i) := tr3_at (by omega)
        have e1 : tr3 r0 r1 b T2 i (3 * i + 1) = T2 (3 * i + 1) := tr3_at (by omega)
        have q0 := OwnR.rdr (hw.holds (.own (X (3 * i)) (tr3 r0 r1 b T2 i (3 * i)).length (D (3 * i)) 3 1 (iL (tr3 r0 r1 b T2 i (3 * i)))) (by simp [m0]))
        have q1 := OwnR.rdr (hw.holds (.own (X (3 * i + 1)) (tr3 r0 r1 b T2 i (3 * i + 1)).length (D (3 * i + 1)) 3 1 (iL (tr3 r0 r1 b T2 i (3 * i + 1)))) (by simp [m1]))
        rw [show iL (tr3 r0 r1 b T2 i (3 * i)) = iL (T2 (3 * i)) by rw [e0]] at q0
        rw [show iL (tr3 r0 r1 b T2 i (3 * i + 1)) = iL (T2 (3 * i + 1)) by rw [e1]] at q1
        exact settle_any (a := fun j => X (3 * i + j)) (l := fun j => (tr3 r0 r1 b T2 i (3 * i + j)).length) (c := fun j => D (3 * i + j)) (Ar := Ar) (cr := cr) (L0 := T2 (3 * i)) (L1 := T2 (3 * i + 1)) (by show (tr3 r0 r1 b T2 i (3 * i)).length = _; rw [e0]) (by show (tr3 r0 r1 b T2 i (3 * i + 1)).length = _; rw [e1]) (by show (tr3 r0 r1 b T2 i (3 * i)).length + (tr3 r0 r1 b T2 i (3 * i + 1)).length ≤ 30; rw [e0, e1]; omega) hRo (by omega) i0 i1 (OwnR.rdr (hw.holds (.own Ar np cr 43 2 (fun q => spL (r0 q) (r1 q))) (by simp))) q0 q1) ?_ (fun hp5 => ?_)
    rotate_left
    · have hcode : tradeC np pk m l v F P nP b = bestC r0 r1 b (T2 (3 * i)) (T2 (3 * i + 1)) := by
        rw [hcodeD]
        have h52 := (bestC_or r0 r1 b (T2 (3 * i)) (T2 (3 * i + 1))).resolve_left hp5
        have : (allB m fun i => decide (trD r0 r1 b T2 i = 0)) = false := by
          cases h : (allB m fun i => decide (trD r0 r1 b T2 i = 0)) with
          | false => rfl
          | true => exact absurd (of_decide_eq_true (allB_iff.1 h i him)) hp5
        rw [this, h52]
        rfl
      refine TQ.thenP ?_
      refine TQ.blkP ?_
      refine TQ.thenP ?_
      refine TQ.thenP ?_
      refine TQ.blkP ?_
      refine TQ.thenP ?_
      refine TQ.pan rfl ?_
      exact fun w hw => trade_no (by first | exact hp5 | exact hp4 | exact hp3 | exact hp2 | exact hp1) hcode hw (by repeat (first | exact KSub.nil | refine KSub.cons (by repeat (first | exact Pick.hd | apply Pick.tl)) ?_))
    rintro ⟨As, cs⟩ hp5
    refine TL.p Pu.as ?_
    refine TL.nil ?_
    refine TQ.thenN (hY14 _ _ ?_)
    refine TW.seq fun Y15 hY15 => ?_
    refine TW.region ?_
    refine TL.p Pu.mv ?_
    refine TL.p Pu.mv ?_
    first | refine TL.a0 ty_et24 ?_ | refine TL.ap ty_et24 ?_
    intro A3 c3
    refine TL.p Pu.as ?_
    refine TL.nil ?_
    refine TQ.thenN (hY15 _ _ ?_)
    refine TW.region ?_
    refine TL.p Pu.mv ?_
    refine TL.p Pu.mv ?_
    refine TL.p (by first | exact (Pu.lds ty_ag112) | exact (Pu.ldso ty_ag112)) ?_
    refine TL.p Pu.mv ?_
    refine TL.call (M := []) rfl (enters Tryz.func53 rfl rfl) (List.Perm.refl _) rfl (fun w hw => by
        have e0 : tr3 r0 r1 b T2 i (3 * i) = T2 (3 * i) := tr3_at (by omega)
        have e1 : tr3 r0 r1 b T2 i (3 * i + 1) = T2 (3 * i + 1) := tr3_at (by omega)
        have q0 := OwnR.rdr (hw.holds (.own (X (3 * i)) (tr3 r0 r1 b T2 i (3 * i)).length (D (3 * i)) 3 1 (iL (tr3 r0 r1 b T2 i (3 * i)))) (by simp [m0]))
        have q1 := OwnR.rdr (hw.holds (.own (X (3 * i + 1)) (tr3 r0 r1 b T2 i (3 * i + 1)).length (D (3 * i + 1)) 3 1 (iL (tr3 r0 r1 b T2 i (3 * i + 1)))) (by simp [m1]))
        rw [show iL (tr3 r0 r1 b T2 i (3 * i)) = iL (T2 (3 * i)) by rw [e0]] at q0
        rw [show iL (tr3 r0 r1 b T2 i (3 * i + 1)) = iL (T2 (3 * i + 1)) by rw [e1]] at q1
        exact moved_any (a := fun j => X (3 * i + j)) (l := fun j => (tr3 r0 r1 b T2 i (3 * i + j)).length) (c := fun j => D (3 * i + j)) (L0 := T2 (3 * i)) (L1 := T2 (3 * i + 1)) (M := (bestE r0 r1 b (T2 (3 * i)) (T2 (3 * i + 1))).1) (by show (tr3 r0 r1 b T2 i (3 * i)).length = _; rw [e0]) (by show (tr3 r0 r1 b T2 i (3 * i + 1)).length = _; rw [e1]) rfl (by show (tr3 r0 r1 b T2 i (3 * i)).length ≤ 1000; rw [e0]; omega) (by show (tr3 r0 r1 b T2 i (3 * i + 1)).length ≤ 1000; rw [e1]; omega) (by omega) q0 q1 (OwnR.rdr (hw.holds (.own As (bestE r0 r1 b (T2 (3 * i)) (T2 (3 * i + 1))).1.length cs 3 1 (iL (bestE r0 r1 b (T2 (3 * i)) (T2 (3 * i + 1))).1)) (by simp)))) ?_
    rintro ⟨⟨A1, c1⟩, ⟨A2, c2⟩⟩
    simp only [mvT, mvK, List.cons_append, List.nil_append]
    refine TL.p Pu.fd ?_
    refine TL.p (Pu.el ty_et23) ?_
    first | refine TL.st ty_sz36 ?_ | refine TL.se ty_sz36 ?_
    refine TL.nil ?_
    refine TQ.blkN ?_
    refine TQ.thenN (hY11 _ _ ?_)
    refine TW.region ?_
    have s0 : 3 * i < 3 * m := by omega
    have s1 : 3 * i + 1 < 3 * m := by omega
    obtain ⟨Ms, hMs⟩ : ∃ y, y = (bestE r0 r1 b (T2 (3 * i)) (T2 (3 * i + 1))).1 := ⟨_, rfl⟩
    simp only [← hMs]
    have hset1 := ownsT_set (X := X) (T := tr3 r0 r1 b T2 i) (D := D) (A := A1) (c2 := c1) (L := mvd (T2 (3 * i)) (T2 (3 * i + 1)) Ms) (r := iL (mvd (T2 (3 * i)) (T2 (3 * i + 1)) Ms)) s0 rfl (fun _ _ => rfl)
    have hset2 := ownsT_set (X := updN X (3 * i) A1) (T := updN (tr3 r0 r1 b T2 i) (3 * i) (mvd (T2 (3 * i)) (T2 (3 * i + 1)) Ms)) (D := updN D (3 * i) c1) (A := A2) (c2 := c2) (L := mvd (T2 (3 * i + 1)) (T2 (3 * i)) Ms) (r := iL (mvd (T2 (3 * i + 1)) (T2 (3 * i)) Ms)) s1 rfl (fun _ _ => rfl)
    refine TL.subK (K' := .own An m cn 36 3 (updR (tieX X (tr3 r0 r1 b T2 i) D) i [.slice A1 (mvd (T2 (3 * i)) (T2 (3 * i + 1)) Ms).length c1, .slice A2 (mvd (T2 (3 * i + 1)) (T2 (3 * i)) Ms).length c2, .slice (X (3 * i + 2)) (tr3 r0 r1 b T2 i (3 * i + 2)).length (D (3 * i + 2))]) :: .own A3 (g + Ms.length) c3 3 1 (catR g (iL (movs r0 r1 b T2 i)) (iL Ms)) :: .own Ar np cr 43 2 (fun q => spL (r0 q) (r1 q)) :: .blk y 24 [.slice none 0 0] :: .blk x 23 [.slice none 0 0] :: .own A2 (mvd (T2 (3 * i + 1)) (T2 (3 * i)) Ms).length c2 3 1 (iL (mvd (T2 (3 * i + 1)) (T2 (3 * i)) Ms)) :: .own A1 (mvd (T2 (3 * i)) (T2 (3 * i + 1)) Ms).length c1 3 1 (iL (mvd (T2 (3 * i)) (T2 (3 * i + 1)) Ms)) :: ownsT X (tr3 r0 r1 b T2 i) D (3 * m)) (by repeat (first | refine KSub.cons (by repeat (first | exact Pick.hd | apply Pick.tl)) ?_ | exact KSub.refl _ | refine KSub.drop ?_)) ?_
    refine TL.subK (KSub.cons Pick.hd (KSub.cons Pick.hd (KSub.cons Pick.hd (KSub.cons Pick.hd (KSub.cons Pick.hd (KSub.cons Pick.hd hset1)))))) ?_
    refine TL.subK (KSub.cons Pick.hd (KSub.cons Pick.hd (KSub.cons Pick.hd (KSub.cons Pick.hd (KSub.cons Pick.hd hset2))))) ?_
    refine TL.p Pu.ad ?_
    refine TL.p Pu.mv ?_
    refine TL.nil ?_
    refine TQ.thenN (hZ0 (i + 1) (updN (updN X (3 * i) A1) (3 * i + 1) A2) (updN (updN D (3 * i) c1) (3 * i + 1) c2) _ _ _ _ _ ?_ ?_ (by repeat (first | exact trivial | refine ⟨rfl, ?_⟩ | refine ⟨trivial, ?_⟩)) ?_)
    · refine ⟨by omega, by rw [hmm, ← hg, hMs], fun j hj => ?_⟩
      by_cases h : j = i
      · subst h; exact hp5
      · exact hall j (by omega)
    · exact (by first | omega | (simp only []; omega) | (simp; omega))
    · have e3 : tr3 r0 r1 b T2 (i + 1) = updN (updN (tr3 r0 r1 b T2 i) (3 * i) (mvd (T2 (3 * i)) (T2 (3 * i + 1)) Ms)) (3 * i + 1) (mvd (T2 (3 * i + 1)) (T2 (3 * i)) Ms) := by rw [hMs]; rfl
      have e4 : movs r0 r1 b T2 (i + 1) = movs r0 r1 b T2 i ++ Ms := by rw [hMs]; rfl
      rw [e3, e4]
      refine KSub.own (by repeat (first | exact Pick.hd | apply Pick.tl)) (fun q _ => iL_cat hg q) (KSub.own (by repeat (first | exact Pick.hd | apply Pick.tl)) (fun q _ => tie_set2 q) (KSub.cons (by repeat (first | exact Pick.hd | apply Pick.tl)) (KSub.cons (by repeat (first | exact Pick.hd | apply Pick.tl)) (KSub.cons (by repeat (first | exact Pick.hd | apply Pick.tl)) (KSub.refl _)))))
  · try simp only [decide_eq_true_eq, decide_eq_false_iff_not, Bool.not_eq_true', Bool.not_eq_false', Bool.and_eq_true, Bool.or_eq_true, Bool.and_eq_false_iff, Bool.or_eq_false_iff, Int.not_lt, Int.not_le] at hc0
    obtain rfl : m = i := by omega
    refine TW.exit ?_
    refine TQ.thenX ?_
    refine TQ.thenX ?_
    refine TQ.blkX ?_
    refine TQ.thenN (hY7 _ _ ?_)
    refine TW.seq fun Y16 hY16 => ?_
    refine TW.region ?_
    refine TL.p Pu.mv ?_
    refine TL.call rfl (enters Tryz.func54 rfl rfl) (M := [.own Am g cm 3 1 (iL (movs r0 r1 b T2 m))]) (List.Perm.refl _) rfl (fun w hw => by
        exact sortI_any hg (by omega) (hw.holds (.own Am g cm 3 1 (iL (movs r0 r1 b T2 m))) (List.mem_cons_self ..))) ?_
    intro _
    refine TL.nil ?_
    refine TQ.thenN (hY16 _ _ ?_)
    refine TW.region ?_
    refine TL.p Pu.mv ?_
    refine TL.p Pu.mv ?_
    first | refine TL.st ty_sz23 ?_ | refine TL.se ty_sz23 ?_
    first | refine TL.st ty_sz24 ?_ | refine TL.se ty_sz24 ?_
    refine TL.nil ?_
    refine TQ.end Tryz.results46 rfl (.nil) ?_
    have hc0' : tradeC np pk m l v F P nP b = 0 := by
      rw [hcodeD, if_pos (allB_iff.2 fun j hj => decide_eq_true (hall j hj))]
    have hMe := hMM hc0'
    have hNe : tradeN np pk m l v F P nP b = m := if_pos hc0'
    have hgl : g = (srt (movs r0 r1 b T2 m)).length := by rw [srt_len]; exact hg
    exact fun w hw => ⟨(((An, cn), X, D), (Am, cm)), by
      unfold tradeF
      rw [hMe, hNe, hTT, ← hgl]
      unfold tiesX
      exact hw.sub (by repeat (first | refine KSub.cons (by repeat (first | exact Pick.hd | apply Pick.tl)) ?_ | exact KSub.refl _ | refine KSub.drop ?_)), by rw [if_pos hc0']; rfl⟩
end Go.Proofs.YtjephihlkjpohaaGreatDoor
namespace Go.Proofs.YtjephihlkjpohaaGreatDoor
set_option linter.all false
set_option linter.unusedVariables false
set_option linter.unusedSimpArgs false
open Go.RowKit
set_option maxRecDepth 100000 in
set_option maxHeartbeats 2000000 in
theorem loadTrade_any {w : World} {A AT Af AP : Option Addr} {np cp m cT nf cf nP cP : Nat} {pk : Nat → Nat → Int} {a : Nat → Nat → Option Addr} {l c : Nat → Nat → Nat} {v : Nat → Nat → Nat → Int} {F : List Int} {P : Nat → Nat → Int} {b : Int}
    (hL : Lay w A AT np m pk a l c v) (hF : RdR w 1 Af nf (iL F)) (hnf : nf = F.length) (hf : nf ≤ 1000) (hPR : RdR w 3 AP nP (fun k => putL (P k))) (hnP : nP ≤ 1000) (hP2 : ∀ k, k < nP → 0 ≤ P k 2) :
    CallsK Tryz.prog 15 #[.slice A np cp, .slice AT m cT, .slice Af nf cf, .slice AP nP cP, .int .i64 b] [] w TRx
      (fun z => .tuple #[.slice z.1.1.1 (tradeN np pk m l v F P nP b) z.1.1.2, .slice z.2.1 (tradeM np pk m l v F P nP b).length z.2.2, .int .i64 (tradeC np pk m l v F P nP b)])
      (fun z => .own z.2.1 (tradeM np pk m l v F P nP b).length z.2.2 3 1 (iL (tradeM np pk m l v F P nP b)) :: tiesX (tradeN np pk m l v F P nP b) (tradeT pk m l v F P nP b) z.1) := by
  refine K_enter (S := []) (K := []) Tryz.func15 rfl Tryz.ntmps15 rfl (Sat.start _) ?_
  refine TW.seq fun Y1 hY1 => ?_
  refine TW.region ?_
  refine TL.m Mk.bx ?_
  intro b1
  refine TL.m Mk.bx ?_
  intro b2
  refine TL.m Mk.bx ?_
  intro b3
  refine TL.m Mk.bx ?_
  intro b4
  refine TL.m Mk.bx ?_
  intro b5
  refine TL.m (Mk.al ty_zr23) ?_
  intro b6
  refine TL.m (Mk.al ty_zr24) ?_
  intro b7
  refine TL.p Pu.as ?_
  refine TL.nil ?_
  refine TQ.thenN (hY1 _ _ ?_)
  refine TW.seq fun Y2 hY2 => ?_
  refine TW.region ?_
  refine TL.p Pu.fn ?_
  refine TL.call rfl (enters Tryz.func45 rfl rfl) (M := [.blk b7 24 [.slice none 0 0], .blk b6 23 [.slice none 0 0]]) (List.Perm.refl _) rfl (fun w hw => by
      have hB1 : Blk w b1 22 #[.slice A np cp] := hw.holds (.blk b1 22 [.slice A np cp]) (by simp)
      have hB2 : Blk w b2 23 #[.slice AT m cT] := hw.holds (.blk b2 23 [.slice AT m cT]) (by simp)
      have hB3 : Blk w b3 24 #[.slice Af nf cf] := hw.holds (.blk b3 24 [.slice Af nf cf]) (by simp)
      have hB4 : Blk w b4 25 #[.slice AP nP cP] := hw.holds (.blk b4 25 [.slice AP nP cP]) (by simp)
      have hB5 : Blk w b5 3 #[.int .i64 b] := hw.holds (.blk b5 3 [.int .i64 b]) (by simp)
      have hnd := hw.nd
      simp [feet, Fact.foot] at hnd
      obtain ⟨hself, hge⟩ := feet_new (M := [.blk b7 24 [.slice none 0 0], .blk b6 23 [.slice none 0 0]]) hw (List.Perm.refl _)
      have hbel := Chg.ext hw.chg
      have m1 : b1 ∉ [b7, b6] := by simp; omega
      have m2 : b2 ∉ [b7, b6] := by simp; omega
      have m3 : b3 ∉ [b7, b6] := by simp; omega
      have m4 : b4 ∉ [b7, b6] := by simp; omega
      have m5 : b5 ∉ [b7, b6] := by simp; omega
      exact trying_any (M := [.blk b7 24 [.slice none 0 0], .blk b6 23 [.slice none 0 0]]) (code := tradeC np pk m l v F P nP b) (fs := []) (cs := [.pointer (some ⟨b1, 0, none⟩), .pointer (some ⟨b2, 0, none⟩), .pointer (some ⟨b5, 0, none⟩), .pointer (some ⟨b3, 0, none⟩), .pointer (some ⟨b4, 0, none⟩), .pointer (some ⟨b6, 0, none⟩), .pointer (some ⟨b7, 0, none⟩)]) (enters Tryz.func46 rfl rfl) hself fun w' hw' =>
        trade1_any (cp := cp) (cT := cT) (cf := cf) (cP := cP) hL hF hnf hf hPR hnP hP2 (old_below hbel hw' hge) hge ((OldB.of_blk (cs := [_]) hB1).sat hw' m1) ((OldB.of_blk (cs := [_]) hB2).sat hw' m2) ((OldB.of_blk (cs := [_]) hB5).sat hw' m5) ((OldB.of_blk (cs := [_]) hB3).sat hw' m3) ((OldB.of_blk (cs := [_]) hB4).sat hw' m4) m1 m2 m5 m3 m4 hw'.self) ?_
  rintro ⟨⟨⟨An, cn⟩, X, D⟩, ⟨Am, cm⟩⟩
  refine TL.perm List.perm_append_comm ?_
  simp only [tradeF, List.cons_append, List.nil_append]
  refine TL.p Pu.as ?_
  refine TL.nil ?_
  refine TQ.thenN (hY2 _ _ ?_)
  refine TW.seq fun Y3 hY3 => ?_
  refine TW.ex0k [] ?_
  refine RG.tk 2 rfl Pu.mv ?_
  refine RG.a2 0 1 rfl rfl (fun X0 hX0 => ?_) (fun X1 hX1 => ?_)
  · refine TL.p (Pu.ld ty_sc23) ?_
    refine TL.nil ?_
    refine TQ.nxt (hX0 _ _ (by repeat (first | exact HasL.nil | refine HasL.cons (by repeat (first | exact Pick.hd | apply Pick.tl)) ?_)) ?_)
    refine RG.a2 1 3 rfl rfl (fun X1 hX1 => ?_) (fun X3 hX3 => ?_)
    · refine TL.p (Pu.ld ty_sc24) ?_
      refine TL.nil ?_
      refine TQ.nxt (hX1 _ _ (by repeat (first | exact HasL.nil | refine HasL.cons (by repeat (first | exact Pick.hd | apply Pick.tl)) ?_)) ?_)
      refine RG.a1 3 rfl (fun X3 hX3 => ?_)
      first | refine TL.st ty_sz23 ?_ | refine TL.se ty_sz23 ?_
      refine TL.nil ?_
      refine TQ.nxt (hX3 _ _ (by repeat (first | exact HasL.nil | refine HasL.cons (by repeat (first | exact Pick.hd | apply Pick.tl)) ?_)) ?_)
      refine RG.a1 4 rfl (fun X4 hX4 => ?_)
      first | refine TL.st ty_sz24 ?_ | refine TL.se ty_sz24 ?_
      refine TL.nil ?_
      refine TQ.nxt (hX4 _ _ (by repeat (first | exact HasL.nil | refine HasL.cons (by repeat (first | exact Pick.hd | apply Pick.tl)) ?_)) ?_)
      refine RG.tk 5 rfl Pu.as ?_
      refine RG.nil ?_ (by kernel_rfl)
      refine TQ.thenN (hY3 _ _ ?_)
      refine TW.ret ?_
      refine TQ.ret Tryz.results15 rfl ((RV.c1 ty_sc23 (RV.c1 ty_sc24 (.tmp rfl .nil)))) ?_
      exact fun w hw => ⟨(((An, cn), X, D), (Am, cm)), rfl, hw.sub (by repeat (first | refine KSub.cons (by repeat (first | exact Pick.hd | apply Pick.tl)) ?_ | exact KSub.refl _ | refine KSub.drop ?_))⟩
    · first | refine TL.st ty_sz23 ?_ | refine TL.se ty_sz23 ?_
      refine TL.nil ?_
      refine TQ.nxt (hX3 _ _ (by repeat (first | exact HasL.nil | refine HasL.cons (by repeat (first | exact Pick.hd | apply Pick.tl)) ?_)) ?_)
      refine RG.a1 1 rfl (fun X1 hX1 => ?_)
      refine TL.p (Pu.ld ty_sc24) ?_
      refine TL.nil ?_
      refine TQ.nxt (hX1 _ _ (by repeat (first | exact HasL.nil | refine HasL.cons (by repeat (first | exact Pick.hd | apply Pick.tl)) ?_)) ?_)
      refine RG.a1 4 rfl (fun X4 hX4 => ?_)
      first | refine TL.st ty_sz24 ?_ | refine TL.se ty_sz24 ?_
      refine TL.nil ?_
      refine TQ.nxt (hX4 _ _ (by repeat (first | exact HasL.nil | refine HasL.cons (by repeat (first | exact Pick.hd | apply Pick.tl)) ?_)) ?_)
      refine RG.tk 5 rfl Pu.as ?_
      refine RG.nil ?_ (by kernel_rfl)
      refine TQ.thenN (hY3 _ _ ?_)
      refine TW.ret ?_
      refine TQ.ret Tryz.results15 rfl ((RV.c1 ty_sc23 (RV.c1 ty_sc24 (.tmp rfl .nil)))) ?_
      exact fun w hw => ⟨(((An, cn), X, D), (Am, cm)), rfl, hw.sub (by repeat (first | refine KSub.cons (by repeat (first | exact Pick.hd | apply Pick.tl)) ?_ | exact KSub.refl _ | refine KSub.drop ?_))⟩
  · refine TL.p (Pu.ld ty_sc24) ?_
    refine TL.nil ?_
    refine TQ.nxt (hX1 _ _ (by repeat (first | exact HasL.nil | refine HasL.cons (by repeat (first | exact Pick.hd | apply Pick.tl)) ?_)) ?_)
    refine RG.a1 0 rfl (fun X0 hX0 => ?_)
    refine TL.p (Pu.ld ty_sc23) ?_
    refine TL.nil ?_
    refine TQ.nxt (hX0 _ _ (by repeat (first | exact HasL.nil | refine HasL.cons (by repeat (first | exact Pick.hd | apply Pick.tl)) ?_)) ?_)
    refine RG.a1 3 rfl (fun X3 hX3 => ?_)
    first | refine TL.st ty_sz23 ?_ | refine TL.se ty_sz23 ?_
    refine TL.nil ?_
    refine TQ.nxt (hX3 _ _ (by repeat (first | exact HasL.nil | refine HasL.cons (by repeat (first | exact Pick.hd | apply Pick.tl)) ?_)) ?_)
    refine RG.a1 4 rfl (fun X4 hX4 => ?_)
    first | refine TL.st ty_sz24 ?_ | refine TL.se ty_sz24 ?_
    refine TL.nil ?_
    refine TQ.nxt (hX4 _ _ (by repeat (first | exact HasL.nil | refine HasL.cons (by repeat (first | exact Pick.hd | apply Pick.tl)) ?_)) ?_)
    refine RG.tk 5 rfl Pu.as ?_
    refine RG.nil ?_ (by kernel_rfl)
    refine TQ.thenN (hY3 _ _ ?_)
    refine TW.ret ?_
    refine TQ.ret Tryz.results15 rfl ((RV.c1 ty_sc23 (RV.c1 ty_sc24 (.tmp rfl .nil)))) ?_
    exact fun w hw => ⟨(((An, cn), X, D), (Am, cm)), rfl, hw.sub (by repeat (first | refine KSub.cons (by repeat (first | exact Pick.hd | apply Pick.tl)) ?_ | exact KSub.refl _ | refine KSub.drop ?_))⟩
end Go.Proofs.YtjephihlkjpohaaGreatDoor
namespace Go.Proofs.YtjephihlkjpohaaGreatDoor
set_option linter.all false
set_option linter.unusedVariables false
set_option linter.unusedSimpArgs false
open Go.RowKit
theorem indexSpan_any {g : FuncId} {fs cs : List Value} {A : Option Addr} {n cp : Nat} {v : Nat → Nat → Int} {p : Nat → Bool} {M : Nat → List Fact} {w : World} (hen : Enters Tryz.prog g) (hn : n ≤ 9223372036854775807)
    (hR : RdR w 2 A n (fun k => spL (v k 0) (v k 1))) (hA : 0 < n → Apart (feet (M 0)) A) (hM : Sat (feet (M 0)) w (M 0) w) (hfe : ∀ k, feet (M k) = feet (M 0))
    (hg : ∀ k, k < n → (∀ j, j < k → p j = false) → ∀ w', Sat (feet (M 0)) w (M k) w' → CallsK Tryz.prog g (fs ++ [Value.agg (spL (v k 0) (v k 1)).toArray] ++ cs).toArray (M k) w' Unit (fun _ => .bool (p k)) (fun _ => M (k + 1))) :
    CallsK Tryz.prog 163 #[.slice A n cp, .func (.func g) fs.toArray cs.toArray] (M 0) w (Fst p n) (fun x => .int .i64 (if x.1 < n then (x.1 : Int) else -1)) (fun x => M (aft n x.1)) := by
  refine K_enter (S := feet (M 0)) (K := M 0) Tryz.func163 rfl Tryz.ntmps163 rfl hM ?_
  refine TW.seq fun Y1 hY1 => ?_
  refine TW.region ?_
  refine TL.p Pu.as ?_
  refine TL.nil ?_
  refine TQ.thenN (hY1 _ _ ?_)
  refine TW.seq fun Y2 hY2 => ?_
  refine TW.seq fun Y3 hY3 => ?_
  refine TW.region ?_
  refine TL.p Pu.mv ?_
  refine TL.p (Pu.ln Tryz.underlying109) ?_
  refine TL.p Pu.mv ?_
  refine TL.nil ?_
  refine TQ.thenN (hY3 _ _ ?_)
  refine TW.block ?_
  refine TW.loop1 (fun (k : Nat) => [(8, .int .i64 (k : Int)), (7, .int .i64 (n : Int)), (0, .slice A n cp), (1, .func (.func g) fs.toArray cs.toArray)]) (fun k => M k) (fun k => k ≤ n ∧ ∀ j, j < k → p j = false) (fun k => n - k) 0 (by repeat (first | exact trivial | refine ⟨rfl, ?_⟩ | refine ⟨trivial, ?_⟩)) ?_ ?_ ?_
  · exact KSub.refl _
  · exact ⟨by omega, fun j hj => by omega⟩
  rintro k ⟨hk, hall⟩ Z0 hZ0
  refine TW.seq fun Y4 hY4 => ?_
  refine TW.region ?_
  refine TL.p Pu.lt ?_
  refine TL.nil ?_
  refine TQ.thenN (hY4 _ _ ?_)
  refine TW.seq fun Y5 hY5 => ?_
  refine TW.cond rfl (fun hc0 => ?_) (fun hc0 => ?_)
  · try simp only [decide_eq_true_eq, decide_eq_false_iff_not, Bool.not_eq_true', Bool.not_eq_false', Bool.and_eq_true, Bool.or_eq_true, Bool.and_eq_false_iff, Bool.or_eq_false_iff, Int.not_lt, Int.not_le] at hc0
    have hkn : k < n := by omega
    have hA := hA (by omega)
    refine TW.skip ?_
    refine TQ.thenN (hY5 _ _ ?_)
    refine TW.seq fun Y6 hY6 => ?_
    refine TW.block ?_
    refine TW.seq fun Y7 hY7 => ?_
    refine TW.region ?_
    refine TL.p Pu.mv ?_
    refine TL.p Pu.as ?_
    refine TL.nil ?_
    refine TQ.thenN (hY7 _ _ ?_)
    refine TW.seq fun Y8 hY8 => ?_
    refine TW.region ?_
    refine TL.p Pu.mv ?_
    refine TL.p Pu.mv ?_
    refine TL.p Pu.mv ?_
    refine TL.p (Pu.el ty_et109) ?_
    refine TL.p (Pu.lds ty_ag43) ?_
    refine TL.cvk rfl rfl hen (by rw [List.append_nil]) (fun w hw => by
        exact hg k (by omega) hall w hw) ?_
    intro _
    refine TL.nil ?_
    refine TQ.thenN (hY8 _ _ ?_)
    refine TW.cond rfl (fun hc1 => ?_) (fun hc1 => ?_)
    · try simp only [decide_eq_true_eq, decide_eq_false_iff_not, Bool.not_eq_true', Bool.not_eq_false', Bool.and_eq_true, Bool.or_eq_true, Bool.and_eq_false_iff, Bool.or_eq_false_iff, Int.not_lt, Int.not_le] at hc1
      refine TW.seq fun Y9 hY9 => ?_
      refine TW.region ?_
      refine TL.p Pu.mv ?_
      refine TL.p Pu.as ?_
      refine TL.nil ?_
      refine TQ.thenN (hY9 _ _ ?_)
      refine TW.ret ?_
      refine TQ.blkR ?_
      refine TQ.thenR ?_
      refine TQ.thenR ?_
      refine TQ.blkR ?_
      refine TQ.thenR ?_
      refine TQ.ret Tryz.results163 rfl ((.tmp rfl .nil)) ?_
      exact fun w hw => ⟨⟨k, by omega, hall, fun _ => hc1⟩, by simp [hkn]; rfl, by simpa [aft, hkn] using hw⟩
    · try simp only [decide_eq_true_eq, decide_eq_false_iff_not, Bool.not_eq_true', Bool.not_eq_false', Bool.and_eq_true, Bool.or_eq_true, Bool.and_eq_false_iff, Bool.or_eq_false_iff, Int.not_lt, Int.not_le] at hc1
      refine TW.skip ?_
      refine TQ.blkN ?_
      refine TQ.thenN (hY6 _ _ ?_)
      refine TW.region ?_
      refine TL.p Pu.ad ?_
      refine TL.p Pu.mv ?_
      refine TL.nil ?_
      refine TQ.thenN (hZ0 (k + 1) _ _ ?_ ?_ (by repeat (first | exact trivial | refine ⟨rfl, ?_⟩ | refine ⟨trivial, ?_⟩)) ?_)
      · refine ⟨by omega, fun j hj => ?_⟩
        by_cases h : j = k
        · subst h; exact hc1
        · exact hall j (by omega)
      · exact (by first | omega | (simp only []; omega) | (simp; omega))
      · rw [List.append_nil]; exact KSub.refl _
  · try simp only [decide_eq_true_eq, decide_eq_false_iff_not, Bool.not_eq_true', Bool.not_eq_false', Bool.and_eq_true, Bool.or_eq_true, Bool.and_eq_false_iff, Bool.or_eq_false_iff, Int.not_lt, Int.not_le] at hc0
    have hkn : k = n := by omega
    refine TW.exit ?_
    refine TQ.thenX ?_
    refine TQ.thenX ?_
    refine TQ.blkX ?_
    refine TQ.thenN (hY2 _ _ ?_)
    refine TW.seq fun Y10 hY10 => ?_
    refine TW.region ?_
    refine TL.p Pu.as ?_
    refine TL.nil ?_
    refine TQ.thenN (hY10 _ _ ?_)
    refine TW.ret ?_
    refine TQ.ret Tryz.results163 rfl ((.tmp rfl .nil)) ?_
    exact fun w hw => ⟨⟨k, by omega, hall, fun h => by omega⟩, by simp [hkn]; rfl, by simpa [aft, hkn] using hw⟩
theorem hasSpan_st {g : FuncId} {fs cs : List Value} {A : Option Addr} {n cp : Nat} {v : Nat → Nat → Int} {p : Nat → Bool} {M : Nat → List Fact} {w : World} (hen : Enters Tryz.prog g) (hn : n ≤ 9223372036854775807)
    (hR : RdR w 2 A n (fun k => spL (v k 0) (v k 1))) (hA : 0 < n → Apart (feet (M 0)) A) (hM : Sat (feet (M 0)) w (M 0) w) (hfe : ∀ k, feet (M k) = feet (M 0))
    (hg : ∀ k, k < n → (∀ j, j < k → p j = false) → ∀ w', Sat (feet (M 0)) w (M k) w' → CallsK Tryz.prog g (fs ++ [Value.agg (spL (v k 0) (v k 1)).toArray] ++ cs).toArray (M k) w' Unit (fun _ => .bool (p k)) (fun _ => M (k + 1))) :
    CallsK Tryz.prog 147 #[.slice A n cp, .func (.func g) fs.toArray cs.toArray] (M 0) w (Fst p n) (fun x => .bool (decide (x.1 < n))) (fun x => M (aft n x.1)) := by
  refine K_enter (S := feet (M 0)) (K := M 0) Tryz.func147 rfl Tryz.ntmps147 rfl hM ?_
  refine TW.seq fun Y1 hY1 => ?_
  refine TW.region ?_
  refine TL.p Pu.as ?_
  refine TL.nil ?_
  refine TQ.thenN (hY1 _ _ ?_)
  refine TW.seq fun Y2 hY2 => ?_
  refine TW.region ?_
  refine TL.p Pu.mv ?_
  refine TL.p Pu.mv ?_
  refine TL.call rfl (enters Tryz.func163 rfl rfl) (by rw [List.append_nil]) rfl (fun w hw => by
      exact indexSpan_any hen hn (hR.sat0 hw hA) hA hw.self hfe (fun k hk hp w' hw' => hg k hk hp w' (hw'.from hw.chg fun _ hb => .inl hb))) ?_
  intro x
  refine TL.p Pu.ge ?_
  refine TL.p Pu.as ?_
  refine TL.nil ?_
  refine TQ.thenN (hY2 _ _ ?_)
  refine TW.ret ?_
  refine TQ.ret Tryz.results147 rfl ((.tmp rfl .nil)) ?_
  exact fun w hw => ⟨x, by by_cases h : x.1 < n <;> simp [retV, h], by simpa using hw⟩
theorem hasSpan_any {g : FuncId} {fs cs : List Value} {A : Option Addr} {n cp : Nat} {v : Nat → Nat → Int} {p : Nat → Bool} {w : World} (hen : Enters Tryz.prog g) (hn : n ≤ 9223372036854775807)
    (hR : RdR w 2 A n (fun k => spL (v k 0) (v k 1))) (hg : ∀ k, k < n → ∀ w', Below w.heap.size w w' → Calls Tryz.prog g (fs ++ [Value.agg (spL (v k 0) (v k 1)).toArray] ++ cs).toArray w' (Ret w' (.bool (p k)))) :
    Calls Tryz.prog 147 #[.slice A n cp, .func (.func g) fs.toArray cs.toArray] w (Ret w (.bool (anyB n p))) :=
  CallsK.retOf (hasSpan_st (M := fun _ => []) hen hn hR (fun _ => Apart.nil) (Sat.start w) (fun _ => rfl) fun k hk _ w' hw' => CallsK.ret (hg k hk w' (Chg.ext hw'.chg))) fun x => by rw [x.any]; rfl
theorem from1_any (x lo hi : Int) (b1 b2 : Nat) (w : World) (h1 : OldB w b1 [.int .i64 lo]) (h2 : OldB w b2 [.int .i64 hi]) :
    Calls Tryz.prog 162 #[.int .i64 x, .pointer (some ⟨b1, 0, none⟩), .pointer (some ⟨b2, 0, none⟩)] w (Ret w (.bool (!inB5 lo hi x))) := by
  refine K_enter (S := []) (K := []) Tryz.func162 rfl Tryz.ntmps162 rfl (Sat.start _) ?_
  refine TW.seq fun Y1 hY1 => ?_
  refine TW.region ?_
  refine TL.p Pu.as ?_
  refine TL.nil ?_
  refine TQ.thenN (hY1 _ _ ?_)
  refine TW.seq fun Y2 hY2 => ?_
  refine TW.join [(4, .bool (decide (x < lo) || decide (hi < x)))] ?_ (fun hJ1 => ?_)
  · refine TQ.thenN (hY2 _ _ ?_)
    refine TW.ret ?_
    refine TQ.ret Tryz.results162 rfl ((.tmp rfl .nil)) ?_
    exact fun w hw => ⟨ret_bool (by unfold inB5; rw [Bool.eq_iff_iff]; simp only [Bool.not_eq_true', Bool.and_eq_false_iff, Bool.or_eq_true, decide_eq_true_eq, decide_eq_false_iff_not]; omega), Chg.ext hw.chg⟩
  refine TW.region ?_
  refine TL.p Pu.mv ?_
  refine TL.p (by first | exact (Pu.ld ty_sc3) | exact (Pu.ldo ty_sc3)) ?_
  refine TL.p Pu.lt ?_
  refine TL.p Pu.mv ?_
  refine TL.guard (t := 8) rfl (fun hg1 => ?_) (fun hg1 => ?_)
  · refine TL.gs ?_
    refine TL.gs ?_
    refine TL.gs ?_
    refine TL.p Pu.kt ?_
    refine TL.p Pu.as ?_
    refine TL.nil ?_
    exact TQ.sub (by repeat (first | exact trivial | refine ⟨rfl, ?_⟩ | refine ⟨trivial, ?_⟩ | refine ⟨(by show some (Value.bool _) = some (Value.bool _); simp [hg1]), ?_⟩)) (by repeat (first | exact KSub.nil | refine KSub.cons (by repeat (first | exact Pick.hd | apply Pick.tl)) ?_)) hJ1
  · refine TL.gd Pu.mv ?_
    refine TL.gd (by first | exact (Pu.ld ty_sc3) | exact (Pu.ldo ty_sc3)) ?_
    refine TL.gd Pu.gt ?_
    refine TL.p Pu.kf ?_
    refine TL.p Pu.as ?_
    refine TL.nil ?_
    exact TQ.sub (by repeat (first | exact trivial | refine ⟨rfl, ?_⟩ | refine ⟨trivial, ?_⟩ | refine ⟨(by show some (Value.bool _) = some (Value.bool _); simp [hg1]), ?_⟩)) (by repeat (first | exact KSub.nil | refine KSub.cons (by repeat (first | exact Pick.hd | apply Pick.tl)) ?_)) hJ1
theorem from_any (lo hi : Int) {A : Option Addr} {n cp : Nat} {v : Nat → Int} {w : World} (hn : n ≤ 9223372036854775807) (hR : RdR w 1 A n (fun k => [.int .i64 (v k)])) :
    Calls Tryz.prog 146 #[.int .i64 lo, .int .i64 hi, .slice A n cp] w (Ret w (.bool (allB n fun k => inB5 lo hi (v k)))) := by
  refine K_enter (S := []) (K := []) Tryz.func146 rfl Tryz.ntmps146 rfl (Sat.start _) ?_
  refine TW.seq fun Y1 hY1 => ?_
  refine TW.region ?_
  refine TL.m Mk.bx ?_
  intro b1
  refine TL.m Mk.bx ?_
  intro b2
  refine TL.p Pu.as ?_
  refine TL.nil ?_
  refine TQ.thenN (hY1 _ _ ?_)
  refine TW.seq fun Y2 hY2 => ?_
  refine TW.region ?_
  refine TL.p Pu.mv ?_
  refine TL.p Pu.fn ?_
  refine TL.cr rfl (enters Tryz.func118 rfl rfl) (fun w hw => by
      have h1 := OldB.of_blk (hw.holds (.blk b1 3 [.int .i64 lo]) (by simp))
      have h2 := OldB.of_blk (hw.holds (.blk b2 3 [.int .i64 hi]) (by simp))
      exact hasInt_any (fs := []) (p := fun k => !inB5 lo hi (v k)) (enters Tryz.func162 rfl rfl) hn (hR.sat hw Apart.nil) fun k hk w' hb => from1_any _ _ _ b1 b2 w' (h1.ext hb) (h2.ext hb)) ?_
  refine TL.p Pu.no ?_
  refine TL.p Pu.as ?_
  refine TL.nil ?_
  refine TQ.thenN (hY2 _ _ ?_)
  refine TW.ret ?_
  refine TQ.ret Tryz.results146 rfl ((.tmp rfl .nil)) ?_
  exact fun w hw => ⟨ret_bool (by rw [not_anyB]; simp), Chg.ext hw.chg⟩
theorem fromOne_any (lo hi x : Int) {b E : Nat} {w : World} (h : Blk w b E #[.int .i64 x]) :
    Calls Tryz.prog 146 #[.int .i64 lo, .int .i64 hi, .slice (some ⟨b, 0, none⟩) 1 1] w (Ret w (.bool (inB5 lo hi x))) := by
  have := from_any lo hi (n := 1) (cp := 1) (v := fun _ => x) (by decide) (RdR.blk (cs := [.int .i64 x]) h rfl (fun _ _ => rfl))
  simpa [allB] using this
theorem fromTwo_any (lo hi x y : Int) {b E : Nat} {w : World} (h : Blk w b E #[.int .i64 x, .int .i64 y]) :
    Calls Tryz.prog 146 #[.int .i64 lo, .int .i64 hi, .slice (some ⟨b, 0, none⟩) 2 2] w (Ret w (.bool (inB5 lo hi x && inB5 lo hi y))) := by
  have := from_any lo hi (n := 2) (cp := 2) (v := fun k => if k = 0 then x else y) (by decide) (RdR.blk (cs := [.int .i64 x, .int .i64 y]) h rfl (fun _ _ => rfl))
  simpa [allB, List.range_succ] using this
theorem ordered1_any (x y lo hi : Int) (b1 b2 : Nat) (w : World) (h1 : OldB w b1 [.int .i64 lo]) (h2 : OldB w b2 [.int .i64 hi]) :
    Calls Tryz.prog 148 #[.agg (spL x y).toArray, .pointer (some ⟨b1, 0, none⟩), .pointer (some ⟨b2, 0, none⟩)] w (Ret w (.bool (!ordB5 lo hi x y))) := by
  refine K_enter (S := []) (K := []) Tryz.func148 rfl Tryz.ntmps148 rfl (Sat.start _) ?_
  refine TW.seq fun Y1 hY1 => ?_
  refine TW.region ?_
  refine TL.m Mk.bx ?_
  intro b1
  refine TL.p Pu.as ?_
  refine TL.nil ?_
  refine TQ.thenN (hY1 _ _ ?_)
  refine TW.seq fun Y2 hY2 => ?_
  refine TW.join [(4, .bool (decide (y < x) || !(inB5 lo hi x && inB5 lo hi y)))] ?_ (fun hJ1 => ?_)
  · refine TQ.thenN (hY2 _ _ ?_)
    refine TW.ret ?_
    refine TQ.ret Tryz.results148 rfl ((.tmp rfl .nil)) ?_
    exact fun w hw => ⟨ret_bool (by unfold ordB5 inB5; rw [Bool.eq_iff_iff]; simp only [Bool.not_eq_true', Bool.and_eq_false_iff, Bool.or_eq_true, decide_eq_true_eq, decide_eq_false_iff_not]; omega), Chg.ext hw.chg⟩
  refine TW.region ?_
  refine TL.p (by first | exact Pu.fb ty_fa43_0 | exact Pu.fe ty_fa43_0) ?_
  refine TL.p (by first | exact (Pu.ld ty_sc3) | exact (Pu.ldo ty_sc3)) ?_
  refine TL.p (by first | exact Pu.fb ty_fa43_1 | exact Pu.fe ty_fa43_1) ?_
  refine TL.p (by first | exact (Pu.ld ty_sc3) | exact (Pu.ldo ty_sc3)) ?_
  refine TL.p Pu.gt ?_
  refine TL.p Pu.mv ?_
  refine TL.guard (t := 10) rfl (fun hg1 => ?_) (fun hg1 => ?_)
  · refine TL.gs ?_
    refine TL.gs ?_
    refine TL.gs ?_
    refine TL.gs ?_
    refine TL.gs ?_
    refine TL.gs ?_
    refine TL.gs ?_
    refine TL.gs ?_
    refine TL.gs ?_
    refine TL.p Pu.kt ?_
    refine TL.p Pu.as ?_
    refine TL.nil ?_
    exact TQ.sub (by repeat (first | exact trivial | refine ⟨rfl, ?_⟩ | refine ⟨trivial, ?_⟩ | refine ⟨(by show some (Value.bool _) = some (Value.bool _); simp [hg1]), ?_⟩)) (by repeat (first | exact KSub.nil | refine KSub.cons (by repeat (first | exact Pick.hd | apply Pick.tl)) ?_)) hJ1
  · refine TL.gd (by first | exact (Pu.ld ty_sc3) | exact (Pu.ldo ty_sc3)) ?_
    refine TL.gd (by first | exact (Pu.ld ty_sc3) | exact (Pu.ldo ty_sc3)) ?_
    refine TL.gd (by first | exact Pu.fb ty_fa43_0 | exact Pu.fe ty_fa43_0) ?_
    refine TL.gd (by first | exact (Pu.ld ty_sc3) | exact (Pu.ldo ty_sc3)) ?_
    refine TL.gd (by first | exact Pu.fb ty_fa43_1 | exact Pu.fe ty_fa43_1) ?_
    refine TL.gd (by first | exact (Pu.ld ty_sc3) | exact (Pu.ldo ty_sc3)) ?_
    refine TL.gm Mk.bl ?_
    intro b2
    refine TL.cr rfl (enters Tryz.func146 rfl rfl) (fun w hw => by
        exact fromTwo_any _ _ _ _ (hw.holds _ (List.mem_cons_self ..))) ?_
    refine TL.gd Pu.no ?_
    refine TL.p Pu.kf ?_
    refine TL.p Pu.as ?_
    refine TL.nil ?_
    exact TQ.sub (by repeat (first | exact trivial | refine ⟨rfl, ?_⟩ | refine ⟨trivial, ?_⟩ | refine ⟨(by show some (Value.bool _) = some (Value.bool _); simp [hg1]), ?_⟩)) (by repeat (first | exact KSub.nil | refine KSub.cons (by repeat (first | exact Pick.hd | apply Pick.tl)) ?_)) hJ1
theorem ordered_any (lo hi : Int) {A : Option Addr} {n cp : Nat} {v : Nat → Nat → Int} {w : World} (hn : n ≤ 9223372036854775807) (hR : RdR w 2 A n (fun k => spL (v k 0) (v k 1))) :
    Calls Tryz.prog 115 #[.int .i64 lo, .int .i64 hi, .slice A n cp] w (Ret w (.bool (allB n fun k => ordB5 lo hi (v k 0) (v k 1)))) := by
  refine K_enter (S := []) (K := []) Tryz.func115 rfl Tryz.ntmps115 rfl (Sat.start _) ?_
  refine TW.seq fun Y1 hY1 => ?_
  refine TW.region ?_
  refine TL.m Mk.bx ?_
  intro b1
  refine TL.m Mk.bx ?_
  intro b2
  refine TL.p Pu.as ?_
  refine TL.nil ?_
  refine TQ.thenN (hY1 _ _ ?_)
  refine TW.seq fun Y2 hY2 => ?_
  refine TW.region ?_
  refine TL.p Pu.mv ?_
  refine TL.p Pu.fn ?_
  refine TL.cr rfl (enters Tryz.func147 rfl rfl) (fun w hw => by
      have h1 := OldB.of_blk (hw.holds (.blk b1 3 [.int .i64 lo]) (by simp))
      have h2 := OldB.of_blk (hw.holds (.blk b2 3 [.int .i64 hi]) (by simp))
      exact hasSpan_any (fs := []) (v := v) (p := fun k => !ordB5 lo hi (v k 0) (v k 1)) (enters Tryz.func148 rfl rfl) hn (hR.sat hw Apart.nil) fun k hk w' hb => ordered1_any _ _ _ _ b1 b2 w' (h1.ext hb) (h2.ext hb)) ?_
  refine TL.p Pu.no ?_
  refine TL.p Pu.as ?_
  refine TL.nil ?_
  refine TQ.thenN (hY2 _ _ ?_)
  refine TW.ret ?_
  refine TQ.ret Tryz.results115 rfl ((.tmp rfl .nil)) ?_
  exact fun w hw => ⟨ret_bool (by rw [not_anyB]; simp), Chg.ext hw.chg⟩
theorem orderedOne_any (lo hi x y : Int) {b E : Nat} {w : World} (h : Blk w b E #[.int .i64 x, .int .i64 y]) :
    Calls Tryz.prog 115 #[.int .i64 lo, .int .i64 hi, .slice (some ⟨b, 0, none⟩) 1 1] w (Ret w (.bool (ordB5 lo hi x y))) := by
  have := ordered_any lo hi (n := 1) (cp := 1) (v := fun _ j => if j = 0 then x else y) (by decide) (RdR.blk (cs := [.int .i64 x, .int .i64 y]) h rfl (fun _ _ => rfl))
  simpa [allB] using this
def breedL (f : Nat → Int) : List Value := [.int .i64 (f 0), .int .i64 (f 1), .int .i64 (f 2), .int .i64 (f 3), .int .i64 (f 4), .int .i64 (f 5), .int .i64 (f 6), .int .i64 (f 7), .int .i64 (f 8), .int .i64 (f 9), .int .i64 (f 10), .int .i64 (f 11), .int .i64 (f 12), .int .i64 (f 13), .int .i64 (f 14), .int .i64 (f 15), .int .i64 (f 16)]
def camL (g : Nat → Int) (m : Bool) : List Value := [.int .i64 (g 0), .int .i64 (g 1), .int .i64 (g 2), .int .i64 (g 3), .int .i64 (g 4), .int .i64 (g 5), .bool m]
def breedOk (f : Nat → Int) : Bool := inB5 1 1000000 (f 0) && inB5 1 1000000 (f 1) && (ordB5 0 100000 (f 2) (f 3) && ordB5 0 100000 (f 4) (f 5) && ordB5 0 100000 (f 6) (f 7) && ordB5 0 100000 (f 8) (f 9) && ordB5 0 100000 (f 10) (f 11) && ordB5 0 100000 (f 12) (f 13)) && ordB5 0 1000000 (f 15) (f 16) && inB5 0 1000 (f 14)
def camOk (f g : Nat → Int) : Bool := ordB5 0 (f 0) (g 0) (g 1) && ordB5 0 (f 1) (g 2) (g 3) && ordB5 0 1000 (g 4) (g 5)
def camCode (f g : Nat → Int) : Int := if breedOk f then (if camOk f g then 0 else 11) else 10
theorem orderedSix_any (lo hi : Int) (f : Nat → Int) {b E : Nat} {w : World} (h : Blk w b E #[.int .i64 (f 2), .int .i64 (f 3), .int .i64 (f 4), .int .i64 (f 5), .int .i64 (f 6), .int .i64 (f 7), .int .i64 (f 8), .int .i64 (f 9), .int .i64 (f 10), .int .i64 (f 11), .int .i64 (f 12), .int .i64 (f 13)]) :
    Calls Tryz.prog 115 #[.int .i64 lo, .int .i64 hi, .slice (some ⟨b, 0, none⟩) 6 6] w (Ret w (.bool (ordB5 lo hi (f 2) (f 3) && ordB5 lo hi (f 4) (f 5) && ordB5 lo hi (f 6) (f 7) && ordB5 lo hi (f 8) (f 9) && ordB5 lo hi (f 10) (f 11) && ordB5 lo hi (f 12) (f 13)))) := by
  have := ordered_any lo hi (n := 6) (cp := 6) (v := fun k j => f (2 + 2 * k + j)) (by decide) (RdR.blk (cs := [.int .i64 (f 2), .int .i64 (f 3), .int .i64 (f 4), .int .i64 (f 5), .int .i64 (f 6), .int .i64 (f 7), .int .i64 (f 8), .int .i64 (f 9), .int .i64 (f 10), .int .i64 (f 11), .int .i64 (f 12), .int .i64 (f 13)]) h rfl (fun _ _ => rfl))
  simpa [allB, List.range_succ, Bool.and_assoc] using this
set_option maxRecDepth 100000 in
theorem checkBreed_any (f : Nat → Int) (w : World) : Calls Tryz.prog 114 #[.agg (breedL f).toArray] w (Ret w (.int .i64 (if breedOk f then 0 else 10))) := by
  refine K_enter (S := []) (K := []) Tryz.func114 rfl Tryz.ntmps114 rfl (Sat.start _) ?_
  refine TW.seq fun Y1 hY1 => ?_
  refine TW.region ?_
  refine TL.m Mk.bx ?_
  intro b1
  refine TL.p Pu.as ?_
  refine TL.nil ?_
  refine TQ.thenN (hY1 _ _ ?_)
  refine TW.seq fun Y2 hY2 => ?_
  refine TW.seq fun Y3 hY3 => ?_
  refine TW.join [(40, .bool (!breedOk f))] ?_ (fun hJ1 => ?_)
  · refine TQ.thenN (hY3 _ _ ?_)
    refine TW.cond rfl (fun hc0 => ?_) (fun hc0 => ?_)
    · try simp only [decide_eq_true_eq, decide_eq_false_iff_not, Bool.not_eq_true', Bool.not_eq_false', Bool.and_eq_true, Bool.or_eq_true, Bool.and_eq_false_iff, Bool.or_eq_false_iff, Int.not_lt, Int.not_le] at hc0
      refine TW.seq fun Y4 hY4 => ?_
      refine TW.region ?_
      refine TL.p Pu.as ?_
      refine TL.nil ?_
      refine TQ.thenN (hY4 _ _ ?_)
      refine TW.ret ?_
      refine TQ.thenR ?_
      refine TQ.ret Tryz.results114 rfl ((.tmp rfl .nil)) ?_
      exact fun w hw => ⟨ret_int (by have : breedOk f = false := by simpa using hc0
                                     rw [this]; rfl), Chg.ext hw.chg⟩
    · try simp only [decide_eq_true_eq, decide_eq_false_iff_not, Bool.not_eq_true', Bool.not_eq_false', Bool.and_eq_true, Bool.or_eq_true, Bool.and_eq_false_iff, Bool.or_eq_false_iff, Int.not_lt, Int.not_le] at hc0
      refine TW.skip ?_
      refine TQ.thenN (hY2 _ _ ?_)
      refine TW.seq fun Y5 hY5 => ?_
      refine TW.region ?_
      refine TL.p Pu.as ?_
      refine TL.nil ?_
      refine TQ.thenN (hY5 _ _ ?_)
      refine TW.ret ?_
      refine TQ.ret Tryz.results114 rfl ((.tmp rfl .nil)) ?_
      exact fun w hw => ⟨ret_int (by have : breedOk f = true := by simpa using hc0
                                     rw [this]; rfl), Chg.ext hw.chg⟩
  refine TW.region ?_
  refine TL.p (by first | exact Pu.fb ty_fa79_0 | exact Pu.fe ty_fa79_0) ?_
  refine TL.p (Pu.ld ty_sc3) ?_
  refine TL.p (by first | exact Pu.fb ty_fa79_1 | exact Pu.fe ty_fa79_1) ?_
  refine TL.p (Pu.ld ty_sc3) ?_
  refine TL.m Mk.bl ?_
  intro b2
  refine TL.cr rfl (enters Tryz.func146 rfl rfl) (fun w hw => by
      exact fromTwo_any _ _ _ _ (hw.holds _ (List.mem_cons_self ..))) ?_
  refine TL.p Pu.no ?_
  refine TL.p Pu.mv ?_
  refine TL.guard (t := 10) rfl (fun hg1 => ?_) (fun hg1 => ?_)
  · refine TL.gs ?_
    refine TL.gs ?_
    refine TL.gs ?_
    refine TL.gs ?_
    refine TL.gs ?_
    refine TL.gs ?_
    refine TL.gs ?_
    refine TL.gs ?_
    refine TL.gs ?_
    refine TL.gs ?_
    refine TL.gs ?_
    refine TL.gs ?_
    refine TL.gs ?_
    refine TL.gs ?_
    refine TL.gs ?_
    refine TL.p Pu.kt ?_
    refine TL.p Pu.mv ?_
    refine TL.gs ?_
    refine TL.gs ?_
    refine TL.gs ?_
    refine TL.gs ?_
    refine TL.gs ?_
    refine TL.p Pu.kt ?_
    refine TL.p Pu.mv ?_
    refine TL.gs ?_
    refine TL.gs ?_
    refine TL.gs ?_
    refine TL.gs ?_
    refine TL.gs ?_
    refine TL.p Pu.kt ?_
    refine TL.nil ?_
    exact TQ.sub (by repeat (first | exact trivial | refine ⟨rfl, ?_⟩ | refine ⟨trivial, ?_⟩ | refine ⟨(by show some (Value.bool _) = some (Value.bool _); simp [hg1, breedOk]), ?_⟩)) (by repeat (first | exact KSub.nil | refine KSub.cons (by repeat (first | exact Pick.hd | apply Pick.tl)) ?_)) hJ1
  · refine TL.gd (by first | exact Pu.fb ty_fa79_2 | exact Pu.fe ty_fa79_2) ?_
    refine TL.gd (Pu.lds ty_ag43) ?_
    refine TL.gd (by first | exact Pu.fb ty_fa79_3 | exact Pu.fe ty_fa79_3) ?_
    refine TL.gd (Pu.lds ty_ag43) ?_
    refine TL.gd (by first | exact Pu.fb ty_fa79_4 | exact Pu.fe ty_fa79_4) ?_
    refine TL.gd (Pu.lds ty_ag43) ?_
    refine TL.gd (by first | exact Pu.fb ty_fa79_5 | exact Pu.fe ty_fa79_5) ?_
    refine TL.gd (Pu.lds ty_ag43) ?_
    refine TL.gd (by first | exact Pu.fb ty_fa79_6 | exact Pu.fe ty_fa79_6) ?_
    refine TL.gd (Pu.lds ty_ag43) ?_
    refine TL.gd (by first | exact Pu.fb ty_fa79_7 | exact Pu.fe ty_fa79_7) ?_
    refine TL.gd (Pu.lds ty_ag43) ?_
    refine TL.gm Mk.bl ?_
    intro b3
    refine TL.cr rfl (enters Tryz.func115 rfl rfl) (fun w hw => by
        exact orderedSix_any _ _ f (hw.holds _ (List.mem_cons_self ..))) ?_
    refine TL.gd Pu.no ?_
    refine TL.p Pu.kf ?_
    refine TL.p Pu.mv ?_
    refine TL.guard (t := 27) rfl (fun hg2 => ?_) (fun hg2 => ?_)
    · refine TL.gs ?_
      refine TL.gs ?_
      refine TL.gs ?_
      refine TL.gs ?_
      refine TL.gs ?_
      refine TL.p Pu.kt ?_
      refine TL.p Pu.mv ?_
      refine TL.gs ?_
      refine TL.gs ?_
      refine TL.gs ?_
      refine TL.gs ?_
      refine TL.gs ?_
      refine TL.p Pu.kt ?_
      refine TL.nil ?_
      exact TQ.sub (by repeat (first | exact trivial | refine ⟨rfl, ?_⟩ | refine ⟨trivial, ?_⟩ | refine ⟨(by show some (Value.bool _) = some (Value.bool _); simp [hg1, hg2, breedOk]), ?_⟩)) (by repeat (first | exact KSub.nil | refine KSub.cons (by repeat (first | exact Pick.hd | apply Pick.tl)) ?_)) hJ1
    · refine TL.gd (by first | exact Pu.fb ty_fa79_9 | exact Pu.fe ty_fa79_9) ?_
      refine TL.gd (Pu.lds ty_ag43) ?_
      refine TL.gm Mk.bl ?_
      intro b4
      refine TL.cr rfl (enters Tryz.func115 rfl rfl) (fun w hw => by
          exact orderedOne_any _ _ _ _ (hw.holds _ (List.mem_cons_self ..))) ?_
      refine TL.gd Pu.no ?_
      refine TL.p Pu.kf ?_
      refine TL.p Pu.mv ?_
      refine TL.guard (t := 34) rfl (fun hg3 => ?_) (fun hg3 => ?_)
      · refine TL.gs ?_
        refine TL.gs ?_
        refine TL.gs ?_
        refine TL.gs ?_
        refine TL.gs ?_
        refine TL.p Pu.kt ?_
        refine TL.nil ?_
        exact TQ.sub (by repeat (first | exact trivial | refine ⟨rfl, ?_⟩ | refine ⟨trivial, ?_⟩ | refine ⟨(by show some (Value.bool _) = some (Value.bool _); simp [hg1, hg2, hg3, breedOk]), ?_⟩)) (by repeat (first | exact KSub.nil | refine KSub.cons (by repeat (first | exact Pick.hd | apply Pick.tl)) ?_)) hJ1
      · refine TL.gd (by first | exact Pu.fb ty_fa79_8 | exact Pu.fe ty_fa79_8) ?_
        refine TL.gd (Pu.ld ty_sc3) ?_
        refine TL.gm Mk.bl ?_
        intro b5
        refine TL.cr rfl (enters Tryz.func146 rfl rfl) (fun w hw => by
            exact fromOne_any _ _ _ (hw.holds _ (List.mem_cons_self ..))) ?_
        refine TL.gd Pu.no ?_
        refine TL.p Pu.kf ?_
        refine TL.nil ?_
        exact TQ.sub (by repeat (first | exact trivial | refine ⟨rfl, ?_⟩ | refine ⟨trivial, ?_⟩ | refine ⟨(by show some (Value.bool _) = some (Value.bool _); simp [hg1, hg2, hg3, breedOk]), ?_⟩)) (by repeat (first | exact KSub.nil | refine KSub.cons (by repeat (first | exact Pick.hd | apply Pick.tl)) ?_)) hJ1
set_option maxRecDepth 100000 in
theorem checkCamel_any (f g : Nat → Int) (m : Bool) (w : World) : Calls Tryz.prog 73 #[.agg (breedL f).toArray, .agg (camL g m).toArray] w (Ret w (.int .i64 (camCode f g))) := by
  refine K_enter (S := []) (K := []) Tryz.func73 rfl Tryz.ntmps73 rfl (Sat.start _) ?_
  refine TW.seq fun Y1 hY1 => ?_
  refine TW.region ?_
  refine TL.m Mk.bx ?_
  intro b1
  refine TL.m Mk.bx ?_
  intro b2
  refine TL.p Pu.as ?_
  refine TL.nil ?_
  refine TQ.thenN (hY1 _ _ ?_)
  refine TW.seq fun Y2 hY2 => ?_
  refine TW.seq fun Y3 hY3 => ?_
  refine TW.region ?_
  refine TL.p (Pu.lds ty_ag79) ?_
  refine TL.cr rfl (enters Tryz.func114 rfl rfl) (fun w hw => by
      exact checkBreed_any f _) ?_
  refine TL.p Pu.as ?_
  refine TL.nil ?_
  refine TQ.thenN (hY3 _ _ ?_)
  refine TW.seq fun Y4 hY4 => ?_
  refine TW.region ?_
  refine TL.p Pu.mv ?_
  refine TL.p Pu.ne ?_
  refine TL.nil ?_
  refine TQ.thenN (hY4 _ _ ?_)
  refine TW.cond rfl (fun hc0 => ?_) (fun hc0 => ?_)
  · try simp only [decide_eq_true_eq, decide_eq_false_iff_not, Bool.not_eq_true', Bool.not_eq_false', Bool.and_eq_true, Bool.or_eq_true, Bool.and_eq_false_iff, Bool.or_eq_false_iff, Int.not_lt, Int.not_le] at hc0
    refine TW.seq fun Y5 hY5 => ?_
    refine TW.region ?_
    refine TL.p Pu.mv ?_
    refine TL.p Pu.as ?_
    refine TL.nil ?_
    refine TQ.thenN (hY5 _ _ ?_)
    refine TW.ret ?_
    refine TQ.thenR ?_
    refine TQ.ret Tryz.results73 rfl ((.tmp rfl .nil)) ?_
    exact fun w hw => ⟨ret_int (by
      cases h : breedOk f with
      | true => simp [h] at hc0
      | false => unfold camCode; rw [h]; rfl), Chg.ext hw.chg⟩
  · try simp only [decide_eq_true_eq, decide_eq_false_iff_not, Bool.not_eq_true', Bool.not_eq_false', Bool.and_eq_true, Bool.or_eq_true, Bool.and_eq_false_iff, Bool.or_eq_false_iff, Int.not_lt, Int.not_le] at hc0
    refine TW.skip ?_
    refine TQ.thenN (hY2 _ _ ?_)
    refine TW.seq fun Y6 hY6 => ?_
    refine TW.seq fun Y7 hY7 => ?_
    refine TW.join [(33, .bool (!camOk f g))] ?_ (fun hJ1 => ?_)
    · refine TQ.thenN (hY7 _ _ ?_)
      refine TW.cond rfl (fun hc1 => ?_) (fun hc1 => ?_)
      · try simp only [decide_eq_true_eq, decide_eq_false_iff_not, Bool.not_eq_true', Bool.not_eq_false', Bool.and_eq_true, Bool.or_eq_true, Bool.and_eq_false_iff, Bool.or_eq_false_iff, Int.not_lt, Int.not_le] at hc1
        refine TW.seq fun Y8 hY8 => ?_
        refine TW.region ?_
        refine TL.p Pu.as ?_
        refine TL.nil ?_
        refine TQ.thenN (hY8 _ _ ?_)
        refine TW.ret ?_
        refine TQ.thenR ?_
        refine TQ.ret Tryz.results73 rfl ((.tmp rfl .nil)) ?_
        exact fun w hw => ⟨ret_int (by
          have h2 : camOk f g = false := by simpa using hc1
          cases h : breedOk f with
          | true => unfold camCode; rw [h, h2]; rfl
          | false => simp [h] at hc0), Chg.ext hw.chg⟩
      · try simp only [decide_eq_true_eq, decide_eq_false_iff_not, Bool.not_eq_true', Bool.not_eq_false', Bool.and_eq_true, Bool.or_eq_true, Bool.and_eq_false_iff, Bool.or_eq_false_iff, Int.not_lt, Int.not_le] at hc1
        refine TW.skip ?_
        refine TQ.thenN (hY6 _ _ ?_)
        refine TW.seq fun Y9 hY9 => ?_
        refine TW.region ?_
        refine TL.p Pu.as ?_
        refine TL.nil ?_
        refine TQ.thenN (hY9 _ _ ?_)
        refine TW.ret ?_
        refine TQ.ret Tryz.results73 rfl ((.tmp rfl .nil)) ?_
        exact fun w hw => ⟨ret_int (by
          have h2 : camOk f g = true := by simpa using hc1
          cases h : breedOk f with
          | true => unfold camCode; rw [h, h2]; rfl
          | false => simp [h] at hc0), Chg.ext hw.chg⟩
    refine TW.region ?_
    refine TL.p (by first | exact Pu.fb ty_fa79_0 | exact Pu.fe ty_fa79_0) ?_
    refine TL.p (Pu.ld ty_sc3) ?_
    refine TL.p (by first | exact Pu.fb ty_fa81_0 | exact Pu.fe ty_fa81_0) ?_
    refine TL.p (Pu.lds ty_ag43) ?_
    refine TL.m Mk.bl ?_
    intro b3
    refine TL.cr rfl (enters Tryz.func115 rfl rfl) (fun w hw => by
        exact orderedOne_any _ _ _ _ (hw.holds _ (List.mem_cons_self ..))) ?_
    refine TL.p Pu.no ?_
    refine TL.p Pu.mv ?_
    refine TL.guard (t := 18) rfl (fun hg1 => ?_) (fun hg1 => ?_)
    · refine TL.gs ?_
      refine TL.gs ?_
      refine TL.gs ?_
      refine TL.gs ?_
      refine TL.gs ?_
      refine TL.gs ?_
      refine TL.gs ?_
      refine TL.p Pu.kt ?_
      refine TL.p Pu.mv ?_
      refine TL.gs ?_
      refine TL.gs ?_
      refine TL.gs ?_
      refine TL.gs ?_
      refine TL.gs ?_
      refine TL.p Pu.kt ?_
      refine TL.nil ?_
      exact TQ.sub (by repeat (first | exact trivial | refine ⟨rfl, ?_⟩ | refine ⟨trivial, ?_⟩ | refine ⟨(by show some (Value.bool _) = some (Value.bool _); simp [hg1, camOk]), ?_⟩)) (by repeat (first | exact KSub.nil | refine KSub.cons (by repeat (first | exact Pick.hd | apply Pick.tl)) ?_)) hJ1
    · refine TL.gd (by first | exact Pu.fb ty_fa79_1 | exact Pu.fe ty_fa79_1) ?_
      refine TL.gd (Pu.ld ty_sc3) ?_
      refine TL.gd (by first | exact Pu.fb ty_fa81_1 | exact Pu.fe ty_fa81_1) ?_
      refine TL.gd (Pu.lds ty_ag43) ?_
      refine TL.gm Mk.bl ?_
      intro b4
      refine TL.cr rfl (enters Tryz.func115 rfl rfl) (fun w hw => by
          exact orderedOne_any _ _ _ _ (hw.holds _ (List.mem_cons_self ..))) ?_
      refine TL.gd Pu.no ?_
      refine TL.p Pu.kf ?_
      refine TL.p Pu.mv ?_
      refine TL.guard (t := 27) rfl (fun hg2 => ?_) (fun hg2 => ?_)
      · refine TL.gs ?_
        refine TL.gs ?_
        refine TL.gs ?_
        refine TL.gs ?_
        refine TL.gs ?_
        refine TL.p Pu.kt ?_
        refine TL.nil ?_
        exact TQ.sub (by repeat (first | exact trivial | refine ⟨rfl, ?_⟩ | refine ⟨trivial, ?_⟩ | refine ⟨(by show some (Value.bool _) = some (Value.bool _); simp [hg1, hg2, camOk]), ?_⟩)) (by repeat (first | exact KSub.nil | refine KSub.cons (by repeat (first | exact Pick.hd | apply Pick.tl)) ?_)) hJ1
      · refine TL.gd (by first | exact Pu.fb ty_fa81_2 | exact Pu.fe ty_fa81_2) ?_
        refine TL.gd (Pu.lds ty_ag43) ?_
        refine TL.gm Mk.bl ?_
        intro b5
        refine TL.cr rfl (enters Tryz.func115 rfl rfl) (fun w hw => by
            exact orderedOne_any _ _ _ _ (hw.holds _ (List.mem_cons_self ..))) ?_
        refine TL.gd Pu.no ?_
        refine TL.p Pu.kf ?_
        refine TL.nil ?_
        exact TQ.sub (by repeat (first | exact trivial | refine ⟨rfl, ?_⟩ | refine ⟨trivial, ?_⟩ | refine ⟨(by show some (Value.bool _) = some (Value.bool _); simp [hg1, hg2, camOk]), ?_⟩)) (by repeat (first | exact KSub.nil | refine KSub.cons (by repeat (first | exact Pick.hd | apply Pick.tl)) ?_)) hJ1
end Go.Proofs.YtjephihlkjpohaaGreatDoor
