/-
  Part 11 of the proof of loadTrades_holds: declarations of several texts, in build order. No condition on a program.
-/
import Derived.Test.YtjephihlkjpohaaGreatDoorTrad10
import Derived.Test.YtjephihlkjpohaaGreatDoorTrad09
namespace Go.Proofs.YtjephihlkjpohaaGreatDoor
set_option linter.all false
set_option linter.unusedVariables false
set_option linter.unusedSimpArgs false
open Go.RowKit
set_option maxRecDepth 100000 in
set_option maxHeartbeats 8000000 in
theorem put_any {W : World} {An AP : Option Addr} {cn m nP cP n : Nat} {X0 : Nat → Option Addr} {D0 : Nat → Nat} {T : Nat → List Int} {P : Nat → Nat → Int} (hm : m ≤ 1000) (hnP : nP ≤ 1000) (hn : n ≤ 1000000000) (hT : ∀ s, s < 3 * m → (T s).length ≤ 1000) (hP2 : ∀ k, k < nP → 0 ≤ P k 2)
    (hPR : RdR W 3 AP nP (fun k => putL (P k))) (hA : 0 < nP → Apart (feet (tiesX m T ((An, cn), X0, D0))) AP) (hM : Sat (feet (tiesX m T ((An, cn), X0, D0))) W (tiesX m T ((An, cn), X0, D0)) W) :
    TryK Tryz.prog 50 #[.slice An m cn, .slice AP nP cP, .int .i64 (n : Int)] (tiesX m T ((An, cn), X0, D0)) ((Nat → Option Addr) × (Nat → Nat)) (fun _ => .tuple #[]) (fun y => tiesX m (putT T P nP) ((An, cn), y.1, y.2)) errs (putC n m T P nP) W := by
  unfold TryK
  generalize hS : feet (tiesX m T ((An, cn), X0, D0)) = S at *
  have hTk : ∀ k s, s < 3 * m → (putT T P k s).length ≤ 1000 + k := fun k s hs => by have := putT_len (T := T) (P := P) (s := s) k; have := hT s hs; omega
  have hC1 : ∀ k, k < nP → okPut n m T P k = false → putC n m T P nP = 54 := fun k hk h => by
    unfold putC
    have : allB nP (okPut n m T P) = false := by
      cases h2 : allB nP (okPut n m T P) with
      | false => rfl
      | true => rw [allB_iff.1 h2 k hk] at h; cases h
    rw [this]
    rfl
  have hC2 : (allB m fun i => decide (cnt3 (putT T P nP) i ≤ 10)) = false → putC n m T P nP = 54 := fun h => by
    unfold putC
    rw [h, Bool.and_false]
    rfl
  refine K_enter (S := S) (K := .own An m cn 36 3 (tieX X0 T D0) :: ownsT X0 T D0 (3 * m)) Tryz.func50 rfl Tryz.ntmps50 rfl hM ?_
  refine TW.seq fun Y1 hY1 => ?_
  refine TW.region ?_
  refine TL.mm (kk := .i64) ?_
  intro b1
  refine TL.p Pu.as ?_
  refine TL.nil ?_
  refine TQ.thenN (hY1 _ _ ?_)
  refine TW.seq fun Y2 hY2 => ?_
  refine TW.seq fun Y3 hY3 => ?_
  refine TW.region ?_
  refine TL.p Pu.mv ?_
  refine TL.p (Pu.ln Tryz.underlying23) ?_
  refine TL.p Pu.mv ?_
  refine TL.nil ?_
  refine TQ.thenN (hY3 _ _ ?_)
  refine TW.block ?_
  refine TW.loop1 (fun (i : Nat) => [(18, .int .i64 (i : Int)), (17, .int .i64 (m : Int)), (16, .slice An m cn), (6, .map (some b1)), (0, .slice An m cn), (1, .slice AP nP cP), (2, .int .i64 (n : Int))]) (fun i => .obj b1 (mapO .i64 (markAll (flatT T (3 * i)))) :: .own An m cn 36 3 (tieX X0 T D0) :: ownsT X0 T D0 (3 * m)) (fun i => i ≤ m) (fun i => m - i) 0 (by repeat (first | exact trivial | refine ⟨rfl, ?_⟩ | refine ⟨trivial, ?_⟩)) ?_ ?_ ?_
  · exact KSub.refl _
  · exact Nat.zero_le _
  rintro i hi Z0 hZ0
  refine TW.seq fun Y4 hY4 => ?_
  refine TW.region ?_
  refine TL.p Pu.lt ?_
  refine TL.nil ?_
  refine TQ.thenN (hY4 _ _ ?_)
  refine TW.seq fun Y5 hY5 => ?_
  refine TW.cond rfl (fun hc0 => ?_) (fun hc0 => ?_)
  · try simp only [decide_eq_true_eq, decide_eq_false_iff_not, Bool.not_eq_true', Bool.not_eq_false', Bool.and_eq_true, Bool.or_eq_true, Bool.and_eq_false_iff, Bool.or_eq_false_iff, Int.not_lt, Int.not_le] at hc0
    have him : i < m := by omega
    have t0 := hT (3 * i) (by omega)
    have t1 := hT (3 * i + 1) (by omega)
    have t2 := hT (3 * i + 2) (by omega)
    refine TW.skip ?_
    refine TQ.thenN (hY5 _ _ ?_)
    refine TW.seq fun Y6 hY6 => ?_
    refine TW.block ?_
    refine TW.seq fun Y7 hY7 => ?_
    refine TW.region ?_
    refine TL.p (Pu.el ty_et23) ?_
    refine TL.p (Pu.lds ty_ag36) ?_
    refine TL.m (Mk.al ty_zr36) ?_
    intro b2
    first | refine TL.st ty_sz36 ?_ | refine TL.se ty_sz36 ?_
    refine TL.nil ?_
    refine TQ.thenN (hY7 _ _ ?_)
    refine TW.seq fun Y8 hY8 => ?_
    refine TW.region ?_
    refine TL.p (Pu.lds ty_ag36) ?_
    refine TL.call (M := []) rfl (enters Tryz.func72 rfl rfl) (List.Perm.refl _) rfl (fun w hw => by
        have m0 := ownsT_mem (X := X0) (T := T) (D := D0) (n := 3 * m) (show 3 * i < 3 * m by omega)
        have m1 := ownsT_mem (X := X0) (T := T) (D := D0) (n := 3 * m) (show 3 * i + 1 < 3 * m by omega)
        have m2 := ownsT_mem (X := X0) (T := T) (D := D0) (n := 3 * m) (show 3 * i + 2 < 3 * m by omega)
        exact all3_any rfl rfl rfl (by omega) (OwnR.rdr (hw.holds (.own (X0 (3 * i)) (T (3 * i)).length (D0 (3 * i)) 3 1 (iL (T (3 * i)))) (by simp [m0]))) (OwnR.rdr (hw.holds (.own (X0 (3 * i + 1)) (T (3 * i + 1)).length (D0 (3 * i + 1)) 3 1 (iL (T (3 * i + 1)))) (by simp [m1]))) (OwnR.rdr (hw.holds (.own (X0 (3 * i + 2)) (T (3 * i + 2)).length (D0 (3 * i + 2)) 3 1 (iL (T (3 * i + 2)))) (by simp [m2])))) ?_
    rintro ⟨A3, c3⟩
    obtain ⟨L, hL⟩ : ∃ L, L = T (3 * i) ++ T (3 * i + 1) ++ T (3 * i + 2) := ⟨_, rfl⟩
    simp only [← hL]
    have hLl : L.length ≤ 3000 := by rw [hL, List.length_append, List.length_append]; omega
    have hf : flatT T (3 * (i + 1)) = flatT T (3 * i) ++ L := by rw [hL, show 3 * (i + 1) = 3 * i + 3 from rfl]; simp only [flatT, List.append_assoc]
    refine TL.p (Pu.ln Tryz.underlying24) ?_
    refine TL.p Pu.mv ?_
    refine TL.nil ?_
    refine TQ.thenN (hY8 _ _ ?_)
    refine TW.block ?_
    refine TW.loop1 (fun (q : Nat) => [(25, .int .i64 (q : Int)), (24, .int .i64 (L.length : Int)), (23, .slice A3 L.length c3), (18, .int .i64 (i : Int)), (17, .int .i64 (m : Int)), (16, .slice An m cn), (6, .map (some b1)), (0, .slice An m cn), (1, .slice AP nP cP), (2, .int .i64 (n : Int))]) (fun q => .own A3 L.length c3 3 1 (iL L) :: .obj b1 (mapO .i64 (markAll (flatT T (3 * i) ++ L.take q))) :: .own An m cn 36 3 (tieX X0 T D0) :: ownsT X0 T D0 (3 * m)) (fun q => q ≤ L.length) (fun q => L.length - q) 0 (by repeat (first | exact trivial | refine ⟨rfl, ?_⟩ | refine ⟨trivial, ?_⟩)) ?_ ?_ ?_
    · rw [List.take_zero, List.append_nil]
      repeat (first | exact KSub.nil | refine KSub.cons (by repeat (first | exact Pick.hd | apply Pick.tl)) ?_ | exact KSub.refl _ | refine KSub.drop ?_)
    · exact Nat.zero_le _
    rintro q hq Z1 hZ1
    refine TW.seq fun Y9 hY9 => ?_
    refine TW.region ?_
    refine TL.p Pu.lt ?_
    refine TL.nil ?_
    refine TQ.thenN (hY9 _ _ ?_)
    refine TW.seq fun Y10 hY10 => ?_
    refine TW.cond rfl (fun hc1 => ?_) (fun hc1 => ?_)
    · try simp only [decide_eq_true_eq, decide_eq_false_iff_not, Bool.not_eq_true', Bool.not_eq_false', Bool.and_eq_true, Bool.or_eq_true, Bool.and_eq_false_iff, Bool.or_eq_false_iff, Int.not_lt, Int.not_le] at hc1
      have hql : q < L.length := by omega
      have htk := take_succ hql
      refine TW.skip ?_
      refine TQ.thenN (hY10 _ _ ?_)
      refine TW.seq fun Y11 hY11 => ?_
      refine TW.block ?_
      refine TW.seq fun Y12 hY12 => ?_
      refine TW.region ?_
      refine TL.p (Pu.el ty_et24) ?_
      refine TL.p (Pu.ld ty_sc3) ?_
      refine TL.p Pu.as ?_
      refine TL.nil ?_
      refine TQ.thenN (hY12 _ _ ?_)
      refine TW.region ?_
      refine TL.p Pu.mv ?_
      refine TL.p Pu.mv ?_
      refine TL.mu ty_mp151 ?_
      refine TL.nil ?_
      refine TQ.blkN ?_
      refine TQ.thenN (hY11 _ _ ?_)
      refine TW.region ?_
      refine TL.p Pu.ad ?_
      refine TL.p Pu.mv ?_
      refine TL.nil ?_
      refine TQ.thenN (hZ1 (q + 1) _ _ ?_ ?_ (by repeat (first | exact trivial | refine ⟨rfl, ?_⟩ | refine ⟨trivial, ?_⟩)) ?_)
      · exact (by omega)
      · exact (by first | omega | (simp only []; omega) | (simp; omega))
      · rw [htk, ← List.append_assoc, markAll_snoc]
        repeat (first | exact KSub.nil | refine KSub.cons (by repeat (first | exact Pick.hd | apply Pick.tl)) ?_ | exact KSub.refl _ | refine KSub.drop ?_)
    · try simp only [decide_eq_true_eq, decide_eq_false_iff_not, Bool.not_eq_true', Bool.not_eq_false', Bool.and_eq_true, Bool.or_eq_true, Bool.and_eq_false_iff, Bool.or_eq_false_iff, Int.not_lt, Int.not_le] at hc1
      obtain rfl : q = L.length := by omega
      refine TW.exit ?_
      refine TQ.thenX ?_
      refine TQ.thenX ?_
      refine TQ.blkX ?_
      refine TQ.blkN ?_
      refine TQ.thenN (hY6 _ _ ?_)
      refine TW.region ?_
      refine TL.p Pu.ad ?_
      refine TL.p Pu.mv ?_
      refine TL.nil ?_
      refine TQ.thenN (hZ0 (i + 1) _ _ ?_ ?_ (by repeat (first | exact trivial | refine ⟨rfl, ?_⟩ | refine ⟨trivial, ?_⟩)) ?_)
      · exact (by omega)
      · exact (by first | omega | (simp only []; omega) | (simp; omega))
      · rw [List.take_length, hf]
        exact KSub.drop (KSub.refl _)
  · try simp only [decide_eq_true_eq, decide_eq_false_iff_not, Bool.not_eq_true', Bool.not_eq_false', Bool.and_eq_true, Bool.or_eq_true, Bool.and_eq_false_iff, Bool.or_eq_false_iff, Int.not_lt, Int.not_le] at hc0
    obtain rfl : m = i := by omega
    refine TW.exit ?_
    refine TQ.thenX ?_
    refine TQ.thenX ?_
    refine TQ.blkX ?_
    refine TQ.thenN (hY2 _ _ ?_)
    refine TW.seq fun Y13 hY13 => ?_
    refine TW.seq fun Y14 hY14 => ?_
    refine TW.region ?_
    refine TL.p Pu.mv ?_
    refine TL.p (Pu.ln Tryz.underlying25) ?_
    refine TL.p Pu.mv ?_
    refine TL.nil ?_
    refine TQ.thenN (hY14 _ _ ?_)
    refine TW.block ?_
    refine TW.loop3 (fun (k : Nat) (X : Nat → Option Addr) (D : Nat → Nat) => [(35, .int .i64 (k : Int)), (34, .int .i64 (nP : Int)), (33, .slice AP nP cP), (6, .map (some b1)), (0, .slice An m cn), (1, .slice AP nP cP), (2, .int .i64 (n : Int))]) (fun k X D => .obj b1 (mapO .i64 (markAll (usedP m T P k))) :: .own An m cn 36 3 (tieX X (putT T P k) D) :: ownsT X (putT T P k) D (3 * m)) (fun k X D => k ≤ nP ∧ ∀ j, j < k → okPut n m T P j = true) (fun k X D => nP - k) 0 X0 D0 (by repeat (first | exact trivial | refine ⟨rfl, ?_⟩ | refine ⟨trivial, ?_⟩)) ?_ ?_ ?_
    · unfold usedP
      simp only [toI, List.range_zero, List.map_nil, List.append_nil, putT]
      exact KSub.refl _
    · exact ⟨Nat.zero_le _, fun j hj => by omega⟩
    rintro k X D ⟨hk, hall⟩ Z2 hZ2
    refine TW.seq fun Y15 hY15 => ?_
    refine TW.region ?_
    refine TL.p Pu.lt ?_
    refine TL.nil ?_
    refine TQ.thenN (hY15 _ _ ?_)
    refine TW.seq fun Y16 hY16 => ?_
    refine TW.cond rfl (fun hc2 => ?_) (fun hc2 => ?_)
    · try simp only [decide_eq_true_eq, decide_eq_false_iff_not, Bool.not_eq_true', Bool.not_eq_false', Bool.and_eq_true, Bool.or_eq_true, Bool.and_eq_false_iff, Bool.or_eq_false_iff, Int.not_lt, Int.not_le] at hc2
      have hkn : k < nP := by omega
      have hA' := hA (by omega)
      have hp0 := hP2 k hkn
      have hTk' := hTk k
      generalize hTn : putT T P k = Tk at *
      refine TW.skip ?_
      refine TQ.thenN (hY16 _ _ ?_)
      refine TW.seq fun Y17 hY17 => ?_
      refine TW.block ?_
      refine TW.seq fun Y18 hY18 => ?_
      refine TW.region ?_
      refine TL.p (Pu.el ty_et25) ?_
      refine TL.p (Pu.lds ty_ag66) ?_
      refine TL.m (Mk.al ty_zr66) ?_
      intro b3
      first | refine TL.st ty_sz66 ?_ | refine TL.se ty_sz66 ?_
      refine TL.nil ?_
      refine TQ.thenN (hY18 _ _ ?_)
      refine TW.seq fun Y19 hY19 => ?_
      refine TW.region ?_
      refine TL.p Pu.mv ?_
      refine TL.p Pu.sb ?_
      refine TL.p (by first | exact Pu.fb ty_fa66_0 | exact Pu.fe ty_fa66_0) ?_
      refine TL.p (Pu.ld ty_sc3) ?_
      refine TL.m Mk.bl ?_
      intro b4
      refine TL.cr rfl (enters Tryz.func78 rfl rfl) (fun w hw => by
          exact inOne_any _ _ _ (hw.holds _ (List.mem_cons_self ..))) ?_
      refine TL.mid 27 [(65, .bool (okPut n m T P k))] ?_ (fun hM1 => ?_)
      · simp only [List.toList_toArray, List.drop_succ_cons, List.drop_zero]
        refine TL.ct rfl (enters Tryz.func76 rfl rfl) (fun w hw => by
            exact need_any _ _ _ (by decide)) (fun hp1 => ?_) (fun hp1 => ?_)
        rotate_left
        · refine TQ.thenP ?_
          refine TQ.blkP ?_
          refine TQ.thenP ?_
          refine TQ.thenP ?_
          refine TQ.blkP ?_
          refine TQ.thenP ?_
          refine TQ.pan rfl ?_
          exact fun w hw => .inr ⟨by first | (rw [hC1 k hkn (need_no hp1).1]; decide) | (rw [hC2 (need_no hp2).1]; decide), by first | (rw [hC1 k hkn (need_no hp1).1, (need_no hp1).2]) | (rw [hC2 (need_no hp2).1, (need_no hp2).2]), hw.sub KSub.nil⟩
        refine TL.nil ?_
        refine TQ.thenN (hY19 _ _ ?_)
        refine TW.seq fun Y20 hY20 => ?_
        refine TW.region ?_
        have hok := need_yes (by decide) hp1
        have hok2 := hok
        unfold okPut at hok2
        simp only [inB5, Bool.and_eq_true, decide_eq_true_eq] at hok2
        obtain ⟨⟨⟨⟨g1, g2⟩, _⟩, ⟨g3, g4⟩⟩, g5⟩ := hok2
        obtain ⟨q, hq⟩ : ∃ q : Nat, P k 1 = q := ⟨(P k 1).toNat, by omega⟩
        obtain ⟨p, hp⟩ : ∃ p : Nat, P k 2 = p := ⟨(P k 2).toNat, by omega⟩
        have hqm : q < m := by omega
        have hp3 : p < 3 := by omega
        have hs3 : 3 * q + p < 3 * m := by omega
        have hls := hTk' (3 * q + p) hs3
        have hS9 : putS (P k) = 3 * q + p := by unfold putS; rw [hq, hp]; omega
        have ek : putT T P (k + 1) = updN Tk (3 * q + p) (srt (Tk (3 * q + p) ++ [P k 0])) := by simp only [putT, hS9, hTn]
        have eu : usedP m T P (k + 1) = usedP m T P k ++ [P k 0] := by unfold usedP; rw [toI_succ, List.append_assoc]
        refine TL.p Pu.mv ?_
        refine TL.p (by first | exact Pu.fb ty_fa66_0 | exact Pu.fe ty_fa66_0) ?_
        refine TL.p (Pu.ld ty_sc3) ?_
        refine TL.mu ty_mp151 ?_
        refine TL.nil ?_
        refine TQ.thenN (hY20 _ _ ?_)
        refine TW.seq fun Y21 hY21 => ?_
        refine TW.region ?_
        refine TL.perm (by repeat (first | exact ownsT_perm hs3 | apply List.Perm.cons)) ?_
        refine TL.p Pu.mv ?_
        refine TL.p (by first | exact Pu.fb ty_fa66_1 | exact Pu.fe ty_fa66_1) ?_
        refine TL.p (Pu.ld ty_sc3) ?_
        refine TL.p (Pu.el (q := q) ty_et23 (hk := by omega)) ?_
        refine TL.p Pu.as ?_
        refine TL.nil ?_
        refine TQ.thenN (hY21 _ _ ?_)
        refine TW.seq fun Y22 hY22 => ?_
        refine TW.dw 14 ?_
        refine RK.tk Pu.mv ?_
        refine RK.tk (by first | exact Pu.nn | exact Pu.nc) ?_
        refine RK.tk (by first | exact Pu.fb ty_fa36_0 | exact Pu.fe ty_fa36_0) ?_
        refine RK.tk Pu.mv ?_
        refine RK.tk (by first | exact Pu.nn | exact Pu.nc) ?_
        refine RK.tk (by first | exact Pu.fb ty_fa36_1 | exact Pu.fe ty_fa36_1) ?_
        refine RK.tk Pu.mv ?_
        refine RK.tk (by first | exact Pu.nn | exact Pu.nc) ?_
        refine RK.tk (by first | exact Pu.fb ty_fa36_2 | exact Pu.fe ty_fa36_2) ?_
        refine RK.tk Pu.bd ?_
        refine RK.tk (by first | exact Pu.fb ty_fa66_2 | exact Pu.fe ty_fa66_2) ?_
        refine RK.tk (Pu.ld ty_sc5) ?_
        refine RK.tk (Pu.ix (v := .pointer (elA An q 3 p)) (hr := fun w => by rw [hp]; exact index_ptr3 q p hp3 w)) ?_
        refine RK.tk Pu.as ?_
        refine RK.ch [] ?_ trivial
        refine WK.n ?_
        refine TL.nil ?_
        refine TQ.thenN (hY22 _ _ ?_)
        refine TW.seq fun Y23 hY23 => ?_
        refine TW.expk [.blk b3 66 (putL (P k))] (fun (⟨A7, c7⟩ : Option Addr × Nat) => ([(14, .pointer (elA An q 3 p)), (35, .int .i64 (k : Int)), (34, .int .i64 (nP : Int)), (33, .slice AP nP cP), (6, .map (some b1)), (0, .slice An m cn), (1, .slice AP nP cP), (2, .int .i64 (n : Int))] : Fr)) (fun (⟨A7, c7⟩ : Option Addr × Nat) => .own An m cn 36 3 (updR (tieX X Tk D) q ((tieX X Tk D q).set p (.slice A7 ((Tk (3 * q + p)).length + 1) c7))) :: .own A7 ((Tk (3 * q + p)).length + 1) c7 3 1 (catR (Tk (3 * q + p)).length (iL (Tk (3 * q + p))) (fun _ => [.int .i64 (P k 0)])) :: .obj b1 (mapO .i64 (mput (P k 0) (.bool true) (markAll (usedP m T P k)))) :: ownsTX X Tk D (3 * q + p) (3 * m)) ?_ (fun hE => ?_)
        · rintro ⟨A7, c7⟩
          refine TQ.thenN (hY23 _ _ ?_)
          refine TW.region ?_
          obtain ⟨Lx, hLx⟩ : ∃ y, y = Tk (3 * q + p) ++ [P k 0] := ⟨_, rfl⟩
          have hLn : (Tk (3 * q + p)).length + 1 = Lx.length := by rw [hLx, List.length_append]; rfl
          have eX : updN X (3 * q + p) A7 (3 * q + p) = A7 := if_pos rfl
          have eD : updN D (3 * q + p) c7 (3 * q + p) = c7 := if_pos rfl
          have eT : updN Tk (3 * q + p) Lx (3 * q + p) = Lx := if_pos rfl
          refine TL.subK (K' := .own An m cn 36 3 (tieX (updN X (3 * q + p) A7) (updN Tk (3 * q + p) Lx) (updN D (3 * q + p) c7)) :: .own A7 ((Tk (3 * q + p)).length + 1) c7 3 1 (iL Lx) :: .obj b1 (mapO .i64 (mput (P k 0) (.bool true) (markAll (usedP m T P k)))) :: ownsTX X Tk D (3 * q + p) (3 * m)) (KSub.own Pick.hd (fun i _ => tieX_upd hp3 hLn i) (KSub.own Pick.hd (iL_app rfl hLx rfl) (KSub.refl _))) ?_
          refine TL.p Pu.mv ?_
          refine TL.p (Pu.nc (hq := CellsN.own (by repeat (first | exact Pick.hd | apply Pick.tl)) hqm (subl_tie0 hp3))) ?_
          refine TL.p (Pu.ld (v := .slice A7 ((Tk (3 * q + p)).length + 1) c7) ty_sc24 (hq := by have h9 := subl_tie (X := updN X (3 * q + p) A7) (T := updN Tk (3 * q + p) Lx) (D := updN D (3 * q + p) c7) (q := q) hp3; rw [eX, eD, eT, ← hLn] at h9; exact Cells.own (by repeat (first | exact Pick.hd | apply Pick.tl)) hqm h9)) ?_
          refine TL.call rfl (enters Tryz.func54 rfl rfl) (List.Perm.swap _ _ _) rfl (fun w hw => by
              exact sortI_any hLn (by omega) (hw.holds (.own A7 ((Tk (3 * q + p)).length + 1) c7 3 1 (iL Lx)) (by simp))) ?_
          intro _
          refine TL.nil ?_
          refine TQ.blkN ?_
          refine TQ.thenN (hY17 _ _ ?_)
          refine TW.region ?_
          refine TL.p Pu.ad ?_
          refine TL.p Pu.mv ?_
          refine TL.nil ?_
          refine TQ.thenN (hZ2 (k + 1) (updN X (3 * q + p) A7) (updN D (3 * q + p) c7) _ _ ?_ ?_ (by repeat (first | exact trivial | refine ⟨rfl, ?_⟩ | refine ⟨trivial, ?_⟩)) ?_)
          · refine ⟨by omega, fun j hj => ?_⟩
            by_cases h : j = k
            · subst h; exact hok
            · exact hall j (by omega)
          · exact (by first | omega | (simp only []; omega) | (simp; omega))
          · rw [eu, markAll_snoc, ek, ← hLx]
            refine KSub.cons (by repeat (first | exact Pick.hd | apply Pick.tl)) (KSub.own (by repeat (first | exact Pick.hd | apply Pick.tl)) (fun i _ => tieX_len (fun s => ?_) i) ?_)
            · unfold updN
              split
              · exact (srt_len _).symm
              · rfl
            · exact ownsT_put (by rw [srt_len]; exact hLn) (fun i _ => rfl) hs3
        refine RG.tk 0 rfl Pu.mv ?_
        refine RG.tk 1 rfl Pu.mv ?_
        refine RG.tk 4 rfl (by first | exact Pu.fb ty_fa66_0 | exact Pu.fe ty_fa66_0) ?_
        refine RG.tk 5 rfl (Pu.ld ty_sc3) ?_
        refine RG.a2 2 6 rfl rfl (fun X2 hX2 => ?_) (fun X6 hX6 => ?_)
        · refine TL.p (Pu.nc (hq := CellsN.own (by repeat (first | exact Pick.hd | apply Pick.tl)) hqm (subl_tie0 hp3))) ?_
          refine TL.nil ?_
          refine TQ.nxt (hX2 _ _ (by repeat (first | exact HasL.nil | refine HasL.cons (by repeat (first | exact Pick.hd | apply Pick.tl)) ?_)) ?_)
          refine RG.a2 3 6 rfl rfl (fun X3 hX3 => ?_) (fun X6 hX6 => ?_)
          · refine TL.p (Pu.ld ty_sc24 (hq := Cells.own (by repeat (first | exact Pick.hd | apply Pick.tl)) hqm (subl_tie hp3))) ?_
            refine TL.nil ?_
            refine TQ.nxt (hX3 _ _ (by repeat (first | exact HasL.nil | refine HasL.cons (by repeat (first | exact Pick.hd | apply Pick.tl)) ?_)) ?_)
            refine RG.a1 6 rfl (fun X6 hX6 => ?_)
            refine TL.m Mk.bl ?_
            intro x6
            refine TL.nil ?_
            refine TQ.nxt (hX6 _ _ (by repeat (first | exact HasL.nil | refine HasL.cons (by repeat (first | exact Pick.hd | apply Pick.tl)) ?_)) ?_)
            refine RG.a1 7 rfl (fun X7 hX7 => ?_)
            first | refine TL.a0 ty_et24 ?_ | refine TL.ap ty_et24 ?_
            intro A7 c7
            refine TL.nil ?_
            refine TQ.nxt (hX7 _ _ (by repeat (first | exact HasL.nil | refine HasL.cons (by repeat (first | exact Pick.hd | apply Pick.tl)) ?_)) ?_)
            refine RG.a1 8 rfl (fun X8 hX8 => ?_)
            refine TL.p (Pu.nc (hq := CellsN.own (by repeat (first | exact Pick.hd | apply Pick.tl)) hqm (subl_tie0 hp3))) ?_
            refine TL.nil ?_
            refine TQ.nxt (hX8 _ _ (by repeat (first | exact HasL.nil | refine HasL.cons (by repeat (first | exact Pick.hd | apply Pick.tl)) ?_)) ?_)
            refine RG.a1 9 rfl (fun X9 hX9 => ?_)
            refine TL.se ty_sz24 ?_ (hput := putl_tie hp3)
            refine TL.nil ?_
            refine TQ.nxt (hX9 _ _ (by repeat (first | exact HasL.nil | refine HasL.cons (by repeat (first | exact Pick.hd | apply Pick.tl)) ?_)) ?_)
            exact RG.nil (TQ.sub (by repeat (first | exact trivial | refine ⟨rfl, ?_⟩ | refine ⟨trivial, ?_⟩)) (by repeat (first | exact KSub.nil | refine KSub.cons (by repeat (first | exact Pick.hd | apply Pick.tl)) ?_ | exact KSub.refl _ | refine KSub.drop ?_)) (hE ⟨A7, c7⟩)) (by kernel_rfl)
          · refine TL.m Mk.bl ?_
            intro x6
            refine TL.nil ?_
            refine TQ.nxt (hX6 _ _ (by repeat (first | exact HasL.nil | refine HasL.cons (by repeat (first | exact Pick.hd | apply Pick.tl)) ?_)) ?_)
            refine RG.a1 3 rfl (fun X3 hX3 => ?_)
            refine TL.p (Pu.ld ty_sc24 (hq := Cells.own (by repeat (first | exact Pick.hd | apply Pick.tl)) hqm (subl_tie hp3))) ?_
            refine TL.nil ?_
            refine TQ.nxt (hX3 _ _ (by repeat (first | exact HasL.nil | refine HasL.cons (by repeat (first | exact Pick.hd | apply Pick.tl)) ?_)) ?_)
            refine RG.a1 7 rfl (fun X7 hX7 => ?_)
            first | refine TL.a0 ty_et24 ?_ | refine TL.ap ty_et24 ?_
            intro A7 c7
            refine TL.nil ?_
            refine TQ.nxt (hX7 _ _ (by repeat (first | exact HasL.nil | refine HasL.cons (by repeat (first | exact Pick.hd | apply Pick.tl)) ?_)) ?_)
            refine RG.a1 8 rfl (fun X8 hX8 => ?_)
            refine TL.p (Pu.nc (hq := CellsN.own (by repeat (first | exact Pick.hd | apply Pick.tl)) hqm (subl_tie0 hp3))) ?_
            refine TL.nil ?_
            refine TQ.nxt (hX8 _ _ (by repeat (first | exact HasL.nil | refine HasL.cons (by repeat (first | exact Pick.hd | apply Pick.tl)) ?_)) ?_)
            refine RG.a1 9 rfl (fun X9 hX9 => ?_)
            refine TL.se ty_sz24 ?_ (hput := putl_tie hp3)
            refine TL.nil ?_
            refine TQ.nxt (hX9 _ _ (by repeat (first | exact HasL.nil | refine HasL.cons (by repeat (first | exact Pick.hd | apply Pick.tl)) ?_)) ?_)
            exact RG.nil (TQ.sub (by repeat (first | exact trivial | refine ⟨rfl, ?_⟩ | refine ⟨trivial, ?_⟩)) (by repeat (first | exact KSub.nil | refine KSub.cons (by repeat (first | exact Pick.hd | apply Pick.tl)) ?_ | exact KSub.refl _ | refine KSub.drop ?_)) (hE ⟨A7, c7⟩)) (by kernel_rfl)
        · refine TL.m Mk.bl ?_
          intro x6
          refine TL.nil ?_
          refine TQ.nxt (hX6 _ _ (by repeat (first | exact HasL.nil | refine HasL.cons (by repeat (first | exact Pick.hd | apply Pick.tl)) ?_)) ?_)
          refine RG.a1 2 rfl (fun X2 hX2 => ?_)
          refine TL.p (Pu.nc (hq := CellsN.own (by repeat (first | exact Pick.hd | apply Pick.tl)) hqm (subl_tie0 hp3))) ?_
          refine TL.nil ?_
          refine TQ.nxt (hX2 _ _ (by repeat (first | exact HasL.nil | refine HasL.cons (by repeat (first | exact Pick.hd | apply Pick.tl)) ?_)) ?_)
          refine RG.a1 3 rfl (fun X3 hX3 => ?_)
          refine TL.p (Pu.ld ty_sc24 (hq := Cells.own (by repeat (first | exact Pick.hd | apply Pick.tl)) hqm (subl_tie hp3))) ?_
          refine TL.nil ?_
          refine TQ.nxt (hX3 _ _ (by repeat (first | exact HasL.nil | refine HasL.cons (by repeat (first | exact Pick.hd | apply Pick.tl)) ?_)) ?_)
          refine RG.a1 7 rfl (fun X7 hX7 => ?_)
          first | refine TL.a0 ty_et24 ?_ | refine TL.ap ty_et24 ?_
          intro A7 c7
          refine TL.nil ?_
          refine TQ.nxt (hX7 _ _ (by repeat (first | exact HasL.nil | refine HasL.cons (by repeat (first | exact Pick.hd | apply Pick.tl)) ?_)) ?_)
          refine RG.a1 8 rfl (fun X8 hX8 => ?_)
          refine TL.p (Pu.nc (hq := CellsN.own (by repeat (first | exact Pick.hd | apply Pick.tl)) hqm (subl_tie0 hp3))) ?_
          refine TL.nil ?_
          refine TQ.nxt (hX8 _ _ (by repeat (first | exact HasL.nil | refine HasL.cons (by repeat (first | exact Pick.hd | apply Pick.tl)) ?_)) ?_)
          refine RG.a1 9 rfl (fun X9 hX9 => ?_)
          refine TL.se ty_sz24 ?_ (hput := putl_tie hp3)
          refine TL.nil ?_
          refine TQ.nxt (hX9 _ _ (by repeat (first | exact HasL.nil | refine HasL.cons (by repeat (first | exact Pick.hd | apply Pick.tl)) ?_)) ?_)
          exact RG.nil (TQ.sub (by repeat (first | exact trivial | refine ⟨rfl, ?_⟩ | refine ⟨trivial, ?_⟩)) (by repeat (first | exact KSub.nil | refine KSub.cons (by repeat (first | exact Pick.hd | apply Pick.tl)) ?_ | exact KSub.refl _ | refine KSub.drop ?_)) (hE ⟨A7, c7⟩)) (by kernel_rfl)
      refine TL.p Pu.mv ?_
      refine TL.guard (t := 45) rfl (fun hg1 => ?_) (fun hg1 => ?_)
      · refine TL.gd Pu.mv ?_
        refine TL.gd (by first | exact Pu.fb ty_fa66_0 | exact Pu.fe ty_fa66_0) ?_
        refine TL.gd (Pu.ld ty_sc3) ?_
        refine TL.gd (show Pu _ _ _ _ (.bool (decide (P k 0 ∈ usedP m T P k))) from by rw [← mark_mem]; exact Pu.l1 ty_mp151 ty_zv4) ?_
        refine TL.gd Pu.no ?_
        refine TL.p Pu.kt ?_
        refine TL.p Pu.mv ?_
        refine TL.guard (t := 52) rfl (fun hg2 => ?_) (fun hg2 => ?_)
        · refine TL.gd Pu.mv ?_
          refine TL.gd (Pu.ln Tryz.underlying23) ?_
          refine TL.gd Pu.sb ?_
          refine TL.gd (by first | exact Pu.fb ty_fa66_1 | exact Pu.fe ty_fa66_1) ?_
          refine TL.gd (Pu.ld ty_sc3) ?_
          refine TL.gm Mk.bl ?_
          intro b5
          refine TL.cr rfl (enters Tryz.func78 rfl rfl) (fun w hw => by
              exact inOne_any _ _ _ (hw.holds _ (List.mem_cons_self ..))) ?_
          refine TL.p Pu.kt ?_
          refine TL.p Pu.mv ?_
          refine TL.guard (t := 61) rfl (fun hg3 => ?_) (fun hg3 => ?_)
          · refine TL.gd (by first | exact Pu.fb ty_fa66_2 | exact Pu.fe ty_fa66_2) ?_
            refine TL.gd (Pu.ld ty_sc5) ?_
            refine TL.gd Pu.le ?_
            refine TL.p Pu.kt ?_
            exact TL.sub (by repeat (first | exact trivial | refine ⟨rfl, ?_⟩ | refine ⟨trivial, ?_⟩ | refine ⟨(by show some (Value.bool _) = some (Value.bool _); simp [hg1, hg2, hg3, okPut]), ?_⟩)) (by repeat (first | exact KSub.nil | refine KSub.cons (by repeat (first | exact Pick.hd | apply Pick.tl)) ?_ | exact KSub.refl _ | refine KSub.drop ?_)) hM1
          · refine TL.gs ?_
            refine TL.gs ?_
            refine TL.gs ?_
            refine TL.p Pu.kf ?_
            exact TL.sub (by repeat (first | exact trivial | refine ⟨rfl, ?_⟩ | refine ⟨trivial, ?_⟩ | refine ⟨(by show some (Value.bool _) = some (Value.bool _); simp [hg1, hg2, hg3, okPut]), ?_⟩)) (by repeat (first | exact KSub.nil | refine KSub.cons (by repeat (first | exact Pick.hd | apply Pick.tl)) ?_ | exact KSub.refl _ | refine KSub.drop ?_)) hM1
        · refine TL.gs ?_
          refine TL.gs ?_
          refine TL.gs ?_
          refine TL.gs ?_
          refine TL.gs ?_
          refine TL.gs ?_
          refine TL.gs ?_
          refine TL.p Pu.kf ?_
          refine TL.p Pu.mv ?_
          refine TL.gs ?_
          refine TL.gs ?_
          refine TL.gs ?_
          refine TL.p Pu.kf ?_
          exact TL.sub (by repeat (first | exact trivial | refine ⟨rfl, ?_⟩ | refine ⟨trivial, ?_⟩ | refine ⟨(by show some (Value.bool _) = some (Value.bool _); simp [hg1, hg2, okPut]), ?_⟩)) (by repeat (first | exact KSub.nil | refine KSub.cons (by repeat (first | exact Pick.hd | apply Pick.tl)) ?_ | exact KSub.refl _ | refine KSub.drop ?_)) hM1
      · refine TL.gs ?_
        refine TL.gs ?_
        refine TL.gs ?_
        refine TL.gs ?_
        refine TL.gs ?_
        refine TL.p Pu.kf ?_
        refine TL.p Pu.mv ?_
        refine TL.gs ?_
        refine TL.gs ?_
        refine TL.gs ?_
        refine TL.gs ?_
        refine TL.gs ?_
        refine TL.gs ?_
        refine TL.gs ?_
        refine TL.p Pu.kf ?_
        refine TL.p Pu.mv ?_
        refine TL.gs ?_
        refine TL.gs ?_
        refine TL.gs ?_
        refine TL.p Pu.kf ?_
        exact TL.sub (by repeat (first | exact trivial | refine ⟨rfl, ?_⟩ | refine ⟨trivial, ?_⟩ | refine ⟨(by show some (Value.bool _) = some (Value.bool _); simp [hg1, okPut]), ?_⟩)) (by repeat (first | exact KSub.nil | refine KSub.cons (by repeat (first | exact Pick.hd | apply Pick.tl)) ?_ | exact KSub.refl _ | refine KSub.drop ?_)) hM1
    · try simp only [decide_eq_true_eq, decide_eq_false_iff_not, Bool.not_eq_true', Bool.not_eq_false', Bool.and_eq_true, Bool.or_eq_true, Bool.and_eq_false_iff, Bool.or_eq_false_iff, Int.not_lt, Int.not_le] at hc2
      obtain rfl : nP = k := by omega
      refine TW.exit ?_
      refine TQ.thenX ?_
      refine TQ.thenX ?_
      refine TQ.blkX ?_
      refine TQ.thenN (hY13 _ _ ?_)
      refine TW.region ?_
      refine TL.p Pu.mv ?_
      refine TL.cr rfl (enters Tryz.func92 rfl rfl) (fun w hw => by
          have hR := OwnR.rdr (hw.holds (.own An m cn 36 3 (tieX X (putT T P nP) D)) (by simp))
          refine everyTied_any (fs := []) (cs := []) (v := fun i j => .slice (X (3 * i + j)) (putT T P nP (3 * i + j)).length (D (3 * i + j))) (p := fun i => decide (cnt3 (putT T P nP) i ≤ 10)) (enters Tryz.func93 rfl rfl) (by omega) hR fun i hi w' hb => ?_
          have m0 := ownsT_mem (X := X) (T := putT T P nP) (D := D) (n := 3 * m) (show 3 * i < 3 * m by omega)
          have m1 := ownsT_mem (X := X) (T := putT T P nP) (D := D) (n := 3 * m) (show 3 * i + 1 < 3 * m by omega)
          have m2 := ownsT_mem (X := X) (T := putT T P nP) (D := D) (n := 3 * m) (show 3 * i + 2 < 3 * m by omega)
          have l0 := hTk nP (3 * i) (by omega)
          have l1 := hTk nP (3 * i + 1) (by omega)
          have l2 := hTk nP (3 * i + 2) (by omega)
          exact put1_any (L0 := putT T P nP (3 * i)) (L1 := putT T P nP (3 * i + 1)) (L2 := putT T P nP (3 * i + 2)) rfl rfl rfl (by show (putT T P nP (3 * i)).length + (putT T P nP (3 * i + 1)).length + (putT T P nP (3 * i + 2)).length ≤ 1000000; omega) ((OwnR.rdr (hw.holds (.own (X (3 * i)) (putT T P nP (3 * i)).length (D (3 * i)) 3 1 (iL (putT T P nP (3 * i)))) (by simp [m0]))).chg (Chg.of_ext hb) Apart.nil) ((OwnR.rdr (hw.holds (.own (X (3 * i + 1)) (putT T P nP (3 * i + 1)).length (D (3 * i + 1)) 3 1 (iL (putT T P nP (3 * i + 1)))) (by simp [m1]))).chg (Chg.of_ext hb) Apart.nil) ((OwnR.rdr (hw.holds (.own (X (3 * i + 2)) (putT T P nP (3 * i + 2)).length (D (3 * i + 2)) 3 1 (iL (putT T P nP (3 * i + 2)))) (by simp [m2]))).chg (Chg.of_ext hb) Apart.nil)) ?_
      refine TL.ct rfl (enters Tryz.func76 rfl rfl) (fun w hw => by
          exact need_any _ _ _ (by decide)) (fun hp2 => ?_) (fun hp2 => ?_)
      rotate_left
      · refine TQ.pan rfl ?_
        exact fun w hw => .inr ⟨by first | (rw [hC1 k hkn (need_no hp1).1]; decide) | (rw [hC2 (need_no hp2).1]; decide), by first | (rw [hC1 k hkn (need_no hp1).1, (need_no hp1).2]) | (rw [hC2 (need_no hp2).1, (need_no hp2).2]), hw.sub KSub.nil⟩
      refine TL.nil ?_
      refine TQ.end Tryz.results50 rfl (.nil) ?_
      exact fun w hw => .inl ⟨by
        unfold putC
        rw [allB_iff.2 hall, need_yes (by decide) hp2]
        rfl, (X, D), rfl, hw.sub (KSub.drop (KSub.refl _))⟩
end Go.Proofs.YtjephihlkjpohaaGreatDoor
namespace Go.Proofs.YtjephihlkjpohaaGreatDoor
set_option linter.all false
set_option linter.unusedVariables false
set_option linter.unusedSimpArgs false
open Go.RowKit
theorem pick_of_mem {φ : Fact} : ∀ {K : List Fact}, φ ∈ K → ∃ K1, Pick K φ K1
  | ψ :: K, h => by
    rcases List.mem_cons.1 h with rfl | h
    · exact ⟨K, .hd⟩
    · obtain ⟨K1, hp⟩ := pick_of_mem h
      exact ⟨ψ :: K1, .tl hp⟩
theorem pick_weak {φ : Fact} {K K1 K' R : List Fact} (hp : Pick K φ K1) (h : K'.Perm (R ++ K)) : ∃ K1', Pick K' φ K1' ∧ K1'.Perm (R ++ K1) := by
  obtain ⟨K1', hp'⟩ := pick_of_mem (h.mem_iff.2 (List.mem_append_right R hp.mem))
  refine ⟨K1', hp', ?_⟩
  have h1 : (φ :: K1').Perm (φ :: (R ++ K1)) := hp'.perm.symm.trans (h.trans ((hp.perm.append_left R).trans List.perm_middle))
  exact (List.perm_cons φ).1 h1
theorem KSub.weaken {K L : List Fact} (h : KSub K L) : ∀ {K' R : List Fact}, K'.Perm (R ++ K) → KSub K' L := by
  induction h with
  | nil => exact fun _ => .nil
  | nilOwn _ ih => exact fun h => .nilOwn (ih h)
  | cons hp _ ih =>
    intro K' R h
    obtain ⟨K1', hp', h1⟩ := pick_weak hp h
    exact .cons hp' (ih h1)
  | own hp he _ ih =>
    intro K' R h
    obtain ⟨K1', hp', h1⟩ := pick_weak hp h
    exact .own hp' he (ih h1)
  | ofBlk hp a b c d _ ih =>
    intro K' R h
    obtain ⟨K1', hp', h1⟩ := pick_weak hp h
    exact .ofBlk hp' a b c d (ih h1)
theorem ownsT_set {X : Nat → Option Addr} {T : Nat → List Int} {D : Nat → Nat} {s n k2 c2 : Nat} {A : Option Addr} {L : List Int} {r : Nat → List Value} (hs : s < n) (hk : k2 = L.length) (hr : ∀ i, i < k2 → r i = iL L i) : KSub (.own A k2 c2 3 1 r :: ownsT X T D n) (ownsT (updN X s A) (updN T s L) (updN D s c2) n) :=
  KSub.weaken (R := [.own (X s) (T s).length (D s) 3 1 (iL (T s))]) (ownsT_put (X := X) (T := T) (D := D) hk hr hs) (((ownsT_perm hs).cons _).trans (List.Perm.swap _ _ _))
theorem feet_new2 {S : List Nat} {w0 w : World} {K M R : List Fact} (hs : Sat S w0 K w) (hp : K.Perm (M ++ R)) (hS : ∀ b ∈ S, b ∈ feet R) : Sat (feet M) w M w ∧ ∀ b ∈ feet M, w0.heap.size ≤ b := by
  have h1 := hs.perm hp
  refine ⟨(Has.sat ⟨R, List.Perm.refl _⟩ h1).self, fun b hb => ?_⟩
  rcases h1.ge b (by rw [feet_append]; simp [hb]) with h2 | h2
  · have hnd := h1.nd
    rw [feet_append] at hnd
    exact absurd rfl ((List.nodup_append.1 hnd).2.2 b hb b (hS b h2))
  · exact h2
section
variable (r0 r1 : Nat → Int) (b : Int) (T : Nat → List Int)
def trB (i : Nat) : List Int × Nat := bestE r0 r1 b (T (3 * i)) (T (3 * i + 1))
def trD (i : Nat) : Int := bestC r0 r1 b (T (3 * i)) (T (3 * i + 1))
def tr3 : Nat → Nat → List Int
  | 0 => T
  | i + 1 => updN (updN (tr3 i) (3 * i) (mvd (T (3 * i)) (T (3 * i + 1)) (trB r0 r1 b T i).1)) (3 * i + 1) (mvd (T (3 * i + 1)) (T (3 * i)) (trB r0 r1 b T i).1)
def movs : Nat → List Int
  | 0 => []
  | i + 1 => movs i ++ (trB r0 r1 b T i).1
variable {r0 r1 b T}
theorem tr3_at : ∀ {i s : Nat}, 3 * i ≤ s → tr3 r0 r1 b T i s = T s
  | 0, _, _ => rfl
  | i + 1, s, h => by
    simp only [tr3, updN]
    rw [if_neg (by omega), if_neg (by omega)]
    exact tr3_at (by omega)
theorem bestE_len {L0 L1 : List Int} : (bestE r0 r1 b L0 L1).1.length ≤ L0.length + L1.length := by
  have := (setRun_le (L := sidesL L0 L1) (ok := mvOk r0 r1 b L0 L1) (2 ^ (L0.length + L1.length))).2
  rw [sides_len] at this
  exact this
theorem movs_len {m : Nat} (hT : ∀ i, i < m → cnt3 T i ≤ 10) : ∀ i, i ≤ m → (movs r0 r1 b T i).length ≤ 10 * i
  | 0, _ => by simp [movs]
  | i + 1, h => by
    have h1 := movs_len hT i (by omega)
    have h2 := hT i (by omega)
    have h3 := bestE_len (r0 := r0) (r1 := r1) (b := b) (L0 := T (3 * i)) (L1 := T (3 * i + 1))
    simp only [movs, List.length_append, trB, cnt3] at *
    omega
end
theorem InxL.filter {L : List Int} {p : Int → Bool} {n : Nat} (h : InxL L n) : InxL (L.filter p) n := fun x hx => h x (List.mem_filter.1 hx).1
theorem putT_inx {n m : Nat} {T : Nat → List Int} {P : Nat → Nat → Int} {nP : Nat} (hT : ∀ s, s < 3 * m → InxL (T s) n) (hok : ∀ k, k < nP → okPut n m T P k = true) : ∀ k, k ≤ nP → ∀ s, s < 3 * m → InxL (putT T P k s) n
  | 0, _, s, hs => hT s hs
  | k + 1, hk, s, hs => by
    have ih := putT_inx hT hok k (by omega)
    have h1 := hok k (by omega)
    unfold okPut at h1
    simp only [inB5, Bool.and_eq_true, decide_eq_true_eq] at h1
    obtain ⟨⟨⟨⟨g1, g2⟩, _⟩, _⟩, _⟩ := h1
    simp only [putT, updN]
    split
    · rename_i e
      intro x hx
      rw [mem_srt, List.mem_append] at hx
      rcases hx with hx | hx
      · rw [← e] at hx; exact ih s hs x hx
      · obtain rfl := List.mem_singleton.1 hx
        omega
    · exact ih s hs
theorem putC_ok {n m : Nat} {T : Nat → List Int} {P : Nat → Nat → Int} {nP : Nat} (h : putC n m T P nP = 0) : (∀ k, k < nP → okPut n m T P k = true) ∧ ∀ i, i < m → cnt3 (putT T P nP) i ≤ 10 := by
  unfold putC at h
  split at h
  · rename_i h1
    rw [Bool.and_eq_true] at h1
    exact ⟨allB_iff.1 h1.1, fun i hi => of_decide_eq_true (allB_iff.1 h1.2 i hi)⟩
  · cases h
section
variable (np : Nat) (pk : Nat → Nat → Int) (m : Nat) (l : Nat → Nat → Nat) (v : Nat → Nat → Nat → Int) (F : List Int) (P : Nat → Nat → Int) (nP : Nat) (b : Int)
def askT : Int := if checkV np pk m l v = 0 then (if inB5 0 1000000000 b then 0 else 2) else checkV np pk m l v
def tr2 : Nat → List Int := putT (takeT F (T0 l v)) P nP
def tradeC : Int :=
  if askT np pk m l v b = 0 then
    if takeC np F (T0 l v) m = 0 then
      if putC np m (takeT F (T0 l v)) P nP = 0 then
        if (allB m fun i => decide (trD (fun q => rl (pk q)) (fun q => rh (pk q)) b (tr2 l v F P nP) i = 0)) = true then 0 else 52
      else putC np m (takeT F (T0 l v)) P nP
    else takeC np F (T0 l v) m
  else askT np pk m l v b
def tradeN : Nat := if tradeC np pk m l v F P nP b = 0 then m else 0
def tradeT : Nat → List Int := tr3 (fun q => rl (pk q)) (fun q => rh (pk q)) b (tr2 l v F P nP) m
def tradeM : List Int := if tradeC np pk m l v F P nP b = 0 then srt (movs (fun q => rl (pk q)) (fun q => rh (pk q)) b (tr2 l v F P nP) m) else []
end
theorem bestC_or (r0 r1 : Nat → Int) (b : Int) (L0 L1 : List Int) : bestC r0 r1 b L0 L1 = 0 ∨ bestC r0 r1 b L0 L1 = 52 := by
  unfold bestC
  split
  · exact .inl rfl
  · exact .inr rfl
abbrev TRx := TKx × (Option Addr × Nat)
def tradeF (x y n : Nat) (T : Nat → List Int) (M : List Int) (z : TRx) : List Fact := .blk y 24 [.slice z.2.1 M.length z.2.2] :: .blk x 23 [.slice z.1.1.1 n z.1.1.2] :: .own z.2.1 M.length z.2.2 3 1 (iL M) :: tiesX n T z.1
end Go.Proofs.YtjephihlkjpohaaGreatDoor
namespace Go.Proofs.YtjephihlkjpohaaGreatDoor
set_option linter.all false
set_option linter.unusedVariables false
set_option linter.unusedSimpArgs false
open Go.RowKit
theorem trade_no {M K : List Fact} {x y : Nat} {np m nP : Nat} {pk : Nat → Nat → Int} {l : Nat → Nat → Nat} {v : Nat → Nat → Nat → Int} {F : List Int} {P : Nat → Nat → Int} {b : Int} {w w' : World} {code : Int} (hc : code ≠ 0) (e : tradeC np pk m l v F P nP b = code) (hs : Sat (feet M) w K w') (hK : KSub K [.blk y 24 [.slice none 0 0], .blk x 23 [.slice none 0 0]]) :
    ∃ z : TRx, Sat (feet M) w (tradeF x y (tradeN np pk m l v F P nP b) (tradeT pk m l v F P nP b) (tradeM np pk m l v F P nP b) z) w' ∧ Ending.panicked (errs code) = if tradeC np pk m l v F P nP b = 0 then .returned (.tuple #[]) else .panicked (errs (tradeC np pk m l v F P nP b)) := by
  subst e
  refine ⟨(((none, 0), fun _ => none, fun _ => 0), (none, 0)), ?_, by rw [if_neg hc]⟩
  unfold tradeF tradeN tradeM
  rw [if_neg hc, if_neg hc]
  exact (hs.sub hK).sub (KSub.cons Pick.hd (KSub.cons Pick.hd (KSub.nilOwn (KSub.nilOwn KSub.nil))))
theorem tie_set2 {X : Nat → Option Addr} {T : Nat → List Int} {D : Nat → Nat} {i : Nat} {A1 A2 : Option Addr} {c1 c2 : Nat} {L1 L2 : List Int} (j : Nat) : updR (tieX X T D) i [.slice A1 L1.length c1, .slice A2 L2.length c2, .slice (X (3 * i + 2)) (T (3 * i + 2)).length (D (3 * i + 2))] j = tieX (updN (updN X (3 * i) A1) (3 * i + 1) A2) (updN (updN T (3 * i) L1) (3 * i + 1) L2) (updN (updN D (3 * i) c1) (3 * i + 1) c2) j := by
  unfold updR
  by_cases hj : j = i
  · subst hj
    rw [if_pos rfl]
    simp [tieX, updN]
  · rw [if_neg hj]
    unfold tieX updN
    repeat rw [if_neg (by omega)]
section
variable {np m nP : Nat} {pk : Nat → Nat → Int} {l : Nat → Nat → Nat} {v : Nat → Nat → Nat → Int} {F : List Int} {P : Nat → Nat → Int} {b : Int}
theorem T0_bd {n : Nat} (h : ∀ i, i < m → (∀ j, j < 3 → allB (l i j) (riseP (v i j) n) = true) ∧ tot (l i) 3 ≤ 10) : ∀ s, s < 3 * m → InxL (T0 l v s) n ∧ (T0 l v s).length ≤ 10 := fun s hs => by
  obtain ⟨h1, h2⟩ := h (s / 3) (by omega)
  rw [tot3] at h2
  refine ⟨inxL_toI (rise_inx (h1 (s % 3) (by omega))), ?_⟩
  unfold T0
  rw [toI_len]
  have : s % 3 = 0 ∨ s % 3 = 1 ∨ s % 3 = 2 := by omega
  rcases this with h | h | h <;> rw [h] <;> omega
end
set_option maxRecDepth 100000 in
set_option maxHeartbeats 8000000 in
theorem trade1_any {W0 w : World} {A AT Af AP : Option Addr} {np cp m cT nf cf nP cP bp bt bb bo bn x y : Nat} {pk : Nat → Nat → Int} {a : Nat → Nat → Option Addr} {l c : Nat → Nat → Nat} {v : Nat → Nat → Nat → Int} {F : List Int} {P : Nat → Nat → Int} {b : Int}
    (hL : Lay W0 A AT np m pk a l c v) (hF : RdR W0 1 Af nf (iL F)) (hnf : nf = F.length) (hf : nf ≤ 1000) (hPR : RdR W0 3 AP nP (fun k => putL (P k))) (hnP : nP ≤ 1000) (hP2 : ∀ k, k < nP → 0 ≤ P k 2)
    (hb : Below W0.heap.size W0 w) (hS : ∀ b ∈ [y, x], W0.heap.size ≤ b)
    (h1 : OldB w bp [.slice A np cp]) (h2 : OldB w bt [.slice AT m cT]) (h3 : OldB w bb [.int .i64 b]) (h4 : OldB w bo [.slice Af nf cf]) (h5 : OldB w bn [.slice AP nP cP]) (n1 : bp ∉ [y, x]) (n2 : bt ∉ [y, x]) (n3 : bb ∉ [y, x]) (n4 : bo ∉ [y, x]) (n5 : bn ∉ [y, x])
    (hM : Sat [y, x] w [.blk y 24 [.slice none 0 0], .blk x 23 [.slice none 0 0]] w) :
    Doing Tryz.prog 46 #[.pointer (some ⟨bp, 0, none⟩), .pointer (some ⟨bt, 0, none⟩), .pointer (some ⟨bb, 0, none⟩), .pointer (some ⟨bo, 0, none⟩), .pointer (some ⟨bn, 0, none⟩), .pointer (some ⟨x, 0, none⟩), .pointer (some ⟨y, 0, none⟩)] [.blk y 24 [.slice none 0 0], .blk x 23 [.slice none 0 0]] TRx
      (tradeF x y (tradeN np pk m l v F P nP b) (tradeT pk m l v F P nP b) (tradeM np pk m l v F P nP b)) (tradeC np pk m l v F P nP b) w := by
  have hnp := hL.hnp
  have hm := hL.hm
  have ap1 := apart_of n1
  have ap2 := apart_of n2
  have ap3 := apart_of n3
  have ap4 := apart_of n4
  have ap5 := apart_of n5
  refine K_enter (args := [.pointer (some ⟨bp, 0, none⟩), .pointer (some ⟨bt, 0, none⟩), .pointer (some ⟨bb, 0, none⟩), .pointer (some ⟨bo, 0, none⟩), .pointer (some ⟨bn, 0, none⟩), .pointer (some ⟨x, 0, none⟩), .pointer (some ⟨y, 0, none⟩)]) (S := [y, x]) (K := [.blk y 24 [.slice none 0 0], .blk x 23 [.slice none 0 0]]) Tryz.func46 rfl Tryz.ntmps46 rfl hM ?_
  refine TW.seq fun Y1 hY1 => ?_
  refine TW.region ?_
  refine TL.p (by first | exact (Pu.ld ty_sc22) | exact (Pu.ldo ty_sc22)) ?_
  refine TL.p (by first | exact (Pu.ld ty_sc23) | exact (Pu.ldo ty_sc23)) ?_
  refine TL.ct rfl (enters Tryz.func47 rfl rfl) (fun w hw => by
      exact (hL.ext (old_below hb hw hS)).check) (fun hp1 => ?_) (fun hp1 => ?_)
  rotate_left
  · have hp1' : checkV np pk m l v ≠ 0 := hp1
    have hcode : tradeC np pk m l v F P nP b = checkV np pk m l v := by unfold tradeC askT; rw [if_neg hp1', if_neg hp1']
    refine TQ.thenP ?_
    refine TQ.pan rfl ?_
    exact fun w hw => trade_no (by first | exact hp5 | exact hp4 | exact hp3 | exact hp2 | exact hp1) hcode hw (by repeat (first | exact KSub.nil | refine KSub.cons (by repeat (first | exact Pick.hd | apply Pick.tl)) ?_))
  refine TL.nil ?_
  refine TQ.thenN (hY1 _ _ ?_)
  refine TW.seq fun Y2 hY2 => ?_
  refine TW.region ?_
  refine TL.p (by first | exact (Pu.ld ty_sc3) | exact (Pu.ldo ty_sc3)) ?_
  refine TL.ct rfl (enters Tryz.func48 rfl rfl) (fun w hw => by
      exact bounded_any _ _) (fun hp2 => ?_) (fun hp2 => ?_)
  rotate_left
  · have hp1' : checkV np pk m l v = 0 := hp1
    have hcode : tradeC np pk m l v F P nP b = (if inB5 0 1000000000 b then 0 else 2) := by unfold tradeC askT; rw [if_pos hp1', if_neg hp2]
    refine TQ.thenP ?_
    refine TQ.pan rfl ?_
    exact fun w hw => trade_no (by first | exact hp5 | exact hp4 | exact hp3 | exact hp2 | exact hp1) hcode hw (by repeat (first | exact KSub.nil | refine KSub.cons (by repeat (first | exact Pick.hd | apply Pick.tl)) ?_))
  refine TL.nil ?_
  refine TQ.thenN (hY2 _ _ ?_)
  refine TW.seq fun Y3 hY3 => ?_
  refine TW.region ?_
  refine TL.p (by first | exact (Pu.ld ty_sc23) | exact (Pu.ldo ty_sc23)) ?_
  refine TL.p (by first | exact (Pu.ld ty_sc24) | exact (Pu.ldo ty_sc24)) ?_
  refine TL.p (by first | exact (Pu.ld ty_sc22) | exact (Pu.ldo ty_sc22)) ?_
  refine TL.p (Pu.ln Tryz.underlying22) ?_
  refine TL.ctk rfl (enters Tryz.func49 rfl rfl) (M := []) (List.Perm.refl _) (fun w hw => by
      have hLw := hL.ext (old_below hb hw hS)
      exact take_any hm hnf hf hnp hLw.hL hLw.hT hLw.hI (hF.chg (Chg.of_ext (old_below hb hw hS)) Apart.nil)) ?_ (fun hp3 => ?_)
  rotate_left
  · have hask : askT np pk m l v b = 0 := by unfold askT; rw [if_pos (show checkV np pk m l v = 0 from hp1)]; exact hp2
    have hcode : tradeC np pk m l v F P nP b = takeC np F (T0 l v) m := by unfold tradeC; rw [if_pos hask, if_neg hp3]
    refine TQ.thenP ?_
    refine TQ.pan rfl ?_
    exact fun w hw => trade_no (by first | exact hp5 | exact hp4 | exact hp3 | exact hp2 | exact hp1) hcode hw (by repeat (first | exact KSub.nil | refine KSub.cons (by repeat (first | exact Pick.hd | apply Pick.tl)) ?_))
  rintro ⟨⟨An, cn⟩, X, D⟩ hp3
  refine TL.perm List.perm_append_comm ?_
  refine TL.p Pu.as ?_
  refine TL.nil ?_
  refine TQ.thenN (hY3 _ _ ?_)
  refine TW.seq fun Y4 hY4 => ?_
  refine TW.region ?_
  refine TL.p Pu.mv ?_
  refine TL.p (by first | exact (Pu.ld ty_sc25) | exact (Pu.ldo ty_sc25)) ?_
  refine TL.p (by first | exact (Pu.ld ty_sc22) | exact (Pu.ldo ty_sc22)) ?_
  refine TL.p (Pu.ln Tryz.underlying22) ?_
  refine TL.ctk rfl (enters Tryz.func50 rfl rfl) (M := tiesX m (takeT F (T0 l v)) ((An, cn), X, D)) List.perm_append_comm (fun w hw => by
      obtain ⟨hself, hge⟩ := feet_new2 (M := tiesX m (takeT F (T0 l v)) ((An, cn), X, D)) (R := [.blk y 24 [.slice none 0 0], .blk x 23 [.slice none 0 0]]) hw List.perm_append_comm (by intro b hb9; simpa [feet, Fact.foot] using hb9)
      have hPw := hPR.chg (Chg.of_ext (old_below hb hw hS)) Apart.nil
      have hbd := T0_bd (l := l) (v := v) (check_ok hp1).2.2
      have hS9 : ∀ b9 ∈ feet (tiesX m (takeT F (T0 l v)) ((An, cn), X, D)), W0.heap.size ≤ b9 := fun b9 h9 => Nat.le_trans hb.size (hge b9 h9)
      exact put_any hm hnP hnp (fun s hs => Nat.le_trans takeT_len (by have := (hbd s hs).2; omega)) hP2 hPw (hPR.apart hS9) hself) ?_ (fun hp4 => ?_)
  rotate_left
  · have hask : askT np pk m l v b = 0 := by unfold askT; rw [if_pos (show checkV np pk m l v = 0 from hp1)]; exact hp2
    have hcode : tradeC np pk m l v F P nP b = putC np m (takeT F (T0 l v)) P nP := by unfold tradeC; rw [if_pos hask, if_pos hp3, if_neg hp4]
    refine TQ.thenP ?_
    refine TQ.pan rfl ?_
    exact fun w hw => trade_no (by first | exact hp5 | exact hp4 | exact hp3 | exact hp2 | exact hp1) hcode hw (by repeat (first | exact KSub.nil | refine KSub.cons (by repeat (first | exact Pick.hd | apply Pick.tl)) ?_))
  rintro ⟨X2, D2⟩ hp4
  refine TL.perm List.perm_append_comm ?_
  refine TL.nil ?_
  refine TQ.thenN (hY4 _ _ ?_)
  refine TW.seq fun Y5 hY5 => ?_
  refine TW.region ?_
  refine TL.p (by first | exact (Pu.ld ty_sc22) | exact (Pu.ldo ty_sc22)) ?_
  refine TL.call (M := []) rfl (enters Tryz.func51 rfl rfl) (List.Perm.refl _) rfl (fun w hw => by
      have hLw := hL.ext (old_below hb hw hS)
      exact rests_any hLw.hG hnp (check_ok hp1).2.1 hLw.hR) ?_
  rintro ⟨Ar, cr⟩
  generalize hT2 : putT (takeT F (T0 l v)) P nP = T2
  simp only [tiesX, List.cons_append, List.nil_append]
  refine TL.p Pu.as ?_
  refine TL.nil ?_
  refine TQ.thenN (hY5 _ _ ?_)
  refine TW.seq fun Y6 hY6 => ?_
  refine TW.region ?_
  refine TL.p Pu.as ?_
  refine TL.nil ?_
  refine TQ.thenN (hY6 _ _ ?_)
  refine TW.seq fun Y7 hY7 => ?_
  refine TW.seq fun Y8 hY8 => ?_
  refine TW.region ?_
  refine TL.p Pu.mv ?_
  refine TL.p (Pu.ln Tryz.underlying23) ?_
  refine TL.p Pu.mv ?_
  refine TL.nil ?_
  refine TQ.thenN (hY8 _ _ ?_)
  refine TW.block ?_
  obtain ⟨hok, hcnt⟩ := putC_ok hp4
  rw [hT2] at hcnt
  have hbd := T0_bd (l := l) (v := v) (check_ok hp1).2.2
  have hinx : ∀ s, s < 3 * m → InxL (T2 s) np := fun s hs => by
    rw [← hT2]
    exact putT_inx (fun s hs => (hbd s hs).1.filter) hok nP (Nat.le_refl _) s hs
  have hbb := need_yes (by decide) hp2
  simp only [inB5, Bool.and_eq_true, decide_eq_true_eq] at hbb
  have hRo := RestOk.of_packs (check_ok hp1).2.1
  have hask : askT np pk m l v b = 0 := by unfold askT; rw [if_pos (show checkV np pk m l v = 0 from hp1)]; exact hp2
  have hcodeD : tradeC np pk m l v F P nP b = if (allB m fun i => decide (trD (fun q => rl (pk q)) (fun q => rh (pk q)) b T2 i = 0)) = true then 0 else 52 := by
    unfold tradeC
    rw [if_pos hask, if_pos hp3, if_pos hp4, show tr2 l v F P nP = T2 from hT2]
  obtain ⟨r0, hr0⟩ : ∃ r : Nat → Int, r = fun q => rl (pk q) := ⟨_, rfl⟩
  obtain ⟨r1, hr1⟩ : ∃ r : Nat → Int, r = fun q => rh (pk q) := ⟨_, rfl⟩
  have hRr : (fun q => spL (rl (pk q)) (rh (pk q))) = fun q => spL (r0 q) (r1 q) := by rw [hr0, hr1]
  rw [← hr0, ← hr1] at hRo hcodeD
  have hTT : tradeT pk m l v F P nP b = tr3 r0 r1 b T2 m := by unfold tradeT; rw [show tr2 l v F P nP = T2 from hT2, ← hr0, ← hr1]
  have hMM : tradeC np pk m l v F P nP b = 0 → tradeM np pk m l v F P nP b = srt (movs r0 r1 b T2 m) := fun h => by unfold tradeM; rw [if_pos h, show tr2 l v F P nP = T2 from hT2, ← hr0, ← hr1]
  clear hr0 hr1
  have hml := movs_len (r0 := r0) (r1 := r1) (b := b) hcnt
  refine TW.loop6 (fun (i : Nat) (X : Nat → Option Addr) (D : Nat → Nat) (Am : Option Addr) (cm : Nat) (g : Nat) => [(33, .int .i64 (i : Int)), (32, .int .i64 (m : Int)), (31, .slice An m cn), (7, .slice An m cn), (8, .slice Ar np cr), (9, .slice Am g cm), (2, .pointer (some ⟨bb, 0, none⟩)), (5, .pointer (some ⟨x, 0, none⟩)), (6, .pointer (some ⟨y, 0, none⟩))]) (fun i X D Am cm g => .own Am g cm 3 1 (iL (movs r0 r1 b T2 i)) :: .own An m cn 36 3 (tieX X (tr3 r0 r1 b T2 i) D) :: .own Ar np cr 43 2 (fun q => spL (r0 q) (r1 q)) :: .blk y 24 [.slice none 0 0] :: .blk x 23 [.slice none 0 0] :: ownsT X (tr3 r0 r1 b T2 i) D (3 * m)) (fun i X D Am cm g => i ≤ m ∧ g = (movs r0 r1 b T2 i).length ∧ ∀ j, j < i → trD r0 r1 b T2 j = 0) (fun i X D Am cm g => m - i) 0 X2 D2 none 0 0 (by repeat (first | exact trivial | refine ⟨rfl, ?_⟩ | refine ⟨trivial, ?_⟩)) ?_ ?_ ?_
  · rw [hRr]
    refine KSub.nilOwn ?_
    repeat (first | refine KSub.cons (by repeat (first | exact Pick.hd | apply Pick.tl)) ?_ | exact KSub.refl _ | refine KSub.drop ?_)
  · exact ⟨Nat.zero_le _, rfl, fun j hj => by omega⟩
  rintro i X D Am cm g ⟨hi, hg, hall⟩ Z0 hZ0
  clear hRr
  have hmi := hml i hi
  refine TW.seq fun Y9 hY9 => ?_
  refine TW.region ?_
  refine TL.p Pu.lt ?_
  refine TL.nil ?_
  refine TQ.thenN (hY9 _ _ ?_)
  refine TW.seq fun Y10 hY10 => ?_
  refine TW.cond rfl (fun hc0 => ?_) (fun hc0 => ?_)
  · try simp only [decide_eq_true_eq, decide_eq_false_iff_not, Bool.not_eq_true', Bool.not_eq_false', Bool.and_eq_true, Bool.or_eq_true, Bool.and_eq_false_iff, Bool.or_eq_false_iff, Int.not_lt, Int.not_le] at hc0
    have him : i < m := by omega
    have hci := hcnt i him
    have m0 := ownsT_mem (X := X) (T := tr3 r0 r1 b T2 i) (D := D) (n := 3 * m) (show 3 * i < 3 * m by omega)
    have m1 := ownsT_mem (X := X) (T := tr3 r0 r1 b T2 i) (D := D) (n := 3 * m) (show 3 * i + 1 < 3 * m by omega)
    have i0 := hinx (3 * i) (by omega)
    have i1 := hinx (3 * i + 1) (by omega)
    have hcc : (T2 (3 * i)).length + (T2 (3 * i + 1)).length ≤ 10 := by unfold cnt3 at hci; omega
    have hbl := bestE_len (r0 := r0) (r1 := r1) (b := b) (L0 := T2 (3 * i)) (L1 := T2 (3 * i + 1))
    have hml2 := hml (i + 1) (by omega)
    have hmm : (movs r0 r1 b T2 (i + 1)).length = (movs r0 r1 b T2 i).length + (bestE r0 r1 b (T2 (3 * i)) (T2 (3 * i + 1))).1.length := by simp only [movs, List.length_append, trB]
    refine TW.skip ?_
    refine TQ.thenN (hY10 _ _ ?_)
    refine TW.seq fun Y11 hY11 => ?_
    refine TW.block ?_
    refine TW.seq fun Y12 hY12 => ?_
    refine TW.region ?_
    refine TL.p Pu.mv ?_
    refine TL.p (Pu.el ty_et23) ?_
    refine TL.p (by first | exact (Pu.lds ty_ag36) | exact (Pu.ldso ty_ag36)) ?_
    refine TL.m (Mk.al ty_zr36) ?_
    intro b1
    refine TL.p Pu.as ?_
    first | refine TL.st ty_sz36 ?_ | refine TL.se ty_sz36 ?_
    refine TL.nil ?_
    refine TQ.thenN (hY12 _ _ ?_)
    refine TW.seq fun Y13 hY13 => ?_
    refine TW.region ?_
    refine TL.p (by first | exact (Pu.lds ty_ag36) | exact (Pu.ldso ty_ag36)) ?_
    refine TL.p Pu.mv ?_
    refine TL.p Pu.bd ?_
    refine TL.m (Mk.al ty_zr112) ?_
    intro b2
    first | refine TL.st ty_sz112 ?_ | refine TL.se ty_sz112 ?_
    refine TL.nil ?_
    refine TQ.thenN (hY13 _ _ ?_)
    refine TW.seq fun Y14 hY14 => ?_
    refine TW.region ?_
    refine TL.p (by first | exact (Pu.lds ty_ag112) | exact (Pu.ldso ty_ag112)) ?_
    refine TL.p (by first | exact (Pu.ld ty_sc3) | exact (Pu.ldo ty_sc3)) ?_
    refine TL.ctk rfl (enters Tryz.func52 rfl rfl) (M := []) (List.Perm.refl _) (fun w hw => by
        have e0 : tr3 r0 r1 b T2 i (3 * i) = T2 (3 * i) := tr3_at (by omega)
        have e1 : tr3 r0 r1 b T2 i (3 * i + 1) = T2 (3 * i + 1) := tr3_at (by omega)
        have q0 := OwnR.rdr (hw.holds (.own (X (3 * i)) (tr3 r0 r1 b T2 i (3 * i)).length (D (3 * i)) 3 1 (iL (tr3 r0 r1 b T2 i (3 * i)))) (by simp [m0]))
        have q1 := OwnR.rdr (hw.holds (.own (X (3 * i + 1)) (tr3 r0 r1 b T2 i (3 * i + 1)).length (D (3 * i + 1)) 3 1 (iL (tr3 r0 r1 b T2 i (3 * i + 1)))) (by simp [m1]))
        rw [show iL (tr3 r0 r1 b T2 i (3 * i)) = iL (T2 (3 * i)) by rw [e0]] at q0
        rw [show iL (tr3 r0 r1 b T2 i (3 * i + 1)) = iL (T2 (3 * i + 1)) by rw [e1]] at q1
        exact settle_any (a := fun j => X (3 * i + j)) (l := fun j => (tr3 r0 r1 b T2 i (3 * i + j)).length) (c := fun j => D (3 * i + j)) (Ar := Ar) (cr := cr) (L0 := T2 (3 * i)) (L1 := T2 (3 * i + 1)) (by show (tr3 r0 r1 b T2 i (3 * i)).length = _; rw [e0]) (by show (tr3 r0 r1 b T2 i (3 * i + 1)).length = _; rw [e1]) (by show (tr3 r0 r1 b T2 i (3 * i)).length + (tr3 r0 r1 b T2 i (3 * i + 1)).length ≤ 30; rw [e0, e1]; omega) hRo (by omega) i0 i1 (OwnR.rdr (hw.holds (.own Ar np cr 43 2 (fun q => spL (r0 q) (r1 q))) (by simp))) q0 q1) ?_ (fun hp5 => ?_)
    rotate_left
    · have hcode : tradeC np pk m l v F P nP b = bestC r0 r1 b (T2 (3 * i)) (T2 (3 * i + 1)) := by
        rw [hcodeD]
        have h52 := (bestC_or r0 r1 b (T2 (3 * i)) (T2 (3 * i + 1))).resolve_left hp5
        have : (allB m fun i => decide (trD r0 r1 b T2 i = 0)) = false := by
          cases h : (allB m fun i => decide (trD r0 r1 b T2 i = 0)) with
          | false => rfl
          | true => exact absurd (of_decide_eq_true (allB_iff.1 h i him)) hp5
        rw [this, h52]
        rfl
      refine TQ.thenP ?_
      refine TQ.blkP ?_
      refine TQ.thenP ?_
      refine TQ.thenP ?_
      refine TQ.blkP ?_
      refine TQ.thenP ?_
      refine TQ.pan rfl ?_
      exact fun w hw => trade_no (by first | exact hp5 | exact hp4 | exact hp3 | exact hp2 | exact hp1) hcode hw (by repeat (first | exact KSub.nil | refine KSub.cons (by repeat (first | exact Pick.hd | apply Pick.tl)) ?_))
    rintro ⟨As, cs⟩ hp5
    refine TL.p Pu.as ?_
    refine TL.nil ?_
    refine TQ.thenN (hY14 _ _ ?_)
    refine TW.seq fun Y15 hY15 => ?_
    refine TW.region ?_
    refine TL.p Pu.mv ?_
    refine TL.p Pu.mv ?_
    first | refine TL.a0 ty_et24 ?_ | refine TL.ap ty_et24 ?_
    intro A3 c3
    refine TL.p Pu.as ?_
    refine TL.nil ?_
    refine TQ.thenN (hY15 _ _ ?_)
    refine TW.region ?_
    refine TL.p Pu.mv ?_
    refine TL.p Pu.mv ?_
    refine TL.p (by first | exact (Pu.lds ty_ag112) | exact (Pu.ldso ty_ag112)) ?_
    refine TL.p Pu.mv ?_
    refine TL.call (M := []) rfl (enters Tryz.func53 rfl rfl) (List.Perm.refl _) rfl (fun w hw => by
        have e0 : tr3 r0 r1 b T2 i (3 * i) = T2 (3 * i) := tr3_at (by omega)
        have e1 : tr3 r0 r1 b T2 i (3 * i + 1) = T2 (3 * i + 1) := tr3_at (by omega)
        have q0 := OwnR.rdr (hw.holds (.own (X (3 * i)) (tr3 r0 r1 b T2 i (3 * i)).length (D (3 * i)) 3 1 (iL (tr3 r0 r1 b T2 i (3 * i)))) (by simp [m0]))
        have q1 := OwnR.rdr (hw.holds (.own (X (3 * i + 1)) (tr3 r0 r1 b T2 i (3 * i + 1)).length (D (3 * i + 1)) 3 1 (iL (tr3 r0 r1 b T2 i (3 * i + 1)))) (by simp [m1]))
        rw [show iL (tr3 r0 r1 b T2 i (3 * i)) = iL (T2 (3 * i)) by rw [e0]] at q0
        rw [show iL (tr3 r0 r1 b T2 i (3 * i + 1)) = iL (T2 (3 * i + 1)) by rw [e1]] at q1
        exact moved_any (a := fun j => X (3 * i + j)) (l := fun j => (tr3 r0 r1 b T2 i (3 * i + j)).length) (c := fun j => D (3 * i + j)) (L0 := T2 (3 * i)) (L1 := T2 (3 * i + 1)) (M := (bestE r0 r1 b (T2 (3 * i)) (T2 (3 * i + 1))).1) (by show (tr3 r0 r1 b T2 i (3 * i)).length = _; rw [e0]) (by show (tr3 r0 r1 b T2 i (3 * i + 1)).length = _; rw [e1]) rfl (by show (tr3 r0 r1 b T2 i (3 * i)).length ≤ 1000; rw [e0]; omega) (by show (tr3 r0 r1 b T2 i (3 * i + 1)).length ≤ 1000; rw [e1]; omega) (by omega) q0 q1 (OwnR.rdr (hw.holds (.own As (bestE r0 r1 b (T2 (3 * i)) (T2 (3 * i + 1))).1.length cs 3 1 (iL (bestE r0 r1 b (T2 (3 * i)) (T2 (3 * i + 1))).1)) (by simp)))) ?_
    rintro ⟨⟨A1, c1⟩, ⟨A2, c2⟩⟩
    simp only [mvT, mvK, List.cons_append, List.nil_append]
    refine TL.p Pu.fd ?_
    refine TL.p (Pu.el ty_et23) ?_
    first | refine TL.st ty_sz36 ?_ | refine TL.se ty_sz36 ?_
    refine TL.nil ?_
    refine TQ.blkN ?_
    refine TQ.thenN (hY11 _ _ ?_)
    refine TW.region ?_
    have s0 : 3 * i < 3 * m := by omega
    have s1 : 3 * i + 1 < 3 * m := by omega
    obtain ⟨Ms, hMs⟩ : ∃ y, y = (bestE r0 r1 b (T2 (3 * i)) (T2 (3 * i + 1))).1 := ⟨_, rfl⟩
    simp only [← hMs]
    have hset1 := ownsT_set (X := X) (T := tr3 r0 r1 b T2 i) (D := D) (A := A1) (c2 := c1) (L := mvd (T2 (3 * i)) (T2 (3 * i + 1)) Ms) (r := iL (mvd (T2 (3 * i)) (T2 (3 * i + 1)) Ms)) s0 rfl (fun _ _ => rfl)
    have hset2 := ownsT_set (X := updN X (3 * i) A1) (T := updN (tr3 r0 r1 b T2 i) (3 * i) (mvd (T2 (3 * i)) (T2 (3 * i + 1)) Ms)) (D := updN D (3 * i) c1) (A := A2) (c2 := c2) (L := mvd (T2 (3 * i + 1)) (T2 (3 * i)) Ms) (r := iL (mvd (T2 (3 * i + 1)) (T2 (3 * i)) Ms)) s1 rfl (fun _ _ => rfl)
    refine TL.subK (K' := .own An m cn 36 3 (updR (tieX X (tr3 r0 r1 b T2 i) D) i [.slice A1 (mvd (T2 (3 * i)) (T2 (3 * i + 1)) Ms).length c1, .slice A2 (mvd (T2 (3 * i + 1)) (T2 (3 * i)) Ms).length c2, .slice (X (3 * i + 2)) (tr3 r0 r1 b T2 i (3 * i + 2)).length (D (3 * i + 2))]) :: .own A3 (g + Ms.length) c3 3 1 (catR g (iL (movs r0 r1 b T2 i)) (iL Ms)) :: .own Ar np cr 43 2 (fun q => spL (r0 q) (r1 q)) :: .blk y 24 [.slice none 0 0] :: .blk x 23 [.slice none 0 0] :: .own A2 (mvd (T2 (3 * i + 1)) (T2 (3 * i)) Ms).length c2 3 1 (iL (mvd (T2 (3 * i + 1)) (T2 (3 * i)) Ms)) :: .own A1 (mvd (T2 (3 * i)) (T2 (3 * i + 1)) Ms).length c1 3 1 (iL (mvd (T2 (3 * i)) (T2 (3 * i + 1)) Ms)) :: ownsT X (tr3 r0 r1 b T2 i) D (3 * m)) (by repeat (first | refine KSub.cons (by repeat (first | exact Pick.hd | apply Pick.tl)) ?_ | exact KSub.refl _ | refine KSub.drop ?_)) ?_
    refine TL.subK (KSub.cons Pick.hd (KSub.cons Pick.hd (KSub.cons Pick.hd (KSub.cons Pick.hd (KSub.cons Pick.hd (KSub.cons Pick.hd hset1)))))) ?_
    refine TL.subK (KSub.cons Pick.hd (KSub.cons Pick.hd (KSub.cons Pick.hd (KSub.cons Pick.hd (KSub.cons Pick.hd hset2))))) ?_
    refine TL.p Pu.ad ?_
    refine TL.p Pu.mv ?_
    refine TL.nil ?_
    refine TQ.thenN (hZ0 (i + 1) (updN (updN X (3 * i) A1) (3 * i + 1) A2) (updN (updN D (3 * i) c1) (3 * i + 1) c2) _ _ _ _ _ ?_ ?_ (by repeat (first | exact trivial | refine ⟨rfl, ?_⟩ | refine ⟨trivial, ?_⟩)) ?_)
    · refine ⟨by omega, by rw [hmm, ← hg, hMs], fun j hj => ?_⟩
      by_cases h : j = i
      · subst h; exact hp5
      · exact hall j (by omega)
    · exact (by first | omega | (simp only []; omega) | (simp; omega))
    · have e3 : tr3 r0 r1 b T2 (i + 1) = updN (updN (tr3 r0 r1 b T2 i) (3 * i) (mvd (T2 (3 * i)) (T2 (3 * i + 1)) Ms)) (3 * i + 1) (mvd (T2 (3 * i + 1)) (T2 (3 * i)) Ms) := by rw [hMs]; rfl
      have e4 : movs r0 r1 b T2 (i + 1) = movs r0 r1 b T2 i ++ Ms := by rw [hMs]; rfl
      rw [e3, e4]
      refine KSub.own (by repeat (first | exact Pick.hd | apply Pick.tl)) (fun q _ => iL_cat hg q) (KSub.own (by repeat (first | exact Pick.hd | apply Pick.tl)) (fun q _ => tie_set2 q) (KSub.cons (by repeat (first | exact Pick.hd | apply Pick.tl)) (KSub.cons (by repeat (first | exact Pick.hd | apply Pick.tl)) (KSub.cons (by repeat (first | exact Pick.hd | apply Pick.tl)) (KSub.refl _)))))
  · try simp only [decide_eq_true_eq, decide_eq_false_iff_not, Bool.not_eq_true', Bool.not_eq_false', Bool.and_eq_true, Bool.or_eq_true, Bool.and_eq_false_iff, Bool.or_eq_false_iff, Int.not_lt, Int.not_le] at hc0
    obtain rfl : m = i := by omega
    refine TW.exit ?_
    refine TQ.thenX ?_
    refine TQ.thenX ?_
    refine TQ.blkX ?_
    refine TQ.thenN (hY7 _ _ ?_)
    refine TW.seq fun Y16 hY16 => ?_
    refine TW.region ?_
    refine TL.p Pu.mv ?_
    refine TL.call rfl (enters Tryz.func54 rfl rfl) (M := [.own Am g cm 3 1 (iL (movs r0 r1 b T2 m))]) (List.Perm.refl _) rfl (fun w hw => by
        exact sortI_any hg (by omega) (hw.holds (.own Am g cm 3 1 (iL (movs r0 r1 b T2 m))) (List.mem_cons_self ..))) ?_
    intro _
    refine TL.nil ?_
    refine TQ.thenN (hY16 _ _ ?_)
    refine TW.region ?_
    refine TL.p Pu.mv ?_
    refine TL.p Pu.mv ?_
    first | refine TL.st ty_sz23 ?_ | refine TL.se ty_sz23 ?_
    first | refine TL.st ty_sz24 ?_ | refine TL.se ty_sz24 ?_
    refine TL.nil ?_
    refine TQ.end Tryz.results46 rfl (.nil) ?_
    have hc0' : tradeC np pk m l v F P nP b = 0 := by
      rw [hcodeD, if_pos (allB_iff.2 fun j hj => decide_eq_true (hall j hj))]
    have hMe := hMM hc0'
    have hNe : tradeN np pk m l v F P nP b = m := if_pos hc0'
    have hgl : g = (srt (movs r0 r1 b T2 m)).length := by rw [srt_len]; exact hg
    exact fun w hw => ⟨(((An, cn), X, D), (Am, cm)), by
      unfold tradeF
      rw [hMe, hNe, hTT, ← hgl]
      unfold tiesX
      exact hw.sub (by repeat (first | refine KSub.cons (by repeat (first | exact Pick.hd | apply Pick.tl)) ?_ | exact KSub.refl _ | refine KSub.drop ?_)), by rw [if_pos hc0']; rfl⟩
end Go.Proofs.YtjephihlkjpohaaGreatDoor
namespace Go.Proofs.YtjephihlkjpohaaGreatDoor
set_option linter.all false
set_option linter.unusedVariables false
set_option linter.unusedSimpArgs false
open Go.RowKit
set_option maxRecDepth 100000 in
set_option maxHeartbeats 2000000 in
theorem loadTrade_any {w : World} {A AT Af AP : Option Addr} {np cp m cT nf cf nP cP : Nat} {pk : Nat → Nat → Int} {a : Nat → Nat → Option Addr} {l c : Nat → Nat → Nat} {v : Nat → Nat → Nat → Int} {F : List Int} {P : Nat → Nat → Int} {b : Int}
    (hL : Lay w A AT np m pk a l c v) (hF : RdR w 1 Af nf (iL F)) (hnf : nf = F.length) (hf : nf ≤ 1000) (hPR : RdR w 3 AP nP (fun k => putL (P k))) (hnP : nP ≤ 1000) (hP2 : ∀ k, k < nP → 0 ≤ P k 2) :
    CallsK Tryz.prog 15 #[.slice A np cp, .slice AT m cT, .slice Af nf cf, .slice AP nP cP, .int .i64 b] [] w TRx
      (fun z => .tuple #[.slice z.1.1.1 (tradeN np pk m l v F P nP b) z.1.1.2, .slice z.2.1 (tradeM np pk m l v F P nP b).length z.2.2, .int .i64 (tradeC np pk m l v F P nP b)])
      (fun z => .own z.2.1 (tradeM np pk m l v F P nP b).length z.2.2 3 1 (iL (tradeM np pk m l v F P nP b)) :: tiesX (tradeN np pk m l v F P nP b) (tradeT pk m l v F P nP b) z.1) := by
  refine K_enter (S := []) (K := []) Tryz.func15 rfl Tryz.ntmps15 rfl (Sat.start _) ?_
  refine TW.seq fun Y1 hY1 => ?_
  refine TW.region ?_
  refine TL.m Mk.bx ?_
  intro b1
  refine TL.m Mk.bx ?_
  intro b2
  refine TL.m Mk.bx ?_
  intro b3
  refine TL.m Mk.bx ?_
  intro b4
  refine TL.m Mk.bx ?_
  intro b5
  refine TL.m (Mk.al ty_zr23) ?_
  intro b6
  refine TL.m (Mk.al ty_zr24) ?_
  intro b7
  refine TL.p Pu.as ?_
  refine TL.nil ?_
  refine TQ.thenN (hY1 _ _ ?_)
  refine TW.seq fun Y2 hY2 => ?_
  refine TW.region ?_
  refine TL.p Pu.fn ?_
  refine TL.call rfl (enters Tryz.func45 rfl rfl) (M := [.blk b7 24 [.slice none 0 0], .blk b6 23 [.slice none 0 0]]) (List.Perm.refl _) rfl (fun w hw => by
      have hB1 : Blk w b1 22 #[.slice A np cp] := hw.holds (.blk b1 22 [.slice A np cp]) (by simp)
      have hB2 : Blk w b2 23 #[.slice AT m cT] := hw.holds (.blk b2 23 [.slice AT m cT]) (by simp)
      have hB3 : Blk w b3 24 #[.slice Af nf cf] := hw.holds (.blk b3 24 [.slice Af nf cf]) (by simp)
      have hB4 : Blk w b4 25 #[.slice AP nP cP] := hw.holds (.blk b4 25 [.slice AP nP cP]) (by simp)
      have hB5 : Blk w b5 3 #[.int .i64 b] := hw.holds (.blk b5 3 [.int .i64 b]) (by simp)
      have hnd := hw.nd
      simp [feet, Fact.foot] at hnd
      obtain ⟨hself, hge⟩ := feet_new (M := [.blk b7 24 [.slice none 0 0], .blk b6 23 [.slice none 0 0]]) hw (List.Perm.refl _)
      have hbel := Chg.ext hw.chg
      have m1 : b1 ∉ [b7, b6] := by simp; omega
      have m2 : b2 ∉ [b7, b6] := by simp; omega
      have m3 : b3 ∉ [b7, b6] := by simp; omega
      have m4 : b4 ∉ [b7, b6] := by simp; omega
      have m5 : b5 ∉ [b7, b6] := by simp; omega
      exact trying_any (M := [.blk b7 24 [.slice none 0 0], .blk b6 23 [.slice none 0 0]]) (code := tradeC np pk m l v F P nP b) (fs := []) (cs := [.pointer (some ⟨b1, 0, none⟩), .pointer (some ⟨b2, 0, none⟩), .pointer (some ⟨b5, 0, none⟩), .pointer (some ⟨b3, 0, none⟩), .pointer (some ⟨b4, 0, none⟩), .pointer (some ⟨b6, 0, none⟩), .pointer (some ⟨b7, 0, none⟩)]) (enters Tryz.func46 rfl rfl) hself fun w' hw' =>
        trade1_any (cp := cp) (cT := cT) (cf := cf) (cP := cP) hL hF hnf hf hPR hnP hP2 (old_below hbel hw' hge) hge ((OldB.of_blk (cs := [_]) hB1).sat hw' m1) ((OldB.of_blk (cs := [_]) hB2).sat hw' m2) ((OldB.of_blk (cs := [_]) hB5).sat hw' m5) ((OldB.of_blk (cs := [_]) hB3).sat hw' m3) ((OldB.of_blk (cs := [_]) hB4).sat hw' m4) m1 m2 m5 m3 m4 hw'.self) ?_
  rintro ⟨⟨⟨An, cn⟩, X, D⟩, ⟨Am, cm⟩⟩
  refine TL.perm List.perm_append_comm ?_
  simp only [tradeF, List.cons_append, List.nil_append]
  refine TL.p Pu.as ?_
  refine TL.nil ?_
  refine TQ.thenN (hY2 _ _ ?_)
  refine TW.seq fun Y3 hY3 => ?_
  refine TW.ex0k [] ?_
  refine RG.tk 2 rfl Pu.mv ?_
  refine RG.a2 0 1 rfl rfl (fun X0 hX0 => ?_) (fun X1 hX1 => ?_)
  · refine TL.p (Pu.ld ty_sc23) ?_
    refine TL.nil ?_
    refine TQ.nxt (hX0 _ _ (by repeat (first | exact HasL.nil | refine HasL.cons (by repeat (first | exact Pick.hd | apply Pick.tl)) ?_)) ?_)
    refine RG.a2 1 3 rfl rfl (fun X1 hX1 => ?_) (fun X3 hX3 => ?_)
    · refine TL.p (Pu.ld ty_sc24) ?_
      refine TL.nil ?_
      refine TQ.nxt (hX1 _ _ (by repeat (first | exact HasL.nil | refine HasL.cons (by repeat (first | exact Pick.hd | apply Pick.tl)) ?_)) ?_)
      refine RG.a1 3 rfl (fun X3 hX3 => ?_)
      first | refine TL.st ty_sz23 ?_ | refine TL.se ty_sz23 ?_
      refine TL.nil ?_
      refine TQ.nxt (hX3 _ _ (by repeat (first | exact HasL.nil | refine HasL.cons (by repeat (first | exact Pick.hd | apply Pick.tl)) ?_)) ?_)
      refine RG.a1 4 rfl (fun X4 hX4 => ?_)
      first | refine TL.st ty_sz24 ?_ | refine TL.se ty_sz24 ?_
      refine TL.nil ?_
      refine TQ.nxt (hX4 _ _ (by repeat (first | exact HasL.nil | refine HasL.cons (by repeat (first | exact Pick.hd | apply Pick.tl)) ?_)) ?_)
      refine RG.tk 5 rfl Pu.as ?_
      refine RG.nil ?_ (by kernel_rfl)
      refine TQ.thenN (hY3 _ _ ?_)
      refine TW.ret ?_
      refine TQ.ret Tryz.results15 rfl ((RV.c1 ty_sc23 (RV.c1 ty_sc24 (.tmp rfl .nil)))) ?_
      exact fun w hw => ⟨(((An, cn), X, D), (Am, cm)), rfl, hw.sub (by repeat (first | refine KSub.cons (by repeat (first | exact Pick.hd | apply Pick.tl)) ?_ | exact KSub.refl _ | refine KSub.drop ?_))⟩
    · first | refine TL.st ty_sz23 ?_ | refine TL.se ty_sz23 ?_
      refine TL.nil ?_
      refine TQ.nxt (hX3 _ _ (by repeat (first | exact HasL.nil | refine HasL.cons (by repeat (first | exact Pick.hd | apply Pick.tl)) ?_)) ?_)
      refine RG.a1 1 rfl (fun X1 hX1 => ?_)
      refine TL.p (Pu.ld ty_sc24) ?_
      refine TL.nil ?_
      refine TQ.nxt (hX1 _ _ (by repeat (first | exact HasL.nil | refine HasL.cons (by repeat (first | exact Pick.hd | apply Pick.tl)) ?_)) ?_)
      refine RG.a1 4 rfl (fun X4 hX4 => ?_)
      first | refine TL.st ty_sz24 ?_ | refine TL.se ty_sz24 ?_
      refine TL.nil ?_
      refine TQ.nxt (hX4 _ _ (by repeat (first | exact HasL.nil | refine HasL.cons (by repeat (first | exact Pick.hd | apply Pick.tl)) ?_)) ?_)
      refine RG.tk 5 rfl Pu.as ?_
      refine RG.nil ?_ (by kernel_rfl)
      refine TQ.thenN (hY3 _ _ ?_)
      refine TW.ret ?_
      refine TQ.ret Tryz.results15 rfl ((RV.c1 ty_sc23 (RV.c1 ty_sc24 (.tmp rfl .nil)))) ?_
      exact fun w hw => ⟨(((An, cn), X, D), (Am, cm)), rfl, hw.sub (by repeat (first | refine KSub.cons (by repeat (first | exact Pick.hd | apply Pick.tl)) ?_ | exact KSub.refl _ | refine KSub.drop ?_))⟩
  · refine TL.p (Pu.ld ty_sc24) ?_
    refine TL.nil ?_
    refine TQ.nxt (hX1 _ _ (by repeat (first | exact HasL.nil | refine HasL.cons (by repeat (first | exact Pick.hd | apply Pick.tl)) ?_)) ?_)
    refine RG.a1 0 rfl (fun X0 hX0 => ?_)
    refine TL.p (Pu.ld ty_sc23) ?_
    refine TL.nil ?_
    refine TQ.nxt (hX0 _ _ (by repeat (first | exact HasL.nil | refine HasL.cons (by repeat (first | exact Pick.hd | apply Pick.tl)) ?_)) ?_)
    refine RG.a1 3 rfl (fun X3 hX3 => ?_)
    first | refine TL.st ty_sz23 ?_ | refine TL.se ty_sz23 ?_
    refine TL.nil ?_
    refine TQ.nxt (hX3 _ _ (by repeat (first | exact HasL.nil | refine HasL.cons (by repeat (first | exact Pick.hd | apply Pick.tl)) ?_)) ?_)
    refine RG.a1 4 rfl (fun X4 hX4 => ?_)
    first | refine TL.st ty_sz24 ?_ | refine TL.se ty_sz24 ?_
    refine TL.nil ?_
    refine TQ.nxt (hX4 _ _ (by repeat (first | exact HasL.nil | refine HasL.cons (by repeat (first | exact Pick.hd | apply Pick.tl)) ?_)) ?_)
    refine RG.tk 5 rfl Pu.as ?_
    refine RG.nil ?_ (by kernel_rfl)
    refine TQ.thenN (hY3 _ _ ?_)
    refine TW.ret ?_
    refine TQ.ret Tryz.results15 rfl ((RV.c1 ty_sc23 (RV.c1 ty_sc24 (.tmp rfl .nil)))) ?_
    exact fun w hw => ⟨(((An, cn), X, D), (Am, cm)), rfl, hw.sub (by repeat (first | refine KSub.cons (by repeat (first | exact Pick.hd | apply Pick.tl)) ?_ | exact KSub.refl _ | refine KSub.drop ?_))⟩
end Go.Proofs.YtjephihlkjpohaaGreatDoor
namespace Go.Proofs.YtjephihlkjpohaaGreatDoor
set_option linter.all false
set_option linter.unusedVariables false
set_option linter.unusedSimpArgs false
open Go.RowKit
theorem flatT_filter {F : List Int} {T : Nat → List Int} : ∀ s, flatT (takeT F T) s = (flatT T s).filter fun x => !F.contains x
  | 0 => rfl
  | s + 1 => by simp only [flatT, flatT_filter s, List.filter_append]; rfl
theorem flatT_len3 {T : Nat → List Int} {i : Nat} : (flatT T (3 * (i + 1))).length = (flatT T (3 * i)).length + cnt3 T i := by
  rw [show 3 * (i + 1) = 3 * i + 3 from rfl]
  simp only [flatT, List.length_append, cnt3]
  omega
theorem flatT_held {l : Nat → Nat → Nat} {v : Nat → Nat → Nat → Int} : ∀ m, flatT (T0 l v) (3 * m) = held l v m
  | 0 => rfl
  | m + 1 => by
    rw [show 3 * (m + 1) = 3 * m + 3 from rfl]
    simp only [flatT, flatT_held m, held]
    have e0 : T0 l v (3 * m) = toI (v m 0) (l m 0) := T0_at (k := 0) (by omega)
    have e1 : T0 l v (3 * m + 1) = toI (v m 1) (l m 1) := T0_at (by omega)
    have e2 : T0 l v (3 * m + 2) = toI (v m 2) (l m 2) := T0_at (by omega)
    rw [e0, e1, e2, List.append_assoc, List.append_assoc]
    congr 1
    simp only [lsts, lst, List.nil_append, List.append_assoc]
    rfl
theorem takeZ_eq {F : List Int} {T : Nat → List Int} : ∀ m, takeZ F T m = (F.length : Int) - ((flatT T (3 * m)).length - (flatT (takeT F T) (3 * m)).length)
  | 0 => by simp [takeZ, flatT]
  | m + 1 => by
    have h1 := flatT_len3 (T := T) (i := m)
    have h2 := flatT_len3 (T := takeT F T) (i := m)
    simp only [takeZ, takeZ_eq m]
    omega
theorem asc_same {L M : List Int} (hL : Asc L) (hM : Asc M) (h : ∀ x, x ∈ L ↔ x ∈ M) : L = M := by
  have h1 := asc_filter hL hM fun x hx => (h x).2 hx
  have h2 : L.filter (fun x => M.contains x) = L := List.filter_eq_self.2 fun x hx => List.contains_iff_mem.2 ((h x).1 hx)
  rw [← h2]
  exact h1
theorem nodup_len {L M : List Int} (hL : L.Nodup) (hM : M.Nodup) (h : ∀ x, x ∈ L ↔ x ∈ M) : L.length = M.length := by
  have := asc_same (asc_srt hL) (asc_srt hM) fun x => by rw [mem_srt, mem_srt]; exact h x
  rw [← srt_len L, ← srt_len M, this]
theorem filter_full {F : List Int} {p : Int → Bool} : (F.filter p).length = F.length ↔ ∀ x ∈ F, p x = true := by
  induction F with
  | nil => simp
  | cons a F ih =>
    rw [List.filter_cons]
    have hle := List.length_filter_le p F
    split
    · rename_i h
      simp only [List.length_cons, List.forall_mem_cons, h, true_and]
      rw [← ih]
      omega
    · rename_i h
      simp only [List.length_cons, List.forall_mem_cons]
      constructor
      · intro h2; omega
      · rintro ⟨h2, _⟩; exact absurd h2 h
theorem filter_parts {A : List Int} {p : Int → Bool} : (A.filter p).length + (A.filter fun x => !p x).length = A.length := by
  have := (List.filter_append_perm p A).length_eq
  rw [List.length_append] at this
  exact this
theorem takeZ_iff {F : List Int} {T : Nat → List Int} {m : Nat} (hF : F.Nodup) (hA : (flatT T (3 * m)).Nodup) : takeZ F T m = 0 ↔ ∀ x ∈ F, x ∈ flatT T (3 * m) := by
  rw [takeZ_eq, flatT_filter]
  generalize flatT T (3 * m) = A at *
  have h1 := filter_parts (A := A) (p := fun x => F.contains x)
  have h2 : (A.filter fun x => F.contains x).length = (F.filter fun x => A.contains x).length := nodup_len (hA.filter _) (hF.filter _) fun x => by
    simp only [List.mem_filter, List.contains_iff_mem]
    exact ⟨fun ⟨a, b⟩ => ⟨b, a⟩, fun ⟨a, b⟩ => ⟨b, a⟩⟩
  have h3 := filter_full (F := F) (p := fun x => A.contains x)
  simp only [List.contains_iff_mem] at h3
  rw [← h3]
  simp only [List.contains_eq_mem] at *
  omega
def putsTo (P : Nat → Nat → Int) : Nat → Nat → List Int
  | 0, _ => []
  | k + 1, s => if putS (P k) = s then putsTo P k s ++ [P k 0] else putsTo P k s
theorem putT_form {T : Nat → List Int} {P : Nat → Nat → Int} {s : Nat} (hm : (T s).Pairwise (· ≤ ·)) : ∀ k, (putT T P k s).Perm (T s ++ putsTo P k s) ∧ (putT T P k s).Pairwise (· ≤ ·)
  | 0 => by simp only [putT, putsTo, List.append_nil]; exact ⟨List.Perm.refl _, hm⟩
  | k + 1 => by
    obtain ⟨h1, h2⟩ := putT_form (P := P) hm k
    simp only [putT, putsTo, updN]
    by_cases h : putS (P k) = s
    · rw [if_pos h.symm, if_pos h]
      subst h
      refine ⟨(srt_perm _).trans ?_, srt_mono _⟩
      rw [← List.append_assoc]
      exact h1.append_right _
    · rw [if_neg (fun e => h e.symm), if_neg h]
      exact ⟨h1, h2⟩
theorem putT_srt {T : Nat → List Int} {P : Nat → Nat → Int} {s k : Nat} (hm : (T s).Pairwise (· ≤ ·)) : srt (T s ++ putsTo P k s) = putT T P k s :=
  have h := putT_form (P := P) hm k
  srt_uniq h.1.symm h.2
theorem putsTo_len {P : Nat → Nat → Int} {s : Nat} : ∀ k, (putsTo P k s).length ≤ k
  | 0 => Nat.le_refl _
  | k + 1 => by
    have := putsTo_len (P := P) (s := s) k
    simp only [putsTo]
    split
    · rw [List.length_append]; simp; omega
    · omega
def trdOk (np m : Nat) (l : Nat → Nat → Nat) (v : Nat → Nat → Nat → Int) (F : List Int) (P : Nat → Nat → Int) (nP : Nat) : Bool := decide (takeC np F (T0 l v) m = 0) && decide (putC np m (takeT F (T0 l v)) P nP = 0)
section
variable {np m nP : Nat} {pk : Nat → Nat → Int} {l : Nat → Nat → Nat} {v : Nat → Nat → Nat → Int} {F : List Int} {P : Nat → Nat → Int}
theorem trd_check (h : checkV np pk m l v = 0) : m ≤ 8 ∧ np ≤ 30 ∧ (flatT (T0 l v) (3 * m)).Nodup ∧ ∀ s, s < 3 * m → Asc (T0 l v s) ∧ InxL (T0 l v s) np ∧ (T0 l v s).length ≤ 10 := by
  obtain ⟨h1, h2, h3⟩ := check_ok h
  have h4 : tiesOk np m l v = true := by
    unfold checkV at h
    split at h
    · split at h
      · assumption
      · cases h
    · cases h
  rw [ties_dup] at h4
  unfold dupOk at h4
  simp only [Bool.and_eq_true, decide_eq_true_eq] at h4
  refine ⟨by omega, h1, by rw [flatT_held]; exact h4.2.2, fun s hs => ?_⟩
  obtain ⟨a1, a2⟩ := T0_bd h3 s hs
  exact ⟨(rise_asc.1 ((h3 (s / 3) (by omega)).1 (s % 3) (by omega))).1, a1, a2⟩
theorem trd_rise (h : allB F.length (riseP (fun k => F.getD k 0) np) = false) : trdOk np m l v F P nP = false := by
  unfold trdOk takeC
  rw [h]
  simp
theorem rise_nodup (h : allB F.length (riseP (fun k => F.getD k 0) np) = true) : F.Nodup := by
  have := (rise_asc.1 h).1
  rw [toI_getD] at this
  exact asc_nodup this
theorem trd_off (hc : checkV np pk m l v = 0) (hr : allB F.length (riseP (fun k => F.getD k 0) np) = true) {k : Nat} (hk : k < F.length) (h : F.getD k 0 ∉ flatT (T0 l v) (3 * m)) : trdOk np m l v F P nP = false := by
  unfold trdOk takeC
  rw [hr, decide_eq_false (p := takeZ F (T0 l v) m = 0) fun h2 => h ((takeZ_iff (rise_nodup hr) (trd_check hc).2.2.1).1 h2 _ (mem_getD hk))]
  simp
theorem trd_take (hc : checkV np pk m l v = 0) (hr : allB F.length (riseP (fun k => F.getD k 0) np) = true) (h : ∀ k, k < F.length → F.getD k 0 ∈ flatT (T0 l v) (3 * m)) : takeC np F (T0 l v) m = 0 := by
  unfold takeC
  rw [hr, decide_eq_true ((takeZ_iff (rise_nodup hr) (trd_check hc).2.2.1).2 fun x hx => by
    obtain ⟨k, hk, e⟩ := List.getElem_of_mem hx
    have := h k hk
    rw [show F.getD k 0 = x by simp [List.getD_eq_getElem?_getD, hk, e]] at this
    exact this)]
  rfl
theorem trd_put {k : Nat} (hk : k < nP) (h : okPut np m (takeT F (T0 l v)) P k = false) : trdOk np m l v F P nP = false := by
  have h2 : allB nP (okPut np m (takeT F (T0 l v)) P) = false := by
    cases e : allB nP (okPut np m (takeT F (T0 l v)) P) with
    | false => rfl
    | true => rw [allB_iff.1 e k hk] at h; cases h
  unfold trdOk putC
  rw [h2]
  simp
theorem trd_cnt {i : Nat} (hi : i < m) (h : ¬ cnt3 (putT (takeT F (T0 l v)) P nP) i ≤ 10) : trdOk np m l v F P nP = false := by
  have h2 : (allB m fun i => decide (cnt3 (putT (takeT F (T0 l v)) P nP) i ≤ 10)) = false := by
    cases e : (allB m fun i => decide (cnt3 (putT (takeT F (T0 l v)) P nP) i ≤ 10)) with
    | false => rfl
    | true => exact absurd (of_decide_eq_true (allB_iff.1 e i hi)) h
  unfold trdOk putC
  rw [h2]
  simp
theorem trd_yes (h1 : takeC np F (T0 l v) m = 0) (h2 : ∀ k, k < nP → okPut np m (takeT F (T0 l v)) P k = true) (h3 : ∀ i, i < m → cnt3 (putT (takeT F (T0 l v)) P nP) i ≤ 10) : trdOk np m l v F P nP = true := by
  unfold trdOk putC
  rw [h1, allB_iff.2 h2, allB_iff.2 fun i hi => decide_eq_true (h3 i hi)]
  rfl
end
end Go.Proofs.YtjephihlkjpohaaGreatDoor
namespace Go.Proofs.YtjephihlkjpohaaGreatDoor
set_option linter.all false
set_option linter.unusedVariables false
set_option linter.unusedSimpArgs false
open Go.RowKit
theorem CallsK.to2 {P : Program} {f : FuncId} {args : Array Value} {M : List Fact} {w : World} {X : Type} {val val2 : X → Value} {L L2 : X → List Fact} (h : CallsK P f args M w X val L) (hv : ∀ x, val x = val2 x) (hL : ∀ x, KSub (L x) (L2 x)) : CallsK P f args M w X val2 L2 :=
  h.mono fun _ _ ⟨x, e, hs⟩ => ⟨x, by rw [e, hv], hs.sub (hL x)⟩
theorem lsts_get3 {l : Nat → Nat} {v : Nat → Nat → Int} {k : Nat} (h : k < tot l 3) : (lsts l v 3).getD k 0 = catI l v k := by
  rw [tot3] at h
  have e : lsts l v 3 = toI (v 0) (l 0) ++ toI (v 1) (l 1) ++ toI (v 2) (l 2) := by simp only [lsts, lst, List.nil_append]; rfl
  rw [e, getD_app, getD_app, List.length_append, toI_len, toI_len]
  unfold catI
  by_cases h1 : k < l 0 + l 1
  · rw [if_pos h1, if_pos h1]
    by_cases h2 : k < l 0
    · rw [if_pos h2, if_pos h2, toI_get h2]
    · rw [if_neg h2, if_neg h2, toI_get (by omega)]
  · rw [if_neg h1, if_neg h1, toI_get (by omega)]
theorem refListT_any {a : Nat → Option Addr} {l c : Nat → Nat} {v : Nat → Nat → Int} {w : World} (ht : tot l 3 ≤ 1000000000) (hI : ∀ i, i < 3 → RdR w 1 (a i) (l i) (fun k => [.int .i64 (v i k)])) :
    CallsK Tryz.prog 36 #[.agg (tieL a l c).toArray] [] w (Option Addr × Nat) (fun x => .slice x.1 (lsts l v 3).length x.2) (fun x => [.own x.1 (lsts l v 3).length x.2 3 1 (iL (lsts l v 3))]) := by
  have h := refList_any (c := c) ht hI
  rw [lsts_length]
  refine h.to2 (fun _ => rfl) fun x => KSub.own Pick.hd (fun i hi => ?_) KSub.nil
  rw [catN_catI]
  simp only [iL]
  rw [lsts_get3 hi]
theorem refList3_any {w : World} {A0 A1 A2 : Option Addr} {n0 n1 n2 c0 c1 c2 : Nat} {L0 L1 L2 : List Int} (h0 : n0 = L0.length) (h1 : n1 = L1.length) (h2 : n2 = L2.length) (ht : n0 + n1 + n2 ≤ 1000000) (hR0 : RdR w 1 A0 n0 (iL L0)) (hR1 : RdR w 1 A1 n1 (iL L1)) (hR2 : RdR w 1 A2 n2 (iL L2)) :
    CallsK Tryz.prog 36 #[.agg #[.slice A0 n0 c0, .slice A1 n1 c1, .slice A2 n2 c2]] [] w (Option Addr × Nat) (fun x => .slice x.1 (n0 + n1 + n2) x.2) (fun _ => []) := by
  subst h0 h1 h2
  have e : tot (fun j => if j = 0 then L0.length else if j = 1 then L1.length else L2.length) 3 = L0.length + L1.length + L2.length := by simp [tot]
  have h := refList_any (a := fun j => if j = 0 then A0 else if j = 1 then A1 else A2) (l := fun j => if j = 0 then L0.length else if j = 1 then L1.length else L2.length) (c := fun j => if j = 0 then c0 else if j = 1 then c1 else c2) (v := fun j => if j = 0 then fun k => L0.getD k 0 else if j = 1 then fun k => L1.getD k 0 else fun k => L2.getD k 0) (w := w) (by rw [e]; omega)
    (fun j hj => by
      have : j = 0 ∨ j = 1 ∨ j = 2 := by omega
      rcases this with rfl | rfl | rfl
      · exact hR0
      · exact hR1
      · exact hR2)
  rw [e] at h
  exact h.to2 (fun _ => rfl) fun _ => KSub.nil
theorem held_len {l : Nat → Nat → Nat} {v : Nat → Nat → Nat → Int} {m : Nat} (h : ∀ i, i < m → tot (l i) 3 ≤ 10) : ∀ i, i ≤ m → (held l v i).length ≤ 10 * i
  | 0, _ => Nat.le_refl _
  | i + 1, hi => by
    have h1 := held_len (v := v) h i (by omega)
    have h2 := h i (by omega)
    simp only [held, List.length_append, lsts_length]
    omega
section
variable {np m nP : Nat} {pk : Nat → Nat → Int} {l : Nat → Nat → Nat} {v : Nat → Nat → Nat → Int} {F : List Int} {P : Nat → Nat → Int}
def trdN (np m : Nat) (l : Nat → Nat → Nat) (v : Nat → Nat → Nat → Int) (F : List Int) (P : Nat → Nat → Int) (nP : Nat) : Nat := if trdOk np m l v F P nP then m else 0
theorem trd_none {S : List Nat} {w0 w : World} {K : List Fact} (hok : trdOk np m l v F P nP = false) (hw : Sat S w0 K w) : ∃ x : TKx, Ending.returned (retV [.slice none 0 0, .bool false]) = .returned (.tuple #[.slice x.1.1 (trdN np m l v F P nP) x.1.2, .bool (trdOk np m l v F P nP)]) ∧ Sat S w0 (tiesX (trdN np m l v F P nP) (tr2 l v F P nP) x) w := by
  have e : trdN np m l v F P nP = 0 := by unfold trdN; rw [hok]; rfl
  rw [e, hok]
  exact ⟨((none, 0), fun _ => none, fun _ => 0), rfl, hw.sub (KSub.nilOwn KSub.nil)⟩
def badPut (np m : Nat) (Fr V : List Int) (P : Nat → Nat → Int) (k : Nat) : Bool := !inB5 0 ((np : Int) - 1) (P k 0) || Fr.contains (P k 0) || V.contains (P k 0) || !inB5 0 ((m : Int) - 1) (P k 1) || decide (2 < P k 2)
theorem bad_ok {T : Nat → List Int} {Fr V : List Int} {k : Nat} (hF : Fr = flatT T (3 * m)) (hV : V = toI (fun q => P q 0) k) : okPut np m T P k = !badPut np m Fr V P k := by
  subst hF hV
  unfold okPut badPut usedP
  have e : decide (2 < P k 2) = !decide (P k 2 ≤ 2) := by
    by_cases h : P k 2 ≤ 2
    · rw [decide_eq_true h, decide_eq_false (by omega)]; rfl
    · rw [decide_eq_false h, decide_eq_true (by omega)]; rfl
  rw [e]
  simp only [List.mem_append, List.contains_eq_mem, Bool.decide_or, Bool.not_or, Bool.not_not]
  cases inB5 0 ((np : Int) - 1) (P k 0) <;> cases decide (P k 0 ∈ flatT T (3 * m)) <;> cases decide (P k 0 ∈ toI (fun q => P q 0) k) <;> cases inB5 0 ((m : Int) - 1) (P k 1) <;> rfl
def trU (T : Nat → List Int) (P : Nat → Nat → Int) (i k j : Nat) : List Int := T (3 * i + j) ++ putsTo P k (3 * i + j)
theorem trU_not {T : Nat → List Int} {i k j : Nat} (h : putS (P k) ≠ 3 * i + j) : trU T P i (k + 1) j = trU T P i k j := by unfold trU; simp only [putsTo]; rw [if_neg h]
theorem trU_yes {T : Nat → List Int} {i k j : Nat} (h : putS (P k) = 3 * i + j) : trU T P i (k + 1) j = trU T P i k j ++ [P k 0] := by unfold trU; simp only [putsTo]; rw [if_pos h, List.append_assoc]
theorem trU_len {T : Nat → List Int} {i k j : Nat} : (trU T P i k j).length ≤ (T (3 * i + j)).length + k := by
  have := putsTo_len (P := P) (s := 3 * i + j) k
  unfold trU
  rw [List.length_append]
  omega
def seam {α : Type} (X Y : Nat → α) (i s : Nat) : α := if s < 3 * i then X s else Y (s - 3 * i)
theorem seam_lt {α : Type} {X Y : Nat → α} {i s : Nat} (h : s < 3 * i) : seam X Y i s = X s := if_pos h
theorem seam_at {α : Type} {X Y : Nat → α} {i j : Nat} : seam X Y i (3 * i + j) = Y j := by unfold seam; rw [if_neg (by omega), show 3 * i + j - 3 * i = j by omega]
end
end Go.Proofs.YtjephihlkjpohaaGreatDoor
