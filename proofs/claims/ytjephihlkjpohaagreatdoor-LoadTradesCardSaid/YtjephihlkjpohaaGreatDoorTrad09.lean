/-
  Part 9 of the proof of loadTrades_holds: declarations of several texts, in build order. No condition on a program.
-/
import Derived.Test.YtjephihlkjpohaaGreatDoorTrad08
import Derived.Test.YtjephihlkjpohaaGreatDoorTrad07
namespace Go.Proofs.YtjephihlkjpohaaGreatDoor
set_option linter.all false
set_option linter.unusedVariables false
set_option linter.unusedSimpArgs false
open Go.RowKit
theorem refHas_any {w : World} {A : Option Addr} {n cp : Nat} {L : List Int} (x : Int) (hn : n = L.length) (h1 : n ≤ 1000000) (hR : RdR w 1 A n (iL L)) :
    Calls Tryz.prog 69 #[.slice A n cp, .int .i64 x] w (Ret w (.bool (L.contains x))) := by
  subst hn
  refine K_enter (S := []) (K := []) Tryz.func69 rfl Tryz.ntmps69 rfl (Sat.start _) ?_
  refine TW.seq fun Y1 hY1 => ?_
  refine TW.region ?_
  refine TL.p Pu.as ?_
  refine TL.nil ?_
  refine TQ.thenN (hY1 _ _ ?_)
  refine TW.seq fun Y2 hY2 => ?_
  refine TW.seq fun Y3 hY3 => ?_
  refine TW.region ?_
  refine TL.p Pu.as ?_
  refine TL.nil ?_
  refine TQ.thenN (hY3 _ _ ?_)
  refine TW.block ?_
  refine TW.loop1 (fun (k : Nat) => [(5, .int .i64 (k : Int)), (0, .slice A L.length cp), (1, .int .i64 x)]) (fun k => []) (fun k => k ≤ L.length ∧ ∀ j, j < k → L.getD j 0 ≠ x) (fun k => L.length - k) 0 (by repeat (first | exact trivial | refine ⟨rfl, ?_⟩ | refine ⟨trivial, ?_⟩)) ?_ ?_ ?_
  · exact (by repeat (first | exact KSub.nil | refine KSub.cons (by repeat (first | exact Pick.hd | apply Pick.tl)) ?_))
  · exact ⟨Nat.zero_le _, fun j hj => by omega⟩
  rintro k ⟨hk, hall⟩ Z0 hZ0
  refine TW.seq fun Y4 hY4 => ?_
  refine TW.seq fun Y5 hY5 => ?_
  refine TW.region ?_
  refine TL.p Pu.mv ?_
  refine TL.p Pu.mv ?_
  refine TL.p (Pu.ln Tryz.underlying24) ?_
  refine TL.p Pu.lt ?_
  refine TL.nil ?_
  refine TQ.thenN (hY5 _ _ ?_)
  refine TW.cond rfl (fun hc0 => ?_) (fun hc0 => ?_)
  · try simp only [decide_eq_true_eq, decide_eq_false_iff_not, Bool.not_eq_true', Bool.not_eq_false', Bool.and_eq_true, Bool.or_eq_true, Bool.and_eq_false_iff, Bool.or_eq_false_iff, Int.not_lt, Int.not_le] at hc0
    have hkn : k < L.length := by omega
    refine TW.skip ?_
    refine TQ.thenN (hY4 _ _ ?_)
    refine TW.seq fun Y6 hY6 => ?_
    refine TW.block ?_
    refine TW.seq fun Y7 hY7 => ?_
    refine TW.region ?_
    refine TL.p Pu.mv ?_
    refine TL.p Pu.mv ?_
    refine TL.p (Pu.el ty_et24) ?_
    refine TL.p (Pu.ld ty_sc3) ?_
    refine TL.p Pu.mv ?_
    refine TL.p Pu.eq ?_
    refine TL.nil ?_
    refine TQ.thenN (hY7 _ _ ?_)
    refine TW.cond rfl (fun hc1 => ?_) (fun hc1 => ?_)
    · try simp only [decide_eq_true_eq, decide_eq_false_iff_not, Bool.not_eq_true', Bool.not_eq_false', Bool.and_eq_true, Bool.or_eq_true, Bool.and_eq_false_iff, Bool.or_eq_false_iff, Int.not_lt, Int.not_le] at hc1
      have hx : L.getD k 0 = x := hc1
      refine TW.seq fun Y8 hY8 => ?_
      refine TW.region ?_
      refine TL.p Pu.as ?_
      refine TL.nil ?_
      refine TQ.thenN (hY8 _ _ ?_)
      refine TW.ret ?_
      refine TQ.blkR ?_
      refine TQ.thenR ?_
      refine TQ.thenR ?_
      refine TQ.blkR ?_
      refine TQ.thenR ?_
      refine TQ.ret Tryz.results69 rfl ((.tmp rfl .nil)) ?_
      exact fun w hw => ⟨ret_bool (List.contains_iff_mem.2 (hx ▸ mem_getD hkn)), Chg.ext hw.chg⟩
    · try simp only [decide_eq_true_eq, decide_eq_false_iff_not, Bool.not_eq_true', Bool.not_eq_false', Bool.and_eq_true, Bool.or_eq_true, Bool.and_eq_false_iff, Bool.or_eq_false_iff, Int.not_lt, Int.not_le] at hc1
      have hx : L.getD k 0 ≠ x := hc1
      refine TW.skip ?_
      refine TQ.blkN ?_
      refine TQ.thenN (hY6 _ _ ?_)
      refine TW.region ?_
      refine TL.p Pu.mv ?_
      refine TL.p Pu.ad ?_
      refine TL.p Pu.as ?_
      refine TL.nil ?_
      refine TQ.thenN (hZ0 (k + 1) _ _ ?_ ?_ (by repeat (first | exact trivial | refine ⟨rfl, ?_⟩ | refine ⟨trivial, ?_⟩)) ?_)
      · refine ⟨by omega, fun j hj => ?_⟩
        by_cases h : j = k
        · subst h; exact hx
        · exact hall j (by omega)
      · exact (by first | omega | (simp only []; omega) | (simp; omega))
      · exact (by repeat (first | exact KSub.nil | refine KSub.cons (by repeat (first | exact Pick.hd | apply Pick.tl)) ?_))
  · try simp only [decide_eq_true_eq, decide_eq_false_iff_not, Bool.not_eq_true', Bool.not_eq_false', Bool.and_eq_true, Bool.or_eq_true, Bool.and_eq_false_iff, Bool.or_eq_false_iff, Int.not_lt, Int.not_le] at hc0
    have hkn : k = L.length := by omega
    refine TW.exit ?_
    refine TQ.thenX ?_
    refine TQ.thenX ?_
    refine TQ.blkX ?_
    refine TQ.thenN (hY2 _ _ ?_)
    refine TW.seq fun Y9 hY9 => ?_
    refine TW.region ?_
    refine TL.p Pu.as ?_
    refine TL.nil ?_
    refine TQ.thenN (hY9 _ _ ?_)
    refine TW.ret ?_
    refine TQ.ret Tryz.results69 rfl ((.tmp rfl .nil)) ?_
    exact fun w hw => ⟨ret_bool (by
      rw [Bool.eq_false_iff]
      intro h
      obtain ⟨j, hj, e⟩ := List.getElem_of_mem (List.contains_iff_mem.1 h)
      exact hall j (by omega) (by simp [List.getD_eq_getElem?_getD, hj, e])), Chg.ext hw.chg⟩
theorem getD_mid {P T : List Int} {x : Int} {k : Nat} (h : k = P.length) : (P ++ x :: T).getD k 0 = x := by
  subst h
  rw [getD_app, if_neg (by omega), Nat.sub_self]
  rfl
theorem swap_row {P T : List Int} {x y : Int} {k q : Nat} (hk : k = P.length + 1) (hq : q = P.length) : ∀ i,
    updR (updR (iL (P ++ y :: x :: T)) k [.int .i64 ((P ++ y :: x :: T).getD q 0)]) q [.int .i64 ((P ++ y :: x :: T).getD k 0)] i = iL (P ++ x :: y :: T) i := fun i => by
  have e1 : (P ++ y :: x :: T).getD q 0 = y := getD_mid hq
  have e2 : (P ++ y :: x :: T).getD k 0 = x := by
    rw [show P ++ y :: x :: T = (P ++ [y]) ++ x :: T by simp]
    exact getD_mid (by simp [hk])
  rw [e1, e2]
  unfold updR
  by_cases h1 : i = q
  · rw [if_pos h1]
    simp only [iL]
    rw [h1, getD_mid hq]
  · rw [if_neg h1]
    by_cases h2 : i = k
    · rw [if_pos h2]
      simp only [iL]
      rw [h2, show P ++ x :: y :: T = (P ++ [x]) ++ y :: T by simp, getD_mid (by simp [hk])]
    · rw [if_neg h2]
      simp only [iL, getD_app]
      by_cases h3 : i < P.length
      · rw [if_pos h3, if_pos h3]
      · rw [if_neg h3, if_neg h3]
        obtain ⟨d, hd⟩ : ∃ d, i - P.length = d + 2 := ⟨i - P.length - 2, by omega⟩
        rw [hd]
        rfl
theorem mono_ins {P Q : List Int} {x : Int} (h : (P ++ Q).Pairwise (· ≤ ·)) (hQ : ∀ y ∈ Q, x ≤ y) (hP : ∀ y ∈ P, y ≤ x) : (P ++ x :: Q).Pairwise (· ≤ ·) := by
  have h1 := List.pairwise_append.1 h
  refine List.pairwise_append.2 ⟨h1.1, List.pairwise_cons.2 ⟨hQ, h1.2.1⟩, fun a ha b hb => ?_⟩
  rcases List.mem_cons.1 hb with rfl | hb
  · exact hP a ha
  · exact h1.2.2 a ha b hb
theorem le_last {P Q : List Int} {k : Nat} {x : Int} (h : (P ++ Q).Pairwise (· ≤ ·)) (hk : k + 1 = P.length) (hx : P.getD k 0 ≤ x) : ∀ y ∈ P, y ≤ x := fun y hy => by
  obtain ⟨j, hj, e⟩ := List.getElem_of_mem hy
  have h1 := (List.pairwise_append.1 h).1
  have e2 : P.getD k 0 = P[k] := by simp [List.getD_eq_getElem?_getD, List.getElem?_eq_getElem (show k < P.length by omega)]
  rw [e2] at hx
  rcases (show j < k ∨ j = k by omega) with h2 | h2
  · have := List.pairwise_iff_getElem.1 h1 j k hj (by omega) h2
    omega
  · subst h2; omega
theorem put_ne {r : Nat → List Value} {k q : Nat} {u : List Value} {v x : Value} (h : q ≠ k) (hr : r q = [x]) : PutL (updR r k u q) 0 [v] [v] := by
  unfold updR
  rw [if_neg h, hr]
  exact PutL.put PutL.nil
set_option maxHeartbeats 1000000 in
theorem refSorted_any {w : World} {A : Option Addr} {n cp : Nat} {L : List Int} (hn : n = L.length) (h1 : n ≤ 1000000) (h : OwnR w A n cp 3 1 (iL L)) :
    CallsK Tryz.prog 58 #[.slice A n cp] [.own A n cp 3 1 (iL L)] w Unit (fun _ => .slice A n cp) (fun _ => [.own A n cp 3 1 (iL (srt L))]) := by
  have hM := Sat.own1 h
  replace hn : n ≤ L.length ∧ L.length ≤ n := by omega
  refine K_enter (S := feet [.own A n cp 3 1 (iL L)]) (K := [.own A n cp 3 1 (iL L)]) Tryz.func58 rfl Tryz.ntmps58 rfl hM ?_
  refine TW.seq fun Y1 hY1 => ?_
  refine TW.region ?_
  refine TL.p Pu.as ?_
  refine TL.nil ?_
  refine TQ.thenN (hY1 _ _ ?_)
  refine TW.seq fun Y2 hY2 => ?_
  refine TW.seq fun Y3 hY3 => ?_
  refine TW.region ?_
  refine TL.p Pu.as ?_
  refine TL.nil ?_
  refine TQ.thenN (hY3 _ _ ?_)
  refine TW.block ?_
  refine TW.loop3 (fun (i : Nat) (S : List Int) (R : List Int) => [(3, .int .i64 (i : Int)), (0, .slice A n cp)]) (fun i S R => [.own A n cp 3 1 (iL (S ++ R))]) (fun i S R => 1 ≤ i ∧ (S.length = i ∨ n ≤ i ∧ S.length = n) ∧ (S ++ R).Perm L ∧ S.Pairwise (· ≤ ·)) (fun i S R => n - i) 1 (L.take 1) (L.drop 1) (by repeat (first | exact trivial | refine ⟨rfl, ?_⟩ | refine ⟨trivial, ?_⟩)) ?_ ?_ ?_
  · exact KSub.own Pick.hd (fun i _ => by rw [List.take_append_drop]) KSub.nil
  · refine ⟨Nat.le_refl _, ?_, by rw [List.take_append_drop], ?_⟩
    · rw [List.length_take]; omega
    · cases L with
      | nil => exact List.Pairwise.nil
      | cons a L => simp
  rintro i S R ⟨hi1, hSl, hp, hso⟩ Z0 hZ0
  have hlen := hp.length_eq
  rw [List.length_append] at hlen
  refine TW.seq fun Y4 hY4 => ?_
  refine TW.seq fun Y5 hY5 => ?_
  refine TW.region ?_
  refine TL.p Pu.mv ?_
  refine TL.p Pu.mv ?_
  refine TL.p (Pu.ln Tryz.underlying24) ?_
  refine TL.p Pu.lt ?_
  refine TL.nil ?_
  refine TQ.thenN (hY5 _ _ ?_)
  refine TW.cond rfl (fun hc0 => ?_) (fun hc0 => ?_)
  · try simp only [decide_eq_true_eq, decide_eq_false_iff_not, Bool.not_eq_true', Bool.not_eq_false', Bool.and_eq_true, Bool.or_eq_true, Bool.and_eq_false_iff, Bool.or_eq_false_iff, Int.not_lt, Int.not_le] at hc0
    have hin : i < n := by omega
    have hS : S.length ≤ i ∧ i ≤ S.length := by omega
    obtain ⟨x, R, rfl⟩ : ∃ x R', R = x :: R' := by
      cases R with
      | nil => simp at hlen; omega
      | cons x R => exact ⟨x, R, rfl⟩
    refine TW.skip ?_
    refine TQ.thenN (hY4 _ _ ?_)
    refine TW.seq fun Y6 hY6 => ?_
    refine TW.block ?_
    refine TW.seq fun Y7 hY7 => ?_
    refine TW.region ?_
    refine TL.p Pu.mv ?_
    refine TL.p Pu.as ?_
    refine TL.nil ?_
    refine TQ.thenN (hY7 _ _ ?_)
    refine TW.block ?_
    refine TW.loop3 (fun (k : Nat) (P : List Int) (Q : List Int) => [(4, .int .i64 (k : Int)), (3, .int .i64 (i : Int)), (0, .slice A n cp)]) (fun k P Q => [.own A n cp 3 1 (iL (P ++ x :: (Q ++ R)))]) (fun k P Q => (P.length ≤ k ∧ k ≤ P.length) ∧ P ++ Q = S ∧ (∀ y ∈ Q, x ≤ y)) (fun k P Q => k) i S [] (by repeat (first | exact trivial | refine ⟨rfl, ?_⟩ | refine ⟨trivial, ?_⟩)) ?_ ?_ ?_
    · exact (by repeat (first | exact KSub.nil | refine KSub.cons (by repeat (first | exact Pick.hd | apply Pick.tl)) ?_))
    · exact ⟨hS, List.append_nil _, fun y hy => by cases hy⟩
    rintro k P Q ⟨hkl, hPQ, hQ⟩ Z1 hZ1
    have hPl : P.length + Q.length = S.length := by rw [← hPQ, List.length_append]
    refine TW.seq fun Y8 hY8 => ?_
    refine TW.seq fun Y9 hY9 => ?_
    refine TW.join [(25, .bool (decide (0 < (k : Int)) && decide ((P ++ x :: (Q ++ R)).getD k 0 < (P ++ x :: (Q ++ R)).getD (k - 1) 0)))] ?_ (fun hJ1 => ?_)
    · refine TQ.thenN (hY9 _ _ ?_)
      refine TW.cond rfl (fun hc1 => ?_) (fun hc1 => ?_)
      · try simp only [decide_eq_true_eq, decide_eq_false_iff_not, Bool.not_eq_true', Bool.not_eq_false', Bool.and_eq_true, Bool.or_eq_true, Bool.and_eq_false_iff, Bool.or_eq_false_iff, Int.not_lt, Int.not_le] at hc1
        have hk0 : 0 < k := by omega
        obtain ⟨P', y, rfl⟩ : ∃ P' y, P = P' ++ [y] := by
          rcases List.eq_nil_or_concat P with rfl | ⟨P', y, e⟩
          · simp at hkl; omega
          · exact ⟨P', y, by rw [e, List.concat_eq_append]⟩
        have hP'l : k = P'.length + 1 := by simp at hkl; omega
        have hlt : x < y := by
          have h2 := hc1.2
          rw [getD_mid (by simp; omega), show P' ++ [y] ++ x :: (Q ++ R) = P' ++ y :: (x :: (Q ++ R)) by simp, getD_mid (by omega)] at h2
          exact h2
        refine TW.skip ?_
        refine TQ.thenN (hY8 _ _ ?_)
        refine TW.seq fun Y10 hY10 => ?_
        refine TW.block ?_
        refine TW.expk [] (fun (_ : Unit) => ([(4, .int .i64 (k : Int)), (3, .int .i64 (i : Int)), (0, .slice A n cp)] : Fr)) (fun (_ : Unit) => [.own A n cp 3 1 (updR (updR (iL (P' ++ [y] ++ x :: (Q ++ R))) k [.int .i64 ((P' ++ [y] ++ x :: (Q ++ R)).getD (k - 1) 0)]) (k - 1) [.int .i64 ((P' ++ [y] ++ x :: (Q ++ R)).getD k 0)])]) ?_ (fun hE => ?_)
        · rintro ⟨⟩
          refine TQ.blkN ?_
          refine TQ.thenN (hY10 _ _ ?_)
          refine TW.region ?_
          refine TL.p Pu.mv ?_
          refine TL.p Pu.sb ?_
          refine TL.p Pu.as ?_
          refine TL.nil ?_
          refine TQ.thenN (hZ1 (k - 1) P' (y :: Q) _ _ ?_ ?_ ⟨(by show some (Value.int .i64 ((k : Int) - 1)) = some (Value.int .i64 ((k - 1 : Nat) : Int)); rw [show ((k - 1 : Nat) : Int) = (k : Int) - 1 by omega]), rfl, rfl, trivial⟩ ?_)
          · refine ⟨by omega, by rw [← hPQ]; simp, fun z hz => ?_⟩
            rcases List.mem_cons.1 hz with rfl | hz
            · omega
            · exact hQ z hz
          · exact (by first | omega | (simp only []; omega) | (simp; omega))
          · refine KSub.own Pick.hd (fun i hi => ?_) KSub.nil
            have e : P' ++ [y] ++ x :: (Q ++ R) = P' ++ y :: x :: (Q ++ R) := by simp
            rw [e]
            exact swap_row hP'l (by omega) i
        refine RG.tk 0 rfl Pu.mv ?_
        refine RG.tk 1 rfl Pu.mv ?_
        refine RG.tk 2 rfl Pu.mv ?_
        refine RG.tk 3 rfl Pu.mv ?_
        refine RG.tk 4 rfl Pu.sb ?_
        refine RG.tk 5 rfl Pu.mv ?_
        refine RG.tk 6 rfl Pu.mv ?_
        refine RG.tk 7 rfl Pu.sb ?_
        refine RG.tk 10 rfl Pu.mv ?_
        refine RG.tk 11 rfl Pu.mv ?_
        refine RG.a2 8 12 rfl rfl (fun X8 hX8 => ?_) (fun X12 hX12 => ?_)
        · refine TL.p (Pu.el (q := k - 1) ty_et24 (hk := by omega)) ?_
          refine TL.nil ?_
          refine TQ.nxt (hX8 _ _ (by repeat (first | exact HasL.nil | refine HasL.cons (by repeat (first | exact Pick.hd | apply Pick.tl)) ?_)) ?_)
          refine RG.a2 9 12 rfl rfl (fun X9 hX9 => ?_) (fun X12 hX12 => ?_)
          · refine TL.p (Pu.ld ty_sc3) ?_
            refine TL.nil ?_
            refine TQ.nxt (hX9 _ _ (by repeat (first | exact HasL.nil | refine HasL.cons (by repeat (first | exact Pick.hd | apply Pick.tl)) ?_)) ?_)
            refine RG.a1 12 rfl (fun X12 hX12 => ?_)
            refine TL.p (Pu.el ty_et24) ?_
            refine TL.nil ?_
            refine TQ.nxt (hX12 _ _ (by repeat (first | exact HasL.nil | refine HasL.cons (by repeat (first | exact Pick.hd | apply Pick.tl)) ?_)) ?_)
            refine RG.a1 13 rfl (fun X13 hX13 => ?_)
            refine TL.p (Pu.ld ty_sc3) ?_
            refine TL.nil ?_
            refine TQ.nxt (hX13 _ _ (by repeat (first | exact HasL.nil | refine HasL.cons (by repeat (first | exact Pick.hd | apply Pick.tl)) ?_)) ?_)
            refine RG.a1 14 rfl (fun X14 hX14 => ?_)
            refine TL.p (Pu.el ty_et24) ?_
            refine TL.nil ?_
            refine TQ.nxt (hX14 _ _ (by repeat (first | exact HasL.nil | refine HasL.cons (by repeat (first | exact Pick.hd | apply Pick.tl)) ?_)) ?_)
            refine RG.a1 15 rfl (fun X15 hX15 => ?_)
            first | refine TL.st ty_sz3 ?_ | refine TL.se ty_sz3 ?_
            refine TL.nil ?_
            refine TQ.nxt (hX15 _ _ (by repeat (first | exact HasL.nil | refine HasL.cons (by repeat (first | exact Pick.hd | apply Pick.tl)) ?_)) ?_)
            refine RG.a1 16 rfl (fun X16 hX16 => ?_)
            refine TL.p (Pu.el (q := k - 1) ty_et24 (hk := by omega)) ?_
            refine TL.nil ?_
            refine TQ.nxt (hX16 _ _ (by repeat (first | exact HasL.nil | refine HasL.cons (by repeat (first | exact Pick.hd | apply Pick.tl)) ?_)) ?_)
            refine RG.a1 17 rfl (fun X17 hX17 => ?_)
            refine TL.se ty_sz3 ?_ (hput := put_ne (by omega) rfl)
            refine TL.nil ?_
            refine TQ.nxt (hX17 _ _ (by repeat (first | exact HasL.nil | refine HasL.cons (by repeat (first | exact Pick.hd | apply Pick.tl)) ?_)) ?_)
            exact RG.nil (TQ.sub (by repeat (first | exact trivial | refine ⟨rfl, ?_⟩ | refine ⟨trivial, ?_⟩)) (by repeat (first | exact KSub.nil | refine KSub.cons (by repeat (first | exact Pick.hd | apply Pick.tl)) ?_ | exact KSub.refl _ | refine KSub.drop ?_)) (hE ⟨⟩)) (by kernel_rfl)
          · refine TL.p (Pu.el ty_et24) ?_
            refine TL.nil ?_
            refine TQ.nxt (hX12 _ _ (by repeat (first | exact HasL.nil | refine HasL.cons (by repeat (first | exact Pick.hd | apply Pick.tl)) ?_)) ?_)
            refine RG.a2 9 13 rfl rfl (fun X9 hX9 => ?_) (fun X13 hX13 => ?_)
            · refine TL.p (Pu.ld ty_sc3) ?_
              refine TL.nil ?_
              refine TQ.nxt (hX9 _ _ (by repeat (first | exact HasL.nil | refine HasL.cons (by repeat (first | exact Pick.hd | apply Pick.tl)) ?_)) ?_)
              refine RG.a1 13 rfl (fun X13 hX13 => ?_)
              refine TL.p (Pu.ld ty_sc3) ?_
              refine TL.nil ?_
              refine TQ.nxt (hX13 _ _ (by repeat (first | exact HasL.nil | refine HasL.cons (by repeat (first | exact Pick.hd | apply Pick.tl)) ?_)) ?_)
              refine RG.a1 14 rfl (fun X14 hX14 => ?_)
              refine TL.p (Pu.el ty_et24) ?_
              refine TL.nil ?_
              refine TQ.nxt (hX14 _ _ (by repeat (first | exact HasL.nil | refine HasL.cons (by repeat (first | exact Pick.hd | apply Pick.tl)) ?_)) ?_)
              refine RG.a1 15 rfl (fun X15 hX15 => ?_)
              first | refine TL.st ty_sz3 ?_ | refine TL.se ty_sz3 ?_
              refine TL.nil ?_
              refine TQ.nxt (hX15 _ _ (by repeat (first | exact HasL.nil | refine HasL.cons (by repeat (first | exact Pick.hd | apply Pick.tl)) ?_)) ?_)
              refine RG.a1 16 rfl (fun X16 hX16 => ?_)
              refine TL.p (Pu.el (q := k - 1) ty_et24 (hk := by omega)) ?_
              refine TL.nil ?_
              refine TQ.nxt (hX16 _ _ (by repeat (first | exact HasL.nil | refine HasL.cons (by repeat (first | exact Pick.hd | apply Pick.tl)) ?_)) ?_)
              refine RG.a1 17 rfl (fun X17 hX17 => ?_)
              refine TL.se ty_sz3 ?_ (hput := put_ne (by omega) rfl)
              refine TL.nil ?_
              refine TQ.nxt (hX17 _ _ (by repeat (first | exact HasL.nil | refine HasL.cons (by repeat (first | exact Pick.hd | apply Pick.tl)) ?_)) ?_)
              exact RG.nil (TQ.sub (by repeat (first | exact trivial | refine ⟨rfl, ?_⟩ | refine ⟨trivial, ?_⟩)) (by repeat (first | exact KSub.nil | refine KSub.cons (by repeat (first | exact Pick.hd | apply Pick.tl)) ?_ | exact KSub.refl _ | refine KSub.drop ?_)) (hE ⟨⟩)) (by kernel_rfl)
            · refine TL.p (Pu.ld ty_sc3) ?_
              refine TL.nil ?_
              refine TQ.nxt (hX13 _ _ (by repeat (first | exact HasL.nil | refine HasL.cons (by repeat (first | exact Pick.hd | apply Pick.tl)) ?_)) ?_)
              refine RG.a1 9 rfl (fun X9 hX9 => ?_)
              refine TL.p (Pu.ld ty_sc3) ?_
              refine TL.nil ?_
              refine TQ.nxt (hX9 _ _ (by repeat (first | exact HasL.nil | refine HasL.cons (by repeat (first | exact Pick.hd | apply Pick.tl)) ?_)) ?_)
              refine RG.a1 14 rfl (fun X14 hX14 => ?_)
              refine TL.p (Pu.el ty_et24) ?_
              refine TL.nil ?_
              refine TQ.nxt (hX14 _ _ (by repeat (first | exact HasL.nil | refine HasL.cons (by repeat (first | exact Pick.hd | apply Pick.tl)) ?_)) ?_)
              refine RG.a1 15 rfl (fun X15 hX15 => ?_)
              first | refine TL.st ty_sz3 ?_ | refine TL.se ty_sz3 ?_
              refine TL.nil ?_
              refine TQ.nxt (hX15 _ _ (by repeat (first | exact HasL.nil | refine HasL.cons (by repeat (first | exact Pick.hd | apply Pick.tl)) ?_)) ?_)
              refine RG.a1 16 rfl (fun X16 hX16 => ?_)
              refine TL.p (Pu.el (q := k - 1) ty_et24 (hk := by omega)) ?_
              refine TL.nil ?_
              refine TQ.nxt (hX16 _ _ (by repeat (first | exact HasL.nil | refine HasL.cons (by repeat (first | exact Pick.hd | apply Pick.tl)) ?_)) ?_)
              refine RG.a1 17 rfl (fun X17 hX17 => ?_)
              refine TL.se ty_sz3 ?_ (hput := put_ne (by omega) rfl)
              refine TL.nil ?_
              refine TQ.nxt (hX17 _ _ (by repeat (first | exact HasL.nil | refine HasL.cons (by repeat (first | exact Pick.hd | apply Pick.tl)) ?_)) ?_)
              exact RG.nil (TQ.sub (by repeat (first | exact trivial | refine ⟨rfl, ?_⟩ | refine ⟨trivial, ?_⟩)) (by repeat (first | exact KSub.nil | refine KSub.cons (by repeat (first | exact Pick.hd | apply Pick.tl)) ?_ | exact KSub.refl _ | refine KSub.drop ?_)) (hE ⟨⟩)) (by kernel_rfl)
        · refine TL.p (Pu.el ty_et24) ?_
          refine TL.nil ?_
          refine TQ.nxt (hX12 _ _ (by repeat (first | exact HasL.nil | refine HasL.cons (by repeat (first | exact Pick.hd | apply Pick.tl)) ?_)) ?_)
          refine RG.a2 8 13 rfl rfl (fun X8 hX8 => ?_) (fun X13 hX13 => ?_)
          · refine TL.p (Pu.el (q := k - 1) ty_et24 (hk := by omega)) ?_
            refine TL.nil ?_
            refine TQ.nxt (hX8 _ _ (by repeat (first | exact HasL.nil | refine HasL.cons (by repeat (first | exact Pick.hd | apply Pick.tl)) ?_)) ?_)
            refine RG.a2 9 13 rfl rfl (fun X9 hX9 => ?_) (fun X13 hX13 => ?_)
            · refine TL.p (Pu.ld ty_sc3) ?_
              refine TL.nil ?_
              refine TQ.nxt (hX9 _ _ (by repeat (first | exact HasL.nil | refine HasL.cons (by repeat (first | exact Pick.hd | apply Pick.tl)) ?_)) ?_)
              refine RG.a1 13 rfl (fun X13 hX13 => ?_)
              refine TL.p (Pu.ld ty_sc3) ?_
              refine TL.nil ?_
              refine TQ.nxt (hX13 _ _ (by repeat (first | exact HasL.nil | refine HasL.cons (by repeat (first | exact Pick.hd | apply Pick.tl)) ?_)) ?_)
              refine RG.a1 14 rfl (fun X14 hX14 => ?_)
              refine TL.p (Pu.el ty_et24) ?_
              refine TL.nil ?_
              refine TQ.nxt (hX14 _ _ (by repeat (first | exact HasL.nil | refine HasL.cons (by repeat (first | exact Pick.hd | apply Pick.tl)) ?_)) ?_)
              refine RG.a1 15 rfl (fun X15 hX15 => ?_)
              first | refine TL.st ty_sz3 ?_ | refine TL.se ty_sz3 ?_
              refine TL.nil ?_
              refine TQ.nxt (hX15 _ _ (by repeat (first | exact HasL.nil | refine HasL.cons (by repeat (first | exact Pick.hd | apply Pick.tl)) ?_)) ?_)
              refine RG.a1 16 rfl (fun X16 hX16 => ?_)
              refine TL.p (Pu.el (q := k - 1) ty_et24 (hk := by omega)) ?_
              refine TL.nil ?_
              refine TQ.nxt (hX16 _ _ (by repeat (first | exact HasL.nil | refine HasL.cons (by repeat (first | exact Pick.hd | apply Pick.tl)) ?_)) ?_)
              refine RG.a1 17 rfl (fun X17 hX17 => ?_)
              refine TL.se ty_sz3 ?_ (hput := put_ne (by omega) rfl)
              refine TL.nil ?_
              refine TQ.nxt (hX17 _ _ (by repeat (first | exact HasL.nil | refine HasL.cons (by repeat (first | exact Pick.hd | apply Pick.tl)) ?_)) ?_)
              exact RG.nil (TQ.sub (by repeat (first | exact trivial | refine ⟨rfl, ?_⟩ | refine ⟨trivial, ?_⟩)) (by repeat (first | exact KSub.nil | refine KSub.cons (by repeat (first | exact Pick.hd | apply Pick.tl)) ?_ | exact KSub.refl _ | refine KSub.drop ?_)) (hE ⟨⟩)) (by kernel_rfl)
            · refine TL.p (Pu.ld ty_sc3) ?_
              refine TL.nil ?_
              refine TQ.nxt (hX13 _ _ (by repeat (first | exact HasL.nil | refine HasL.cons (by repeat (first | exact Pick.hd | apply Pick.tl)) ?_)) ?_)
              refine RG.a1 9 rfl (fun X9 hX9 => ?_)
              refine TL.p (Pu.ld ty_sc3) ?_
              refine TL.nil ?_
              refine TQ.nxt (hX9 _ _ (by repeat (first | exact HasL.nil | refine HasL.cons (by repeat (first | exact Pick.hd | apply Pick.tl)) ?_)) ?_)
              refine RG.a1 14 rfl (fun X14 hX14 => ?_)
              refine TL.p (Pu.el ty_et24) ?_
              refine TL.nil ?_
              refine TQ.nxt (hX14 _ _ (by repeat (first | exact HasL.nil | refine HasL.cons (by repeat (first | exact Pick.hd | apply Pick.tl)) ?_)) ?_)
              refine RG.a1 15 rfl (fun X15 hX15 => ?_)
              first | refine TL.st ty_sz3 ?_ | refine TL.se ty_sz3 ?_
              refine TL.nil ?_
              refine TQ.nxt (hX15 _ _ (by repeat (first | exact HasL.nil | refine HasL.cons (by repeat (first | exact Pick.hd | apply Pick.tl)) ?_)) ?_)
              refine RG.a1 16 rfl (fun X16 hX16 => ?_)
              refine TL.p (Pu.el (q := k - 1) ty_et24 (hk := by omega)) ?_
              refine TL.nil ?_
              refine TQ.nxt (hX16 _ _ (by repeat (first | exact HasL.nil | refine HasL.cons (by repeat (first | exact Pick.hd | apply Pick.tl)) ?_)) ?_)
              refine RG.a1 17 rfl (fun X17 hX17 => ?_)
              refine TL.se ty_sz3 ?_ (hput := put_ne (by omega) rfl)
              refine TL.nil ?_
              refine TQ.nxt (hX17 _ _ (by repeat (first | exact HasL.nil | refine HasL.cons (by repeat (first | exact Pick.hd | apply Pick.tl)) ?_)) ?_)
              exact RG.nil (TQ.sub (by repeat (first | exact trivial | refine ⟨rfl, ?_⟩ | refine ⟨trivial, ?_⟩)) (by repeat (first | exact KSub.nil | refine KSub.cons (by repeat (first | exact Pick.hd | apply Pick.tl)) ?_ | exact KSub.refl _ | refine KSub.drop ?_)) (hE ⟨⟩)) (by kernel_rfl)
          · refine TL.p (Pu.ld ty_sc3) ?_
            refine TL.nil ?_
            refine TQ.nxt (hX13 _ _ (by repeat (first | exact HasL.nil | refine HasL.cons (by repeat (first | exact Pick.hd | apply Pick.tl)) ?_)) ?_)
            refine RG.a1 8 rfl (fun X8 hX8 => ?_)
            refine TL.p (Pu.el (q := k - 1) ty_et24 (hk := by omega)) ?_
            refine TL.nil ?_
            refine TQ.nxt (hX8 _ _ (by repeat (first | exact HasL.nil | refine HasL.cons (by repeat (first | exact Pick.hd | apply Pick.tl)) ?_)) ?_)
            refine RG.a1 9 rfl (fun X9 hX9 => ?_)
            refine TL.p (Pu.ld ty_sc3) ?_
            refine TL.nil ?_
            refine TQ.nxt (hX9 _ _ (by repeat (first | exact HasL.nil | refine HasL.cons (by repeat (first | exact Pick.hd | apply Pick.tl)) ?_)) ?_)
            refine RG.a1 14 rfl (fun X14 hX14 => ?_)
            refine TL.p (Pu.el ty_et24) ?_
            refine TL.nil ?_
            refine TQ.nxt (hX14 _ _ (by repeat (first | exact HasL.nil | refine HasL.cons (by repeat (first | exact Pick.hd | apply Pick.tl)) ?_)) ?_)
            refine RG.a1 15 rfl (fun X15 hX15 => ?_)
            first | refine TL.st ty_sz3 ?_ | refine TL.se ty_sz3 ?_
            refine TL.nil ?_
            refine TQ.nxt (hX15 _ _ (by repeat (first | exact HasL.nil | refine HasL.cons (by repeat (first | exact Pick.hd | apply Pick.tl)) ?_)) ?_)
            refine RG.a1 16 rfl (fun X16 hX16 => ?_)
            refine TL.p (Pu.el (q := k - 1) ty_et24 (hk := by omega)) ?_
            refine TL.nil ?_
            refine TQ.nxt (hX16 _ _ (by repeat (first | exact HasL.nil | refine HasL.cons (by repeat (first | exact Pick.hd | apply Pick.tl)) ?_)) ?_)
            refine RG.a1 17 rfl (fun X17 hX17 => ?_)
            refine TL.se ty_sz3 ?_ (hput := put_ne (by omega) rfl)
            refine TL.nil ?_
            refine TQ.nxt (hX17 _ _ (by repeat (first | exact HasL.nil | refine HasL.cons (by repeat (first | exact Pick.hd | apply Pick.tl)) ?_)) ?_)
            exact RG.nil (TQ.sub (by repeat (first | exact trivial | refine ⟨rfl, ?_⟩ | refine ⟨trivial, ?_⟩)) (by repeat (first | exact KSub.nil | refine KSub.cons (by repeat (first | exact Pick.hd | apply Pick.tl)) ?_ | exact KSub.refl _ | refine KSub.drop ?_)) (hE ⟨⟩)) (by kernel_rfl)
      · try simp only [decide_eq_true_eq, decide_eq_false_iff_not, Bool.not_eq_true', Bool.not_eq_false', Bool.and_eq_true, Bool.or_eq_true, Bool.and_eq_false_iff, Bool.or_eq_false_iff, Int.not_lt, Int.not_le] at hc1
        have hdone : (P ++ x :: Q).Pairwise (· ≤ ·) := by
          refine mono_ins (by rw [hPQ]; exact hso) hQ ?_
          rcases hc1 with h2 | h2
          · have : P = [] := List.length_eq_zero_iff.1 (by omega)
            subst this
            intro y hy; cases hy
          · by_cases hk0 : k = 0
            · have : P = [] := List.length_eq_zero_iff.1 (by omega)
              subst this
              intro y hy; cases hy
            · have e1 : (P ++ x :: (Q ++ R)).getD k 0 = x := getD_mid (by omega)
              have e2 : (P ++ x :: (Q ++ R)).getD (k - 1) 0 = P.getD (k - 1) 0 := by rw [getD_app, if_pos (by omega)]
              rw [e1, e2] at h2
              exact le_last (k := k - 1) (by rw [hPQ]; exact hso) (by omega) h2
        refine TW.exit ?_
        refine TQ.thenX ?_
        refine TQ.thenX ?_
        refine TQ.blkX ?_
        refine TQ.blkN ?_
        refine TQ.thenN (hY6 _ _ ?_)
        refine TW.region ?_
        refine TL.p Pu.mv ?_
        refine TL.p Pu.ad ?_
        refine TL.p Pu.as ?_
        refine TL.nil ?_
        refine TQ.thenN (hZ0 (i + 1) (P ++ x :: Q) R _ _ ?_ ?_ (by repeat (first | exact trivial | refine ⟨rfl, ?_⟩ | refine ⟨trivial, ?_⟩)) ?_)
        · refine ⟨by omega, .inl ?_, ?_, hdone⟩
          · rw [List.length_append, List.length_cons]; omega
          · refine List.Perm.trans ?_ hp
            rw [← hPQ, List.append_assoc, List.append_assoc]
            refine List.Perm.append_left _ ?_
            exact (List.perm_middle (l₁ := Q) (l₂ := R) (a := x)).symm
        · exact (by first | omega | (simp only []; omega) | (simp; omega))
        · refine KSub.own Pick.hd (fun i hi => ?_) KSub.nil
          rw [List.append_assoc]
          rfl
    refine TW.dw 14 ?_
    refine RK.tk Pu.mv ?_
    refine RK.tk Pu.gt ?_
    refine RK.tk Pu.mv ?_
    refine RK.guard (t := 14) rfl (fun hg1 => ?_) (fun hg1 => ?_)
    · try simp only [decide_eq_true_eq, decide_eq_false_iff_not, Bool.not_eq_true', Bool.not_eq_false', Int.natCast_pos] at hg1
      refine RK.tk Pu.mv ?_
      refine RK.tk Pu.mv ?_
      refine RK.tk (Pu.el ty_et24 (hk := Int.toNat_natCast _)) ?_
      refine RK.tk (Pu.ld ty_sc3) ?_
      refine RK.tk Pu.mv ?_
      refine RK.tk Pu.mv ?_
      refine RK.tk Pu.sb ?_
      refine RK.tk (Pu.el (q := k - 1) ty_et24 (hk := by omega)) ?_
      refine RK.tk (Pu.ld ty_sc3) ?_
      refine RK.tk Pu.lt ?_
      refine RK.tk Pu.kt ?_
      refine RK.ch [] ?_ trivial
      refine WK.n ?_
      refine TL.nil ?_
      exact TQ.sub (by repeat (first | exact trivial | refine ⟨rfl, ?_⟩ | refine ⟨trivial, ?_⟩ | refine ⟨(by show some (Value.bool _) = some (Value.bool _); simp [hg1]), ?_⟩)) (by repeat (first | exact KSub.nil | refine KSub.cons (by repeat (first | exact Pick.hd | apply Pick.tl)) ?_)) hJ1
    · try simp only [decide_eq_true_eq, decide_eq_false_iff_not, Bool.not_eq_true', Bool.not_eq_false', Int.natCast_pos] at hg1
      refine RK.s ?_
      refine RK.s ?_
      refine RK.s ?_
      refine RK.s ?_
      refine RK.s ?_
      refine RK.s ?_
      refine RK.s ?_
      refine RK.s ?_
      refine RK.s ?_
      refine RK.s ?_
      refine RK.tk Pu.kf ?_
      refine RK.ch [] ?_ trivial
      refine WK.n ?_
      refine TL.nil ?_
      exact TQ.sub (by repeat (first | exact trivial | refine ⟨rfl, ?_⟩ | refine ⟨trivial, ?_⟩ | refine ⟨(by show some (Value.bool _) = some (Value.bool _); simp [hg1]), ?_⟩)) (by repeat (first | exact KSub.nil | refine KSub.cons (by repeat (first | exact Pick.hd | apply Pick.tl)) ?_)) hJ1
  · try simp only [decide_eq_true_eq, decide_eq_false_iff_not, Bool.not_eq_true', Bool.not_eq_false', Bool.and_eq_true, Bool.or_eq_true, Bool.and_eq_false_iff, Bool.or_eq_false_iff, Int.not_lt, Int.not_le] at hc0
    have hS : S.length ≤ n ∧ n ≤ S.length := by omega
    refine TW.exit ?_
    refine TQ.thenX ?_
    refine TQ.thenX ?_
    refine TQ.blkX ?_
    refine TQ.thenN (hY2 _ _ ?_)
    refine TW.seq fun Y11 hY11 => ?_
    refine TW.region ?_
    refine TL.p Pu.mv ?_
    refine TL.p Pu.as ?_
    refine TL.nil ?_
    refine TQ.thenN (hY11 _ _ ?_)
    refine TW.ret ?_
    refine TQ.ret Tryz.results58 rfl ((.tmp rfl .nil)) ?_
    have hR0 : R = [] := List.length_eq_zero_iff.1 (by omega)
    subst hR0
    rw [List.append_nil] at hp
    have hres : srt L = S := srt_uniq hp.symm hso
    exact fun w hw => ⟨(), rfl, hw.sub (KSub.own Pick.hd (fun i _ => by rw [hres, List.append_nil]) KSub.nil)⟩
end Go.Proofs.YtjephihlkjpohaaGreatDoor
namespace Go.Proofs.YtjephihlkjpohaaGreatDoor
set_option linter.all false
set_option linter.unusedVariables false
set_option linter.unusedSimpArgs false
open Go.RowKit
theorem filter_next {L : List Int} {k : Nat} {p : Int → Bool} (h : k < L.length) (hp : p (L.getD k 0) = true) : (L.take (k + 1)).filter p = (L.take k).filter p ++ [L.getD k 0] := by
  rw [take_succ h, List.filter_append, List.filter_cons, if_pos hp]
  rfl
theorem filter_skip {L : List Int} {k : Nat} {p : Int → Bool} (h : k < L.length) (hp : p (L.getD k 0) = false) : (L.take (k + 1)).filter p = (L.take k).filter p := by
  rw [take_succ h, List.filter_append, List.filter_cons, if_neg (by rw [hp]; decide)]
  simp
theorem filter_take_le {L : List Int} {k : Nat} {p : Int → Bool} : ((L.take k).filter p).length ≤ k := by
  have h1 := List.length_filter_le p (L.take k)
  rw [List.length_take] at h1
  omega
abbrev MV3 := (Option Addr × Nat) × (Option Addr × Nat) × (Option Addr × Nat)
def mv3T (L0 L1 : List Int) (n2 : Nat) (M : List Int) (x : MV3) : List Value := [.slice x.1.1 (mvd L0 L1 M).length x.1.2, .slice x.2.1.1 (mvd L1 L0 M).length x.2.1.2, .slice x.2.2.1 n2 x.2.2.2]
def mv3K (L0 L1 : List Int) (n2 : Nat) (v2 : Nat → Int) (M : List Int) (x : MV3) : List Fact := [.own x.1.1 (mvd L0 L1 M).length x.1.2 3 1 (iL (mvd L0 L1 M)), .own x.2.1.1 (mvd L1 L0 M).length x.2.1.2 3 1 (iL (mvd L1 L0 M)), .own x.2.2.1 n2 x.2.2.2 3 1 (fun k => [.int .i64 (v2 k)])]
set_option maxRecDepth 100000 in
set_option maxHeartbeats 4000000 in
theorem refMoved_any {W : World} {m cm n2 : Nat} {a : Nat → Option Addr} {l c : Nat → Nat} {B : Option Addr} {L0 L1 M : List Int} {v2 : Nat → Int} (h0 : l 0 = L0.length) (h1 : l 1 = L1.length) (h2 : l 2 = n2) (hm : m = M.length) (hb0 : l 0 ≤ 1000) (hb1 : l 1 ≤ 1000) (hb2 : l 2 ≤ 1000) (hb3 : m ≤ 1000)
    (hL0 : RdR W 1 (a 0) (l 0) (iL L0)) (hL1 : RdR W 1 (a 1) (l 1) (iL L1)) (hL2 : RdR W 1 (a 2) (l 2) (fun k => [.int .i64 (v2 k)])) (hM : RdR W 1 B m (iL M)) :
    CallsK Tryz.prog 29 #[.agg (tieL a l c).toArray, .slice B m cm] [] W MV3 (fun x => .agg (mv3T L0 L1 n2 M x).toArray) (mv3K L0 L1 n2 v2 M) := by
  subst h2
  generalize hn0 : l 0 = n0 at *
  generalize hn1 : l 1 = n1 at *
  generalize hn2 : l 2 = n2 at *
  have eT : tieL a l c = [.slice (a 0) n0 (c 0), .slice (a 1) n1 (c 1), .slice (a 2) n2 (c 2)] := by unfold tieL; rw [hn0, hn1, hn2]
  rw [eT]
  clear eT hn0 hn1 hn2
  replace h0 : n0 ≤ L0.length ∧ L0.length ≤ n0 := by omega
  replace h1 : n1 ≤ L1.length ∧ L1.length ≤ n1 := by omega
  refine K_enter (S := []) (K := []) Tryz.func29 rfl Tryz.ntmps29 rfl (Sat.start _) ?_
  refine TW.seq fun Y1 hY1 => ?_
  refine TW.region ?_
  refine TL.m Mk.bx ?_
  intro b1
  refine TL.m (Mk.al ty_zr36) ?_
  intro b2
  refine TL.nil ?_
  refine TQ.thenN (hY1 _ _ ?_)
  refine TW.seq fun Y2 hY2 => ?_
  refine TW.region ?_
  refine TL.m Mk.bl ?_
  intro b3
  refine TL.p (by first | exact Pu.fb ty_fa36_2 | exact Pu.fe ty_fa36_2) ?_
  refine TL.p (Pu.ld ty_sc24) ?_
  refine TL.subK (KSub.ofBlk (n := 0) (sz := 1) (r := fun _ => []) Pick.hd rfl (fun _ h => by omega) rfl rfl (KSub.cons Pick.hd (KSub.cons (Pick.hd) KSub.nil))) ?_
  first | refine TL.a0 ty_et24 ?_ | refine TL.ap ty_et24 ?_
  intro A4 c4
  refine TL.p Pu.bd ?_
  refine TL.m (Mk.al ty_zr36) ?_
  intro b5
  first | refine TL.st ty_sz36 ?_ | refine TL.se ty_sz36 ?_
  refine TL.nil ?_
  refine TQ.thenN (hY2 _ _ ?_)
  refine TW.seq fun Y3 hY3 => ?_
  refine TW.seq fun Y4 hY4 => ?_
  refine TW.region ?_
  refine TL.p Pu.as ?_
  refine TL.nil ?_
  refine TQ.thenN (hY4 _ _ ?_)
  refine TW.block ?_
  refine TW.loop9 (fun (k : Nat) (G0 : Option Addr) (t : Nat) (c0 : Nat) (T : List Int) (G1 : Option Addr) (u : Nat) (c1 : Nat) (U : List Int) => [(6, .int .i64 (k : Int)), (1, .slice B m cm), (2, .pointer (some ⟨b1, 0, none⟩)), (4, .pointer (some ⟨b2, 0, none⟩)), (5, .pointer (some ⟨b5, 0, none⟩))]) (fun k G0 t c0 T G1 u c1 U => [.own G0 t c0 3 1 (iL T), .own G1 u c1 3 1 (iL U), .blk b5 36 [.slice G0 t c0, .slice G1 u c1, .slice A4 n2 c4], .own A4 n2 c4 3 1 (fun k => [.int .i64 (v2 k)]), .blk b1 36 [.slice (a 0) n0 (c 0), .slice (a 1) n1 (c 1), .slice (a 2) n2 (c 2)], .blk b2 36 [.slice none 0 0, .slice none 0 0, .slice none 0 0]]) (fun k G0 t c0 T G1 u c1 U => k ≤ n0 ∧ t = T.length ∧ u = U.length ∧ T = (L0.take k).filter (fun x => !M.contains x) ∧ U = (L0.take k).filter (fun x => M.contains x)) (fun k G0 t c0 T G1 u c1 U => n0 - k) 0 none 0 0 [] none 0 0 [] (by repeat (first | exact trivial | refine ⟨rfl, ?_⟩ | refine ⟨trivial, ?_⟩)) ?_ ?_ ?_
  · exact KSub.nilOwn (KSub.nilOwn (by repeat (first | exact KSub.nil | refine KSub.cons (by repeat (first | exact Pick.hd | apply Pick.tl)) ?_)))
  · exact ⟨Nat.zero_le _, rfl, rfl, by simp, by simp⟩
  rintro k G0 t c0 T G1 u c1 U ⟨hk, ht, hu, hT, hU⟩ Z0 hZ0
  have htl : t ≤ k := by rw [ht, hT]; exact filter_take_le
  have hul : u ≤ k := by rw [hu, hU]; exact filter_take_le
  refine TW.seq fun Y5 hY5 => ?_
  refine TW.seq fun Y6 hY6 => ?_
  refine TW.region ?_
  refine TL.p Pu.mv ?_
  refine TL.p (by first | exact Pu.fb ty_fa36_0 | exact Pu.fe ty_fa36_0) ?_
  refine TL.p (Pu.ld ty_sc24) ?_
  refine TL.p (Pu.ln Tryz.underlying24) ?_
  refine TL.p Pu.lt ?_
  refine TL.nil ?_
  refine TQ.thenN (hY6 _ _ ?_)
  refine TW.cond rfl (fun hc0 => ?_) (fun hc0 => ?_)
  · try simp only [decide_eq_true_eq, decide_eq_false_iff_not, Bool.not_eq_true', Bool.not_eq_false', Bool.and_eq_true, Bool.or_eq_true, Bool.and_eq_false_iff, Bool.or_eq_false_iff, Int.not_lt, Int.not_le] at hc0
    have hkn : k < n0 := by omega
    refine TW.skip ?_
    refine TQ.thenN (hY5 _ _ ?_)
    refine TW.seq fun Y7 hY7 => ?_
    refine TW.block ?_
    refine TW.seq fun Y8 hY8 => ?_
    refine TW.region ?_
    refine TL.p Pu.mv ?_
    refine TL.p (by first | exact Pu.fb ty_fa36_0 | exact Pu.fe ty_fa36_0) ?_
    refine TL.p (Pu.ld ty_sc24) ?_
    refine TL.p Pu.mv ?_
    refine TL.p (Pu.el ty_et24) ?_
    refine TL.p (Pu.ld ty_sc3) ?_
    refine TL.cr rfl (enters Tryz.func69 rfl rfl) (fun w hw => by
        exact refHas_any _ hm (by omega) (hM.sat hw Apart.nil)) ?_
    refine TL.nil ?_
    refine TQ.thenN (hY8 _ _ ?_)
    refine TW.cond rfl (fun hc1 => ?_) (fun hc1 => ?_)
    · try simp only [decide_eq_true_eq, decide_eq_false_iff_not, Bool.not_eq_true', Bool.not_eq_false', Bool.and_eq_true, Bool.or_eq_true, Bool.and_eq_false_iff, Bool.or_eq_false_iff, Int.not_lt, Int.not_le] at hc1
      obtain ⟨T', hT'⟩ : ∃ y, y = T := ⟨_, rfl⟩
      obtain ⟨U', hU'⟩ : ∃ y, y = U ++ [L0.getD k 0] := ⟨_, rfl⟩
      have s1 : t = T'.length := by rw [hT', ← ht]
      have s2 : u + 1 = U'.length := by rw [hU', List.length_append, ← hu]; rfl
      have s3 : T' = (L0.take (k + 1)).filter (fun x => !M.contains x) := by rw [hT', hT, filter_skip (by omega) (by rw [hc1]; rfl)]
      have s4 : U' = (L0.take (k + 1)).filter (fun x => M.contains x) := by rw [hU', hU, filter_next (by omega) hc1]
      refine TW.dw 8 ?_
      refine RK.tk (by first | exact Pu.fb ty_fa36_1 | exact Pu.fe ty_fa36_1) ?_
      refine RK.tk (Pu.ld ty_sc24) ?_
      refine RK.tk (by first | exact Pu.fb ty_fa36_0 | exact Pu.fe ty_fa36_0) ?_
      refine RK.tk (Pu.ld ty_sc24) ?_
      refine RK.tk Pu.mv ?_
      refine RK.tk (Pu.el ty_et24) ?_
      refine RK.tk (Pu.ld ty_sc3) ?_
      refine RK.keep ?_
      refine RK.ch [false] ?_ trivial
      refine WK.m Mk.bl ?_
      intro b6
      refine WK.n ?_
      first | refine TL.a0 ty_et24 ?_ | refine TL.ap ty_et24 ?_
      intro A7 c7
      let Z0 := G0
      let z0 := t
      let e0 := c0
      let Z1 := A7
      let z1 := u + 1
      let e1 := c7
      refine TL.p (by first | exact Pu.fb ty_fa36_1 | exact Pu.fe ty_fa36_1) ?_
      first | refine TL.st ty_sz24 ?_ | refine TL.se ty_sz24 ?_
      refine TL.nil ?_
      refine TQ.blkN ?_
      refine TQ.thenN (hY7 _ _ ?_)
      refine TW.region ?_
      refine TL.p Pu.mv ?_
      refine TL.p Pu.ad ?_
      refine TL.p Pu.as ?_
      refine TL.nil ?_
      refine TQ.thenN (hZ0 (k + 1) Z0 z0 e0 T' Z1 z1 e1 U' _ _ ?_ ?_ (by repeat (first | exact trivial | refine ⟨rfl, ?_⟩ | refine ⟨trivial, ?_⟩)) ?_)
      · exact ⟨by omega, s1, s2, s3, s4⟩
      · exact (by first | omega | (simp only []; omega) | (simp; omega))
      · first
          | exact KSub.own (by repeat (first | exact Pick.hd | apply Pick.tl)) (fun i _ => by rw [hT']) (KSub.own (by repeat (first | exact Pick.hd | apply Pick.tl)) (iL_app hu hU' rfl) (by repeat (first | exact KSub.nil | refine KSub.cons (by repeat (first | exact Pick.hd | apply Pick.tl)) ?_)))
          | exact KSub.own (by repeat (first | exact Pick.hd | apply Pick.tl)) (iL_app ht hT' rfl) (KSub.own (by repeat (first | exact Pick.hd | apply Pick.tl)) (fun i _ => by rw [hU']) (by repeat (first | exact KSub.nil | refine KSub.cons (by repeat (first | exact Pick.hd | apply Pick.tl)) ?_)))
    · try simp only [decide_eq_true_eq, decide_eq_false_iff_not, Bool.not_eq_true', Bool.not_eq_false', Bool.and_eq_true, Bool.or_eq_true, Bool.and_eq_false_iff, Bool.or_eq_false_iff, Int.not_lt, Int.not_le] at hc1
      obtain ⟨T', hT'⟩ : ∃ y, y = T ++ [L0.getD k 0] := ⟨_, rfl⟩
      obtain ⟨U', hU'⟩ : ∃ y, y = U := ⟨_, rfl⟩
      have s1 : t + 1 = T'.length := by rw [hT', List.length_append, ← ht]; rfl
      have s2 : u = U'.length := by rw [hU', ← hu]
      have s3 : T' = (L0.take (k + 1)).filter (fun x => !M.contains x) := by rw [hT', hT, filter_next (by omega) (by rw [hc1]; rfl)]
      have s4 : U' = (L0.take (k + 1)).filter (fun x => M.contains x) := by rw [hU', hU, filter_skip (by omega) hc1]
      refine TW.dw 8 ?_
      refine RK.tk (by first | exact Pu.fb ty_fa36_0 | exact Pu.fe ty_fa36_0) ?_
      refine RK.tk (Pu.ld ty_sc24) ?_
      refine RK.tk (by first | exact Pu.fb ty_fa36_0 | exact Pu.fe ty_fa36_0) ?_
      refine RK.tk (Pu.ld ty_sc24) ?_
      refine RK.tk Pu.mv ?_
      refine RK.tk (Pu.el ty_et24) ?_
      refine RK.tk (Pu.ld ty_sc3) ?_
      refine RK.keep ?_
      refine RK.ch [false] ?_ trivial
      refine WK.m Mk.bl ?_
      intro b8
      refine WK.n ?_
      first | refine TL.a0 ty_et24 ?_ | refine TL.ap ty_et24 ?_
      intro A9 c9
      let Z0 := A9
      let z0 := t + 1
      let e0 := c9
      let Z1 := G1
      let z1 := u
      let e1 := c1
      refine TL.p (by first | exact Pu.fb ty_fa36_0 | exact Pu.fe ty_fa36_0) ?_
      first | refine TL.st ty_sz24 ?_ | refine TL.se ty_sz24 ?_
      refine TL.nil ?_
      refine TQ.blkN ?_
      refine TQ.thenN (hY7 _ _ ?_)
      refine TW.region ?_
      refine TL.p Pu.mv ?_
      refine TL.p Pu.ad ?_
      refine TL.p Pu.as ?_
      refine TL.nil ?_
      refine TQ.thenN (hZ0 (k + 1) Z0 z0 e0 T' Z1 z1 e1 U' _ _ ?_ ?_ (by repeat (first | exact trivial | refine ⟨rfl, ?_⟩ | refine ⟨trivial, ?_⟩)) ?_)
      · exact ⟨by omega, s1, s2, s3, s4⟩
      · exact (by first | omega | (simp only []; omega) | (simp; omega))
      · first
          | exact KSub.own (by repeat (first | exact Pick.hd | apply Pick.tl)) (fun i _ => by rw [hT']) (KSub.own (by repeat (first | exact Pick.hd | apply Pick.tl)) (iL_app hu hU' rfl) (by repeat (first | exact KSub.nil | refine KSub.cons (by repeat (first | exact Pick.hd | apply Pick.tl)) ?_)))
          | exact KSub.own (by repeat (first | exact Pick.hd | apply Pick.tl)) (iL_app ht hT' rfl) (KSub.own (by repeat (first | exact Pick.hd | apply Pick.tl)) (fun i _ => by rw [hU']) (by repeat (first | exact KSub.nil | refine KSub.cons (by repeat (first | exact Pick.hd | apply Pick.tl)) ?_)))
  · try simp only [decide_eq_true_eq, decide_eq_false_iff_not, Bool.not_eq_true', Bool.not_eq_false', Bool.and_eq_true, Bool.or_eq_true, Bool.and_eq_false_iff, Bool.or_eq_false_iff, Int.not_lt, Int.not_le] at hc0
    obtain rfl : n0 = k := by omega
    have eL : L0.take n0 = L0 := List.take_of_length_le (by omega)
    rw [eL] at hT hU
    refine TW.exit ?_
    refine TQ.thenX ?_
    refine TQ.thenX ?_
    refine TQ.blkX ?_
    refine TQ.thenN (hY3 _ _ ?_)
    refine TW.seq fun Y9 hY9 => ?_
    refine TW.seq fun Y10 hY10 => ?_
    refine TW.region ?_
    refine TL.p Pu.as ?_
    refine TL.nil ?_
    refine TQ.thenN (hY10 _ _ ?_)
    refine TW.block ?_
    refine TW.loop9 (fun (k : Nat) (G0 : Option Addr) (t : Nat) (c0 : Nat) (T : List Int) (G1 : Option Addr) (u : Nat) (c1 : Nat) (U : List Int) => [(7, .int .i64 (k : Int)), (1, .slice B m cm), (2, .pointer (some ⟨b1, 0, none⟩)), (4, .pointer (some ⟨b2, 0, none⟩)), (5, .pointer (some ⟨b5, 0, none⟩))]) (fun k G0 t c0 T G1 u c1 U => [.own G0 t c0 3 1 (iL T), .own G1 u c1 3 1 (iL U), .blk b5 36 [.slice G0 t c0, .slice G1 u c1, .slice A4 n2 c4], .own A4 n2 c4 3 1 (fun k => [.int .i64 (v2 k)]), .blk b1 36 [.slice (a 0) n0 (c 0), .slice (a 1) n1 (c 1), .slice (a 2) n2 (c 2)], .blk b2 36 [.slice none 0 0, .slice none 0 0, .slice none 0 0]]) (fun k G0 t c0 T G1 u c1 U => k ≤ n1 ∧ t = T.length ∧ u = U.length ∧ T = L0.filter (fun x => !M.contains x) ++ (L1.take k).filter (fun x => M.contains x) ∧ U = L0.filter (fun x => M.contains x) ++ (L1.take k).filter (fun x => !M.contains x)) (fun k G0 t c0 T G1 u c1 U => n1 - k) 0 G0 t c0 T G1 u c1 U (by repeat (first | exact trivial | refine ⟨rfl, ?_⟩ | refine ⟨trivial, ?_⟩)) ?_ ?_ ?_
    · exact (by repeat (first | exact KSub.nil | refine KSub.cons (by repeat (first | exact Pick.hd | apply Pick.tl)) ?_))
    · exact ⟨Nat.zero_le _, ht, hu, by rw [hT]; simp, by rw [hU]; simp⟩
    rintro k G0 t c0 T G1 u c1 U ⟨hk, ht, hu, hT, hU⟩ Z1 hZ1
    have htl : t ≤ 2000 := by
      have h4 := List.length_filter_le (fun x => !M.contains x) L0
      have h5 := filter_take_le (L := L1) (k := k) (p := fun x => M.contains x)
      rw [ht, hT, List.length_append]; omega
    have hul : u ≤ 2000 := by
      have h4 := List.length_filter_le (fun x => M.contains x) L0
      have h5 := filter_take_le (L := L1) (k := k) (p := fun x => !M.contains x)
      rw [hu, hU, List.length_append]; omega
    refine TW.seq fun Y11 hY11 => ?_
    refine TW.seq fun Y12 hY12 => ?_
    refine TW.region ?_
    refine TL.p Pu.mv ?_
    refine TL.p (by first | exact Pu.fb ty_fa36_1 | exact Pu.fe ty_fa36_1) ?_
    refine TL.p (Pu.ld ty_sc24) ?_
    refine TL.p (Pu.ln Tryz.underlying24) ?_
    refine TL.p Pu.lt ?_
    refine TL.nil ?_
    refine TQ.thenN (hY12 _ _ ?_)
    refine TW.cond rfl (fun hc2 => ?_) (fun hc2 => ?_)
    · try simp only [decide_eq_true_eq, decide_eq_false_iff_not, Bool.not_eq_true', Bool.not_eq_false', Bool.and_eq_true, Bool.or_eq_true, Bool.and_eq_false_iff, Bool.or_eq_false_iff, Int.not_lt, Int.not_le] at hc2
      have hkn : k < n1 := by omega
      refine TW.skip ?_
      refine TQ.thenN (hY11 _ _ ?_)
      refine TW.seq fun Y13 hY13 => ?_
      refine TW.block ?_
      refine TW.seq fun Y14 hY14 => ?_
      refine TW.region ?_
      refine TL.p Pu.mv ?_
      refine TL.p (by first | exact Pu.fb ty_fa36_1 | exact Pu.fe ty_fa36_1) ?_
      refine TL.p (Pu.ld ty_sc24) ?_
      refine TL.p Pu.mv ?_
      refine TL.p (Pu.el ty_et24) ?_
      refine TL.p (Pu.ld ty_sc3) ?_
      refine TL.cr rfl (enters Tryz.func69 rfl rfl) (fun w hw => by
          exact refHas_any _ hm (by omega) (hM.sat hw Apart.nil)) ?_
      refine TL.nil ?_
      refine TQ.thenN (hY14 _ _ ?_)
      refine TW.cond rfl (fun hc3 => ?_) (fun hc3 => ?_)
      · try simp only [decide_eq_true_eq, decide_eq_false_iff_not, Bool.not_eq_true', Bool.not_eq_false', Bool.and_eq_true, Bool.or_eq_true, Bool.and_eq_false_iff, Bool.or_eq_false_iff, Int.not_lt, Int.not_le] at hc3
        obtain ⟨T', hT'⟩ : ∃ y, y = T ++ [L1.getD k 0] := ⟨_, rfl⟩
        obtain ⟨U', hU'⟩ : ∃ y, y = U := ⟨_, rfl⟩
        have s1 : t + 1 = T'.length := by rw [hT', List.length_append, ← ht]; rfl
        have s2 : u = U'.length := by rw [hU', ← hu]
        have s3 : T' = L0.filter (fun x => !M.contains x) ++ (L1.take (k + 1)).filter (fun x => M.contains x) := by rw [hT', hT, filter_next (by omega) hc3, List.append_assoc]
        have s4 : U' = L0.filter (fun x => M.contains x) ++ (L1.take (k + 1)).filter (fun x => !M.contains x) := by rw [hU', hU, filter_skip (by omega) (by rw [hc3]; rfl)]
        refine TW.dw 8 ?_
        refine RK.tk (by first | exact Pu.fb ty_fa36_0 | exact Pu.fe ty_fa36_0) ?_
        refine RK.tk (Pu.ld ty_sc24) ?_
        refine RK.tk (by first | exact Pu.fb ty_fa36_1 | exact Pu.fe ty_fa36_1) ?_
        refine RK.tk (Pu.ld ty_sc24) ?_
        refine RK.tk Pu.mv ?_
        refine RK.tk (Pu.el ty_et24) ?_
        refine RK.tk (Pu.ld ty_sc3) ?_
        refine RK.keep ?_
        refine RK.ch [false] ?_ trivial
        refine WK.m Mk.bl ?_
        intro b10
        refine WK.n ?_
        first | refine TL.a0 ty_et24 ?_ | refine TL.ap ty_et24 ?_
        intro A11 c11
        let Z0 := A11
        let z0 := t + 1
        let e0 := c11
        let Z1 := G1
        let z1 := u
        let e1 := c1
        refine TL.p (by first | exact Pu.fb ty_fa36_0 | exact Pu.fe ty_fa36_0) ?_
        first | refine TL.st ty_sz24 ?_ | refine TL.se ty_sz24 ?_
        refine TL.nil ?_
        refine TQ.blkN ?_
        refine TQ.thenN (hY13 _ _ ?_)
        refine TW.region ?_
        refine TL.p Pu.mv ?_
        refine TL.p Pu.ad ?_
        refine TL.p Pu.as ?_
        refine TL.nil ?_
        refine TQ.thenN (hZ1 (k + 1) Z0 z0 e0 T' Z1 z1 e1 U' _ _ ?_ ?_ (by repeat (first | exact trivial | refine ⟨rfl, ?_⟩ | refine ⟨trivial, ?_⟩)) ?_)
        · exact ⟨by omega, s1, s2, s3, s4⟩
        · exact (by first | omega | (simp only []; omega) | (simp; omega))
        · first
            | exact KSub.own (by repeat (first | exact Pick.hd | apply Pick.tl)) (fun i _ => by rw [hT']) (KSub.own (by repeat (first | exact Pick.hd | apply Pick.tl)) (iL_app hu hU' rfl) (by repeat (first | exact KSub.nil | refine KSub.cons (by repeat (first | exact Pick.hd | apply Pick.tl)) ?_)))
            | exact KSub.own (by repeat (first | exact Pick.hd | apply Pick.tl)) (iL_app ht hT' rfl) (KSub.own (by repeat (first | exact Pick.hd | apply Pick.tl)) (fun i _ => by rw [hU']) (by repeat (first | exact KSub.nil | refine KSub.cons (by repeat (first | exact Pick.hd | apply Pick.tl)) ?_)))
      · try simp only [decide_eq_true_eq, decide_eq_false_iff_not, Bool.not_eq_true', Bool.not_eq_false', Bool.and_eq_true, Bool.or_eq_true, Bool.and_eq_false_iff, Bool.or_eq_false_iff, Int.not_lt, Int.not_le] at hc3
        obtain ⟨T', hT'⟩ : ∃ y, y = T := ⟨_, rfl⟩
        obtain ⟨U', hU'⟩ : ∃ y, y = U ++ [L1.getD k 0] := ⟨_, rfl⟩
        have s1 : t = T'.length := by rw [hT', ← ht]
        have s2 : u + 1 = U'.length := by rw [hU', List.length_append, ← hu]; rfl
        have s3 : T' = L0.filter (fun x => !M.contains x) ++ (L1.take (k + 1)).filter (fun x => M.contains x) := by rw [hT', hT, filter_skip (by omega) hc3]
        have s4 : U' = L0.filter (fun x => M.contains x) ++ (L1.take (k + 1)).filter (fun x => !M.contains x) := by rw [hU', hU, filter_next (by omega) (by rw [hc3]; rfl), List.append_assoc]
        refine TW.dw 8 ?_
        refine RK.tk (by first | exact Pu.fb ty_fa36_1 | exact Pu.fe ty_fa36_1) ?_
        refine RK.tk (Pu.ld ty_sc24) ?_
        refine RK.tk (by first | exact Pu.fb ty_fa36_1 | exact Pu.fe ty_fa36_1) ?_
        refine RK.tk (Pu.ld ty_sc24) ?_
        refine RK.tk Pu.mv ?_
        refine RK.tk (Pu.el ty_et24) ?_
        refine RK.tk (Pu.ld ty_sc3) ?_
        refine RK.keep ?_
        refine RK.ch [false] ?_ trivial
        refine WK.m Mk.bl ?_
        intro b12
        refine WK.n ?_
        first | refine TL.a0 ty_et24 ?_ | refine TL.ap ty_et24 ?_
        intro A13 c13
        let Z0 := G0
        let z0 := t
        let e0 := c0
        let Z1 := A13
        let z1 := u + 1
        let e1 := c13
        refine TL.p (by first | exact Pu.fb ty_fa36_1 | exact Pu.fe ty_fa36_1) ?_
        first | refine TL.st ty_sz24 ?_ | refine TL.se ty_sz24 ?_
        refine TL.nil ?_
        refine TQ.blkN ?_
        refine TQ.thenN (hY13 _ _ ?_)
        refine TW.region ?_
        refine TL.p Pu.mv ?_
        refine TL.p Pu.ad ?_
        refine TL.p Pu.as ?_
        refine TL.nil ?_
        refine TQ.thenN (hZ1 (k + 1) Z0 z0 e0 T' Z1 z1 e1 U' _ _ ?_ ?_ (by repeat (first | exact trivial | refine ⟨rfl, ?_⟩ | refine ⟨trivial, ?_⟩)) ?_)
        · exact ⟨by omega, s1, s2, s3, s4⟩
        · exact (by first | omega | (simp only []; omega) | (simp; omega))
        · first
            | exact KSub.own (by repeat (first | exact Pick.hd | apply Pick.tl)) (fun i _ => by rw [hT']) (KSub.own (by repeat (first | exact Pick.hd | apply Pick.tl)) (iL_app hu hU' rfl) (by repeat (first | exact KSub.nil | refine KSub.cons (by repeat (first | exact Pick.hd | apply Pick.tl)) ?_)))
            | exact KSub.own (by repeat (first | exact Pick.hd | apply Pick.tl)) (iL_app ht hT' rfl) (KSub.own (by repeat (first | exact Pick.hd | apply Pick.tl)) (fun i _ => by rw [hU']) (by repeat (first | exact KSub.nil | refine KSub.cons (by repeat (first | exact Pick.hd | apply Pick.tl)) ?_)))
    · try simp only [decide_eq_true_eq, decide_eq_false_iff_not, Bool.not_eq_true', Bool.not_eq_false', Bool.and_eq_true, Bool.or_eq_true, Bool.and_eq_false_iff, Bool.or_eq_false_iff, Int.not_lt, Int.not_le] at hc2
      obtain rfl : n1 = k := by omega
      have eL : L1.take n1 = L1 := List.take_of_length_le (by omega)
      rw [eL] at hT hU
      have e1 : srt T = mvd L0 L1 M := by rw [hT]; rfl
      have e2 : srt U = mvd L1 L0 M := by rw [hU]; unfold mvd; exact srt_congr List.perm_append_comm
      have e3 : t = (mvd L0 L1 M).length := by rw [← e1, srt_len, ht]
      have e4 : u = (mvd L1 L0 M).length := by rw [← e2, srt_len, hu]
      refine TW.exit ?_
      refine TQ.thenX ?_
      refine TQ.thenX ?_
      refine TQ.blkX ?_
      refine TQ.thenN (hY9 _ _ ?_)
      refine TW.seq fun Y15 hY15 => ?_
      refine TW.expk [.own A4 n2 c4 3 1 (fun k => [.int .i64 (v2 k)]), .blk b1 36 [.slice (a 0) n0 (c 0), .slice (a 1) n1 (c 1), .slice (a 2) n2 (c 2)], .blk b2 36 [.slice none 0 0, .slice none 0 0, .slice none 0 0]] (fun (_ : Unit) => ([(5, .pointer (some ⟨b5, 0, none⟩)), (4, .pointer (some ⟨b2, 0, none⟩))] : Fr)) (fun (_ : Unit) => [.own G0 t c0 3 1 (iL (srt T)), .own G1 u c1 3 1 (iL (srt U)), .blk b5 36 [.slice G0 t c0, .slice G1 u c1, .slice A4 n2 c4], .own A4 n2 c4 3 1 (fun k => [.int .i64 (v2 k)]), .blk b2 36 [.slice none 0 0, .slice none 0 0, .slice none 0 0]]) ?_ (fun hE => ?_)
      · rintro ⟨⟩
        refine TQ.thenN (hY15 _ _ ?_)
        refine TW.seq fun Y16 hY16 => ?_
        refine TW.region ?_
        refine TL.p (Pu.lds ty_ag36) ?_
        first | refine TL.st ty_sz36 ?_ | refine TL.se ty_sz36 ?_
        refine TL.nil ?_
        refine TQ.thenN (hY16 _ _ ?_)
        refine TW.ret ?_
        refine TQ.ret Tryz.results29 rfl ((RV.cs ty_ag36 .nil)) ?_
        exact fun w hw => ⟨((G0, c0), (G1, c1), (A4, c4)), by unfold mv3T; rw [← e3, ← e4]; rfl, by
          unfold mv3K
          rw [← e1, ← e2, srt_len, srt_len, ← ht, ← hu]
          exact hw.sub (by repeat (first | exact KSub.nil | refine KSub.cons (by repeat (first | exact Pick.hd | apply Pick.tl)) ?_))⟩
      refine RG.tk 0 rfl (by first | exact Pu.fb ty_fa36_0 | exact Pu.fe ty_fa36_0) ?_
      refine RG.tk 3 rfl (by first | exact Pu.fb ty_fa36_1 | exact Pu.fe ty_fa36_1) ?_
      refine RG.a2 1 4 rfl rfl (fun X1 hX1 => ?_) (fun X4 hX4 => ?_)
      · refine TL.p (Pu.ld ty_sc24) ?_
        refine TL.nil ?_
        refine TQ.nxt (hX1 _ _ (by repeat (first | exact HasL.nil | refine HasL.cons (by repeat (first | exact Pick.hd | apply Pick.tl)) ?_)) ?_)
        refine RG.a2 2 4 rfl rfl (fun X2 hX2 => ?_) (fun X4 hX4 => ?_)
        · refine TL.call rfl (enters Tryz.func58 rfl rfl) (M := [.own G0 t c0 3 1 (iL T)]) (Pick.perm (by repeat (first | exact Pick.hd | apply Pick.tl))) rfl (fun w hw => by
              exact refSorted_any ht (by omega) (hw.holds (.own G0 t c0 3 1 (iL T)) (by simp))) ?_
          intro _
          refine TL.nil ?_
          refine TQ.nxt (hX2 _ _ (by repeat (first | exact HasL.nil | refine HasL.cons (by repeat (first | exact Pick.hd | apply Pick.tl)) ?_)) ?_)
          refine RG.a1 4 rfl (fun X4 hX4 => ?_)
          refine TL.p (Pu.ld ty_sc24) ?_
          refine TL.nil ?_
          refine TQ.nxt (hX4 _ _ (by repeat (first | exact HasL.nil | refine HasL.cons (by repeat (first | exact Pick.hd | apply Pick.tl)) ?_)) ?_)
          refine RG.tk 6 rfl (by first | exact Pu.fb ty_fa36_0 | exact Pu.fe ty_fa36_0) ?_
          refine RG.a1 5 rfl (fun X5 hX5 => ?_)
          refine TL.call rfl (enters Tryz.func58 rfl rfl) (M := [.own G1 u c1 3 1 (iL U)]) (Pick.perm (by repeat (first | exact Pick.hd | apply Pick.tl))) rfl (fun w hw => by
              exact refSorted_any hu (by omega) (hw.holds (.own G1 u c1 3 1 (iL U)) (by simp))) ?_
          intro _
          refine TL.nil ?_
          refine TQ.nxt (hX5 _ _ (by repeat (first | exact HasL.nil | refine HasL.cons (by repeat (first | exact Pick.hd | apply Pick.tl)) ?_)) ?_)
          refine RG.a1 7 rfl (fun X7 hX7 => ?_)
          first | refine TL.st ty_sz24 ?_ | refine TL.se ty_sz24 ?_
          refine TL.nil ?_
          refine TQ.nxt (hX7 _ _ (by repeat (first | exact HasL.nil | refine HasL.cons (by repeat (first | exact Pick.hd | apply Pick.tl)) ?_)) ?_)
          refine RG.tk 8 rfl (by first | exact Pu.fb ty_fa36_1 | exact Pu.fe ty_fa36_1) ?_
          refine RG.a1 9 rfl (fun X9 hX9 => ?_)
          first | refine TL.st ty_sz24 ?_ | refine TL.se ty_sz24 ?_
          refine TL.nil ?_
          refine TQ.nxt (hX9 _ _ (by repeat (first | exact HasL.nil | refine HasL.cons (by repeat (first | exact Pick.hd | apply Pick.tl)) ?_)) ?_)
          exact RG.nil (TQ.sub (by repeat (first | exact trivial | refine ⟨rfl, ?_⟩ | refine ⟨trivial, ?_⟩)) (by repeat (first | exact KSub.nil | refine KSub.cons (by repeat (first | exact Pick.hd | apply Pick.tl)) ?_ | exact KSub.refl _ | refine KSub.drop ?_)) (hE ⟨⟩)) (by kernel_rfl)
        · refine TL.p (Pu.ld ty_sc24) ?_
          refine TL.nil ?_
          refine TQ.nxt (hX4 _ _ (by repeat (first | exact HasL.nil | refine HasL.cons (by repeat (first | exact Pick.hd | apply Pick.tl)) ?_)) ?_)
          refine RG.a1 2 rfl (fun X2 hX2 => ?_)
          refine TL.call rfl (enters Tryz.func58 rfl rfl) (M := [.own G0 t c0 3 1 (iL T)]) (Pick.perm (by repeat (first | exact Pick.hd | apply Pick.tl))) rfl (fun w hw => by
              exact refSorted_any ht (by omega) (hw.holds (.own G0 t c0 3 1 (iL T)) (by simp))) ?_
          intro _
          refine TL.nil ?_
          refine TQ.nxt (hX2 _ _ (by repeat (first | exact HasL.nil | refine HasL.cons (by repeat (first | exact Pick.hd | apply Pick.tl)) ?_)) ?_)
          refine RG.tk 6 rfl (by first | exact Pu.fb ty_fa36_0 | exact Pu.fe ty_fa36_0) ?_
          refine RG.a1 5 rfl (fun X5 hX5 => ?_)
          refine TL.call rfl (enters Tryz.func58 rfl rfl) (M := [.own G1 u c1 3 1 (iL U)]) (Pick.perm (by repeat (first | exact Pick.hd | apply Pick.tl))) rfl (fun w hw => by
              exact refSorted_any hu (by omega) (hw.holds (.own G1 u c1 3 1 (iL U)) (by simp))) ?_
          intro _
          refine TL.nil ?_
          refine TQ.nxt (hX5 _ _ (by repeat (first | exact HasL.nil | refine HasL.cons (by repeat (first | exact Pick.hd | apply Pick.tl)) ?_)) ?_)
          refine RG.a1 7 rfl (fun X7 hX7 => ?_)
          first | refine TL.st ty_sz24 ?_ | refine TL.se ty_sz24 ?_
          refine TL.nil ?_
          refine TQ.nxt (hX7 _ _ (by repeat (first | exact HasL.nil | refine HasL.cons (by repeat (first | exact Pick.hd | apply Pick.tl)) ?_)) ?_)
          refine RG.tk 8 rfl (by first | exact Pu.fb ty_fa36_1 | exact Pu.fe ty_fa36_1) ?_
          refine RG.a1 9 rfl (fun X9 hX9 => ?_)
          first | refine TL.st ty_sz24 ?_ | refine TL.se ty_sz24 ?_
          refine TL.nil ?_
          refine TQ.nxt (hX9 _ _ (by repeat (first | exact HasL.nil | refine HasL.cons (by repeat (first | exact Pick.hd | apply Pick.tl)) ?_)) ?_)
          exact RG.nil (TQ.sub (by repeat (first | exact trivial | refine ⟨rfl, ?_⟩ | refine ⟨trivial, ?_⟩)) (by repeat (first | exact KSub.nil | refine KSub.cons (by repeat (first | exact Pick.hd | apply Pick.tl)) ?_ | exact KSub.refl _ | refine KSub.drop ?_)) (hE ⟨⟩)) (by kernel_rfl)
      · refine TL.p (Pu.ld ty_sc24) ?_
        refine TL.nil ?_
        refine TQ.nxt (hX4 _ _ (by repeat (first | exact HasL.nil | refine HasL.cons (by repeat (first | exact Pick.hd | apply Pick.tl)) ?_)) ?_)
        refine RG.a1 1 rfl (fun X1 hX1 => ?_)
        refine TL.p (Pu.ld ty_sc24) ?_
        refine TL.nil ?_
        refine TQ.nxt (hX1 _ _ (by repeat (first | exact HasL.nil | refine HasL.cons (by repeat (first | exact Pick.hd | apply Pick.tl)) ?_)) ?_)
        refine RG.a1 2 rfl (fun X2 hX2 => ?_)
        refine TL.call rfl (enters Tryz.func58 rfl rfl) (M := [.own G0 t c0 3 1 (iL T)]) (Pick.perm (by repeat (first | exact Pick.hd | apply Pick.tl))) rfl (fun w hw => by
            exact refSorted_any ht (by omega) (hw.holds (.own G0 t c0 3 1 (iL T)) (by simp))) ?_
        intro _
        refine TL.nil ?_
        refine TQ.nxt (hX2 _ _ (by repeat (first | exact HasL.nil | refine HasL.cons (by repeat (first | exact Pick.hd | apply Pick.tl)) ?_)) ?_)
        refine RG.tk 6 rfl (by first | exact Pu.fb ty_fa36_0 | exact Pu.fe ty_fa36_0) ?_
        refine RG.a1 5 rfl (fun X5 hX5 => ?_)
        refine TL.call rfl (enters Tryz.func58 rfl rfl) (M := [.own G1 u c1 3 1 (iL U)]) (Pick.perm (by repeat (first | exact Pick.hd | apply Pick.tl))) rfl (fun w hw => by
            exact refSorted_any hu (by omega) (hw.holds (.own G1 u c1 3 1 (iL U)) (by simp))) ?_
        intro _
        refine TL.nil ?_
        refine TQ.nxt (hX5 _ _ (by repeat (first | exact HasL.nil | refine HasL.cons (by repeat (first | exact Pick.hd | apply Pick.tl)) ?_)) ?_)
        refine RG.a1 7 rfl (fun X7 hX7 => ?_)
        first | refine TL.st ty_sz24 ?_ | refine TL.se ty_sz24 ?_
        refine TL.nil ?_
        refine TQ.nxt (hX7 _ _ (by repeat (first | exact HasL.nil | refine HasL.cons (by repeat (first | exact Pick.hd | apply Pick.tl)) ?_)) ?_)
        refine RG.tk 8 rfl (by first | exact Pu.fb ty_fa36_1 | exact Pu.fe ty_fa36_1) ?_
        refine RG.a1 9 rfl (fun X9 hX9 => ?_)
        first | refine TL.st ty_sz24 ?_ | refine TL.se ty_sz24 ?_
        refine TL.nil ?_
        refine TQ.nxt (hX9 _ _ (by repeat (first | exact HasL.nil | refine HasL.cons (by repeat (first | exact Pick.hd | apply Pick.tl)) ?_)) ?_)
        exact RG.nil (TQ.sub (by repeat (first | exact trivial | refine ⟨rfl, ?_⟩ | refine ⟨trivial, ?_⟩)) (by repeat (first | exact KSub.nil | refine KSub.cons (by repeat (first | exact Pick.hd | apply Pick.tl)) ?_ | exact KSub.refl _ | refine KSub.drop ?_)) (hE ⟨⟩)) (by kernel_rfl)
end Go.Proofs.YtjephihlkjpohaaGreatDoor
namespace Go.Proofs.YtjephihlkjpohaaGreatDoor
set_option linter.all false
set_option linter.unusedVariables false
set_option linter.unusedSimpArgs false
open Go.RowKit
structure SCx (w : World) (M : List Nat) (bP bN bV bC bR bB : Nat) (Ap Av Ac Ar : Option Addr) (np cp nc cc cv cr : Nat) (fv : Value) (wv cans r0 r1 : Nat → Int) (b : Int) : Prop where
  oP : OldB w bP [.slice Ap np cp]
  oN : OldB w bN [fv]
  oV : OldB w bV [.slice Av np cv]
  oC : OldB w bC [.slice Ac nc cc]
  oR : OldB w bR [.slice Ar np cr]
  oB : OldB w bB [.int .i64 b]
  nP : bP ∉ M
  nN : bN ∉ M
  nV : bV ∉ M
  nC : bC ∉ M
  nR : bR ∉ M
  nB : bB ∉ M
  rV : RdR w 1 Av np (fun k => [.int .i64 (wv k)])
  rC : RdR w 1 Ac nc (fun k => [.int .i64 (cans k)])
  rR : RdR w 2 Ar np (fun q => spL (r0 q) (r1 q))
  aV : 0 < np → Apart M Av
  aC : 0 < nc → Apart M Ac
  aR : 0 < np → Apart M Ar
  hr : RestOk r0 r1 np
  hnp : np ≤ 7
  hnc : nc ≤ 2
  hb : 0 ≤ b ∧ b ≤ 1000000000
  hw : ∀ k, k < np → 0 ≤ wv k ∧ wv k ≤ 1000000000000
theorem notin_sat {M M' : List Nat} {w w' : World} {K : List Fact} {q : Nat} (hs : Sat M w K w') (hM : ∀ b ∈ M', b ∈ feet K) (hq : q ∉ M) (hlt : q < w.heap.size) : q ∉ M' := fun hm => by
  rcases hs.ge q (hM q hm) with h | h
  · exact hq h
  · omega
theorem apart_sat {M M' : List Nat} {w w' : World} {K : List Fact} {sz n : Nat} {A : Option Addr} {r : Nat → List Value} (hs : Sat M w K w') (hM : ∀ b ∈ M', b ∈ feet K) (hR : RdR w sz A n r) (hA : 0 < n → Apart M A) : 0 < n → Apart M' A := fun hn q hq => by
  obtain ⟨b, o, e, hlt, _⟩ := hR.rd hn
  rw [e] at hq
  cases hq
  exact notin_sat hs hM (hA hn b (by rw [e]; rfl)) hlt
section
variable {w w' : World} {M M' : List Nat} {bP bN bV bC bR bB : Nat} {Ap Av Ac Ar : Option Addr} {np cp nc cc cv cr : Nat} {fv : Value} {wv cans r0 r1 : Nat → Int} {b : Int} {K : List Fact}
theorem SCx.sat (h : SCx w M bP bN bV bC bR bB Ap Av Ac Ar np cp nc cc cv cr fv wv cans r0 r1 b) (hs : Sat M w K w') (hM : ∀ b ∈ M', b ∈ feet K) : SCx w' M' bP bN bV bC bR bB Ap Av Ac Ar np cp nc cc cv cr fv wv cans r0 r1 b :=
  ⟨h.oP.sat hs h.nP, h.oN.sat hs h.nN, h.oV.sat hs h.nV, h.oC.sat hs h.nC, h.oR.sat hs h.nR, h.oB.sat hs h.nB,
    notin_sat hs hM h.nP h.oP.1, notin_sat hs hM h.nN h.oN.1, notin_sat hs hM h.nV h.oV.1, notin_sat hs hM h.nC h.oC.1, notin_sat hs hM h.nR h.oR.1, notin_sat hs hM h.nB h.oB.1,
    h.rV.sat0 hs h.aV, h.rC.sat0 hs h.aC, h.rR.sat0 hs h.aR, apart_sat hs hM h.rV h.aV, apart_sat hs hM h.rC h.aC, apart_sat hs hM h.rR h.aR, h.hr, h.hnp, h.hnc, h.hb, h.hw⟩
end
section
variable {w : World} {A : Nat → Option Addr} {c : Nat → Nat} {P np way k nc ns nr cr : Nat} {Ar : Option Addr} {r0 r1 : Nat → Int} {b : Int}
end
end Go.Proofs.YtjephihlkjpohaaGreatDoor
namespace Go.Proofs.YtjephihlkjpohaaGreatDoor
set_option linter.all false
set_option linter.unusedVariables false
set_option linter.unusedSimpArgs false
open Go.RowKit
theorem OwnR.le {w : World} {A : Option Addr} {n cp : Nat} {E : TypeId} {sz : Nat} {r : Nat → List Value} (h : OwnR w A n cp E sz r) : n ≤ cp := by
  rcases h.own.2 with ⟨e, h0⟩ | ⟨g, cap, cur, e, hg, hh, hnc, _⟩
  · injection e with e1 e2 e3
    omega
  · injection e with e1 e2 e3
    subst e3
    exact hnc
theorem TL.le {c : Cx} {Q : Exit → Act → World → Prop} {F : Fr} {K K' : List Fact} {ops : Array Oper} {rest : List Oper} {A : Option Addr} {n cp : Nat} {E : TypeId} {sz : Nat} {r : Nat → List Value} (hp : Pick K (.own A n cp E sz r) K') (h : n ≤ cp → TL c ops Q rest F K) : TL c ops Q rest F K := fun a w hF hK =>
  h (OwnR.le (hK.holds _ hp.mem)) a w hF hK
section
variable {A A2 : Nat → Option Addr} {l l2 c c2 : Nat → Nat} {v v2 : Nat → Nat → Int} {s : Nat} {Z : List Fact}
end
section
variable {P i way q s k : Nat} {A : Nat → Option Addr} {c : Nat → Nat} {A8 : Option Addr} {c8 : Nat}
end
section
variable {P ns : Nat} {bP bN bS bV bW bC bR bB bT : Nat} {Sd Ap Av Ac Ar : Option Addr} {np cp nc cc cv cr : Nat} {wv cans r0 r1 : Nat → Int} {b : Int}
end
end Go.Proofs.YtjephihlkjpohaaGreatDoor
namespace Go.Proofs.YtjephihlkjpohaaGreatDoor
set_option linter.all false
set_option linter.unusedVariables false
set_option linter.unusedSimpArgs false
open Go.RowKit
def dg (P w : Nat) : Nat → Nat
  | 0 => w
  | m + 1 => dg P w m / P
section
variable {P np w m s : Nat}
end
section
variable {c : Cx} {F : Fr} {K : List Fact} {d : Option Tmp} {ty : TypeId} {pos : String} {af : Array Edge} {g : Option (Nat × Bool)} {x y : Operand} {xt yt : TypeId} {i j : Nat}
end
section
variable {P np w m k i : Nat} {A : Nat → Option Addr} {c : Nat → Nat} {A2 : Option Addr} {c2 : Nat}
end
end Go.Proofs.YtjephihlkjpohaaGreatDoor
namespace Go.Proofs.YtjephihlkjpohaaGreatDoor
set_option linter.all false
set_option linter.unusedVariables false
set_option linter.unusedSimpArgs false
theorem rise_asc {v : Nat → Int} {n : Nat} {N : Nat} : allB n (riseP v N) = true ↔ Asc (toI v n) ∧ InxL (toI v n) N := by
  constructor
  · intro h
    refine ⟨asc_of fun k hk => ?_, inxL_toI (rise_inx h)⟩
    rw [toI_len] at hk
    rw [toI_get (v := v) (k := k) (by omega), toI_get hk]
    have := allB_iff.1 h (k + 1) hk
    have h9 : lastV v (k + 1) = v k := rfl
    simp only [riseP, inB5, h9, Bool.and_eq_true, decide_eq_true_eq] at this
    omega
  · rintro ⟨h1, h2⟩
    refine allB_iff.2 fun k hk => ?_
    have h3 := h2 (v k) (by rw [← toI_get (v := v) hk]; exact mem_getD (by rw [toI_len]; exact hk))
    simp only [riseP, inB5, Bool.and_eq_true, decide_eq_true_eq]
    cases k with
    | zero => simp only [lastV]; omega
    | succ k =>
      have := asc_getD h1 (Nat.lt_succ_self k) (by rw [toI_len]; exact hk)
      rw [toI_get (v := v) (k := k) (by omega), toI_get hk] at this
      simp only [lastV]
      omega
section
variable {np : Nat} {pk : Nat → Nat → Int} {l : Nat → Nat} {v : Nat → Nat → Int} {b : Int} {M : List Int}
end
end Go.Proofs.YtjephihlkjpohaaGreatDoor
namespace Go.Proofs.YtjephihlkjpohaaGreatDoor
set_option linter.all false
set_option linter.unusedVariables false
set_option linter.unusedSimpArgs false
open Go.RowKit
section
variable {c : Cx} {Q : Exit → Act → World → Prop} {F : Fr} {K K' : List Fact} {d : Option Tmp} {ty : TypeId} {pos : String} {af : Array Edge} {g : Option (Nat × Bool)} {x y : Operand} {xt yt : TypeId}
end
def othP (i k : Nat) (S T : List Int) : Prop := Asc T ∧ (∀ x ∈ T, x ∈ S) ∧ ((T.length ≤ i ∧ ∀ x ∈ T, x < i) ∨ (T.length ≤ i + 1 ∧ (∀ x ∈ T, x < (i : Int) + 1) ∧ ∃ k', k' < k ∧ S.getD k' 0 = i))
theorem othP.start {S : List Int} : othP 0 0 S [] := ⟨List.Pairwise.nil, (fun _ h => by cases h), .inl ⟨Nat.le_refl _, fun _ h => by cases h⟩⟩
theorem othP.skip {i k : Nat} {S T : List Int} (h : othP i k S T) : othP i (k + 1) S T := by
  obtain ⟨h1, h2, h3 | ⟨h3, h4, k', h5, h6⟩⟩ := h
  · exact ⟨h1, h2, .inl h3⟩
  · exact ⟨h1, h2, .inr ⟨h3, h4, k', by omega, h6⟩⟩
theorem nodup_getD {S : List Int} (h : S.Nodup) {i j : Nat} (hi : i < S.length) (hj : j < S.length) (e : S.getD i 0 = S.getD j 0) : i = j := by
  have e1 : S.getD i 0 = S[i] := by simp [List.getD_eq_getElem?_getD, hi]
  have e2 : S.getD j 0 = S[j] := by simp [List.getD_eq_getElem?_getD, hj]
  rw [e1, e2] at e
  exact (List.getElem_inj h).1 e
theorem othP.take {i k : Nat} {S T : List Int} (h : othP i k S T) (hS : S.Nodup) (hk : k < S.length) (e : S.getD k 0 = i) : othP i (k + 1) S (T ++ [(i : Int)]) := by
  obtain ⟨h1, h2, h3 | ⟨h3, h4, k', h5, h6⟩⟩ := h
  · refine ⟨List.pairwise_append.2 ⟨h1, List.pairwise_singleton _ _, fun x hx y hy => ?_⟩, fun x hx => ?_, .inr ⟨by rw [List.length_append]; simp; omega, fun x hx => ?_, k, by omega, e⟩⟩
    · obtain rfl := List.mem_singleton.1 hy
      exact h3.2 x hx
    · rcases List.mem_append.1 hx with hx | hx
      · exact h2 x hx
      · obtain rfl := List.mem_singleton.1 hx
        rw [← e]; exact mem_getD hk
    · rcases List.mem_append.1 hx with hx | hx
      · have := h3.2 x hx; omega
      · obtain rfl := List.mem_singleton.1 hx
        omega
  · have := nodup_getD hS (by omega) hk (h6.trans e.symm)
    omega
theorem othP.len {i k : Nat} {S T : List Int} (h : othP i k S T) : T.length ≤ i + 1 := by
  obtain ⟨h1, h2, h3 | h3⟩ := h
  · omega
  · exact h3.1
end Go.Proofs.YtjephihlkjpohaaGreatDoor
