/-
  Part 13 of the proof of loadMost_holds: declarations of several texts, in build order. No condition on a program.
-/
import Derived.Test.YtljhdcclajikiaaGreatDoorMost12
import Derived.Test.YtljhdcclajikiaaGreatDoorMost08
import Derived.Test.YtljhdcclajikiaaGreatDoorMost06
import Derived.Test.YtljhdcclajikiaaGreatDoorMost07
import Derived.Test.YtljhdcclajikiaaGreatDoorMost02
import Derived.ProofKit
import Derived.Deep.Slices
import Derived.Carry
namespace Go.Proofs.YtljhdcclajikiaaGreatDoor
set_option linter.all false
set_option linter.unusedVariables false
set_option linter.unusedSimpArgs false
open Go.RowKit
theorem way_tot {P np nc way : Nat} {pk : Nat → Nat → Int} (hnp : np ≤ 7) (hnc : nc ≤ 2) (hp : packsOk np pk = true) {k : Nat} (hk : k < nc) : tot (tln P np way k) 3 ≤ 10 := ((check_ok (way_check (P := P) (way := way) hnp hnc hp)).2.2 k hk).2
theorem catI_inx {P np way k : Nat} : Inx (catI (tln P np way k) (tvl P np way k)) (tot (tln P np way k) 3) np := fun q hq => by
  have h1 : (lsts (tln P np way k) (tvl P np way k) 3).getD q 0 = catI (tln P np way k) (tvl P np way k) q := lsts_get3 hq
  have h2 : (lsts (tln P np way k) (tvl P np way k) 3).getD q 0 ∈ lsts (tln P np way k) (tvl P np way k) 3 := mem_getD (by rw [lsts_length]; exact hq)
  rw [h1, way_lsts] at h2
  rcases List.mem_append.1 h2 with h | h
  · exact ⟨(sideI_mem h).1, (sideI_mem h).2.1⟩
  · exact ⟨(sideI_mem h).1, (sideI_mem h).2.1⟩
theorem sidesW_any {w : World} {A : Option Addr} {np cp : Nat} {pk : Nat → Nat → Int} {a : Nat → Option Addr} {l c : Nat → Nat} {v : Nat → Nat → Int} (hL : Lay1 w A np pk a l v) (hck : check1 np pk l v = 0) :
    Calls Tryz.prog 12 #[.slice A np cp, .agg (tieL a l c).toArray] w (Ret w (.tuple #[.agg #[.int .i64 (wlo pk (v 0) (l 0)), .int .i64 (whi pk (v 0) (l 0))], .agg #[.int .i64 (wlo pk (v 1) (l 1)), .int .i64 (whi pk (v 1) (l 1))], .agg #[.int .i64 (wlo pk (catI l v) (tot l 3)), .int .i64 (whi pk (catI l v) (tot l 3))], .int .i64 0])) := by
  have h := loadSides_any (cp := cp) (c := c) hL
  have hsd : sidesR np pk l v = [wlo pk (v 0) (l 0), whi pk (v 0) (l 0), wlo pk (v 1) (l 1), whi pk (v 1) (l 1), wlo pk (catI l v) (tot l 3), whi pk (catI l v) (tot l 3)] := if_pos hck
  rw [hsd, hck] at h
  exact h
set_option maxRecDepth 100000 in
set_option maxHeartbeats 4000000 in
theorem right_any {w : World} {AT A Ac Av : Option Addr} {P np nc cT cp cc cv bP bB bC bV way : Nat} {pk : Nat → Nat → Int} {cans wv : Nat → Int} {b : Int} {ta : Nat → Nat → Option Addr} {tc : Nat → Nat → Nat}
    (hG : None0 w) (hP : P = 2 * nc + 1) (hnp : np ≤ 7) (hnc : nc ≤ 2) (hp : packsOk np pk = true) (hb : 0 ≤ b ∧ b ≤ 1000000000) (hw : ∀ k, k < np → 0 ≤ wv k ∧ wv k ≤ 1000000000000)
    (oP : OldB w bP [.slice A np cp]) (oB : OldB w bB [.int .i64 b]) (oC : OldB w bC [.slice Ac nc cc]) (oV : OldB w bV [.slice Av np cv])
    (hR : RdR w 11 A np (fun k => packL (pk k))) (hC : RdR w 1 Ac nc (fun k => [.int .i64 (cans k)])) (hV : RdR w 1 Av np (fun k => [.int .i64 (wv k)]))
    (hT : RdR w 3 AT nc (fun i => tieL (ta i) (tln P np way i) (tc i))) (hI : ∀ i, i < nc → ∀ j, j < 3 → RdR w 1 (ta i j) (tln P np way i j) (fun k => [.int .i64 (tvl P np way i j k)])) :
    Calls Tryz.prog 11 #[.slice AT nc cT, .pointer (some ⟨bP, 0, none⟩), .pointer (some ⟨bB, 0, none⟩), .pointer (some ⟨bC, 0, none⟩), .pointer (some ⟨bV, 0, none⟩)] w
      (Ret w (.tuple #[.bool (allB nc (okT P np (fun q => rl (pk q)) (fun q => rh (pk q)) cans b way)), .int .i64 (if allB nc (okT P np (fun q => rl (pk q)) (fun q => rh (pk q)) cans b way) = true then wsum P wv np way else 0)])) := by
  have hpk := (packsOk_iff.1 hp).2
  refine K_enter (S := []) (K := []) Tryz.func11 rfl Tryz.ntmps11 rfl (Sat.start _) ?_
  refine TW.seq fun Y1 hY1 => ?_
  refine TW.region ?_
  refine TL.p Pu.as ?_
  refine TL.p Pu.as ?_
  refine TL.nil ?_
  refine TQ.thenN (hY1 _ _ ?_)
  refine TW.seq fun Y2 hY2 => ?_
  refine TW.region ?_
  refine TL.p Pu.as ?_
  refine TL.nil ?_
  refine TQ.thenN (hY2 _ _ ?_)
  refine TW.seq fun Y3 hY3 => ?_
  refine TW.seq fun Y4 hY4 => ?_
  refine TW.region ?_
  refine TL.p Pu.mv ?_
  refine TL.p (Pu.ln Tryz.underlying23) ?_
  refine TL.p Pu.mv ?_
  refine TL.nil ?_
  refine TQ.thenN (hY4 _ _ ?_)
  refine TW.block ?_
  refine TW.loop1 (fun (k : Nat) => [(21, .int .i64 (k : Int)), (20, .int .i64 (nc : Int)), (19, .slice AT nc cT), (8, .int .i64 (rightS wv P np way k)), (1, .pointer (some ⟨bP, 0, none⟩)), (2, .pointer (some ⟨bB, 0, none⟩)), (3, .pointer (some ⟨bC, 0, none⟩)), (4, .pointer (some ⟨bV, 0, none⟩))]) (fun k => []) (fun k => k ≤ nc ∧ (0 ≤ rightS wv P np way k ∧ rightS wv P np way k ≤ k * 10000000000000) ∧ ∀ j, j < k → okT P np (fun q => rl (pk q)) (fun q => rh (pk q)) cans b way j = true) (fun k => nc - k) 0 (by repeat (first | exact trivial | refine ⟨rfl, ?_⟩ | refine ⟨trivial, ?_⟩)) ?_ ?_ ?_
  · exact (by repeat (first | exact KSub.nil | refine KSub.cons (by repeat (first | exact Pick.hd | apply Pick.tl)) ?_))
  · exact ⟨Nat.zero_le _, ⟨Int.le_refl _, by simp [rightS]⟩, fun j hj => by omega⟩
  rintro k ⟨hk, hS, hall⟩ Z0 hZ0
  refine TW.seq fun Y5 hY5 => ?_
  refine TW.region ?_
  refine TL.p Pu.lt ?_
  refine TL.nil ?_
  refine TQ.thenN (hY5 _ _ ?_)
  refine TW.seq fun Y6 hY6 => ?_
  refine TW.cond rfl (fun hc0 => ?_) (fun hc0 => ?_)
  · try simp only [decide_eq_true_eq, decide_eq_false_iff_not, Bool.not_eq_true', Bool.not_eq_false', Bool.and_eq_true, Bool.or_eq_true, Bool.and_eq_false_iff, Bool.or_eq_false_iff, Int.not_lt, Int.not_le] at hc0
    have hkn : k < nc := by omega
    have hck := way_check1 (P := P) (way := way) hnp hp hkn hnc
    have htt := way_tot (P := P) (way := way) hnp hnc hp hkn
    have hL1 : Lay1 w A np pk (ta k) (tln P np way k) (tvl P np way k) := ⟨hG, by omega, hR, hI k hkn, by omega⟩
    have hak : askedV np pk (tln P np way k) (tvl P np way k) b = 0 := by unfold askedV inB5; rw [if_pos hck, if_pos (by simp; omega)]
    have hbal : balR np pk (tln P np way k) (tvl P np way k) b = balF pk (tln P np way k) (tvl P np way k) b := if_pos hak
    have hok : okT P np (fun q => rl (pk q)) (fun q => rh (pk q)) cans b way k = (decide (balF pk (tln P np way k) (tvl P np way k) b = 2) && decide (whi pk (catI (tln P np way k) (tvl P np way k)) (tot (tln P np way k) 3) ≤ cans k)) := rfl
    have hwb := wS_bd hw (tot (tln P np way k) 3) catI_inx
    have hrs : rightS wv P np way (k + 1) = rightS wv P np way k + wS wv (catI (tln P np way k) (tvl P np way k)) (tot (tln P np way k) 3) := rfl
    have htop : tln P np way k 2 = 0 := rfl
    have hcx := catI_inx (P := P) (np := np) (way := way) (k := k)
    refine TW.skip ?_
    refine TQ.thenN (hY6 _ _ ?_)
    refine TW.seq fun Y7 hY7 => ?_
    refine TW.block ?_
    refine TW.seq fun Y8 hY8 => ?_
    refine TW.region ?_
    refine TL.p Pu.mv ?_
    refine TL.p (Pu.el ty_et23) ?_
    refine TL.p (by first | exact (Pu.lds ty_ag34) | exact (Pu.ldso ty_ag34)) ?_
    refine TL.m (Mk.al ty_zr34) ?_
    intro b1
    refine TL.p Pu.as ?_
    first | refine TL.st ty_sz34 ?_ | refine TL.se ty_sz34 ?_
    refine TL.nil ?_
    refine TQ.thenN (hY8 _ _ ?_)
    refine TW.seq fun Y9 hY9 => ?_
    refine TW.region ?_
    refine TL.p (by first | exact (Pu.ld ty_sc22) | exact (Pu.ldo ty_sc22)) ?_
    refine TL.p (by first | exact (Pu.lds ty_ag34) | exact (Pu.ldso ty_ag34)) ?_
    refine TL.p (by first | exact (Pu.ld ty_sc3) | exact (Pu.ldo ty_sc3)) ?_
    refine TL.cr rfl (enters Tryz.func9 rfl rfl) (fun w hw => by
        have h := loadBalance_any (cp := cp) (c := tc k) (b := b) (hL1.sat hw); rw [hbal, hak] at h; exact h) ?_
    refine TL.p Pu.mv ?_
    refine TL.p Pu.ex ?_
    refine TL.p Pu.ex ?_
    refine TL.p Pu.as ?_
    refine TL.p Pu.as ?_
    refine TL.nil ?_
    refine TQ.thenN (hY9 _ _ ?_)
    refine TW.seq fun Y10 hY10 => ?_
    refine TW.region ?_
    refine TL.p (by first | exact (Pu.ld ty_sc22) | exact (Pu.ldo ty_sc22)) ?_
    refine TL.p (by first | exact (Pu.lds ty_ag34) | exact (Pu.ldso ty_ag34)) ?_
    refine TL.cr rfl (enters Tryz.func12 rfl rfl) (fun w hw => by
        exact sidesW_any (c := tc k) (hL1.sat hw) hck) ?_
    refine TL.p Pu.mv ?_
    refine TL.p Pu.ex ?_
    refine TL.p Pu.ex ?_
    refine TL.p Pu.ex ?_
    refine TL.p Pu.ex ?_
    refine TL.m (Mk.al ty_zr47) ?_
    intro b2
    refine TL.m (Mk.al ty_zr47) ?_
    intro b3
    refine TL.m (Mk.al ty_zr47) ?_
    intro b4
    first | refine TL.st ty_sz47 ?_ | refine TL.se ty_sz47 ?_
    first | refine TL.st ty_sz47 ?_ | refine TL.se ty_sz47 ?_
    first | refine TL.st ty_sz47 ?_ | refine TL.se ty_sz47 ?_
    refine TL.p Pu.as ?_
    refine TL.nil ?_
    refine TQ.thenN (hY10 _ _ ?_)
    refine TW.seq fun Y11 hY11 => ?_
    refine TW.seq fun Y12 hY12 => ?_
    refine TW.join [(65, .bool (!decide (balF pk (tln P np way k) (tvl P np way k) b = 2) || decide (cans k < whi pk (catI (tln P np way k) (tvl P np way k)) (tot (tln P np way k) 3))))] ?_ (fun hJ1 => ?_)
    · refine TQ.thenN (hY12 _ _ ?_)
      refine TW.cond rfl (fun hc1 => ?_) (fun hc1 => ?_)
      · try simp only [decide_eq_true_eq, decide_eq_false_iff_not, Bool.not_eq_true', Bool.not_eq_false', Bool.and_eq_true, Bool.or_eq_true, Bool.and_eq_false_iff, Bool.or_eq_false_iff, Int.not_lt, Int.not_le] at hc1
        have hbad : okT P np (fun q => rl (pk q)) (fun q => rh (pk q)) cans b way k = false := by
          rw [hok]
          rcases hc1 with h | h
          · rw [decide_eq_false h]; rfl
          · rw [decide_eq_false (show ¬ whi pk (catI (tln P np way k) (tvl P np way k)) (tot (tln P np way k) 3) ≤ cans k by omega), Bool.and_false]
        refine TW.seq fun Y13 hY13 => ?_
        refine TW.region ?_
        refine TL.p Pu.as ?_
        refine TL.p Pu.as ?_
        refine TL.nil ?_
        refine TQ.thenN (hY13 _ _ ?_)
        refine TW.ret ?_
        refine TQ.thenR ?_
        refine TQ.blkR ?_
        refine TQ.thenR ?_
        refine TQ.thenR ?_
        refine TQ.blkR ?_
        refine TQ.thenR ?_
        refine TQ.ret Tryz.results11 rfl ((.tmp rfl (.tmp rfl .nil))) ?_
        have hno : allB nc (okT P np (fun q => rl (pk q)) (fun q => rh (pk q)) cans b way) = false := by
          cases h : allB nc (okT P np (fun q => rl (pk q)) (fun q => rh (pk q)) cans b way) with
          | false => rfl
          | true => rw [allB_iff.1 h k hkn] at hbad; cases hbad
        exact fun w hw => ⟨by rw [hno]; rfl, Chg.ext hw.chg⟩
      · try simp only [decide_eq_true_eq, decide_eq_false_iff_not, Bool.not_eq_true', Bool.not_eq_false', Bool.and_eq_true, Bool.or_eq_true, Bool.and_eq_false_iff, Bool.or_eq_false_iff, Int.not_lt, Int.not_le] at hc1
        have hgood : okT P np (fun q => rl (pk q)) (fun q => rh (pk q)) cans b way k = true := by rw [hok]; simp only [Bool.and_eq_true, decide_eq_true_eq]; exact hc1
        refine TW.skip ?_
        refine TQ.thenN (hY11 _ _ ?_)
        refine TW.seq fun Y14 hY14 => ?_
        refine TW.region ?_
        refine TL.p (by first | exact (Pu.lds ty_ag34) | exact (Pu.ldso ty_ag34)) ?_
        refine TL.call (M := []) rfl (enters Tryz.func13 rfl rfl) (List.Perm.refl _) rfl (fun w hw => by
            have h9 := refList_any (c := tc k) (show tot (tln P np way k) 3 ≤ 1000000000 by omega) (hL1.sat hw).hI
            rw [catN_catI] at h9
            exact h9) ?_
        rintro ⟨Al, cl⟩
        refine TL.p (Pu.ln Tryz.underlying24) ?_
        refine TL.p Pu.mv ?_
        refine TL.nil ?_
        refine TQ.thenN (hY14 _ _ ?_)
        refine TW.block ?_
        refine TW.loop1 (fun (q : Nat) => [(69, .int .i64 (q : Int)), (68, .int .i64 ((tot (tln P np way k) 3 : Nat) : Int)), (67, .slice Al (tot (tln P np way k) 3) cl), (21, .int .i64 (k : Int)), (20, .int .i64 (nc : Int)), (19, .slice AT nc cT), (8, .int .i64 (rightS wv P np way k + wS wv (catI (tln P np way k) (tvl P np way k)) q)), (1, .pointer (some ⟨bP, 0, none⟩)), (2, .pointer (some ⟨bB, 0, none⟩)), (3, .pointer (some ⟨bC, 0, none⟩)), (4, .pointer (some ⟨bV, 0, none⟩))]) (fun q => [.own Al (tot (tln P np way k) 3) cl 3 1 (fun q => [.int .i64 (catI (tln P np way k) (tvl P np way k) q)])]) (fun q => q ≤ tot (tln P np way k) 3) (fun q => tot (tln P np way k) 3 - q) 0 ⟨rfl, rfl, rfl, rfl, rfl, rfl, (by show some (Value.int .i64 (rightS wv P np way k)) = some (Value.int .i64 (rightS wv P np way k + 0)); rw [Int.add_zero]), rfl, rfl, rfl, rfl, trivial⟩ ?_ ?_ ?_
        · exact (by repeat (first | exact KSub.nil | refine KSub.cons (by repeat (first | exact Pick.hd | apply Pick.tl)) ?_))
        · exact Nat.zero_le _
        rintro q hq Z1 hZ1
        refine TW.seq fun Y15 hY15 => ?_
        refine TW.region ?_
        refine TL.p Pu.lt ?_
        refine TL.nil ?_
        refine TQ.thenN (hY15 _ _ ?_)
        refine TW.seq fun Y16 hY16 => ?_
        refine TW.cond rfl (fun hc2 => ?_) (fun hc2 => ?_)
        · try simp only [decide_eq_true_eq, decide_eq_false_iff_not, Bool.not_eq_true', Bool.not_eq_false', Bool.and_eq_true, Bool.or_eq_true, Bool.and_eq_false_iff, Bool.or_eq_false_iff, Int.not_lt, Int.not_le] at hc2
          have hqn : q < tot (tln P np way k) 3 := by omega
          have hin := hcx q hqn
          have hvb := hw (catI (tln P np way k) (tvl P np way k) q).toNat (by omega)
          have hwq := wS_bd hw q fun j hj => hcx j (by omega)
          have hsn : wS wv (catI (tln P np way k) (tvl P np way k)) (q + 1) = wS wv (catI (tln P np way k) (tvl P np way k)) q + wv (catI (tln P np way k) (tvl P np way k) q).toNat := rfl
          refine TW.skip ?_
          refine TQ.thenN (hY16 _ _ ?_)
          refine TW.seq fun Y17 hY17 => ?_
          refine TW.block ?_
          refine TW.seq fun Y18 hY18 => ?_
          refine TW.region ?_
          refine TL.p (Pu.el ty_et24) ?_
          refine TL.p (by first | exact (Pu.ld ty_sc3) | exact (Pu.ldo ty_sc3)) ?_
          refine TL.p Pu.as ?_
          refine TL.nil ?_
          refine TQ.thenN (hY18 _ _ ?_)
          refine TW.region ?_
          refine TL.p Pu.mv ?_
          refine TL.p (by first | exact (Pu.ld ty_sc24) | exact (Pu.ldo ty_sc24)) ?_
          refine TL.p Pu.mv ?_
          refine TL.p (Pu.el (q := (catI (tln P np way k) (tvl P np way k) q).toNat) ty_et24 (hk := rfl)) ?_
          refine TL.p (by first | exact (Pu.ld ty_sc3) | exact (Pu.ldo ty_sc3)) ?_
          refine TL.p Pu.ad ?_
          refine TL.p Pu.as ?_
          refine TL.nil ?_
          refine TQ.blkN ?_
          refine TQ.thenN (hY17 _ _ ?_)
          refine TW.region ?_
          refine TL.p Pu.ad ?_
          refine TL.p Pu.mv ?_
          refine TL.nil ?_
          refine TQ.thenN (hZ1 (q + 1) _ _ ?_ ?_ ⟨rfl, rfl, rfl, rfl, rfl, rfl, (by rw [hsn, ← Int.add_assoc]; rfl), rfl, rfl, rfl, rfl, trivial⟩ ?_)
          · exact (by omega)
          · exact (by first | omega | (simp only []; omega) | (simp; omega))
          · exact (by repeat (first | exact KSub.nil | refine KSub.cons (by repeat (first | exact Pick.hd | apply Pick.tl)) ?_))
        · try simp only [decide_eq_true_eq, decide_eq_false_iff_not, Bool.not_eq_true', Bool.not_eq_false', Bool.and_eq_true, Bool.or_eq_true, Bool.and_eq_false_iff, Bool.or_eq_false_iff, Int.not_lt, Int.not_le] at hc2
          have hqe : q = tot (tln P np way k) 3 := by omega
          refine TW.exit ?_
          refine TQ.thenX ?_
          refine TQ.thenX ?_
          refine TQ.blkX ?_
          refine TQ.blkN ?_
          refine TQ.thenN (hY7 _ _ ?_)
          refine TW.region ?_
          refine TL.p Pu.ad ?_
          refine TL.p Pu.mv ?_
          refine TL.nil ?_
          refine TQ.thenN (hZ0 (k + 1) _ _ ?_ ?_ ⟨rfl, rfl, rfl, (by rw [hrs, hqe]; rfl), rfl, rfl, rfl, rfl, trivial⟩ ?_)
          · refine ⟨by omega, ⟨by rw [hrs]; omega, by rw [hrs]; omega⟩, fun j hj => ?_⟩
            by_cases h : j = k
            · subst h; exact hgood
            · exact hall j (by omega)
          · exact (by first | omega | (simp only []; omega) | (simp; omega))
          · exact (by repeat (first | exact KSub.nil | refine KSub.cons (by repeat (first | exact Pick.hd | apply Pick.tl)) ?_))
    refine TW.dw 25 ?_
    refine RK.tk Pu.mv ?_
    refine RK.tk Pu.ne ?_
    refine RK.tk Pu.mv ?_
    refine RK.tk Pu.mv ?_
    refine RK.tk Pu.ne ?_
    refine RK.tk Pu.kf ?_
    refine RK.tk Pu.mv ?_
    refine RK.tk Pu.mv ?_
    refine RK.tk Pu.ne ?_
    refine RK.tk Pu.kf ?_
    refine RK.tk Pu.mv ?_
    refine RK.guard (t := 51) rfl (fun hg1 => ?_) (fun hg1 => ?_)
    · try simp only [decide_eq_true_eq, decide_eq_false_iff_not, Bool.not_eq_true', Bool.not_eq_false', Int.natCast_pos] at hg1
      refine RK.s ?_
      refine RK.s ?_
      refine RK.s ?_
      refine RK.s ?_
      refine RK.s ?_
      refine RK.s ?_
      refine RK.s ?_
      refine RK.tk Pu.kt ?_
      refine RK.tk Pu.mv ?_
      refine RK.s ?_
      refine RK.s ?_
      refine RK.s ?_
      refine RK.s ?_
      refine RK.tk Pu.kt ?_
      refine RK.ch [] ?_ trivial
      refine WK.n ?_
      refine TL.nil ?_
      exact TQ.sub (by repeat (first | exact trivial | refine ⟨rfl, ?_⟩ | refine ⟨trivial, ?_⟩ | refine ⟨(by show some (Value.bool _) = some (Value.bool _); simp [hg1, htop]), ?_⟩)) (by repeat (first | exact KSub.nil | refine KSub.cons (by repeat (first | exact Pick.hd | apply Pick.tl)) ?_)) hJ1
    · try simp only [decide_eq_true_eq, decide_eq_false_iff_not, Bool.not_eq_true', Bool.not_eq_false', Int.natCast_pos] at hg1
      refine RK.tk (by first | exact Pu.fb ty_fa47_1 | exact Pu.fe ty_fa47_1) ?_
      refine RK.tk (by first | exact (Pu.ld ty_sc3) | exact (Pu.ldo ty_sc3)) ?_
      refine RK.tk (by first | exact (Pu.ld ty_sc24) | exact (Pu.ldo ty_sc24)) ?_
      refine RK.tk Pu.mv ?_
      refine RK.tk (Pu.el ty_et24) ?_
      refine RK.tk (by first | exact (Pu.ld ty_sc3) | exact (Pu.ldo ty_sc3)) ?_
      refine RK.tk Pu.gt ?_
      refine RK.tk Pu.kf ?_
      refine RK.tk Pu.mv ?_
      refine RK.guard (t := 60) rfl (fun hg2 => ?_) (fun hg2 => ?_)
      · try simp only [decide_eq_true_eq, decide_eq_false_iff_not, Bool.not_eq_true', Bool.not_eq_false', Int.natCast_pos] at hg2
        refine RK.s ?_
        refine RK.s ?_
        refine RK.s ?_
        refine RK.s ?_
        refine RK.tk Pu.kt ?_
        refine RK.ch [] ?_ trivial
        refine WK.n ?_
        refine TL.nil ?_
        exact TQ.sub (by repeat (first | exact trivial | refine ⟨rfl, ?_⟩ | refine ⟨trivial, ?_⟩ | refine ⟨(by show some (Value.bool _) = some (Value.bool _); simp [hg1, hg2, htop]), ?_⟩)) (by repeat (first | exact KSub.nil | refine KSub.cons (by repeat (first | exact Pick.hd | apply Pick.tl)) ?_)) hJ1
      · try simp only [decide_eq_true_eq, decide_eq_false_iff_not, Bool.not_eq_true', Bool.not_eq_false', Int.natCast_pos] at hg2
        refine RK.tk (by first | exact Pu.fb ty_fa34_2 | exact Pu.fe ty_fa34_2) ?_
        refine RK.tk (by first | exact (Pu.ld ty_sc24) | exact (Pu.ldo ty_sc24)) ?_
        refine RK.tk (Pu.ln Tryz.underlying24) ?_
        refine RK.tk Pu.gt ?_
        refine RK.tk Pu.kf ?_
        refine RK.ch [] ?_ trivial
        refine WK.n ?_
        refine TL.nil ?_
        exact TQ.sub (by repeat (first | exact trivial | refine ⟨rfl, ?_⟩ | refine ⟨trivial, ?_⟩ | refine ⟨(by show some (Value.bool _) = some (Value.bool _); simp [hg1, hg2, htop]), ?_⟩)) (by repeat (first | exact KSub.nil | refine KSub.cons (by repeat (first | exact Pick.hd | apply Pick.tl)) ?_)) hJ1
  · try simp only [decide_eq_true_eq, decide_eq_false_iff_not, Bool.not_eq_true', Bool.not_eq_false', Bool.and_eq_true, Bool.or_eq_true, Bool.and_eq_false_iff, Bool.or_eq_false_iff, Int.not_lt, Int.not_le] at hc0
    obtain rfl : nc = k := by omega
    refine TW.exit ?_
    refine TQ.thenX ?_
    refine TQ.thenX ?_
    refine TQ.blkX ?_
    refine TQ.thenN (hY3 _ _ ?_)
    refine TW.seq fun Y19 hY19 => ?_
    refine TW.region ?_
    refine TL.p Pu.mv ?_
    refine TL.p Pu.as ?_
    refine TL.p Pu.as ?_
    refine TL.nil ?_
    refine TQ.thenN (hY19 _ _ ?_)
    refine TW.ret ?_
    refine TQ.ret Tryz.results11 rfl ((.tmp rfl (.tmp rfl .nil))) ?_
    have hyes : allB nc (okT P np (fun q => rl (pk q)) (fun q => rh (pk q)) cans b way) = true := allB_iff.2 hall
    have hsum : rightS wv P np way nc = wsum P wv np way := by rw [hP]; exact rightS_all
    exact fun w hw => ⟨by rw [hyes, if_pos rfl, ← hsum]; rfl, Chg.ext hw.chg⟩
end Go.Proofs.YtljhdcclajikiaaGreatDoor
namespace Go.Proofs.YtljhdcclajikiaaGreatDoor
set_option linter.all false
set_option linter.unusedVariables false
set_option linter.unusedSimpArgs false
open Go.RowKit
theorem tieS_tieL {P np way : Nat} {X : Nat → Option Addr} {Xc : Nat → Nat} : tieS X (sln P np way) Xc = fun i => tieL (tA X i) (tln P np way i) (tC Xc i) := by
  funext i
  simp [tieS, tieL, tA, tln, tC]
theorem ties_read {S : List Nat} {w0 w : World} {K : List Fact} {P np way n : Nat} {x : TX} (hs : Sat S w0 K w) (hK : ∀ φ ∈ tiesL P np way n x, φ ∈ K) :
    RdR w 3 x.1.1 n (fun i => tieL (tA x.2.1 i) (tln P np way i) (tC x.2.2 i)) ∧ ∀ i, i < n → ∀ j, j < 3 → RdR w 1 (tA x.2.1 i j) (tln P np way i j) (fun k => [.int .i64 (tvl P np way i j k)]) := by
  refine ⟨?_, fun i hi => ?_⟩
  · have h1 := OwnR.rdr (hs.holds _ (hK _ (List.mem_cons_self ..)))
    rw [tieS_tieL] at h1
    exact h1
  · exact tie_rd (ownsK_rd (A := x.2.1) (l := sln P np way) (c := x.2.2) (v := svl P np way) (n := 2 * n) hs (fun φ hφ => hK φ (List.mem_cons_of_mem _ hφ))) hi rfl
end Go.Proofs.YtljhdcclajikiaaGreatDoor
namespace Go.Proofs.YtljhdcclajikiaaGreatDoor
set_option linter.all false
set_option linter.unusedVariables false
set_option linter.unusedSimpArgs false
open Go.RowKit
section
variable {np nc nw : Nat} {pk : Nat → Nat → Int} {cans wv : Nat → Int} {b : Int}
theorem stowC_form (hp : packsOk np pk = true) (h7 : np ≤ 7) (h2 : nc ≤ 2) : stowC np pk nc cans nw wv b = if inB5 0 1000000000 b then (if (allB nc fun k => inB5 0 1000000000 (cans k)) then (if (decide ((nw : Int) = (np : Int)) && allB nw fun k => inB5 0 1000000000000 (wv k)) then 0 else 55) else 2) else 2 := by
  unfold stowC code5
  rw [checkV0, if_pos hp, if_pos rfl, decide_eq_true (show (np : Int) ≤ 7 by omega), decide_eq_true (show (nc : Int) ≤ 2 by omega)]
  rfl
theorem stowC_or (hp : packsOk np pk = true) (h7 : np ≤ 7) (h2 : nc ≤ 2) : stowC np pk nc cans nw wv b = 0 ∨ stowC np pk nc cans nw wv b = 2 ∨ stowC np pk nc cans nw wv b = 55 := by
  rw [stowC_form hp h7 h2]
  (repeat' split) <;> simp
theorem stowC_no (hp : packsOk np pk = true) (h7 : np ≤ 7) (h2 : nc ≤ 2) (h : stowC np pk nc cans nw wv b = 0) : (0 ≤ b ∧ b ≤ 1000000000) ∧ (∀ k, k < nc → 0 ≤ cans k ∧ cans k ≤ 1000000000) ∧ nw = np ∧ ∀ k, k < nw → 0 ≤ wv k ∧ wv k ≤ 1000000000000 := by
  rw [stowC_form hp h7 h2] at h
  split at h
  · rename_i h1
    split at h
    · rename_i h3
      split at h
      · rename_i h4
        simp only [inB5, Bool.and_eq_true, decide_eq_true_eq, allB_iff] at h1 h3 h4
        exact ⟨h1, h3, by omega, h4.2⟩
      · omega
    · omega
  · omega
theorem stowC_yes (hp : packsOk np pk = true) (h7 : np ≤ 7) (h2 : nc ≤ 2) (h : (0 ≤ b ∧ b ≤ 1000000000) ∧ (∀ k, k < nc → 0 ≤ cans k ∧ cans k ≤ 1000000000) ∧ nw = np ∧ ∀ k, k < nw → 0 ≤ wv k ∧ wv k ≤ 1000000000000) : stowC np pk nc cans nw wv b = 0 := by
  obtain ⟨h1, h3, h4, h5⟩ := h
  rw [stowC_form hp h7 h2, if_pos (by simp only [inB5, Bool.and_eq_true, decide_eq_true_eq]; exact h1), if_pos (by simp only [inB5, Bool.and_eq_true, decide_eq_true_eq, allB_iff]; exact h3), if_pos (by simp only [inB5, Bool.and_eq_true, decide_eq_true_eq, allB_iff]; exact ⟨by omega, h5⟩)]
end
section
variable {Y : Nat → Option Addr} {E : Nat → Nat} {l l2 : Nat → Nat} {v v2 : Nat → Nat → Int} {A8 : Option Addr} {c8 k s n : Nat}
theorem tieS_put0 (h0 : l2 (2 * k) = l (2 * k) + 1) (ho : ∀ s, s ≠ 2 * k → l2 s = l s) (i : Nat) : updR (tieS Y l E) k [.slice A8 (l (2 * k) + 1) c8, .slice (Y (2 * k + 1)) (l (2 * k + 1)) (E (2 * k + 1)), .slice none 0 0] i = tieS (updN Y (2 * k) A8) l2 (updN E (2 * k) c8) i := by
  unfold updR
  by_cases h : i = k
  · subst h
    rw [if_pos rfl]
    unfold tieS updN
    rw [if_pos rfl, if_pos rfl, if_neg (by omega), if_neg (by omega), h0, ho (2 * i + 1) (by omega)]
  · rw [if_neg h]
    unfold tieS updN
    rw [if_neg (by omega), if_neg (by omega), if_neg (by omega), if_neg (by omega), ho (2 * i) (by omega), ho (2 * i + 1) (by omega)]
theorem tieS_put1 (h0 : l2 (2 * k + 1) = l (2 * k + 1) + 1) (ho : ∀ s, s ≠ 2 * k + 1 → l2 s = l s) (i : Nat) : updR (tieS Y l E) k [.slice (Y (2 * k)) (l (2 * k)) (E (2 * k)), .slice A8 (l (2 * k + 1) + 1) c8, .slice none 0 0] i = tieS (updN Y (2 * k + 1) A8) l2 (updN E (2 * k + 1) c8) i := by
  unfold updR
  by_cases h : i = k
  · subst h
    rw [if_pos rfl]
    unfold tieS updN
    rw [if_neg (by omega), if_neg (by omega), if_pos rfl, if_pos rfl, h0, ho (2 * i) (by omega)]
  · rw [if_neg h]
    unfold tieS updN
    rw [if_neg (by omega), if_neg (by omega), if_neg (by omega), if_neg (by omega), ho (2 * i) (by omega), ho (2 * i + 1) (by omega)]
theorem ownsK_put0 {A2 : Nat → Option Addr} {c2 : Nat → Nat} {l8 : Nat} {r : Nat → List Value} (hA : A2 s = A8) (hl : l2 s = l8) (hc : c2 s = c8) (hr : ∀ k, k < l8 → r k = [.int .i64 (v2 s k)]) (hs : s < n) (ho : ∀ i, i < n → i ≠ s → Y i = A2 i ∧ l i = l2 i ∧ E i = c2 i ∧ v i = v2 i) : KSub (.own A8 l8 c8 3 1 r :: ownsX Y l E v s n) (ownsK A2 l2 c2 v2 n) := by
  have h := ownsK_put (Z := []) (A := Y) (l := l) (c := E) (v := v) hA hl hc hr hs ho
  simpa using h
end
theorem side_row {P i W s : Nat} (hs : s + 1 < P) (j : Nat) (hj : j < sln P i W s + 1) : catR (sln P i W s) (fun k => [Value.int .i64 (svl P i W s k)]) (fun _ => [.int .i64 (i : Int)]) j = [.int .i64 (svl P (i + 1) (W * P + (s + 1)) s j)] := by
  unfold catR
  by_cases h : j < sln P i W s
  · rw [if_pos h, svl_put hs h]
  · obtain rfl : j = sln P i W s := by omega
    rw [if_neg h, svl_last hs]
def morC (cans : Nat → Int) (str : Int) (k : Nat) : Int := min (cans k + str) 1000000000
end Go.Proofs.YtljhdcclajikiaaGreatDoor
namespace Go.Proofs.YtljhdcclajikiaaGreatDoor
set_option linter.all false
set_option linter.unusedVariables false
set_option linter.unusedSimpArgs false
open Go.RowKit
theorem rnilW {w : World} {sz : Nat} {r : Nat → List Value} : RdR w sz none 0 r := ⟨Rd.nil, fun i hi => by cases hi⟩
set_option maxRecDepth 100000 in
set_option maxHeartbeats 8000000 in
theorem lawMost_any {w : World} {A Ac Av AW : Option Addr} {np cp nc cc nw cv ny cy : Nat} {pk : Nat → Nat → Int} {cans wv y : Nat → Int} {b wid str : Int}
    (hG : None0 w) (hR : RdR w 11 A np (fun k => packL (pk k))) (hC : RdR w 1 Ac nc (fun k => [.int .i64 (cans k)])) (hV0 : RdR w 1 Av nw (fun k => [.int .i64 (wv k)])) (hY : RdR w 1 AW ny (fun k => [.int .u8 (y k)])) (hyb : ∀ k, k < ny → 0 ≤ y k ∧ y k ≤ 255) (hwd : 0 ≤ wid ∧ wid ≤ 65535) (hst : 0 ≤ str ∧ str ≤ 65535) :
    Calls Tryz.prog 4 #[.slice A np cp, .slice Ac nc cc, .slice Av nw cv, .int .i64 b, .slice AW ny cy, .int .u16 wid, .int .u16 str] w (Ret w (.bool true)) := by
  refine K_enter (S := []) (K := []) Tryz.func4 rfl Tryz.ntmps4 rfl (Sat.start _) ?_
  refine TW.seq fun Y1 hY1 => ?_
  refine TW.region ?_
  refine TL.m Mk.bx ?_
  intro b1
  refine TL.m Mk.bx ?_
  intro b2
  refine TL.m Mk.bx ?_
  intro b3
  refine TL.m Mk.bx ?_
  intro b4
  refine TL.p Pu.as ?_
  refine TL.nil ?_
  refine TQ.thenN (hY1 _ _ ?_)
  refine TW.seq fun Y2 hY2 => ?_
  refine TW.region ?_
  refine TL.cr rfl (enters Tryz.func5 rfl rfl) (fun w hw => by
      exact alive_any _ (hG.sat hw (by simp))) ?_
  refine TL.p Pu.as ?_
  refine TL.nil ?_
  refine TQ.thenN (hY2 _ _ ?_)
  refine TW.seq fun Y3 hY3 => ?_
  refine TW.seq fun Y4 hY4 => ?_
  refine TW.region ?_
  refine TL.p (Pu.ld ty_sc22) ?_
  refine TL.p (Pu.ln Tryz.underlying22) ?_
  refine TL.p Pu.gt ?_
  refine TL.p Pu.mv ?_
  refine TL.guard (t := 38) rfl (fun hg1 => ?_) (fun hg1 => ?_)
  · try simp only [decide_eq_true_eq, decide_eq_false_iff_not, Bool.not_eq_true', Bool.not_eq_false', Int.natCast_pos] at hg1
    refine TL.gs ?_
    refine TL.gs ?_
    refine TL.gs ?_
    refine TL.p Pu.kt ?_
    refine TL.p Pu.mv ?_
    refine TL.gs ?_
    refine TL.gs ?_
    refine TL.gs ?_
    refine TL.p Pu.kt ?_
    refine TL.p Pu.mv ?_
    refine TL.gs ?_
    refine TL.gs ?_
    refine TL.gs ?_
    refine TL.p Pu.kt ?_
    refine TL.p Pu.mv ?_
    refine TL.gs ?_
    refine TL.gs ?_
    refine TL.p Pu.kt ?_
    refine TL.nil ?_
    refine TQ.thenN (hY4 _ _ ?_)
    refine TW.condT rfl rfl ?_
    refine TW.seq fun Y5 hY5 => ?_
    refine TW.region ?_
    refine TL.p Pu.mv ?_
    refine TL.p Pu.as ?_
    refine TL.nil ?_
    refine TQ.thenN (hY5 _ _ ?_)
    refine TW.ret ?_
    refine TQ.thenR ?_
    refine TQ.ret Tryz.results4 rfl ((.tmp rfl .nil)) ?_
    refine fun w hw => ⟨?_, Chg.ext hw.chg⟩
    refine congrArg (fun b => Ending.returned (Value.bool b)) ?_
    first
      | rfl
      | exact decide_eq_true hmore
      | (simp; omega)
  · try simp only [decide_eq_true_eq, decide_eq_false_iff_not, Bool.not_eq_true', Bool.not_eq_false', Int.natCast_pos] at hg1
    refine TL.gd (Pu.ld ty_sc24) ?_
    refine TL.gd (Pu.ln Tryz.underlying24) ?_
    refine TL.gd Pu.gt ?_
    refine TL.p Pu.kf ?_
    refine TL.p Pu.mv ?_
    refine TL.guard (t := 43) rfl (fun hg2 => ?_) (fun hg2 => ?_)
    · try simp only [decide_eq_true_eq, decide_eq_false_iff_not, Bool.not_eq_true', Bool.not_eq_false', Int.natCast_pos] at hg2
      refine TL.gs ?_
      refine TL.gs ?_
      refine TL.gs ?_
      refine TL.p Pu.kt ?_
      refine TL.p Pu.mv ?_
      refine TL.gs ?_
      refine TL.gs ?_
      refine TL.gs ?_
      refine TL.p Pu.kt ?_
      refine TL.p Pu.mv ?_
      refine TL.gs ?_
      refine TL.gs ?_
      refine TL.p Pu.kt ?_
      refine TL.nil ?_
      refine TQ.thenN (hY4 _ _ ?_)
      refine TW.condT rfl rfl ?_
      refine TW.seq fun Y6 hY6 => ?_
      refine TW.region ?_
      refine TL.p Pu.mv ?_
      refine TL.p Pu.as ?_
      refine TL.nil ?_
      refine TQ.thenN (hY6 _ _ ?_)
      refine TW.ret ?_
      refine TQ.thenR ?_
      refine TQ.ret Tryz.results4 rfl ((.tmp rfl .nil)) ?_
      refine fun w hw => ⟨?_, Chg.ext hw.chg⟩
      refine congrArg (fun b => Ending.returned (Value.bool b)) ?_
      first
        | rfl
        | exact decide_eq_true hmore
        | (simp; omega)
    · try simp only [decide_eq_true_eq, decide_eq_false_iff_not, Bool.not_eq_true', Bool.not_eq_false', Int.natCast_pos] at hg2
      refine TL.gd (Pu.ld ty_sc24) ?_
      refine TL.gd (Pu.ln Tryz.underlying24) ?_
      refine TL.gd Pu.gt ?_
      refine TL.p Pu.kf ?_
      refine TL.p Pu.mv ?_
      refine TL.guard (t := 48) rfl (fun hg3 => ?_) (fun hg3 => ?_)
      · try simp only [decide_eq_true_eq, decide_eq_false_iff_not, Bool.not_eq_true', Bool.not_eq_false', Int.natCast_pos] at hg3
        refine TL.gs ?_
        refine TL.gs ?_
        refine TL.gs ?_
        refine TL.p Pu.kt ?_
        refine TL.p Pu.mv ?_
        refine TL.gs ?_
        refine TL.gs ?_
        refine TL.p Pu.kt ?_
        refine TL.nil ?_
        refine TQ.thenN (hY4 _ _ ?_)
        refine TW.condT rfl rfl ?_
        refine TW.seq fun Y7 hY7 => ?_
        refine TW.region ?_
        refine TL.p Pu.mv ?_
        refine TL.p Pu.as ?_
        refine TL.nil ?_
        refine TQ.thenN (hY7 _ _ ?_)
        refine TW.ret ?_
        refine TQ.thenR ?_
        refine TQ.ret Tryz.results4 rfl ((.tmp rfl .nil)) ?_
        refine fun w hw => ⟨?_, Chg.ext hw.chg⟩
        refine congrArg (fun b => Ending.returned (Value.bool b)) ?_
        first
          | rfl
          | exact decide_eq_true hmore
          | (simp; omega)
      · try simp only [decide_eq_true_eq, decide_eq_false_iff_not, Bool.not_eq_true', Bool.not_eq_false', Int.natCast_pos] at hg3
        refine TL.gd (Pu.ld ty_sc22) ?_
        refine TL.cr rfl (enters Tryz.func7 rfl rfl) (fun w hw => by
            have hLn : Lay w A none np 0 pk (fun _ _ => none) (fun _ _ => 0) (fun _ _ => 0) (fun _ _ _ => 0) := ⟨hG.sat hw (by simp), by omega, by omega, hR.sat hw Apart.nil, rnilW, fun i hi => (by cases hi), fun i hi => (by cases hi)⟩
            have h9 := refCheck_any (cp := cp) (cp2 := 0) hLn
            rw [checkV0] at h9
            exact h9) ?_
        refine TL.gd Pu.ne ?_
        refine TL.p Pu.kf ?_
        refine TL.p Pu.mv ?_
        refine TL.guard (t := 53) rfl (fun hg4 => ?_) (fun hg4 => ?_)
        · try simp only [decide_eq_true_eq, decide_eq_false_iff_not, Bool.not_eq_true', Bool.not_eq_false', Int.natCast_pos] at hg4
          refine TL.gs ?_
          refine TL.gs ?_
          refine TL.p Pu.kt ?_
          refine TL.nil ?_
          refine TQ.thenN (hY4 _ _ ?_)
          refine TW.condT rfl rfl ?_
          refine TW.seq fun Y8 hY8 => ?_
          refine TW.region ?_
          refine TL.p Pu.mv ?_
          refine TL.p Pu.as ?_
          refine TL.nil ?_
          refine TQ.thenN (hY8 _ _ ?_)
          refine TW.ret ?_
          refine TQ.thenR ?_
          refine TQ.ret Tryz.results4 rfl ((.tmp rfl .nil)) ?_
          refine fun w hw => ⟨?_, Chg.ext hw.chg⟩
          refine congrArg (fun b => Ending.returned (Value.bool b)) ?_
          first
            | rfl
            | exact decide_eq_true hmore
            | (simp; omega)
        · try simp only [decide_eq_true_eq, decide_eq_false_iff_not, Bool.not_eq_true', Bool.not_eq_false', Int.natCast_pos] at hg4
          refine TL.gd Pu.mv ?_
          refine TL.gd Pu.no ?_
          refine TL.p Pu.kf ?_
          refine TL.nil ?_
          refine TQ.thenN (hY4 _ _ ?_)
          refine TW.condF rfl rfl ?_
          refine TW.skip ?_
          refine TQ.thenN (hY3 _ _ ?_)
          refine TW.seq fun Y9 hY9 => ?_
          refine TW.region ?_
          have hnp : np ≤ 7 := by omega
          have hnc : nc ≤ 2 := by omega
          have hpk : packsOk np pk = true := by
            cases h : packsOk np pk with
            | true => rfl
            | false => rw [h] at hg4; simp at hg4
          refine TL.p (Pu.ld ty_sc22) ?_
          refine TL.p (Pu.ld ty_sc24) ?_
          refine TL.p (Pu.ld ty_sc24) ?_
          refine TL.p (Pu.ld ty_sc3) ?_
          refine TL.call (M := []) rfl (enters Tryz.func10 rfl rfl) (List.Perm.refl _) rfl (fun w hw => by
              exact loadStow_any (cp := cp) (cc := cc) (cv := cv) (hG.sat hw (by simp)) (by omega) (by omega) (by omega) (hR.sat hw Apart.nil) (hC.sat hw Apart.nil) (hV0.sat hw Apart.nil)) ?_
          rintro sx
          refine TL.perm List.perm_append_comm ?_
          dsimp only [List.cons_append, List.nil_append]
          refine TL.p Pu.mv ?_
          refine TL.p Pu.ex ?_
          refine TL.p Pu.ex ?_
          refine TL.p Pu.ex ?_
          refine TL.p Pu.as ?_
          refine TL.p Pu.as ?_
          refine TL.p Pu.as ?_
          refine TL.nil ?_
          refine TQ.thenN (hY9 _ _ ?_)
          refine TW.seq fun Y10 hY10 => ?_
          refine TW.seq fun Y11 hY11 => ?_
          refine TW.region ?_
          refine TL.p Pu.mv ?_
          refine TL.p Pu.ne ?_
          refine TL.nil ?_
          refine TQ.thenN (hY11 _ _ ?_)
          refine TW.cond rfl (fun hc1 => ?_) (fun hc1 => ?_)
          · try simp only [decide_eq_true_eq, decide_eq_false_iff_not, Bool.not_eq_true', Bool.not_eq_false', Bool.and_eq_true, Bool.or_eq_true, Bool.and_eq_false_iff, Bool.or_eq_false_iff, Int.not_lt, Int.not_le] at hc1
            have hne : stowC np pk nc cans nw wv b ≠ 0 := hc1
            have hN0 : stowN np pk nc cans nw wv b = 0 := if_neg hne
            have hW0 : stowW np pk nc cans nw wv b = 0 := if_neg hne
            have hor := stowC_or (nw := nw) (cans := cans) (wv := wv) (b := b) hpk hnp hnc
            refine TW.seq fun Y12 hY12 => ?_
            refine TW.region ?_
            refine TL.p Pu.mv ?_
            refine TL.p Pu.mv ?_
            refine TL.lit (t := 70) (b' := true) rfl (rfl) ?_
            refine TL.gd Pu.mv ?_
            refine TL.gd (Pu.ln Tryz.underlying23) ?_
            refine TL.gd Pu.eq ?_
            refine TL.p Pu.kt ?_
            refine TL.p Pu.mv ?_
            refine TL.lit (t := 75) (b' := true) rfl ((by rw [hN0]; rfl)) ?_
            refine TL.gd Pu.mv ?_
            refine TL.gd Pu.eq ?_
            refine TL.p Pu.kt ?_
            refine TL.p Pu.mv ?_
            refine TL.lit (t := 79) (b' := true) rfl ((by rw [hW0]; rfl)) ?_
            refine TL.gd Pu.mv ?_
            refine TL.gd Pu.eq ?_
            refine TL.gd Pu.mv ?_
            refine TL.guard (t := 82) rfl (fun hg5 => ?_) (fun hg5 => ?_)
            · try simp only [decide_eq_true_eq, decide_eq_false_iff_not, Bool.not_eq_true', Bool.not_eq_false', Int.natCast_pos] at hg5
              refine TL.gs ?_
              refine TL.gs ?_
              refine TL.gd Pu.kt ?_
              refine TL.p Pu.kt ?_
              refine TL.p Pu.as ?_
              refine TL.nil ?_
              refine TQ.thenN (hY12 _ _ ?_)
              refine TW.ret ?_
              refine TQ.thenR ?_
              refine TQ.ret Tryz.results4 rfl ((.tmp rfl .nil)) ?_
              refine fun w hw => ⟨?_, Chg.ext hw.chg⟩
              refine congrArg (fun b => Ending.returned (Value.bool b)) ?_
              first
                | rfl
                | exact decide_eq_true hmore
                | (simp; omega)
            · try simp only [decide_eq_true_eq, decide_eq_false_iff_not, Bool.not_eq_true', Bool.not_eq_false', Int.natCast_pos] at hg5
              refine TL.gd Pu.mv ?_
              refine TL.gd Pu.eq ?_
              refine TL.gd Pu.kf ?_
              refine TL.p Pu.kt ?_
              refine TL.p Pu.as ?_
              refine TL.nil ?_
              refine TQ.thenN (hY12 _ _ ?_)
              refine TW.ret ?_
              refine TQ.thenR ?_
              refine TQ.ret Tryz.results4 rfl ((.tmp rfl .nil)) ?_
              refine fun w hw => ⟨?_, Chg.ext hw.chg⟩
              refine congrArg (fun b => Ending.returned (Value.bool b)) ?_
              first
                | rfl
                | exact decide_eq_true hmore
                | (simp; omega)
          · try simp only [decide_eq_true_eq, decide_eq_false_iff_not, Bool.not_eq_true', Bool.not_eq_false', Bool.and_eq_true, Bool.or_eq_true, Bool.and_eq_false_iff, Bool.or_eq_false_iff, Int.not_lt, Int.not_le] at hc1
            have hz : stowC np pk nc cans nw wv b = 0 := by simpa using hc1
            obtain ⟨hbb, hcb, hnw, hwb⟩ := stowC_no hpk hnp hnc hz
            obtain rfl : np = nw := hnw.symm
            obtain ⟨m1, m2, m3, m4, m5, m6⟩ := stow_best (np := np) (pk := pk) (wv := wv) hbb.1 (fun k hk => (hcb k hk).1)
            have hN : stowN np pk nc cans np wv b = nc := by unfold stowN; rw [if_pos hz]; exact m1
            have hW : stowW np pk nc cans np wv b = (stowB np pk nc cans wv b).worth := by unfold stowW; rw [if_pos hz]
            have hV := hV0
            rw [hN, hW, hz]
            refine TW.skip ?_
            refine TQ.thenN (hY10 _ _ ?_)
            refine TW.seq fun Y13 hY13 => ?_
            refine TW.seq fun Y14 hY14 => ?_
            refine TW.region ?_
            refine TL.p Pu.mv ?_
            refine TL.p (Pu.ln Tryz.underlying23) ?_
            refine TL.p (Pu.ld ty_sc24) ?_
            refine TL.p (Pu.ln Tryz.underlying24) ?_
            refine TL.p Pu.ne ?_
            refine TL.p Pu.mv ?_
            refine TL.lit (t := 92) (b' := false) rfl ((by simp)) ?_
            refine TL.gd (Pu.ld ty_sc24) ?_
            refine TL.gd (Pu.ln Tryz.underlying24) ?_
            refine TL.gd (Pu.ld ty_sc22) ?_
            refine TL.gd (Pu.ln Tryz.underlying22) ?_
            refine TL.gd Pu.ne ?_
            refine TL.p Pu.kf ?_
            refine TL.p Pu.mv ?_
            refine TL.lit (t := 99) (b' := false) rfl ((by simp)) ?_
            refine TL.gd (Pu.ld ty_sc22) ?_
            refine TL.gd Pu.mv ?_
            refine TL.cr rfl (enters Tryz.func7 rfl rfl) (fun w hw => by
                have hty := ties_read (P := 2 * nc + 1) (np := np) (way := (stowB np pk nc cans wv b).way) (n := nc) (x := sx) hw (fun φ hφ => by simp [hφ])
                have hLt : Lay w A sx.1.1 np nc pk (tA sx.2.1) (tln (2 * nc + 1) np (stowB np pk nc cans wv b).way) (tC sx.2.2) (tvl (2 * nc + 1) np (stowB np pk nc cans wv b).way) := ⟨hG.sat hw (by simp), by omega, by omega, hR.sat hw Apart.nil, hty.1, hty.2, fun i hi => by have := way_tot (P := 2 * nc + 1) (way := (stowB np pk nc cans wv b).way) hnp hnc hpk hi; omega⟩
                have h9 := refCheck_any (cp := cp) (cp2 := sx.1.2) hLt
                rw [way_check hnp hnc hpk] at h9
                exact h9) ?_
            refine TL.gd Pu.ne ?_
            refine TL.p Pu.kf ?_
            refine TL.nil ?_
            refine TQ.thenN (hY14 _ _ ?_)
            refine TW.condF rfl (rfl) ?_
            refine TW.skip ?_
            refine TQ.thenN (hY13 _ _ ?_)
            refine TW.seq fun Y15 hY15 => ?_
            refine TW.region ?_
            refine TL.p Pu.fn ?_
            refine TL.p Pu.as ?_
            refine TL.nil ?_
            refine TQ.thenN (hY15 _ _ ?_)
            refine TW.seq fun Y16 hY16 => ?_
            refine TW.seq fun Y17 hY17 => ?_
            refine TW.region ?_
            refine TL.p Pu.mv ?_
            refine TL.p Pu.mv ?_
            refine TL.cv rfl rfl (enters Tryz.func11 rfl rfl) (fun w hw => by
                have hty := ties_read (P := 2 * nc + 1) (np := np) (way := (stowB np pk nc cans wv b).way) (n := nc) (x := sx) hw (fun φ hφ => by simp [hφ])
                have h9 := right_any (nc := nc) (bP := b1) (bB := b4) (bC := b2) (bV := b3) (cp := cp) (cc := cc) (cv := cv) (hG.sat hw (by simp)) rfl hnp hnc hpk hbb hwb (OldB.of_blk (hw.holds (.blk b1 22 [.slice A np cp]) (by simp))) (OldB.of_blk (hw.holds (.blk b4 3 [.int .i64 b]) (by simp))) (OldB.of_blk (hw.holds (.blk b2 24 [.slice Ac nc cc]) (by simp))) (OldB.of_blk (hw.holds (.blk b3 24 [.slice Av np cv]) (by simp))) (hR.sat hw Apart.nil) (hC.sat hw Apart.nil) (hV.sat hw Apart.nil) hty.1 hty.2 (cT := sx.1.2)
                rw [m4, if_pos rfl, ← m5] at h9
                exact h9) ?_
            refine TL.p Pu.mv ?_
            refine TL.p Pu.ex ?_
            refine TL.p Pu.ex ?_
            refine TL.p Pu.as ?_
            refine TL.p Pu.as ?_
            refine TL.nil ?_
            refine TQ.thenN (hY17 _ _ ?_)
            refine TW.seq fun Y18 hY18 => ?_
            refine TW.region ?_
            refine TL.p Pu.mv ?_
            refine TL.p Pu.no ?_
            refine TL.p Pu.mv ?_
            refine TL.lit (t := 114) (b' := false) rfl (rfl) ?_
            refine TL.gd Pu.mv ?_
            refine TL.gd Pu.mv ?_
            refine TL.gd Pu.ne ?_
            refine TL.p Pu.kf ?_
            refine TL.nil ?_
            refine TQ.thenN (hY18 _ _ ?_)
            refine TW.condF rfl ((by simp)) ?_
            refine TW.skip ?_
            refine TQ.thenN (hY16 _ _ ?_)
            refine TW.seq fun Y19 hY19 => ?_
            refine TW.region ?_
            refine TL.p (Pu.ld ty_sc24) ?_
            refine TL.p (Pu.ln Tryz.underlying24) ?_
            refine TL.ms ty_et23 ty_zr34 ?_
            intro b5
            refine TL.p Pu.as ?_
            refine TL.nil ?_
            refine TQ.thenN (hY19 _ _ ?_)
            refine TW.seq fun Y20 hY20 => ?_
            refine TW.seq fun Y21 hY21 => ?_
            refine TW.region ?_
            refine TL.p Pu.mv ?_
            refine TL.p (Pu.ln Tryz.underlying42) ?_
            refine TL.p Pu.mv ?_
            refine TL.nil ?_
            refine TQ.thenN (hY21 _ _ ?_)
            refine TW.block ?_
            refine TW.loop4 (fun (i : Nat) (W : Nat) (Y : Nat → Option Addr) (E : Nat → Nat) => [(124, .int .i64 (i : Int)), (123, .int .i64 (ny : Int)), (122, .slice AW ny cy), (22, .slice (some ⟨b5, 0, none⟩) nc nc), (19, .func (.func 11) #[] #[.pointer (some ⟨b1, 0, none⟩), .pointer (some ⟨b4, 0, none⟩), .pointer (some ⟨b2, 0, none⟩), .pointer (some ⟨b3, 0, none⟩)]), (17, .int .i64 (stowB np pk nc cans wv b).worth), (15, .bool true), (4, .slice AW ny cy), (5, .int .u16 wid), (6, .int .u16 str), (7, .pointer (some ⟨b1, 0, none⟩)), (8, .pointer (some ⟨b2, 0, none⟩)), (9, .pointer (some ⟨b3, 0, none⟩)), (10, .pointer (some ⟨b4, 0, none⟩))]) (fun i W Y E => .own (some ⟨b5, 0, none⟩) nc nc 34 3 (tieS Y (sln (2 * nc + 1) i W) E) :: .blk b1 22 [.slice A np cp] :: .blk b2 24 [.slice Ac nc cc] :: .blk b3 24 [.slice Av np cv] :: .blk b4 3 [.int .i64 b] :: ownsK Y (sln (2 * nc + 1) i W) E (svl (2 * nc + 1) i W) (2 * nc)) (fun i W Y E => i ≤ ny ∧ i ≤ np ∧ W < (2 * nc + 1) ^ i) (fun i W Y E => ny - i) 0 0 (fun _ => none) (fun _ => 0) (by repeat (first | exact trivial | refine ⟨rfl, ?_⟩ | refine ⟨trivial, ?_⟩)) ?_ ?_ ?_
            · refine KSub.own (by repeat (first | exact Pick.hd | apply Pick.tl)) (fun q _ => rfl) ?_
              refine KSub.cons (by repeat (first | exact Pick.hd | apply Pick.tl)) (KSub.cons (by repeat (first | exact Pick.hd | apply Pick.tl)) (KSub.cons (by repeat (first | exact Pick.hd | apply Pick.tl)) (KSub.cons (by repeat (first | exact Pick.hd | apply Pick.tl)) ?_)))
              have h9 := fun K' : List Fact => nil_owns (P := 2 * nc + 1) (v := svl (2 * nc + 1) 0 0) (L := []) (KSub.nil (K := K')) (2 * nc)
              simp only [List.append_nil] at h9
              exact h9 _
            · exact ⟨Nat.zero_le _, Nat.zero_le _, by simp⟩
            rintro i W Y E ⟨hi, hin, hWb⟩ Z0 hZ0
            refine TW.seq fun Y22 hY22 => ?_
            refine TW.region ?_
            refine TL.p Pu.lt ?_
            refine TL.nil ?_
            refine TQ.thenN (hY22 _ _ ?_)
            refine TW.seq fun Y23 hY23 => ?_
            refine TW.cond rfl (fun hc4 => ?_) (fun hc4 => ?_)
            · try simp only [decide_eq_true_eq, decide_eq_false_iff_not, Bool.not_eq_true', Bool.not_eq_false', Bool.and_eq_true, Bool.or_eq_true, Bool.and_eq_false_iff, Bool.or_eq_false_iff, Int.not_lt, Int.not_le] at hc4
              have hiy : i < ny := by omega
              have hyi := hyb i hiy
              refine TW.skip ?_
              refine TQ.thenN (hY23 _ _ ?_)
              refine TW.seq fun Y24 hY24 => ?_
              refine TW.block ?_
              refine TW.seq fun Y25 hY25 => ?_
              refine TW.region ?_
              refine TL.p Pu.mv ?_
              refine TL.p (Pu.el ty_et42) ?_
              refine TL.p (Pu.ld ty_sc5) ?_
              refine TL.p Pu.as ?_
              refine TL.p Pu.as ?_
              refine TL.nil ?_
              refine TQ.thenN (hY25 _ _ ?_)
              refine TW.seq fun Y26 hY26 => ?_
              refine TW.seq fun Y27 hY27 => ?_
              refine TW.join [(137, .bool (decide ((np : Int) ≤ (i : Int)) || decide ((nc : Int) = 0)))] ?_ (fun hJ1 => ?_)
              · refine TQ.thenN (hY27 _ _ ?_)
                refine TW.cond rfl (fun hc5 => ?_) (fun hc5 => ?_)
                · try simp only [decide_eq_true_eq, decide_eq_false_iff_not, Bool.not_eq_true', Bool.not_eq_false', Bool.and_eq_true, Bool.or_eq_true, Bool.and_eq_false_iff, Bool.or_eq_false_iff, Int.not_lt, Int.not_le] at hc5
                  refine TW.exit ?_
                  refine TQ.thenX ?_
                  refine TQ.blkY rfl ?_
                  refine TQ.thenX ?_
                  refine TQ.thenX ?_
                  refine TQ.blkX ?_
                  refine TQ.thenN (hY20 _ _ ?_)
                  refine TW.seq fun Y28 hY28 => ?_
                  refine TW.seq fun Y29 hY29 => ?_
                  refine TW.region ?_
                  obtain ⟨W', hW'⟩ : ∃ z, z = W * (2 * nc + 1) ^ (np - i) := ⟨_, rfl⟩
                  have hsd : ∀ s, side (2 * nc + 1) np W' s = side (2 * nc + 1) i W s := fun s => by
                    have h9 := side_pad (P := 2 * nc + 1) (i := i) (w := W) (s := s) (by omega) (np - i)
                    rw [show i + (np - i) = np by omega, ← hW'] at h9
                    exact h9
                  have hl3 : sln (2 * nc + 1) i W = sln (2 * nc + 1) np W' := funext fun s => by unfold sln; rw [hsd]
                  have hv3 : svl (2 * nc + 1) i W = svl (2 * nc + 1) np W' := funext fun s => funext fun j => by unfold svl; rw [hsd]
                  have hW3 : W' < (2 * nc + 1) ^ np := by
                    rw [hW', show (2 * nc + 1) ^ np = (2 * nc + 1) ^ i * (2 * nc + 1) ^ (np - i) by rw [← Nat.pow_add]; congr 1; omega]
                    exact Nat.mul_lt_mul_of_pos_right hWb (Nat.pow_pos (by omega))
                  have hopt := m6 W' hW3
                  rw [hl3, hv3]
                  refine TL.p Pu.mv ?_
                  refine TL.p Pu.mv ?_
                  refine TL.cv rfl rfl (enters Tryz.func11 rfl rfl) (fun w hw => by
                      have hty := ties_read (P := 2 * nc + 1) (np := np) (way := W') (n := nc) (x := ((some ⟨b5, 0, none⟩, nc), Y, E)) hw (fun φ hφ => by
                        rcases List.mem_cons.1 hφ with rfl | hφ
                        · simp
                        · simp [hφ])
                      exact right_any (nc := nc) (bP := b1) (bB := b4) (bC := b2) (bV := b3) (cp := cp) (cc := cc) (cv := cv) (hG.sat hw (by simp)) rfl hnp hnc hpk hbb hwb (OldB.of_blk (hw.holds (.blk b1 22 [.slice A np cp]) (by simp))) (OldB.of_blk (hw.holds (.blk b4 3 [.int .i64 b]) (by simp))) (OldB.of_blk (hw.holds (.blk b2 24 [.slice Ac nc cc]) (by simp))) (OldB.of_blk (hw.holds (.blk b3 24 [.slice Av np cv]) (by simp))) (hR.sat hw Apart.nil) (hC.sat hw Apart.nil) (hV.sat hw Apart.nil) hty.1 hty.2 (cT := nc)) ?_
                  refine TL.p Pu.mv ?_
                  refine TL.p Pu.ex ?_
                  refine TL.p Pu.ex ?_
                  refine TL.p Pu.as ?_
                  refine TL.p Pu.as ?_
                  refine TL.nil ?_
                  refine TQ.thenN (hY29 _ _ ?_)
                  refine TW.seq fun Y30 hY30 => ?_
                  refine TW.join [(187, .bool (allB nc (okT (2 * nc + 1) np (fun q => rl (pk q)) (fun q => rh (pk q)) cans b W') && decide ((stowB np pk nc cans wv b).worth < (if allB nc (okT (2 * nc + 1) np (fun q => rl (pk q)) (fun q => rh (pk q)) cans b W') = true then wsum (2 * nc + 1) wv np W' else 0))))] ?_ (fun hJ2 => ?_)
                  · refine TQ.thenN (hY30 _ _ ?_)
                    refine TW.condF rfl ((by cases h : allB nc (okT (2 * nc + 1) np (fun q => rl (pk q)) (fun q => rh (pk q)) cans b W') with | false => rfl | true => rw [if_pos rfl, Bool.true_and]; exact decide_eq_false (by have := hopt h; omega))) ?_
                    refine TW.skip ?_
                    refine TQ.thenN (hY28 _ _ ?_)
                    refine TW.seq fun Y31 hY31 => ?_
                    refine TW.region ?_
                    refine TL.m Mk.bl ?_
                    intro b6
                    refine TL.p (Pu.ld ty_sc24) ?_
                    first
                      | refine TL.ob (b := b6) (sz := 1) (r := fun _ => []) (by repeat (first | exact Pick.hd | apply Pick.tl)) rfl ?_
                      | refine TL.ob (b := b11) (sz := 1) (r := fun _ => []) (by repeat (first | exact Pick.hd | apply Pick.tl)) rfl ?_
                      | refine TL.ob (b := b12) (sz := 1) (r := fun _ => []) (by repeat (first | exact Pick.hd | apply Pick.tl)) rfl ?_
                    first | refine TL.a0 ty_et24 ?_ | refine TL.ap ty_et24 ?_
                    intro A7 c7
                    refine TL.p Pu.as ?_
                    refine TL.nil ?_
                    refine TQ.thenN (hY31 _ _ ?_)
                    refine TW.seq fun Y32 hY32 => ?_
                    refine TW.seq fun Y33 hY33 => ?_
                    refine TW.region ?_
                    first
                      | (generalize A6 = AM; generalize c6 = cM)
                      | (generalize A7 = AM; generalize c7 = cM)
                      | (generalize A12 = AM; generalize c12 = cM)
                      | (generalize A13 = AM; generalize c13 = cM)
                    refine TL.p Pu.mv ?_
                    refine TL.p (Pu.ln Tryz.underlying24) ?_
                    refine TL.p Pu.mv ?_
                    refine TL.nil ?_
                    refine TQ.thenN (hY33 _ _ ?_)
                    refine TW.block ?_
                    refine TW.loop1 (fun (k : Nat) => [(193, .int .i64 (k : Int)), (192, .int .i64 (nc : Int)), (29, .slice AM nc cM), (22, .slice (some ⟨b5, 0, none⟩) nc nc), (19, .func (.func 11) #[] #[.pointer (some ⟨b1, 0, none⟩), .pointer (some ⟨b4, 0, none⟩), .pointer (some ⟨b2, 0, none⟩), .pointer (some ⟨b3, 0, none⟩)]), (17, .int .i64 (stowB np pk nc cans wv b).worth), (15, .bool true), (4, .slice AW ny cy), (5, .int .u16 wid), (6, .int .u16 str), (7, .pointer (some ⟨b1, 0, none⟩)), (8, .pointer (some ⟨b2, 0, none⟩)), (9, .pointer (some ⟨b3, 0, none⟩)), (10, .pointer (some ⟨b4, 0, none⟩))]) (fun k => .own AM nc cM 3 1 (fun j => [.int .i64 (if j < k then morC cans str j else cans j)]) :: .blk b1 22 [.slice A np cp] :: .blk b2 24 [.slice Ac nc cc] :: .blk b3 24 [.slice Av np cv] :: .blk b4 3 [.int .i64 b] :: []) (fun k => k ≤ nc) (fun k => nc - k) 0 (by repeat (first | exact trivial | refine ⟨rfl, ?_⟩ | refine ⟨trivial, ?_⟩)) ?_ ?_ ?_
                    · exact (by repeat (first | exact KSub.nil | refine KSub.cons (by repeat (first | exact Pick.hd | apply Pick.tl)) ?_ | exact KSub.refl _ | refine KSub.drop ?_))
                    · exact Nat.zero_le _
                    rintro k hk Z1 hZ1
                    refine TW.seq fun Y34 hY34 => ?_
                    refine TW.region ?_
                    refine TL.p Pu.lt ?_
                    refine TL.nil ?_
                    refine TQ.thenN (hY34 _ _ ?_)
                    refine TW.seq fun Y35 hY35 => ?_
                    refine TW.cond rfl (fun hc9 => ?_) (fun hc9 => ?_)
                    · try simp only [decide_eq_true_eq, decide_eq_false_iff_not, Bool.not_eq_true', Bool.not_eq_false', Bool.and_eq_true, Bool.or_eq_true, Bool.and_eq_false_iff, Bool.or_eq_false_iff, Int.not_lt, Int.not_le] at hc9
                      have hkn : k < nc := by omega
                      have hck := hcb k hkn
                      have hcur : (if k < k then morC cans str k else cans k) = cans k := if_neg (by omega)
                      refine TW.skip ?_
                      refine TQ.thenN (hY35 _ _ ?_)
                      refine TW.seq fun Y36 hY36 => ?_
                      refine TW.block ?_
                      refine TW.seq fun Y37 hY37 => ?_
                      refine TW.region ?_
                      refine TL.p Pu.mv ?_
                      refine TL.p Pu.as ?_
                      refine TL.nil ?_
                      refine TQ.thenN (hY37 _ _ ?_)
                      refine TW.region ?_
                      refine TL.p Pu.mv ?_
                      refine TL.p Pu.mv ?_
                      refine TL.p Pu.mv ?_
                      refine TL.p Pu.mv ?_
                      refine TL.p (Pu.el ty_et24) ?_
                      refine TL.p (Pu.ld (v := .int .i64 (cans k)) ty_sc3 (hq := Cells.own (m := 1) (by repeat (first | exact Pick.hd | apply Pick.tl)) (by omega) (by rw [hcur]; exact SubL.take SubL.nil))) ?_
                      refine TL.p Pu.mv ?_
                      refine TL.p (Pu.cv (v := .int .i64 str) rfl (fun w => by go_simp; rw [IntWalk.i64_in str (by omega)])) ?_
                      refine TL.p Pu.ad ?_
                      refine TL.p Pu.mn ?_
                      refine TL.p (Pu.el ty_et24) ?_
                      first | refine TL.st ty_sz3 ?_ | refine TL.se ty_sz3 ?_
                      refine TL.nil ?_
                      refine TQ.blkN ?_
                      refine TQ.thenN (hY36 _ _ ?_)
                      refine TW.region ?_
                      refine TL.p Pu.ad ?_
                      refine TL.p Pu.mv ?_
                      refine TL.nil ?_
                      refine TQ.thenN (hZ1 (k + 1) _ _ ?_ ?_ (by repeat (first | exact trivial | refine ⟨rfl, ?_⟩ | refine ⟨trivial, ?_⟩)) ?_)
                      · exact (by omega)
                      · exact (by first | omega | (simp only []; omega) | (simp; omega))
                      · refine KSub.own (by repeat (first | exact Pick.hd | apply Pick.tl)) (fun j _ => ?_) (KSub.cons (by repeat (first | exact Pick.hd | apply Pick.tl)) (KSub.cons (by repeat (first | exact Pick.hd | apply Pick.tl)) (KSub.cons (by repeat (first | exact Pick.hd | apply Pick.tl)) (KSub.cons (by repeat (first | exact Pick.hd | apply Pick.tl)) KSub.nil))))
                        unfold updR
                        by_cases h : j = k
                        · subst h
                          rw [if_pos rfl, if_pos (by omega)]
                          rfl
                        · rw [if_neg h]
                          dsimp only
                          by_cases h2 : j < k
                          · rw [if_pos h2, if_pos (by omega)]
                          · rw [if_neg h2, if_neg (by omega)]
                    · try simp only [decide_eq_true_eq, decide_eq_false_iff_not, Bool.not_eq_true', Bool.not_eq_false', Bool.and_eq_true, Bool.or_eq_true, Bool.and_eq_false_iff, Bool.or_eq_false_iff, Int.not_lt, Int.not_le] at hc9
                      obtain rfl : nc = k := by omega
                      refine TW.exit ?_
                      refine TQ.thenX ?_
                      refine TQ.thenX ?_
                      refine TQ.blkX ?_
                      refine TQ.thenN (hY32 _ _ ?_)
                      refine TW.seq fun Y38 hY38 => ?_
                      refine TW.region ?_
                      have hz2 : stowC np pk nc (morC cans str) np wv (min (b + wid) 1000000000) = 0 := stowC_yes hpk hnp hnc ⟨by omega, fun k hk => by have := hcb k hk; unfold morC; omega, rfl, hwb⟩
                      have hW2 : stowW np pk nc (morC cans str) np wv (min (b + wid) 1000000000) = (stowB np pk nc (morC cans str) wv (min (b + wid) 1000000000)).worth := by unfold stowW; rw [if_pos hz2]
                      have hmore := stow_more (np := np) (pk := pk) (nc := nc) (wv := wv) (cans := cans) (cans2 := morC cans str) (b := b) (b2 := min (b + wid) 1000000000) hbb.1 (fun k hk => (hcb k hk).1) (by omega) (fun k hk => by have := hcb k hk; unfold morC; omega)
                      rw [← hW2] at hmore
                      refine TL.p (Pu.ld ty_sc22) ?_
                      refine TL.p Pu.mv ?_
                      refine TL.p (Pu.ld ty_sc24) ?_
                      refine TL.p (Pu.ld ty_sc3) ?_
                      refine TL.p Pu.mv ?_
                      refine TL.p (Pu.cv (v := .int .i64 wid) rfl (fun w => by go_simp; rw [IntWalk.i64_in wid (by omega)])) ?_
                      refine TL.p Pu.ad ?_
                      refine TL.p Pu.mn ?_
                      refine TL.call (M := []) rfl (enters Tryz.func10 rfl rfl) (List.Perm.refl _) rfl (fun w hw => by
                          have hM := OwnR.rdr (hw.holds (.own AM nc cM 3 1 (fun j => [.int .i64 (if j < nc then morC cans str j else cans j)])) (by simp))
                          have hM2 : RdR w 1 AM nc (fun j => [.int .i64 (morC cans str j)]) := ⟨hM.rd.congr fun j q hj _ => by simp only [rowF]; rw [if_pos hj], fun j hj => rfl⟩
                          have h9 := loadStow_any (cp := cp) (cc := cM) (cv := cv) (b := min (b + wid) 1000000000) (hG.sat hw (by simp)) (by omega) (by omega) (by omega) (hR.sat hw Apart.nil) hM2 (hV.sat hw Apart.nil)
                          rw [hz2] at h9
                          exact h9) ?_
                      rintro sz
                      refine TL.p Pu.mv ?_
                      refine TL.p Pu.ex ?_
                      refine TL.p Pu.ex ?_
                      refine TL.p Pu.ex ?_
                      refine TL.p Pu.as ?_
                      refine TL.p Pu.as ?_
                      refine TL.p Pu.as ?_
                      refine TL.nil ?_
                      refine TQ.thenN (hY38 _ _ ?_)
                      refine TW.seq fun Y39 hY39 => ?_
                      refine TW.region ?_
                      refine TL.p Pu.mv ?_
                      refine TL.p Pu.mv ?_
                      refine TL.lit (t := 222) (b' := true) rfl (rfl) ?_
                      refine TL.gd Pu.mv ?_
                      refine TL.gd Pu.eq ?_
                      refine TL.p Pu.kt ?_
                      refine TL.p Pu.mv ?_
                      refine TL.lit (t := 226) (b' := true) rfl (rfl) ?_
                      refine TL.gd Pu.mv ?_
                      refine TL.gd Pu.mv ?_
                      refine TL.gd Pu.ge ?_
                      refine TL.p Pu.kt ?_
                      refine TL.p Pu.as ?_
                      refine TL.nil ?_
                      refine TQ.thenN (hY39 _ _ ?_)
                      refine TW.ret ?_
                      refine TQ.ret Tryz.results4 rfl ((.tmp rfl .nil)) ?_
                      refine fun w hw => ⟨?_, Chg.ext hw.chg⟩
                      refine congrArg (fun b => Ending.returned (Value.bool b)) ?_
                      first
                        | rfl
                        | exact decide_eq_true hmore
                        | (simp; omega)
                  refine TW.region ?_
                  refine TL.p Pu.mv ?_
                  refine TL.p Pu.mv ?_
                  refine TL.guard (t := 183) rfl (fun hg6 => ?_) (fun hg6 => ?_)
                  · try simp only [decide_eq_true_eq, decide_eq_false_iff_not, Bool.not_eq_true', Bool.not_eq_false', Int.natCast_pos] at hg6
                    refine TL.gd Pu.mv ?_
                    refine TL.gd Pu.mv ?_
                    refine TL.gd Pu.gt ?_
                    refine TL.p Pu.kt ?_
                    refine TL.nil ?_
                    exact TQ.sub (by repeat (first | exact trivial | refine ⟨rfl, ?_⟩ | refine ⟨trivial, ?_⟩ | refine ⟨(by show some (Value.bool _) = some (Value.bool _); simp [hg6]), ?_⟩)) (by repeat (first | exact KSub.nil | refine KSub.cons (by repeat (first | exact Pick.hd | apply Pick.tl)) ?_ | exact KSub.refl _ | refine KSub.drop ?_)) hJ2
                  · try simp only [decide_eq_true_eq, decide_eq_false_iff_not, Bool.not_eq_true', Bool.not_eq_false', Int.natCast_pos] at hg6
                    refine TL.gs ?_
                    refine TL.gs ?_
                    refine TL.gs ?_
                    refine TL.p Pu.kf ?_
                    refine TL.nil ?_
                    exact TQ.sub (by repeat (first | exact trivial | refine ⟨rfl, ?_⟩ | refine ⟨trivial, ?_⟩ | refine ⟨(by show some (Value.bool _) = some (Value.bool _); simp [hg6]), ?_⟩)) (by repeat (first | exact KSub.nil | refine KSub.cons (by repeat (first | exact Pick.hd | apply Pick.tl)) ?_ | exact KSub.refl _ | refine KSub.drop ?_)) hJ2
                · try simp only [decide_eq_true_eq, decide_eq_false_iff_not, Bool.not_eq_true', Bool.not_eq_false', Bool.and_eq_true, Bool.or_eq_true, Bool.and_eq_false_iff, Bool.or_eq_false_iff, Int.not_lt, Int.not_le] at hc5
                  have hin2 : i < np := by omega
                  have hnc0 : 0 < nc := by omega
                  have hq1 := Int.emod_nonneg (y i) (b := 2 * (nc : Int) + 1) (by omega)
                  have hq2 := Int.emod_lt_of_pos (y i) (b := 2 * (nc : Int) + 1) (by omega)
                  obtain ⟨q, hq⟩ : ∃ q : Nat, y i % (2 * (nc : Int) + 1) = q := ⟨(y i % (2 * (nc : Int) + 1)).toNat, by omega⟩
                  have hqP : q < 2 * nc + 1 := by omega
                  have hWn : W * (2 * nc + 1) + q < (2 * nc + 1) ^ (i + 1) := by
                    rw [Nat.pow_succ]
                    have := Nat.mul_le_mul_right (2 * nc + 1) (show W + 1 ≤ (2 * nc + 1) ^ i by omega)
                    rw [Nat.add_mul] at this
                    omega
                  refine TW.skip ?_
                  refine TQ.thenN (hY26 _ _ ?_)
                  refine TW.seq fun Y40 hY40 => ?_
                  refine TW.region ?_
                  refine TL.p Pu.mv ?_
                  refine TL.p (Pu.cv (v := .int .i64 (y i)) rfl (fun w => by go_simp; rw [IntWalk.i64_in (y i) (by omega)])) ?_
                  refine TL.p (Pu.ld ty_sc24) ?_
                  refine TL.p (Pu.ln Tryz.underlying24) ?_
                  refine TL.p Pu.ml ?_
                  refine TL.p Pu.ad ?_
                  refine TL.p Pu.rm ?_
                  refine TL.p Pu.as ?_
                  refine TL.nil ?_
                  refine TQ.thenN (hY40 _ _ ?_)
                  refine TW.seq fun Y41 hY41 => ?_
                  refine TW.seq fun Y42 hY42 => ?_
                  refine TW.region ?_
                  refine TL.p Pu.mv ?_
                  refine TL.p Pu.eq ?_
                  refine TL.nil ?_
                  refine TQ.thenN (hY42 _ _ ?_)
                  refine TW.cond rfl (fun hc6 => ?_) (fun hc6 => ?_)
                  · try simp only [decide_eq_true_eq, decide_eq_false_iff_not, Bool.not_eq_true', Bool.not_eq_false', Bool.and_eq_true, Bool.or_eq_true, Bool.and_eq_false_iff, Bool.or_eq_false_iff, Int.not_lt, Int.not_le] at hc6
                    have hq0 : q = 0 := by omega
                    obtain ⟨Y', hY'⟩ : ∃ z, z = Y := ⟨_, rfl⟩
                    obtain ⟨E', hE'⟩ : ∃ z, z = E := ⟨_, rfl⟩
                    have hl2 : sln (2 * nc + 1) (i + 1) (W * (2 * nc + 1) + q) = sln (2 * nc + 1) i W := funext fun s => sln_same hqP (by omega)
                    have hv2 : svl (2 * nc + 1) (i + 1) (W * (2 * nc + 1) + q) = svl (2 * nc + 1) i W := funext fun s => svl_same hqP (by omega)
                    refine TW.exit ?_
                    refine TQ.thenX ?_
                    refine TQ.blkX ?_
                    refine TQ.thenN (hY24 _ _ ?_)
                    refine TW.region ?_
                    refine TL.p Pu.ad ?_
                    refine TL.p Pu.mv ?_
                    refine TL.nil ?_
                    refine TQ.thenN (hZ0 (i + 1) (W * (2 * nc + 1) + q) Y' E' _ _ ?_ ?_ (by repeat (first | exact trivial | refine ⟨rfl, ?_⟩ | refine ⟨trivial, ?_⟩)) ?_)
                    · exact ⟨by omega, by omega, hWn⟩
                    · exact (by first | omega | (simp only []; omega) | (simp; omega))
                    · first
                        | (rw [hY', hE', hl2, hv2]; (repeat (first | refine KSub.cons (by repeat (first | exact Pick.hd | apply Pick.tl)) ?_ | exact KSub.refl _ | refine KSub.drop ?_)); done)
                        | (rw [hY', hE', hqk]
                           refine KSub.own (by repeat (first | exact Pick.hd | apply Pick.tl)) (fun j _ => tieS_put0 (sln_put (by omega)) (fun s hs => sln_same (by omega) (by omega)) j) ?_
                           refine KSub.cons (by repeat (first | exact Pick.hd | apply Pick.tl)) (KSub.cons (by repeat (first | exact Pick.hd | apply Pick.tl)) (KSub.cons (by repeat (first | exact Pick.hd | apply Pick.tl)) (KSub.cons (by repeat (first | exact Pick.hd | apply Pick.tl)) ?_)))
                           refine KSub.weaken (R := [.blk b8 3 [.int .i64 (i : Int)]]) (ownsK_put0 (Y := Y) (l := sln (2 * nc + 1) i W) (E := E) (v := svl (2 * nc + 1) i W) (s := 2 * k) (A2 := updN Y (2 * k) A9) (c2 := updN E (2 * k) c9) (l2 := sln (2 * nc + 1) (i + 1) (W * (2 * nc + 1) + (2 * k + 1))) (v2 := svl (2 * nc + 1) (i + 1) (W * (2 * nc + 1) + (2 * k + 1))) (if_pos rfl) (sln_put (by omega)) (if_pos rfl) (fun j hj => side_row (by omega) j hj) hs2 (fun s _ hne => ⟨(if_neg hne).symm, (sln_same (by omega) (by omega)).symm, (if_neg hne).symm, (svl_same (by omega) (by omega)).symm⟩)) ?_
                           exact List.Perm.swap _ _ _)
                        | (rw [hY', hE', hqk]
                           refine KSub.own (by repeat (first | exact Pick.hd | apply Pick.tl)) (fun j _ => tieS_put1 (sln_put (by omega)) (fun s hs => sln_same (by omega) (by omega)) j) ?_
                           refine KSub.cons (by repeat (first | exact Pick.hd | apply Pick.tl)) (KSub.cons (by repeat (first | exact Pick.hd | apply Pick.tl)) (KSub.cons (by repeat (first | exact Pick.hd | apply Pick.tl)) (KSub.cons (by repeat (first | exact Pick.hd | apply Pick.tl)) ?_)))
                           refine KSub.weaken (R := [.blk b10 3 [.int .i64 (i : Int)]]) (ownsK_put0 (Y := Y) (l := sln (2 * nc + 1) i W) (E := E) (v := svl (2 * nc + 1) i W) (s := 2 * k + 1) (A2 := updN Y (2 * k + 1) A11) (c2 := updN E (2 * k + 1) c11) (l2 := sln (2 * nc + 1) (i + 1) (W * (2 * nc + 1) + (2 * k + 1 + 1))) (v2 := svl (2 * nc + 1) (i + 1) (W * (2 * nc + 1) + (2 * k + 1 + 1))) (if_pos rfl) (sln_put (by omega)) (if_pos rfl) (fun j hj => side_row (by omega) j hj) hs2 (fun s _ hne => ⟨(if_neg hne).symm, (sln_same (by omega) (by omega)).symm, (if_neg hne).symm, (svl_same (by omega) (by omega)).symm⟩)) ?_
                           exact List.Perm.swap _ _ _)
                  · try simp only [decide_eq_true_eq, decide_eq_false_iff_not, Bool.not_eq_true', Bool.not_eq_false', Bool.and_eq_true, Bool.or_eq_true, Bool.and_eq_false_iff, Bool.or_eq_false_iff, Int.not_lt, Int.not_le] at hc6
                    have hq0 : 0 < q := by omega
                    refine TW.skip ?_
                    refine TQ.thenN (hY41 _ _ ?_)
                    refine TW.seq fun Y43 hY43 => ?_
                    refine TW.region ?_
                    obtain ⟨k, hk⟩ : ∃ k, k = (q - 1) / 2 := ⟨_, rfl⟩
                    have hkc : k < nc := by omega
                    refine TL.p Pu.mv ?_
                    refine TL.p Pu.mv ?_
                    refine TL.p Pu.sb ?_
                    refine TL.p Pu.qu ?_
                    refine TL.p (Pu.el (q := k) ty_et23 (hk := by omega)) ?_
                    refine TL.p Pu.as ?_
                    refine TL.nil ?_
                    refine TQ.thenN (hY43 _ _ ?_)
                    refine TW.seq fun Y44 hY44 => ?_
                    refine TW.region ?_
                    refine TL.p Pu.mv ?_
                    refine TL.p Pu.rm ?_
                    refine TL.p Pu.eq ?_
                    refine TL.nil ?_
                    refine TQ.thenN (hY44 _ _ ?_)
                    refine TW.cond rfl (fun hc7 => ?_) (fun hc7 => ?_)
                    · try simp only [decide_eq_true_eq, decide_eq_false_iff_not, Bool.not_eq_true', Bool.not_eq_false', Bool.and_eq_true, Bool.or_eq_true, Bool.and_eq_false_iff, Bool.or_eq_false_iff, Int.not_lt, Int.not_le] at hc7
                      have hqk : q = 2 * k + 1 := by omega
                      have hs2 : 2 * k < 2 * nc := by omega
                      have hsl := sln_le (2 * nc + 1) i W (2 * k)
                      refine TW.region ?_
                      refine TL.perm (by repeat (first | exact ownsK_perm hs2 | apply List.Perm.cons)) ?_
                      refine TL.p Pu.mv ?_
                      refine TL.p Pu.mv ?_
                      refine TL.p (by first | exact Pu.nn | exact Pu.nc) ?_
                      refine TL.p (by first | exact Pu.fb ty_fa34_0 | exact Pu.fe ty_fa34_0) ?_
                      refine TL.p (Pu.ld ty_sc24) ?_
                      refine TL.p Pu.mv ?_
                      refine TL.m Mk.bl ?_
                      intro b8
                      first | refine TL.a0 ty_et24 ?_ | refine TL.ap ty_et24 ?_
                      intro A9 c9
                      obtain ⟨Y', hY'⟩ : ∃ z, z = updN Y (2 * k) A9 := ⟨_, rfl⟩
                      obtain ⟨E', hE'⟩ : ∃ z, z = updN E (2 * k) c9 := ⟨_, rfl⟩
                      refine TL.p (by first | exact Pu.nn | exact Pu.nc) ?_
                      refine TL.p (by first | exact Pu.fb ty_fa34_0 | exact Pu.fe ty_fa34_0) ?_
                      first | refine TL.st ty_sz24 ?_ | refine TL.se ty_sz24 ?_
                      refine TL.nil ?_
                      refine TQ.blkN ?_
                      refine TQ.thenN (hY24 _ _ ?_)
                      refine TW.region ?_
                      refine TL.p Pu.ad ?_
                      refine TL.p Pu.mv ?_
                      refine TL.nil ?_
                      refine TQ.thenN (hZ0 (i + 1) (W * (2 * nc + 1) + q) Y' E' _ _ ?_ ?_ (by repeat (first | exact trivial | refine ⟨rfl, ?_⟩ | refine ⟨trivial, ?_⟩)) ?_)
                      · exact ⟨by omega, by omega, hWn⟩
                      · exact (by first | omega | (simp only []; omega) | (simp; omega))
                      · first
                          | (rw [hY', hE', hl2, hv2]; (repeat (first | refine KSub.cons (by repeat (first | exact Pick.hd | apply Pick.tl)) ?_ | exact KSub.refl _ | refine KSub.drop ?_)); done)
                          | (rw [hY', hE', hqk]
                             refine KSub.own (by repeat (first | exact Pick.hd | apply Pick.tl)) (fun j _ => tieS_put0 (sln_put (by omega)) (fun s hs => sln_same (by omega) (by omega)) j) ?_
                             refine KSub.cons (by repeat (first | exact Pick.hd | apply Pick.tl)) (KSub.cons (by repeat (first | exact Pick.hd | apply Pick.tl)) (KSub.cons (by repeat (first | exact Pick.hd | apply Pick.tl)) (KSub.cons (by repeat (first | exact Pick.hd | apply Pick.tl)) ?_)))
                             refine KSub.weaken (R := [.blk b8 3 [.int .i64 (i : Int)]]) (ownsK_put0 (Y := Y) (l := sln (2 * nc + 1) i W) (E := E) (v := svl (2 * nc + 1) i W) (s := 2 * k) (A2 := updN Y (2 * k) A9) (c2 := updN E (2 * k) c9) (l2 := sln (2 * nc + 1) (i + 1) (W * (2 * nc + 1) + (2 * k + 1))) (v2 := svl (2 * nc + 1) (i + 1) (W * (2 * nc + 1) + (2 * k + 1))) (if_pos rfl) (sln_put (by omega)) (if_pos rfl) (fun j hj => side_row (by omega) j hj) hs2 (fun s _ hne => ⟨(if_neg hne).symm, (sln_same (by omega) (by omega)).symm, (if_neg hne).symm, (svl_same (by omega) (by omega)).symm⟩)) ?_
                             exact List.Perm.swap _ _ _)
                          | (rw [hY', hE', hqk]
                             refine KSub.own (by repeat (first | exact Pick.hd | apply Pick.tl)) (fun j _ => tieS_put1 (sln_put (by omega)) (fun s hs => sln_same (by omega) (by omega)) j) ?_
                             refine KSub.cons (by repeat (first | exact Pick.hd | apply Pick.tl)) (KSub.cons (by repeat (first | exact Pick.hd | apply Pick.tl)) (KSub.cons (by repeat (first | exact Pick.hd | apply Pick.tl)) (KSub.cons (by repeat (first | exact Pick.hd | apply Pick.tl)) ?_)))
                             refine KSub.weaken (R := [.blk b10 3 [.int .i64 (i : Int)]]) (ownsK_put0 (Y := Y) (l := sln (2 * nc + 1) i W) (E := E) (v := svl (2 * nc + 1) i W) (s := 2 * k + 1) (A2 := updN Y (2 * k + 1) A11) (c2 := updN E (2 * k + 1) c11) (l2 := sln (2 * nc + 1) (i + 1) (W * (2 * nc + 1) + (2 * k + 1 + 1))) (v2 := svl (2 * nc + 1) (i + 1) (W * (2 * nc + 1) + (2 * k + 1 + 1))) (if_pos rfl) (sln_put (by omega)) (if_pos rfl) (fun j hj => side_row (by omega) j hj) hs2 (fun s _ hne => ⟨(if_neg hne).symm, (sln_same (by omega) (by omega)).symm, (if_neg hne).symm, (svl_same (by omega) (by omega)).symm⟩)) ?_
                             exact List.Perm.swap _ _ _)
                    · try simp only [decide_eq_true_eq, decide_eq_false_iff_not, Bool.not_eq_true', Bool.not_eq_false', Bool.and_eq_true, Bool.or_eq_true, Bool.and_eq_false_iff, Bool.or_eq_false_iff, Int.not_lt, Int.not_le] at hc7
                      have hqk : q = 2 * k + 1 + 1 := by omega
                      have hs2 : 2 * k + 1 < 2 * nc := by omega
                      have hsl := sln_le (2 * nc + 1) i W (2 * k + 1)
                      refine TW.region ?_
                      refine TL.perm (by repeat (first | exact ownsK_perm hs2 | apply List.Perm.cons)) ?_
                      refine TL.p Pu.mv ?_
                      refine TL.p Pu.mv ?_
                      refine TL.p (by first | exact Pu.nn | exact Pu.nc) ?_
                      refine TL.p (by first | exact Pu.fb ty_fa34_1 | exact Pu.fe ty_fa34_1) ?_
                      refine TL.p (Pu.ld ty_sc24) ?_
                      refine TL.p Pu.mv ?_
                      refine TL.m Mk.bl ?_
                      intro b10
                      first | refine TL.a0 ty_et24 ?_ | refine TL.ap ty_et24 ?_
                      intro A11 c11
                      obtain ⟨Y', hY'⟩ : ∃ z, z = updN Y (2 * k + 1) A11 := ⟨_, rfl⟩
                      obtain ⟨E', hE'⟩ : ∃ z, z = updN E (2 * k + 1) c11 := ⟨_, rfl⟩
                      refine TL.p (by first | exact Pu.nn | exact Pu.nc) ?_
                      refine TL.p (by first | exact Pu.fb ty_fa34_1 | exact Pu.fe ty_fa34_1) ?_
                      first | refine TL.st ty_sz24 ?_ | refine TL.se ty_sz24 ?_
                      refine TL.nil ?_
                      refine TQ.blkN ?_
                      refine TQ.thenN (hY24 _ _ ?_)
                      refine TW.region ?_
                      refine TL.p Pu.ad ?_
                      refine TL.p Pu.mv ?_
                      refine TL.nil ?_
                      refine TQ.thenN (hZ0 (i + 1) (W * (2 * nc + 1) + q) Y' E' _ _ ?_ ?_ (by repeat (first | exact trivial | refine ⟨rfl, ?_⟩ | refine ⟨trivial, ?_⟩)) ?_)
                      · exact ⟨by omega, by omega, hWn⟩
                      · exact (by first | omega | (simp only []; omega) | (simp; omega))
                      · first
                          | (rw [hY', hE', hl2, hv2]; (repeat (first | refine KSub.cons (by repeat (first | exact Pick.hd | apply Pick.tl)) ?_ | exact KSub.refl _ | refine KSub.drop ?_)); done)
                          | (rw [hY', hE', hqk]
                             refine KSub.own (by repeat (first | exact Pick.hd | apply Pick.tl)) (fun j _ => tieS_put0 (sln_put (by omega)) (fun s hs => sln_same (by omega) (by omega)) j) ?_
                             refine KSub.cons (by repeat (first | exact Pick.hd | apply Pick.tl)) (KSub.cons (by repeat (first | exact Pick.hd | apply Pick.tl)) (KSub.cons (by repeat (first | exact Pick.hd | apply Pick.tl)) (KSub.cons (by repeat (first | exact Pick.hd | apply Pick.tl)) ?_)))
                             refine KSub.weaken (R := [.blk b8 3 [.int .i64 (i : Int)]]) (ownsK_put0 (Y := Y) (l := sln (2 * nc + 1) i W) (E := E) (v := svl (2 * nc + 1) i W) (s := 2 * k) (A2 := updN Y (2 * k) A9) (c2 := updN E (2 * k) c9) (l2 := sln (2 * nc + 1) (i + 1) (W * (2 * nc + 1) + (2 * k + 1))) (v2 := svl (2 * nc + 1) (i + 1) (W * (2 * nc + 1) + (2 * k + 1))) (if_pos rfl) (sln_put (by omega)) (if_pos rfl) (fun j hj => side_row (by omega) j hj) hs2 (fun s _ hne => ⟨(if_neg hne).symm, (sln_same (by omega) (by omega)).symm, (if_neg hne).symm, (svl_same (by omega) (by omega)).symm⟩)) ?_
                             exact List.Perm.swap _ _ _)
                          | (rw [hY', hE', hqk]
                             refine KSub.own (by repeat (first | exact Pick.hd | apply Pick.tl)) (fun j _ => tieS_put1 (sln_put (by omega)) (fun s hs => sln_same (by omega) (by omega)) j) ?_
                             refine KSub.cons (by repeat (first | exact Pick.hd | apply Pick.tl)) (KSub.cons (by repeat (first | exact Pick.hd | apply Pick.tl)) (KSub.cons (by repeat (first | exact Pick.hd | apply Pick.tl)) (KSub.cons (by repeat (first | exact Pick.hd | apply Pick.tl)) ?_)))
                             refine KSub.weaken (R := [.blk b10 3 [.int .i64 (i : Int)]]) (ownsK_put0 (Y := Y) (l := sln (2 * nc + 1) i W) (E := E) (v := svl (2 * nc + 1) i W) (s := 2 * k + 1) (A2 := updN Y (2 * k + 1) A11) (c2 := updN E (2 * k + 1) c11) (l2 := sln (2 * nc + 1) (i + 1) (W * (2 * nc + 1) + (2 * k + 1 + 1))) (v2 := svl (2 * nc + 1) (i + 1) (W * (2 * nc + 1) + (2 * k + 1 + 1))) (if_pos rfl) (sln_put (by omega)) (if_pos rfl) (fun j hj => side_row (by omega) j hj) hs2 (fun s _ hne => ⟨(if_neg hne).symm, (sln_same (by omega) (by omega)).symm, (if_neg hne).symm, (svl_same (by omega) (by omega)).symm⟩)) ?_
                             exact List.Perm.swap _ _ _)
              refine TW.region ?_
              refine TL.p Pu.mv ?_
              refine TL.p (Pu.ld ty_sc22) ?_
              refine TL.p (Pu.ln Tryz.underlying22) ?_
              refine TL.p Pu.ge ?_
              refine TL.p Pu.mv ?_
              refine TL.guard (t := 133) rfl (fun hg7 => ?_) (fun hg7 => ?_)
              · try simp only [decide_eq_true_eq, decide_eq_false_iff_not, Bool.not_eq_true', Bool.not_eq_false', Int.natCast_pos] at hg7
                refine TL.gs ?_
                refine TL.gs ?_
                refine TL.gs ?_
                refine TL.p Pu.kt ?_
                refine TL.nil ?_
                exact TQ.sub (by repeat (first | exact trivial | refine ⟨rfl, ?_⟩ | refine ⟨trivial, ?_⟩ | refine ⟨(by show some (Value.bool _) = some (Value.bool _); simp [hg7]), ?_⟩)) (by repeat (first | exact KSub.nil | refine KSub.cons (by repeat (first | exact Pick.hd | apply Pick.tl)) ?_ | exact KSub.refl _ | refine KSub.drop ?_)) hJ1
              · try simp only [decide_eq_true_eq, decide_eq_false_iff_not, Bool.not_eq_true', Bool.not_eq_false', Int.natCast_pos] at hg7
                refine TL.gd (Pu.ld ty_sc24) ?_
                refine TL.gd (Pu.ln Tryz.underlying24) ?_
                refine TL.gd Pu.eq ?_
                refine TL.p Pu.kf ?_
                refine TL.nil ?_
                exact TQ.sub (by repeat (first | exact trivial | refine ⟨rfl, ?_⟩ | refine ⟨trivial, ?_⟩ | refine ⟨(by show some (Value.bool _) = some (Value.bool _); simp [hg7]), ?_⟩)) (by repeat (first | exact KSub.nil | refine KSub.cons (by repeat (first | exact Pick.hd | apply Pick.tl)) ?_ | exact KSub.refl _ | refine KSub.drop ?_)) hJ1
            · try simp only [decide_eq_true_eq, decide_eq_false_iff_not, Bool.not_eq_true', Bool.not_eq_false', Bool.and_eq_true, Bool.or_eq_true, Bool.and_eq_false_iff, Bool.or_eq_false_iff, Int.not_lt, Int.not_le] at hc4
              skip
              refine TW.exit ?_
              refine TQ.thenX ?_
              refine TQ.thenX ?_
              refine TQ.blkX ?_
              refine TQ.thenN (hY20 _ _ ?_)
              refine TW.seq fun Y45 hY45 => ?_
              refine TW.seq fun Y46 hY46 => ?_
              refine TW.region ?_
              obtain ⟨W', hW'⟩ : ∃ z, z = W * (2 * nc + 1) ^ (np - i) := ⟨_, rfl⟩
              have hsd : ∀ s, side (2 * nc + 1) np W' s = side (2 * nc + 1) i W s := fun s => by
                have h9 := side_pad (P := 2 * nc + 1) (i := i) (w := W) (s := s) (by omega) (np - i)
                rw [show i + (np - i) = np by omega, ← hW'] at h9
                exact h9
              have hl3 : sln (2 * nc + 1) i W = sln (2 * nc + 1) np W' := funext fun s => by unfold sln; rw [hsd]
              have hv3 : svl (2 * nc + 1) i W = svl (2 * nc + 1) np W' := funext fun s => funext fun j => by unfold svl; rw [hsd]
              have hW3 : W' < (2 * nc + 1) ^ np := by
                rw [hW', show (2 * nc + 1) ^ np = (2 * nc + 1) ^ i * (2 * nc + 1) ^ (np - i) by rw [← Nat.pow_add]; congr 1; omega]
                exact Nat.mul_lt_mul_of_pos_right hWb (Nat.pow_pos (by omega))
              have hopt := m6 W' hW3
              rw [hl3, hv3]
              refine TL.p Pu.mv ?_
              refine TL.p Pu.mv ?_
              refine TL.cv rfl rfl (enters Tryz.func11 rfl rfl) (fun w hw => by
                  have hty := ties_read (P := 2 * nc + 1) (np := np) (way := W') (n := nc) (x := ((some ⟨b5, 0, none⟩, nc), Y, E)) hw (fun φ hφ => by
                    rcases List.mem_cons.1 hφ with rfl | hφ
                    · simp
                    · simp [hφ])
                  exact right_any (nc := nc) (bP := b1) (bB := b4) (bC := b2) (bV := b3) (cp := cp) (cc := cc) (cv := cv) (hG.sat hw (by simp)) rfl hnp hnc hpk hbb hwb (OldB.of_blk (hw.holds (.blk b1 22 [.slice A np cp]) (by simp))) (OldB.of_blk (hw.holds (.blk b4 3 [.int .i64 b]) (by simp))) (OldB.of_blk (hw.holds (.blk b2 24 [.slice Ac nc cc]) (by simp))) (OldB.of_blk (hw.holds (.blk b3 24 [.slice Av np cv]) (by simp))) (hR.sat hw Apart.nil) (hC.sat hw Apart.nil) (hV.sat hw Apart.nil) hty.1 hty.2 (cT := nc)) ?_
              refine TL.p Pu.mv ?_
              refine TL.p Pu.ex ?_
              refine TL.p Pu.ex ?_
              refine TL.p Pu.as ?_
              refine TL.p Pu.as ?_
              refine TL.nil ?_
              refine TQ.thenN (hY46 _ _ ?_)
              refine TW.seq fun Y47 hY47 => ?_
              refine TW.join [(187, .bool (allB nc (okT (2 * nc + 1) np (fun q => rl (pk q)) (fun q => rh (pk q)) cans b W') && decide ((stowB np pk nc cans wv b).worth < (if allB nc (okT (2 * nc + 1) np (fun q => rl (pk q)) (fun q => rh (pk q)) cans b W') = true then wsum (2 * nc + 1) wv np W' else 0))))] ?_ (fun hJ3 => ?_)
              · refine TQ.thenN (hY47 _ _ ?_)
                refine TW.condF rfl ((by cases h : allB nc (okT (2 * nc + 1) np (fun q => rl (pk q)) (fun q => rh (pk q)) cans b W') with | false => rfl | true => rw [if_pos rfl, Bool.true_and]; exact decide_eq_false (by have := hopt h; omega))) ?_
                refine TW.skip ?_
                refine TQ.thenN (hY45 _ _ ?_)
                refine TW.seq fun Y48 hY48 => ?_
                refine TW.region ?_
                refine TL.m Mk.bl ?_
                intro b12
                refine TL.p (Pu.ld ty_sc24) ?_
                first
                  | refine TL.ob (b := b6) (sz := 1) (r := fun _ => []) (by repeat (first | exact Pick.hd | apply Pick.tl)) rfl ?_
                  | refine TL.ob (b := b11) (sz := 1) (r := fun _ => []) (by repeat (first | exact Pick.hd | apply Pick.tl)) rfl ?_
                  | refine TL.ob (b := b12) (sz := 1) (r := fun _ => []) (by repeat (first | exact Pick.hd | apply Pick.tl)) rfl ?_
                first | refine TL.a0 ty_et24 ?_ | refine TL.ap ty_et24 ?_
                intro A13 c13
                refine TL.p Pu.as ?_
                refine TL.nil ?_
                refine TQ.thenN (hY48 _ _ ?_)
                refine TW.seq fun Y49 hY49 => ?_
                refine TW.seq fun Y50 hY50 => ?_
                refine TW.region ?_
                first
                  | (generalize A6 = AM; generalize c6 = cM)
                  | (generalize A7 = AM; generalize c7 = cM)
                  | (generalize A12 = AM; generalize c12 = cM)
                  | (generalize A13 = AM; generalize c13 = cM)
                refine TL.p Pu.mv ?_
                refine TL.p (Pu.ln Tryz.underlying24) ?_
                refine TL.p Pu.mv ?_
                refine TL.nil ?_
                refine TQ.thenN (hY50 _ _ ?_)
                refine TW.block ?_
                refine TW.loop1 (fun (k : Nat) => [(193, .int .i64 (k : Int)), (192, .int .i64 (nc : Int)), (29, .slice AM nc cM), (22, .slice (some ⟨b5, 0, none⟩) nc nc), (19, .func (.func 11) #[] #[.pointer (some ⟨b1, 0, none⟩), .pointer (some ⟨b4, 0, none⟩), .pointer (some ⟨b2, 0, none⟩), .pointer (some ⟨b3, 0, none⟩)]), (17, .int .i64 (stowB np pk nc cans wv b).worth), (15, .bool true), (4, .slice AW ny cy), (5, .int .u16 wid), (6, .int .u16 str), (7, .pointer (some ⟨b1, 0, none⟩)), (8, .pointer (some ⟨b2, 0, none⟩)), (9, .pointer (some ⟨b3, 0, none⟩)), (10, .pointer (some ⟨b4, 0, none⟩))]) (fun k => .own AM nc cM 3 1 (fun j => [.int .i64 (if j < k then morC cans str j else cans j)]) :: .blk b1 22 [.slice A np cp] :: .blk b2 24 [.slice Ac nc cc] :: .blk b3 24 [.slice Av np cv] :: .blk b4 3 [.int .i64 b] :: []) (fun k => k ≤ nc) (fun k => nc - k) 0 (by repeat (first | exact trivial | refine ⟨rfl, ?_⟩ | refine ⟨trivial, ?_⟩)) ?_ ?_ ?_
                · exact (by repeat (first | exact KSub.nil | refine KSub.cons (by repeat (first | exact Pick.hd | apply Pick.tl)) ?_ | exact KSub.refl _ | refine KSub.drop ?_))
                · exact Nat.zero_le _
                rintro k hk Z1 hZ1
                refine TW.seq fun Y51 hY51 => ?_
                refine TW.region ?_
                refine TL.p Pu.lt ?_
                refine TL.nil ?_
                refine TQ.thenN (hY51 _ _ ?_)
                refine TW.seq fun Y52 hY52 => ?_
                refine TW.cond rfl (fun hc9 => ?_) (fun hc9 => ?_)
                · try simp only [decide_eq_true_eq, decide_eq_false_iff_not, Bool.not_eq_true', Bool.not_eq_false', Bool.and_eq_true, Bool.or_eq_true, Bool.and_eq_false_iff, Bool.or_eq_false_iff, Int.not_lt, Int.not_le] at hc9
                  have hkn : k < nc := by omega
                  have hck := hcb k hkn
                  have hcur : (if k < k then morC cans str k else cans k) = cans k := if_neg (by omega)
                  refine TW.skip ?_
                  refine TQ.thenN (hY52 _ _ ?_)
                  refine TW.seq fun Y53 hY53 => ?_
                  refine TW.block ?_
                  refine TW.seq fun Y54 hY54 => ?_
                  refine TW.region ?_
                  refine TL.p Pu.mv ?_
                  refine TL.p Pu.as ?_
                  refine TL.nil ?_
                  refine TQ.thenN (hY54 _ _ ?_)
                  refine TW.region ?_
                  refine TL.p Pu.mv ?_
                  refine TL.p Pu.mv ?_
                  refine TL.p Pu.mv ?_
                  refine TL.p Pu.mv ?_
                  refine TL.p (Pu.el ty_et24) ?_
                  refine TL.p (Pu.ld (v := .int .i64 (cans k)) ty_sc3 (hq := Cells.own (m := 1) (by repeat (first | exact Pick.hd | apply Pick.tl)) (by omega) (by rw [hcur]; exact SubL.take SubL.nil))) ?_
                  refine TL.p Pu.mv ?_
                  refine TL.p (Pu.cv (v := .int .i64 str) rfl (fun w => by go_simp; rw [IntWalk.i64_in str (by omega)])) ?_
                  refine TL.p Pu.ad ?_
                  refine TL.p Pu.mn ?_
                  refine TL.p (Pu.el ty_et24) ?_
                  first | refine TL.st ty_sz3 ?_ | refine TL.se ty_sz3 ?_
                  refine TL.nil ?_
                  refine TQ.blkN ?_
                  refine TQ.thenN (hY53 _ _ ?_)
                  refine TW.region ?_
                  refine TL.p Pu.ad ?_
                  refine TL.p Pu.mv ?_
                  refine TL.nil ?_
                  refine TQ.thenN (hZ1 (k + 1) _ _ ?_ ?_ (by repeat (first | exact trivial | refine ⟨rfl, ?_⟩ | refine ⟨trivial, ?_⟩)) ?_)
                  · exact (by omega)
                  · exact (by first | omega | (simp only []; omega) | (simp; omega))
                  · refine KSub.own (by repeat (first | exact Pick.hd | apply Pick.tl)) (fun j _ => ?_) (KSub.cons (by repeat (first | exact Pick.hd | apply Pick.tl)) (KSub.cons (by repeat (first | exact Pick.hd | apply Pick.tl)) (KSub.cons (by repeat (first | exact Pick.hd | apply Pick.tl)) (KSub.cons (by repeat (first | exact Pick.hd | apply Pick.tl)) KSub.nil))))
                    unfold updR
                    by_cases h : j = k
                    · subst h
                      rw [if_pos rfl, if_pos (by omega)]
                      rfl
                    · rw [if_neg h]
                      dsimp only
                      by_cases h2 : j < k
                      · rw [if_pos h2, if_pos (by omega)]
                      · rw [if_neg h2, if_neg (by omega)]
                · try simp only [decide_eq_true_eq, decide_eq_false_iff_not, Bool.not_eq_true', Bool.not_eq_false', Bool.and_eq_true, Bool.or_eq_true, Bool.and_eq_false_iff, Bool.or_eq_false_iff, Int.not_lt, Int.not_le] at hc9
                  obtain rfl : nc = k := by omega
                  refine TW.exit ?_
                  refine TQ.thenX ?_
                  refine TQ.thenX ?_
                  refine TQ.blkX ?_
                  refine TQ.thenN (hY49 _ _ ?_)
                  refine TW.seq fun Y55 hY55 => ?_
                  refine TW.region ?_
                  have hz2 : stowC np pk nc (morC cans str) np wv (min (b + wid) 1000000000) = 0 := stowC_yes hpk hnp hnc ⟨by omega, fun k hk => by have := hcb k hk; unfold morC; omega, rfl, hwb⟩
                  have hW2 : stowW np pk nc (morC cans str) np wv (min (b + wid) 1000000000) = (stowB np pk nc (morC cans str) wv (min (b + wid) 1000000000)).worth := by unfold stowW; rw [if_pos hz2]
                  have hmore := stow_more (np := np) (pk := pk) (nc := nc) (wv := wv) (cans := cans) (cans2 := morC cans str) (b := b) (b2 := min (b + wid) 1000000000) hbb.1 (fun k hk => (hcb k hk).1) (by omega) (fun k hk => by have := hcb k hk; unfold morC; omega)
                  rw [← hW2] at hmore
                  refine TL.p (Pu.ld ty_sc22) ?_
                  refine TL.p Pu.mv ?_
                  refine TL.p (Pu.ld ty_sc24) ?_
                  refine TL.p (Pu.ld ty_sc3) ?_
                  refine TL.p Pu.mv ?_
                  refine TL.p (Pu.cv (v := .int .i64 wid) rfl (fun w => by go_simp; rw [IntWalk.i64_in wid (by omega)])) ?_
                  refine TL.p Pu.ad ?_
                  refine TL.p Pu.mn ?_
                  refine TL.call (M := []) rfl (enters Tryz.func10 rfl rfl) (List.Perm.refl _) rfl (fun w hw => by
                      have hM := OwnR.rdr (hw.holds (.own AM nc cM 3 1 (fun j => [.int .i64 (if j < nc then morC cans str j else cans j)])) (by simp))
                      have hM2 : RdR w 1 AM nc (fun j => [.int .i64 (morC cans str j)]) := ⟨hM.rd.congr fun j q hj _ => by simp only [rowF]; rw [if_pos hj], fun j hj => rfl⟩
                      have h9 := loadStow_any (cp := cp) (cc := cM) (cv := cv) (b := min (b + wid) 1000000000) (hG.sat hw (by simp)) (by omega) (by omega) (by omega) (hR.sat hw Apart.nil) hM2 (hV.sat hw Apart.nil)
                      rw [hz2] at h9
                      exact h9) ?_
                  rintro sz
                  refine TL.p Pu.mv ?_
                  refine TL.p Pu.ex ?_
                  refine TL.p Pu.ex ?_
                  refine TL.p Pu.ex ?_
                  refine TL.p Pu.as ?_
                  refine TL.p Pu.as ?_
                  refine TL.p Pu.as ?_
                  refine TL.nil ?_
                  refine TQ.thenN (hY55 _ _ ?_)
                  refine TW.seq fun Y56 hY56 => ?_
                  refine TW.region ?_
                  refine TL.p Pu.mv ?_
                  refine TL.p Pu.mv ?_
                  refine TL.lit (t := 222) (b' := true) rfl (rfl) ?_
                  refine TL.gd Pu.mv ?_
                  refine TL.gd Pu.eq ?_
                  refine TL.p Pu.kt ?_
                  refine TL.p Pu.mv ?_
                  refine TL.lit (t := 226) (b' := true) rfl (rfl) ?_
                  refine TL.gd Pu.mv ?_
                  refine TL.gd Pu.mv ?_
                  refine TL.gd Pu.ge ?_
                  refine TL.p Pu.kt ?_
                  refine TL.p Pu.as ?_
                  refine TL.nil ?_
                  refine TQ.thenN (hY56 _ _ ?_)
                  refine TW.ret ?_
                  refine TQ.ret Tryz.results4 rfl ((.tmp rfl .nil)) ?_
                  refine fun w hw => ⟨?_, Chg.ext hw.chg⟩
                  refine congrArg (fun b => Ending.returned (Value.bool b)) ?_
                  first
                    | rfl
                    | exact decide_eq_true hmore
                    | (simp; omega)
              refine TW.region ?_
              refine TL.p Pu.mv ?_
              refine TL.p Pu.mv ?_
              refine TL.guard (t := 183) rfl (fun hg8 => ?_) (fun hg8 => ?_)
              · try simp only [decide_eq_true_eq, decide_eq_false_iff_not, Bool.not_eq_true', Bool.not_eq_false', Int.natCast_pos] at hg8
                refine TL.gd Pu.mv ?_
                refine TL.gd Pu.mv ?_
                refine TL.gd Pu.gt ?_
                refine TL.p Pu.kt ?_
                refine TL.nil ?_
                exact TQ.sub (by repeat (first | exact trivial | refine ⟨rfl, ?_⟩ | refine ⟨trivial, ?_⟩ | refine ⟨(by show some (Value.bool _) = some (Value.bool _); simp [hg8]), ?_⟩)) (by repeat (first | exact KSub.nil | refine KSub.cons (by repeat (first | exact Pick.hd | apply Pick.tl)) ?_ | exact KSub.refl _ | refine KSub.drop ?_)) hJ3
              · try simp only [decide_eq_true_eq, decide_eq_false_iff_not, Bool.not_eq_true', Bool.not_eq_false', Int.natCast_pos] at hg8
                refine TL.gs ?_
                refine TL.gs ?_
                refine TL.gs ?_
                refine TL.p Pu.kf ?_
                refine TL.nil ?_
                exact TQ.sub (by repeat (first | exact trivial | refine ⟨rfl, ?_⟩ | refine ⟨trivial, ?_⟩ | refine ⟨(by show some (Value.bool _) = some (Value.bool _); simp [hg8]), ?_⟩)) (by repeat (first | exact KSub.nil | refine KSub.cons (by repeat (first | exact Pick.hd | apply Pick.tl)) ?_ | exact KSub.refl _ | refine KSub.drop ?_)) hJ3
end Go.Proofs.YtljhdcclajikiaaGreatDoor
namespace Go.Proofs.YtljhdcclajikiaaGreatDoor
set_option linter.all false
set_option linter.unusedVariables false
set_option linter.unusedSimpArgs false
open Go.ChangeShapes Go.WideShapes Go.RowKit Go.Deep
section
variable {H : Type} {enc : TypeId × Value → H} {P : Program} {w : World} {base : Nat} {spare : Nat → Bool} {held : Bool}
def kindsL (P : Program) (g : TypeId → Option (List IntKind)) : List Field → Nat → Option (List IntKind)
  | [], _ => some []
  | f :: fs, off => match g f.type with
    | some a => if f.offset = off ∧ a.length = P.cellsOf f.type then match kindsL P g fs (off + a.length) with
      | some b => some (a ++ b)
      | none => none
      else none
    | none => none
def kindsF (P : Program) : Nat → TypeId → Option (List IntKind)
  | 0, _ => none
  | d + 1, t => match P.underlying t with
    | some (.int k) => some [k]
    | some (.struct fs) => match kindsL P (kindsF P d) fs.toList 0 with
      | some a => if a.length = P.cellsOf t then some a else none
      | none => none
    | _ => none
def ints (ks : List IntKind) (ns : List Int) : List Value := List.zipWith Value.int ks ns
theorem ints_append {a b : List IntKind} {x y : List Int} (h : x.length = a.length) : ints (a ++ b) (x ++ y) = ints a x ++ ints b y := by
  unfold ints; rw [List.zipWith_append h.symm]
theorem ints_length {a : List IntKind} {x : List Int} (h : x.length = a.length) : (ints a x).length = a.length := by simp [ints, h]
theorem kindsL_spec {g : TypeId → Option (List IntKind)} (hg : ∀ t ks, g t = some ks → ∀ fuel cs x, DataW.trod enc P w base spare held fuel t cs = some x → ∃ ns : List Int, cs = ints ks ns ∧ ns.length = ks.length) :
    ∀ (fs : List Field) (off : Nat) (ks : List IntKind) (cs : List Value), kindsL P g fs off = some ks → cs.length = off + ks.length →
      (∀ f ∈ fs, ∃ n x, DataW.trod enc P w base spare held n f.type ((cs.drop f.offset).take (P.cellsOf f.type)) = some x) → ∃ ns : List Int, cs.drop off = ints ks ns ∧ ns.length = ks.length
  | [], off, ks, cs, h, hl, _ => by cases h; exact ⟨[], by simp at hl; simp [ints, hl], rfl⟩
  | f :: fs, off, ks, cs, h, hl, hf => by
    simp only [kindsL] at h
    cases h1 : g f.type with
    | none => rw [h1] at h; cases h
    | some a =>
      rw [h1] at h
      simp only at h
      split at h
      · rename_i h2
        obtain ⟨h2, h3⟩ := h2
        cases h4 : kindsL P g fs (off + a.length) with
        | none => rw [h4] at h; cases h
        | some b =>
          rw [h4] at h
          cases h
          obtain ⟨n, x, hx⟩ := hf f (by simp)
          rw [h2, ← h3] at hx
          obtain ⟨ns, e1, e2⟩ := hg _ _ h1 _ _ _ hx
          obtain ⟨ms, e3, e4⟩ := kindsL_spec hg fs (off + a.length) b cs h4 (by rw [hl]; simp; omega) (fun f' hf' => hf f' (by simp [hf']))
          refine ⟨ns ++ ms, ?_, by simp [e2, e4]⟩
          rw [ints_append e2, ← e1, ← e3, ← List.drop_drop, List.take_append_drop]
      · cases h
theorem kindsF_spec : ∀ (d : Nat) (t : TypeId) (ks : List IntKind), kindsF P d t = some ks → ∀ fuel cs x, DataW.trod enc P w base spare held fuel t cs = some x → ∃ ns : List Int, cs = ints ks ns ∧ ns.length = ks.length
  | 0, _, _, h, _, _, _, _ => by cases h
  | d + 1, t, ks, h, fuel, cs, x, hx => by
    simp only [kindsF] at h
    cases hu : P.underlying t with
    | none => rw [hu] at h; cases h
    | some desc =>
      rw [hu] at h
      match desc, hu, h with
      | .int k, hu, h =>
        injection h with h
        subst h
        obtain ⟨n, rfl, _, _⟩ := DataW.trod_int hu hx
        exact ⟨[n], rfl, rfl⟩
      | .struct fs, hu, h =>
        simp only at h
        cases h1 : kindsL P (kindsF P d) fs.toList 0 with
        | none => rw [h1] at h; cases h
        | some a =>
          rw [h1] at h
          simp only at h
          split at h
          · rename_i h2
            cases h
            obtain ⟨xs, n, _, _, hlen, hxl, hf⟩ := DataW.trod_struct hu hx
            obtain ⟨ns, e1, e2⟩ := kindsL_spec (kindsF_spec d) fs.toList 0 _ cs h1 (by omega) (fun f hf' => by
              obtain ⟨i, hi, rfl⟩ := List.getElem_of_mem hf'
              have hi' : i < fs.size := by simpa using hi
              have := hf i fs[i] (by simp [hi'])
              rw [List.getElem?_eq_getElem (by omega)] at this
              exact ⟨n, _, this⟩)
            exact ⟨ns, by simpa using e1, e2⟩
          · cases h
theorem open_flat_slice {t e : TypeId} {fuel : Nat} {cs : List Value} {x : DataW H × List MemPlace} (d : Nat) {ks : List IntKind} (ht : P.underlying t = some (.slice e)) (hk : kindsF P d e = some ks) (hC : P.cellsOf e = ks.length) (h0 : Nat.blt 0 ks.length = true) (h : DataW.trod enc P w base spare held fuel t cs = some x) :
    ∃ (A : Option Addr) (len cap : Nat) (g : Nat → List Int), cs = [.slice A len cap] ∧ (∀ i, i < len → (g i).length = ks.length) ∧ RdR w ks.length A len (fun i => ints ks (g i)) ∧ (A = none → len = 0 ∧ cap = 0) ∧ len ≤ cap ∧ cap ≤ maxLen := by
  have h0 : 0 < ks.length := Nat.le_of_ble_eq_true h0
  rcases open_slice ht h with ⟨rfl, rfl⟩ | ⟨a, len, cap, m, n, D, Pl, rfl, hb, hl, hm, hmm, _, hi⟩
  · exact ⟨none, 0, 0, fun _ => [], rfl, fun i hi => by omega, ⟨Rd.nil, fun i hi => by omega⟩, fun _ => ⟨rfl, rfl⟩, Nat.le_refl _, Nat.zero_le _⟩
  · have hlm : len ≤ m := by rw [hmm]; split <;> omega
    have key : ∀ i, i < len → ∃ ns : List Int, ns.length = ks.length ∧ ∀ j, j < ks.length → w.cell? (a.add (i * ks.length + j)) = (ints ks ns)[j]? := fun i hil => by
      obtain ⟨cs', hc, hx⟩ := hi i (by omega)
      obtain ⟨_, hcl, hat⟩ := World.cells?_some hc
      obtain ⟨ns, rfl, e2⟩ := kindsF_spec d e ks hk _ _ _ hx
      refine ⟨ns, e2, fun j hj => ?_⟩
      have := hat j (by rw [hC]; exact hj)
      rw [hC] at this
      rw [← this, ← add_add]
    refine ⟨some a, len, cap, fun i => if hi : i < len then (key i hi).choose else [], rfl, fun i hi => ?_, ⟨fun hn => ?_, fun i hi => ?_⟩, fun h => (by cases h), hl, hm⟩
    · simp only [hi, dite_true]; exact (key i hi).choose_spec.1
    · have h1 := (key 0 hn).choose_spec.2 0 h0
      have hsome : (ints ks (key 0 hn).choose)[0]? = some ((ints ks (key 0 hn).choose)[0]'(by rw [ints_length (key 0 hn).choose_spec.1]; exact h0)) := List.getElem?_eq_getElem _
      rw [hsome] at h1
      have hadd : a.add (0 * ks.length + 0) = a := by simp [Addr.add]
      rw [hadd] at h1
      have hsp : a.spot = none := by
        unfold World.cell? at h1
        split at h1
        · cases hs : a.spot with
          | none => rfl
          | some s => simp [hs] at h1
        · cases h1
      have hlt : a.block < w.heap.size := World.block_lt_of_cell? w a h1
      obtain ⟨b, o, s⟩ := a
      simp only at hsp
      subst hsp
      refine ⟨b, o, rfl, hlt, fun i j hi hj => ?_⟩
      have h2 := (key i hi).choose_spec.2 j hj
      rw [add_plain] at h2
      rw [show o + i * ks.length + j = o + (i * ks.length + j) by omega, h2]
      simp only [rowF, hi, dite_true]
      have hl2 : j < (ints ks (key i hi).choose).length := by rw [ints_length (key i hi).choose_spec.1]; exact hj
      rw [List.getElem?_eq_getElem hl2]
      simp [List.getD_eq_getElem?_getD, List.getElem?_eq_getElem hl2]
    · simp only [hi, dite_true]
      exact ints_length (key i hi).choose_spec.1
theorem open_rows {r : Reach} {b0 : Nat} {t e : TypeId} {v : Value} {dd : DataW H} {p : List MemPlace} (d : Nat) (ks : List IntKind) (ht : P.underlying t = some (.slice e)) (hk : kindsF P d e = some ks) (hC : P.cellsOf e = ks.length) (h0 : Nat.blt 0 ks.length = true) (hv : Value.okWide P w r b0 t v) (h : DataW.Trod enc P w base spare held t v dd p) :
    ∃ (A : Option Addr) (len cap : Nat) (g : Nat → List Int), v = .slice A len cap ∧ (∀ i, i < len → (g i).length = ks.length) ∧ RdR w ks.length A len (fun i => ints ks (g i)) ∧ (A = none → len = 0 ∧ cap = 0) ∧ len ≤ cap ∧ cap ≤ maxLen := by
  obtain ⟨a, n, c, rfl⟩ := okWide_slice ht hv
  obtain ⟨fuel, h⟩ := h
  obtain ⟨A, len, cap, g, e, h1⟩ := open_flat_slice d ht hk hC h0 h
  simp only [Value.cells, List.cons.injEq, Value.slice.injEq, and_true] at e
  obtain ⟨rfl, rfl, rfl⟩ := e
  exact ⟨_, _, _, g, rfl, h1⟩
def gi (ns : List Int) (j : Nat) : Int := ns.getD j 0
def rowK : List IntKind → (Nat → Int) → List Value
  | [], _ => []
  | k :: ks, f => .int k (f 0) :: rowK ks fun j => f (j + 1)
theorem ints_rowK : ∀ (ks : List IntKind) (ns : List Int), ns.length = ks.length → ints ks ns = rowK ks (gi ns)
  | [], [], _ => rfl
  | k :: ks, n :: ns, h => by
    show Value.int k n :: ints ks ns = _
    rw [ints_rowK ks ns (by simpa using h)]
    rfl
theorem RdR.rowK {sz n : Nat} {A : Option Addr} {ks : List IntKind} {g : Nat → List Int} (h : RdR w sz A n (fun i => ints ks (g i))) (hl : ∀ i, i < n → (g i).length = ks.length) : RdR w sz A n (fun i => rowK ks (gi (g i))) :=
  ⟨h.rd.congr fun i j hi hj => by simp only [rowF, ints_rowK ks (g i) (hl i hi)], fun i hi => by rw [← ints_rowK ks (g i) (hl i hi)]; exact h.len i hi⟩
theorem trodAll_stays (hl : laidOutB P = true) {W W' : World} (hb : Below W.heap.size W W') {sp' : Nat → Bool} : ∀ {ts : List TypeId} {vs : List Value} {ds : List (DataW H)} {ps : List MemPlace}, ts.all (fun t => P.readableRec t && decide (t < P.types.size)) = true →
    DataW.TrodAll enc P W 0 (fun _ => true) true ts vs ds ps → (∀ p ∈ ps, p.block < W.heap.size) → (∀ p ∈ ps, sp' p.block = true) → DataW.TrodAll enc P W' 0 sp' true ts vs ds ps
  | [], [], [], ps, _, h, _, _ => h
  | t :: ts, v :: vs, d :: ds, ps, ht, h, hlt, hs => by
    simp only [List.all_cons, Bool.and_eq_true, decide_eq_true_eq] at ht
    obtain ⟨p, q, h1, h2, rfl⟩ := h
    exact ⟨p, q, WideElems.Trod_stays hl ht.1.1 ht.1.2 h1 (fun x hx => hb.same (hlt x (by simp [hx]))) (fun x hx => hs x (by simp [hx])), trodAll_stays hl hb ht.2 h2 (fun x hx => hlt x (by simp [hx])) (fun x hx => hs x (by simp [hx])), rfl⟩
theorem law_post {f : Func} {s : ChangeSpec} {apart fresh handsOn again : Bool} {W W' : World} {args : Array Value} {ds : List (DataW H)} {p : List MemPlace} {tb : TypeId} (hl : laidOutB P = true) (hvars : s.vars = [])
    (hW : DataW.Whole enc P f.params.toList s.vars apart W args.toList ds [] p) (hA : DataW.TrodAll enc P W 0 (fun _ => true) true f.params.toList args.toList ds p)
    (ht : f.params.toList.all (fun t => P.readableRec t && decide (t < P.types.size)) = true) (hrt : f.resultTypes = #[tb]) (htb : P.underlying tb = some .bool) (hfn : s.fn H ds = { results := [.lit (.bool true)], args := ds }) (hb : Below W.heap.size W W') :
    s.post enc P f apart fresh handsOn again W args (.bool true) W' := by
  have hlt : ∀ q ∈ p, q.block < W.heap.size := fun q hq => hW.lt q hq
  have hold : ∀ q ∈ p, (fun b => decide (b < W.heap.size)) q.block = true := fun q hq => by simpa using hW.lt q hq
  have hres : ∀ (b : Nat) (sp : Nat → Bool) (hd : Bool), DataW.TrodAll enc P W' b sp hd f.resultTypes.toList ((Value.bool true).resultList f.resultTypes.size) (s.fn H (ds ++ [])).results [] := fun b sp hd => by
    rw [List.append_nil, hfn, hrt]
    exact ⟨[], [], shut_bool htb true, rfl, rfl⟩
  have hargs : ∀ sp : Nat → Bool, (∀ q ∈ p, sp q.block = true) → DataW.TrodAll enc P W' 0 sp true f.params.toList args.toList (s.fn H (ds ++ [])).args p := fun sp hs => by
    rw [List.append_nil, hfn]
    exact trodAll_stays hl hb ht hA (fun q hq => hW.lt q hq) hs
  have hv : ∀ sp : Nat → Bool, DataW.TrodVars enc P W' sp s.vars (s.fn H (ds ++ [])).vars [] := fun sp => by
    rw [List.append_nil, hfn, hvars]; exact rfl
  have hok : ∀ (j : Nat) (t : TypeId) (r : Value), f.resultTypes[j]? = some t → ((Value.bool true).resultList f.resultTypes.size)[j]? = some r → Value.okWide P W' .any 0 t r := ok_one (by rw [hrt]) rfl (okWide_bool_mk htb true)
  refine ⟨ds, [], p, [], p, [], hW, hres _ _ _, hargs _ hold, hv _, World.keptBut_mono (fun q hq => ⟨hq, by simpa using hq⟩) (hb.frame (· ∈ p)), fun _ => ?_⟩
  obtain ⟨_, _, _, _, _, hz, hn⟩ := hW
  refine ⟨hok, _, _, ([] ++ p) ++ [], ⟨[] ++ p, [], trodAll_append (hargs _ (fun _ _ => rfl)) (hres _ _ _), hv _, rfl, ?_, ?_⟩, ?_⟩
  · intro b off hp
    have hin : MemPlace.cell b off ∈ p := by simpa using hp
    rw [hb.frozen (hlt _ hin)]
    exact hz b off hin
  · intro ha
    have := hn ha
    simpa using this
  · intro q hq _
    simpa using hq
end
end Go.Proofs.YtljhdcclajikiaaGreatDoor
