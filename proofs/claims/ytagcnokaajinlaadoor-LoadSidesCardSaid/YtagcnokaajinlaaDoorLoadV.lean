/-
  The law function LoadRests.
-/
import Derived.Test.YtagcnokaajinlaaDoorLoadU
namespace Go.Proofs.YtagcnokaajinlaaDoor
set_option linter.all false
set_option linter.unusedVariables false
set_option linter.unusedSimpArgs false
open Go.RowKit
theorem great_no {np m : Nat} {l : Nat → Nat → Nat} (h : greatB np m l = false) : np ≤ 40 ∧ m ≤ 12 ∧ ∀ i, i < m → tot (l i) 3 ≤ 48 := by
  simp only [greatB, Bool.or_eq_false_iff, decide_eq_false_iff_not, anyB_false] at h
  refine ⟨by omega, by omega, fun i hi => ?_⟩
  have := h.2 i hi
  simp only [bigT, Bool.or_eq_false_iff, decide_eq_false_iff_not] at this
  rw [tot3]
  omega
theorem restK_form (p : Nat → Int) : ∃ x1 x2 y1 y2 z e : Int, restK p = [.agg #[.int .i64 x1, .int .i64 x2], .agg #[.int .i64 y1, .int .i64 y2], .int .u8 z, .int .i64 e] := by
  unfold restK
  split
  · exact ⟨_, _, _, _, _, _, rfl⟩
  · exact ⟨_, _, _, _, _, _, rfl⟩
set_option maxRecDepth 100000 in
set_option maxHeartbeats 4000000 in
theorem lawRests_any {w : World} {A AT AJ : Option Addr} {np m cp cpT nj cpJ : Nat} {p : Nat → Int} {pk jt : Nat → Nat → Int} {a : Nat → Nat → Option Addr} {l c : Nat → Nat → Nat} {v : Nat → Nat → Nat → Int} {days : Int}
    (hG : None0 w) (hR : RdR w 11 A np (fun k => packL (pk k))) (hT : RdR w 3 AT m (fun i => tieL (a i) (l i) (c i))) (hI : ∀ i, i < m → ∀ j, j < 3 → RdR w 1 (a i j) (l i j) (fun k => [.int .i64 (v i j k)])) (hJ : RdR w 2 AJ nj (fun k => spL (jt k 0) (jt k 1))) :
    Calls Tryd.prog 3 #[.agg (packL p).toArray, .slice A np cp, .slice AT m cpT, .slice AJ nj cpJ, .int .i64 days] w (Ret w (.bool true)) := by
  obtain ⟨x1, x2, y1, y2, z, e, he⟩ := restK_form p
  refine K_enter (S := []) (K := []) Tryd.func3 rfl Tryd.ntmps3 rfl (Sat.start _) ?_
  refine TW.seq fun Y1 hY1 => ?_
  refine TW.region ?_
  refine TL.m Mk.bx ?_
  intro b1
  refine TL.p Pu.as ?_
  refine TL.nil ?_
  refine TQ.thenN (hY1 _ _ ?_)
  refine TW.seq fun Y2 hY2 => ?_
  refine TW.seq fun Y3 hY3 => ?_
  refine TW.join [(36, .bool (greatB np m l || decide ((80 : Int) < (nj : Int))))] ?_ (fun hJ1 => ?_)
  · refine TQ.thenN (hY3 _ _ ?_)
    refine TW.cond rfl (fun hc0 => ?_) (fun hc0 => ?_)
    · try simp only [decide_eq_true_eq, decide_eq_false_iff_not, Bool.not_eq_true', Bool.not_eq_false', Bool.and_eq_true, Bool.or_eq_true, Bool.and_eq_false_iff, Bool.or_eq_false_iff, Int.not_lt, Int.not_le] at hc0
      refine TW.seq fun Y4 hY4 => ?_
      refine TW.region ?_
      refine TL.p Pu.as ?_
      refine TL.nil ?_
      refine TQ.thenN (hY4 _ _ ?_)
      refine TW.ret ?_
      refine TQ.thenR ?_
      refine TQ.ret Tryd.results3 rfl ((.tmp rfl .nil)) ?_
      exact fun w hw => Ret.of hw
    · try simp only [decide_eq_true_eq, decide_eq_false_iff_not, Bool.not_eq_true', Bool.not_eq_false', Bool.and_eq_true, Bool.or_eq_true, Bool.and_eq_false_iff, Bool.or_eq_false_iff, Int.not_lt, Int.not_le] at hc0
      have hno : greatB np m l = false ∧ ¬ (80 : Int) < (nj : Int) := by simpa using hc0
      obtain ⟨hgr, hnj⟩ := hno
      obtain ⟨hnp40, hm12, hl48⟩ := great_no hgr
      have hLay : Lay w A AT np m pk a l c v := ⟨hG, by omega, by omega, hR, hT, hI, fun i hi => by have := hl48 i hi; omega⟩
      have hjl0 : jn np pk m l v nj jt days ≤ 1000000 := by unfold jn; split <;> omega
      refine TW.skip ?_
      refine TQ.thenN (hY2 _ _ ?_)
      refine TW.seq fun Y5 hY5 => ?_
      refine TW.region ?_
      refine TL.m Mk.bl ?_
      intro b2
      refine TL.p Pu.mv ?_
      refine TL.subK (KSub.ofBlk (n := 0) (sz := 11) (r := fun _ => []) Pick.hd rfl (fun _ h => by omega) rfl rfl (KSub.cons Pick.hd KSub.nil)) ?_
      first | refine TL.a0 ty_et26 ?_ | refine TL.ap ty_et26 ?_
      intro A3 c3
      refine TL.p Pu.mv ?_
      refine TL.call (M := []) rfl (enters Tryd.func7 rfl rfl) (List.Perm.refl _) rfl (fun w hw => by
          exact twin_any (by omega) (fun i hi => by have := hl48 i hi; omega) (hT.sat hw Apart.nil) (fun i hi j hj => (hI i hi j hj).sat hw Apart.nil)) ?_
      rintro ⟨⟨At, ct⟩, b, d⟩
      refine TL.perm List.perm_append_comm ?_
      refine TL.m Mk.bl ?_
      intro b4
      refine TL.p Pu.mv ?_
      refine TL.ob (sz := 2) (r := fun _ => []) Pick.hd rfl ?_
      first | refine TL.a0 ty_et28 ?_ | refine TL.ap ty_et28 ?_
      intro A5 c5
      refine TL.p Pu.as ?_
      refine TL.p Pu.as ?_
      refine TL.p Pu.as ?_
      refine TL.nil ?_
      refine TQ.thenN (hY5 _ _ ?_)
      refine TW.seq fun Y6 hY6 => ?_
      refine TW.region ?_
      refine TL.p (Pu.lds ty_ag25) ?_
      refine TL.cr rfl (enters Tryd.func8 rfl rfl) (fun w hw => by
          have h9 := rest_any p w (hG.sat hw (by simp))
          rw [he] at h9
          exact h9) ?_
      refine TL.p Pu.mv ?_
      refine TL.p Pu.ex ?_
      refine TL.p Pu.ex ?_
      refine TL.p Pu.ex ?_
      refine TL.p Pu.ex ?_
      refine TL.m (Mk.al ty_zr23) ?_
      intro b6
      refine TL.m (Mk.al ty_zr23) ?_
      intro b7
      first | refine TL.st ty_sz23 ?_ | refine TL.se ty_sz23 ?_
      first | refine TL.st ty_sz23 ?_ | refine TL.se ty_sz23 ?_
      refine TL.p Pu.as ?_
      refine TL.p Pu.as ?_
      refine TL.nil ?_
      refine TQ.thenN (hY6 _ _ ?_)
      refine TW.seq fun Y7 hY7 => ?_
      refine TW.region ?_
      refine TL.p (Pu.lds ty_ag25) ?_
      refine TL.cr rfl (enters Tryd.func9 rfl rfl) (fun w hw => by
          have h9 := refRest_any p w
          rw [he] at h9
          exact h9) ?_
      refine TL.p Pu.mv ?_
      refine TL.p Pu.ex ?_
      refine TL.p Pu.ex ?_
      refine TL.p Pu.ex ?_
      refine TL.p Pu.ex ?_
      refine TL.m (Mk.al ty_zr23) ?_
      intro b8
      refine TL.m (Mk.al ty_zr23) ?_
      intro b9
      first | refine TL.st ty_sz23 ?_ | refine TL.se ty_sz23 ?_
      first | refine TL.st ty_sz23 ?_ | refine TL.se ty_sz23 ?_
      refine TL.p Pu.as ?_
      refine TL.p Pu.as ?_
      refine TL.nil ?_
      refine TQ.thenN (hY7 _ _ ?_)
      refine TW.seq fun Y8 hY8 => ?_
      refine TW.region ?_
      refine TL.p Pu.mv ?_
      refine TL.p Pu.mv ?_
      refine TL.p Pu.mv ?_
      refine TL.p Pu.mv ?_
      refine TL.call (M := []) rfl (enters Tryd.func10 rfl rfl) (List.Perm.refl _) rfl (fun w hw => by
          have hL2 := hLay.twin (b := b) (d := d) (A' := A3) (B' := At) (cp' := c3) (co' := ct) (E := 25) (E' := 59) rfl hw (by simp) (by simp) (fun φ hφ => by simp [hφ])
          exact loadJolted_any hL2 (OwnR.rdr (hw.holds (.own A5 nj c5 44 2 (fun k => spL (jt k 0) (jt k 1))) (by simp))) (by omega)) ?_
      rintro ⟨Al, cl⟩
      refine TL.p Pu.mv ?_
      refine TL.p Pu.ex ?_
      refine TL.p Pu.ex ?_
      refine TL.p Pu.as ?_
      refine TL.p Pu.as ?_
      refine TL.nil ?_
      refine TQ.thenN (hY8 _ _ ?_)
      refine TW.seq fun Y9 hY9 => ?_
      refine TW.region ?_
      refine TL.p Pu.mv ?_
      refine TL.p Pu.mv ?_
      refine TL.p Pu.mv ?_
      refine TL.p Pu.mv ?_
      refine TL.call (M := []) rfl (enters Tryd.func11 rfl rfl) (List.Perm.refl _) rfl (fun w hw => by
          exact refJolted_any (hLay.sat hw) (hJ.sat hw Apart.nil) (by omega)) ?_
      rintro ⟨Ar, cr⟩
      refine TL.p Pu.mv ?_
      refine TL.p Pu.ex ?_
      refine TL.p Pu.ex ?_
      refine TL.p Pu.as ?_
      refine TL.p Pu.as ?_
      refine TL.nil ?_
      refine TQ.thenN (hY9 _ _ ?_)
      refine TW.seq fun Y10 hY10 => ?_
      refine TW.region ?_
      refine TL.p (Pu.lds ty_ag23) ?_
      refine TL.p (Pu.lds ty_ag23) ?_
      refine TL.p (Pu.bn (r := .bool true) rfl rfl (fun w => by go_simp)) ?_
      refine TL.lit (t := 77) (b' := true) rfl (rfl) ?_
      refine TL.p Pu.mv ?_
      refine TL.gd (Pu.lds ty_ag23) ?_
      refine TL.gd (Pu.lds ty_ag23) ?_
      refine TL.gd (Pu.bn (r := .bool true) rfl rfl (fun w => by go_simp)) ?_
      refine TL.lit (t := 81) (b' := true) rfl (rfl) ?_
      refine TL.p Pu.kt ?_
      refine TL.p Pu.mv ?_
      refine TL.gd Pu.mv ?_
      refine TL.gd Pu.mv ?_
      refine TL.gd (Pu.bn (r := .bool true) rfl rfl (fun w => by go_simp)) ?_
      refine TL.lit (t := 86) (b' := true) rfl (rfl) ?_
      refine TL.p Pu.kt ?_
      refine TL.p Pu.mv ?_
      refine TL.gd Pu.mv ?_
      refine TL.gd Pu.mv ?_
      refine TL.gd (Pu.bn (r := .bool true) rfl rfl (fun w => by go_simp)) ?_
      refine TL.lit (t := 91) (b' := true) rfl (rfl) ?_
      refine TL.p Pu.kt ?_
      refine TL.p Pu.mv ?_
      refine TL.gd Pu.mv ?_
      refine TL.gd Pu.mv ?_
      refine TL.cr rfl (enters Tryd.func12 rfl rfl) (fun w hw => by
          have hjl : jn np pk m l v nj jt days ≤ 1000000000 := by unfold jn; split <;> omega
          first
            | exact samePacks_any (f := finF pk jt l v np nj days) hjl (OwnR.rdr (hw.holds (.own Al (jn np pk m l v nj jt days) cl 25 11 (fun q => packL (finF pk jt l v np nj days q))) (by simp))) (OwnR.rdr (hw.holds (.own Ar (jn np pk m l v nj jt days) cr 25 11 (fun q => packL (finF pk jt l v np nj days q))) (by simp)))
            | exact samePacks_any (f := pk) (by omega) (OwnR.rdr (hw.holds (.own A3 np c3 25 11 (fun q => packL (pk q))) (by simp))) (hR.sat hw Apart.nil)) ?_
      refine TL.p Pu.kt ?_
      refine TL.p Pu.mv ?_
      refine TL.gd Pu.mv ?_
      refine TL.gd Pu.mv ?_
      refine TL.gd (Pu.bn (r := .bool true) rfl rfl (fun w => by go_simp)) ?_
      refine TL.lit (t := 101) (b' := true) rfl (rfl) ?_
      refine TL.p Pu.kt ?_
      refine TL.p Pu.mv ?_
      refine TL.gd Pu.mv ?_
      refine TL.gd Pu.mv ?_
      refine TL.cr rfl (enters Tryd.func13 rfl rfl) (fun w hw => by
          have hL2 := hLay.twin (b := b) (d := d) (A' := A3) (B' := At) (cp' := c3) (co' := ct) (E := 25) (E' := 59) rfl hw (by simp) (by simp) (fun φ hφ => by simp [hφ])
          exact loadCheck_any hL2) ?_
      refine TL.gd Pu.mv ?_
      refine TL.gd Pu.mv ?_
      refine TL.cr rfl (enters Tryd.func14 rfl rfl) (fun w hw => by
          exact refCheck_any (hLay.sat hw)) ?_
      refine TL.gd (Pu.bn (r := .bool true) rfl rfl (fun w => by go_simp)) ?_
      refine TL.lit (t := 110) (b' := true) rfl (rfl) ?_
      refine TL.p Pu.kt ?_
      refine TL.p Pu.as ?_
      refine TL.nil ?_
      refine TQ.thenN (hY10 _ _ ?_)
      refine TW.seq fun Y11 hY11 => ?_
      refine TW.seq fun Y12 hY12 => ?_
      refine TW.region ?_
      refine TL.p Pu.mv ?_
      refine TL.p (Pu.ln Tryd.underlying26) ?_
      refine TL.p Pu.mv ?_
      refine TL.nil ?_
      refine TQ.thenN (hY12 _ _ ?_)
      refine TW.block ?_
      refine TW.loop2 (fun (k : Nat) (g : Nat → Nat → Int) => [(114, .int .i64 (k : Int)), (113, .int .i64 (jn np pk m l v nj jt days : Int)), (22, .slice Al (jn np pk m l v nj jt days) cl), (26, .bool true), (11, .slice A3 np c3), (12, .slice At m ct), (13, .slice A5 nj c5), (1, .slice A np cp), (2, .slice AT m cpT), (3, .slice AJ nj cpJ)]) (fun k g => .own Al (jn np pk m l v nj jt days) cl 25 11 (fun q => packL (g q)) :: .own A5 nj c5 44 2 (fun k => spL (jt k 0) (jt k 1)) :: .own A3 np c3 25 11 (fun q => packL (pk q)) :: .own At m ct 59 3 (fun i => tieL (b i) (l i) (d i)) :: innerK b l d v m) (fun k g => k ≤ jn np pk m l v nj jt days) (fun k g => jn np pk m l v nj jt days - k) 0 (finF pk jt l v np nj days) (by repeat (first | exact trivial | refine ⟨rfl, ?_⟩ | refine ⟨trivial, ?_⟩)) ?_ ?_ ?_
      · repeat (first | refine KSub.cons (by repeat (first | exact Pick.hd | apply Pick.tl)) ?_ | exact KSub.refl _ | refine KSub.drop ?_)
      · exact Nat.zero_le _
      rintro k g hk Z0 hZ0
      refine TW.seq fun Y13 hY13 => ?_
      refine TW.region ?_
      refine TL.p Pu.lt ?_
      refine TL.nil ?_
      refine TQ.thenN (hY13 _ _ ?_)
      refine TW.seq fun Y14 hY14 => ?_
      refine TW.cond rfl (fun hc1 => ?_) (fun hc1 => ?_)
      · try simp only [decide_eq_true_eq, decide_eq_false_iff_not, Bool.not_eq_true', Bool.not_eq_false', Bool.and_eq_true, Bool.or_eq_true, Bool.and_eq_false_iff, Bool.or_eq_false_iff, Int.not_lt, Int.not_le] at hc1
        refine TW.skip ?_
        refine TQ.thenN (hY14 _ _ ?_)
        refine TW.seq fun Y15 hY15 => ?_
        refine TW.block ?_
        refine TW.seq fun Y16 hY16 => ?_
        refine TW.region ?_
        refine TL.p Pu.mv ?_
        refine TL.p Pu.as ?_
        refine TL.nil ?_
        refine TQ.thenN (hY16 _ _ ?_)
        refine TW.region ?_
        refine TL.p Pu.mv ?_
        refine TL.p Pu.mv ?_
        refine TL.p (Pu.el ty_et26) ?_
        refine TL.p (by first | exact Pu.fb ty_fa25_6 | exact Pu.fe ty_fa25_6) ?_
        first | refine TL.st ty_sz3 ?_ | refine TL.se ty_sz3 ?_
        refine TL.nil ?_
        refine TQ.blkN ?_
        refine TQ.thenN (hY15 _ _ ?_)
        refine TW.region ?_
        refine TL.p Pu.ad ?_
        refine TL.p Pu.mv ?_
        refine TL.nil ?_
        refine TQ.thenN (hZ0 (k + 1) (fun q j => if q = k ∧ j = 10 then -7 else g q j) _ _ ?_ ?_ (by repeat (first | exact trivial | refine ⟨rfl, ?_⟩ | refine ⟨trivial, ?_⟩)) ?_)
        · exact (by omega)
        · exact (by first | omega | (simp only []; omega) | (simp; omega))
        · refine KSub.own Pick.hd (fun q _ => ?_) (KSub.refl _)
          unfold updR
          by_cases h : q = k
          · subst h; simp [packL]
          · simp [h, packL]
      · try simp only [decide_eq_true_eq, decide_eq_false_iff_not, Bool.not_eq_true', Bool.not_eq_false', Bool.and_eq_true, Bool.or_eq_true, Bool.and_eq_false_iff, Bool.or_eq_false_iff, Int.not_lt, Int.not_le] at hc1
        refine TW.exit ?_
        refine TQ.thenX ?_
        refine TQ.thenX ?_
        refine TQ.blkX ?_
        refine TQ.thenN (hY11 _ _ ?_)
        refine TW.seq fun Y17 hY17 => ?_
        refine TW.seq fun Y18 hY18 => ?_
        refine TW.region ?_
        refine TL.p Pu.mv ?_
        refine TL.p (Pu.ln Tryd.underlying28) ?_
        refine TL.p Pu.mv ?_
        refine TL.nil ?_
        refine TQ.thenN (hY18 _ _ ?_)
        refine TW.block ?_
        refine TW.loop1 (fun (k : Nat) => [(124, .int .i64 (k : Int)), (123, .int .i64 (nj : Int)), (26, .bool true), (11, .slice A3 np c3), (12, .slice At m ct), (13, .slice A5 nj c5), (1, .slice A np cp), (2, .slice AT m cpT), (3, .slice AJ nj cpJ)]) (fun k => .own A5 nj c5 44 2 (fun k => spL (jt k 0) (jt k 1)) :: .own A3 np c3 25 11 (fun q => packL (pk q)) :: .own At m ct 59 3 (fun i => tieL (b i) (l i) (d i)) :: innerK b l d v m) (fun k => k ≤ nj) (fun k => nj - k) 0 (by repeat (first | exact trivial | refine ⟨rfl, ?_⟩ | refine ⟨trivial, ?_⟩)) ?_ ?_ ?_
        · exact KSub.drop (KSub.refl _)
        · exact Nat.zero_le _
        rintro k hk2 Z1 hZ1
        refine TW.seq fun Y19 hY19 => ?_
        refine TW.region ?_
        refine TL.p Pu.lt ?_
        refine TL.nil ?_
        refine TQ.thenN (hY19 _ _ ?_)
        refine TW.seq fun Y20 hY20 => ?_
        refine TW.cond rfl (fun hc2 => ?_) (fun hc2 => ?_)
        · try simp only [decide_eq_true_eq, decide_eq_false_iff_not, Bool.not_eq_true', Bool.not_eq_false', Bool.and_eq_true, Bool.or_eq_true, Bool.and_eq_false_iff, Bool.or_eq_false_iff, Int.not_lt, Int.not_le] at hc2
          refine TW.skip ?_
          refine TQ.thenN (hY20 _ _ ?_)
          refine TW.seq fun Y21 hY21 => ?_
          refine TW.block ?_
          refine TW.seq fun Y22 hY22 => ?_
          refine TW.region ?_
          refine TL.p Pu.mv ?_
          refine TL.p Pu.as ?_
          refine TL.nil ?_
          refine TQ.thenN (hY22 _ _ ?_)
          refine TW.dw 13 ?_
          refine RK.tk Pu.mv ?_
          refine RK.tk Pu.mv ?_
          refine RK.tk Pu.mv ?_
          refine RK.tk Pu.mv ?_
          refine RK.tk (Pu.el ty_et28) ?_
          refine RK.tk (Pu.lds ty_ag44) ?_
          refine RK.tk Pu.mv ?_
          refine RK.tk Pu.mv ?_
          refine RK.tk (Pu.el ty_et28) ?_
          refine RK.tk (Pu.lds ty_ag44) ?_
          refine RK.tk (Pu.bn (r := .bool true) rfl rfl (fun w => by go_simp)) ?_
          refine RK.tk Pu.kt ?_
          refine RK.tk Pu.as ?_
          refine RK.ch [] ?_ trivial
          refine WK.n ?_
          refine TL.nil ?_
          refine TQ.blkN ?_
          refine TQ.thenN (hY21 _ _ ?_)
          refine TW.region ?_
          refine TL.p Pu.ad ?_
          refine TL.p Pu.mv ?_
          refine TL.nil ?_
          refine TQ.thenN (hZ1 (k + 1) _ _ ?_ ?_ (by repeat (first | exact trivial | refine ⟨rfl, ?_⟩ | refine ⟨trivial, ?_⟩)) ?_)
          · exact (by omega)
          · exact (by first | omega | (simp only []; omega) | (simp; omega))
          · exact KSub.refl _
        · try simp only [decide_eq_true_eq, decide_eq_false_iff_not, Bool.not_eq_true', Bool.not_eq_false', Bool.and_eq_true, Bool.or_eq_true, Bool.and_eq_false_iff, Bool.or_eq_false_iff, Int.not_lt, Int.not_le] at hc2
          refine TW.exit ?_
          refine TQ.thenX ?_
          refine TQ.thenX ?_
          refine TQ.blkX ?_
          refine TQ.thenN (hY17 _ _ ?_)
          refine TW.seq fun Y23 hY23 => ?_
          refine TW.region ?_
          refine TL.p Pu.mv ?_
          refine TL.p Pu.mv ?_
          refine TL.lit (t := 141) (b' := true) rfl (rfl) ?_
          refine TL.gd Pu.mv ?_
          refine TL.gd Pu.mv ?_
          refine TL.cr rfl (enters Tryd.func12 rfl rfl) (fun w hw => by
              have hjl : jn np pk m l v nj jt days ≤ 1000000000 := by unfold jn; split <;> omega
              first
                | exact samePacks_any (f := finF pk jt l v np nj days) hjl (OwnR.rdr (hw.holds (.own Al (jn np pk m l v nj jt days) cl 25 11 (fun q => packL (finF pk jt l v np nj days q))) (by simp))) (OwnR.rdr (hw.holds (.own Ar (jn np pk m l v nj jt days) cr 25 11 (fun q => packL (finF pk jt l v np nj days q))) (by simp)))
                | exact samePacks_any (f := pk) (by omega) (OwnR.rdr (hw.holds (.own A3 np c3 25 11 (fun q => packL (pk q))) (by simp))) (hR.sat hw Apart.nil)) ?_
          refine TL.p Pu.kt ?_
          refine TL.p Pu.mv ?_
          refine TL.gd Pu.mv ?_
          refine TL.gd Pu.mv ?_
          refine TL.cr rfl (enters Tryd.func15 rfl rfl) (fun w hw => by
              exact sameTies_any (by omega) (fun i hi => by have := hl48 i hi; omega) (OwnR.rdr (hw.holds (.own At m ct 59 3 (fun i => tieL (b i) (l i) (d i))) (by simp))) (hT.sat hw Apart.nil) (innerK_rd (b := b) (l := l) (d := d) (v := v) (m := m) hw (fun φ hφ => by simp [hφ])) (fun i hi j hj => (hI i hi j hj).sat hw Apart.nil)) ?_
          refine TL.p Pu.kt ?_
          refine TL.p Pu.as ?_
          refine TL.nil ?_
          refine TQ.thenN (hY23 _ _ ?_)
          refine TW.ret ?_
          refine TQ.ret Tryd.results3 rfl ((.tmp rfl .nil)) ?_
          exact fun w hw => Ret.of hw
  refine TW.region ?_
  refine TL.p Pu.mv ?_
  refine TL.p Pu.mv ?_
  refine TL.cr rfl (enters Tryd.func6 rfl rfl) (fun w hw => by
      exact great_any (hT.sat hw Apart.nil)) ?_
  refine TL.p Pu.mv ?_
  refine TL.guard (t := 32) rfl (fun hg1 => ?_) (fun hg1 => ?_)
  · refine TL.gs ?_
    refine TL.gs ?_
    refine TL.gs ?_
    refine TL.p Pu.kt ?_
    refine TL.nil ?_
    exact TQ.sub (by repeat (first | exact trivial | refine ⟨rfl, ?_⟩ | refine ⟨trivial, ?_⟩ | refine ⟨(by show some (Value.bool _) = some (Value.bool _); simp [hg1]), ?_⟩)) (by repeat (first | exact KSub.nil | refine KSub.cons (by repeat (first | exact Pick.hd | apply Pick.tl)) ?_)) hJ1
  · refine TL.gd Pu.mv ?_
    refine TL.gd (Pu.ln Tryd.underlying28) ?_
    refine TL.gd Pu.gt ?_
    refine TL.p Pu.kf ?_
    refine TL.nil ?_
    exact TQ.sub (by repeat (first | exact trivial | refine ⟨rfl, ?_⟩ | refine ⟨trivial, ?_⟩ | refine ⟨(by show some (Value.bool _) = some (Value.bool _); simp [hg1]), ?_⟩)) (by repeat (first | exact KSub.nil | refine KSub.cons (by repeat (first | exact Pick.hd | apply Pick.tl)) ?_)) hJ1
end Go.Proofs.YtagcnokaajinlaaDoor
