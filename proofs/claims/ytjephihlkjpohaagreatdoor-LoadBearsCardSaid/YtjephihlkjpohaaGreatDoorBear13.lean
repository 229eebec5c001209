/-
  The statement LoadBearsCardSaid: for every input the law LoadBears returns true, and its arguments read afterwards as before; load.none reads as the program's text lays it, by the tie that is given. No other condition.
-/
import Derived.Test.YtjephihlkjpohaaGreatDoorBear12
import Derived.Test.YtjephihlkjpohaaGreatDoorBear02
import Derived.ProofKit
import Derived.Deep.Slices
import Derived.Carry
import Derived.Test.YtjephihlkjpohaaGreatDoorBear04
import Derived.Test.YtjephihlkjpohaaGreatDoorRows
import Derived.LaidMore
import Derived.OpenShut
import Derived.Stop.Joined
import Derived.Test.YtjephihlkjpohaaGreatDoorBear10
import Derived.Test.YtjephihlkjpohaaGreatDoorTie
import Derived.Test.YtjephihlkjpohaaGreatDoorCards
import Derived.SevenTiedAt
namespace Go.Proofs.YtjephihlkjpohaaGreatDoor
set_option linter.all false
set_option linter.unusedVariables false
set_option linter.unusedSimpArgs false
open Go.RowKit
set_option maxRecDepth 100000 in
set_option maxHeartbeats 2000000 in
theorem lawBears_any {w : World} {A B : Option Addr} {np cp n cb : Nat} {pk : Nat → Nat → Int} {a : Nat → Option Addr} {l c : Nat → Nat} {v : Nat → Nat → Int} {u f g : Nat → Int} {m : Bool} {b : Int}
    (hG : None0 w) (hR : RdR w 11 A np (fun k => packL (pk k))) (hI : ∀ j, j < 3 → RdR w 1 (a j) (l j) (fun k => [.int .i64 (v j k)])) (hn : n ≤ cb) (hU : U32 n u) (hB : RdR w 1 B n (fun k => [.int .u32 (u k)])) :
    Calls Tryz.prog 9 #[.agg (breedL f).toArray, .agg (camL g m).toArray, .slice A np cp, .agg (tieL a l c).toArray, .int .i64 b, .slice B n cb] w (Ret w (.bool true)) := by
  refine K_enter (S := []) (K := []) Tryz.func9 rfl Tryz.ntmps9 rfl (Sat.start _) ?_
  refine TW.seq fun Y1 hY1 => ?_
  refine TW.region ?_
  refine TL.m Mk.bx ?_
  intro b1
  refine TL.m Mk.bx ?_
  intro b2
  refine TL.m Mk.bx ?_
  intro b3
  refine TL.p Pu.as ?_
  refine TL.nil ?_
  refine TQ.thenN (hY1 _ _ ?_)
  refine TW.seq fun Y2 hY2 => ?_
  refine TW.region ?_
  refine TL.cr rfl (enters Tryz.func21 rfl rfl) (fun w hw => by
      exact alive_any _ (hG.sat hw (by simp))) ?_
  refine TL.p Pu.as ?_
  refine TL.nil ?_
  refine TQ.thenN (hY2 _ _ ?_)
  refine TW.seq fun Y3 hY3 => ?_
  refine TW.seq fun Y4 hY4 => ?_
  refine TW.region ?_
  refine TL.p Pu.mv ?_
  refine TL.p (Pu.lds ty_ag36) ?_
  refine TL.m Mk.bl ?_
  intro b4
  refine TL.cr rfl (enters Tryz.func13 rfl rfl) (fun w hw => by
      exact great_any (m := 1) (a := fun _ => a) (l := fun _ => l) (c := fun _ => c) (RdR.blk (n := 1) (cs := tieL a l c) (E := 36) (hw.holds (.blk b4 36 (tieL a l c)) (by simp [tieL])) rfl (fun i _ => rfl))) ?_
  refine TL.p Pu.mv ?_
  refine TL.guard (t := 35) rfl (fun hg1 => ?_) (fun hg1 => ?_)
  · try simp only [decide_eq_true_eq, decide_eq_false_iff_not, Bool.not_eq_true', Bool.not_eq_false', Int.natCast_pos] at hg1
    refine TL.gs ?_
    refine TL.gs ?_
    refine TL.gs ?_
    refine TL.gs ?_
    refine TL.gs ?_
    refine TL.p Pu.kt ?_
    refine TL.p Pu.mv ?_
    refine TL.gs ?_
    refine TL.gs ?_
    refine TL.p Pu.kt ?_
    refine TL.nil ?_
    refine TQ.thenN (hY4 _ _ ?_)
    refine TW.condT rfl rfl ?_
    refine TW.seq fun Y5 hY5 => ?_
    refine TW.region ?_
    refine TL.p Pu.mv ?_
    refine TL.p Pu.as ?_
    refine TL.nil ?_
    refine TQ.thenN (hY5 _ _ ?_)
    refine TW.ret ?_
    refine TQ.thenR ?_
    refine TQ.ret Tryz.results9 rfl ((.tmp rfl .nil)) ?_
    refine fun w hw => ⟨?_, Chg.ext hw.chg⟩
    refine congrArg (fun b => Ending.returned (Value.bool b)) ?_
    first
      | rfl
      | (simp [r1, r2]; done)
      | (simp [r1, hA]; done)
      | (clear hw hR hI hB hU hG hsd k2 k3 hcat; first | (exfalso; omega) | (simp only [Bool.not_eq_true', Bool.and_eq_true, Bool.and_eq_false_iff, decide_eq_false_iff_not, decide_eq_true_eq, Bool.or_eq_true]; omega) | (simp; omega))
  · try simp only [decide_eq_true_eq, decide_eq_false_iff_not, Bool.not_eq_true', Bool.not_eq_false', Int.natCast_pos] at hg1
    have hno : greatB np 1 (fun _ => l) = false := hg1
    obtain ⟨hnp40, hm12, hl48⟩ := great_no hno
    have hl48 := hl48 0 (by omega)
    have hL : Lay1 w A np pk a l v := ⟨hG, by omega, hR, hI, by omega⟩
    refine TL.gd Pu.mv ?_
    refine TL.gd (Pu.lds ty_ag36) ?_
    refine TL.gm Mk.bl ?_
    intro b5
    refine TL.cr rfl (enters Tryz.func27 rfl rfl) (fun w hw => by
        exact refCheck1_any (E := 36) (c := c) (hL.ext (Chg.ext hw.chg)) (hw.holds (.blk b5 36 (tieL a l c)) (by simp [tieL]))) ?_
    refine TL.gd Pu.ne ?_
    refine TL.p Pu.kf ?_
    refine TL.p Pu.mv ?_
    refine TL.guard (t := 42) rfl (fun hg2 => ?_) (fun hg2 => ?_)
    · try simp only [decide_eq_true_eq, decide_eq_false_iff_not, Bool.not_eq_true', Bool.not_eq_false', Int.natCast_pos] at hg2
      refine TL.gs ?_
      refine TL.gs ?_
      refine TL.p Pu.kt ?_
      refine TL.nil ?_
      refine TQ.thenN (hY4 _ _ ?_)
      refine TW.condT rfl rfl ?_
      refine TW.seq fun Y6 hY6 => ?_
      refine TW.region ?_
      refine TL.p Pu.mv ?_
      refine TL.p Pu.as ?_
      refine TL.nil ?_
      refine TQ.thenN (hY6 _ _ ?_)
      refine TW.ret ?_
      refine TQ.thenR ?_
      refine TQ.ret Tryz.results9 rfl ((.tmp rfl .nil)) ?_
      refine fun w hw => ⟨?_, Chg.ext hw.chg⟩
      refine congrArg (fun b => Ending.returned (Value.bool b)) ?_
      first
        | rfl
        | (simp [r1, r2]; done)
        | (simp [r1, hA]; done)
        | (clear hw hR hI hB hU hG hsd k2 k3 hcat; first | (exfalso; omega) | (simp only [Bool.not_eq_true', Bool.and_eq_true, Bool.and_eq_false_iff, decide_eq_false_iff_not, decide_eq_true_eq, Bool.or_eq_true]; omega) | (simp; omega))
    · try simp only [decide_eq_true_eq, decide_eq_false_iff_not, Bool.not_eq_true', Bool.not_eq_false', Int.natCast_pos] at hg2
      refine TL.gd Pu.mv ?_
      refine TL.gd Pu.no ?_
      refine TL.p Pu.kf ?_
      refine TL.nil ?_
      refine TQ.thenN (hY4 _ _ ?_)
      refine TW.condF rfl rfl ?_
      refine TW.skip ?_
      refine TQ.thenN (hY3 _ _ ?_)
      refine TW.seq fun Y7 hY7 => ?_
      refine TW.region ?_
      have hc : check1 np pk l v = 0 := by simpa using hg2
      obtain ⟨L0, H0, L1, H1, La, Ha, hsd, t1, t2, a1, a2, a3, y1, y2, y3, y4, y5⟩ := bears_in (n := n) (u := u) (b := b) (f := f) (g := g) hc
      obtain ⟨k1, k2, k3, k4⟩ := check1_ok hc
      have hcat := inx_cat k3
      refine TL.p (Pu.lds ty_ag79) ?_
      refine TL.p (Pu.lds ty_ag81) ?_
      refine TL.cr rfl (enters Tryz.func34 rfl rfl) (fun w hw => by
          have h := carries_any f g m w; rw [carR_form] at h; exact h) ?_
      refine TL.p Pu.mv ?_
      refine TL.p Pu.ex ?_
      refine TL.p Pu.ex ?_
      refine TL.m (Mk.al ty_zr43) ?_
      intro b6
      first | refine TL.st ty_sz43 ?_ | refine TL.se ty_sz43 ?_
      refine TL.p Pu.as ?_
      refine TL.nil ?_
      refine TQ.thenN (hY7 _ _ ?_)
      refine TW.seq fun Y8 hY8 => ?_
      refine TW.region ?_
      refine TL.p (Pu.lds ty_ag79) ?_
      refine TL.p (Pu.lds ty_ag81) ?_
      refine TL.p Pu.mv ?_
      refine TL.p (Pu.lds ty_ag36) ?_
      refine TL.p Pu.mv ?_
      refine TL.cr rfl (enters Tryz.func35 rfl rfl) (fun w hw => by
          exact loadReady_any (hL.sat hw)) ?_
      refine TL.p Pu.mv ?_
      refine TL.p Pu.ex ?_
      refine TL.p Pu.ex ?_
      refine TL.p Pu.as ?_
      refine TL.p Pu.as ?_
      refine TL.nil ?_
      refine TQ.thenN (hY8 _ _ ?_)
      refine TW.seq fun Y9 hY9 => ?_
      refine TW.region ?_
      refine TL.p Pu.mv ?_
      refine TL.p (Pu.lds ty_ag36) ?_
      refine TL.p Pu.mv ?_
      refine TL.cr rfl (enters Tryz.func28 rfl rfl) (fun w hw => by
          exact loadBalance_any (hL.sat hw)) ?_
      refine TL.p Pu.mv ?_
      refine TL.p Pu.ex ?_
      refine TL.p Pu.ex ?_
      refine TL.p Pu.as ?_
      refine TL.p Pu.as ?_
      refine TL.nil ?_
      refine TQ.thenN (hY9 _ _ ?_)
      refine TW.seq fun Y10 hY10 => ?_
      refine TW.region ?_
      refine TL.p Pu.mv ?_
      refine TL.p (Pu.lds ty_ag36) ?_
      refine TL.cr rfl (enters Tryz.func33 rfl rfl) (fun w hw => by
          have h := loadSides_any (c := c) (cp := cp) (hL.sat hw); rw [hsd, hc] at h; exact h) ?_
      refine TL.p Pu.mv ?_
      refine TL.p Pu.ex ?_
      refine TL.p Pu.ex ?_
      refine TL.p Pu.ex ?_
      refine TL.p Pu.ex ?_
      refine TL.m (Mk.al ty_zr43) ?_
      intro b7
      refine TL.m (Mk.al ty_zr43) ?_
      intro b8
      refine TL.m (Mk.al ty_zr43) ?_
      intro b9
      first | refine TL.st ty_sz43 ?_ | refine TL.se ty_sz43 ?_
      first | refine TL.st ty_sz43 ?_ | refine TL.se ty_sz43 ?_
      first | refine TL.st ty_sz43 ?_ | refine TL.se ty_sz43 ?_
      refine TL.p Pu.as ?_
      refine TL.nil ?_
      refine TQ.thenN (hY10 _ _ ?_)
      refine TW.seq fun Y11 hY11 => ?_
      refine TW.seq fun Y12 hY12 => ?_
      refine TW.region ?_
      refine TL.p Pu.mv ?_
      refine TL.p Pu.ne ?_
      refine TL.nil ?_
      refine TQ.thenN (hY12 _ _ ?_)
      refine TW.cond rfl (fun hc1 => ?_) (fun hc1 => ?_)
      · try simp only [decide_eq_true_eq, decide_eq_false_iff_not, Bool.not_eq_true', Bool.not_eq_false', Bool.and_eq_true, Bool.or_eq_true, Bool.and_eq_false_iff, Bool.or_eq_false_iff, Int.not_lt, Int.not_le] at hc1
        have hE : camCode f g ≠ 0 := hc1
        obtain ⟨r1, r2⟩ := y1 hE
        refine TW.seq fun Y13 hY13 => ?_
        refine TW.region ?_
        refine TL.p Pu.mv ?_
        refine TL.p Pu.mv ?_
        refine TL.lit (t := 80) (b' := true) rfl (rfl) ?_
        refine TL.gd Pu.mv ?_
        refine TL.gd Pu.mv ?_
        refine TL.gd Pu.eq ?_
        refine TL.p Pu.kt ?_
        refine TL.p Pu.mv ?_
        refine TL.lit (t := 85) (b' := true) rfl ((by simp [r1])) ?_
        refine TL.gd Pu.mv ?_
        refine TL.gd Pu.eq ?_
        refine TL.p Pu.kt ?_
        refine TL.p Pu.as ?_
        refine TL.nil ?_
        refine TQ.thenN (hY13 _ _ ?_)
        refine TW.ret ?_
        refine TQ.thenR ?_
        refine TQ.ret Tryz.results9 rfl ((.tmp rfl .nil)) ?_
        refine fun w hw => ⟨?_, Chg.ext hw.chg⟩
        refine congrArg (fun b => Ending.returned (Value.bool b)) ?_
        first
          | rfl
          | (simp [r1, r2]; done)
          | (simp [r1, hA]; done)
          | (clear hw hR hI hB hU hG hsd k2 k3 hcat; first | (exfalso; omega) | (simp only [Bool.not_eq_true', Bool.and_eq_true, Bool.and_eq_false_iff, decide_eq_false_iff_not, decide_eq_true_eq, Bool.or_eq_true]; omega) | (simp; omega))
      · try simp only [decide_eq_true_eq, decide_eq_false_iff_not, Bool.not_eq_true', Bool.not_eq_false', Bool.and_eq_true, Bool.or_eq_true, Bool.and_eq_false_iff, Bool.or_eq_false_iff, Int.not_lt, Int.not_le] at hc1
        have hE : camCode f g = 0 := by simpa using hc1
        have r1 := y2 hE
        obtain ⟨cb1, cb2, cb3⟩ := car_in hE
        refine TW.skip ?_
        refine TQ.thenN (hY11 _ _ ?_)
        refine TW.seq fun Y14 hY14 => ?_
        refine TW.seq fun Y15 hY15 => ?_
        refine TW.region ?_
        refine TL.p Pu.mv ?_
        refine TL.p Pu.mv ?_
        refine TL.p Pu.ne ?_
        refine TL.p Pu.mv ?_
        refine TL.lit (t := 92) (b' := false) rfl ((by simp [r1])) ?_
        refine TL.gd Pu.mv ?_
        refine TL.gd Pu.ne ?_
        refine TL.p Pu.kf ?_
        refine TL.lit (t := 95) (b' := false) rfl ((by simp [r1])) ?_
        refine TL.nil ?_
        refine TQ.thenN (hY15 _ _ ?_)
        refine TW.condF rfl rfl ?_
        refine TW.skip ?_
        refine TQ.thenN (hY14 _ _ ?_)
        refine TW.seq fun Y16 hY16 => ?_
        refine TW.seq fun Y17 hY17 => ?_
        refine TW.region ?_
        refine TL.p Pu.mv ?_
        refine TL.p Pu.ne ?_
        refine TL.nil ?_
        refine TQ.thenN (hY17 _ _ ?_)
        refine TW.cond rfl (fun hc3 => ?_) (fun hc3 => ?_)
        · try simp only [decide_eq_true_eq, decide_eq_false_iff_not, Bool.not_eq_true', Bool.not_eq_false', Bool.and_eq_true, Bool.or_eq_true, Bool.and_eq_false_iff, Bool.or_eq_false_iff, Int.not_lt, Int.not_le] at hc3
          have hA : askedV np pk l v b = 2 := by omega
          refine TW.seq fun Y18 hY18 => ?_
          refine TW.region ?_
          refine TL.p Pu.mv ?_
          refine TL.p Pu.mv ?_
          refine TL.lit (t := 99) (b' := true) rfl (rfl) ?_
          refine TL.gd Pu.mv ?_
          refine TL.gd Pu.eq ?_
          refine TL.p Pu.kt ?_
          refine TL.p Pu.as ?_
          refine TL.nil ?_
          refine TQ.thenN (hY18 _ _ ?_)
          refine TW.ret ?_
          refine TQ.thenR ?_
          refine TQ.ret Tryz.results9 rfl ((.tmp rfl .nil)) ?_
          refine fun w hw => ⟨?_, Chg.ext hw.chg⟩
          refine congrArg (fun b => Ending.returned (Value.bool b)) ?_
          first
            | rfl
            | (simp [r1, r2]; done)
            | (simp [r1, hA]; done)
            | (clear hw hR hI hB hU hG hsd k2 k3 hcat; first | (exfalso; omega) | (simp only [Bool.not_eq_true', Bool.and_eq_true, Bool.and_eq_false_iff, decide_eq_false_iff_not, decide_eq_true_eq, Bool.or_eq_true]; omega) | (simp; omega))
        · try simp only [decide_eq_true_eq, decide_eq_false_iff_not, Bool.not_eq_true', Bool.not_eq_false', Bool.and_eq_true, Bool.or_eq_true, Bool.and_eq_false_iff, Bool.or_eq_false_iff, Int.not_lt, Int.not_le] at hc3
          have hA : askedV np pk l v b = 0 := by omega
          have r2 := y4 hE hA
          refine TW.skip ?_
          refine TQ.thenN (hY16 _ _ ?_)
          refine TW.seq fun Y19 hY19 => ?_
          refine TW.seq fun Y20 hY20 => ?_
          refine TW.region ?_
          refine TL.p (by first | exact Pu.fb ty_fa43_0 | exact Pu.fe ty_fa43_0) ?_
          refine TL.p (Pu.ld ty_sc3) ?_
          refine TL.p (by first | exact Pu.fb ty_fa43_1 | exact Pu.fe ty_fa43_1) ?_
          refine TL.p (Pu.ld ty_sc3) ?_
          refine TL.p Pu.gt ?_
          refine TL.nil ?_
          refine TQ.thenN (hY20 _ _ ?_)
          refine TW.condF rfl ((by simp; omega)) ?_
          refine TW.skip ?_
          refine TQ.thenN (hY19 _ _ ?_)
          refine TW.seq fun Y21 hY21 => ?_
          refine TW.region ?_
          refine TL.p Pu.as ?_
          refine TL.nil ?_
          refine TQ.thenN (hY21 _ _ ?_)
          refine TW.seq fun Y22 hY22 => ?_
          refine TW.seq fun Y23 hY23 => ?_
          refine TW.region ?_
          refine TL.p (Pu.lds ty_ag36) ?_
          refine TL.call (M := []) rfl (enters Tryz.func36 rfl rfl) (List.Perm.refl _) rfl (fun w hw => by
              have h9 := refList_any (a := a) (l := l) (c := c) (v := v) (by omega) (hL.sat hw).hI
              rw [catN_catI] at h9
              exact h9) ?_
          rintro ⟨Ac, cc⟩
          refine TL.p (Pu.ln Tryz.underlying24) ?_
          refine TL.p Pu.mv ?_
          refine TL.nil ?_
          refine TQ.thenN (hY23 _ _ ?_)
          refine TW.block ?_
          refine TW.loop2 (fun (k : Nat) (T : Int) => [(111, .int .i64 (k : Int)), (110, .int .i64 ((tot l 3 : Nat) : Int)), (109, .slice Ac (tot l 3) cc), (24, .int .i64 T), (2, .slice A np cp), (5, .slice B n cb), (13, .bool true), (14, .pointer (some ⟨b6, 0, none⟩)), (16, .int .u8 (readyR np pk l v b f g)), (18, .int .u8 (balR np pk l v b)), (22, .pointer (some ⟨b9, 0, none⟩))]) (fun k T => [.own Ac (tot l 3) cc 3 1 (fun k => [.int .i64 (catI l v k)]), .blk b6 43 [.int .i64 (canLo f g), .int .i64 (canHi f g)], .blk b9 43 [.int .i64 La, .int .i64 Ha]]) (fun k T => k ≤ tot l 3 ∧ T = trS pk n u 0 (catI l v) k) (fun k T => tot l 3 - k) 0 0 (by repeat (first | exact trivial | refine ⟨rfl, ?_⟩ | refine ⟨trivial, ?_⟩)) ?_ ?_ ?_
          · exact (by repeat (first | exact KSub.nil | refine KSub.cons (by repeat (first | exact Pick.hd | apply Pick.tl)) ?_))
          · exact ⟨Nat.zero_le _, rfl⟩
          rintro k T ⟨hk, hT⟩ Z0 hZ0
          refine TW.seq fun Y24 hY24 => ?_
          refine TW.region ?_
          refine TL.p Pu.lt ?_
          refine TL.nil ?_
          refine TQ.thenN (hY24 _ _ ?_)
          refine TW.seq fun Y25 hY25 => ?_
          refine TW.cond rfl (fun hc5 => ?_) (fun hc5 => ?_)
          · try simp only [decide_eq_true_eq, decide_eq_false_iff_not, Bool.not_eq_true', Bool.not_eq_false', Bool.and_eq_true, Bool.or_eq_true, Bool.and_eq_false_iff, Bool.or_eq_false_iff, Int.not_lt, Int.not_le] at hc5
            have hkl : k < tot l 3 := by omega
            have hin := hcat k hkl
            have hpk := k2 (catI l v k).toNat (by omega)
            have htr := tru_in (n := n) (u := u) (3 * k) hpk
            have hbd := trS_bd (n := n) (u := u) (i := 0) (v := catI l v) (k := k) k2 (by omega) (fun q hq => hcat q (by omega))
            have hT1 : 0 ≤ T ∧ T ≤ 1000000000000 := by rw [hT]; exact hbd
            refine TW.skip ?_
            refine TQ.thenN (hY25 _ _ ?_)
            refine TW.seq fun Y26 hY26 => ?_
            refine TW.block ?_
            refine TW.seq fun Y27 hY27 => ?_
            refine TW.region ?_
            refine TL.p Pu.mv ?_
            refine TL.p (Pu.el ty_et24) ?_
            refine TL.p (Pu.ld ty_sc3) ?_
            refine TL.p Pu.as ?_
            refine TL.p Pu.as ?_
            refine TL.nil ?_
            refine TQ.thenN (hY27 _ _ ?_)
            refine TW.seq fun Y28 hY28 => ?_
            refine TW.region ?_
            refine TL.p Pu.mv ?_
            refine TL.p Pu.mv ?_
            refine TL.p (Pu.el (q := (catI l v k).toNat) ty_et22 (hk := rfl)) ?_
            refine TL.p (Pu.lds ty_ag45) ?_
            refine TL.p Pu.mv ?_
            refine TL.p Pu.mv ?_
            refine TL.p Pu.ml ?_
            refine TL.cr rfl (enters Tryz.func24 rfl rfl) (fun w hw => by
                have h := truth_any (w := w) (A := B) (cp := cb) (3 * k) (by omega) hn hU hpk (hB.sat hw Apart.nil)
                rw [show ((3 * k : Nat) : Int) = 3 * (k : Int) by omega] at h
                exact h) ?_
            refine TL.p Pu.mv ?_
            refine TL.p Pu.ex ?_
            refine TL.p Pu.ex ?_
            refine TL.p Pu.as ?_
            refine TL.p Pu.as ?_
            refine TL.nil ?_
            refine TQ.thenN (hY28 _ _ ?_)
            refine TW.region ?_
            refine TL.p Pu.mv ?_
            refine TL.p Pu.mv ?_
            refine TL.p Pu.mv ?_
            refine TL.p Pu.sb ?_
            refine TL.p Pu.ad ?_
            refine TL.p Pu.as ?_
            refine TL.nil ?_
            refine TQ.blkN ?_
            refine TQ.thenN (hY26 _ _ ?_)
            refine TW.region ?_
            refine TL.p Pu.ad ?_
            refine TL.p Pu.mv ?_
            refine TL.nil ?_
            refine TQ.thenN (hZ0 (k + 1) (T + (1000 * truM (pk (catI l v k).toNat) n u (3 * k) - truL (pk (catI l v k).toNat) n u (3 * k))) _ _ ?_ ?_ (by repeat (first | exact trivial | refine ⟨rfl, ?_⟩ | refine ⟨trivial, ?_⟩)) ?_)
            · refine ⟨by omega, ?_⟩
              rw [trS_succ, ← hT, Nat.zero_add]
              rfl
            · exact (by first | omega | (simp only []; omega) | (simp; omega))
            · exact (by repeat (first | exact KSub.nil | refine KSub.cons (by repeat (first | exact Pick.hd | apply Pick.tl)) ?_))
          · try simp only [decide_eq_true_eq, decide_eq_false_iff_not, Bool.not_eq_true', Bool.not_eq_false', Bool.and_eq_true, Bool.or_eq_true, Bool.and_eq_false_iff, Bool.or_eq_false_iff, Int.not_lt, Int.not_le] at hc5
            obtain rfl : k = tot l 3 := by omega
            have hT2 : T ≤ 1000 * Ha := by rw [hT]; exact t2
            have hst := insV_in (c := chU n u 40) cb2
            obtain ⟨z1, z2, z3, z4, z5⟩ := ready_in (wl := La) hT2 y5 hst
            rw [← r2] at z1 z2 z3 z4 z5
            refine TW.exit ?_
            refine TQ.thenX ?_
            refine TQ.thenX ?_
            refine TQ.blkX ?_
            refine TQ.thenN (hY22 _ _ ?_)
            refine TW.seq fun Y29 hY29 => ?_
            refine TW.dw 5 ?_
            refine RK.tk (Pu.lds ty_ag43) ?_
            refine RK.tk Pu.mv ?_
            refine RK.keep ?_
            refine RK.keep ?_
            refine RK.keep ?_
            refine RK.ch [false, false, true] ?_ trivial
            refine WK.cr rfl (enters Tryz.func26 rfl rfl) (fun w hw => by
                exact choose_any 40 (by omega) hn (hB.sat hw Apart.nil)) ?_
            refine WK.cr rfl (enters Tryz.func25 rfl rfl) (fun w hw => by
                exact inside_any (by omega) (chU_in hU 40)) ?_
            refine WK.p Pu.as ?_
            refine WK.n ?_
            refine TL.nil ?_
            refine TQ.thenN (hY29 _ _ ?_)
            refine TW.seq fun Y30 hY30 => ?_
            refine TW.seq fun Y31 hY31 => ?_
            refine TW.region ?_
            refine TL.p Pu.mv ?_
            refine TL.p Pu.eq ?_
            refine TL.p Pu.mv ?_
            refine TL.guard (t := 139) rfl (fun hg3 => ?_) (fun hg3 => ?_)
            · try simp only [decide_eq_true_eq, decide_eq_false_iff_not, Bool.not_eq_true', Bool.not_eq_false', Int.natCast_pos] at hg3
              refine TL.gd Pu.mv ?_
              refine TL.gd Pu.mv ?_
              refine TL.gd Pu.ml ?_
              refine TL.gd Pu.gt ?_
              refine TL.gd Pu.mv ?_
              refine TL.guard (t := 144) rfl (fun hg4 => ?_) (fun hg4 => ?_)
              · try simp only [decide_eq_true_eq, decide_eq_false_iff_not, Bool.not_eq_true', Bool.not_eq_false', Int.natCast_pos] at hg4
                refine TL.gs ?_
                refine TL.gs ?_
                refine TL.gd Pu.kt ?_
                refine TL.p Pu.kt ?_
                refine TL.nil ?_
                refine TQ.thenN (hY31 _ _ ?_)
                refine TW.condT rfl rfl ?_
                refine TW.seq fun Y32 hY32 => ?_
                refine TW.region ?_
                refine TL.p Pu.as ?_
                refine TL.nil ?_
                refine TQ.thenN (hY32 _ _ ?_)
                refine TW.ret ?_
                refine TQ.thenR ?_
                refine TQ.ret Tryz.results9 rfl ((.tmp rfl .nil)) ?_
                refine fun w hw => ⟨?_, Chg.ext hw.chg⟩
                refine congrArg (fun b => Ending.returned (Value.bool b)) ?_
                first
                  | rfl
                  | (simp [r1, r2]; done)
                  | (simp [r1, hA]; done)
                  | (clear hw hR hI hB hU hG hsd k2 k3 hcat; first | (exfalso; omega) | (simp only [Bool.not_eq_true', Bool.and_eq_true, Bool.and_eq_false_iff, decide_eq_false_iff_not, decide_eq_true_eq, Bool.or_eq_true]; omega) | (simp; omega))
              · try simp only [decide_eq_true_eq, decide_eq_false_iff_not, Bool.not_eq_true', Bool.not_eq_false', Int.natCast_pos] at hg4
                refine TL.gd Pu.mv ?_
                refine TL.gd Pu.ne ?_
                refine TL.gd Pu.kf ?_
                refine TL.p Pu.kt ?_
                refine TL.nil ?_
                refine TQ.thenN (hY31 _ _ ?_)
                refine TW.cond rfl (fun hc6 => ?_) (fun hc6 => ?_)
                · try simp only [decide_eq_true_eq, decide_eq_false_iff_not, Bool.not_eq_true', Bool.not_eq_false', Bool.and_eq_true, Bool.or_eq_true, Bool.and_eq_false_iff, Bool.or_eq_false_iff, Int.not_lt, Int.not_le] at hc6
                  refine TW.seq fun Y33 hY33 => ?_
                  refine TW.region ?_
                  refine TL.p Pu.as ?_
                  refine TL.nil ?_
                  refine TQ.thenN (hY33 _ _ ?_)
                  refine TW.ret ?_
                  refine TQ.thenR ?_
                  refine TQ.ret Tryz.results9 rfl ((.tmp rfl .nil)) ?_
                  refine fun w hw => ⟨?_, Chg.ext hw.chg⟩
                  refine congrArg (fun b => Ending.returned (Value.bool b)) ?_
                  first
                    | rfl
                    | (simp [r1, r2]; done)
                    | (simp [r1, hA]; done)
                    | (clear hw hR hI hB hU hG hsd k2 k3 hcat; first | (exfalso; omega) | (simp only [Bool.not_eq_true', Bool.and_eq_true, Bool.and_eq_false_iff, decide_eq_false_iff_not, decide_eq_true_eq, Bool.or_eq_true]; omega) | (simp; omega))
                · try simp only [decide_eq_true_eq, decide_eq_false_iff_not, Bool.not_eq_true', Bool.not_eq_false', Bool.and_eq_true, Bool.or_eq_true, Bool.and_eq_false_iff, Bool.or_eq_false_iff, Int.not_lt, Int.not_le] at hc6
                  refine TW.skip ?_
                  refine TQ.thenN (hY30 _ _ ?_)
                  refine TW.seq fun Y34 hY34 => ?_
                  refine TW.region ?_
                  refine TL.p Pu.mv ?_
                  refine TL.p Pu.mv ?_
                  refine TL.lit (t := 150) (b' := true) rfl (rfl) ?_
                  refine TL.gd Pu.mv ?_
                  refine TL.gd Pu.le ?_
                  refine TL.p Pu.kt ?_
                  refine TL.p Pu.mv ?_
                  refine TL.lit (t := 154) (b' := true) rfl ((by simp; omega)) ?_
                  refine TL.gd Pu.mv ?_
                  refine TL.gd Pu.ne ?_
                  refine TL.gd Pu.mv ?_
                  refine TL.guard (t := 157) rfl (fun hg5 => ?_) (fun hg5 => ?_)
                  · try simp only [decide_eq_true_eq, decide_eq_false_iff_not, Bool.not_eq_true', Bool.not_eq_false', Int.natCast_pos] at hg5
                    refine TL.gs ?_
                    refine TL.gs ?_
                    refine TL.gd Pu.kt ?_
                    refine TL.gd Pu.mv ?_
                    refine TL.gs ?_
                    refine TL.gs ?_
                    refine TL.gs ?_
                    refine TL.gs ?_
                    refine TL.gs ?_
                    refine TL.gd Pu.kt ?_
                    refine TL.p Pu.kt ?_
                    refine TL.p Pu.mv ?_
                    refine TL.gd Pu.mv ?_
                    refine TL.gd Pu.ne ?_
                    refine TL.gd Pu.mv ?_
                    refine TL.guard (t := 172) rfl (fun hg6 => ?_) (fun hg6 => ?_)
                    · try simp only [decide_eq_true_eq, decide_eq_false_iff_not, Bool.not_eq_true', Bool.not_eq_false', Int.natCast_pos] at hg6
                      refine TL.gs ?_
                      refine TL.gs ?_
                      refine TL.gd Pu.kt ?_
                      refine TL.p Pu.kt ?_
                      refine TL.p Pu.as ?_
                      refine TL.nil ?_
                      refine TQ.thenN (hY34 _ _ ?_)
                      refine TW.ret ?_
                      refine TQ.ret Tryz.results9 rfl ((.tmp rfl .nil)) ?_
                      refine fun w hw => ⟨?_, Chg.ext hw.chg⟩
                      refine congrArg (fun b => Ending.returned (Value.bool b)) ?_
                      first
                        | rfl
                        | (simp [r1, r2]; done)
                        | (simp [r1, hA]; done)
                        | (clear hw hR hI hB hU hG hsd k2 k3 hcat; first | (exfalso; omega) | (simp only [Bool.not_eq_true', Bool.and_eq_true, Bool.and_eq_false_iff, decide_eq_false_iff_not, decide_eq_true_eq, Bool.or_eq_true]; omega) | (simp; omega))
                    · try simp only [decide_eq_true_eq, decide_eq_false_iff_not, Bool.not_eq_true', Bool.not_eq_false', Int.natCast_pos] at hg6
                      refine TL.gd Pu.mv ?_
                      refine TL.gd Pu.ne ?_
                      refine TL.gd Pu.kf ?_
                      refine TL.p Pu.kt ?_
                      refine TL.p Pu.as ?_
                      refine TL.nil ?_
                      refine TQ.thenN (hY34 _ _ ?_)
                      refine TW.ret ?_
                      refine TQ.ret Tryz.results9 rfl ((.tmp rfl .nil)) ?_
                      refine fun w hw => ⟨?_, Chg.ext hw.chg⟩
                      refine congrArg (fun b => Ending.returned (Value.bool b)) ?_
                      first
                        | rfl
                        | (simp [r1, r2]; done)
                        | (simp [r1, hA]; done)
                        | (clear hw hR hI hB hU hG hsd k2 k3 hcat; first | (exfalso; omega) | (simp only [Bool.not_eq_true', Bool.and_eq_true, Bool.and_eq_false_iff, decide_eq_false_iff_not, decide_eq_true_eq, Bool.or_eq_true]; omega) | (simp; omega))
                  · try simp only [decide_eq_true_eq, decide_eq_false_iff_not, Bool.not_eq_true', Bool.not_eq_false', Int.natCast_pos] at hg5
                    refine TL.gd Pu.mv ?_
                    refine TL.gd Pu.eq ?_
                    refine TL.gd Pu.kf ?_
                    refine TL.gd Pu.mv ?_
                    refine TL.guard (t := 161) rfl (fun hg7 => ?_) (fun hg7 => ?_)
                    · try simp only [decide_eq_true_eq, decide_eq_false_iff_not, Bool.not_eq_true', Bool.not_eq_false', Int.natCast_pos] at hg7
                      refine TL.gs ?_
                      refine TL.gs ?_
                      refine TL.gs ?_
                      refine TL.gs ?_
                      refine TL.gs ?_
                      refine TL.gd Pu.kt ?_
                      refine TL.p Pu.kt ?_
                      refine TL.p Pu.mv ?_
                      refine TL.gd Pu.mv ?_
                      refine TL.gd Pu.ne ?_
                      refine TL.gd Pu.mv ?_
                      refine TL.guard (t := 172) rfl (fun hg8 => ?_) (fun hg8 => ?_)
                      · try simp only [decide_eq_true_eq, decide_eq_false_iff_not, Bool.not_eq_true', Bool.not_eq_false', Int.natCast_pos] at hg8
                        refine TL.gs ?_
                        refine TL.gs ?_
                        refine TL.gd Pu.kt ?_
                        refine TL.p Pu.kt ?_
                        refine TL.p Pu.as ?_
                        refine TL.nil ?_
                        refine TQ.thenN (hY34 _ _ ?_)
                        refine TW.ret ?_
                        refine TQ.ret Tryz.results9 rfl ((.tmp rfl .nil)) ?_
                        refine fun w hw => ⟨?_, Chg.ext hw.chg⟩
                        refine congrArg (fun b => Ending.returned (Value.bool b)) ?_
                        first
                          | rfl
                          | (simp [r1, r2]; done)
                          | (simp [r1, hA]; done)
                          | (clear hw hR hI hB hU hG hsd k2 k3 hcat; first | (exfalso; omega) | (simp only [Bool.not_eq_true', Bool.and_eq_true, Bool.and_eq_false_iff, decide_eq_false_iff_not, decide_eq_true_eq, Bool.or_eq_true]; omega) | (simp; omega))
                      · try simp only [decide_eq_true_eq, decide_eq_false_iff_not, Bool.not_eq_true', Bool.not_eq_false', Int.natCast_pos] at hg8
                        refine TL.gd Pu.mv ?_
                        refine TL.gd Pu.ne ?_
                        refine TL.gd Pu.kf ?_
                        refine TL.p Pu.kt ?_
                        refine TL.p Pu.as ?_
                        refine TL.nil ?_
                        refine TQ.thenN (hY34 _ _ ?_)
                        refine TW.ret ?_
                        refine TQ.ret Tryz.results9 rfl ((.tmp rfl .nil)) ?_
                        refine fun w hw => ⟨?_, Chg.ext hw.chg⟩
                        refine congrArg (fun b => Ending.returned (Value.bool b)) ?_
                        first
                          | rfl
                          | (simp [r1, r2]; done)
                          | (simp [r1, hA]; done)
                          | (clear hw hR hI hB hU hG hsd k2 k3 hcat; first | (exfalso; omega) | (simp only [Bool.not_eq_true', Bool.and_eq_true, Bool.and_eq_false_iff, decide_eq_false_iff_not, decide_eq_true_eq, Bool.or_eq_true]; omega) | (simp; omega))
                    · try simp only [decide_eq_true_eq, decide_eq_false_iff_not, Bool.not_eq_true', Bool.not_eq_false', Int.natCast_pos] at hg7
                      refine TL.gd (by first | exact Pu.fb ty_fa43_0 | exact Pu.fe ty_fa43_0) ?_
                      refine TL.gd (Pu.ld ty_sc3) ?_
                      refine TL.gd (by first | exact Pu.fb ty_fa43_1 | exact Pu.fe ty_fa43_1) ?_
                      refine TL.gd (Pu.ld ty_sc3) ?_
                      refine TL.gd Pu.gt ?_
                      refine TL.gd Pu.kf ?_
                      refine TL.p Pu.kt ?_
                      refine TL.p Pu.mv ?_
                      refine TL.guard (t := 169) rfl (fun hg9 => ?_) (fun hg9 => ?_)
                      · try simp only [decide_eq_true_eq, decide_eq_false_iff_not, Bool.not_eq_true', Bool.not_eq_false', Int.natCast_pos] at hg9
                        refine TL.gd Pu.mv ?_
                        refine TL.gd Pu.ne ?_
                        refine TL.gd Pu.mv ?_
                        refine TL.guard (t := 172) rfl (fun hg10 => ?_) (fun hg10 => ?_)
                        · try simp only [decide_eq_true_eq, decide_eq_false_iff_not, Bool.not_eq_true', Bool.not_eq_false', Int.natCast_pos] at hg10
                          refine TL.gs ?_
                          refine TL.gs ?_
                          refine TL.gd Pu.kt ?_
                          refine TL.p Pu.kt ?_
                          refine TL.p Pu.as ?_
                          refine TL.nil ?_
                          refine TQ.thenN (hY34 _ _ ?_)
                          refine TW.ret ?_
                          refine TQ.ret Tryz.results9 rfl ((.tmp rfl .nil)) ?_
                          refine fun w hw => ⟨?_, Chg.ext hw.chg⟩
                          refine congrArg (fun b => Ending.returned (Value.bool b)) ?_
                          first
                            | rfl
                            | (simp [r1, r2]; done)
                            | (simp [r1, hA]; done)
                            | (clear hw hR hI hB hU hG hsd k2 k3 hcat; first | (exfalso; omega) | (simp only [Bool.not_eq_true', Bool.and_eq_true, Bool.and_eq_false_iff, decide_eq_false_iff_not, decide_eq_true_eq, Bool.or_eq_true]; omega) | (simp; omega))
                        · try simp only [decide_eq_true_eq, decide_eq_false_iff_not, Bool.not_eq_true', Bool.not_eq_false', Int.natCast_pos] at hg10
                          refine TL.gd Pu.mv ?_
                          refine TL.gd Pu.ne ?_
                          refine TL.gd Pu.kf ?_
                          refine TL.p Pu.kt ?_
                          refine TL.p Pu.as ?_
                          refine TL.nil ?_
                          refine TQ.thenN (hY34 _ _ ?_)
                          refine TW.ret ?_
                          refine TQ.ret Tryz.results9 rfl ((.tmp rfl .nil)) ?_
                          refine fun w hw => ⟨?_, Chg.ext hw.chg⟩
                          refine congrArg (fun b => Ending.returned (Value.bool b)) ?_
                          first
                            | rfl
                            | (simp [r1, r2]; done)
                            | (simp [r1, hA]; done)
                            | (clear hw hR hI hB hU hG hsd k2 k3 hcat; first | (exfalso; omega) | (simp only [Bool.not_eq_true', Bool.and_eq_true, Bool.and_eq_false_iff, decide_eq_false_iff_not, decide_eq_true_eq, Bool.or_eq_true]; omega) | (simp; omega))
                      · try simp only [decide_eq_true_eq, decide_eq_false_iff_not, Bool.not_eq_true', Bool.not_eq_false', Int.natCast_pos] at hg9
                        refine TL.gs ?_
                        refine TL.gs ?_
                        refine TL.gs ?_
                        refine TL.gs ?_
                        refine TL.gs ?_
                        refine TL.gs ?_
                        refine TL.p Pu.kf ?_
                        refine TL.p Pu.as ?_
                        refine TL.nil ?_
                        refine TQ.thenN (hY34 _ _ ?_)
                        refine TW.ret ?_
                        refine TQ.ret Tryz.results9 rfl ((.tmp rfl .nil)) ?_
                        refine fun w hw => ⟨?_, Chg.ext hw.chg⟩
                        refine congrArg (fun b => Ending.returned (Value.bool b)) ?_
                        first
                          | rfl
                          | (simp [r1, r2]; done)
                          | (simp [r1, hA]; done)
                          | (clear hw hR hI hB hU hG hsd k2 k3 hcat; first | (exfalso; omega) | (simp only [Bool.not_eq_true', Bool.and_eq_true, Bool.and_eq_false_iff, decide_eq_false_iff_not, decide_eq_true_eq, Bool.or_eq_true]; omega) | (simp; omega))
            · try simp only [decide_eq_true_eq, decide_eq_false_iff_not, Bool.not_eq_true', Bool.not_eq_false', Int.natCast_pos] at hg3
              refine TL.gs ?_
              refine TL.gs ?_
              refine TL.gs ?_
              refine TL.gs ?_
              refine TL.gs ?_
              refine TL.gs ?_
              refine TL.gs ?_
              refine TL.gs ?_
              refine TL.p Pu.kf ?_
              refine TL.nil ?_
              refine TQ.thenN (hY31 _ _ ?_)
              refine TW.condF rfl rfl ?_
              refine TW.skip ?_
              refine TQ.thenN (hY30 _ _ ?_)
              refine TW.seq fun Y35 hY35 => ?_
              refine TW.region ?_
              refine TL.p Pu.mv ?_
              refine TL.p Pu.mv ?_
              refine TL.lit (t := 150) (b' := true) rfl (rfl) ?_
              refine TL.gd Pu.mv ?_
              refine TL.gd Pu.le ?_
              refine TL.p Pu.kt ?_
              refine TL.p Pu.mv ?_
              refine TL.lit (t := 154) (b' := true) rfl ((by simp; omega)) ?_
              refine TL.gd Pu.mv ?_
              refine TL.gd Pu.ne ?_
              refine TL.gd Pu.mv ?_
              refine TL.guard (t := 157) rfl (fun hg11 => ?_) (fun hg11 => ?_)
              · try simp only [decide_eq_true_eq, decide_eq_false_iff_not, Bool.not_eq_true', Bool.not_eq_false', Int.natCast_pos] at hg11
                refine TL.gs ?_
                refine TL.gs ?_
                refine TL.gd Pu.kt ?_
                refine TL.gd Pu.mv ?_
                refine TL.gs ?_
                refine TL.gs ?_
                refine TL.gs ?_
                refine TL.gs ?_
                refine TL.gs ?_
                refine TL.gd Pu.kt ?_
                refine TL.p Pu.kt ?_
                refine TL.p Pu.mv ?_
                refine TL.gd Pu.mv ?_
                refine TL.gd Pu.ne ?_
                refine TL.gd Pu.mv ?_
                refine TL.guard (t := 172) rfl (fun hg12 => ?_) (fun hg12 => ?_)
                · try simp only [decide_eq_true_eq, decide_eq_false_iff_not, Bool.not_eq_true', Bool.not_eq_false', Int.natCast_pos] at hg12
                  refine TL.gs ?_
                  refine TL.gs ?_
                  refine TL.gd Pu.kt ?_
                  refine TL.p Pu.kt ?_
                  refine TL.p Pu.as ?_
                  refine TL.nil ?_
                  refine TQ.thenN (hY35 _ _ ?_)
                  refine TW.ret ?_
                  refine TQ.ret Tryz.results9 rfl ((.tmp rfl .nil)) ?_
                  refine fun w hw => ⟨?_, Chg.ext hw.chg⟩
                  refine congrArg (fun b => Ending.returned (Value.bool b)) ?_
                  first
                    | rfl
                    | (simp [r1, r2]; done)
                    | (simp [r1, hA]; done)
                    | (clear hw hR hI hB hU hG hsd k2 k3 hcat; first | (exfalso; omega) | (simp only [Bool.not_eq_true', Bool.and_eq_true, Bool.and_eq_false_iff, decide_eq_false_iff_not, decide_eq_true_eq, Bool.or_eq_true]; omega) | (simp; omega))
                · try simp only [decide_eq_true_eq, decide_eq_false_iff_not, Bool.not_eq_true', Bool.not_eq_false', Int.natCast_pos] at hg12
                  refine TL.gd Pu.mv ?_
                  refine TL.gd Pu.ne ?_
                  refine TL.gd Pu.kf ?_
                  refine TL.p Pu.kt ?_
                  refine TL.p Pu.as ?_
                  refine TL.nil ?_
                  refine TQ.thenN (hY35 _ _ ?_)
                  refine TW.ret ?_
                  refine TQ.ret Tryz.results9 rfl ((.tmp rfl .nil)) ?_
                  refine fun w hw => ⟨?_, Chg.ext hw.chg⟩
                  refine congrArg (fun b => Ending.returned (Value.bool b)) ?_
                  first
                    | rfl
                    | (simp [r1, r2]; done)
                    | (simp [r1, hA]; done)
                    | (clear hw hR hI hB hU hG hsd k2 k3 hcat; first | (exfalso; omega) | (simp only [Bool.not_eq_true', Bool.and_eq_true, Bool.and_eq_false_iff, decide_eq_false_iff_not, decide_eq_true_eq, Bool.or_eq_true]; omega) | (simp; omega))
              · try simp only [decide_eq_true_eq, decide_eq_false_iff_not, Bool.not_eq_true', Bool.not_eq_false', Int.natCast_pos] at hg11
                refine TL.gd Pu.mv ?_
                refine TL.gd Pu.eq ?_
                refine TL.gd Pu.kf ?_
                refine TL.gd Pu.mv ?_
                refine TL.guard (t := 161) rfl (fun hg13 => ?_) (fun hg13 => ?_)
                · try simp only [decide_eq_true_eq, decide_eq_false_iff_not, Bool.not_eq_true', Bool.not_eq_false', Int.natCast_pos] at hg13
                  refine TL.gs ?_
                  refine TL.gs ?_
                  refine TL.gs ?_
                  refine TL.gs ?_
                  refine TL.gs ?_
                  refine TL.gd Pu.kt ?_
                  refine TL.p Pu.kt ?_
                  refine TL.p Pu.mv ?_
                  refine TL.gd Pu.mv ?_
                  refine TL.gd Pu.ne ?_
                  refine TL.gd Pu.mv ?_
                  refine TL.guard (t := 172) rfl (fun hg14 => ?_) (fun hg14 => ?_)
                  · try simp only [decide_eq_true_eq, decide_eq_false_iff_not, Bool.not_eq_true', Bool.not_eq_false', Int.natCast_pos] at hg14
                    refine TL.gs ?_
                    refine TL.gs ?_
                    refine TL.gd Pu.kt ?_
                    refine TL.p Pu.kt ?_
                    refine TL.p Pu.as ?_
                    refine TL.nil ?_
                    refine TQ.thenN (hY35 _ _ ?_)
                    refine TW.ret ?_
                    refine TQ.ret Tryz.results9 rfl ((.tmp rfl .nil)) ?_
                    refine fun w hw => ⟨?_, Chg.ext hw.chg⟩
                    refine congrArg (fun b => Ending.returned (Value.bool b)) ?_
                    first
                      | rfl
                      | (simp [r1, r2]; done)
                      | (simp [r1, hA]; done)
                      | (clear hw hR hI hB hU hG hsd k2 k3 hcat; first | (exfalso; omega) | (simp only [Bool.not_eq_true', Bool.and_eq_true, Bool.and_eq_false_iff, decide_eq_false_iff_not, decide_eq_true_eq, Bool.or_eq_true]; omega) | (simp; omega))
                  · try simp only [decide_eq_true_eq, decide_eq_false_iff_not, Bool.not_eq_true', Bool.not_eq_false', Int.natCast_pos] at hg14
                    refine TL.gd Pu.mv ?_
                    refine TL.gd Pu.ne ?_
                    refine TL.gd Pu.kf ?_
                    refine TL.p Pu.kt ?_
                    refine TL.p Pu.as ?_
                    refine TL.nil ?_
                    refine TQ.thenN (hY35 _ _ ?_)
                    refine TW.ret ?_
                    refine TQ.ret Tryz.results9 rfl ((.tmp rfl .nil)) ?_
                    refine fun w hw => ⟨?_, Chg.ext hw.chg⟩
                    refine congrArg (fun b => Ending.returned (Value.bool b)) ?_
                    first
                      | rfl
                      | (simp [r1, r2]; done)
                      | (simp [r1, hA]; done)
                      | (clear hw hR hI hB hU hG hsd k2 k3 hcat; first | (exfalso; omega) | (simp only [Bool.not_eq_true', Bool.and_eq_true, Bool.and_eq_false_iff, decide_eq_false_iff_not, decide_eq_true_eq, Bool.or_eq_true]; omega) | (simp; omega))
                · try simp only [decide_eq_true_eq, decide_eq_false_iff_not, Bool.not_eq_true', Bool.not_eq_false', Int.natCast_pos] at hg13
                  refine TL.gd (by first | exact Pu.fb ty_fa43_0 | exact Pu.fe ty_fa43_0) ?_
                  refine TL.gd (Pu.ld ty_sc3) ?_
                  refine TL.gd (by first | exact Pu.fb ty_fa43_1 | exact Pu.fe ty_fa43_1) ?_
                  refine TL.gd (Pu.ld ty_sc3) ?_
                  refine TL.gd Pu.gt ?_
                  refine TL.gd Pu.kf ?_
                  refine TL.p Pu.kt ?_
                  refine TL.p Pu.mv ?_
                  refine TL.guard (t := 169) rfl (fun hg15 => ?_) (fun hg15 => ?_)
                  · try simp only [decide_eq_true_eq, decide_eq_false_iff_not, Bool.not_eq_true', Bool.not_eq_false', Int.natCast_pos] at hg15
                    refine TL.gd Pu.mv ?_
                    refine TL.gd Pu.ne ?_
                    refine TL.gd Pu.mv ?_
                    refine TL.guard (t := 172) rfl (fun hg16 => ?_) (fun hg16 => ?_)
                    · try simp only [decide_eq_true_eq, decide_eq_false_iff_not, Bool.not_eq_true', Bool.not_eq_false', Int.natCast_pos] at hg16
                      refine TL.gs ?_
                      refine TL.gs ?_
                      refine TL.gd Pu.kt ?_
                      refine TL.p Pu.kt ?_
                      refine TL.p Pu.as ?_
                      refine TL.nil ?_
                      refine TQ.thenN (hY35 _ _ ?_)
                      refine TW.ret ?_
                      refine TQ.ret Tryz.results9 rfl ((.tmp rfl .nil)) ?_
                      refine fun w hw => ⟨?_, Chg.ext hw.chg⟩
                      refine congrArg (fun b => Ending.returned (Value.bool b)) ?_
                      first
                        | rfl
                        | (simp [r1, r2]; done)
                        | (simp [r1, hA]; done)
                        | (clear hw hR hI hB hU hG hsd k2 k3 hcat; first | (exfalso; omega) | (simp only [Bool.not_eq_true', Bool.and_eq_true, Bool.and_eq_false_iff, decide_eq_false_iff_not, decide_eq_true_eq, Bool.or_eq_true]; omega) | (simp; omega))
                    · try simp only [decide_eq_true_eq, decide_eq_false_iff_not, Bool.not_eq_true', Bool.not_eq_false', Int.natCast_pos] at hg16
                      refine TL.gd Pu.mv ?_
                      refine TL.gd Pu.ne ?_
                      refine TL.gd Pu.kf ?_
                      refine TL.p Pu.kt ?_
                      refine TL.p Pu.as ?_
                      refine TL.nil ?_
                      refine TQ.thenN (hY35 _ _ ?_)
                      refine TW.ret ?_
                      refine TQ.ret Tryz.results9 rfl ((.tmp rfl .nil)) ?_
                      refine fun w hw => ⟨?_, Chg.ext hw.chg⟩
                      refine congrArg (fun b => Ending.returned (Value.bool b)) ?_
                      first
                        | rfl
                        | (simp [r1, r2]; done)
                        | (simp [r1, hA]; done)
                        | (clear hw hR hI hB hU hG hsd k2 k3 hcat; first | (exfalso; omega) | (simp only [Bool.not_eq_true', Bool.and_eq_true, Bool.and_eq_false_iff, decide_eq_false_iff_not, decide_eq_true_eq, Bool.or_eq_true]; omega) | (simp; omega))
                  · try simp only [decide_eq_true_eq, decide_eq_false_iff_not, Bool.not_eq_true', Bool.not_eq_false', Int.natCast_pos] at hg15
                    refine TL.gs ?_
                    refine TL.gs ?_
                    refine TL.gs ?_
                    refine TL.gs ?_
                    refine TL.gs ?_
                    refine TL.gs ?_
                    refine TL.p Pu.kf ?_
                    refine TL.p Pu.as ?_
                    refine TL.nil ?_
                    refine TQ.thenN (hY35 _ _ ?_)
                    refine TW.ret ?_
                    refine TQ.ret Tryz.results9 rfl ((.tmp rfl .nil)) ?_
                    refine fun w hw => ⟨?_, Chg.ext hw.chg⟩
                    refine congrArg (fun b => Ending.returned (Value.bool b)) ?_
                    first
                      | rfl
                      | (simp [r1, r2]; done)
                      | (simp [r1, hA]; done)
                      | (clear hw hR hI hB hU hG hsd k2 k3 hcat; first | (exfalso; omega) | (simp only [Bool.not_eq_true', Bool.and_eq_true, Bool.and_eq_false_iff, decide_eq_false_iff_not, decide_eq_true_eq, Bool.or_eq_true]; omega) | (simp; omega))
end Go.Proofs.YtjephihlkjpohaaGreatDoor
namespace Go.Proofs.YtjephihlkjpohaaGreatDoor
set_option linter.all false
set_option linter.unusedVariables false
set_option linter.unusedSimpArgs false
open Go.ChangeShapes Go.WideShapes Go.RowKit Go.Deep
section
variable {H : Type} {enc : TypeId × Value → H} {P : Program} {w : World} {base : Nat} {spare : Nat → Bool} {held : Bool}
def kindsL (P : Program) (g : TypeId → Option (List IntKind)) : List Field → Nat → Option (List IntKind)
  | [], _ => some []
  | f :: fs, off => match g f.type with
    | some a => if f.offset = off ∧ a.length = P.cellsOf f.type then match kindsL P g fs (off + a.length) with
      | some b => some (a ++ b)
      | none => none
      else none
    | none => none
def kindsF (P : Program) : Nat → TypeId → Option (List IntKind)
  | 0, _ => none
  | d + 1, t => match P.underlying t with
    | some (.int k) => some [k]
    | some (.struct fs) => match kindsL P (kindsF P d) fs.toList 0 with
      | some a => if a.length = P.cellsOf t then some a else none
      | none => none
    | _ => none
def ints (ks : List IntKind) (ns : List Int) : List Value := List.zipWith Value.int ks ns
theorem ints_append {a b : List IntKind} {x y : List Int} (h : x.length = a.length) : ints (a ++ b) (x ++ y) = ints a x ++ ints b y := by
  unfold ints; rw [List.zipWith_append h.symm]
theorem ints_length {a : List IntKind} {x : List Int} (h : x.length = a.length) : (ints a x).length = a.length := by simp [ints, h]
theorem kindsL_spec {g : TypeId → Option (List IntKind)} (hg : ∀ t ks, g t = some ks → ∀ fuel cs x, DataW.trod enc P w base spare held fuel t cs = some x → ∃ ns : List Int, cs = ints ks ns ∧ ns.length = ks.length) :
    ∀ (fs : List Field) (off : Nat) (ks : List IntKind) (cs : List Value), kindsL P g fs off = some ks → cs.length = off + ks.length →
      (∀ f ∈ fs, ∃ n x, DataW.trod enc P w base spare held n f.type ((cs.drop f.offset).take (P.cellsOf f.type)) = some x) → ∃ ns : List Int, cs.drop off = ints ks ns ∧ ns.length = ks.length
  | [], off, ks, cs, h, hl, _ => by cases h; exact ⟨[], by simp at hl; simp [ints, hl], rfl⟩
  | f :: fs, off, ks, cs, h, hl, hf => by
    simp only [kindsL] at h
    cases h1 : g f.type with
    | none => rw [h1] at h; cases h
    | some a =>
      rw [h1] at h
      simp only at h
      split at h
      · rename_i h2
        obtain ⟨h2, h3⟩ := h2
        cases h4 : kindsL P g fs (off + a.length) with
        | none => rw [h4] at h; cases h
        | some b =>
          rw [h4] at h
          cases h
          obtain ⟨n, x, hx⟩ := hf f (by simp)
          rw [h2, ← h3] at hx
          obtain ⟨ns, e1, e2⟩ := hg _ _ h1 _ _ _ hx
          obtain ⟨ms, e3, e4⟩ := kindsL_spec hg fs (off + a.length) b cs h4 (by rw [hl]; simp; omega) (fun f' hf' => hf f' (by simp [hf']))
          refine ⟨ns ++ ms, ?_, by simp [e2, e4]⟩
          rw [ints_append e2, ← e1, ← e3, ← List.drop_drop, List.take_append_drop]
      · cases h
theorem kindsF_spec : ∀ (d : Nat) (t : TypeId) (ks : List IntKind), kindsF P d t = some ks → ∀ fuel cs x, DataW.trod enc P w base spare held fuel t cs = some x → ∃ ns : List Int, cs = ints ks ns ∧ ns.length = ks.length
  | 0, _, _, h, _, _, _, _ => by cases h
  | d + 1, t, ks, h, fuel, cs, x, hx => by
    simp only [kindsF] at h
    cases hu : P.underlying t with
    | none => rw [hu] at h; cases h
    | some desc =>
      rw [hu] at h
      match desc, hu, h with
      | .int k, hu, h =>
        injection h with h
        subst h
        obtain ⟨n, rfl, _, _⟩ := DataW.trod_int hu hx
        exact ⟨[n], rfl, rfl⟩
      | .struct fs, hu, h =>
        simp only at h
        cases h1 : kindsL P (kindsF P d) fs.toList 0 with
        | none => rw [h1] at h; cases h
        | some a =>
          rw [h1] at h
          simp only at h
          split at h
          · rename_i h2
            cases h
            obtain ⟨xs, n, _, _, hlen, hxl, hf⟩ := DataW.trod_struct hu hx
            obtain ⟨ns, e1, e2⟩ := kindsL_spec (kindsF_spec d) fs.toList 0 _ cs h1 (by omega) (fun f hf' => by
              obtain ⟨i, hi, rfl⟩ := List.getElem_of_mem hf'
              have hi' : i < fs.size := by simpa using hi
              have := hf i fs[i] (by simp [hi'])
              rw [List.getElem?_eq_getElem (by omega)] at this
              exact ⟨n, _, this⟩)
            exact ⟨ns, by simpa using e1, e2⟩
          · cases h
theorem open_flat_slice {t e : TypeId} {fuel : Nat} {cs : List Value} {x : DataW H × List MemPlace} (d : Nat) {ks : List IntKind} (ht : P.underlying t = some (.slice e)) (hk : kindsF P d e = some ks) (hC : P.cellsOf e = ks.length) (h0 : Nat.blt 0 ks.length = true) (h : DataW.trod enc P w base spare held fuel t cs = some x) :
    ∃ (A : Option Addr) (len cap : Nat) (g : Nat → List Int), cs = [.slice A len cap] ∧ (∀ i, i < len → (g i).length = ks.length) ∧ RdR w ks.length A len (fun i => ints ks (g i)) ∧ (A = none → len = 0 ∧ cap = 0) ∧ len ≤ cap ∧ cap ≤ maxLen := by
  have h0 : 0 < ks.length := Nat.le_of_ble_eq_true h0
  rcases open_slice ht h with ⟨rfl, rfl⟩ | ⟨a, len, cap, m, n, D, Pl, rfl, hb, hl, hm, hmm, _, hi⟩
  · exact ⟨none, 0, 0, fun _ => [], rfl, fun i hi => by omega, ⟨Rd.nil, fun i hi => by omega⟩, fun _ => ⟨rfl, rfl⟩, Nat.le_refl _, Nat.zero_le _⟩
  · have hlm : len ≤ m := by rw [hmm]; split <;> omega
    have key : ∀ i, i < len → ∃ ns : List Int, ns.length = ks.length ∧ ∀ j, j < ks.length → w.cell? (a.add (i * ks.length + j)) = (ints ks ns)[j]? := fun i hil => by
      obtain ⟨cs', hc, hx⟩ := hi i (by omega)
      obtain ⟨_, hcl, hat⟩ := World.cells?_some hc
      obtain ⟨ns, rfl, e2⟩ := kindsF_spec d e ks hk _ _ _ hx
      refine ⟨ns, e2, fun j hj => ?_⟩
      have := hat j (by rw [hC]; exact hj)
      rw [hC] at this
      rw [← this, ← add_add]
    refine ⟨some a, len, cap, fun i => if hi : i < len then (key i hi).choose else [], rfl, fun i hi => ?_, ⟨fun hn => ?_, fun i hi => ?_⟩, fun h => (by cases h), hl, hm⟩
    · simp only [hi, dite_true]; exact (key i hi).choose_spec.1
    · have h1 := (key 0 hn).choose_spec.2 0 h0
      have hsome : (ints ks (key 0 hn).choose)[0]? = some ((ints ks (key 0 hn).choose)[0]'(by rw [ints_length (key 0 hn).choose_spec.1]; exact h0)) := List.getElem?_eq_getElem _
      rw [hsome] at h1
      have hadd : a.add (0 * ks.length + 0) = a := by simp [Addr.add]
      rw [hadd] at h1
      have hsp : a.spot = none := by
        unfold World.cell? at h1
        split at h1
        · cases hs : a.spot with
          | none => rfl
          | some s => simp [hs] at h1
        · cases h1
      have hlt : a.block < w.heap.size := World.block_lt_of_cell? w a h1
      obtain ⟨b, o, s⟩ := a
      simp only at hsp
      subst hsp
      refine ⟨b, o, rfl, hlt, fun i j hi hj => ?_⟩
      have h2 := (key i hi).choose_spec.2 j hj
      rw [add_plain] at h2
      rw [show o + i * ks.length + j = o + (i * ks.length + j) by omega, h2]
      simp only [rowF, hi, dite_true]
      have hl2 : j < (ints ks (key i hi).choose).length := by rw [ints_length (key i hi).choose_spec.1]; exact hj
      rw [List.getElem?_eq_getElem hl2]
      simp [List.getD_eq_getElem?_getD, List.getElem?_eq_getElem hl2]
    · simp only [hi, dite_true]
      exact ints_length (key i hi).choose_spec.1
theorem open_flat {r : Reach} {b0 : Nat} {t : TypeId} {fs : Array Field} {v : Value} {dd : DataW H} {p : List MemPlace} (d : Nat) {ks : List IntKind} (ht : P.underlying t = some (.struct fs)) (hk : kindsF P d t = some ks) (hv : Value.okWide P w r b0 t v) (h : DataW.Trod enc P w base spare held t v dd p) :
    ∃ ns : List Int, v = .agg (ints ks ns).toArray ∧ ns.length = ks.length := by
  obtain ⟨cs, rfl, _⟩ := okWide_struct ht hv
  obtain ⟨fuel, hf⟩ := h
  obtain ⟨ns, e1, e2⟩ := kindsF_spec d t ks hk _ _ _ hf
  exact ⟨ns, by rw [← e1]; simp [Value.cells], e2⟩
theorem open_rows {r : Reach} {b0 : Nat} {t e : TypeId} {v : Value} {dd : DataW H} {p : List MemPlace} (d : Nat) (ks : List IntKind) (ht : P.underlying t = some (.slice e)) (hk : kindsF P d e = some ks) (hC : P.cellsOf e = ks.length) (h0 : Nat.blt 0 ks.length = true) (hv : Value.okWide P w r b0 t v) (h : DataW.Trod enc P w base spare held t v dd p) :
    ∃ (A : Option Addr) (len cap : Nat) (g : Nat → List Int), v = .slice A len cap ∧ (∀ i, i < len → (g i).length = ks.length) ∧ RdR w ks.length A len (fun i => ints ks (g i)) ∧ (A = none → len = 0 ∧ cap = 0) ∧ len ≤ cap ∧ cap ≤ maxLen := by
  obtain ⟨a, n, c, rfl⟩ := okWide_slice ht hv
  obtain ⟨fuel, h⟩ := h
  obtain ⟨A, len, cap, g, e, h1⟩ := open_flat_slice d ht hk hC h0 h
  simp only [Value.cells, List.cons.injEq, Value.slice.injEq, and_true] at e
  obtain ⟨rfl, rfl, rfl⟩ := e
  exact ⟨_, _, _, g, rfl, h1⟩
def gi (ns : List Int) (j : Nat) : Int := ns.getD j 0
def rowK : List IntKind → (Nat → Int) → List Value
  | [], _ => []
  | k :: ks, f => .int k (f 0) :: rowK ks fun j => f (j + 1)
theorem ints_rowK : ∀ (ks : List IntKind) (ns : List Int), ns.length = ks.length → ints ks ns = rowK ks (gi ns)
  | [], [], _ => rfl
  | k :: ks, n :: ns, h => by
    show Value.int k n :: ints ks ns = _
    rw [ints_rowK ks ns (by simpa using h)]
    rfl
theorem RdR.rowK {sz n : Nat} {A : Option Addr} {ks : List IntKind} {g : Nat → List Int} (h : RdR w sz A n (fun i => ints ks (g i))) (hl : ∀ i, i < n → (g i).length = ks.length) : RdR w sz A n (fun i => rowK ks (gi (g i))) :=
  ⟨h.rd.congr fun i j hi hj => by simp only [rowF, ints_rowK ks (g i) (hl i hi)], fun i hi => by rw [← ints_rowK ks (g i) (hl i hi)]; exact h.len i hi⟩
theorem trodAll_stays (hl : laidOutB P = true) {W W' : World} (hb : Below W.heap.size W W') {sp' : Nat → Bool} : ∀ {ts : List TypeId} {vs : List Value} {ds : List (DataW H)} {ps : List MemPlace}, ts.all (fun t => P.readableRec t && decide (t < P.types.size)) = true →
    DataW.TrodAll enc P W 0 (fun _ => true) true ts vs ds ps → (∀ p ∈ ps, p.block < W.heap.size) → (∀ p ∈ ps, sp' p.block = true) → DataW.TrodAll enc P W' 0 sp' true ts vs ds ps
  | [], [], [], ps, _, h, _, _ => h
  | t :: ts, v :: vs, d :: ds, ps, ht, h, hlt, hs => by
    simp only [List.all_cons, Bool.and_eq_true, decide_eq_true_eq] at ht
    obtain ⟨p, q, h1, h2, rfl⟩ := h
    exact ⟨p, q, WideElems.Trod_stays hl ht.1.1 ht.1.2 h1 (fun x hx => hb.same (hlt x (by simp [hx]))) (fun x hx => hs x (by simp [hx])), trodAll_stays hl hb ht.2 h2 (fun x hx => hlt x (by simp [hx])) (fun x hx => hs x (by simp [hx])), rfl⟩
theorem law_post {f : Func} {s : ChangeSpec} {apart fresh handsOn again : Bool} {W W' : World} {args : Array Value} {ds : List (DataW H)} {p : List MemPlace} {tb : TypeId} (hl : laidOutB P = true) (hvars : s.vars = [])
    (hW : DataW.Whole enc P f.params.toList s.vars apart W args.toList ds [] p) (hA : DataW.TrodAll enc P W 0 (fun _ => true) true f.params.toList args.toList ds p)
    (ht : f.params.toList.all (fun t => P.readableRec t && decide (t < P.types.size)) = true) (hrt : f.resultTypes = #[tb]) (htb : P.underlying tb = some .bool) (hfn : s.fn H ds = { results := [.lit (.bool true)], args := ds }) (hb : Below W.heap.size W W') :
    s.post enc P f apart fresh handsOn again W args (.bool true) W' := by
  have hlt : ∀ q ∈ p, q.block < W.heap.size := fun q hq => hW.lt q hq
  have hold : ∀ q ∈ p, (fun b => decide (b < W.heap.size)) q.block = true := fun q hq => by simpa using hW.lt q hq
  have hres : ∀ (b : Nat) (sp : Nat → Bool) (hd : Bool), DataW.TrodAll enc P W' b sp hd f.resultTypes.toList ((Value.bool true).resultList f.resultTypes.size) (s.fn H (ds ++ [])).results [] := fun b sp hd => by
    rw [List.append_nil, hfn, hrt]
    exact ⟨[], [], shut_bool htb true, rfl, rfl⟩
  have hargs : ∀ sp : Nat → Bool, (∀ q ∈ p, sp q.block = true) → DataW.TrodAll enc P W' 0 sp true f.params.toList args.toList (s.fn H (ds ++ [])).args p := fun sp hs => by
    rw [List.append_nil, hfn]
    exact trodAll_stays hl hb ht hA (fun q hq => hW.lt q hq) hs
  have hv : ∀ sp : Nat → Bool, DataW.TrodVars enc P W' sp s.vars (s.fn H (ds ++ [])).vars [] := fun sp => by
    rw [List.append_nil, hfn, hvars]; exact rfl
  have hok : ∀ (j : Nat) (t : TypeId) (r : Value), f.resultTypes[j]? = some t → ((Value.bool true).resultList f.resultTypes.size)[j]? = some r → Value.okWide P W' .any 0 t r := ok_one (by rw [hrt]) rfl (okWide_bool_mk htb true)
  refine ⟨ds, [], p, [], p, [], hW, hres _ _ _, hargs _ hold, hv _, World.keptBut_mono (fun q hq => ⟨hq, by simpa using hq⟩) (hb.frame (· ∈ p)), fun _ => ?_⟩
  obtain ⟨_, _, _, _, _, hz, hn⟩ := hW
  refine ⟨hok, _, _, ([] ++ p) ++ [], ⟨[] ++ p, [], trodAll_append (hargs _ (fun _ _ => rfl)) (hres _ _ _), hv _, rfl, ?_, ?_⟩, ?_⟩
  · intro b off hp
    have hin : MemPlace.cell b off ∈ p := by simpa using hp
    rw [hb.frozen (hlt _ hin)]
    exact hz b off hin
  · intro ha
    have := hn ha
    simpa using this
  · intro q hq _
    simpa using hq
end
end Go.Proofs.YtjephihlkjpohaaGreatDoor
namespace Go.Proofs.YtjephihlkjpohaaGreatDoor
set_option linter.all false
set_option linter.unusedVariables false
set_option linter.unusedSimpArgs false
open Go.ChangeShapes Go.WideShapes Go.RowKit Go.Deep
section
variable {H : Type} {enc : TypeId × Value → H} {P : Program} {w : World} {base : Nat} {spare : Nat → Bool} {held : Bool}
theorem open_slice_any {t e : TypeId} {fuel : Nat} {cs : List Value} {x : DataW H × List MemPlace} {sz : Nat} (ht : P.underlying t = some (.slice e)) (hC : P.cellsOf e = sz) (h0 : Nat.blt 0 sz = true) (h : DataW.trod enc P w base spare held fuel t cs = some x) :
    ∃ (A : Option Addr) (len cap : Nat) (G : Nat → List Value), cs = [.slice A len cap] ∧ RdR w sz A len G ∧ (∀ i, i < len → ∃ n y, DataW.trod enc P w base spare held n e (G i) = some y) ∧ (A = none → len = 0 ∧ cap = 0) ∧ len ≤ cap ∧ cap ≤ maxLen := by
  have h0 : 0 < sz := Nat.le_of_ble_eq_true h0
  rcases open_slice ht h with ⟨rfl, rfl⟩ | ⟨a, len, cap, m, n, D, Pl, rfl, hb, hl, hm, hmm, _, hi⟩
  · exact ⟨none, 0, 0, fun _ => [], rfl, ⟨Rd.nil, fun i hi => by omega⟩, fun i hi => by omega, fun _ => ⟨rfl, rfl⟩, Nat.le_refl _, Nat.zero_le _⟩
  · have hlm : len ≤ m := by rw [hmm]; split <;> omega
    have key : ∀ i, i < len → ∃ cs' : List Value, cs'.length = sz ∧ (∀ j, j < sz → w.cell? (a.add (i * sz + j)) = cs'[j]?) ∧ ∃ n y, DataW.trod enc P w base spare held n e cs' = some y := fun i hil => by
      obtain ⟨cs', hc, hx⟩ := hi i (by omega)
      obtain ⟨_, hcl, hat⟩ := World.cells?_some hc
      refine ⟨cs', by rw [hcl, hC], fun j hj => ?_, n, _, hx⟩
      have := hat j (by rw [hC]; exact hj)
      rw [hC] at this
      rw [← this, ← add_add]
    refine ⟨some a, len, cap, fun i => if hi : i < len then (key i hi).choose else [], rfl, ⟨fun hn => ?_, fun i hi => ?_⟩, fun i hi => ?_, fun h => (by cases h), hl, hm⟩
    · have h1 := (key 0 hn).choose_spec.2.1 0 h0
      have hsome : ((key 0 hn).choose)[0]? = some ((key 0 hn).choose[0]'(by rw [(key 0 hn).choose_spec.1]; exact h0)) := List.getElem?_eq_getElem _
      rw [hsome] at h1
      have hadd : a.add (0 * sz + 0) = a := by simp [Addr.add]
      rw [hadd] at h1
      have hsp : a.spot = none := by
        unfold World.cell? at h1
        split at h1
        · cases hs : a.spot with
          | none => rfl
          | some s => simp [hs] at h1
        · cases h1
      have hlt : a.block < w.heap.size := World.block_lt_of_cell? w a h1
      obtain ⟨b, o, s⟩ := a
      simp only at hsp
      subst hsp
      refine ⟨b, o, rfl, hlt, fun i j hi hj => ?_⟩
      have h2 := (key i hi).choose_spec.2.1 j hj
      rw [add_plain] at h2
      rw [show o + i * sz + j = o + (i * sz + j) by omega, h2]
      simp only [rowF, hi, dite_true]
      have hl2 : j < (key i hi).choose.length := by rw [(key i hi).choose_spec.1]; exact hj
      rw [List.getD_eq_getElem?_getD, List.getElem?_eq_getElem hl2]
      rfl
    · simp only [hi, dite_true]
      exact (key i hi).choose_spec.1
    · simp only [hi, dite_true]
      exact (key i hi).choose_spec.2.2
theorem trod_fields {t : TypeId} {fs : Array Field} {fuel : Nat} {cs : List Value} {x : DataW H × List MemPlace} (ht : P.underlying t = some (.struct fs)) (h : DataW.trod enc P w base spare held fuel t cs = some x) :
    cs.length = P.cellsOf t ∧ ∀ (i : Nat) (f : Field), fs[i]? = some f → ∃ n y, DataW.trod enc P w base spare held n f.type ((cs.drop f.offset).take (P.cellsOf f.type)) = some y := by
  obtain ⟨xs, n, _, _, hlen, hxl, hf⟩ := DataW.trod_struct ht h
  refine ⟨hlen, fun i f hi => ?_⟩
  have h1 := hf i f hi
  have hi' : i < fs.size := (Array.getElem?_eq_some_iff.1 hi).1
  rw [List.getElem?_eq_getElem (by omega)] at h1
  exact ⟨n, _, h1⟩
theorem open_ints_in {t e : TypeId} {k : IntKind} {fuel : Nat} {cs : List Value} {x : DataW H × List MemPlace} (ht : P.underlying t = some (.slice e)) (he : P.underlying e = some (.int k)) (hC : P.cellsOf e = 1) (h : DataW.trod enc P w base spare held fuel t cs = some x) :
    ∃ (A : Option Addr) (len cap : Nat) (v : Nat → Int), cs = [.slice A len cap] ∧ RdR w 1 A len (fun q => [.int k (v q)]) ∧ (A = none → len = 0 ∧ cap = 0) ∧ len ≤ cap ∧ cap ≤ maxLen := by
  obtain ⟨A, len, cap, g, rfl, hg, hR, h1, h2, h3⟩ := open_flat_slice (ks := [k]) 1 ht (by simp only [kindsF, he]) hC rfl h
  refine ⟨A, len, cap, fun q => gi (g q) 0, rfl, ⟨hR.rd.congr fun i j hi hj => ?_, fun i hi => rfl⟩, h1, h2, h3⟩
  show (ints [k] (g i)).getD j undef = _
  rw [ints_rowK [k] (g i) (hg i hi)]
  rfl
theorem trodAll_six {t0 t1 t2 t3 t4 t5 : TypeId} {args : Array Value} {ds : List (DataW H)} {ps : List MemPlace} (h : DataW.TrodAll enc P w base spare held [t0, t1, t2, t3, t4, t5] args.toList ds ps) :
    ∃ v0 v1 v2 v3 v4 v5 d0 d1 d2 d3 d4 d5 p0 p1 p2 p3 p4 p5, args = #[v0, v1, v2, v3, v4, v5] ∧ ds = [d0, d1, d2, d3, d4, d5] ∧ ps = p0 ++ (p1 ++ (p2 ++ (p3 ++ (p4 ++ p5)))) ∧ DataW.Trod enc P w base spare held t0 v0 d0 p0 ∧ DataW.Trod enc P w base spare held t1 v1 d1 p1 ∧ DataW.Trod enc P w base spare held t2 v2 d2 p2 ∧ DataW.Trod enc P w base spare held t3 v3 d3 p3 ∧ DataW.Trod enc P w base spare held t4 v4 d4 p4 ∧ DataW.Trod enc P w base spare held t5 v5 d5 p5 := by
  obtain ⟨v0, vs0, d0, ds0, p0, q0, hargs, rfl, rfl, h0, hr0⟩ := trodAll_cons h
  obtain ⟨v1, vs1, d1, ds1, p1, q1, rfl, rfl, rfl, h1, hr1⟩ := trodAll_cons hr0
  obtain ⟨v2, vs2, d2, ds2, p2, q2, rfl, rfl, rfl, h2, hr2⟩ := trodAll_cons hr1
  obtain ⟨v3, vs3, d3, ds3, p3, q3, rfl, rfl, rfl, h3, hr3⟩ := trodAll_cons hr2
  obtain ⟨v4, vs4, d4, ds4, p4, q4, rfl, rfl, rfl, h4, hr4⟩ := trodAll_cons hr3
  obtain ⟨v5, vs5, d5, ds5, p5, q5, rfl, rfl, rfl, h5, hr5⟩ := trodAll_cons hr4
  obtain ⟨rfl, rfl, rfl⟩ := trodAll_nil hr5
  exact ⟨v0, v1, v2, v3, v4, v5, d0, d1, d2, d3, d4, d5, p0, p1, p2, p3, p4, p5, by cases args; simp_all, rfl, by simp, h0, h1, h2, h3, h4, h5⟩
end
end Go.Proofs.YtjephihlkjpohaaGreatDoor
namespace Go.Proofs.YtjephihlkjpohaaGreatDoor
set_option linter.all false
set_option linter.unusedVariables false
set_option linter.unusedSimpArgs false
open Go.ChangeShapes Go.WideShapes Go.ChangeAt Go.RowKit Go.Deep
theorem Tryz.own : ownKnob Tryz.prog.godebug = none := by kernel_rfl
theorem Tryz.laidOut : laidOutB Tryz.prog = true := by kernel_rfl
section
variable {H : Type} {enc : TypeId × Value → H} {w : World} {base : Nat} {spare : Nat → Bool} {held : Bool}
theorem gNone : Tryz.prog.globalNamed "azalai/load.none" = some 0 := by kernel_rfl
theorem tNone : (Tryz.prog.globals[0]?).map (·.type) = some 43 := by kernel_rfl
set_option maxRecDepth 100000 in
theorem none0_of_laid {W : World} (h : laidMetH Tryz.prog [("azalai/load.none", Rows.laid_azalai_load_none)] W) : None0 W := by
  rw [MakeChecks.laidMetH_plain _ _ _ (by kernel_rfl)] at h
  obtain ⟨ps, ⟨g0, t0, cs0, f0, p0, q0, hg0, ht0, hv0, hd0, _⟩, _, _⟩ := h
  obtain rfl := Option.some.inj (gNone.symm.trans hg0)
  obtain rfl := Option.some.inj (tNone.symm.trans ht0)
  obtain ⟨ns, e1, e2⟩ := kindsF_spec 2 43 [.i64, .i64] (by kernel_rfl) _ _ _ hd0
  match ns, e2, e1 with
  | [x, y], _, e1 =>
    have e1 : cs0.toList = [.int .i64 x, .int .i64 y] := e1
    obtain ⟨y0, y1, n, hx, hl, h0, h1⟩ := trod_struct2 Tryz.underlying43 hd0
    rw [e1] at h0 h1
    obtain ⟨k0, i0, rfl, _⟩ := DataW.trod_int Tryz.underlying3 h0
    obtain ⟨k1, i1, rfl, _⟩ := DataW.trod_int Tryz.underlying3 h1
    have hc1 : Tryz.prog.cellsOf 3 = 1 := by kernel_rfl
    have j0 : [Value.int .i64 x] = [.int .i64 k0] := by simpa [hc1] using i0
    have j1 : [Value.int .i64 y] = [.int .i64 k1] := by simpa [hc1] using i1
    clear i0 i1
    simp only [Rows.laid_azalai_load_none, Prod.mk.injEq, DataW.agg.injEq, List.cons.injEq, DataW.lit.injEq, Lit.int.injEq, and_true, true_and, List.append_nil, Value.int.injEq] at hx j0 j1
    obtain ⟨⟨rfl, rfl⟩, _⟩ := hx
    subst j0 j1
    have hc := World.var?_cell hg0 hv0
    have e3 : cs0 = #[.int .i64 0, .int .i64 0] := by cases cs0; simpa using e1
    subst e3
    exact ⟨World.block_lt_of_cell? W ⟨0, 0, none⟩ (hc 0), fun j v hj => by rw [hc j]; simpa using hj⟩
set_option maxRecDepth 100000 in
theorem tied_of_trod {fuel : Nat} {G : List Value} {y : DataW H × List MemPlace} (hl3 : G.length = 3) (hy : DataW.trod enc Tryz.prog w base spare held fuel 36 G = some y) :
    ∃ (a : Nat → Option Addr) (l c : Nat → Nat) (u : Nat → Nat → Int), G = tieL a l c ∧ ∀ j, j < 3 → RdR w 1 (a j) (l j) (fun k => [.int .i64 (u j k)]) := by
  obtain ⟨hl, hf⟩ := trod_fields Tryz.underlying36 hy
  have h0 := hf 0 _ rfl
  have h1 := hf 1 _ rfl
  have h2 := hf 2 _ rfl
  obtain ⟨n0, y0, h0⟩ := h0
  obtain ⟨n1, y1, h1⟩ := h1
  obtain ⟨n2, y2, h2⟩ := h2
  obtain ⟨a0, l0, c0, u0, e0, r0, _⟩ := open_ints_in Tryz.underlying24 Tryz.underlying3 (by kernel_rfl) h0
  obtain ⟨a1, l1, c1, u1, e1, r1, _⟩ := open_ints_in Tryz.underlying24 Tryz.underlying3 (by kernel_rfl) h1
  obtain ⟨a2, l2, c2, u2, e2, r2, _⟩ := open_ints_in Tryz.underlying24 Tryz.underlying3 (by kernel_rfl) h2
  refine ⟨fun j => if j = 0 then a0 else if j = 1 then a1 else a2, fun j => if j = 0 then l0 else if j = 1 then l1 else l2, fun j => if j = 0 then c0 else if j = 1 then c1 else c2, fun j => if j = 0 then u0 else if j = 1 then u1 else u2, ?_, fun j hj => ?_⟩
  · match G, hl3 with
    | [x0, x1, x2], _ =>
      have hc1 : Tryz.prog.cellsOf 24 = 1 := by kernel_rfl
      have e0 : [x0] = [.slice a0 l0 c0] := by simpa [hc1] using e0
      have e1 : [x1] = [.slice a1 l1 c1] := by simpa [hc1] using e1
      have e2 : [x2] = [.slice a2 l2 c2] := by simpa [hc1] using e2
      cases e0; cases e1; cases e2
      rfl
  · have : j = 0 ∨ j = 1 ∨ j = 2 := by omega
    rcases this with rfl | rfl | rfl
    · exact r0
    · exact r1
    · exact r2
set_option maxRecDepth 100000 in
theorem open_packs {r : Reach} {b0 : Nat} {v : Value} {dd : DataW H} {p : List MemPlace} (hv : Value.okWide Tryz.prog w r b0 22 v) (h : DataW.Trod enc Tryz.prog w base spare held 22 v dd p) :
    ∃ (A : Option Addr) (n cp : Nat) (pk : Nat → Nat → Int), v = .slice A n cp ∧ RdR w 11 A n (fun k => packL (pk k)) := by
  obtain ⟨A, n, cp, g, rfl, hg, hR, _, _, _⟩ := open_rows 3 (.u8 :: List.replicate 10 .i64) Tryz.underlying22 (by kernel_rfl) (by kernel_rfl) rfl hv h
  exact ⟨A, n, cp, fun i => gi (g i), rfl, hR.rowK hg⟩
end
end Go.Proofs.YtjephihlkjpohaaGreatDoor
namespace Go.Proofs.YtjephihlkjpohaaGreatDoor
set_option linter.all false
set_option linter.unusedVariables false
set_option linter.unusedSimpArgs false
open Go.ChangeShapes Go.WideShapes Go.ChangeAt Go.RowKit Go.Deep
section
variable {H : Type} {enc : TypeId × Value → H} {w : World} {base : Nat} {spare : Nat → Bool} {held : Bool}
theorem RdR.cong {sz n : Nat} {A : Option Addr} {r r' : Nat → List Value} (h : RdR w sz A n r) (he : ∀ i, i < n → r i = r' i) : RdR w sz A n r' := ⟨h.rd.congr fun i j hi _ => by simp only [rowF, he i hi], fun i hi => by rw [← he i hi]; exact h.len i hi⟩
theorem trod_int {P : Program} {n : Nat} {t : TypeId} {k : IntKind} {cs : List Value} {y : DataW H × List MemPlace} (ht : P.underlying t = some (.int k)) (h : DataW.trod enc P w base spare held n t cs = some y) : ∃ x : Int, cs = [.int k x] ∧ k.min ≤ x ∧ x ≤ k.max := by
  cases n with
  | zero => cases h
  | succ n =>
    unfold DataW.trod at h
    rw [ht] at h
    split at h <;> first | (rename_i e _; cases e; done) | skip
    all_goals first | (rename_i k1 k2 x e; cases e; split at h; (rename_i hx; obtain ⟨rfl, hw⟩ := hx; simp only [Lit.wf, Bool.and_eq_true, decide_eq_true_eq] at hw; exact ⟨x, rfl, hw.1, hw.2⟩); cases h) | (cases h; done) | (rename_i e; cases e; done) | (rename_i e _ _; cases e; done) | (rename_i e _ _ _; cases e; done)
set_option maxRecDepth 100000 in
theorem open_choices {r : Reach} {b0 : Nat} {v : Value} {dd : DataW H} {p : List MemPlace} (hv : Value.okWide Tryz.prog w r b0 46 v) (h : DataW.Trod enc Tryz.prog w base spare held 46 v dd p) :
    ∃ (A : Option Addr) (n cp : Nat) (u : Nat → Int), v = .slice A n cp ∧ n ≤ cp ∧ U32 n u ∧ RdR w 1 A n (fun k => [.int .u32 (u k)]) := by
  obtain ⟨A0, n0, c0, rfl⟩ := okWide_slice Tryz.underlying46 hv
  obtain ⟨fuel, h⟩ := h
  obtain ⟨A, m, cp, G, e, hR, hel, _, hc, _⟩ := open_slice_any (sz := 1) Tryz.underlying46 (by kernel_rfl) rfl h
  simp only [Value.cells, List.cons.injEq, Value.slice.injEq, and_true] at e
  obtain ⟨rfl, rfl, rfl⟩ := e
  have key : ∀ i, i < n0 → ∃ x : Int, G i = [.int .u32 x] ∧ 0 ≤ x ∧ x < 4294967296 := fun i hi => by
    obtain ⟨n, y, hy⟩ := hel i hi
    obtain ⟨x, e, h1, h2⟩ := trod_int Tryz.underlying54 hy
    exact ⟨x, e, h1, Int.lt_of_le_of_lt h2 (by decide)⟩
  refine ⟨A0, n0, c0, fun i => if hi : i < n0 then (key i hi).choose else 0, rfl, hc, fun i hi => ?_, ?_⟩
  · simp only [dif_pos hi]; exact (key i hi).choose_spec.2
  · exact hR.cong fun i hi => by simp only [dif_pos hi]; exact (key i hi).choose_spec.1
end
end Go.Proofs.YtjephihlkjpohaaGreatDoor
namespace Go.Proofs.YtjephihlkjpohaaGreatDoor
set_option linter.all false
set_option linter.unusedVariables false
set_option linter.unusedSimpArgs false
open Go.ChangeShapes Go.WideShapes Go.ChangeAt Go.RowKit Go.Deep
section
variable {H : Type} {enc : TypeId × Value → H} {w : World} {base : Nat} {spare : Nat → Bool} {held : Bool}
set_option maxRecDepth 100000 in
theorem open_breed {r : Reach} {b0 : Nat} {v : Value} {dd : DataW H} {p : List MemPlace} (hv : Value.okWide Tryz.prog w r b0 79 v) (h : DataW.Trod enc Tryz.prog w base spare held 79 v dd p) :
    ∃ f : Nat → Int, v = .agg (breedL f).toArray := by
  obtain ⟨ns, rfl, hn⟩ := open_flat 3 (ks := List.replicate 17 .i64) Tryz.underlying79 (by kernel_rfl) hv h
  exact ⟨gi ns, by rw [ints_rowK _ _ hn]; rfl⟩
set_option maxRecDepth 100000 in
theorem open_camel {r : Reach} {b0 : Nat} {v : Value} {dd : DataW H} {p : List MemPlace} (hv : Value.okWide Tryz.prog w r b0 81 v) (h : DataW.Trod enc Tryz.prog w base spare held 81 v dd p) :
    ∃ (g : Nat → Int) (m : Bool), v = .agg (camL g m).toArray := by
  obtain ⟨cs, rfl, hlen⟩ := okWide_struct Tryz.underlying81 hv
  obtain ⟨fuel, hf⟩ := h
  obtain ⟨hl, hfs⟩ := trod_fields Tryz.underlying81 hf
  obtain ⟨n0, y0, h0⟩ := hfs 0 _ rfl
  obtain ⟨n1, y1, h1⟩ := hfs 1 _ rfl
  obtain ⟨n2, y2, h2⟩ := hfs 2 _ rfl
  obtain ⟨n3, y3, h3⟩ := hfs 3 _ rfl
  obtain ⟨s0, e0, l0⟩ := kindsF_spec 2 43 [.i64, .i64] (by kernel_rfl) _ _ _ h0
  obtain ⟨s1, e1, l1⟩ := kindsF_spec 2 43 [.i64, .i64] (by kernel_rfl) _ _ _ h1
  obtain ⟨s2, e2, l2⟩ := kindsF_spec 2 43 [.i64, .i64] (by kernel_rfl) _ _ _ h2
  obtain ⟨m, e3, _⟩ := DataW.trod_bool Tryz.underlying4 h3
  have hc2 : Tryz.prog.cellsOf 43 = 2 := by kernel_rfl
  have hc1 : Tryz.prog.cellsOf 4 = 1 := by kernel_rfl
  have hc7 : Tryz.prog.cellsOf 81 = 7 := by kernel_rfl
  rw [hc7] at hl
  match s0, l0, s1, l1, s2, l2 with
  | [a0, a1], _, [a2, a3], _, [a4, a5], _ =>
    obtain ⟨L⟩ := cs
    match L, hl with
    | [x0, x1, x2, x3, x4, x5, x6], _ =>
      have e0 : [x0, x1] = [.int .i64 a0, .int .i64 a1] := by simpa [hc2, Value.cells, ints] using e0
      have e1 : [x2, x3] = [.int .i64 a2, .int .i64 a3] := by simpa [hc2, Value.cells, ints] using e1
      have e2 : [x4, x5] = [.int .i64 a4, .int .i64 a5] := by simpa [hc2, Value.cells, ints] using e2
      have e3 : [x6] = [.bool m] := by simpa [hc1, Value.cells] using e3
      cases e0; cases e1; cases e2; cases e3
      exact ⟨gi [a0, a1, a2, a3, a4, a5], m, rfl⟩
set_option maxRecDepth 100000 in
theorem open_tied {r : Reach} {b0 : Nat} {v : Value} {dd : DataW H} {p : List MemPlace} (hv : Value.okWide Tryz.prog w r b0 36 v) (h : DataW.Trod enc Tryz.prog w base spare held 36 v dd p) :
    ∃ (a : Nat → Option Addr) (l c : Nat → Nat) (u : Nat → Nat → Int), v = .agg (tieL a l c).toArray ∧ ∀ j, j < 3 → RdR w 1 (a j) (l j) (fun k => [.int .i64 (u j k)]) := by
  obtain ⟨cs, rfl, hlen⟩ := okWide_struct Tryz.underlying36 hv
  obtain ⟨fuel, hf⟩ := h
  have hc3 : Tryz.prog.cellsOf 36 = 3 := by kernel_rfl
  obtain ⟨a, l, c, u, e, hI⟩ := tied_of_trod (by rw [(trod_fields Tryz.underlying36 hf).1, hc3]) hf
  refine ⟨a, l, c, u, ?_, hI⟩
  rw [← e]
  simp [Value.cells]
end
end Go.Proofs.YtjephihlkjpohaaGreatDoor
namespace Go.Proofs.YtjephihlkjpohaaGreatDoor
set_option linter.all false
set_option linter.unusedVariables false
set_option linter.unusedSimpArgs false
open Go.ChangeShapes Go.WideShapes Go.ChangeAt Go.RowKit Go.Deep
set_option maxRecDepth 100000 in
theorem loadBears_door (os : Os) (args : Array Value) : laidMetH Tryz.prog Rows.loadBearsRow.laid ((World.doorLaid Tryz.prog 14 os).forCall (fun _ _ => 0) ⟨#[], args, []⟩).memory :=
  laidMetH_of_parts3 (fuel := 8) (laidMet_of_run' 8 (by kernel_rfl) (by kernel_rfl)) (by kernel_rfl) (by kernel_rfl)
set_option maxRecDepth 100000 in
theorem loadBears_lifted (os : Os) (started : os.Started) (H : Type) (enc : TypeId × Value → H) :
    ReturnsInHanded {} Tryz.checked os 9 .any (fun w args => (Rows.loadBearsSpec.pre enc Tryz.prog Tryz.f9 [] false w args ∧ laidMetH Tryz.prog Rows.loadBearsRow.laid w) ∧ sizedMet enc Tryz.prog Tryz.f9 (OpenSpec.ofChange Rows.loadBearsSpec) false w args) (Rows.loadBearsSpec.post enc Tryz.prog Tryz.f9 false true false false) := by
  refine returnsInHanded_of_change_and (C := Tryz.checked) (X := fun w _ => laidMetH Tryz.prog Rows.loadBearsRow.laid w) (fun _ _ _ hh h => h.of_heap hh) Tryz.own started (by kernel_rfl) Tryz.func9
    (ChangeSpec.witness_shaped (enc := enc) (C := Tryz.checked) (os := os) (X := fun w _ => laidMetH Tryz.prog Rows.loadBearsRow.laid w) false (World.doorLaid Tryz.prog 14 os) #[.agg #[.int .i64 0, .int .i64 0, .int .i64 0, .int .i64 0, .int .i64 0, .int .i64 0, .int .i64 0, .int .i64 0, .int .i64 0, .int .i64 0, .int .i64 0, .int .i64 0, .int .i64 0, .int .i64 0, .int .i64 0, .int .i64 0, .int .i64 0], .agg #[.int .i64 0, .int .i64 0, .int .i64 0, .int .i64 0, .int .i64 0, .int .i64 0, .bool false], .slice none 0 0, .agg #[.slice none 0 0, .slice none 0 0, .slice none 0 0], .int .i64 0, .slice none 0 0] 8 rfl (World.shaped_of_RefB (by kernel_rfl) (by kernel_rfl)) (by kernel_rfl) (by kernel_rfl) (by kernel_rfl) (loadBears_door os _)) ?_
  intro W base args ds gs before hval0 hW _ _ hLd _
  have hval : ∀ (j : Nat) t v, Tryz.f9.params[j]? = some t → args[j]? = some v → Value.okWide Tryz.prog W .any base t v := hval0
  have hW' := hW
  obtain ⟨p, q, hA0, hV, rfl, hfz, hnd⟩ := hW
  have hA : DataW.TrodAll enc Tryz.prog W 0 (fun _ => true) true Tryz.f9.params.toList args.toList ds p := hA0
  have hA1 := hA
  rw [Tryz.params9] at hA hval
  obtain ⟨v0, v1, v2, v3, v4, v5, d0, d1, d2, d3, d4, d5, p0, p1, p2, p3, p4, p5, rfl, rfl, rfl, h0, h1, h2, h3, h4, h5⟩ := trodAll_six hA
  obtain ⟨rfl, rfl⟩ := trodVars_none hV
  have hG : None0 W := none0_of_laid hLd
  obtain ⟨f, rfl⟩ := open_breed (hval 0 79 v0 rfl rfl) h0
  obtain ⟨g, m, rfl⟩ := open_camel (hval 1 81 v1 rfl rfl) h1
  obtain ⟨A, np, cp, pk, rfl, hR⟩ := open_packs (hval 2 22 v2 rfl rfl) h2
  obtain ⟨a, l, c, v, rfl, hI⟩ := open_tied (hval 3 36 v3 rfl rfl) h3
  obtain ⟨b, rfl, _⟩ := open_int Tryz.underlying3 (hval 4 3 v4 rfl rfl) h4
  obtain ⟨B, n, cb, u, rfl, hc, hU, hB⟩ := open_choices (hval 5 46 v5 rfl rfl) h5
  clear hA0 hval0
  simp only [List.append_nil] at hW'
  refine (lawBears_any hG hR hI hc hU hB).mono ?_
  rintro e W' ⟨rfl, hb⟩
  exact ⟨_, rfl, law_post Tryz.laidOut rfl hW' hA1 (by kernel_rfl) (by kernel_rfl) Tryz.underlying4 rfl hb⟩
theorem loadBears_row : Rows.LoadBearsSaid :=
  OpenClaim.holds_of_wide 9 Tryz.f9 rfl rfl rfl rfl rfl rfl rfl ⟨rfl, rfl, rfl, rfl, rfl⟩ rfl rfl rfl rfl rfl (by kernel_rfl) Tryz.func9 (by kernel_rfl)
    (of_decide_eq_true (by kernel_rfl)) (by unfold Func.isWrapper; first | (rw [if_pos (by decide +kernel)]; kernel_rfl) | (rw [if_neg (by decide +kernel)]; exact ⟨rfl, rfl⟩))
    (fun os started H enc _ => loadBears_lifted os started H enc)
theorem loadBears_holds : Rows.LoadBearsCardSaid :=
  Claim7.holds_tied_plain_at .later [] [.data] true _ true
    loadBears_row (fun _ h => by cases h) (by kernel_rfl) (fun _ h => by cases h) loadBears_row_tie rfl ⟨rfl, rfl⟩ (by kernel_rfl) rfl
    (fun f fn hf hfn => by
      obtain rfl : f = 9 := Option.some.inj ((show Tryz.prog.funcNamed "azalai/azalailaw05.LoadBears" = some 9 by kernel_rfl).symm.trans hf) |>.symm
      obtain rfl : fn = Tryz.f9 := (Option.some.inj (Tryz.func9.symm.trans hfn)).symm
      exact ⟨by kernel_rfl, fun j t ht => by
        have hall : (Tryz.f9.params.toList.all fun u => !Tryz.prog.wantsStandIn u) = true := by kernel_rfl
        have hm : t ∈ Tryz.f9.params.toList := by simpa using Array.mem_of_getElem? ht
        exact (show Tryz.prog.wantsStandIn t = false by simpa using List.all_eq_true.1 hall t hm)⟩)
    (by kernel_rfl)
end Go.Proofs.YtjephihlkjpohaaGreatDoor
