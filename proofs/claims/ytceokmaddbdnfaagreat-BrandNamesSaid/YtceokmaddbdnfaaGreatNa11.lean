/-
  The statement BrandNamesSaid: for every input the law BrandNames returns true, and its arguments read afterwards as before. No condition.
-/
import Derived.Test.YtceokmaddbdnfaaGreatNa09
import Derived.Test.YtceokmaddbdnfaaGreatNa10
import Derived.Test.YtceokmaddbdnfaaGreatNa04
import Derived.Test.YtceokmaddbdnfaaGreatRows
import Derived.OpenShut
namespace Go.Proofs.YtceokmaddbdnfaaGreat
set_option linter.all false
set_option linter.unusedVariables false
set_option linter.unusedSimpArgs false
open Go.RowKit
theorem fitL_len {H : Hd} {l : Lk} : (fitL H l).length ≤ H.n := by
 unfold fitL
 split
 · exact Nat.le_trans idsL_le fitP_len
 · exact Nat.zero_le _
theorem telL_len {H : Hd} {id : Int} : (telL H id).length ≤ 8 := by
 unfold telL
 split
 · exact (telK_len 256).1
 · exact Nat.zero_le _
theorem nm_len {H : Hd} {nl nc : Nat} {L : Nat → Lk} {dm yg : Nat → Int} {k : Nat} (hk : k < nmN H nl L nc dm yg) : (nmL H nl L nc dm yg k).length ≤ 1000000 := by
 unfold nmN at hk
 by_cases h0 : nmC H nl L nc dm yg = 0
 · rw [if_pos h0] at hk
   unfold nmC at h0
   by_cases h1 : livC9 H = 0
   · rw [if_neg (fun h => h h1)] at h0
     by_cases h2 : lksC nl L nc dm yg = 0
     · have hh : herdB H = true := by
        cases hh : herdB H with
        | true => rfl
        | false => unfold livC9 at h1; rw [hh] at h1; cases h1
       have := nmL_len (L := L) (herdB_ok.1 hh) (lks_ok h2).2.2 hk
       omega
     · rw [if_pos h2] at h0; exact absurd h0 h2
   · rw [if_pos h1] at h0; exact absurd h0 h1
 · rw [if_neg h0] at hk; omega
set_option maxRecDepth 100000 in
set_option maxHeartbeats 8000000 in
theorem lawNames_any {w : World} {A B C A1 : Option Addr} {cp cb cc c1 nl nc : Nat} {H : Hd} {a : Nat → Option Addr} {c : Nat → Nat} {l : Lk} {L : Nat → Lk} {la : Nat → Option Addr} {lc : Nat → Nat} {dm yg : Nat → Int} {id : Int} (hR : RdR w 5 A H.n (fun i => anL H a c i)) (hM : ∀ i, i < H.n → RdR w 2 (a i) (H.ml i) (fun k => spL (H.sp i k) (H.sg i k)))
  (h1R : RdR w 1 A1 l.ns (fun k => [.int .u32 (l.sg k : Int)])) (h1b : ∀ k, k < l.ns → l.sg k ≤ 4294967295) (hLR : RdR w 4 B nl (fun k => lkL (L k) (la k) (lc k))) (hLs : ∀ k, k < nl → RdR w 1 (la k) (L k).ns (fun j => [.int .u32 ((L k).sg j : Int)])) (hLb : ∀ k, k < nl → ∀ j, j < (L k).ns → (L k).sg j ≤ 4294967295) (hCR : RdR w 2 C nc (fun k => [.int .i64 (dm k), .int .i64 (yg k)])) :
  Calls Tryz.prog 3 #[.slice A H.n cp, .agg (lkL l A1 c1).toArray, .slice B nl cb, .slice C nc cc, .int .i64 id] w (Ret w (.bool true)) := by
 have fF := fun (w' : World) (A9 : Option Addr) (c9 : Nat) (a9 : Nat → Option Addr) (d9 : Nat → Nat) (h1 : HIn w' A9 H a9 d9) (h2 : LkIn w' l A1) => bFits_any (cp := c9) (cl := c1) h1 h2
 have fG := fun (w' : World) (h1 : HIn w' A H a c) (h2 : LkIn w' l A1) => rFits_any (cp := cp) (cl := c1) h1 h2
 have fL := fun (w' : World) (b : Nat) (h : Blk w' b 27 (lkL l A1 c1).toArray) => rGreatL_any (B := some ⟨b, 0, none⟩) (nl := 1) (cb := 1) (L := fun _ => l) (la := fun _ => A1) (lc := fun _ => c1) (RdR.blk (cs := lkL l A1 c1) (n := 1) (sz := 4) h rfl (fun _ _ => rfl))
 unfold lkL at fF fG fL
 unfold lkL
 refine K_enter (S := []) (K := []) Tryz.func3 rfl Tryz.ntmps3 rfl (Sat.start _) ?_
 refine TW.seq fun Y1 hY1 => TW.region ?_
 refine TL.m Mk.bx ?_
 intro b1
 refine TL.p Pu.as ?_
 refine TL.nil (TQ.thenN (hY1 _ _ ?_))
 refine TW.seq fun Y2 hY2 => ?_
 refine TW.seq fun Y3 hY3 => ?_
 refine TW.join [(42, .bool (greatH H || greatL nl L || greatL 1 (fun _ => l) || decide ((10 : Int) < (nc : Int))))] ?_ (fun hJ1 => ?_)
 refine TQ.thenN (hY3 _ _ ?_)
 refine TW.cond rfl (fun hc0 => ?_) (fun hc0 => ?_)
 try simp only [zcb9] at hc0
 refine TW.seq fun Y4 hY4 => TW.region ?_
 refine TL.p Pu.as ?_
 refine TL.nil (TQ.thenN (hY4 _ _ ?_))
 refine TW.ret ?_
 refine TQ.thenR ?_
 refine TQ.ret Tryz.results3 rfl ((.tmp rfl .nil)) ?_
 exact fun w hw => Ret.of hw
 try simp only [zcb9] at hc0
 obtain ⟨⟨⟨hg1, hg2⟩, hg3⟩, hg4⟩ := hc0
 obtain ⟨h20, h12⟩ := great_in (show greatH H = false from hg1)
 obtain ⟨hl6, hl12⟩ := great_looks hg2
 obtain ⟨_, hl1⟩ := great_looks hg3
 have hl1 := hl1 0 (by omega)
 have hl : ∀ i, i < H.n → H.ml i ≤ 1000 := fun i hi => by have := h12 i hi; omega
 have hI : HIn w A H a c := ⟨by omega, hR, hM, hl⟩
 have hLk : LkIn w l A1 := ⟨by omega, h1R, h1b⟩
 have hLL : LksIn w nl L B la lc := ⟨by omega, hLR, fun k hk => ⟨by have := hl12 k hk; omega, hLs k hk, hLb k hk⟩⟩
 have hCC : CvsIn w nc dm yg C := ⟨by omega, hCR⟩
 have hfl := fitL_len (H := H) (l := l)
 have htl := telL_len (H := H) (id := id)
 have hnN : nmN H nl L nc dm yg ≤ nl := by unfold nmN; split <;> omega
 refine TW.skip ?_
 refine TQ.thenN (hY2 _ _ ?_)
 refine TW.seq fun Y5 hY5 => TW.region ?_
 refine TL.p Pu.mv ?_
 refine TL.call (M := []) rfl (enters Tryz.func15 rfl rfl) (List.Perm.refl _) rfl (fun w hw => by
   exact bTwin_any (hI.sat hw)) ?_
 rintro tx
 refine TL.bun ?_
 refine TL.m Mk.bl ?_
 intro b2
 refine TL.p Pu.mv ?_
 refine TL.ob (E := 50) (sz := 2) (r := fun _ => []) pk9 rfl ?_
 refine TL.a0 ty_et29 ?_ (hsrc := fun w hK => hCR.sat0 hK (fun _ => Apart.nil))
 intro A8 c8
 refine TL.p Pu.as ?_
 refine TL.p Pu.as ?_
 refine TL.nil (TQ.thenN (hY5 _ _ ?_))
 refine TW.seq fun Y6 hY6 => TW.region ?_
 refine TL.p Pu.mv ?_
 refine TL.p (Pu.lds ty_ag27) ?_
 refine TL.call (M := []) rfl (enters Tryz.func16 rfl rfl) (List.Perm.refl _) rfl (fun w hw => by
   exact fF _ _ _ _ _ (twK_in hw (by simp) (by omega) hl) (hLk.sat hw)) ?_
 rintro ⟨P1, p1⟩
 refine TL.p Pu.mv ?_
 refine TL.p Pu.ex ?_
 refine TL.p Pu.ex ?_
 refine TL.p Pu.as ?_
 refine TL.p Pu.as ?_
 refine TL.nil (TQ.thenN (hY6 _ _ ?_))
 refine TW.seq fun Y7 hY7 => TW.region ?_
 refine TL.p Pu.mv ?_
 refine TL.p (Pu.lds ty_ag27) ?_
 refine TL.call (M := []) rfl (enters Tryz.func17 rfl rfl) (List.Perm.refl _) rfl (fun w hw => by
   exact fG _ (hI.sat hw) (hLk.sat hw)) ?_
 rintro ⟨P2, p2⟩
 refine TL.p Pu.mv ?_
 refine TL.p Pu.ex ?_
 refine TL.p Pu.ex ?_
 refine TL.p Pu.as ?_
 refine TL.p Pu.as ?_
 refine TL.nil (TQ.thenN (hY7 _ _ ?_))
 refine TW.seq fun Y8 hY8 => TW.region ?_
 refine TL.p Pu.mv ?_
 refine TL.p Pu.mv ?_
 refine TL.p Pu.mv ?_
 refine TL.call (M := []) rfl (enters Tryz.func18 rfl rfl) (List.Perm.refl _) rfl (fun w hw => by
   exact bNames_any (twK_in hw (by simp) (by omega) hl) (hLL.ext (Chg.ext hw.chg)) ⟨by omega, OwnR.rdr (hw.holds (.own A8 nc c8 50 2 (fun k => [.int .i64 (dm k), .int .i64 (yg k)])) (Pick.mem pk9))⟩) ?_
 rintro y1
 simp only [nmF, List.cons_append, List.nil_append]
 refine TL.p Pu.mv ?_
 refine TL.p Pu.ex ?_
 refine TL.p Pu.ex ?_
 refine TL.p Pu.as ?_
 refine TL.p Pu.as ?_
 refine TL.nil (TQ.thenN (hY8 _ _ ?_))
 refine TW.seq fun Y9 hY9 => TW.region ?_
 refine TL.p Pu.mv ?_
 refine TL.p Pu.mv ?_
 refine TL.p Pu.mv ?_
 refine TL.call (M := []) rfl (enters Tryz.func19 rfl rfl) (List.Perm.refl _) rfl (fun w hw => by
   exact rNames_any (hI.sat hw) (hLL.ext (Chg.ext hw.chg)) (hCC.ext (Chg.ext hw.chg))) ?_
 rintro y2
 simp only [nmF, List.cons_append, List.nil_append]
 refine TL.p Pu.mv ?_
 refine TL.p Pu.ex ?_
 refine TL.p Pu.ex ?_
 refine TL.p Pu.as ?_
 refine TL.p Pu.as ?_
 refine TL.nil (TQ.thenN (hY9 _ _ ?_))
 refine TW.seq fun Y10 hY10 => TW.region ?_
 refine TL.p Pu.mv ?_
 refine TL.p Pu.mv ?_
 refine TL.call (M := []) rfl (enters Tryz.func20 rfl rfl) (List.Perm.refl _) rfl (fun w hw => by
   exact bTell_any (twK_in hw (by simp) (by omega) hl)) ?_
 rintro ⟨Q1, q1⟩
 refine TL.p Pu.mv ?_
 refine TL.p Pu.ex ?_
 refine TL.p Pu.ex ?_
 refine TL.p Pu.as ?_
 refine TL.p Pu.as ?_
 refine TL.nil (TQ.thenN (hY10 _ _ ?_))
 refine TW.seq fun Y11 hY11 => TW.region ?_
 refine TL.p Pu.mv ?_
 refine TL.p Pu.mv ?_
 refine TL.call (M := []) rfl (enters Tryz.func21 rfl rfl) (List.Perm.refl _) rfl (fun w hw => by
   exact rTell_any (hI.sat hw)) ?_
 rintro ⟨Q2, q2⟩
 refine TL.p Pu.mv ?_
 refine TL.p Pu.ex ?_
 refine TL.p Pu.ex ?_
 refine TL.p Pu.as ?_
 refine TL.p Pu.as ?_
 refine TL.nil (TQ.thenN (hY11 _ _ ?_))
 refine TW.seq fun Y12 hY12 => TW.region ?_
 refine TL.p Pu.mv ?_
 refine TL.p Pu.mv ?_
 refine TL.cr rfl (enters Tryz.func22 rfl rfl) (fun w hw => by
   exact bSameInts_any (v := fun j => (fitL H l).getD j 0) (by omega) (OwnR.rdr (hw.holds (.own P1 (fitL H l).length p1 3 1 (iL (fitL H l))) (Pick.mem pk9))) (OwnR.rdr (hw.holds (.own P2 (fitL H l).length p2 3 1 (iL (fitL H l))) (Pick.mem pk9)))) ?_
 refine TL.lit (t := 88) (b' := true) rfl (rfl) ?_
 refine TL.p Pu.mv ?_
 refine TL.gd Pu.mv ?_
 refine TL.gd Pu.mv ?_
 refine TL.gd Pu.eq ?_
 refine TL.lit (t := 92) (b' := true) rfl ((by simp)) ?_
 refine TL.p Pu.kt ?_
 refine TL.p Pu.mv ?_
 refine TL.gd Pu.mv ?_
 refine TL.gd Pu.mv ?_
 refine TL.cr rfl (enters Tryz.func23 rfl rfl) (fun w hw => by
   exact rSameL_any (L := nmL H nl L nc dm yg) (by omega) (fun k hk => nm_len hk) (OwnR.rdr (hw.holds (.own y1.1.1 (nmN H nl L nc dm yg) y1.1.2 33 1 (fun k => [.slice (y1.2.1 k) (nmL H nl L nc dm yg k).length (y1.2.2 k)])) (Pick.mem pk9))) (OwnR.rdr (hw.holds (.own y2.1.1 (nmN H nl L nc dm yg) y2.1.2 33 1 (fun k => [.slice (y2.2.1 k) (nmL H nl L nc dm yg k).length (y2.2.2 k)])) (Pick.mem pk9))) (fun k hk => OwnR.rdr (bun_get hw (K1 := ownsE 3 1 y1.2.1 (fun k => (nmL H nl L nc dm yg k).length) y1.2.2 (fun k => iL (nmL H nl L nc dm yg k)) (nmN H nl L nc dm yg)) (Pick.mem pk9) (ownsE_mem hk))) (fun k hk => OwnR.rdr (bun_get hw (K1 := ownsE 3 1 y2.2.1 (fun k => (nmL H nl L nc dm yg k).length) y2.2.2 (fun k => iL (nmL H nl L nc dm yg k)) (nmN H nl L nc dm yg)) (Pick.mem pk9) (ownsE_mem hk)))) ?_
 refine TL.lit (t := 97) (b' := true) rfl (rfl) ?_
 refine TL.p Pu.kt ?_
 refine TL.p Pu.mv ?_
 refine TL.gd Pu.mv ?_
 refine TL.gd Pu.mv ?_
 refine TL.gd Pu.eq ?_
 refine TL.lit (t := 102) (b' := true) rfl ((by simp)) ?_
 refine TL.p Pu.kt ?_
 refine TL.p Pu.mv ?_
 refine TL.gd Pu.mv ?_
 refine TL.gd Pu.mv ?_
 refine TL.cr rfl (enters Tryz.func22 rfl rfl) (fun w hw => by
   exact bSameInts_any (v := fun j => (telL H id).getD j 0) (by omega) (OwnR.rdr (hw.holds (.own Q1 (telL H id).length q1 3 1 (iL (telL H id))) (Pick.mem pk9))) (OwnR.rdr (hw.holds (.own Q2 (telL H id).length q2 3 1 (iL (telL H id))) (Pick.mem pk9)))) ?_
 refine TL.lit (t := 107) (b' := true) rfl (rfl) ?_
 refine TL.p Pu.kt ?_
 refine TL.p Pu.mv ?_
 refine TL.gd Pu.mv ?_
 refine TL.gd Pu.mv ?_
 refine TL.gd Pu.eq ?_
 refine TL.lit (t := 112) (b' := true) rfl ((by simp)) ?_
 refine TL.p Pu.kt ?_
 refine TL.p Pu.mv ?_
 refine TL.gd Pu.mv ?_
 refine TL.gd Pu.mv ?_
 refine TL.cr rfl (enters Tryz.func24 rfl rfl) (fun w hw => by
   exact bSame_any (twK_in hw (by simp) (by omega) hl) (hI.sat hw)) ?_
 refine TL.p Pu.kt ?_
 refine TL.p Pu.as ?_
 refine TL.nil (TQ.thenN (hY12 _ _ ?_))
 refine TW.seq fun Y13 hY13 => ?_
 refine TW.seq fun Y14 hY14 => TW.region ?_
 refine TL.p Pu.mv ?_
 refine TL.p (Pu.ln Tryz.underlying29) ?_
 refine TL.p Pu.mv ?_
 refine TL.nil (TQ.thenN (hY14 _ _ ?_))
 refine TW.block ?_
 refine TW.loop1 (fun (k : Nat) => [(121, .int .i64 (k : Int)), (120, .int .i64 (nc : Int)), (25, .bool true), (12, .slice A8 nc c8), (3, .slice C nc cc)]) (fun k => [.own A8 nc c8 50 2 (fun k => [.int .i64 (dm k), .int .i64 (yg k)])]) (fun k => k ≤ nc) (fun k => nc - k) 0 fs9 ?_ ?_ ?_
 exact KSub.cons pk9 KSub.nil
 exact (by omega)
 rintro k hk Z0 hZ0
 refine TW.seq fun Y15 hY15 => TW.region ?_
 refine TL.p Pu.lt ?_
 refine TL.nil (TQ.thenN (hY15 _ _ ?_))
 refine TW.seq fun Y16 hY16 => ?_
 refine TW.cond rfl (fun hc1 => ?_) (fun hc1 => ?_)
 try simp only [zcb9] at hc1
 have hkn : k < nc := by omega
 refine TW.skip ?_
 refine TQ.thenN (hY16 _ _ ?_)
 refine TW.seq fun Y17 hY17 => ?_
 refine TW.block ?_
 refine TW.seq fun Y18 hY18 => TW.region ?_
 refine TL.p Pu.mv ?_
 refine TL.p Pu.as ?_
 refine TL.nil (TQ.thenN (hY18 _ _ ?_))
 refine TW.dw 13 ?_
 refine RK.tk Pu.mv ?_
 refine RK.tk Pu.mv ?_
 refine RK.tk Pu.mv ?_
 refine RK.tk Pu.mv ?_
 refine RK.tk (Pu.el ty_et29) ?_
 refine RK.tk (Pu.lds ty_ag50) ?_
 refine RK.tk Pu.mv ?_
 refine RK.tk Pu.mv ?_
 refine RK.tk (Pu.el ty_et29) ?_
 refine RK.tk (Pu.lds ty_ag50) ?_
 refine RK.tk (Pu.bv (Pu.q2 ty_q2_50) (show (decide (dm k = dm k) && decide (yg k = yg k)) = true by simp)) ?_
 refine RK.tk Pu.kt ?_
 refine RK.tk Pu.as ?_
 refine RK.ch [] ?_ trivial
 refine WK.n ?_
 refine TL.nil ?_
 refine TQ.blkN ?_
 refine TQ.thenN (hY17 _ _ ?_)
 refine TW.region ?_
 refine TL.p Pu.ad ?_
 refine TL.p Pu.mv ?_
 refine TL.nil ?_
 refine TQ.thenN (hZ0 (k + 1) _ _ ?_ ?_ fs9 ?_)
 exact (by omega)
 exact zom9
 exact KSub.cons pk9 KSub.nil
 try simp only [zcb9] at hc1
 refine TW.exit ?_
 refine TQ.thenX ?_
 refine TQ.thenX ?_
 refine TQ.blkX ?_
 refine TQ.thenN (hY13 _ _ ?_)
 refine TW.seq fun Y19 hY19 => TW.region ?_
 refine TL.p Pu.mv ?_
 refine TL.p Pu.as ?_
 refine TL.nil (TQ.thenN (hY19 _ _ ?_))
 refine TW.ret ?_
 refine TQ.ret Tryz.results3 rfl ((.tmp rfl .nil)) ?_
 exact fun w hw => Ret.of hw
 refine TW.region ?_
 refine TL.p Pu.mv ?_
 refine TL.cr rfl (enters Tryz.func13 rfl rfl) (fun w hw => by
   exact rGreat_any (hR.sat hw Apart.nil)) ?_
 refine TL.p Pu.mv ?_
 refine TL.guard (t := 29) rfl (fun hg1 => ?_) (fun hg1 => ?_)
 try simp only [zgb9] at hg1
 refine TL.gs ?_
 refine TL.gs ?_
 refine TL.p Pu.kt ?_
 refine TL.p Pu.mv ?_
 refine TL.gs ?_
 refine TL.gs ?_
 refine TL.gs ?_
 refine TL.p Pu.kt ?_
 refine TL.p Pu.mv ?_
 refine TL.gs ?_
 refine TL.gs ?_
 refine TL.gs ?_
 refine TL.p Pu.kt ?_
 refine TL.nil ?_
 exact TQ.sub (by repeat (first | exact trivial | refine ⟨rfl, ?_⟩ | refine ⟨trivial, ?_⟩ | refine ⟨(by show some (Value.bool _) = some (Value.bool _); first | (simp [hg1]; done) | (refine congrArg (fun z => some (Value.bool z)) (Bool.eq_iff_iff.2 ?_); simp [hg1]; omega)), ?_⟩)) kt9 hJ1
 try simp only [zgb9] at hg1
 refine TL.gd Pu.mv ?_
 refine TL.cr rfl (enters Tryz.func14 rfl rfl) (fun w hw => by
   exact rGreatL_any (hLR.sat hw Apart.nil)) ?_
 refine TL.p Pu.kf ?_
 refine TL.p Pu.mv ?_
 refine TL.guard (t := 33) rfl (fun hg2 => ?_) (fun hg2 => ?_)
 try simp only [zgb9] at hg2
 refine TL.gs ?_
 refine TL.gs ?_
 refine TL.gs ?_
 refine TL.p Pu.kt ?_
 refine TL.p Pu.mv ?_
 refine TL.gs ?_
 refine TL.gs ?_
 refine TL.gs ?_
 refine TL.p Pu.kt ?_
 refine TL.nil ?_
 exact TQ.sub (by repeat (first | exact trivial | refine ⟨rfl, ?_⟩ | refine ⟨trivial, ?_⟩ | refine ⟨(by show some (Value.bool _) = some (Value.bool _); first | (simp [hg1, hg2]; done) | (refine congrArg (fun z => some (Value.bool z)) (Bool.eq_iff_iff.2 ?_); simp [hg1, hg2]; omega)), ?_⟩)) kt9 hJ1
 try simp only [zgb9] at hg2
 refine TL.gd (Pu.lds ty_ag27) ?_
 refine TL.gm Mk.bl ?_
 intro b3
 refine TL.cr rfl (enters Tryz.func14 rfl rfl) (fun w hw => by
   exact fL _ _ (hw.holds _ (List.mem_cons_self ..))) ?_
 refine TL.p Pu.kf ?_
 refine TL.p Pu.mv ?_
 refine TL.guard (t := 38) rfl (fun hg3 => ?_) (fun hg3 => ?_)
 try simp only [zgb9] at hg3
 refine TL.gs ?_
 refine TL.gs ?_
 refine TL.gs ?_
 refine TL.p Pu.kt ?_
 refine TL.nil ?_
 exact TQ.sub (by repeat (first | exact trivial | refine ⟨rfl, ?_⟩ | refine ⟨trivial, ?_⟩ | refine ⟨(by show some (Value.bool _) = some (Value.bool _); first | (simp [hg1, hg2, hg3]; done) | (refine congrArg (fun z => some (Value.bool z)) (Bool.eq_iff_iff.2 ?_); simp [hg1, hg2, hg3]; omega)), ?_⟩)) kt9 hJ1
 try simp only [zgb9] at hg3
 refine TL.gd Pu.mv ?_
 refine TL.gd (Pu.ln Tryz.underlying29) ?_
 refine TL.gd Pu.gt ?_
 refine TL.p Pu.kf ?_
 refine TL.nil ?_
 exact TQ.sub (by repeat (first | exact trivial | refine ⟨rfl, ?_⟩ | refine ⟨trivial, ?_⟩ | refine ⟨(by show some (Value.bool _) = some (Value.bool _); first | (simp [hg1, hg2, hg3]; done) | (refine congrArg (fun z => some (Value.bool z)) (Bool.eq_iff_iff.2 ?_); simp [hg1, hg2, hg3]; omega)), ?_⟩)) kt9 hJ1
end Go.Proofs.YtceokmaddbdnfaaGreat
namespace Go.Proofs.YtceokmaddbdnfaaGreat
set_option linter.all false
set_option linter.unusedVariables false
set_option linter.unusedSimpArgs false
open Go.ChangeShapes Go.WideShapes Go.ChangeAt Go.RowKit Go.Deep
section
variable {H : Type} {enc : TypeId × Value → H} {w : World} {base : Nat} {spare : Nat → Bool} {held : Bool}
theorem trod_int9 {P : Program} {n : Nat} {t : TypeId} {k : IntKind} {cs : List Value} {y : DataW H × List MemPlace} (ht : P.underlying t = some (.int k)) (h : DataW.trod enc P w base spare held n t cs = some y) : ∃ x : Int, cs = [.int k x] ∧ k.min ≤ x ∧ x ≤ k.max := by
 cases n with
 | zero => cases h
 | succ n =>
  unfold DataW.trod at h
  rw [ht] at h
  split at h <;> first | (rename_i e _; cases e; done) | skip
  all_goals first | (rename_i k1 k2 x e; cases e; split at h; (rename_i hx; obtain ⟨rfl, hw⟩ := hx; simp only [Lit.wf, Bool.and_eq_true, decide_eq_true_eq] at hw; exact ⟨x, rfl, hw.1, hw.2⟩); cases h) | (cases h; done) | (rename_i e; cases e; done) | (rename_i e _ _; cases e; done) | (rename_i e _ _ _; cases e; done)
set_option maxRecDepth 100000 in
theorem u32s_of_trod {fuel : Nat} {cs : List Value} {y : DataW H × List MemPlace} (h : DataW.trod enc Tryz.prog w base spare held fuel 23 cs = some y) :
  ∃ (A : Option Addr) (n c : Nat) (u : Nat → Nat), cs = [.slice A n c] ∧ RdR w 1 A n (fun k => [.int .u32 (u k : Int)]) ∧ ∀ k, k < n → u k ≤ 4294967295 := by
 obtain ⟨A, n, c, G, rfl, hR, hel, _⟩ := open_slice_any (sz := 1) Tryz.underlying23 (by kernel_rfl) rfl h
 obtain ⟨u, hu, hb⟩ := rows_choose (F := fun x : Nat => [Value.int .u32 (x : Int)]) (q := fun _ x => x ≤ 4294967295) 0 hR (fun i hi => by
  obtain ⟨m, z, hz⟩ := hel i hi
  obtain ⟨x, e, h1, h2⟩ := trod_int9 Tryz.underlying53 hz
  have h1 : 0 ≤ x := h1
  have h2 : x ≤ 4294967295 := h2
  obtain ⟨y, rfl⟩ := Int.eq_ofNat_of_zero_le h1
  exact ⟨y, e, by omega⟩)
 exact ⟨A, n, c, u, rfl, hu, hb⟩
structure LkP where
 l : Lk
 A : Option Addr
 c : Nat
def lkpL (x : LkP) : List Value := lkL x.l x.A x.c
def lkpQ (w : World) (x : LkP) : Prop := RdR w 1 x.A x.l.ns (fun k => [.int .u32 (x.l.sg k : Int)]) ∧ ∀ k, k < x.l.ns → x.l.sg k ≤ 4294967295
set_option maxRecDepth 100000 in
theorem look_of_trod {fuel : Nat} {G : List Value} {y : DataW H × List MemPlace} (hl : G.length = 4) (hy : DataW.trod enc Tryz.prog w base spare held fuel 27 G = some y) : ∃ x : LkP, G = lkpL x ∧ lkpQ w x := by
  obtain ⟨_, hf⟩ := trod_fields Tryz.underlying27 hy
  obtain ⟨n0, y0, h0⟩ := hf 0 _ rfl
  obtain ⟨n1, y1, h1⟩ := hf 1 _ rfl
  obtain ⟨n2, y2, h2⟩ := hf 2 _ rfl
  obtain ⟨A, n, c, u, e0, hR, hb⟩ := u32s_of_trod h0
  obtain ⟨k1, e1, _, _⟩ := DataW.trod_int Tryz.underlying3 h1
  obtain ⟨s2, e2, l2⟩ := kindsF_spec 2 25 [.i64, .i64] (by kernel_rfl) _ _ _ h2
  have hc0 : Tryz.prog.cellsOf 23 = 1 := by kernel_rfl
  have hc1 : Tryz.prog.cellsOf 3 = 1 := by kernel_rfl
  have hc2 : Tryz.prog.cellsOf 25 = 2 := by kernel_rfl
  match s2, l2 with
  | [a0, a1], _ =>
    match G, hl with
    | [x0, x1, x2, x3], _ =>
      have e0 : [x0] = [.slice A n c] := by simpa [hc0] using e0
      have e1 : [x1] = [.int .i64 k1] := by simpa [hc0, hc1] using e1
      have e2 : [x2, x3] = [.int .i64 a0, .int .i64 a1] := by simpa [hc0, hc1, hc2, ints] using e2
      cases e0; cases e1; cases e2
      exact ⟨⟨⟨n, u, k1, a0, a1⟩, A, c⟩, rfl, hR, hb⟩
set_option maxRecDepth 100000 in
theorem open_look {r : Reach} {b0 : Nat} {v : Value} {dd : DataW H} {p : List MemPlace} (hv : Value.okWide Tryz.prog w r b0 27 v) (h : DataW.Trod enc Tryz.prog w base spare held 27 v dd p) :
  ∃ x : LkP, v = .agg (lkpL x).toArray ∧ lkpQ w x := by
 obtain ⟨cs, rfl, hlen⟩ := okWide_struct Tryz.underlying27 hv
 obtain ⟨fuel, hf⟩ := h
 obtain ⟨hl, _⟩ := trod_fields Tryz.underlying27 hf
 have hc : Tryz.prog.cellsOf 27 = 4 := by kernel_rfl
 rw [hc] at hl
 obtain ⟨x, e, hq⟩ := look_of_trod (G := cs.toList) hl hf
 obtain ⟨L⟩ := cs
 simp only at e
 subst e
 exact ⟨x, rfl, hq⟩
set_option maxRecDepth 100000 in
theorem open_looks {r : Reach} {b0 : Nat} {v : Value} {dd : DataW H} {p : List MemPlace} (hv : Value.okWide Tryz.prog w r b0 28 v) (h : DataW.Trod enc Tryz.prog w base spare held 28 v dd p) :
  ∃ (A : Option Addr) (n cp : Nat) (x : Nat → LkP), v = .slice A n cp ∧ RdR w 4 A n (fun i => lkpL (x i)) ∧ ∀ i, i < n → lkpQ w (x i) := by
 obtain ⟨A0, n0, c0, rfl⟩ := okWide_slice Tryz.underlying28 hv
 obtain ⟨fuel, h⟩ := h
 obtain ⟨A, m, cp, G, e, hR, hel, _, hc, _⟩ := open_slice_any (sz := 4) Tryz.underlying28 (by kernel_rfl) rfl h
 simp only [Value.cells, List.cons.injEq, Value.slice.injEq, and_true] at e
 obtain ⟨rfl, rfl, rfl⟩ := e
 obtain ⟨x, hx, hq⟩ := rows_choose (F := lkpL) (q := fun _ x => lkpQ w x) ⟨⟨0, fun _ => 0, 0, 0, 0⟩, none, 0⟩ hR (fun i hi => by
  obtain ⟨n, y, hy⟩ := hel i hi
  exact look_of_trod (hR.len i hi) hy)
 exact ⟨A0, n0, c0, x, rfl, hx, hq⟩
set_option maxRecDepth 100000 in
theorem open_calves {r : Reach} {b0 : Nat} {v : Value} {dd : DataW H} {p : List MemPlace} (hv : Value.okWide Tryz.prog w r b0 29 v) (h : DataW.Trod enc Tryz.prog w base spare held 29 v dd p) :
  ∃ (A : Option Addr) (n cp : Nat) (dm yg : Nat → Int), v = .slice A n cp ∧ RdR w 2 A n (fun k => [.int .i64 (dm k), .int .i64 (yg k)]) := by
 obtain ⟨A, n, cp, g, rfl, hg, hR, _, _, _⟩ := open_rows 2 [.i64, .i64] Tryz.underlying29 (by kernel_rfl) (by kernel_rfl) rfl hv h
 exact ⟨A, n, cp, fun k => gi (g k) 0, fun k => gi (g k) 1, rfl, hR.rowK hg⟩
end
end Go.Proofs.YtceokmaddbdnfaaGreat
namespace Go.Proofs.YtceokmaddbdnfaaGreat
set_option linter.all false
set_option linter.unusedVariables false
set_option linter.unusedSimpArgs false
open Go.ChangeShapes Go.WideShapes Go.ChangeAt Go.RowKit Go.Deep
theorem Tryz.own : ownKnob Tryz.prog.godebug = none := by kernel_rfl
theorem Tryz.laidOut : laidOutB Tryz.prog = true := by kernel_rfl
set_option maxRecDepth 100000 in
theorem brandNames_lifted (os : Os) (started : os.Started) (H : Type) (enc : TypeId × Value → H) :
    ReturnsInHanded {} Tryz.checked os 3 .any (Rows.brandNamesSpec.pre6 enc Tryz.prog Tryz.f3 Rows.brandNamesRow.domain false) (Rows.brandNamesSpec.post enc Tryz.prog Tryz.f3 false true false false) := by
  refine returnsInHanded_of_change (C := Tryz.checked) Tryz.own started (by kernel_rfl) Tryz.func3
    (ChangeSpec.witness6 (enc := enc) (C := Tryz.checked) false ⟨#[], #[.slice none 0 0, .agg #[.slice none 0 0, .int .i64 0, .int .i64 0, .int .i64 0], .slice none 0 0, .slice none 0 0, .int .i64 0], []⟩ 8 (by kernel_rfl) (by kernel_rfl) (by kernel_rfl) (by kernel_rfl)) ?_
  intro W base args ds gs before hval0 hW hcnd _
  have hval : ∀ (j : Nat) t v, Tryz.f3.params[j]? = some t → args[j]? = some v → Value.okWide Tryz.prog W .any base t v := hval0
  have hW' := hW
  obtain ⟨p, q, hA0, hV, rfl, hfz, hnd⟩ := hW
  have hA : DataW.TrodAll enc Tryz.prog W 0 (fun _ => true) true Tryz.f3.params.toList args.toList ds p := hA0
  have hA1 := hA
  rw [Tryz.params3] at hA hval
  obtain ⟨v0, v1, v2, v3, v4, d0, d1, d2, d3, d4, p0, p1, p2, p3, p4, rfl, rfl, rfl, h0, h1, h2, h3, h4⟩ := trodAll_five hA
  obtain ⟨rfl, rfl⟩ := trodVars_none hV
  obtain ⟨A, cp, Hh, a, c, rfl, hR, hM⟩ := open_herd (hval 0 22 v0 rfl rfl) h0
  obtain ⟨l, rfl, hl1, hl2⟩ := open_look (hval 1 27 v1 rfl rfl) h1
  obtain ⟨B, nl, cb, x, rfl, hLR, hLq⟩ := open_looks (hval 2 28 v2 rfl rfl) h2
  obtain ⟨C, nc, cc, dm, yg, rfl, hCR⟩ := open_calves (hval 3 29 v3 rfl rfl) h3
  obtain ⟨id, rfl⟩ := okWide_int Tryz.underlying3 (hval 4 3 v4 rfl rfl)
  clear hA0 hval0
  simp only [List.append_nil] at hW'
  refine (lawNames_any (id := id) (L := fun k => (x k).l) (la := fun k => (x k).A) (lc := fun k => (x k).c) hR hM hl1 hl2 hLR (fun k hk => (hLq k hk).1) (fun k hk => (hLq k hk).2) hCR).mono ?_
  rintro e W' ⟨rfl, hb⟩
  exact ⟨_, rfl, law_post Tryz.laidOut rfl hW' hA1 (by kernel_rfl) (by kernel_rfl) Tryz.underlying4 rfl hb⟩
theorem brandNames_holds : Rows.BrandNamesSaid :=
  OpenClaim.holds_of_wide 3 Tryz.f3 rfl rfl rfl rfl rfl rfl rfl ⟨rfl, rfl, rfl, rfl, rfl⟩ rfl rfl rfl rfl rfl (by kernel_rfl) Tryz.func3 (by kernel_rfl)
    (of_decide_eq_true (by kernel_rfl)) (by unfold Func.isWrapper; first | (rw [if_pos (by decide +kernel)]; kernel_rfl) | (rw [if_neg (by decide +kernel)]; exact ⟨rfl, rfl⟩))
    (fun os started H enc _ => brandNames_lifted os started H enc)
end Go.Proofs.YtceokmaddbdnfaaGreat
