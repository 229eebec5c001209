/-
  The statement TollHiresCardSaid: for every input the law TollHires returns true, and its arguments read afterwards as before; toll.bars reads as the program's text lays it, by the tie that is given. No other condition.
-/
import Derived.Test.YtfaenhhgkhcghaaGreatDoorHs14
import Derived.Test.YtfaenhhgkhcghaaGreatDoorHs13
import Derived.Test.YtfaenhhgkhcghaaGreatDoorHs02
import Derived.ProofKit
import Derived.Deep.Slices
import Derived.Carry
import Derived.Test.YtfaenhhgkhcghaaGreatDoorHs11
import Derived.Test.YtfaenhhgkhcghaaGreatDoorRows
import Derived.OpenShut
import Derived.LaidMore
import Derived.Stop.Joined
import Derived.Test.YtfaenhhgkhcghaaGreatDoorTie
import Derived.Test.YtfaenhhgkhcghaaGreatDoorCards
import Derived.SevenTiedAt
namespace Go.Proofs.YtfaenhhgkhcghaaGreatDoor
set_option linter.all false
set_option linter.unusedVariables false
set_option linter.unusedSimpArgs false
open Go.RowKit
theorem Pu.bvM {c : Cx} {F : Fr} {K : List Fact} {o : Oper} {b b' : Bool} (h : Pu c F K o (.bool b)) (e : b = b') : Pu c F K o (.bool b') := e ▸ h
section
variable {Y : Wy} {Z : Cus} {T : Trp} {E : Fes} {to un : Int}
theorem hirL_len : (hirL Y Z T E).length ≤ E.nf := by
 unfold hirL
 split
 · exact hirK_len _
 · exact Nat.zero_le _
theorem chpK_len {L : List (List Int)} : ∀ k, (chpK Y Z T E L k).2.1.length ≤ E.nf
 | 0 => Nat.zero_le _
 | k + 1 => by
  simp only [chpK]
  split
  · exact hirK_len _
  · exact chpK_len k
theorem chpG_len : (chpG Y Z T E to un).length ≤ E.nf := by
 unfold chpG
 split
 · exact chpK_len _
 · exact Nat.zero_le _
theorem chpL_len : (chpL Y Z T E to un).length ≤ 24 := by
  unfold chpL
  split
  · by_cases hwz : wsC Y to un = 0
    · rw [List.getD_eq_getElem?_getD]
      by_cases hk : (chpS Y Z T E to un).1 < (wsL Y to un).length
      · rw [List.getElem?_eq_getElem hk]
        exact wsL_n hwz (List.getElem_mem _)
      · rw [List.getElem?_eq_none (by omega)]
        exact Nat.zero_le _
    · have e : wsL Y to un = [] := if_neg hwz
      rw [e]
      exact Nat.zero_le _
  · exact Nat.zero_le _
end
section
variable {Y : Wy} {Z : Cus} {T : Trp} {E : Fes} {to un : Int} {W A L C D B O U V G : Option Addr} {cw cl cn cc cd cb co cu cv cg : Nat} {w : World}
set_option maxRecDepth 100000 in
set_option maxHeartbeats 8000000 in
theorem lawHires_any (hE : RdR w 2 G E.nf (feeL E)) (a : ArgIn w Y Z T W A L C D B O U V) (hRL : RdR w 1 L Y.n (fun k => [.int .i64 (Y.ls k)])) (hG : OldB w 0 barsL) :
  Calls Tryz.prog 3 #[.agg (landL W Y.nw cw A Y.nl cl).toArray, .agg (custL C Z.nc cc D Z.nd cd B Z.nb cb).toArray, .agg (troopL T.hd T.wo O T.no co U T.nu cu V T.nv cv).toArray, .slice G E.nf cg, .int .i64 Y.start, .int .i64 to, .int .i64 Y.day, .int .i64 un, .agg #[.int .i64 Y.p0, .int .i64 Y.p1], .slice L Y.n cn] w (Ret w (.bool true)) := by
 have fC := fun (w' : World) (O9 U9 V9 G9 : Option Addr) (co9 cu9 cv9 cg9 : Nat) (h1 : LandIn w' W Y.nw A Y.nl Y.f Y.x Y.g) (h3 : CustIn w' C Z.nc D Z.nd B Z.nb Z.c Z.d Z.b) (h4 : TrpIn w' T O9 U9 V9) (h5 : OldB w' 0 barsL) (hnf : E.nf ≤ 1000) (h6 : RdR w' 2 G9 E.nf (feeL E)) => tollCheapest_any (to := to) (un := un) (cw := cw) (cl := cl) (cc := cc) (cd := cd) (cb := cb) (co := co9) (cu := cu9) (cv := cv9) (cg := cg9) h1 h3 h4 h5 hnf h6
 have fD := fun (w' : World) (h1 : LandIn w' W Y.nw A Y.nl Y.f Y.x Y.g) (h3 : CustIn w' C Z.nc D Z.nd B Z.nb Z.c Z.d Z.b) (h4 : TrpIn w' T O U V) (hnf : E.nf ≤ 1000) (h6 : RdR w' 2 G E.nf (feeL E)) => refCheapest_any (to := to) (un := un) (cw := cw) (cl := cl) (cc := cc) (cd := cd) (cb := cb) (co := co) (cu := cu) (cv := cv) (cg := cg) h1 h3 h4 hnf h6
 have fH := fun (w' : World) (O9 U9 V9 G9 : Option Addr) (co9 cu9 cv9 cg9 : Nat) (hn : Y.n ≤ 1000) (h1 : LandIn w' W Y.nw A Y.nl Y.f Y.x Y.g) (h2 : RdR w' 1 L Y.n (fun k => [.int .i64 (Y.ls k)])) (h3 : CustIn w' C Z.nc D Z.nd B Z.nb Z.c Z.d Z.b) (h4 : TrpIn w' T O9 U9 V9) (h5 : OldB w' 0 barsL) (hnf : E.nf ≤ 1000) (h6 : RdR w' 2 G9 E.nf (feeL E)) => tollHire_any (L := L) (cw := cw) (cl := cl) (cn := cn) (cc := cc) (cd := cd) (cb := cb) (co := co9) (cu := cu9) (cv := cv9) (cg := cg9) h1 hn h2 h3 h4 h5 hnf h6
 have fI := fun (w' : World) (hn : Y.n ≤ 1000) (h1 : LandIn w' W Y.nw A Y.nl Y.f Y.x Y.g) (h2 : RdR w' 1 L Y.n (fun k => [.int .i64 (Y.ls k)])) (h3 : CustIn w' C Z.nc D Z.nd B Z.nb Z.c Z.d Z.b) (h4 : TrpIn w' T O U V) (hnf : E.nf ≤ 1000) (h6 : RdR w' 2 G E.nf (feeL E)) => refHire_any (L := L) (cw := cw) (cl := cl) (cn := cn) (cc := cc) (cd := cd) (cb := cb) (co := co) (cu := cu) (cv := cv) (cg := cg) h1 hn h2 h3 h4 hnf h6
 have fT := fun (w' : World) (h3 : TrpIn w' T O U V) => twinTroop_any (co := co) (cu := cu) (cv := cv) h3
 have fS := fun (w' : World) (O9 U9 V9 : Option Addr) (co9 cu9 cv9 : Nat) (h3 : TrpIn w' T O9 U9 V9) (h4 : TrpIn w' T O U V) => sameTroop_any (co := co9) (cu := cu9) (cv := cv9) (co' := co) (cu' := cu) (cv' := cv) h3 h4
 have hl1 := hirL_len (Y := Y) (Z := Z) (T := T) (E := E)
 have hl2 := chpG_len (Y := Y) (Z := Z) (T := T) (E := E) (to := to) (un := un)
 have hl3 := chpL_len (Y := Y) (Z := Z) (T := T) (E := E) (to := to) (un := un)
 unfold chpV chpF at fC fD
 unfold hirA hirF at fH fI
 unfold troopL at fT fS
 unfold landL custL troopL at fC fD fH fI
 unfold landL custL troopL
 have hRA := a.hRA
 have aL : great7 Y.nw Y.nl Y.x Z.nc Z.nd Z.nb T.no T.nu T.nv = false → LandIn w W Y.nw A Y.nl Y.f Y.x Y.g := a.land
 have aC : great7 Y.nw Y.nl Y.x Z.nc Z.nd Z.nb T.no T.nu T.nv = false → CustIn w C Z.nc D Z.nd B Z.nb Z.c Z.d Z.b := a.cust
 have aT : great7 Y.nw Y.nl Y.x Z.nc Z.nd Z.nb T.no T.nu T.nv = false → TrpIn w T O U V := a.trp
 refine K_enter (S := []) (K := []) Tryz.func3 rfl Tryz.ntmps3 rfl (Sat.start _) ?_
 refine TW.seq fun Y1 hY1 => TW.region ?_
 refine TL.m Mk.bx ?_
 intro b1
 refine TL.m Mk.bx ?_
 intro b2
 refine TL.m Mk.bx ?_
 intro b3
 refine TL.m Mk.bx ?_
 intro b4
 refine TL.p Pu.as ?_
 refine TL.nil (TQ.thenN (hY1 _ _ ?_))
 refine TW.seq fun Y2 hY2 => ?_
 refine TW.seq fun Y3 hY3 => ?_
 refine TW.join [(52, .bool (great7 Y.nw Y.nl Y.x Z.nc Z.nd Z.nb T.no T.nu T.nv || decide ((30 : Int) < (Y.n : Int)) || decide ((10 : Int) < (E.nf : Int))))] ?_ (fun hJ1 => ?_)
 refine TQ.thenN (hY3 _ _ ?_)
 refine TW.cond rfl (fun hc0 => ?_) (fun hc0 => ?_)
 try simp only [zcb9] at hc0
 refine TW.seq fun Y4 hY4 => TW.region ?_
 refine TL.p Pu.as ?_
 refine TL.nil (TQ.thenN (hY4 _ _ ?_))
 refine TW.ret ?_
 refine TQ.thenR ?_
 refine TQ.ret Tryz.results3 rfl ((.tmp rfl .nil)) ?_
 exact fun w hw => Ret.of hw
 try simp only [zcb9] at hc0
 have hg0 : (great7 Y.nw Y.nl Y.x Z.nc Z.nd Z.nb T.no T.nu T.nv || decide ((30 : Int) < (Y.n : Int)) || decide ((10 : Int) < (E.nf : Int))) = false := by simpa [and_assoc] using hc0
 rw [Bool.or_eq_false_iff, Bool.or_eq_false_iff, decide_eq_false_iff_not, decide_eq_false_iff_not] at hg0
 obtain ⟨⟨hgr, hnn⟩, hnf⟩ := hg0
 replace hnn : Y.n ≤ 1000 := by omega
 replace hnf : E.nf ≤ 10 := by omega
 obtain ⟨_, _, h7, h8, h9⟩ := great_all hgr
 refine TW.skip ?_
 refine TQ.thenN (hY2 _ _ ?_)
 refine TW.seq fun Y5 hY5 => TW.region ?_
 refine TL.p (Pu.lds ty_ag33) ?_
 refine TL.call (M := []) rfl (enters Tryz.func6 rfl rfl) (List.Perm.refl _) rfl (fun w hw => by
   exact fT _ ((aT hgr).ext (Chg.ext hw.chg))) ?_
 rintro t3
 refine TL.bun ?_
 refine TL.m Mk.bl ?_
 intro b5
 refine TL.p Pu.mv ?_
 refine TL.ob (E := 50) (sz := 2) (r := fun _ => []) pk9 rfl ?_
 refine TL.a0 ty_et34 ?_ (hsrc := fun w hK => hE.sat0 hK (fun _ => Apart.nil))
 intro A8 c8
 refine TL.m (Mk.al ty_zr33) ?_
 intro b6
 first | refine TL.st ty_sz33 ?_ | refine TL.se ty_sz33 ?_
 refine TL.p Pu.as ?_
 refine TL.nil (TQ.thenN (hY5 _ _ ?_))
 refine TW.seq fun Y6 hY6 => TW.region ?_
 refine TL.p (Pu.lds ty_ag25) ?_
 refine TL.p (Pu.lds ty_ag30) ?_
 refine TL.p (Pu.lds ty_ag33) ?_
 refine TL.p Pu.mv ?_
 refine TL.p Pu.mv ?_
 refine TL.p Pu.mv ?_
 refine TL.p (Pu.lds ty_ag36) ?_
 refine TL.p Pu.mv ?_
 refine TL.call (M := []) rfl (enters Tryz.func7 rfl rfl) (List.Perm.refl _) rfl (fun w hw => by
   exact fH _ t3.1.1 t3.2.1.1 t3.2.2.1 A8 t3.1.2 t3.2.1.2 t3.2.2.2 c8 hnn ((aL hgr).ext (Chg.ext hw.chg)) (hRL.sat hw Apart.nil) ((aC hgr).ext (Chg.ext hw.chg)) (troop_bun (t := t3) hw (Pick.mem pk9) h7 h8 h9) (hG.ext (Chg.ext hw.chg)) (by omega) (OwnR.rdr (hw.holds (.own A8 E.nf c8 50 2 (feeL E)) (Pick.mem pk9)))) ?_
 rintro ⟨H1, h1⟩
 simp only [List.cons_append, List.nil_append]
 refine TL.p Pu.mv ?_
 refine TL.p Pu.ex ?_
 refine TL.p Pu.ex ?_
 refine TL.p Pu.ex ?_
 refine TL.p Pu.as ?_
 refine TL.p Pu.as ?_
 refine TL.p Pu.as ?_
 refine TL.nil (TQ.thenN (hY6 _ _ ?_))
 refine TW.seq fun Y7 hY7 => TW.region ?_
 refine TL.p (Pu.lds ty_ag25) ?_
 refine TL.p (Pu.lds ty_ag30) ?_
 refine TL.p (Pu.lds ty_ag33) ?_
 refine TL.p Pu.mv ?_
 refine TL.p Pu.mv ?_
 refine TL.p Pu.mv ?_
 refine TL.p (Pu.lds ty_ag36) ?_
 refine TL.p Pu.mv ?_
 refine TL.call (M := []) rfl (enters Tryz.func8 rfl rfl) (List.Perm.refl _) rfl (fun w hw => by
   exact fI _ hnn ((aL hgr).ext (Chg.ext hw.chg)) (hRL.sat hw Apart.nil) ((aC hgr).ext (Chg.ext hw.chg)) ((aT hgr).ext (Chg.ext hw.chg)) (by omega) (hE.sat hw Apart.nil)) ?_
 rintro ⟨H2, h2⟩
 simp only [List.cons_append, List.nil_append]
 refine TL.p Pu.mv ?_
 refine TL.p Pu.ex ?_
 refine TL.p Pu.ex ?_
 refine TL.p Pu.ex ?_
 refine TL.p Pu.as ?_
 refine TL.p Pu.as ?_
 refine TL.p Pu.as ?_
 refine TL.nil (TQ.thenN (hY7 _ _ ?_))
 refine TW.seq fun Y8 hY8 => TW.region ?_
 refine TL.p (Pu.lds ty_ag25) ?_
 refine TL.p (Pu.lds ty_ag30) ?_
 refine TL.p (Pu.lds ty_ag33) ?_
 refine TL.p Pu.mv ?_
 refine TL.p Pu.mv ?_
 refine TL.p Pu.mv ?_
 refine TL.p Pu.mv ?_
 refine TL.p Pu.mv ?_
 refine TL.p (Pu.lds ty_ag36) ?_
 refine TL.call (M := []) rfl (enters Tryz.func9 rfl rfl) (List.Perm.refl _) rfl (fun w hw => by
   exact fC _ t3.1.1 t3.2.1.1 t3.2.2.1 A8 t3.1.2 t3.2.1.2 t3.2.2.2 c8 ((aL hgr).ext (Chg.ext hw.chg)) ((aC hgr).ext (Chg.ext hw.chg)) (troop_bun (t := t3) hw (Pick.mem pk9) h7 h8 h9) (hG.ext (Chg.ext hw.chg)) (by omega) (OwnR.rdr (hw.holds (.own A8 E.nf c8 50 2 (feeL E)) (Pick.mem pk9)))) ?_
 rintro ⟨⟨P1, p1⟩, Q1, q1⟩
 simp only [List.cons_append, List.nil_append]
 refine TL.p Pu.mv ?_
 refine TL.p Pu.ex ?_
 refine TL.p Pu.ex ?_
 refine TL.p Pu.ex ?_
 refine TL.p Pu.ex ?_
 refine TL.p Pu.as ?_
 refine TL.p Pu.as ?_
 refine TL.p Pu.as ?_
 refine TL.p Pu.as ?_
 refine TL.nil (TQ.thenN (hY8 _ _ ?_))
 refine TW.seq fun Y9 hY9 => TW.region ?_
 refine TL.p (Pu.lds ty_ag25) ?_
 refine TL.p (Pu.lds ty_ag30) ?_
 refine TL.p (Pu.lds ty_ag33) ?_
 refine TL.p Pu.mv ?_
 refine TL.p Pu.mv ?_
 refine TL.p Pu.mv ?_
 refine TL.p Pu.mv ?_
 refine TL.p Pu.mv ?_
 refine TL.p (Pu.lds ty_ag36) ?_
 refine TL.call (M := []) rfl (enters Tryz.func10 rfl rfl) (List.Perm.refl _) rfl (fun w hw => by
   exact fD _ ((aL hgr).ext (Chg.ext hw.chg)) ((aC hgr).ext (Chg.ext hw.chg)) ((aT hgr).ext (Chg.ext hw.chg)) (by omega) (hE.sat hw Apart.nil)) ?_
 rintro ⟨⟨P2, p2⟩, Q2, q2⟩
 simp only [List.cons_append, List.nil_append]
 refine TL.p Pu.mv ?_
 refine TL.p Pu.ex ?_
 refine TL.p Pu.ex ?_
 refine TL.p Pu.ex ?_
 refine TL.p Pu.ex ?_
 refine TL.p Pu.as ?_
 refine TL.p Pu.as ?_
 refine TL.p Pu.as ?_
 refine TL.p Pu.as ?_
 refine TL.nil (TQ.thenN (hY9 _ _ ?_))
 refine TW.seq fun Y10 hY10 => TW.region ?_
 refine TL.p Pu.mv ?_
 refine TL.p Pu.mv ?_
 refine TL.cr rfl (enters Tryz.func11 rfl rfl) (fun w hw => by
   first | exact same3_true (v := fun j => (hirL Y Z T E).getD j 0) (by omega) (OwnR.rdr (hw.holds (.own H1 (hirL Y Z T E).length h1 3 1 (iL (hirL Y Z T E))) (Pick.mem pk9))) (OwnR.rdr (hw.holds (.own H2 (hirL Y Z T E).length h2 3 1 (iL (hirL Y Z T E))) (Pick.mem pk9))) | exact same3_true (v := fun j => (chpL Y Z T E to un).getD j 0) (by omega) (OwnR.rdr (hw.holds (.own P1 (chpL Y Z T E to un).length p1 3 1 (iL (chpL Y Z T E to un))) (Pick.mem pk9))) (OwnR.rdr (hw.holds (.own P2 (chpL Y Z T E to un).length p2 3 1 (iL (chpL Y Z T E to un))) (Pick.mem pk9))) | exact same3_true (v := fun j => (chpG Y Z T E to un).getD j 0) (by omega) (OwnR.rdr (hw.holds (.own Q1 (chpG Y Z T E to un).length q1 3 1 (iL (chpG Y Z T E to un))) (Pick.mem pk9))) (OwnR.rdr (hw.holds (.own Q2 (chpG Y Z T E to un).length q2 3 1 (iL (chpG Y Z T E to un))) (Pick.mem pk9)))) ?_
 refine TL.p Pu.mv ?_
 refine TL.gd Pu.mv ?_
 refine TL.gd Pu.mv ?_
 refine TL.gd Pu.eq ?_
 refine TL.lit (t := 120) (b' := true) rfl ((by simp)) ?_
 refine TL.p Pu.kt ?_
 refine TL.p Pu.mv ?_
 refine TL.gd Pu.mv ?_
 refine TL.gd Pu.mv ?_
 refine TL.gd Pu.eq ?_
 refine TL.lit (t := 125) (b' := true) rfl ((by simp)) ?_
 refine TL.p Pu.kt ?_
 refine TL.p Pu.mv ?_
 refine TL.gd Pu.mv ?_
 refine TL.gd Pu.mv ?_
 refine TL.cr rfl (enters Tryz.func11 rfl rfl) (fun w hw => by
   first | exact same3_true (v := fun j => (hirL Y Z T E).getD j 0) (by omega) (OwnR.rdr (hw.holds (.own H1 (hirL Y Z T E).length h1 3 1 (iL (hirL Y Z T E))) (Pick.mem pk9))) (OwnR.rdr (hw.holds (.own H2 (hirL Y Z T E).length h2 3 1 (iL (hirL Y Z T E))) (Pick.mem pk9))) | exact same3_true (v := fun j => (chpL Y Z T E to un).getD j 0) (by omega) (OwnR.rdr (hw.holds (.own P1 (chpL Y Z T E to un).length p1 3 1 (iL (chpL Y Z T E to un))) (Pick.mem pk9))) (OwnR.rdr (hw.holds (.own P2 (chpL Y Z T E to un).length p2 3 1 (iL (chpL Y Z T E to un))) (Pick.mem pk9))) | exact same3_true (v := fun j => (chpG Y Z T E to un).getD j 0) (by omega) (OwnR.rdr (hw.holds (.own Q1 (chpG Y Z T E to un).length q1 3 1 (iL (chpG Y Z T E to un))) (Pick.mem pk9))) (OwnR.rdr (hw.holds (.own Q2 (chpG Y Z T E to un).length q2 3 1 (iL (chpG Y Z T E to un))) (Pick.mem pk9)))) ?_
 refine TL.p Pu.kt ?_
 refine TL.p Pu.mv ?_
 refine TL.gd Pu.mv ?_
 refine TL.gd Pu.mv ?_
 refine TL.cr rfl (enters Tryz.func11 rfl rfl) (fun w hw => by
   first | exact same3_true (v := fun j => (hirL Y Z T E).getD j 0) (by omega) (OwnR.rdr (hw.holds (.own H1 (hirL Y Z T E).length h1 3 1 (iL (hirL Y Z T E))) (Pick.mem pk9))) (OwnR.rdr (hw.holds (.own H2 (hirL Y Z T E).length h2 3 1 (iL (hirL Y Z T E))) (Pick.mem pk9))) | exact same3_true (v := fun j => (chpL Y Z T E to un).getD j 0) (by omega) (OwnR.rdr (hw.holds (.own P1 (chpL Y Z T E to un).length p1 3 1 (iL (chpL Y Z T E to un))) (Pick.mem pk9))) (OwnR.rdr (hw.holds (.own P2 (chpL Y Z T E to un).length p2 3 1 (iL (chpL Y Z T E to un))) (Pick.mem pk9))) | exact same3_true (v := fun j => (chpG Y Z T E to un).getD j 0) (by omega) (OwnR.rdr (hw.holds (.own Q1 (chpG Y Z T E to un).length q1 3 1 (iL (chpG Y Z T E to un))) (Pick.mem pk9))) (OwnR.rdr (hw.holds (.own Q2 (chpG Y Z T E to un).length q2 3 1 (iL (chpG Y Z T E to un))) (Pick.mem pk9)))) ?_
 refine TL.p Pu.kt ?_
 refine TL.p Pu.mv ?_
 refine TL.gd Pu.mv ?_
 refine TL.gd Pu.mv ?_
 refine TL.gd Pu.eq ?_
 refine TL.lit (t := 140) (b' := true) rfl ((by simp)) ?_
 refine TL.p Pu.kt ?_
 refine TL.p Pu.mv ?_
 refine TL.gd Pu.mv ?_
 refine TL.gd Pu.mv ?_
 refine TL.gd Pu.eq ?_
 refine TL.lit (t := 145) (b' := true) rfl ((by simp)) ?_
 refine TL.p Pu.kt ?_
 refine TL.p Pu.as ?_
 refine TL.nil (TQ.thenN (hY10 _ _ ?_))
 refine TW.seq fun Y11 hY11 => ?_
 refine TW.seq fun Y12 hY12 => TW.region ?_
 refine TL.p Pu.mv ?_
 refine TL.p (Pu.ln Tryz.underlying34) ?_
 refine TL.p Pu.mv ?_
 refine TL.nil (TQ.thenN (hY12 _ _ ?_))
 refine TW.block ?_
 refine TW.loop1 (fun (k : Nat) => [(149, .int .i64 (k : Int)), (148, .int .i64 (E.nf : Int)), (37, .bool true), (22, .slice A8 E.nf c8), (3, .slice G E.nf cg), (10, .pointer (some ⟨b1, 0, none⟩)), (11, .pointer (some ⟨b2, 0, none⟩)), (12, .pointer (some ⟨b3, 0, none⟩)), (18, .pointer (some ⟨b4, 0, none⟩)), (21, .pointer (some ⟨b6, 0, none⟩))]) (fun k => [.blk b6 33 [.int .i64 T.hd, .int .i64 T.wo, .slice t3.1.1 T.no t3.1.2, .slice t3.2.1.1 T.nu t3.2.1.2, .slice t3.2.2.1 T.nv t3.2.2.2], bun (twT T t3), .own A8 E.nf c8 50 2 (feeL E), .blk b1 25 [.slice W Y.nw cw, .slice A Y.nl cl], .blk b2 30 [.slice C Z.nc cc, .slice D Z.nd cd, .slice B Z.nb cb], .blk b3 33 [.int .i64 T.hd, .int .i64 T.wo, .slice O T.no co, .slice U T.nu cu, .slice V T.nv cv], .blk b4 36 [.int .i64 Y.p0, .int .i64 Y.p1]]) (fun k => k ≤ E.nf) (fun k => E.nf - k) 0 fs9 ?_ ?_ ?_
 exact ks9
 exact (by omega)
 rintro k hk Z0 hZ0
 refine TW.seq fun Y13 hY13 => TW.region ?_
 refine TL.p Pu.lt ?_
 refine TL.nil (TQ.thenN (hY13 _ _ ?_))
 refine TW.seq fun Y14 hY14 => ?_
 refine TW.cond rfl (fun hc1 => ?_) (fun hc1 => ?_)
 try simp only [zcb9] at hc1
 have hkn : k < E.nf := by omega
 refine TW.skip ?_
 refine TQ.thenN (hY14 _ _ ?_)
 refine TW.seq fun Y15 hY15 => ?_
 refine TW.block ?_
 refine TW.seq fun Y16 hY16 => TW.region ?_
 refine TL.p Pu.mv ?_
 refine TL.p Pu.as ?_
 refine TL.nil (TQ.thenN (hY16 _ _ ?_))
 refine TW.dw 13 ?_
 refine RK.tk Pu.mv ?_
 refine RK.tk Pu.mv ?_
 refine RK.tk Pu.mv ?_
 refine RK.tk Pu.mv ?_
 refine RK.tk (Pu.el ty_et34) ?_
 refine RK.tk (Pu.lds ty_ag50) ?_
 refine RK.tk Pu.mv ?_
 refine RK.tk Pu.mv ?_
 refine RK.tk (Pu.el ty_et34) ?_
 refine RK.tk (Pu.lds ty_ag50) ?_
 refine RK.tk (Pu.bvM (Pu.q2 ty_q2_50) (show (decide (E.t k = E.t k) && decide (E.r k = E.r k)) = true by simp)) ?_
 refine RK.tk Pu.kt ?_
 refine RK.tk Pu.as ?_
 refine RK.ch [] ?_ trivial
 refine WK.n ?_
 refine TL.nil ?_
 refine TQ.blkN ?_
 refine TQ.thenN (hY15 _ _ ?_)
 refine TW.region ?_
 refine TL.p Pu.ad ?_
 refine TL.p Pu.mv ?_
 refine TL.nil ?_
 refine TQ.thenN (hZ0 (k + 1) _ _ ?_ ?_ fs9 ?_)
 exact (by omega)
 exact zom9
 exact ks9
 try simp only [zcb9] at hc1
 refine TW.exit ?_
 refine TQ.thenX ?_
 refine TQ.thenX ?_
 refine TQ.blkX ?_
 refine TQ.thenN (hY11 _ _ ?_)
 refine TW.seq fun Y17 hY17 => TW.region ?_
 refine TL.p Pu.mv ?_
 refine TL.lit (t := 165) (b' := true) rfl (rfl) ?_
 refine TL.p Pu.mv ?_
 refine TL.gd (Pu.lds ty_ag33) ?_
 refine TL.gd (Pu.lds ty_ag33) ?_
 refine TL.cr rfl (enters Tryz.func12 rfl rfl) (fun w hw => by
   exact fS _ t3.1.1 t3.2.1.1 t3.2.2.1 t3.1.2 t3.2.1.2 t3.2.2.2 (troop_bun (t := t3) hw (Pick.mem pk9) h7 h8 h9) ((aT hgr).ext (Chg.ext hw.chg))) ?_
 refine TL.p Pu.kt ?_
 refine TL.p Pu.as ?_
 refine TL.nil (TQ.thenN (hY17 _ _ ?_))
 refine TW.ret ?_
 refine TQ.ret Tryz.results3 rfl ((.tmp rfl .nil)) ?_
 exact fun w hw => Ret.of hw
 refine TW.region ?_
 refine TL.p (Pu.lds ty_ag25) ?_
 refine TL.p (Pu.lds ty_ag30) ?_
 refine TL.p (Pu.lds ty_ag33) ?_
 refine TL.cr rfl (enters Tryz.func5 rfl rfl) (fun w hw => by
   exact great7_any (hRA.sat hw Apart.nil)) ?_
 refine TL.p Pu.mv ?_
 refine TL.guard (t := 43) rfl (fun hg1 => ?_) (fun hg1 => ?_)
 try simp only [zgb9] at hg1
 refine TL.gs ?_
 refine TL.gs ?_
 refine TL.gs ?_
 refine TL.p Pu.kt ?_
 refine TL.p Pu.mv ?_
 refine TL.gs ?_
 refine TL.gs ?_
 refine TL.gs ?_
 refine TL.p Pu.kt ?_
 refine TL.nil ?_
 exact TQ.sub (by repeat (first | exact trivial | refine ⟨rfl, ?_⟩ | refine ⟨trivial, ?_⟩ | refine ⟨(by show some (Value.bool _) = some (Value.bool _); first | (simp [hg1]; done) | (refine congrArg (fun z => some (Value.bool z)) (Bool.eq_iff_iff.2 ?_); simp [hg1]; omega)), ?_⟩)) ks9 hJ1
 try simp only [zgb9] at hg1
 refine TL.gd Pu.mv ?_
 refine TL.gd (Pu.ln Tryz.underlying31) ?_
 refine TL.gd Pu.gt ?_
 refine TL.p Pu.kf ?_
 refine TL.p Pu.mv ?_
 refine TL.guard (t := 48) rfl (fun hg2 => ?_) (fun hg2 => ?_)
 try simp only [zgb9] at hg2
 refine TL.gs ?_
 refine TL.gs ?_
 refine TL.gs ?_
 refine TL.p Pu.kt ?_
 refine TL.nil ?_
 exact TQ.sub (by repeat (first | exact trivial | refine ⟨rfl, ?_⟩ | refine ⟨trivial, ?_⟩ | refine ⟨(by show some (Value.bool _) = some (Value.bool _); first | (simp [hg1, hg2]; done) | (refine congrArg (fun z => some (Value.bool z)) (Bool.eq_iff_iff.2 ?_); simp [hg1, hg2]; omega)), ?_⟩)) ks9 hJ1
 try simp only [zgb9] at hg2
 refine TL.gd Pu.mv ?_
 refine TL.gd (Pu.ln Tryz.underlying34) ?_
 refine TL.gd Pu.gt ?_
 refine TL.p Pu.kf ?_
 refine TL.nil ?_
 exact TQ.sub (by repeat (first | exact trivial | refine ⟨rfl, ?_⟩ | refine ⟨trivial, ?_⟩ | refine ⟨(by show some (Value.bool _) = some (Value.bool _); first | (simp [hg1, hg2]; done) | (refine congrArg (fun z => some (Value.bool z)) (Bool.eq_iff_iff.2 ?_); simp [hg1, hg2]; omega)), ?_⟩)) ks9 hJ1
end
end Go.Proofs.YtfaenhhgkhcghaaGreatDoor
namespace Go.Proofs.YtfaenhhgkhcghaaGreatDoor
set_option linter.all false
set_option linter.unusedVariables false
set_option linter.unusedSimpArgs false
open Go.ChangeShapes Go.WideShapes Go.RowKit Go.Deep
section
variable {H : Type} {enc : TypeId × Value → H} {P : Program} {w : World} {base : Nat} {spare : Nat → Bool} {held : Bool}
def kindsL (P : Program) (g : TypeId → Option (List IntKind)) : List Field → Nat → Option (List IntKind)
  | [], _ => some []
  | f :: fs, off => match g f.type with
    | some a => if f.offset = off ∧ a.length = P.cellsOf f.type then match kindsL P g fs (off + a.length) with
      | some b => some (a ++ b)
      | none => none
      else none
    | none => none
def kindsF (P : Program) : Nat → TypeId → Option (List IntKind)
  | 0, _ => none
  | d + 1, t => match P.underlying t with
    | some (.int k) => some [k]
    | some (.struct fs) => match kindsL P (kindsF P d) fs.toList 0 with
      | some a => if a.length = P.cellsOf t then some a else none
      | none => none
    | _ => none
def ints (ks : List IntKind) (ns : List Int) : List Value := List.zipWith Value.int ks ns
theorem ints_append {a b : List IntKind} {x y : List Int} (h : x.length = a.length) : ints (a ++ b) (x ++ y) = ints a x ++ ints b y := by
 unfold ints; rw [List.zipWith_append h.symm]
theorem ints_length {a : List IntKind} {x : List Int} (h : x.length = a.length) : (ints a x).length = a.length := by simp [ints, h]
theorem kindsL_spec {g : TypeId → Option (List IntKind)} (hg : ∀ t ks, g t = some ks → ∀ fuel cs x, DataW.trod enc P w base spare held fuel t cs = some x → ∃ ns : List Int, cs = ints ks ns ∧ ns.length = ks.length) :
  ∀ (fs : List Field) (off : Nat) (ks : List IntKind) (cs : List Value), kindsL P g fs off = some ks → cs.length = off + ks.length →
   (∀ f ∈ fs, ∃ n x, DataW.trod enc P w base spare held n f.type ((cs.drop f.offset).take (P.cellsOf f.type)) = some x) → ∃ ns : List Int, cs.drop off = ints ks ns ∧ ns.length = ks.length
 | [], off, ks, cs, h, hl, _ => by cases h; exact ⟨[], by simp at hl; simp [ints, hl], rfl⟩
 | f :: fs, off, ks, cs, h, hl, hf => by
  simp only [kindsL] at h
  cases h1 : g f.type with
  | none => rw [h1] at h; cases h
  | some a =>
   rw [h1] at h
   simp only at h
   split at h
   · rename_i h2
     obtain ⟨h2, h3⟩ := h2
     cases h4 : kindsL P g fs (off + a.length) with
     | none => rw [h4] at h; cases h
     | some b =>
      rw [h4] at h
      cases h
      obtain ⟨n, x, hx⟩ := hf f (by simp)
      rw [h2, ← h3] at hx
      obtain ⟨ns, e1, e2⟩ := hg _ _ h1 _ _ _ hx
      obtain ⟨ms, e3, e4⟩ := kindsL_spec hg fs (off + a.length) b cs h4 (by rw [hl]; simp; omega) (fun f' hf' => hf f' (by simp [hf']))
      refine ⟨ns ++ ms, ?_, by simp [e2, e4]⟩
      rw [ints_append e2, ← e1, ← e3, ← List.drop_drop, List.take_append_drop]
   · cases h
theorem kindsF_spec : ∀ (d : Nat) (t : TypeId) (ks : List IntKind), kindsF P d t = some ks → ∀ fuel cs x, DataW.trod enc P w base spare held fuel t cs = some x → ∃ ns : List Int, cs = ints ks ns ∧ ns.length = ks.length
  | 0, _, _, h, _, _, _, _ => by cases h
  | d + 1, t, ks, h, fuel, cs, x, hx => by
    simp only [kindsF] at h
    cases hu : P.underlying t with
    | none => rw [hu] at h; cases h
    | some desc =>
      rw [hu] at h
      match desc, hu, h with
      | .int k, hu, h =>
        injection h with h
        subst h
        obtain ⟨n, rfl, _, _⟩ := DataW.trod_int hu hx
        exact ⟨[n], rfl, rfl⟩
      | .struct fs, hu, h =>
        simp only at h
        cases h1 : kindsL P (kindsF P d) fs.toList 0 with
        | none => rw [h1] at h; cases h
        | some a =>
          rw [h1] at h
          simp only at h
          split at h
          · rename_i h2
            cases h
            obtain ⟨xs, n, _, _, hlen, hxl, hf⟩ := DataW.trod_struct hu hx
            obtain ⟨ns, e1, e2⟩ := kindsL_spec (kindsF_spec d) fs.toList 0 _ cs h1 (by omega) (fun f hf' => by
              obtain ⟨i, hi, rfl⟩ := List.getElem_of_mem hf'
              have hi' : i < fs.size := by simpa using hi
              have := hf i fs[i] (by simp [hi'])
              rw [List.getElem?_eq_getElem (by omega)] at this
              exact ⟨n, _, this⟩)
            exact ⟨ns, by simpa using e1, e2⟩
          · cases h
theorem open_flat_slice {t e : TypeId} {fuel : Nat} {cs : List Value} {x : DataW H × List MemPlace} (d : Nat) {ks : List IntKind} (ht : P.underlying t = some (.slice e)) (hk : kindsF P d e = some ks) (hC : P.cellsOf e = ks.length) (h0 : Nat.blt 0 ks.length = true) (h : DataW.trod enc P w base spare held fuel t cs = some x) :
    ∃ (A : Option Addr) (len cap : Nat) (g : Nat → List Int), cs = [.slice A len cap] ∧ (∀ i, i < len → (g i).length = ks.length) ∧ RdR w ks.length A len (fun i => ints ks (g i)) ∧ (A = none → len = 0 ∧ cap = 0) ∧ len ≤ cap ∧ cap ≤ maxLen := by
  have h0 : 0 < ks.length := Nat.le_of_ble_eq_true h0
  rcases open_slice ht h with ⟨rfl, rfl⟩ | ⟨a, len, cap, m, n, D, Pl, rfl, hb, hl, hm, hmm, _, hi⟩
  · exact ⟨none, 0, 0, fun _ => [], rfl, fun i hi => by omega, ⟨Rd.nil, fun i hi => by omega⟩, fun _ => ⟨rfl, rfl⟩, Nat.le_refl _, Nat.zero_le _⟩
  · have hlm : len ≤ m := by rw [hmm]; split <;> omega
    have key : ∀ i, i < len → ∃ ns : List Int, ns.length = ks.length ∧ ∀ j, j < ks.length → w.cell? (a.add (i * ks.length + j)) = (ints ks ns)[j]? := fun i hil => by
      obtain ⟨cs', hc, hx⟩ := hi i (by omega)
      obtain ⟨_, hcl, hat⟩ := World.cells?_some hc
      obtain ⟨ns, rfl, e2⟩ := kindsF_spec d e ks hk _ _ _ hx
      refine ⟨ns, e2, fun j hj => ?_⟩
      have := hat j (by rw [hC]; exact hj)
      rw [hC] at this
      rw [← this, ← add_add]
    refine ⟨some a, len, cap, fun i => if hi : i < len then (key i hi).choose else [], rfl, fun i hi => ?_, ⟨fun hn => ?_, fun i hi => ?_⟩, fun h => (by cases h), hl, hm⟩
    · simp only [hi, dite_true]; exact (key i hi).choose_spec.1
    · have h1 := (key 0 hn).choose_spec.2 0 h0
      have hsome : (ints ks (key 0 hn).choose)[0]? = some ((ints ks (key 0 hn).choose)[0]'(by rw [ints_length (key 0 hn).choose_spec.1]; exact h0)) := List.getElem?_eq_getElem _
      rw [hsome] at h1
      have hadd : a.add (0 * ks.length + 0) = a := by simp [Addr.add]
      rw [hadd] at h1
      have hsp : a.spot = none := by
        unfold World.cell? at h1
        split at h1
        · cases hs : a.spot with
          | none => rfl
          | some s => simp [hs] at h1
        · cases h1
      have hlt : a.block < w.heap.size := World.block_lt_of_cell? w a h1
      obtain ⟨b, o, s⟩ := a
      simp only at hsp
      subst hsp
      refine ⟨b, o, rfl, hlt, fun i j hi hj => ?_⟩
      have h2 := (key i hi).choose_spec.2 j hj
      rw [add_plain] at h2
      rw [show o + i * ks.length + j = o + (i * ks.length + j) by omega, h2]
      simp only [rowF, hi, dite_true]
      have hl2 : j < (ints ks (key i hi).choose).length := by rw [ints_length (key i hi).choose_spec.1]; exact hj
      rw [List.getElem?_eq_getElem hl2]
      simp [List.getD_eq_getElem?_getD, List.getElem?_eq_getElem hl2]
    · simp only [hi, dite_true]
      exact ints_length (key i hi).choose_spec.1
theorem open_rows {r : Reach} {b0 : Nat} {t e : TypeId} {v : Value} {dd : DataW H} {p : List MemPlace} (d : Nat) (ks : List IntKind) (ht : P.underlying t = some (.slice e)) (hk : kindsF P d e = some ks) (hC : P.cellsOf e = ks.length) (h0 : Nat.blt 0 ks.length = true) (hv : Value.okWide P w r b0 t v) (h : DataW.Trod enc P w base spare held t v dd p) :
  ∃ (A : Option Addr) (len cap : Nat) (g : Nat → List Int), v = .slice A len cap ∧ (∀ i, i < len → (g i).length = ks.length) ∧ RdR w ks.length A len (fun i => ints ks (g i)) ∧ (A = none → len = 0 ∧ cap = 0) ∧ len ≤ cap ∧ cap ≤ maxLen := by
 obtain ⟨a, n, c, rfl⟩ := okWide_slice ht hv
 obtain ⟨fuel, h⟩ := h
 obtain ⟨A, len, cap, g, e, h1⟩ := open_flat_slice d ht hk hC h0 h
 simp only [Value.cells, List.cons.injEq, Value.slice.injEq, and_true] at e
 obtain ⟨rfl, rfl, rfl⟩ := e
 exact ⟨_, _, _, g, rfl, h1⟩
def gi (ns : List Int) (j : Nat) : Int := ns.getD j 0
def rowK : List IntKind → (Nat → Int) → List Value
 | [], _ => []
 | k :: ks, f => .int k (f 0) :: rowK ks fun j => f (j + 1)
theorem ints_rowK : ∀ (ks : List IntKind) (ns : List Int), ns.length = ks.length → ints ks ns = rowK ks (gi ns)
 | [], [], _ => rfl
 | k :: ks, n :: ns, h => by
  show Value.int k n :: ints ks ns = _
  rw [ints_rowK ks ns (by simpa using h)]
  rfl
theorem RdR.rowK {sz n : Nat} {A : Option Addr} {ks : List IntKind} {g : Nat → List Int} (h : RdR w sz A n (fun i => ints ks (g i))) (hl : ∀ i, i < n → (g i).length = ks.length) : RdR w sz A n (fun i => rowK ks (gi (g i))) :=
 ⟨h.rd.congr fun i j hi hj => by simp only [rowF, ints_rowK ks (g i) (hl i hi)], fun i hi => by rw [← ints_rowK ks (g i) (hl i hi)]; exact h.len i hi⟩
theorem trodAll_stays (hl : laidOutB P = true) {W W' : World} (hb : Below W.heap.size W W') {sp' : Nat → Bool} : ∀ {ts : List TypeId} {vs : List Value} {ds : List (DataW H)} {ps : List MemPlace}, ts.all (fun t => P.readableRec t && decide (t < P.types.size)) = true →
  DataW.TrodAll enc P W 0 (fun _ => true) true ts vs ds ps → (∀ p ∈ ps, p.block < W.heap.size) → (∀ p ∈ ps, sp' p.block = true) → DataW.TrodAll enc P W' 0 sp' true ts vs ds ps
 | [], [], [], ps, _, h, _, _ => h
 | t :: ts, v :: vs, d :: ds, ps, ht, h, hlt, hs => by
  simp only [List.all_cons, Bool.and_eq_true, decide_eq_true_eq] at ht
  obtain ⟨p, q, h1, h2, rfl⟩ := h
  exact ⟨p, q, WideElems.Trod_stays hl ht.1.1 ht.1.2 h1 (fun x hx => hb.same (hlt x (by simp [hx]))) (fun x hx => hs x (by simp [hx])), trodAll_stays hl hb ht.2 h2 (fun x hx => hlt x (by simp [hx])) (fun x hx => hs x (by simp [hx])), rfl⟩
theorem law_post {f : Func} {s : ChangeSpec} {apart fresh handsOn again : Bool} {W W' : World} {args : Array Value} {ds : List (DataW H)} {p : List MemPlace} {tb : TypeId} (hl : laidOutB P = true) (hvars : s.vars = [])
   (hW : DataW.Whole enc P f.params.toList s.vars apart W args.toList ds [] p) (hA : DataW.TrodAll enc P W 0 (fun _ => true) true f.params.toList args.toList ds p)
   (ht : f.params.toList.all (fun t => P.readableRec t && decide (t < P.types.size)) = true) (hrt : f.resultTypes = #[tb]) (htb : P.underlying tb = some .bool) (hfn : s.fn H ds = { results := [.lit (.bool true)], args := ds }) (hb : Below W.heap.size W W') :
   s.post enc P f apart fresh handsOn again W args (.bool true) W' := by
 have hlt : ∀ q ∈ p, q.block < W.heap.size := fun q hq => hW.lt q hq
 have hold : ∀ q ∈ p, (fun b => decide (b < W.heap.size)) q.block = true := fun q hq => by simpa using hW.lt q hq
 have hres : ∀ (b : Nat) (sp : Nat → Bool) (hd : Bool), DataW.TrodAll enc P W' b sp hd f.resultTypes.toList ((Value.bool true).resultList f.resultTypes.size) (s.fn H (ds ++ [])).results [] := fun b sp hd => by
   rw [List.append_nil, hfn, hrt]
   exact ⟨[], [], shut_bool htb true, rfl, rfl⟩
 have hargs : ∀ sp : Nat → Bool, (∀ q ∈ p, sp q.block = true) → DataW.TrodAll enc P W' 0 sp true f.params.toList args.toList (s.fn H (ds ++ [])).args p := fun sp hs => by
   rw [List.append_nil, hfn]
   exact trodAll_stays hl hb ht hA (fun q hq => hW.lt q hq) hs
 have hv : ∀ sp : Nat → Bool, DataW.TrodVars enc P W' sp s.vars (s.fn H (ds ++ [])).vars [] := fun sp => by
   rw [List.append_nil, hfn, hvars]; exact rfl
 have hok : ∀ (j : Nat) (t : TypeId) (r : Value), f.resultTypes[j]? = some t → ((Value.bool true).resultList f.resultTypes.size)[j]? = some r → Value.okWide P W' .any 0 t r := ok_one (by rw [hrt]) rfl (okWide_bool_mk htb true)
 refine ⟨ds, [], p, [], p, [], hW, hres _ _ _, hargs _ hold, hv _, World.keptBut_mono (fun q hq => ⟨hq, by simpa using hq⟩) (hb.frame (· ∈ p)), fun _ => ?_⟩
 obtain ⟨_, _, _, _, _, hz, hn⟩ := hW
 refine ⟨hok, _, _, ([] ++ p) ++ [], ⟨[] ++ p, [], trodAll_append (hargs _ (fun _ _ => rfl)) (hres _ _ _), hv _, rfl, ?_, ?_⟩, ?_⟩
 · intro b off hp
   have hin : MemPlace.cell b off ∈ p := by simpa using hp
   rw [hb.frozen (hlt _ hin)]
   exact hz b off hin
 · intro ha
   have := hn ha
   simpa using this
 · intro q hq _
   simpa using hq
end
end Go.Proofs.YtfaenhhgkhcghaaGreatDoor
namespace Go.Proofs.YtfaenhhgkhcghaaGreatDoor
set_option linter.all false
set_option linter.unusedVariables false
set_option linter.unusedSimpArgs false
open Go.ChangeShapes Go.WideShapes Go.RowKit Go.Deep
section
variable {H : Type} {enc : TypeId × Value → H} {P : Program} {w : World} {base : Nat} {spare : Nat → Bool} {held : Bool}
theorem open_slice_any {t e : TypeId} {fuel : Nat} {cs : List Value} {x : DataW H × List MemPlace} {sz : Nat} (ht : P.underlying t = some (.slice e)) (hC : P.cellsOf e = sz) (h0 : Nat.blt 0 sz = true) (h : DataW.trod enc P w base spare held fuel t cs = some x) :
    ∃ (A : Option Addr) (len cap : Nat) (G : Nat → List Value), cs = [.slice A len cap] ∧ RdR w sz A len G ∧ (∀ i, i < len → ∃ n y, DataW.trod enc P w base spare held n e (G i) = some y) ∧ (A = none → len = 0 ∧ cap = 0) ∧ len ≤ cap ∧ cap ≤ maxLen := by
  have h0 : 0 < sz := Nat.le_of_ble_eq_true h0
  rcases open_slice ht h with ⟨rfl, rfl⟩ | ⟨a, len, cap, m, n, D, Pl, rfl, hb, hl, hm, hmm, _, hi⟩
  · exact ⟨none, 0, 0, fun _ => [], rfl, ⟨Rd.nil, fun i hi => by omega⟩, fun i hi => by omega, fun _ => ⟨rfl, rfl⟩, Nat.le_refl _, Nat.zero_le _⟩
  · have hlm : len ≤ m := by rw [hmm]; split <;> omega
    have key : ∀ i, i < len → ∃ cs' : List Value, cs'.length = sz ∧ (∀ j, j < sz → w.cell? (a.add (i * sz + j)) = cs'[j]?) ∧ ∃ n y, DataW.trod enc P w base spare held n e cs' = some y := fun i hil => by
      obtain ⟨cs', hc, hx⟩ := hi i (by omega)
      obtain ⟨_, hcl, hat⟩ := World.cells?_some hc
      refine ⟨cs', by rw [hcl, hC], fun j hj => ?_, n, _, hx⟩
      have := hat j (by rw [hC]; exact hj)
      rw [hC] at this
      rw [← this, ← add_add]
    refine ⟨some a, len, cap, fun i => if hi : i < len then (key i hi).choose else [], rfl, ⟨fun hn => ?_, fun i hi => ?_⟩, fun i hi => ?_, fun h => (by cases h), hl, hm⟩
    · have h1 := (key 0 hn).choose_spec.2.1 0 h0
      have hsome : ((key 0 hn).choose)[0]? = some ((key 0 hn).choose[0]'(by rw [(key 0 hn).choose_spec.1]; exact h0)) := List.getElem?_eq_getElem _
      rw [hsome] at h1
      have hadd : a.add (0 * sz + 0) = a := by simp [Addr.add]
      rw [hadd] at h1
      have hsp : a.spot = none := by
        unfold World.cell? at h1
        split at h1
        · cases hs : a.spot with
          | none => rfl
          | some s => simp [hs] at h1
        · cases h1
      have hlt : a.block < w.heap.size := World.block_lt_of_cell? w a h1
      obtain ⟨b, o, s⟩ := a
      simp only at hsp
      subst hsp
      refine ⟨b, o, rfl, hlt, fun i j hi hj => ?_⟩
      have h2 := (key i hi).choose_spec.2.1 j hj
      rw [add_plain] at h2
      rw [show o + i * sz + j = o + (i * sz + j) by omega, h2]
      simp only [rowF, hi, dite_true]
      have hl2 : j < (key i hi).choose.length := by rw [(key i hi).choose_spec.1]; exact hj
      rw [List.getD_eq_getElem?_getD, List.getElem?_eq_getElem hl2]
      rfl
    · simp only [hi, dite_true]
      exact (key i hi).choose_spec.1
    · simp only [hi, dite_true]
      exact (key i hi).choose_spec.2.2
theorem trod_fields {t : TypeId} {fs : Array Field} {fuel : Nat} {cs : List Value} {x : DataW H × List MemPlace} (ht : P.underlying t = some (.struct fs)) (h : DataW.trod enc P w base spare held fuel t cs = some x) :
  cs.length = P.cellsOf t ∧ ∀ (i : Nat) (f : Field), fs[i]? = some f → ∃ n y, DataW.trod enc P w base spare held n f.type ((cs.drop f.offset).take (P.cellsOf f.type)) = some y := by
 obtain ⟨xs, n, _, _, hlen, hxl, hf⟩ := DataW.trod_struct ht h
 refine ⟨hlen, fun i f hi => ?_⟩
 have h1 := hf i f hi
 have hi' : i < fs.size := (Array.getElem?_eq_some_iff.1 hi).1
 rw [List.getElem?_eq_getElem (by omega)] at h1
 exact ⟨n, _, h1⟩
theorem open_ints_in {t e : TypeId} {k : IntKind} {fuel : Nat} {cs : List Value} {x : DataW H × List MemPlace} (ht : P.underlying t = some (.slice e)) (he : P.underlying e = some (.int k)) (hC : P.cellsOf e = 1) (h : DataW.trod enc P w base spare held fuel t cs = some x) :
  ∃ (A : Option Addr) (len cap : Nat) (v : Nat → Int), cs = [.slice A len cap] ∧ RdR w 1 A len (fun q => [.int k (v q)]) ∧ (A = none → len = 0 ∧ cap = 0) ∧ len ≤ cap ∧ cap ≤ maxLen := by
 obtain ⟨A, len, cap, g, rfl, hg, hR, h1, h2, h3⟩ := open_flat_slice (ks := [k]) 1 ht (by simp only [kindsF, he]) hC rfl h
 refine ⟨A, len, cap, fun q => gi (g q) 0, rfl, ⟨hR.rd.congr fun i j hi hj => ?_, fun i hi => rfl⟩, h1, h2, h3⟩
 show (ints [k] (g i)).getD j undef = _
 rw [ints_rowK [k] (g i) (hg i hi)]
 rfl
end
end Go.Proofs.YtfaenhhgkhcghaaGreatDoor
namespace Go.Proofs.YtfaenhhgkhcghaaGreatDoor
set_option linter.all false
set_option linter.unusedVariables false
set_option linter.unusedSimpArgs false
open Go.ChangeShapes Go.WideShapes Go.ChangeAt Go.RowKit Go.Deep
theorem Tryz.own : ownKnob Tryz.prog.godebug = none := by kernel_rfl
theorem Tryz.laidOut : laidOutB Tryz.prog = true := by kernel_rfl
section
variable {H : Type} {enc : TypeId × Value → H} {w : World} {base : Nat} {spare : Nat → Bool} {held : Bool}
set_option maxRecDepth 100000 in
theorem leg_of_trod {fuel : Nat} {G : List Value} {y : DataW H × List MemPlace} (hl : G.length = 5) (hy : DataW.trod enc Tryz.prog w base spare held fuel 107 G = some y) :
    ∃ (x : Leg) (g : Nat → Nat → Int), G = legL x ∧ RdR w 4 x.A x.n (fun j => gateL (g j)) := by
  obtain ⟨_, hf⟩ := trod_fields Tryz.underlying107 hy
  obtain ⟨n0, y0, h0⟩ := hf 0 _ rfl
  obtain ⟨n1, y1, h1⟩ := hf 1 _ rfl
  obtain ⟨n2, y2, h2⟩ := hf 2 _ rfl
  obtain ⟨n3, y3, h3⟩ := hf 3 _ rfl
  obtain ⟨k0, e0, _, _⟩ := DataW.trod_int Tryz.underlying3 h0
  obtain ⟨k1, e1, _, _⟩ := DataW.trod_int Tryz.underlying3 h1
  obtain ⟨s2, e2, l2⟩ := kindsF_spec 2 36 [.i64, .i64] (by kernel_rfl) _ _ _ h2
  obtain ⟨A, n, c, gg, e3, hg, hR, _⟩ := open_flat_slice (ks := [.i64, .i64, .i64, .i64]) 3 Tryz.underlying105 (by kernel_rfl) (by kernel_rfl) rfl h3
  have hc1 : Tryz.prog.cellsOf 3 = 1 := by kernel_rfl
  have hc2 : Tryz.prog.cellsOf 36 = 2 := by kernel_rfl
  have hc3 : Tryz.prog.cellsOf 105 = 1 := by kernel_rfl
  match s2, l2 with
  | [a0, a1], _ =>
    match G, hl with
    | [x0, x1, x2, x3, x4], _ =>
      have e0 : [x0] = [.int .i64 k0] := by simpa [hc1] using e0
      have e1 : [x1] = [.int .i64 k1] := by simpa [hc1] using e1
      have e2 : [x2, x3] = [.int .i64 a0, .int .i64 a1] := by simpa [hc2, ints] using e2
      have e3 : [x4] = [.slice A n c] := by simpa [hc3] using e3
      cases e0; cases e1; cases e2; cases e3
      exact ⟨⟨gi [k0, k1, a0, a1], A, n, c⟩, fun j => gi (gg j), rfl, hR.rowK hg⟩
set_option maxRecDepth 100000 in
theorem claim_of_trod {fuel : Nat} {G : List Value} {y : DataW H × List MemPlace} (hl : G.length = 7) (hy : DataW.trod enc Tryz.prog w base spare held fuel 70 G = some y) :
    ∃ x : (Nat → Int) × Bool, G = claimL x := by
  obtain ⟨_, hf⟩ := trod_fields Tryz.underlying70 hy
  obtain ⟨n0, y0, h0⟩ := hf 0 _ rfl
  obtain ⟨n1, y1, h1⟩ := hf 1 _ rfl
  obtain ⟨n2, y2, h2⟩ := hf 2 _ rfl
  obtain ⟨n3, y3, h3⟩ := hf 3 _ rfl
  obtain ⟨n4, y4, h4⟩ := hf 4 _ rfl
  obtain ⟨n5, y5, h5⟩ := hf 5 _ rfl
  obtain ⟨n6, y6, h6⟩ := hf 6 _ rfl
  obtain ⟨k0, e0, _, _⟩ := DataW.trod_int Tryz.underlying3 h0
  obtain ⟨k1, e1, _, _⟩ := DataW.trod_int Tryz.underlying3 h1
  obtain ⟨k2, e2, _, _⟩ := DataW.trod_int Tryz.underlying3 h2
  obtain ⟨k3, e3, _, _⟩ := DataW.trod_int Tryz.underlying3 h3
  obtain ⟨k4, e4, _, _⟩ := DataW.trod_int Tryz.underlying3 h4
  obtain ⟨k5, e5, _, _⟩ := DataW.trod_int Tryz.underlying3 h5
  obtain ⟨m, e6, _⟩ := DataW.trod_bool Tryz.underlying4 h6
  have hc1 : Tryz.prog.cellsOf 3 = 1 := by kernel_rfl
  have hc2 : Tryz.prog.cellsOf 4 = 1 := by kernel_rfl
  match G, hl with
  | [x0, x1, x2, x3, x4, x5, x6], _ =>
    have e0 : [x0] = [.int .i64 k0] := by simpa [hc1] using e0
    have e1 : [x1] = [.int .i64 k1] := by simpa [hc1] using e1
    have e2 : [x2] = [.int .i64 k2] := by simpa [hc1] using e2
    have e3 : [x3] = [.int .i64 k3] := by simpa [hc1] using e3
    have e4 : [x4] = [.int .i64 k4] := by simpa [hc1] using e4
    have e5 : [x5] = [.int .i64 k5] := by simpa [hc1] using e5
    have e6 : [x6] = [.bool m] := by simpa [hc2] using e6
    cases e0; cases e1; cases e2; cases e3; cases e4; cases e5; cases e6
    exact ⟨(gi [k0, k1, k2, k3, k4, k5], m), rfl⟩
theorem rows_choose {α : Type} {n sz : Nat} {A : Option Addr} {G : Nat → List Value} {F : α → List Value} {q : Nat → α → Prop} (d : α) (hR : RdR w sz A n G) (h : ∀ i, i < n → ∃ x, G i = F x ∧ q i x) : ∃ r : Nat → α, RdR w sz A n (fun i => F (r i)) ∧ ∀ i, i < n → q i (r i) := by
 have hch : ∀ i, ∃ x, i < n → G i = F x ∧ q i x := fun i => by
  by_cases hi : i < n
  · obtain ⟨x, hx⟩ := h i hi
    exact ⟨x, fun _ => hx⟩
  · exact ⟨d, fun h => absurd h hi⟩
 obtain ⟨r, hr⟩ := Classical.axiomOfChoice hch
 exact ⟨r, ⟨hR.rd.congr fun i j hi hj => by simp only [rowF, (hr i hi).1], fun i hi => by rw [← (hr i hi).1]; exact hR.len i hi⟩, fun i hi => (hr i hi).2⟩
set_option maxRecDepth 100000 in
theorem open_land {r : Reach} {b0 : Nat} {v : Value} {dd : DataW H} {p : List MemPlace} (hv : Value.okWide Tryz.prog w r b0 25 v) (h : DataW.Trod enc Tryz.prog w base spare held 25 v dd p) :
    ∃ (W A : Option Addr) (nw cw nl cl : Nat) (f : Nat → Nat → Int) (x : Nat → Leg) (g : Nat → Nat → Nat → Int), v = .agg (landL W nw cw A nl cl).toArray ∧ RdR w 9 W nw (fun k => wellL (f k)) ∧ RdR w 5 A nl (fun k => legL (x k)) ∧ ∀ k, k < nl → RdR w 4 (x k).A (x k).n (fun j => gateL (g k j)) := by
  obtain ⟨cs, rfl, hlen⟩ := okWide_struct Tryz.underlying25 hv
  obtain ⟨fuel, hf⟩ := h
  obtain ⟨hl, hfs⟩ := trod_fields Tryz.underlying25 hf
  obtain ⟨n0, y0, h0⟩ := hfs 0 _ rfl
  obtain ⟨n1, y1, h1⟩ := hfs 1 _ rfl
  obtain ⟨W, nw, cw, gg, e0, hg, hR0, _⟩ := open_flat_slice (ks := List.replicate 9 .i64) 3 Tryz.underlying22 (by kernel_rfl) (by kernel_rfl) rfl h0
  obtain ⟨A, nl, cl, G, e1, hR1, hel, _⟩ := open_slice_any (sz := 5) Tryz.underlying23 (by kernel_rfl) rfl h1
  obtain ⟨x, hx, hq⟩ := rows_choose (F := fun q : Leg × (Nat → Nat → Int) => legL q.1) (q := fun _ q => RdR w 4 q.1.A q.1.n (fun j => gateL (q.2 j))) (⟨fun _ => 0, none, 0, 0⟩, fun _ _ => 0) hR1 fun i hi => by
    obtain ⟨n, y, hy⟩ := hel i hi
    obtain ⟨x, g, e, hr⟩ := leg_of_trod (hR1.len i hi) hy
    exact ⟨(x, g), e, hr⟩
  have hc2 : Tryz.prog.cellsOf 25 = 2 := by kernel_rfl
  have hcw : Tryz.prog.cellsOf 22 = 1 := by kernel_rfl
  have hcl : Tryz.prog.cellsOf 23 = 1 := by kernel_rfl
  rw [hc2] at hl
  obtain ⟨L⟩ := cs
  match L, hl with
  | [x0, x1], _ =>
    have e0 : [x0] = [.slice W nw cw] := by simpa [hcw, Value.cells] using e0
    have e1 : [x1] = [.slice A nl cl] := by simpa [hcl, Value.cells] using e1
    cases e0; cases e1
    exact ⟨W, A, nw, cw, nl, cl, fun k => gi (gg k), fun k => (x k).1, fun k => (x k).2, rfl, hR0.rowK hg, hx, hq⟩
set_option maxRecDepth 100000 in
theorem open_custom {r : Reach} {b0 : Nat} {v : Value} {dd : DataW H} {p : List MemPlace} (hv : Value.okWide Tryz.prog w r b0 30 v) (h : DataW.Trod enc Tryz.prog w base spare held 30 v dd p) :
    ∃ (C D B : Option Addr) (nc cc nd cd nb cb : Nat) (c : Nat → (Nat → Int) × Bool) (d b : Nat → Nat → Int), v = .agg (custL C nc cc D nd cd B nb cb).toArray ∧ RdR w 7 C nc (fun k => claimL (c k)) ∧ RdR w 4 D nd (fun k => feudL (d k)) ∧ RdR w 3 B nb (fun k => borderL (b k)) := by
  obtain ⟨cs, rfl, hlen⟩ := okWide_struct Tryz.underlying30 hv
  obtain ⟨fuel, hf⟩ := h
  obtain ⟨hl, hfs⟩ := trod_fields Tryz.underlying30 hf
  obtain ⟨n0, y0, h0⟩ := hfs 0 _ rfl
  obtain ⟨n1, y1, h1⟩ := hfs 1 _ rfl
  obtain ⟨n2, y2, h2⟩ := hfs 2 _ rfl
  obtain ⟨C, nc, cc, G, e0, hR0, hel, _⟩ := open_slice_any (sz := 7) Tryz.underlying26 (by kernel_rfl) rfl h0
  obtain ⟨D, nd, cd, gd, e1, hgd, hR1, _⟩ := open_flat_slice (ks := List.replicate 4 .i64) 3 Tryz.underlying27 (by kernel_rfl) (by kernel_rfl) rfl h1
  obtain ⟨B, nb, cb, gb, e2, hgb, hR2, _⟩ := open_flat_slice (ks := List.replicate 3 .i64) 3 Tryz.underlying28 (by kernel_rfl) (by kernel_rfl) rfl h2
  obtain ⟨c, hc, _⟩ := rows_choose (F := claimL) (q := fun _ _ => True) (fun _ => 0, false) hR0 fun i hi => by
    obtain ⟨n, y, hy⟩ := hel i hi
    obtain ⟨x, e⟩ := claim_of_trod (hR0.len i hi) hy
    exact ⟨x, e, trivial⟩
  have hc3 : Tryz.prog.cellsOf 30 = 3 := by kernel_rfl
  have hk1 : Tryz.prog.cellsOf 26 = 1 := by kernel_rfl
  have hk2 : Tryz.prog.cellsOf 27 = 1 := by kernel_rfl
  have hk3 : Tryz.prog.cellsOf 28 = 1 := by kernel_rfl
  rw [hc3] at hl
  obtain ⟨L⟩ := cs
  match L, hl with
  | [x0, x1, x2], _ =>
    have e0 : [x0] = [.slice C nc cc] := by simpa [hk1, Value.cells] using e0
    have e1 : [x1] = [.slice D nd cd] := by simpa [hk2, Value.cells] using e1
    have e2 : [x2] = [.slice B nb cb] := by simpa [hk3, Value.cells] using e2
    cases e0; cases e1; cases e2
    exact ⟨C, D, B, nc, cc, nd, cd, nb, cb, c, fun k => gi (gd k), fun k => gi (gb k), rfl, hc, hR1.rowK hgd, hR2.rowK hgb⟩
set_option maxRecDepth 100000 in
theorem open_troop {r : Reach} {b0 : Nat} {v : Value} {dd : DataW H} {p : List MemPlace} (hv : Value.okWide Tryz.prog w r b0 33 v) (h : DataW.Trod enc Tryz.prog w base spare held 33 v dd p) :
    ∃ (T : Trp) (O U V : Option Addr) (co cu cv : Nat), v = .agg (troopL T.hd T.wo O T.no co U T.nu cu V T.nv cv).toArray ∧ RdR w 1 O T.no (fun k => [.int .i64 (T.o k)]) ∧ RdR w 1 U T.nu (fun k => [.int .i64 (T.u k)]) ∧ RdR w 1 V T.nv (fun k => [.int .i64 (T.v k)]) := by
  obtain ⟨cs, rfl, hlen⟩ := okWide_struct Tryz.underlying33 hv
  obtain ⟨fuel, hf⟩ := h
  obtain ⟨hl, hfs⟩ := trod_fields Tryz.underlying33 hf
  obtain ⟨n0, y0, h0⟩ := hfs 0 _ rfl
  obtain ⟨n1, y1, h1⟩ := hfs 1 _ rfl
  obtain ⟨n2, y2, h2⟩ := hfs 2 _ rfl
  obtain ⟨n3, y3, h3⟩ := hfs 3 _ rfl
  obtain ⟨n4, y4, h4⟩ := hfs 4 _ rfl
  obtain ⟨k0, e0, _, _⟩ := DataW.trod_int Tryz.underlying3 h0
  obtain ⟨k1, e1, _, _⟩ := DataW.trod_int Tryz.underlying3 h1
  obtain ⟨O, no, co, o, e2, hO, _⟩ := open_ints_in Tryz.underlying31 Tryz.underlying3 (by kernel_rfl) h2
  obtain ⟨U, nu, cu, u, e3, hU, _⟩ := open_ints_in Tryz.underlying31 Tryz.underlying3 (by kernel_rfl) h3
  obtain ⟨V, nv, cv, x, e4, hV, _⟩ := open_ints_in Tryz.underlying31 Tryz.underlying3 (by kernel_rfl) h4
  have hc5 : Tryz.prog.cellsOf 33 = 5 := by kernel_rfl
  have hc1 : Tryz.prog.cellsOf 3 = 1 := by kernel_rfl
  have hc2 : Tryz.prog.cellsOf 31 = 1 := by kernel_rfl
  rw [hc5] at hl
  obtain ⟨L⟩ := cs
  match L, hl with
  | [x0, x1, x2, x3, x4], _ =>
    have e0 : [x0] = [.int .i64 k0] := by simpa [hc1, Value.cells] using e0
    have e1 : [x1] = [.int .i64 k1] := by simpa [hc1, Value.cells] using e1
    have e2 : [x2] = [.slice O no co] := by simpa [hc2, Value.cells] using e2
    have e3 : [x3] = [.slice U nu cu] := by simpa [hc2, Value.cells] using e3
    have e4 : [x4] = [.slice V nv cv] := by simpa [hc2, Value.cells] using e4
    cases e0; cases e1; cases e2; cases e3; cases e4
    exact ⟨⟨k0, k1, no, nu, nv, o, u, x⟩, O, U, V, co, cu, cv, rfl, hO, hU, hV⟩
set_option maxRecDepth 100000 in
theorem open_span {r : Reach} {b0 : Nat} {v : Value} {dd : DataW H} {p : List MemPlace} (hv : Value.okWide Tryz.prog w r b0 36 v) (h : DataW.Trod enc Tryz.prog w base spare held 36 v dd p) :
    ∃ a b : Int, v = .agg #[.int .i64 a, .int .i64 b] := by
  obtain ⟨cs, rfl, hlen⟩ := okWide_struct Tryz.underlying36 hv
  obtain ⟨fuel, hf⟩ := h
  obtain ⟨s2, e2, l2⟩ := kindsF_spec 2 36 [.i64, .i64] (by kernel_rfl) _ _ _ hf
  match s2, l2 with
  | [a0, a1], _ =>
    refine ⟨a0, a1, ?_⟩
    have e3 : cs.toList = [.int .i64 a0, .int .i64 a1] := by simpa [ints, Value.cells] using e2
    obtain ⟨L⟩ := cs
    have e4 : L = [.int .i64 a0, .int .i64 a1] := e3
    rw [e4]
set_option maxRecDepth 100000 in
theorem open_numbers {r : Reach} {b0 : Nat} {v : Value} {dd : DataW H} {p : List MemPlace} (hv : Value.okWide Tryz.prog w r b0 31 v) (h : DataW.Trod enc Tryz.prog w base spare held 31 v dd p) :
  ∃ (A : Option Addr) (n cp : Nat) (u : Nat → Int), v = .slice A n cp ∧ RdR w 1 A n (fun k => [.int .i64 (u k)]) := by
 obtain ⟨A, n, cp, g, rfl, hg, hR, _, _, _⟩ := open_rows 1 [.i64] Tryz.underlying31 (by kernel_rfl) (by kernel_rfl) rfl hv h
 exact ⟨A, n, cp, fun i => gi (g i) 0, rfl, hR.rowK hg⟩
end
theorem gBars : Tryz.prog.globalNamed "azalai/toll.bars" = some 0 := by kernel_rfl
theorem tBars : (Tryz.prog.globals[0]?).map (·.type) = some 197 := by kernel_rfl
theorem nil_of_trod {w : World} {base : Nat} {sp : Nat → Bool} {fuel : Nat} {t : TypeId} {ps rs : Array TypeId} {va : Bool} {v : Value} {q : List MemPlace} (ht : Tryz.prog.underlying t = some (.func ps rs va)) (h : DataW.trod (funcToken Tryz.prog) Tryz.prog w base sp true fuel t [v] = some (.nil, q)) : v = Value.nilFunc := by
 cases fuel with
 | zero => simp [DataW.trod] at h
 | succ n => cases v <;> simp [DataW.trod, ht] at h <;> rfl
set_option maxRecDepth 100000 in
theorem bars0_of_laid {W : World} (h : laidMetH Tryz.prog [("azalai/toll.bars", Rows.laid_azalai_toll_bars)] W) : OldB W 0 barsL := by
  obtain ⟨g0, t0, cs, fuel, p, hg, ht, hv, hd⟩ := h.funcs (List.mem_singleton.2 rfl)
  obtain rfl := Option.some.inj (gBars.symm.trans hg)
  obtain rfl := Option.some.inj (tBars.symm.trans ht)
  have hd' : DataW.trod (funcToken Tryz.prog) Tryz.prog W 0 (fun _ => true) true fuel 197 cs.toList = some (.agg [.nil, .held [40, 42, 97, 122, 97, 108, 97, 105, 47, 116, 111, 108, 108, 46, 116, 114, 101, 107, 41, 46, 99, 108, 111, 115, 101, 100], .held [40, 42, 97, 122, 97, 108, 97, 105, 47, 116, 111, 108, 108, 46, 116, 114, 101, 107, 41, 46, 104, 97, 116, 101, 100], .held [40, 42, 97, 122, 97, 108, 97, 105, 47, 116, 111, 108, 108, 46, 116, 114, 101, 107, 41, 46, 108, 111, 115, 116]], p) := hd
  have hfl : ∃ c0 c1 c2 c3, cs = #[c0, c1, c2, c3] := by
    obtain ⟨xs, m, _, _, hl, _, _⟩ := DataW.trod_array Tryz.underlying197 hd'
    have hc : Tryz.prog.cellsOf 197 = 4 := by kernel_rfl
    rw [hc] at hl
    obtain ⟨L⟩ := cs
    match L, hl with
    | [c0, c1, c2, c3], _ => exact ⟨c0, c1, c2, c3, rfl⟩
  obtain ⟨c0, c1, c2, c3, rfl⟩ := hfl
  obtain ⟨y0, y1, y2, y3, n, hx, h0, h1, h2, h3⟩ := trod_array4 Tryz.underlying197 (by kernel_rfl) hd'
  simp only [Prod.mk.injEq, DataW.agg.injEq, List.cons.injEq, and_true] at hx
  obtain ⟨⟨e0, e1, e2, e3⟩, _⟩ := hx
  obtain ⟨d0, q0⟩ := y0
  obtain ⟨d1, q1⟩ := y1
  obtain ⟨d2, q2⟩ := y2
  obtain ⟨d3, q3⟩ := y3
  simp only at e0 e1 e2 e3
  subst e0 e1 e2 e3
  obtain rfl := nil_of_trod Tryz.underlying196 h0
  obtain rfl := func_of_trod (f0 := 192) Tryz.underlying196 (by kernel_rfl) h1
  obtain rfl := func_of_trod (f0 := 193) Tryz.underlying196 (by kernel_rfl) h2
  obtain rfl := func_of_trod (f0 := 194) Tryz.underlying196 (by kernel_rfl) h3
  have hc := World.var?_cell hg hv
  exact ⟨World.block_lt_of_cell? W ⟨0, 0, none⟩ (hc 0), fun j v hj => by rw [hc j]; simpa [barsL, barV, barF] using hj⟩
end Go.Proofs.YtfaenhhgkhcghaaGreatDoor
namespace Go.Proofs.YtfaenhhgkhcghaaGreatDoor
set_option linter.all false
set_option linter.unusedVariables false
set_option linter.unusedSimpArgs false
open Go.ChangeShapes Go.WideShapes Go.ChangeAt Go.RowKit Go.Deep
section
variable {H : Type} {enc : TypeId × Value → H} {P : Program} {w : World} {base : Nat} {spare : Nat → Bool} {held : Bool}
theorem trodAll_ten {t0 t1 t2 t3 t4 t5 t6 t7 t8 t9 : TypeId} {args : Array Value} {ds : List (DataW H)} {ps : List MemPlace} (h : DataW.TrodAll enc P w base spare held [t0, t1, t2, t3, t4, t5, t6, t7, t8, t9] args.toList ds ps) :
  ∃ v0 v1 v2 v3 v4 v5 v6 v7 v8 v9 d0 d1 d2 d3 d4 d5 d6 d7 d8 d9 p0 p1 p2 p3 p4 p5 p6 p7 p8 p9, args = #[v0, v1, v2, v3, v4, v5, v6, v7, v8, v9] ∧ ds = [d0, d1, d2, d3, d4, d5, d6, d7, d8, d9] ∧ ps = p0 ++ (p1 ++ (p2 ++ (p3 ++ (p4 ++ (p5 ++ (p6 ++ (p7 ++ (p8 ++ p9)))))))) ∧ DataW.Trod enc P w base spare held t0 v0 d0 p0 ∧ DataW.Trod enc P w base spare held t1 v1 d1 p1 ∧ DataW.Trod enc P w base spare held t2 v2 d2 p2 ∧ DataW.Trod enc P w base spare held t3 v3 d3 p3 ∧ DataW.Trod enc P w base spare held t4 v4 d4 p4 ∧ DataW.Trod enc P w base spare held t5 v5 d5 p5 ∧ DataW.Trod enc P w base spare held t6 v6 d6 p6 ∧ DataW.Trod enc P w base spare held t7 v7 d7 p7 ∧ DataW.Trod enc P w base spare held t8 v8 d8 p8 ∧ DataW.Trod enc P w base spare held t9 v9 d9 p9 := by
 obtain ⟨v0, vs0, d0, ds0, p0, q0, hargs, rfl, rfl, h0, hr0⟩ := trodAll_cons h
 obtain ⟨v1, vs1, d1, ds1, p1, q1, rfl, rfl, rfl, h1, hr1⟩ := trodAll_cons hr0
 obtain ⟨v2, vs2, d2, ds2, p2, q2, rfl, rfl, rfl, h2, hr2⟩ := trodAll_cons hr1
 obtain ⟨v3, vs3, d3, ds3, p3, q3, rfl, rfl, rfl, h3, hr3⟩ := trodAll_cons hr2
 obtain ⟨v4, vs4, d4, ds4, p4, q4, rfl, rfl, rfl, h4, hr4⟩ := trodAll_cons hr3
 obtain ⟨v5, vs5, d5, ds5, p5, q5, rfl, rfl, rfl, h5, hr5⟩ := trodAll_cons hr4
 obtain ⟨v6, vs6, d6, ds6, p6, q6, rfl, rfl, rfl, h6, hr6⟩ := trodAll_cons hr5
 obtain ⟨v7, vs7, d7, ds7, p7, q7, rfl, rfl, rfl, h7, hr7⟩ := trodAll_cons hr6
 obtain ⟨v8, vs8, d8, ds8, p8, q8, rfl, rfl, rfl, h8, hr8⟩ := trodAll_cons hr7
 obtain ⟨v9, vs9, d9, ds9, p9, q9, rfl, rfl, rfl, h9, hr9⟩ := trodAll_cons hr8
 obtain ⟨rfl, rfl, rfl⟩ := trodAll_nil hr9
 exact ⟨v0, v1, v2, v3, v4, v5, v6, v7, v8, v9, d0, d1, d2, d3, d4, d5, d6, d7, d8, d9, p0, p1, p2, p3, p4, p5, p6, p7, p8, p9, by cases args; simp_all, rfl, by simp, h0, h1, h2, h3, h4, h5, h6, h7, h8, h9⟩
set_option maxRecDepth 100000 in
theorem open_fees {r : Reach} {b0 : Nat} {v : Value} {dd : DataW H} {p : List MemPlace} (hv : Value.okWide Tryz.prog w r b0 34 v) (h : DataW.Trod enc Tryz.prog w base spare held 34 v dd p) :
  ∃ (A : Option Addr) (E : Fes) (cp : Nat), v = .slice A E.nf cp ∧ RdR w 2 A E.nf (feeL E) := by
 obtain ⟨A, n, cp, g, rfl, hg, hR, _, _, _⟩ := open_rows 2 [.i64, .i64] Tryz.underlying34 (by kernel_rfl) (by kernel_rfl) rfl hv h
 exact ⟨A, ⟨n, fun k => gi (g k) 0, fun k => gi (g k) 1⟩, cp, rfl, hR.rowK hg⟩
end
end Go.Proofs.YtfaenhhgkhcghaaGreatDoor
namespace Go.Proofs.YtfaenhhgkhcghaaGreatDoor
set_option linter.all false
set_option linter.unusedVariables false
set_option linter.unusedSimpArgs false
open Go.ChangeShapes Go.WideShapes Go.ChangeAt Go.RowKit Go.Deep
set_option maxRecDepth 100000 in
theorem tollHires_door (os : Os) (args : Array Value) : laidMetH Tryz.prog Rows.tollHiresRow.laid ((World.doorLaid Tryz.prog 14 os).forCall (fun _ _ => 0) ⟨#[], args, []⟩).memory :=
 laidMetH_of_parts3 (fuel := 8) (laidMet_of_run' 8 (by kernel_rfl) (by kernel_rfl)) (by kernel_rfl) (by kernel_rfl)
set_option maxRecDepth 100000 in
theorem tollHires_lifted (os : Os) (started : os.Started) (H : Type) (enc : TypeId × Value → H) :
    ReturnsInHanded {} Tryz.checked os 3 .any (fun w args => (Rows.tollHiresSpec.pre enc Tryz.prog Tryz.f3 [] false w args ∧ laidMetH Tryz.prog Rows.tollHiresRow.laid w) ∧ sizedMet enc Tryz.prog Tryz.f3 (OpenSpec.ofChange Rows.tollHiresSpec) false w args) (Rows.tollHiresSpec.post enc Tryz.prog Tryz.f3 false true false false) := by
  refine returnsInHanded_of_change_and (C := Tryz.checked) (X := fun w _ => laidMetH Tryz.prog Rows.tollHiresRow.laid w) (fun _ _ _ hh h => h.of_heap hh) Tryz.own started (by kernel_rfl) Tryz.func3
    (ChangeSpec.witness_shaped (enc := enc) (C := Tryz.checked) (os := os) (X := fun w _ => laidMetH Tryz.prog Rows.tollHiresRow.laid w) false (World.doorLaid Tryz.prog 14 os) #[.agg #[.slice none 0 0, .slice none 0 0], .agg #[.slice none 0 0, .slice none 0 0, .slice none 0 0], .agg #[.int .i64 0, .int .i64 0, .slice none 0 0, .slice none 0 0, .slice none 0 0], .slice none 0 0, .int .i64 0, .int .i64 0, .int .i64 0, .int .i64 0, .agg #[.int .i64 0, .int .i64 0], .slice none 0 0] 8 rfl (World.shaped_of_RefB (by kernel_rfl) (by kernel_rfl)) (by kernel_rfl) (by kernel_rfl) (by kernel_rfl) (tollHires_door os _)) ?_
  intro W base args ds gs before hval0 hW _ _ hLd _
  have hval : ∀ (j : Nat) t v, Tryz.f3.params[j]? = some t → args[j]? = some v → Value.okWide Tryz.prog W .any base t v := hval0
  have hW' := hW
  obtain ⟨p, q, hA0, hV, rfl, hfz, hnd⟩ := hW
  have hA : DataW.TrodAll enc Tryz.prog W 0 (fun _ => true) true Tryz.f3.params.toList args.toList ds p := hA0
  have hA1 := hA
  rw [Tryz.params3] at hA hval
  obtain ⟨v0, v1, v2, v3, v4, v5, v6, v7, v8, v9, d0, d1, d2, d3, d4, d5, d6, d7, d8, d9, p0, p1, p2, p3, p4, p5, p6, p7, p8, p9, rfl, rfl, rfl, h0, h1, h2, h3, h4, h5, h6, h7, h8, h9⟩ := trodAll_ten hA
  obtain ⟨rfl, rfl⟩ := trodVars_none hV
  have hG : OldB W 0 barsL := bars0_of_laid hLd
  obtain ⟨Wl, A, nw, cw, nl, cl, f, x, g, rfl, hRW, hRA, hRG⟩ := open_land (hval 0 25 v0 rfl rfl) h0
  obtain ⟨C, D, B, nc, cc, nd, cd, nb, cb, c, d, b, rfl, hRC, hRD, hRB⟩ := open_custom (hval 1 30 v1 rfl rfl) h1
  obtain ⟨T, O, U, V, co, cu, cv, rfl, hRO, hRU, hRV⟩ := open_troop (hval 2 33 v2 rfl rfl) h2
  obtain ⟨G, E, cg, rfl, hE⟩ := open_fees (hval 3 34 v3 rfl rfl) h3
  obtain ⟨start, rfl, _⟩ := open_int Tryz.underlying3 (hval 4 3 v4 rfl rfl) h4
  obtain ⟨to9, rfl, _⟩ := open_int Tryz.underlying3 (hval 5 3 v5 rfl rfl) h5
  obtain ⟨day, rfl, _⟩ := open_int Tryz.underlying3 (hval 6 3 v6 rfl rfl) h6
  obtain ⟨un9, rfl, _⟩ := open_int Tryz.underlying3 (hval 7 3 v7 rfl rfl) h7
  obtain ⟨q0, q1, rfl⟩ := open_span (hval 8 36 v8 rfl rfl) h8
  obtain ⟨L, n, cn, ls, rfl, hRL⟩ := open_numbers (hval 9 31 v9 rfl rfl) h9
  clear hA0 hval0
  simp only [List.append_nil] at hW'
  refine (lawHires_any (Y := ⟨nw, nl, f, x, g, q0, q1, start, day, n, ls⟩) (Z := ⟨nc, nd, nb, c, d, b⟩) (T := T) (E := E) (to := to9) (un := un9) hE ⟨hRW, hRA, hRG, hRC, hRD, hRB, hRO, hRU, hRV, hRL⟩ hRL hG).mono ?_
  rintro e W' ⟨rfl, hb⟩
  exact ⟨_, rfl, law_post Tryz.laidOut rfl hW' hA1 (by kernel_rfl) (by kernel_rfl) Tryz.underlying4 rfl hb⟩
theorem tollHires_row : Rows.TollHiresSaid :=
  OpenClaim.holds_of_wide 3 Tryz.f3 rfl rfl rfl rfl rfl rfl rfl ⟨rfl, rfl, rfl, rfl, rfl⟩ rfl rfl rfl rfl rfl (by kernel_rfl) Tryz.func3 (by kernel_rfl)
    (of_decide_eq_true (by kernel_rfl)) (by unfold Func.isWrapper; first | (rw [if_pos (by decide +kernel)]; kernel_rfl) | (rw [if_neg (by decide +kernel)]; exact ⟨rfl, rfl⟩))
    (fun os started H enc _ => tollHires_lifted os started H enc)
theorem tollHires_holds : Rows.TollHiresCardSaid :=
 Claim7.holds_tied_plain_at .later [] [.funcs] true _ false
  tollHires_row (fun _ h => by cases h) (by kernel_rfl) (fun _ h => by cases h) tollHires_row_tie rfl ⟨rfl, rfl⟩ (by kernel_rfl) rfl
  (fun f fn hf hfn => by
   obtain rfl : f = 3 := Option.some.inj ((show Tryz.prog.funcNamed "azalai/azalailaw07.TollHires" = some 3 by kernel_rfl).symm.trans hf) |>.symm
   obtain rfl : fn = Tryz.f3 := (Option.some.inj (Tryz.func3.symm.trans hfn)).symm
   exact ⟨by kernel_rfl, fun j t ht => by
    have hall : (Tryz.f3.params.toList.all fun u => !Tryz.prog.wantsStandIn u) = true := by kernel_rfl
    have hm : t ∈ Tryz.f3.params.toList := by simpa using Array.mem_of_getElem? ht
    exact (show Tryz.prog.wantsStandIn t = false by simpa using List.all_eq_true.1 hall t hm)⟩)
  (by kernel_rfl)
end Go.Proofs.YtfaenhhgkhcghaaGreatDoor
