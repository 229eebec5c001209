/-
  The statement TollCheapestCardSaid: for every input the law TollCheapest returns true, and its arguments read afterwards as before; toll.bars reads as the program's text lays it, by the tie that is given. No other condition.
-/
import Derived.Test.YtmonkjnfjgidbaaGreatDoorCh13
import Derived.Test.YtmonkjnfjgidbaaGreatDoorCh02
import Derived.ProofKit
import Derived.Deep.Slices
import Derived.Carry
import Derived.Test.YtmonkjnfjgidbaaGreatDoorCh11
import Derived.Test.YtmonkjnfjgidbaaGreatDoorRows
import Derived.OpenShut
import Derived.LaidMore
import Derived.Stop.Joined
import Derived.Test.YtmonkjnfjgidbaaGreatDoorTie
import Derived.Test.YtmonkjnfjgidbaaGreatDoorCards
import Derived.SevenTiedAt
namespace Go.Proofs.YtmonkjnfjgidbaaGreatDoor
set_option linter.all false
set_option linter.unusedVariables false
set_option linter.unusedSimpArgs false
open Go.RowKit
section
variable {Y : Wy} {Z : Cus} {T : Trp} {E : Fes} {to un : Int} {L : List (List Int)}
theorem chpK_is : ∀ k, (chpK Y Z T E L k).2.2.2 = true → (hirW (wsV Y (L.getD (chpK Y Z T E L k).1 [])) Z T E).2.2 = true ∧ (chpK Y Z T E L k).2.1 = (hirW (wsV Y (L.getD (chpK Y Z T E L k).1 [])) Z T E).1 ∧ (chpK Y Z T E L k).2.2.1 = wcN Y Z T E (L.getD (chpK Y Z T E L k).1 [])
  | 0, h => by simp [chpK] at h
  | k + 1, h => by
    simp only [chpK] at h ⊢
    split
    · next e =>
      rw [Bool.and_eq_true] at e
      exact ⟨e.1, rfl, rfl⟩
    · next e =>
      rw [if_neg e] at h
      exact chpK_is k h
theorem chpK_min : ∀ k j, j < k → (hirW (wsV Y (L.getD j [])) Z T E).2.2 = true → (chpK Y Z T E L k).2.2.2 = true ∧ ((chpK Y Z T E L k).2.2.1 < wcN Y Z T E (L.getD j []) ∨ ((chpK Y Z T E L k).2.2.1 = wcN Y Z T E (L.getD j []) ∧ (chpK Y Z T E L k).1 ≤ j))
  | 0, j, h, _ => by omega
  | k + 1, j, h, hj => by
    simp only [chpK]
    split
    · next e =>
      refine ⟨rfl, ?_⟩
      by_cases e2 : j = k
      · subst e2
        exact .inr ⟨rfl, Nat.le_refl _⟩
      · obtain ⟨h1, h2⟩ := chpK_min k j (by omega) hj
        rw [h1] at e
        simp only [Bool.not_true, Bool.false_or, Bool.and_eq_true, decide_eq_true_eq] at e
        left
        simp only
        omega
    · next e =>
      by_cases e2 : j = k
      · subst e2
        rw [hj, Bool.true_and, Bool.or_eq_true, Bool.not_eq_true', decide_eq_true_eq, not_or] at e
        have h1 : (chpK Y Z T E L j).2.2.2 = true := by simpa using e.1
        have h3 := chpK_at j h1
        refine ⟨h1, ?_⟩
        by_cases h4 : (chpK Y Z T E L j).2.2.1 < wcN Y Z T E (L.getD j [])
        · exact .inl h4
        · exact .inr ⟨by omega, by omega⟩
      · exact chpK_min k j (by omega) hj
def cstN (Y : Wy) (Z : Cus) (T : Trp) (E : Fes) (v : List Int) : Int := hirN (wsV Y v) Z T E + dueHi (wsV Y v) Z T
def cstB (Y : Wy) (Z : Cus) (T : Trp) (E : Fes) (v : List Int) : Bool := decide (hirC (wsV Y v) Z T E = 0) && decide (tolC (wsV Y v) Z T = 0)
theorem cst_is {v : List Int} (hr : rdyC Y Z T = 0) (hE : fesOk E = true) (hw : wkC (wsV Y v) = 0) : cstB Y Z T E v = (hirW (wsV Y v) Z T E).2.2 ∧ ((hirW (wsV Y v) Z T E).2.2 = true → cstN Y Z T E v = wcN Y Z T E v ∧ hirC (wsV Y v) Z T E = 0 ∧ hirL (wsV Y v) Z T E = (hirW (wsV Y v) Z T E).1) := by
  have hr' : rdyC (wsV Y v) Z T = 0 := hr
  have ht : tolC (wsV Y v) Z T = 0 := by rw [tol_wk hr']; exact hw
  cases hf : (hirW (wsV Y v) Z T E).2.2 with
  | true =>
    have hc := hirC_ok hr' hE hw hf
    refine ⟨by unfold cstB; rw [hc, ht]; rfl, fun _ => ⟨?_, hc, if_pos hc⟩⟩
    unfold cstN wcN hirN dueHi
    rw [if_pos hc, if_pos ht]
    rfl
  | false =>
    have hc := hirC_no hr' hE hw hf
    exact ⟨by unfold cstB; rw [hc]; rfl, fun h => by cases h⟩
theorem chpC_if (hr : rdyC Y Z T = 0) (hE : fesOk E = true) (hw : wsC Y to un = 0) : chpC Y Z T E to un = if (chpS Y Z T E to un).2.2.2 = true then 0 else 75 := by unfold chpC; rw [if_neg (by omega), if_neg (by rw [hE]; simp), if_neg (by omega)]
theorem chpC_wy (hr : rdyC Y Z T = 0) (hE : fesOk E = true) (hw : wsC Y to un ≠ 0) : chpC Y Z T E to un = wsC Y to un := by unfold chpC; rw [if_neg (by omega), if_neg (by rw [hE]; simp), if_pos hw]
theorem chp_none (h : chpC Y Z T E to un ≠ 0) : chpL Y Z T E to un = [] ∧ chpG Y Z T E to un = [] ∧ chpN Y Z T E to un = 0 := ⟨if_neg h, if_neg h, if_neg h⟩
end
section
variable {Y : Wy} {Z : Cus} {T : Trp} {E : Fes} {to un : Int} {W A C D B O U V G : Option Addr} {cw cl cc cd cb co cu cv cg : Nat} {w : World}
set_option maxRecDepth 100000 in
set_option maxHeartbeats 4000000 in
theorem cost1_any {M : Option Addr} {cm : Nat} (l : List Int) (b1 b2 b3 b4 b5 b6 b7 : Nat) (hlen : l.length ≤ 1000) (hok : CusOk Z) (htr : trpOk T = true) (hnf : E.nf ≤ 1000) (hfe : fesOk E = true) (hL : LandIn w W Y.nw A Y.nl Y.f Y.x Y.g) (hC : CustIn w C Z.nc D Z.nd B Z.nb Z.c Z.d Z.b) (hT : TrpIn w T O U V) (hE : RdR w 2 G E.nf (feeL E)) (hG : OldB w 0 barsL)
    (hM : RdR w 1 M l.length (iL l)) (o1 : OldB w b1 [.slice W Y.nw cw, .slice A Y.nl cl]) (o2 : OldB w b2 [.slice C Z.nc cc, .slice D Z.nd cd, .slice B Z.nb cb]) (o3 : OldB w b3 [.int .i64 T.hd, .int .i64 T.wo, .slice O T.no co, .slice U T.nu cu, .slice V T.nv cv]) (o4 : OldB w b4 [.slice G E.nf cg]) (o5 : OldB w b5 [.int .i64 Y.start]) (o6 : OldB w b6 [.int .i64 Y.day]) (o7 : OldB w b7 [.int .i64 Y.p0, .int .i64 Y.p1]) :
    Calls Tryz.prog 53 #[.slice M l.length cm, .pointer (some ⟨b1, 0, none⟩), .pointer (some ⟨b2, 0, none⟩), .pointer (some ⟨b3, 0, none⟩), .pointer (some ⟨b4, 0, none⟩), .pointer (some ⟨b5, 0, none⟩), .pointer (some ⟨b6, 0, none⟩), .pointer (some ⟨b7, 0, none⟩)] w (Ret w (.tuple #[.int .i64 (cstN Y Z T E l), .bool (cstB Y Z T E l)])) := by
  have fH := fun (w' : World) (h1 : LandIn w' W Y.nw A Y.nl Y.f Y.x Y.g) (h2 : RdR w' 1 M l.length (iL l)) (h3 : CustIn w' C Z.nc D Z.nd B Z.nb Z.c Z.d Z.b) (h4 : TrpIn w' T O U V) (h5 : OldB w' 0 barsL) (h6 : RdR w' 2 G E.nf (feeL E)) => tollHire_any (Y := wsV Y l) (L := M) (cw := cw) (cl := cl) (cn := cm) (cc := cc) (cd := cd) (cb := cb) (co := co) (cu := cu) (cv := cv) (cg := cg) h1 hlen h2 h3 h4 h5 hnf h6
  have fD := fun (w' : World) (h1 : LandIn w' W Y.nw A Y.nl Y.f Y.x Y.g) (h2 : RdR w' 1 M l.length (iL l)) (h3 : CustIn w' C Z.nc D Z.nd B Z.nb Z.c Z.d Z.b) (h4 : TrpIn w' T O U V) => tollDue_any (Y := wsV Y l) (L := M) (cw := cw) (cl := cl) (cn := cm) (cc := cc) (cd := cd) (cb := cb) (co := co) (cu := cu) (cv := cv) h1 hlen h2 h3 h4
  rw [dueV_eq, dueK_eq] at fD
  unfold hirA hirF at fH
  unfold landL custL troopL at fH fD
  have hbn : 0 ≤ hirN (wsV Y l) Z T E ∧ hirN (wsV Y l) Z T E ≤ 8000000000000 := by
    unfold hirN
    split
    exact hirW_bd hfe
    omega
  have hbh : 0 ≤ dueHi (wsV Y l) Z T ∧ dueHi (wsV Y l) Z T ≤ 2000000000000000 := by
    unfold dueHi
    split
    have h9 := all_bd (st := stY (wsV Y l)) hok htr l.length
    have e9 : (wsV Y l).n = l.length := rfl
    rw [e9]
    omega
    omega
  refine K_enter (S := []) (K := []) Tryz.func53 rfl Tryz.ntmps53 rfl (Sat.start _) ?_
  refine TW.seq fun Y1 hY1 => ?_
  refine TW.region ?_
  refine TL.p Pu.as ?_
  refine TL.p Pu.as ?_
  refine TL.nil ?_
  refine TQ.thenN (hY1 _ _ ?_)
  refine TW.seq fun Y2 hY2 => ?_
  refine TW.region ?_
  refine TL.p (by first | exact (Pu.lds ty_ag25) | exact (Pu.ldso ty_ag25)) ?_
  refine TL.p (by first | exact (Pu.lds ty_ag30) | exact (Pu.ldso ty_ag30)) ?_
  refine TL.p (by first | exact (Pu.lds ty_ag33) | exact (Pu.ldso ty_ag33)) ?_
  refine TL.p (by first | exact (Pu.ld ty_sc90) | exact (Pu.ldo ty_sc90)) ?_
  refine TL.p (by first | exact (Pu.ld ty_sc3) | exact (Pu.ldo ty_sc3)) ?_
  refine TL.p (by first | exact (Pu.ld ty_sc3) | exact (Pu.ldo ty_sc3)) ?_
  refine TL.p (by first | exact (Pu.lds ty_ag35) | exact (Pu.ldso ty_ag35)) ?_
  refine TL.p Pu.mv ?_
  refine TL.call (M := []) rfl (enters Tryz.func41 rfl rfl) (List.Perm.refl _) rfl (fun w hw => by
      exact fH _ (hL.ext (Chg.ext hw.chg)) (hM.sat hw Apart.nil) (hC.ext (Chg.ext hw.chg)) (hT.ext (Chg.ext hw.chg)) (hG.ext (Chg.ext hw.chg)) (hE.sat hw Apart.nil)) ?_
  rintro ⟨Ag, ag⟩
  simp only [List.cons_append, List.nil_append]
  refine TL.p Pu.mv ?_
  refine TL.p Pu.ex ?_
  refine TL.p Pu.ex ?_
  refine TL.p Pu.ex ?_
  refine TL.p Pu.as ?_
  refine TL.p Pu.as ?_
  refine TL.p Pu.as ?_
  refine TL.nil ?_
  refine TQ.thenN (hY2 _ _ ?_)
  refine TW.seq fun Y3 hY3 => ?_
  refine TW.region ?_
  refine TL.p (by first | exact (Pu.lds ty_ag25) | exact (Pu.ldso ty_ag25)) ?_
  refine TL.p (by first | exact (Pu.lds ty_ag30) | exact (Pu.ldso ty_ag30)) ?_
  refine TL.p (by first | exact (Pu.lds ty_ag33) | exact (Pu.ldso ty_ag33)) ?_
  refine TL.p (by first | exact (Pu.ld ty_sc3) | exact (Pu.ldo ty_sc3)) ?_
  refine TL.p (by first | exact (Pu.ld ty_sc3) | exact (Pu.ldo ty_sc3)) ?_
  refine TL.p (by first | exact (Pu.lds ty_ag35) | exact (Pu.ldso ty_ag35)) ?_
  refine TL.p Pu.mv ?_
  refine TL.call (M := []) rfl (enters Tryz.func20 rfl rfl) (List.Perm.refl _) rfl (fun w hw => by
      exact fD _ (hL.ext (Chg.ext hw.chg)) (hM.sat hw Apart.nil) (hC.ext (Chg.ext hw.chg)) (hT.ext (Chg.ext hw.chg))) ?_
  rintro ⟨Ad, ad⟩
  simp only [List.cons_append, List.nil_append]
  refine TL.p Pu.mv ?_
  refine TL.p Pu.ex ?_
  refine TL.p Pu.ex ?_
  refine TL.p Pu.ex ?_
  refine TL.m (Mk.al ty_zr35) ?_
  intro b1
  refine TL.p Pu.as ?_
  first | refine TL.st ty_sz35 ?_ | refine TL.se ty_sz35 ?_
  refine TL.p Pu.as ?_
  refine TL.nil ?_
  refine TQ.thenN (hY3 _ _ ?_)
  refine TW.seq fun Y4 hY4 => ?_
  refine TW.join [(10, .bool (cstB Y Z T E l)) , (9, .int .i64 (cstN Y Z T E l))] ?_ (fun hJ1 => ?_)
  refine TQ.thenN (hY4 _ _ ?_)
  refine TW.ret ?_
  refine TQ.ret Tryz.results53 rfl ((.tmp rfl (.tmp rfl .nil))) ?_
  exact fun w hw => Ret.of hw
  refine TW.region ?_
  refine TL.p Pu.mv ?_
  refine TL.p (by first | exact Pu.fb ty_fa35_1 | exact Pu.fe ty_fa35_1) ?_
  refine TL.p (by first | exact (Pu.ld ty_sc3) | exact (Pu.ldo ty_sc3)) ?_
  refine TL.p Pu.ad ?_
  refine TL.p Pu.mv ?_
  refine TL.p Pu.eq ?_
  refine TL.p Pu.mv ?_
  refine TL.guard (t := 48) rfl (fun hg1 => ?_) (fun hg1 => ?_)
  refine TL.gd Pu.mv ?_
  refine TL.gd Pu.eq ?_
  refine TL.p Pu.kt ?_
  refine TL.p Pu.as ?_
  refine TL.p Pu.as ?_
  refine TL.nil ?_
  exact TQ.sub (by repeat (first | exact trivial | refine ⟨rfl, ?_⟩ | refine ⟨trivial, ?_⟩ | refine ⟨(by show some (Value.bool _) = some (Value.bool _); first | (simp [hg1, cstB]; done) | (refine congrArg (fun z => some (Value.bool z)) (Bool.eq_iff_iff.2 ?_); simp [hg1, cstB]; omega)), ?_⟩)) ks9 hJ1
  refine TL.gs ?_
  refine TL.gs ?_
  refine TL.p Pu.kf ?_
  refine TL.p Pu.as ?_
  refine TL.p Pu.as ?_
  refine TL.nil ?_
  exact TQ.sub (by repeat (first | exact trivial | refine ⟨rfl, ?_⟩ | refine ⟨trivial, ?_⟩ | refine ⟨(by show some (Value.bool _) = some (Value.bool _); first | (simp [hg1, cstB]; done) | (refine congrArg (fun z => some (Value.bool z)) (Bool.eq_iff_iff.2 ?_); simp [hg1, cstB]; omega)), ?_⟩)) ks9 hJ1
theorem sw_get {L : List (List Int)} {k : Nat} (h : k < L.length) : L.getD k [] ∈ L := by rw [List.getD_eq_getElem?_getD, List.getElem?_eq_getElem h]; exact List.getElem_mem _
set_option maxRecDepth 100000 in
set_option maxHeartbeats 16000000 in
theorem lawCheapest_any {L0 : Option Addr} (n : Nat) (hn9 : n ≤ 255) (hnf9 : E.nf ≤ 9223372036854775807) (hE : RdR w 2 G E.nf (feeL E)) (a : ArgIn w Y Z T W A L0 C D B O U V) (hG : OldB w 0 barsL) :
    Calls Tryz.prog 13 #[.agg (landL W Y.nw cw A Y.nl cl).toArray, .agg (custL C Z.nc cc D Z.nd cd B Z.nb cb).toArray, .agg (troopL T.hd T.wo O T.no co U T.nu cu V T.nv cv).toArray, .slice G E.nf cg, .int .i64 Y.start, .int .i64 to, .int .i64 Y.day, .int .i64 un, .agg #[.int .i64 Y.p0, .int .i64 Y.p1], .int .u8 (n : Int)] w (Ret w (.bool true)) := by
  have fK := fun (w' : World) (h1 : LandIn w' W Y.nw A Y.nl Y.f Y.x Y.g) (h2 : CustIn w' C Z.nc D Z.nd B Z.nb Z.c Z.d Z.b) => refCheck_any (cw := cw) (cl := cl) (cc := cc) (cd := cd) (cb := cb) h1 h2
  have fT := fun (w' : World) (h3 : TrpIn w' T O U V) => rTroop_any (co := co) (cu := cu) (cv := cv) h3
  have fW := fun (w' : World) (h1 : LandIn w' W Y.nw A Y.nl Y.f Y.x Y.g) => cWays_any (to := to) (un := un) (cw := cw) (cl := cl) h1
  have fC := fun (w' : World) (h1 : LandIn w' W Y.nw A Y.nl Y.f Y.x Y.g) (h3 : CustIn w' C Z.nc D Z.nd B Z.nb Z.c Z.d Z.b) (h4 : TrpIn w' T O U V) (h5 : OldB w' 0 barsL) (hnf : E.nf ≤ 1000) (h6 : RdR w' 2 G E.nf (feeL E)) => tollCheapest_any (to := to) (un := un) (cw := cw) (cl := cl) (cc := cc) (cd := cd) (cb := cb) (co := co) (cu := cu) (cv := cv) (cg := cg) h1 h3 h4 h5 hnf h6
  have fH := fun (w' : World) (l : List Int) (M : Option Addr) (cm : Nat) (hlen : l.length ≤ 1000) (h1 : LandIn w' W Y.nw A Y.nl Y.f Y.x Y.g) (h2 : RdR w' 1 M l.length (iL l)) (h3 : CustIn w' C Z.nc D Z.nd B Z.nb Z.c Z.d Z.b) (h4 : TrpIn w' T O U V) (h5 : OldB w' 0 barsL) (hnf : E.nf ≤ 1000) (h6 : RdR w' 2 G E.nf (feeL E)) => tollHire_any (Y := wsV Y l) (L := M) (cw := cw) (cl := cl) (cn := cm) (cc := cc) (cd := cd) (cb := cb) (co := co) (cu := cu) (cv := cv) (cg := cg) h1 hlen h2 h3 h4 h5 hnf h6
  have fQ := fun (w' : World) (b1 b2 b3 b4 b5 b6 b7 : Nat) (l : List Int) (M : Option Addr) (cm : Nat) (hlen : l.length ≤ 1000) (hok : CusOk Z) (htr : trpOk T = true) (hnf : E.nf ≤ 1000) (hfe : fesOk E = true) (h1 : LandIn w' W Y.nw A Y.nl Y.f Y.x Y.g) (h3 : CustIn w' C Z.nc D Z.nd B Z.nb Z.c Z.d Z.b) (h4 : TrpIn w' T O U V) (h6 : RdR w' 2 G E.nf (feeL E)) (h5 : OldB w' 0 barsL) (h2 : RdR w' 1 M l.length (iL l)) => cost1_any (w := w') (M := M) (cm := cm) (cw := cw) (cl := cl) (cc := cc) (cd := cd) (cb := cb) (co := co) (cu := cu) (cv := cv) (cg := cg) l b1 b2 b3 b4 b5 b6 b7 hlen hok htr hnf hfe h1 h3 h4 h6 h5 h2
  unfold landL custL at fK
  unfold troopL at fT
  unfold landL at fW
  unfold chpV chpF at fC
  unfold hirA hirF at fH
  unfold landL custL troopL at fC fH
  unfold landL custL troopL
  have hRA := a.hRA
  have aL : great7 Y.nw Y.nl Y.x Z.nc Z.nd Z.nb T.no T.nu T.nv = false → LandIn w W Y.nw A Y.nl Y.f Y.x Y.g := a.land
  have aC : great7 Y.nw Y.nl Y.x Z.nc Z.nd Z.nb T.no T.nu T.nv = false → CustIn w C Z.nc D Z.nd B Z.nb Z.c Z.d Z.b := a.cust
  have aT : great7 Y.nw Y.nl Y.x Z.nc Z.nd Z.nb T.no T.nu T.nv = false → TrpIn w T O U V := a.trp
  refine K_enter (S := []) (K := []) Tryz.func13 rfl Tryz.ntmps13 rfl (Sat.start _) ?_
  refine TW.seq fun Y1 hY1 => ?_
  refine TW.region ?_
  refine TL.m Mk.bx ?_
  intro b1
  refine TL.m Mk.bx ?_
  intro b2
  refine TL.m Mk.bx ?_
  intro b3
  refine TL.m Mk.bx ?_
  intro b4
  refine TL.m Mk.bx ?_
  intro b5
  refine TL.m Mk.bx ?_
  intro b6
  refine TL.m Mk.bx ?_
  intro b7
  refine TL.p Pu.as ?_
  refine TL.nil ?_
  refine TQ.thenN (hY1 _ _ ?_)
  refine TW.seq fun Y2 hY2 => ?_
  refine TW.region ?_
  refine TL.cr rfl (enters Tryz.func27 rfl rfl) (fun w hw => by
      exact alive_any (hG.ext (Chg.ext hw.chg))) ?_
  refine TL.p Pu.as ?_
  refine TL.nil ?_
  refine TQ.thenN (hY2 _ _ ?_)
  refine TW.seq fun Y3 hY3 => ?_
  refine TW.seq fun Y4 hY4 => ?_
  refine TW.join [(65, .bool (great7 Y.nw Y.nl Y.x Z.nc Z.nd Z.nb T.no T.nu T.nv || !decide (chkY Y Z = 0) || !trpOk T || !fesOk E))] ?_ (fun hJ1 => ?_)
  refine TQ.thenN (hY4 _ _ ?_)
  refine TW.cond rfl (fun hc0 => ?_) (fun hc0 => ?_)
  try simp only [decide_eq_true_eq, decide_eq_false_iff_not, Bool.not_eq_true', Bool.not_eq_false', Bool.and_eq_true, Bool.or_eq_true, Bool.and_eq_false_iff, Bool.or_eq_false_iff, Int.not_lt, Int.not_le] at hc0
  refine TW.seq fun Y5 hY5 => ?_
  refine TW.region ?_
  refine TL.p Pu.mv ?_
  refine TL.p Pu.as ?_
  refine TL.nil ?_
  refine TQ.thenN (hY5 _ _ ?_)
  refine TW.ret ?_
  refine TQ.thenR ?_
  refine TQ.ret Tryz.results13 rfl ((.tmp rfl .nil)) ?_
  exact fun w hw => Ret.of hw
  try simp only [decide_eq_true_eq, decide_eq_false_iff_not, Bool.not_eq_true', Bool.not_eq_false', Bool.and_eq_true, Bool.or_eq_true, Bool.and_eq_false_iff, Bool.or_eq_false_iff, Int.not_lt, Int.not_le] at hc0
  have hg0 : (great7 Y.nw Y.nl Y.x Z.nc Z.nd Z.nb T.no T.nu T.nv || !decide (chkY Y Z = 0) || !trpOk T || !fesOk E) = false := by simpa using hc0
  rw [Bool.or_eq_false_iff, Bool.or_eq_false_iff, Bool.or_eq_false_iff] at hg0
  obtain ⟨⟨⟨hgr, hck⟩, htr⟩, hfe⟩ := hg0
  have hck : chkY Y Z = 0 := by simpa using hck
  have htr : trpOk T = true := by simpa using htr
  have hfe : fesOk E = true := by simpa using hfe
  have hnf8 := fes_len hfe
  have hok := chk_ok hck
  have hrd := rdy_ok hck htr
  refine TW.skip ?_
  refine TQ.thenN (hY3 _ _ ?_)
  refine TW.seq fun Y6 hY6 => ?_
  refine TW.region ?_
  refine TL.p (Pu.lds ty_ag25) ?_
  refine TL.p (Pu.ld ty_sc3) ?_
  refine TL.p Pu.mv ?_
  refine TL.p (Pu.ld ty_sc3) ?_
  refine TL.p Pu.mv ?_
  refine TL.p (Pu.lds ty_ag35) ?_
  refine TL.call (M := []) rfl (enters Tryz.func52 rfl rfl) (List.Perm.refl _) rfl (fun w hw => by
      exact fW _ ((aL hgr).ext (Chg.ext hw.chg))) ?_
  rintro ⟨⟨A9, c9⟩, ia, ic⟩
  simp only [wsK, lksR, List.cons_append, List.nil_append]
  refine TL.p Pu.mv ?_
  refine TL.p Pu.ex ?_
  refine TL.p Pu.ex ?_
  refine TL.p Pu.as ?_
  refine TL.p Pu.as ?_
  refine TL.nil ?_
  refine TQ.thenN (hY6 _ _ ?_)
  refine TW.seq fun Y7 hY7 => ?_
  refine TW.region ?_
  refine TL.p (Pu.lds ty_ag25) ?_
  refine TL.p (Pu.lds ty_ag30) ?_
  refine TL.p (Pu.lds ty_ag33) ?_
  refine TL.p (Pu.ld ty_sc90) ?_
  refine TL.p (Pu.ld ty_sc3) ?_
  refine TL.p Pu.mv ?_
  refine TL.p (Pu.ld ty_sc3) ?_
  refine TL.p Pu.mv ?_
  refine TL.p (Pu.lds ty_ag35) ?_
  refine TL.call (M := []) rfl (enters Tryz.func43 rfl rfl) (List.Perm.refl _) rfl (fun w hw => by
      exact fC _ ((aL hgr).ext (Chg.ext hw.chg)) ((aC hgr).ext (Chg.ext hw.chg)) ((aT hgr).ext (Chg.ext hw.chg)) (hG.ext (Chg.ext hw.chg)) (by omega) (hE.sat hw Apart.nil)) ?_
  rintro ⟨⟨Al, al⟩, Ag, ag⟩
  simp only [List.cons_append, List.nil_append]
  refine TL.p Pu.mv ?_
  refine TL.p Pu.ex ?_
  refine TL.p Pu.ex ?_
  refine TL.p Pu.ex ?_
  refine TL.p Pu.ex ?_
  refine TL.p Pu.as ?_
  refine TL.p Pu.as ?_
  refine TL.p Pu.as ?_
  refine TL.p Pu.as ?_
  refine TL.nil ?_
  refine TQ.thenN (hY7 _ _ ?_)
  refine TW.seq fun Y8 hY8 => ?_
  refine TW.seq fun Y9 hY9 => ?_
  refine TW.region ?_
  refine TL.p Pu.mv ?_
  refine TL.p Pu.ne ?_
  refine TL.nil ?_
  refine TQ.thenN (hY9 _ _ ?_)
  refine TW.cond rfl (fun hc1 => ?_) (fun hc1 => ?_)
  try simp only [decide_eq_true_eq, decide_eq_false_iff_not, Bool.not_eq_true', Bool.not_eq_false', Bool.and_eq_true, Bool.or_eq_true, Bool.and_eq_false_iff, Bool.or_eq_false_iff, Int.not_lt, Int.not_le] at hc1
  have hne : wsC Y to un ≠ 0 := hc1
  have hC := chpC_wy (Z := Z) (T := T) (E := E) hrd hfe hne
  obtain ⟨q1, q2, q3⟩ := chp_none (Z := Z) (T := T) (E := E) (to := to) (un := un) (Y := Y) (by rw [hC]; exact hne)
  rw [hC, q1, q2, q3, List.length_nil]
  refine TW.seq fun Y10 hY10 => ?_
  refine TW.join [(20, .bool true)] ?_ (fun hJ2 => ?_)
  refine TQ.thenN (hY10 _ _ ?_)
  refine TW.ret ?_
  refine TQ.thenR ?_
  refine TQ.ret Tryz.results13 rfl ((.tmp rfl .nil)) ?_
  exact fun w hw => Ret.of hw
  refine TW.region ?_
  refine TL.p Pu.mv ?_
  refine TL.p Pu.mv ?_
  refine TL.lit (t := 95) (b' := true) rfl (rfl) ?_
  refine TL.gd Pu.mv ?_
  refine TL.gd Pu.mv ?_
  refine TL.gd Pu.eq ?_
  refine TL.lit (t := 98) (b' := true) rfl ((by simp)) ?_
  refine TL.p Pu.kt ?_
  refine TL.p Pu.mv ?_
  refine TL.gd Pu.mv ?_
  refine TL.gd (Pu.ln Tryz.underlying31) ?_
  refine TL.gd Pu.mv ?_
  refine TL.gd (Pu.ln Tryz.underlying31) ?_
  refine TL.gd Pu.ad ?_
  refine TL.gd Pu.eq ?_
  refine TL.lit (t := 106) (b' := true) rfl (rfl) ?_
  refine TL.p Pu.kt ?_
  refine TL.p Pu.mv ?_
  refine TL.gd Pu.mv ?_
  refine TL.gd Pu.eq ?_
  refine TL.lit (t := 110) (b' := true) rfl (rfl) ?_
  refine TL.p Pu.kt ?_
  refine TL.p Pu.as ?_
  refine TL.nil ?_
  exact TQ.sub (by repeat (first | exact trivial | refine ⟨rfl, ?_⟩ | refine ⟨trivial, ?_⟩ | refine ⟨(by show some (Value.bool _) = some (Value.bool _); first | (simp []; done) | (refine congrArg (fun z => some (Value.bool z)) (Bool.eq_iff_iff.2 ?_); simp []; omega)), ?_⟩)) ks9 hJ2
  try simp only [decide_eq_true_eq, decide_eq_false_iff_not, Bool.not_eq_true', Bool.not_eq_false', Bool.and_eq_true, Bool.or_eq_true, Bool.and_eq_false_iff, Bool.or_eq_false_iff, Int.not_lt, Int.not_le] at hc1
  have hwz : wsC Y to un = 0 := by simpa using hc1
  have hwv := fun v (hv : v ∈ wsL Y to un) => wsL_wk hwz hv
  have hl2 : (wsL Y to un).length ≤ 200 := wsL_len hwz
  have hln := fun v (hv : v ∈ wsL Y to un) => wsL_n hwz hv
  have hCi := hidT (chpC_if (to := to) (un := un) hrd hfe hwz)
  rw [hwz]
  refine TW.skip ?_
  refine TQ.thenN (hY8 _ _ ?_)
  refine TW.seq fun Y11 hY11 => ?_
  refine TW.region ?_
  refine TL.p Pu.fn ?_
  refine TL.p Pu.as ?_
  refine TL.nil ?_
  refine TQ.thenN (hY11 _ _ ?_)
  refine TW.seq fun Y12 hY12 => ?_
  refine TW.region ?_
  refine TL.p Pu.as ?_
  refine TL.nil ?_
  refine TQ.thenN (hY12 _ _ ?_)
  refine TW.seq fun Y13 hY13 => ?_
  refine TW.region ?_
  refine TL.p Pu.as ?_
  refine TL.nil ?_
  refine TQ.thenN (hY13 _ _ ?_)
  refine TW.seq fun Y14 hY14 => ?_
  refine TW.seq fun Y15 hY15 => ?_
  refine TW.region ?_
  refine TL.p Pu.mv ?_
  refine TL.p (Pu.ln Tryz.underlying113) ?_
  refine TL.p Pu.gt ?_
  refine TL.nil ?_
  refine TQ.thenN (hY15 _ _ ?_)
  refine TW.cond rfl (fun hc2 => ?_) (fun hc2 => ?_)
  try simp only [decide_eq_true_eq, decide_eq_false_iff_not, Bool.not_eq_true', Bool.not_eq_false', Bool.and_eq_true, Bool.or_eq_true, Bool.and_eq_false_iff, Bool.or_eq_false_iff, Int.not_lt, Int.not_le] at hc2
  have hpos : 0 < (wsL Y to un).length := by omega
  have hem := Int.emod_nonneg (n : Int) (show ((wsL Y to un).length : Int) ≠ 0 by omega)
  have hem2 := Int.emod_lt_of_pos (n : Int) (show 0 < ((wsL Y to un).length : Int) by omega)
  obtain ⟨at9, hat⟩ : ∃ z, z = (n : Int) % ((wsL Y to un).length : Int) := ⟨_, rfl⟩
  rw [← hat] at hem hem2
  replace hat := hidT hat
  have hkn : at9.toNat < (wsL Y to un).length := by omega
  have hvl := hln _ (sw_get hkn)
  obtain ⟨hB1, hB2⟩ := cst_is (E := E) hrd hfe (hwv _ (sw_get hkn))
  obtain ⟨mm, hmm⟩ : ∃ z, z = cstN Y Z T E ((wsL Y to un).getD at9.toNat []) := ⟨_, rfl⟩
  obtain ⟨cz, hcz⟩ : ∃ z, z = cstB Y Z T E ((wsL Y to un).getD at9.toNat []) := ⟨_, rfl⟩
  rw [← hcz] at hB1
  rw [← hmm] at hB2
  have hmin := chpK_min (Y := Y) (Z := Z) (T := T) (E := E) (L := wsL Y to un) (wsL Y to un).length at9.toNat hkn
  rw [← hB1] at hB2 hmin
  have hcm : cz = true → (chpS Y Z T E to un).2.2.2 = true ∧ ((chpS Y Z T E to un).2.2.1 < mm ∨ ((chpS Y Z T E to un).2.2.1 = mm ∧ (chpS Y Z T E to un).1 ≤ at9.toNat)) := fun h9 => by rw [(hB2 h9).1]; exact hmin h9
  clear hmin hB1 hB2
  have hmm := hidT hmm
  have hcz := hidT hcz
  refine TW.seq fun Y16 hY16 => ?_
  refine TW.region ?_
  refine TL.p Pu.mv ?_
  refine TL.p (Pu.cv (v := .int .i64 (n : Int)) rfl (fun w => by go_simp; rw [IntWalk.i64_in (n : Int) (by omega)])) ?_
  refine TL.p Pu.mv ?_
  refine TL.p (Pu.ln Tryz.underlying113) ?_
  refine TL.p (Pu.iv Pu.rm hat.out.symm) ?_
  refine TL.p Pu.as ?_
  refine TL.nil ?_
  refine TQ.thenN (hY16 _ _ ?_)
  refine TW.region ?_
  refine TL.p Pu.mv ?_
  refine TL.p Pu.mv ?_
  refine TL.p (Pu.el (q := at9.toNat) ty_et113 (hk := rfl)) ?_
  refine TL.p (Pu.ld ty_sc31) ?_
  refine TL.p Pu.as ?_
  refine TL.nil ?_
  refine TQ.thenN (hY14 _ _ ?_)
  refine TW.seq fun Y17 hY17 => ?_
  refine TW.region ?_
  refine TL.p Pu.mv ?_
  refine TL.p Pu.mv ?_
  refine TL.cv rfl rfl (enters Tryz.func53 rfl rfl) (fun w hw => by
      have q1 := OldB.of_blk (hw.holds (.blk b1 25 [.slice W Y.nw cw, .slice A Y.nl cl]) (Pick.mem pk9))
      have q2 := OldB.of_blk (hw.holds (.blk b2 30 [.slice C Z.nc cc, .slice D Z.nd cd, .slice B Z.nb cb]) (Pick.mem pk9))
      have q3 := OldB.of_blk (hw.holds (.blk b3 33 [.int .i64 T.hd, .int .i64 T.wo, .slice O T.no co, .slice U T.nu cu, .slice V T.nv cv]) (Pick.mem pk9))
      have q4 := OldB.of_blk (hw.holds (.blk b4 90 [.slice G E.nf cg]) (Pick.mem pk9))
      have q5 := OldB.of_blk (hw.holds (.blk b5 3 [.int .i64 Y.start]) (Pick.mem pk9))
      have q6 := OldB.of_blk (hw.holds (.blk b6 3 [.int .i64 Y.day]) (Pick.mem pk9))
      have q7 := OldB.of_blk (hw.holds (.blk b7 35 [.int .i64 Y.p0, .int .i64 Y.p1]) (Pick.mem pk9))
      have h9 := (by first | exact fQ _ b1 b2 b3 b4 b5 b6 b7 ((wsL Y to un).getD at9.toNat []) (ia at9.toNat) (ic at9.toNat) (by omega) hok htr (by omega) hfe ((aL hgr).ext (Chg.ext hw.chg)) ((aC hgr).ext (Chg.ext hw.chg)) ((aT hgr).ext (Chg.ext hw.chg)) (hE.sat hw Apart.nil) (hG.ext (Chg.ext hw.chg)) (OwnR.rdr (bun_get hw (K1 := lksK (wsL Y to un) ia ic) (Pick.mem pk9) (lks_mem hkn))) q1 q2 q3 q4 q5 q6 q7 | exact fQ _ b1 b2 b3 b4 b5 b6 b7 [] none 0 (Nat.zero_le _) hok htr (by omega) hfe ((aL hgr).ext (Chg.ext hw.chg)) ((aC hgr).ext (Chg.ext hw.chg)) ((aT hgr).ext (Chg.ext hw.chg)) (hE.sat hw Apart.nil) (hG.ext (Chg.ext hw.chg)) ⟨Rd.nil, fun i hi => absurd hi (Nat.not_lt_zero i)⟩ q1 q2 q3 q4 q5 q6 q7)
      rw [← hmm.out, ← hcz.out] at h9
      exact h9) ?_
  refine TL.p Pu.mv ?_
  refine TL.p Pu.ex ?_
  refine TL.p Pu.ex ?_
  refine TL.p Pu.as ?_
  refine TL.p Pu.as ?_
  refine TL.nil ?_
  refine TQ.thenN (hY17 _ _ ?_)
  refine TW.seq fun Y18 hY18 => ?_
  refine TW.join [(32, .bool (cz && decide (0 < ((wsL Y to un).length : Int))))] ?_ (fun hJ3 => ?_)
  refine TQ.thenN (hY18 _ _ ?_)
  refine TW.seq fun Y19 hY19 => ?_
  refine TW.seq fun Y20 hY20 => ?_
  refine TW.region ?_
  refine TL.p Pu.mv ?_
  refine TL.p Pu.ne ?_
  refine TL.nil ?_
  refine TQ.thenN (hY20 _ _ ?_)
  refine TW.cond rfl (fun hc3 => ?_) (fun hc3 => ?_)
  try simp only [decide_eq_true_eq, decide_eq_false_iff_not, Bool.not_eq_true', Bool.not_eq_false', Bool.and_eq_true, Bool.or_eq_true, Bool.and_eq_false_iff, Bool.or_eq_false_iff, Int.not_lt, Int.not_le] at hc3
  have hne : chpC Y Z T E to un ≠ 0 := by first | exact hc3 | simpa using hc3
  have hS0 : (chpS Y Z T E to un).2.2.2 = false := by
    cases e9 : (chpS Y Z T E to un).2.2.2 with
    | false => rfl
    | true => exact absurd (by rw [hCi.out, if_pos e9]) hne
  have hC75 : chpC Y Z T E to un = 75 := by rw [hCi.out, hS0]; rfl
  obtain ⟨q1, q2, q3⟩ := chp_none (Z := Z) (T := T) (E := E) (to := to) (un := un) (Y := Y) hne
  rw [hC75, q1, q2, q3, List.length_nil]
  have hcz0 : cz = false := by
    cases e9 : cz with
    | false => rfl
    | true => have := (hcm e9).1; rw [hS0] at this; cases this
  refine TW.seq fun Y21 hY21 => ?_
  refine TW.join [(20, .bool true)] ?_ (fun hJ4 => ?_)
  refine TQ.thenN (hY21 _ _ ?_)
  refine TW.ret ?_
  refine TQ.thenR ?_
  refine TQ.ret Tryz.results13 rfl ((.tmp rfl .nil)) ?_
  exact fun w hw => Ret.of hw
  refine TW.region ?_
  refine TL.p Pu.mv ?_
  refine TL.p Pu.mv ?_
  refine TL.lit (t := 140) (b' := true) rfl (rfl) ?_
  refine TL.gd Pu.mv ?_
  refine TL.gd Pu.eq ?_
  refine TL.lit (t := 142) (b' := true) rfl (rfl) ?_
  refine TL.p Pu.kt ?_
  refine TL.p Pu.mv ?_
  refine TL.gd Pu.mv ?_
  refine TL.gd (Pu.ln Tryz.underlying31) ?_
  refine TL.gd Pu.mv ?_
  refine TL.gd (Pu.ln Tryz.underlying31) ?_
  refine TL.gd Pu.ad ?_
  refine TL.gd Pu.eq ?_
  refine TL.lit (t := 150) (b' := true) rfl (rfl) ?_
  refine TL.p Pu.kt ?_
  refine TL.p Pu.mv ?_
  refine TL.gd Pu.mv ?_
  refine TL.gd Pu.eq ?_
  refine TL.lit (t := 154) (b' := true) rfl (rfl) ?_
  refine TL.p Pu.kt ?_
  refine TL.p Pu.mv ?_
  refine TL.gd Pu.mv ?_
  refine TL.gd Pu.no ?_
  refine TL.p Pu.kt ?_
  refine TL.p Pu.as ?_
  refine TL.nil ?_
  exact TQ.sub (by repeat (first | exact trivial | refine ⟨rfl, ?_⟩ | refine ⟨trivial, ?_⟩ | refine ⟨(by show some (Value.bool _) = some (Value.bool _); first | (simp [hcz0, hpos]; done) | (refine congrArg (fun z => some (Value.bool z)) (Bool.eq_iff_iff.2 ?_); simp [hcz0, hpos]; omega)), ?_⟩)) ks9 hJ4
  try simp only [decide_eq_true_eq, decide_eq_false_iff_not, Bool.not_eq_true', Bool.not_eq_false', Bool.and_eq_true, Bool.or_eq_true, Bool.and_eq_false_iff, Bool.or_eq_false_iff, Int.not_lt, Int.not_le] at hc3
  have hC0 : chpC Y Z T E to un = 0 := by first | exact hc3 | simpa using hc3
  have hS1 : (chpS Y Z T E to un).2.2.2 = true := by
    cases e9 : (chpS Y Z T E to un).2.2.2 with
    | true => rfl
    | false => rw [hCi.out, e9] at hC0; exact absurd hC0 (by decide)
  obtain ⟨h91, h92, h93⟩ := chpK_is (Y := Y) (Z := Z) (T := T) (E := E) (L := wsL Y to un) (wsL Y to un).length hS1
  have hlt := chpK_at (Y := Y) (Z := Z) (T := T) (E := E) (L := wsL Y to un) (wsL Y to un).length hS1
  obtain ⟨ix, hix⟩ : ∃ ix, ix = (chpS Y Z T E to un).1 := ⟨_, rfl⟩
  have hL0 : chpL Y Z T E to un = (wsL Y to un).getD ix [] := by unfold chpL; rw [if_pos hC0, hix]
  have hG0 : chpG Y Z T E to un = (chpS Y Z T E to un).2.1 := by unfold chpG; rw [if_pos hC0]
  have hN0 : chpN Y Z T E to un = (chpS Y Z T E to un).2.2.1 := by unfold chpN; rw [if_pos hC0]
  have hlt : ix < (wsL Y to un).length := by rw [hix]; exact hlt
  have hLn : (chpL Y Z T E to un).length ≤ 24 := by rw [hL0]; exact hln _ (sw_get hlt)
  obtain ⟨hB1, hB2⟩ := cst_is (E := E) hrd hfe (hwv _ (sw_get hlt))
  have h91 : (hirW (wsV Y ((wsL Y to un).getD ix [])) Z T E).2.2 = true := by rw [hix]; exact h91
  have h92 : (chpS Y Z T E to un).2.1 = (hirW (wsV Y ((wsL Y to un).getD ix [])) Z T E).1 := by rw [hix]; exact h92
  have h93 : (chpS Y Z T E to un).2.2.1 = wcN Y Z T E ((wsL Y to un).getD ix []) := by rw [hix]; exact h93
  obtain ⟨hB2, hB3, hB4⟩ := hB2 h91
  have hq1 := hidT (show cstN Y Z T E (chpL Y Z T E to un) = chpN Y Z T E to un by rw [hL0, hB2, hN0, h93])
  have hq2 := hidT (show cstB Y Z T E (chpL Y Z T E to un) = true by rw [hL0, hB1, h91])
  have hq3 := hidT (show hirC (wsV Y (chpL Y Z T E to un)) Z T E = 0 by rw [hL0]; exact hB3)
  have hq4 := hidT (show hirL (wsV Y (chpL Y Z T E to un)) Z T E = chpG Y Z T E to un by rw [hL0, hB4, hG0, h92])
  have hGn : (chpG Y Z T E to un).length ≤ 1000 := by
    rw [← hq4.out]
    unfold hirL
    split
    have h9 := hirK_len (free := freeB Z T (wsV Y (chpL Y Z T E to un)).n (stY (wsV Y (chpL Y Z T E to un)))) (E := E) (2 ^ E.nf)
    have h8 : (hirW (wsV Y (chpL Y Z T E to un)) Z T E).1.length ≤ E.nf := h9
    omega
    exact Nat.zero_le _
  have hcm1 : cz = true → chpN Y Z T E to un < mm ∨ (chpN Y Z T E to un = mm ∧ (ix : Int) ≤ at9) := fun h9 => by
    have h8 := (hcm h9).2
    rw [← hN0, ← hix] at h8
    omega
  replace hL0 := hidT hL0
  clear h91 h92 h93 hB1 hB2 hB3 hB4 hG0 hN0 hix hcm hS1
  refine TW.skip ?_
  refine TQ.thenN (hY19 _ _ ?_)
  refine TW.seq fun Y22 hY22 => ?_
  refine TW.region ?_
  refine TL.p Pu.as ?_
  refine TL.nil ?_
  refine TQ.thenN (hY22 _ _ ?_)
  refine TW.seq fun Y23 hY23 => ?_
  refine TW.seq fun Y24 hY24 => ?_
  refine TW.region ?_
  refine TL.p Pu.mv ?_
  refine TL.p (Pu.ln Tryz.underlying113) ?_
  refine TL.p Pu.mv ?_
  refine TL.nil ?_
  refine TQ.thenN (hY24 _ _ ?_)
  refine TW.block ?_
  refine TW.loop2 (fun (i : Nat) (ow : Int) => [(162, .int .i64 (i : Int)), (161, .int .i64 ((wsL Y to un).length : Int)), (160, .slice A9 (wsL Y to un).length c9), (33, .int .i64 ow), (21, .bool true), (24, .slice Al (chpL Y Z T E to un).length al), (25, .slice Ag (chpG Y Z T E to un).length ag), (26, .int .i64 (chpN Y Z T E to un)), (28, .func (.func 53) #[] #[.pointer (some ⟨b1, 0, none⟩), .pointer (some ⟨b2, 0, none⟩), .pointer (some ⟨b3, 0, none⟩), .pointer (some ⟨b4, 0, none⟩), .pointer (some ⟨b5, 0, none⟩), .pointer (some ⟨b6, 0, none⟩), .pointer (some ⟨b7, 0, none⟩)]), (30, .int .i64 at9), (31, .int .i64 mm), (32, .bool (cz && decide (0 < ((wsL Y to un).length : Int)))), (10, .pointer (some ⟨b1, 0, none⟩)), (11, .pointer (some ⟨b2, 0, none⟩)), (12, .pointer (some ⟨b3, 0, none⟩)), (13, .pointer (some ⟨b4, 0, none⟩)), (14, .pointer (some ⟨b5, 0, none⟩)), (16, .pointer (some ⟨b6, 0, none⟩)), (18, .pointer (some ⟨b7, 0, none⟩))]) (fun i ow => [.own Al (chpL Y Z T E to un).length al 3 1 (iL (chpL Y Z T E to un)), .own Ag (chpG Y Z T E to un).length ag 3 1 (iL (chpG Y Z T E to un)), .own A9 (wsL Y to un).length c9 31 1 (fun k => [.slice (ia k) ((wsL Y to un).getD k []).length (ic k)]), bun (lksK (wsL Y to un) ia ic), .blk b1 25 [.slice W Y.nw cw, .slice A Y.nl cl], .blk b2 30 [.slice C Z.nc cc, .slice D Z.nd cd, .slice B Z.nb cb], .blk b3 33 [.int .i64 T.hd, .int .i64 T.wo, .slice O T.no co, .slice U T.nu cu, .slice V T.nv cv], .blk b4 90 [.slice G E.nf cg], .blk b5 3 [.int .i64 Y.start], .blk b6 3 [.int .i64 Y.day], .blk b7 35 [.int .i64 Y.p0, .int .i64 Y.p1]]) (fun i ow => i ≤ (wsL Y to un).length ∧ -1 ≤ ow ∧ (ow < 0 → i ≤ ix) ∧ ow ≤ ix) (fun i ow => (wsL Y to un).length - i) 0 (-1) fs9 ?_ ?_ ?_
  exact ks9
  exact ⟨Nat.zero_le _, by omega, fun _ => Nat.zero_le _, by omega⟩
  rintro i ow ⟨hi, ho1, ho2, ho3⟩ Z0 hZ0
  refine TW.seq fun Y25 hY25 => ?_
  refine TW.region ?_
  refine TL.p Pu.lt ?_
  refine TL.nil ?_
  refine TQ.thenN (hY25 _ _ ?_)
  refine TW.seq fun Y26 hY26 => ?_
  refine TW.cond rfl (fun hc4 => ?_) (fun hc4 => ?_)
  try simp only [decide_eq_true_eq, decide_eq_false_iff_not, Bool.not_eq_true', Bool.not_eq_false', Bool.and_eq_true, Bool.or_eq_true, Bool.and_eq_false_iff, Bool.or_eq_false_iff, Int.not_lt, Int.not_le] at hc4
  have hin : i < (wsL Y to un).length := by omega
  have hvi := hln _ (sw_get hin)
  refine TW.skip ?_
  refine TQ.thenN (hY26 _ _ ?_)
  refine TW.seq fun Y27 hY27 => ?_
  refine TW.block ?_
  refine TW.seq fun Y28 hY28 => ?_
  refine TW.region ?_
  refine TL.p Pu.mv ?_
  refine TL.p (Pu.el ty_et113) ?_
  refine TL.p (Pu.ld ty_sc31) ?_
  refine TL.p Pu.as ?_
  refine TL.p Pu.as ?_
  refine TL.nil ?_
  refine TQ.thenN (hY28 _ _ ?_)
  refine TW.seq fun Y29 hY29 => ?_
  refine TW.join [(173, .bool (decide (ow < 0) && sameN ((wsL Y to un).getD i []).length (fun j => ((wsL Y to un).getD i []).getD j 0) (chpL Y Z T E to un).length (fun j => (chpL Y Z T E to un).getD j 0)))] ?_ (fun hJ5 => ?_)
  refine TQ.thenN (hY29 _ _ ?_)
  refine TW.cond rfl (fun hc5 => ?_) (fun hc5 => ?_)
  try simp only [decide_eq_true_eq, decide_eq_false_iff_not, Bool.not_eq_true', Bool.not_eq_false', Bool.and_eq_true, Bool.or_eq_true, Bool.and_eq_false_iff, Bool.or_eq_false_iff, Int.not_lt, Int.not_le] at hc5
  have hT5 : ow < 0 := hc5.1
  have hpi : i ≤ ix := ho2 hT5
  refine TW.region ?_
  refine TL.p Pu.mv ?_
  refine TL.p Pu.as ?_
  refine TL.nil ?_
  refine TQ.blkN ?_
  refine TQ.thenN (hY27 _ _ ?_)
  refine TW.region ?_
  refine TL.p Pu.ad ?_
  refine TL.p Pu.mv ?_
  refine TL.nil ?_
  refine TQ.thenN (hZ0 (i + 1) (by first | exact (fun (_ : ow < 0) => (i : Int)) hT5 | exact ow) _ _ ?_ ?_ fs9 ?_)
  first | exact ⟨by omega, by omega, fun h9 => by have := hne5 h9; omega, ho3⟩ | exact ⟨by omega, by show -1 ≤ (i : Int); omega, fun h9 => by have h8 : (i : Int) < 0 := h9; omega, by show (i : Int) ≤ ix; omega⟩
  exact (by first | omega | (simp only []; omega) | (simp; omega))
  exact ks9
  try simp only [decide_eq_true_eq, decide_eq_false_iff_not, Bool.not_eq_true', Bool.not_eq_false', Bool.and_eq_true, Bool.or_eq_true, Bool.and_eq_false_iff, Bool.or_eq_false_iff, Int.not_lt, Int.not_le] at hc5
  have hne5 : ow < 0 → i < ix := fun h9 => by
    have h8 := ho2 h9
    by_cases e9 : i = ix
    exfalso
    rcases hc5 with h7 | h7
    omega
    rw [e9, ← hL0.out, sameN_self] at h7; cases h7
    omega
  refine TW.skip ?_
  refine TQ.blkN ?_
  refine TQ.thenN (hY27 _ _ ?_)
  refine TW.region ?_
  refine TL.p Pu.ad ?_
  refine TL.p Pu.mv ?_
  refine TL.nil ?_
  refine TQ.thenN (hZ0 (i + 1) (by first | exact (fun (_ : ow < 0) => (i : Int)) hT5 | exact ow) _ _ ?_ ?_ fs9 ?_)
  first | exact ⟨by omega, by omega, fun h9 => by have := hne5 h9; omega, ho3⟩ | exact ⟨by omega, by show -1 ≤ (i : Int); omega, fun h9 => by have h8 : (i : Int) < 0 := h9; omega, by show (i : Int) ≤ ix; omega⟩
  exact (by first | omega | (simp only []; omega) | (simp; omega))
  exact ks9
  refine TW.region ?_
  refine TL.p Pu.mv ?_
  refine TL.p Pu.lt ?_
  refine TL.p Pu.mv ?_
  refine TL.guard (t := 169) rfl (fun hg1 => ?_) (fun hg1 => ?_)
  try simp only [decide_eq_true_eq, decide_eq_false_iff_not, Bool.not_eq_true', Bool.not_eq_false', Int.natCast_pos] at hg1
  refine TL.gd Pu.mv ?_
  refine TL.gd Pu.mv ?_
  refine TL.cr rfl (enters Tryz.func26 rfl rfl) (fun w hw => by
      exact sameInts3_any (v1 := fun j => ((wsL Y to un).getD i []).getD j 0) (v2 := fun j => (chpL Y Z T E to un).getD j 0) (by omega) (OwnR.rdr (bun_get hw (K1 := lksK (wsL Y to un) ia ic) (Pick.mem pk9) (lks_mem hin))) (OwnR.rdr (hw.holds (.own Al (chpL Y Z T E to un).length al 3 1 (iL (chpL Y Z T E to un))) (Pick.mem pk9)))) ?_
  refine TL.p Pu.kt ?_
  refine TL.nil ?_
  exact TQ.sub (by repeat (first | exact trivial | refine ⟨rfl, ?_⟩ | refine ⟨trivial, ?_⟩ | refine ⟨(by show some (Value.bool _) = some (Value.bool _); first | (simp [hg1, -List.getD_eq_getElem?_getD]; done) | (refine congrArg (fun z => some (Value.bool z)) (Bool.eq_iff_iff.2 ?_); simp [hg1, -List.getD_eq_getElem?_getD]; omega)), ?_⟩)) ks9 hJ5
  try simp only [decide_eq_true_eq, decide_eq_false_iff_not, Bool.not_eq_true', Bool.not_eq_false', Int.natCast_pos] at hg1
  refine TL.gs ?_
  refine TL.gs ?_
  refine TL.gs ?_
  refine TL.p Pu.kf ?_
  refine TL.nil ?_
  exact TQ.sub (by repeat (first | exact trivial | refine ⟨rfl, ?_⟩ | refine ⟨trivial, ?_⟩ | refine ⟨(by show some (Value.bool _) = some (Value.bool _); first | (simp [hg1, -List.getD_eq_getElem?_getD]; done) | (refine congrArg (fun z => some (Value.bool z)) (Bool.eq_iff_iff.2 ?_); simp [hg1, -List.getD_eq_getElem?_getD]; omega)), ?_⟩)) ks9 hJ5
  try simp only [decide_eq_true_eq, decide_eq_false_iff_not, Bool.not_eq_true', Bool.not_eq_false', Bool.and_eq_true, Bool.or_eq_true, Bool.and_eq_false_iff, Bool.or_eq_false_iff, Int.not_lt, Int.not_le] at hc4
  obtain rfl : i = (wsL Y to un).length := by omega
  have hpos9 : decide (0 < ((wsL Y to un).length : Int)) = true := decide_eq_true (by omega)
  have how : 0 ≤ ow := by
    by_cases h9 : 0 ≤ ow
    exact h9
    have := ho2 (by omega); omega
  have hcm2 : cz = true → ¬ chpN Y Z T E to un < mm → mm = chpN Y Z T E to un := fun h9 h8 => by rcases hcm1 h9 with h7 | h7; exact absurd h7 h8; exact h7.1.symm
  have hcm3 : cz = true → ¬ chpN Y Z T E to un < mm → ow ≤ at9 := fun h9 h8 => by rcases hcm1 h9 with h7 | h7; exact absurd h7 h8; omega
  rw [hpos9, Bool.and_true]
  refine TW.exit ?_
  refine TQ.thenX ?_
  refine TQ.thenX ?_
  refine TQ.blkX ?_
  refine TQ.thenN (hY23 _ _ ?_)
  refine TW.seq fun Y30 hY30 => ?_
  refine TW.region ?_
  refine TL.p Pu.mv ?_
  refine TL.p Pu.mv ?_
  refine TL.cv rfl rfl (enters Tryz.func53 rfl rfl) (fun w hw => by
      have q1 := OldB.of_blk (hw.holds (.blk b1 25 [.slice W Y.nw cw, .slice A Y.nl cl]) (Pick.mem pk9))
      have q2 := OldB.of_blk (hw.holds (.blk b2 30 [.slice C Z.nc cc, .slice D Z.nd cd, .slice B Z.nb cb]) (Pick.mem pk9))
      have q3 := OldB.of_blk (hw.holds (.blk b3 33 [.int .i64 T.hd, .int .i64 T.wo, .slice O T.no co, .slice U T.nu cu, .slice V T.nv cv]) (Pick.mem pk9))
      have q4 := OldB.of_blk (hw.holds (.blk b4 90 [.slice G E.nf cg]) (Pick.mem pk9))
      have q5 := OldB.of_blk (hw.holds (.blk b5 3 [.int .i64 Y.start]) (Pick.mem pk9))
      have q6 := OldB.of_blk (hw.holds (.blk b6 3 [.int .i64 Y.day]) (Pick.mem pk9))
      have q7 := OldB.of_blk (hw.holds (.blk b7 35 [.int .i64 Y.p0, .int .i64 Y.p1]) (Pick.mem pk9))
      have h9 := fQ _ b1 b2 b3 b4 b5 b6 b7 (chpL Y Z T E to un) Al al (by omega) hok htr (by omega) hfe ((aL hgr).ext (Chg.ext hw.chg)) ((aC hgr).ext (Chg.ext hw.chg)) ((aT hgr).ext (Chg.ext hw.chg)) (hE.sat hw Apart.nil) (hG.ext (Chg.ext hw.chg)) (OwnR.rdr (hw.holds (.own Al (chpL Y Z T E to un).length al 3 1 (iL (chpL Y Z T E to un))) (Pick.mem pk9))) q1 q2 q3 q4 q5 q6 q7
      rw [hq1.out, hq2.out] at h9
      exact h9) ?_
  refine TL.p Pu.mv ?_
  refine TL.p Pu.ex ?_
  refine TL.p Pu.ex ?_
  refine TL.p Pu.as ?_
  refine TL.p Pu.as ?_
  refine TL.nil ?_
  refine TQ.thenN (hY30 _ _ ?_)
  refine TW.seq fun Y31 hY31 => ?_
  refine TW.region ?_
  refine TL.p (Pu.lds ty_ag25) ?_
  refine TL.p (Pu.lds ty_ag30) ?_
  refine TL.p (Pu.lds ty_ag33) ?_
  refine TL.p (Pu.ld ty_sc90) ?_
  refine TL.p (Pu.ld ty_sc3) ?_
  refine TL.p (Pu.ld ty_sc3) ?_
  refine TL.p (Pu.lds ty_ag35) ?_
  refine TL.p Pu.mv ?_
  refine TL.call (M := []) rfl (enters Tryz.func41 rfl rfl) (List.Perm.refl _) rfl (fun w hw => by
      have h9 := fH _ (chpL Y Z T E to un) Al al (by omega) ((aL hgr).ext (Chg.ext hw.chg)) (OwnR.rdr (hw.holds (.own Al (chpL Y Z T E to un).length al 3 1 (iL (chpL Y Z T E to un))) (Pick.mem pk9))) ((aC hgr).ext (Chg.ext hw.chg)) ((aT hgr).ext (Chg.ext hw.chg)) (hG.ext (Chg.ext hw.chg)) (by omega) (hE.sat hw Apart.nil)
      rw [hq3.out, hq4.out] at h9
      exact h9) ?_
  rintro ⟨Ah, ah⟩
  simp only [List.cons_append, List.nil_append]
  refine TL.p Pu.mv ?_
  refine TL.p Pu.ex ?_
  refine TL.p Pu.ex ?_
  refine TL.p Pu.ex ?_
  refine TL.p Pu.as ?_
  refine TL.p Pu.as ?_
  refine TL.p Pu.as ?_
  refine TL.nil ?_
  refine TQ.thenN (hY31 _ _ ?_)
  refine TW.seq fun Y32 hY32 => ?_
  refine TW.join [(20, .bool true)] ?_ (fun hJ6 => ?_)
  refine TQ.thenN (hY32 _ _ ?_)
  refine TW.ret ?_
  refine TQ.ret Tryz.results13 rfl ((.tmp rfl .nil)) ?_
  exact fun w hw => Ret.of hw
  refine TW.region ?_
  refine TL.p Pu.mv ?_
  refine TL.p Pu.mv ?_
  refine TL.lit (t := 196) (b' := true) rfl (rfl) ?_
  refine TL.gd Pu.mv ?_
  refine TL.gd Pu.ge ?_
  refine TL.lit (t := 198) (b' := true) rfl ((decide_eq_true (by omega))) ?_
  refine TL.p Pu.kt ?_
  refine TL.p Pu.mv ?_
  refine TL.gd Pu.mv ?_
  refine TL.lit (t := 201) (b' := true) rfl (rfl) ?_
  refine TL.p Pu.kt ?_
  refine TL.p Pu.mv ?_
  refine TL.gd Pu.mv ?_
  refine TL.gd Pu.mv ?_
  refine TL.gd Pu.eq ?_
  refine TL.lit (t := 206) (b' := true) rfl ((by simp)) ?_
  refine TL.p Pu.kt ?_
  refine TL.p Pu.mv ?_
  refine TL.gd Pu.mv ?_
  refine TL.gd Pu.eq ?_
  refine TL.lit (t := 210) (b' := true) rfl (rfl) ?_
  refine TL.p Pu.kt ?_
  refine TL.p Pu.mv ?_
  refine TL.gd Pu.mv ?_
  refine TL.gd Pu.mv ?_
  refine TL.cr rfl (enters Tryz.func26 rfl rfl) (fun w hw => by
      exact same3_true (v := fun j => (chpG Y Z T E to un).getD j 0) (by omega) (OwnR.rdr (hw.holds (.own Ah (chpG Y Z T E to un).length ah 3 1 (iL (chpG Y Z T E to un))) (Pick.mem pk9))) (OwnR.rdr (hw.holds (.own Ag (chpG Y Z T E to un).length ag 3 1 (iL (chpG Y Z T E to un))) (Pick.mem pk9)))) ?_
  refine TL.p Pu.kt ?_
  refine TL.p Pu.mv ?_
  refine TL.guard (t := 217) rfl (fun hg2 => ?_) (fun hg2 => ?_)
  try simp only [decide_eq_true_eq, decide_eq_false_iff_not, Bool.not_eq_true', Bool.not_eq_false', Int.natCast_pos] at hg2
  refine TL.gd Pu.mv ?_
  refine TL.gd Pu.no ?_
  refine TL.gd Pu.mv ?_
  refine TL.guard (t := 220) rfl (fun hg3 => ?_) (fun hg3 => ?_)
  try simp only [decide_eq_true_eq, decide_eq_false_iff_not, Bool.not_eq_true', Bool.not_eq_false', Int.natCast_pos] at hg3
  refine TL.gs ?_
  refine TL.gs ?_
  refine TL.gs ?_
  refine TL.gd Pu.kt ?_
  refine TL.gd Pu.mv ?_
  refine TL.gs ?_
  refine TL.gs ?_
  refine TL.gs ?_
  refine TL.gs ?_
  refine TL.gs ?_
  refine TL.gs ?_
  refine TL.gs ?_
  refine TL.gs ?_
  refine TL.gd Pu.kt ?_
  refine TL.p Pu.kt ?_
  refine TL.p Pu.as ?_
  refine TL.nil ?_
  exact TQ.sub (by repeat (first | exact trivial | refine ⟨rfl, ?_⟩ | refine ⟨trivial, ?_⟩ | refine ⟨(by show some (Value.bool _) = some (Value.bool _); first | (simp [hg2, hg3]; done) | (refine congrArg (fun z => some (Value.bool z)) (Bool.eq_iff_iff.2 ?_); simp [hg2, hg3]; omega)), ?_⟩)) ks9 hJ6
  try simp only [decide_eq_true_eq, decide_eq_false_iff_not, Bool.not_eq_true', Bool.not_eq_false', Int.natCast_pos] at hg3
  refine TL.gd Pu.mv ?_
  refine TL.gd Pu.mv ?_
  refine TL.gd Pu.gt ?_
  refine TL.gd Pu.kf ?_
  refine TL.gd Pu.mv ?_
  refine TL.guard (t := 225) rfl (fun hg4 => ?_) (fun hg4 => ?_)
  try simp only [decide_eq_true_eq, decide_eq_false_iff_not, Bool.not_eq_true', Bool.not_eq_false', Int.natCast_pos] at hg4
  refine TL.gs ?_
  refine TL.gs ?_
  refine TL.gs ?_
  refine TL.gs ?_
  refine TL.gs ?_
  refine TL.gs ?_
  refine TL.gs ?_
  refine TL.gs ?_
  refine TL.gd Pu.kt ?_
  refine TL.p Pu.kt ?_
  refine TL.p Pu.as ?_
  refine TL.nil ?_
  exact TQ.sub (by repeat (first | exact trivial | refine ⟨rfl, ?_⟩ | refine ⟨trivial, ?_⟩ | refine ⟨(by show some (Value.bool _) = some (Value.bool _); first | (simp [hg2, hg3, hg4]; done) | (refine congrArg (fun z => some (Value.bool z)) (Bool.eq_iff_iff.2 ?_); simp [hg2, hg3, hg4]; omega)), ?_⟩)) ks9 hJ6
  try simp only [decide_eq_true_eq, decide_eq_false_iff_not, Bool.not_eq_true', Bool.not_eq_false', Int.natCast_pos] at hg4
  refine TL.gd Pu.mv ?_
  refine TL.gd Pu.mv ?_
  refine TL.gd (Pu.bv Pu.eq (decide_eq_true (hcm2 (by assumption) (by assumption)))) ?_
  refine TL.lit (t := 228) (b' := true) rfl (rfl) ?_
  refine TL.gd Pu.mv ?_
  refine TL.gd Pu.mv ?_
  refine TL.gd Pu.mv ?_
  refine TL.gd (Pu.bv Pu.ge (decide_eq_true (hcm3 (by assumption) (by assumption)))) ?_
  refine TL.lit (t := 232) (b' := true) rfl (rfl) ?_
  refine TL.gd Pu.kt ?_
  refine TL.gd Pu.kf ?_
  refine TL.p Pu.kt ?_
  refine TL.p Pu.as ?_
  refine TL.nil ?_
  exact TQ.sub (by repeat (first | exact trivial | refine ⟨rfl, ?_⟩ | refine ⟨trivial, ?_⟩ | refine ⟨(by show some (Value.bool _) = some (Value.bool _); first | (simp [hg2, hg3, hg4]; done) | (refine congrArg (fun z => some (Value.bool z)) (Bool.eq_iff_iff.2 ?_); simp [hg2, hg3, hg4]; omega)), ?_⟩)) ks9 hJ6
  try simp only [decide_eq_true_eq, decide_eq_false_iff_not, Bool.not_eq_true', Bool.not_eq_false', Int.natCast_pos] at hg2
  refine TL.gs ?_
  refine TL.gs ?_
  refine TL.gs ?_
  refine TL.gs ?_
  refine TL.gs ?_
  refine TL.gs ?_
  refine TL.gs ?_
  refine TL.gs ?_
  refine TL.gs ?_
  refine TL.gs ?_
  refine TL.gs ?_
  refine TL.gs ?_
  refine TL.gs ?_
  refine TL.gs ?_
  refine TL.gs ?_
  refine TL.gs ?_
  refine TL.gs ?_
  refine TL.p Pu.kf ?_
  refine TL.p Pu.as ?_
  refine TL.nil ?_
  exact TQ.sub (by repeat (first | exact trivial | refine ⟨rfl, ?_⟩ | refine ⟨trivial, ?_⟩ | refine ⟨(by show some (Value.bool _) = some (Value.bool _); first | (simp [hg2]; done) | (refine congrArg (fun z => some (Value.bool z)) (Bool.eq_iff_iff.2 ?_); simp [hg2]; omega)), ?_⟩)) ks9 hJ6
  refine TW.region ?_
  refine TL.p Pu.mv ?_
  refine TL.p Pu.mv ?_
  refine TL.guard (t := 132) rfl (fun hg5 => ?_) (fun hg5 => ?_)
  try simp only [decide_eq_true_eq, decide_eq_false_iff_not, Bool.not_eq_true', Bool.not_eq_false', Int.natCast_pos] at hg5
  refine TL.gd Pu.mv ?_
  refine TL.gd (Pu.ln Tryz.underlying113) ?_
  refine TL.gd Pu.gt ?_
  refine TL.p Pu.kt ?_
  refine TL.p Pu.as ?_
  refine TL.nil ?_
  exact TQ.sub (by repeat (first | exact trivial | refine ⟨rfl, ?_⟩ | refine ⟨trivial, ?_⟩ | refine ⟨(by show some (Value.bool _) = some (Value.bool _); first | (simp [hg5]; done) | (refine congrArg (fun z => some (Value.bool z)) (Bool.eq_iff_iff.2 ?_); simp [hg5]; omega)), ?_⟩)) ks9 hJ3
  try simp only [decide_eq_true_eq, decide_eq_false_iff_not, Bool.not_eq_true', Bool.not_eq_false', Int.natCast_pos] at hg5
  refine TL.gs ?_
  refine TL.gs ?_
  refine TL.gs ?_
  refine TL.p Pu.kf ?_
  refine TL.p Pu.as ?_
  refine TL.nil ?_
  exact TQ.sub (by repeat (first | exact trivial | refine ⟨rfl, ?_⟩ | refine ⟨trivial, ?_⟩ | refine ⟨(by show some (Value.bool _) = some (Value.bool _); first | (simp [hg5]; done) | (refine congrArg (fun z => some (Value.bool z)) (Bool.eq_iff_iff.2 ?_); simp [hg5]; omega)), ?_⟩)) ks9 hJ3
  try simp only [decide_eq_true_eq, decide_eq_false_iff_not, Bool.not_eq_true', Bool.not_eq_false', Bool.and_eq_true, Bool.or_eq_true, Bool.and_eq_false_iff, Bool.or_eq_false_iff, Int.not_lt, Int.not_le] at hc2
  have hpos : (wsL Y to un).length = 0 := by omega
  have hS0 : (chpS Y Z T E to un).2.2.2 = false := by unfold chpS; rw [hpos]; rfl
  have hC75 : chpC Y Z T E to un = 75 := by rw [hCi.out, hS0]; rfl
  obtain ⟨q1, q2, q3⟩ := chp_none (Z := Z) (T := T) (E := E) (to := to) (un := un) (Y := Y) (by rw [hC75]; decide)
  rw [hC75, q1, q2, q3, List.length_nil]
  obtain ⟨mm, hmm⟩ : ∃ z, z = cstN Y Z T E [] := ⟨_, rfl⟩
  obtain ⟨cz, hcz⟩ : ∃ z, z = cstB Y Z T E [] := ⟨_, rfl⟩
  have hmm := hidT hmm
  have hcz := hidT hcz
  have hcz0 : (cz && decide (0 < ((wsL Y to un).length : Int))) = false := by rw [hpos]; simp
  refine TW.skip ?_
  refine TQ.thenN (hY14 _ _ ?_)
  refine TW.seq fun Y33 hY33 => ?_
  refine TW.region ?_
  refine TL.p Pu.mv ?_
  refine TL.p Pu.mv ?_
  refine TL.cv rfl rfl (enters Tryz.func53 rfl rfl) (fun w hw => by
      have q1 := OldB.of_blk (hw.holds (.blk b1 25 [.slice W Y.nw cw, .slice A Y.nl cl]) (Pick.mem pk9))
      have q2 := OldB.of_blk (hw.holds (.blk b2 30 [.slice C Z.nc cc, .slice D Z.nd cd, .slice B Z.nb cb]) (Pick.mem pk9))
      have q3 := OldB.of_blk (hw.holds (.blk b3 33 [.int .i64 T.hd, .int .i64 T.wo, .slice O T.no co, .slice U T.nu cu, .slice V T.nv cv]) (Pick.mem pk9))
      have q4 := OldB.of_blk (hw.holds (.blk b4 90 [.slice G E.nf cg]) (Pick.mem pk9))
      have q5 := OldB.of_blk (hw.holds (.blk b5 3 [.int .i64 Y.start]) (Pick.mem pk9))
      have q6 := OldB.of_blk (hw.holds (.blk b6 3 [.int .i64 Y.day]) (Pick.mem pk9))
      have q7 := OldB.of_blk (hw.holds (.blk b7 35 [.int .i64 Y.p0, .int .i64 Y.p1]) (Pick.mem pk9))
      have h9 := (by first | exact fQ _ b1 b2 b3 b4 b5 b6 b7 ((wsL Y to un).getD at9.toNat []) (ia at9.toNat) (ic at9.toNat) (by omega) hok htr (by omega) hfe ((aL hgr).ext (Chg.ext hw.chg)) ((aC hgr).ext (Chg.ext hw.chg)) ((aT hgr).ext (Chg.ext hw.chg)) (hE.sat hw Apart.nil) (hG.ext (Chg.ext hw.chg)) (OwnR.rdr (bun_get hw (K1 := lksK (wsL Y to un) ia ic) (Pick.mem pk9) (lks_mem hkn))) q1 q2 q3 q4 q5 q6 q7 | exact fQ _ b1 b2 b3 b4 b5 b6 b7 [] none 0 (Nat.zero_le _) hok htr (by omega) hfe ((aL hgr).ext (Chg.ext hw.chg)) ((aC hgr).ext (Chg.ext hw.chg)) ((aT hgr).ext (Chg.ext hw.chg)) (hE.sat hw Apart.nil) (hG.ext (Chg.ext hw.chg)) ⟨Rd.nil, fun i hi => absurd hi (Nat.not_lt_zero i)⟩ q1 q2 q3 q4 q5 q6 q7)
      rw [← hmm.out, ← hcz.out] at h9
      exact h9) ?_
  refine TL.p Pu.mv ?_
  refine TL.p Pu.ex ?_
  refine TL.p Pu.ex ?_
  refine TL.p Pu.as ?_
  refine TL.p Pu.as ?_
  refine TL.nil ?_
  refine TQ.thenN (hY33 _ _ ?_)
  refine TW.seq fun Y34 hY34 => ?_
  refine TW.join [(32, .bool (cz && decide (0 < ((wsL Y to un).length : Int))))] ?_ (fun hJ7 => ?_)
  refine TQ.thenN (hY34 _ _ ?_)
  refine TW.seq fun Y35 hY35 => ?_
  refine TW.seq fun Y36 hY36 => ?_
  refine TW.region ?_
  refine TL.p Pu.mv ?_
  refine TL.p Pu.ne ?_
  refine TL.nil ?_
  refine TQ.thenN (hY36 _ _ ?_)
  refine TW.condT rfl (rfl) ?_
  refine TW.seq fun Y37 hY37 => ?_
  refine TW.join [(20, .bool true)] ?_ (fun hJ8 => ?_)
  refine TQ.thenN (hY37 _ _ ?_)
  refine TW.ret ?_
  refine TQ.thenR ?_
  refine TQ.ret Tryz.results13 rfl ((.tmp rfl .nil)) ?_
  exact fun w hw => Ret.of hw
  refine TW.region ?_
  refine TL.p Pu.mv ?_
  refine TL.p Pu.mv ?_
  refine TL.lit (t := 140) (b' := true) rfl (rfl) ?_
  refine TL.gd Pu.mv ?_
  refine TL.gd Pu.eq ?_
  refine TL.lit (t := 142) (b' := true) rfl (rfl) ?_
  refine TL.p Pu.kt ?_
  refine TL.p Pu.mv ?_
  refine TL.gd Pu.mv ?_
  refine TL.gd (Pu.ln Tryz.underlying31) ?_
  refine TL.gd Pu.mv ?_
  refine TL.gd (Pu.ln Tryz.underlying31) ?_
  refine TL.gd Pu.ad ?_
  refine TL.gd Pu.eq ?_
  refine TL.lit (t := 150) (b' := true) rfl (rfl) ?_
  refine TL.p Pu.kt ?_
  refine TL.p Pu.mv ?_
  refine TL.gd Pu.mv ?_
  refine TL.gd Pu.eq ?_
  refine TL.lit (t := 154) (b' := true) rfl (rfl) ?_
  refine TL.p Pu.kt ?_
  refine TL.p Pu.mv ?_
  refine TL.gd Pu.mv ?_
  refine TL.gd Pu.no ?_
  refine TL.p Pu.kt ?_
  refine TL.p Pu.as ?_
  refine TL.nil ?_
  exact TQ.sub (by repeat (first | exact trivial | refine ⟨rfl, ?_⟩ | refine ⟨trivial, ?_⟩ | refine ⟨(by show some (Value.bool _) = some (Value.bool _); first | (simp [hcz0, hpos]; done) | (refine congrArg (fun z => some (Value.bool z)) (Bool.eq_iff_iff.2 ?_); simp [hcz0, hpos]; omega)), ?_⟩)) ks9 hJ8
  refine TW.region ?_
  refine TL.p Pu.mv ?_
  refine TL.p Pu.mv ?_
  refine TL.guard (t := 132) rfl (fun hg6 => ?_) (fun hg6 => ?_)
  try simp only [decide_eq_true_eq, decide_eq_false_iff_not, Bool.not_eq_true', Bool.not_eq_false', Int.natCast_pos] at hg6
  refine TL.gd Pu.mv ?_
  refine TL.gd (Pu.ln Tryz.underlying113) ?_
  refine TL.gd Pu.gt ?_
  refine TL.p Pu.kt ?_
  refine TL.p Pu.as ?_
  refine TL.nil ?_
  exact TQ.sub (by repeat (first | exact trivial | refine ⟨rfl, ?_⟩ | refine ⟨trivial, ?_⟩ | refine ⟨(by show some (Value.bool _) = some (Value.bool _); first | (simp [hg6]; done) | (refine congrArg (fun z => some (Value.bool z)) (Bool.eq_iff_iff.2 ?_); simp [hg6]; omega)), ?_⟩)) ks9 hJ7
  try simp only [decide_eq_true_eq, decide_eq_false_iff_not, Bool.not_eq_true', Bool.not_eq_false', Int.natCast_pos] at hg6
  refine TL.gs ?_
  refine TL.gs ?_
  refine TL.gs ?_
  refine TL.p Pu.kf ?_
  refine TL.p Pu.as ?_
  refine TL.nil ?_
  exact TQ.sub (by repeat (first | exact trivial | refine ⟨rfl, ?_⟩ | refine ⟨trivial, ?_⟩ | refine ⟨(by show some (Value.bool _) = some (Value.bool _); first | (simp [hg6]; done) | (refine congrArg (fun z => some (Value.bool z)) (Bool.eq_iff_iff.2 ?_); simp [hg6]; omega)), ?_⟩)) ks9 hJ7
  refine TW.region ?_
  refine TL.p (Pu.lds ty_ag25) ?_
  refine TL.p (Pu.lds ty_ag30) ?_
  refine TL.p (Pu.lds ty_ag33) ?_
  refine TL.cr rfl (enters Tryz.func14 rfl rfl) (fun w hw => by
      exact great7_any (hRA.sat hw Apart.nil)) ?_
  refine TL.p Pu.mv ?_
  refine TL.guard (t := 46) rfl (fun hg7 => ?_) (fun hg7 => ?_)
  try simp only [decide_eq_true_eq, decide_eq_false_iff_not, Bool.not_eq_true', Bool.not_eq_false', Int.natCast_pos] at hg7
  refine TL.gs ?_
  refine TL.gs ?_
  refine TL.gs ?_
  refine TL.gs ?_
  refine TL.p Pu.kt ?_
  refine TL.p Pu.mv ?_
  refine TL.gs ?_
  refine TL.gs ?_
  refine TL.gs ?_
  refine TL.p Pu.kt ?_
  refine TL.p Pu.mv ?_
  refine TL.gs ?_
  refine TL.gs ?_
  refine TL.gs ?_
  refine TL.p Pu.kt ?_
  refine TL.p Pu.mv ?_
  refine TL.gs ?_
  refine TL.gs ?_
  refine TL.p Pu.kt ?_
  refine TL.nil ?_
  exact TQ.sub (by repeat (first | exact trivial | refine ⟨rfl, ?_⟩ | refine ⟨trivial, ?_⟩ | refine ⟨(by show some (Value.bool _) = some (Value.bool _); first | (simp [hg7, chkY]; done) | (refine congrArg (fun z => some (Value.bool z)) (Bool.eq_iff_iff.2 ?_); simp [hg7, chkY]; omega)), ?_⟩)) ks9 hJ1
  try simp only [decide_eq_true_eq, decide_eq_false_iff_not, Bool.not_eq_true', Bool.not_eq_false', Int.natCast_pos] at hg7
  refine TL.gd (Pu.lds ty_ag25) ?_
  refine TL.gd (Pu.lds ty_ag30) ?_
  refine TL.cr rfl (enters Tryz.func35 rfl rfl) (fun w hw => by
      exact fK _ ((aL (by assumption)).ext (Chg.ext hw.chg)) ((aC (by assumption)).ext (Chg.ext hw.chg))) ?_
  refine TL.gd Pu.ne ?_
  refine TL.p Pu.kf ?_
  refine TL.p Pu.mv ?_
  refine TL.guard (t := 52) rfl (fun hg8 => ?_) (fun hg8 => ?_)
  try simp only [decide_eq_true_eq, decide_eq_false_iff_not, Bool.not_eq_true', Bool.not_eq_false', Int.natCast_pos] at hg8
  refine TL.gs ?_
  refine TL.gs ?_
  refine TL.gs ?_
  refine TL.p Pu.kt ?_
  refine TL.p Pu.mv ?_
  refine TL.gs ?_
  refine TL.gs ?_
  refine TL.gs ?_
  refine TL.p Pu.kt ?_
  refine TL.p Pu.mv ?_
  refine TL.gs ?_
  refine TL.gs ?_
  refine TL.p Pu.kt ?_
  refine TL.nil ?_
  exact TQ.sub (by repeat (first | exact trivial | refine ⟨rfl, ?_⟩ | refine ⟨trivial, ?_⟩ | refine ⟨(by show some (Value.bool _) = some (Value.bool _); first | (simp [hg7, hg8, chkY]; done) | (refine congrArg (fun z => some (Value.bool z)) (Bool.eq_iff_iff.2 ?_); simp [hg7, hg8, chkY]; omega)), ?_⟩)) ks9 hJ1
  try simp only [decide_eq_true_eq, decide_eq_false_iff_not, Bool.not_eq_true', Bool.not_eq_false', Int.natCast_pos] at hg8
  refine TL.gd (Pu.lds ty_ag33) ?_
  refine TL.cr rfl (enters Tryz.func51 rfl rfl) (fun w hw => by
      exact fT _ ((aT (by assumption)).ext (Chg.ext hw.chg))) ?_
  refine TL.gd Pu.no ?_
  refine TL.p Pu.kf ?_
  refine TL.p Pu.mv ?_
  refine TL.guard (t := 57) rfl (fun hg9 => ?_) (fun hg9 => ?_)
  try simp only [decide_eq_true_eq, decide_eq_false_iff_not, Bool.not_eq_true', Bool.not_eq_false', Int.natCast_pos] at hg9
  refine TL.gs ?_
  refine TL.gs ?_
  refine TL.gs ?_
  refine TL.p Pu.kt ?_
  refine TL.p Pu.mv ?_
  refine TL.gs ?_
  refine TL.gs ?_
  refine TL.p Pu.kt ?_
  refine TL.nil ?_
  exact TQ.sub (by repeat (first | exact trivial | refine ⟨rfl, ?_⟩ | refine ⟨trivial, ?_⟩ | refine ⟨(by show some (Value.bool _) = some (Value.bool _); first | (simp [hg7, hg8, hg9, chkY]; done) | (refine congrArg (fun z => some (Value.bool z)) (Bool.eq_iff_iff.2 ?_); simp [hg7, hg8, hg9, chkY]; omega)), ?_⟩)) ks9 hJ1
  try simp only [decide_eq_true_eq, decide_eq_false_iff_not, Bool.not_eq_true', Bool.not_eq_false', Int.natCast_pos] at hg9
  refine TL.gd (Pu.ld ty_sc90) ?_
  refine TL.cr rfl (enters Tryz.func38 rfl rfl) (fun w hw => by
      exact rFees2_any hnf9 (hE.sat hw Apart.nil)) ?_
  refine TL.gd Pu.no ?_
  refine TL.p Pu.kf ?_
  refine TL.p Pu.mv ?_
  refine TL.guard (t := 62) rfl (fun hg10 => ?_) (fun hg10 => ?_)
  try simp only [decide_eq_true_eq, decide_eq_false_iff_not, Bool.not_eq_true', Bool.not_eq_false', Int.natCast_pos] at hg10
  refine TL.gs ?_
  refine TL.gs ?_
  refine TL.p Pu.kt ?_
  refine TL.nil ?_
  exact TQ.sub (by repeat (first | exact trivial | refine ⟨rfl, ?_⟩ | refine ⟨trivial, ?_⟩ | refine ⟨(by show some (Value.bool _) = some (Value.bool _); first | (simp [hg7, hg8, hg9, hg10, chkY]; done) | (refine congrArg (fun z => some (Value.bool z)) (Bool.eq_iff_iff.2 ?_); simp [hg7, hg8, hg9, hg10, chkY]; omega)), ?_⟩)) ks9 hJ1
  try simp only [decide_eq_true_eq, decide_eq_false_iff_not, Bool.not_eq_true', Bool.not_eq_false', Int.natCast_pos] at hg10
  refine TL.gd Pu.mv ?_
  refine TL.gd Pu.no ?_
  refine TL.p Pu.kf ?_
  refine TL.nil ?_
  exact TQ.sub (by repeat (first | exact trivial | refine ⟨rfl, ?_⟩ | refine ⟨trivial, ?_⟩ | refine ⟨(by show some (Value.bool _) = some (Value.bool _); first | (simp [hg7, hg8, hg9, hg10, chkY]; done) | (refine congrArg (fun z => some (Value.bool z)) (Bool.eq_iff_iff.2 ?_); simp [hg7, hg8, hg9, hg10, chkY]; omega)), ?_⟩)) ks9 hJ1
end
end Go.Proofs.YtmonkjnfjgidbaaGreatDoor
namespace Go.Proofs.YtmonkjnfjgidbaaGreatDoor
set_option linter.all false
set_option linter.unusedVariables false
set_option linter.unusedSimpArgs false
open Go.ChangeShapes Go.WideShapes Go.RowKit Go.Deep
section
variable {H : Type} {enc : TypeId × Value → H} {P : Program} {w : World} {base : Nat} {spare : Nat → Bool} {held : Bool}
def kindsL (P : Program) (g : TypeId → Option (List IntKind)) : List Field → Nat → Option (List IntKind)
  | [], _ => some []
  | f :: fs, off => match g f.type with
    | some a => if f.offset = off ∧ a.length = P.cellsOf f.type then match kindsL P g fs (off + a.length) with
      | some b => some (a ++ b)
      | none => none
      else none
    | none => none
def kindsF (P : Program) : Nat → TypeId → Option (List IntKind)
  | 0, _ => none
  | d + 1, t => match P.underlying t with
    | some (.int k) => some [k]
    | some (.struct fs) => match kindsL P (kindsF P d) fs.toList 0 with
      | some a => if a.length = P.cellsOf t then some a else none
      | none => none
    | _ => none
def ints (ks : List IntKind) (ns : List Int) : List Value := List.zipWith Value.int ks ns
theorem ints_append {a b : List IntKind} {x y : List Int} (h : x.length = a.length) : ints (a ++ b) (x ++ y) = ints a x ++ ints b y := by
  unfold ints; rw [List.zipWith_append h.symm]
theorem ints_length {a : List IntKind} {x : List Int} (h : x.length = a.length) : (ints a x).length = a.length := by simp [ints, h]
theorem kindsL_spec {g : TypeId → Option (List IntKind)} (hg : ∀ t ks, g t = some ks → ∀ fuel cs x, DataW.trod enc P w base spare held fuel t cs = some x → ∃ ns : List Int, cs = ints ks ns ∧ ns.length = ks.length) :
    ∀ (fs : List Field) (off : Nat) (ks : List IntKind) (cs : List Value), kindsL P g fs off = some ks → cs.length = off + ks.length →
      (∀ f ∈ fs, ∃ n x, DataW.trod enc P w base spare held n f.type ((cs.drop f.offset).take (P.cellsOf f.type)) = some x) → ∃ ns : List Int, cs.drop off = ints ks ns ∧ ns.length = ks.length
  | [], off, ks, cs, h, hl, _ => by cases h; exact ⟨[], by simp at hl; simp [ints, hl], rfl⟩
  | f :: fs, off, ks, cs, h, hl, hf => by
    simp only [kindsL] at h
    cases h1 : g f.type with
    | none => rw [h1] at h; cases h
    | some a =>
      rw [h1] at h
      simp only at h
      split at h
      · rename_i h2
        obtain ⟨h2, h3⟩ := h2
        cases h4 : kindsL P g fs (off + a.length) with
        | none => rw [h4] at h; cases h
        | some b =>
          rw [h4] at h
          cases h
          obtain ⟨n, x, hx⟩ := hf f (by simp)
          rw [h2, ← h3] at hx
          obtain ⟨ns, e1, e2⟩ := hg _ _ h1 _ _ _ hx
          obtain ⟨ms, e3, e4⟩ := kindsL_spec hg fs (off + a.length) b cs h4 (by rw [hl]; simp; omega) (fun f' hf' => hf f' (by simp [hf']))
          refine ⟨ns ++ ms, ?_, by simp [e2, e4]⟩
          rw [ints_append e2, ← e1, ← e3, ← List.drop_drop, List.take_append_drop]
      · cases h
theorem kindsF_spec : ∀ (d : Nat) (t : TypeId) (ks : List IntKind), kindsF P d t = some ks → ∀ fuel cs x, DataW.trod enc P w base spare held fuel t cs = some x → ∃ ns : List Int, cs = ints ks ns ∧ ns.length = ks.length
  | 0, _, _, h, _, _, _, _ => by cases h
  | d + 1, t, ks, h, fuel, cs, x, hx => by
    simp only [kindsF] at h
    cases hu : P.underlying t with
    | none => rw [hu] at h; cases h
    | some desc =>
      rw [hu] at h
      match desc, hu, h with
      | .int k, hu, h =>
        injection h with h
        subst h
        obtain ⟨n, rfl, _, _⟩ := DataW.trod_int hu hx
        exact ⟨[n], rfl, rfl⟩
      | .struct fs, hu, h =>
        simp only at h
        cases h1 : kindsL P (kindsF P d) fs.toList 0 with
        | none => rw [h1] at h; cases h
        | some a =>
          rw [h1] at h
          simp only at h
          split at h
          · rename_i h2
            cases h
            obtain ⟨xs, n, _, _, hlen, hxl, hf⟩ := DataW.trod_struct hu hx
            obtain ⟨ns, e1, e2⟩ := kindsL_spec (kindsF_spec d) fs.toList 0 _ cs h1 (by omega) (fun f hf' => by
              obtain ⟨i, hi, rfl⟩ := List.getElem_of_mem hf'
              have hi' : i < fs.size := by simpa using hi
              have := hf i fs[i] (by simp [hi'])
              rw [List.getElem?_eq_getElem (by omega)] at this
              exact ⟨n, _, this⟩)
            exact ⟨ns, by simpa using e1, e2⟩
          · cases h
theorem open_flat_slice {t e : TypeId} {fuel : Nat} {cs : List Value} {x : DataW H × List MemPlace} (d : Nat) {ks : List IntKind} (ht : P.underlying t = some (.slice e)) (hk : kindsF P d e = some ks) (hC : P.cellsOf e = ks.length) (h0 : Nat.blt 0 ks.length = true) (h : DataW.trod enc P w base spare held fuel t cs = some x) :
    ∃ (A : Option Addr) (len cap : Nat) (g : Nat → List Int), cs = [.slice A len cap] ∧ (∀ i, i < len → (g i).length = ks.length) ∧ RdR w ks.length A len (fun i => ints ks (g i)) ∧ (A = none → len = 0 ∧ cap = 0) ∧ len ≤ cap ∧ cap ≤ maxLen := by
  have h0 : 0 < ks.length := Nat.le_of_ble_eq_true h0
  rcases open_slice ht h with ⟨rfl, rfl⟩ | ⟨a, len, cap, m, n, D, Pl, rfl, hb, hl, hm, hmm, _, hi⟩
  · exact ⟨none, 0, 0, fun _ => [], rfl, fun i hi => by omega, ⟨Rd.nil, fun i hi => by omega⟩, fun _ => ⟨rfl, rfl⟩, Nat.le_refl _, Nat.zero_le _⟩
  · have hlm : len ≤ m := by rw [hmm]; split <;> omega
    have key : ∀ i, i < len → ∃ ns : List Int, ns.length = ks.length ∧ ∀ j, j < ks.length → w.cell? (a.add (i * ks.length + j)) = (ints ks ns)[j]? := fun i hil => by
      obtain ⟨cs', hc, hx⟩ := hi i (by omega)
      obtain ⟨_, hcl, hat⟩ := World.cells?_some hc
      obtain ⟨ns, rfl, e2⟩ := kindsF_spec d e ks hk _ _ _ hx
      refine ⟨ns, e2, fun j hj => ?_⟩
      have := hat j (by rw [hC]; exact hj)
      rw [hC] at this
      rw [← this, ← add_add]
    refine ⟨some a, len, cap, fun i => if hi : i < len then (key i hi).choose else [], rfl, fun i hi => ?_, ⟨fun hn => ?_, fun i hi => ?_⟩, fun h => (by cases h), hl, hm⟩
    · simp only [hi, dite_true]; exact (key i hi).choose_spec.1
    · have h1 := (key 0 hn).choose_spec.2 0 h0
      have hsome : (ints ks (key 0 hn).choose)[0]? = some ((ints ks (key 0 hn).choose)[0]'(by rw [ints_length (key 0 hn).choose_spec.1]; exact h0)) := List.getElem?_eq_getElem _
      rw [hsome] at h1
      have hadd : a.add (0 * ks.length + 0) = a := by simp [Addr.add]
      rw [hadd] at h1
      have hsp : a.spot = none := by
        unfold World.cell? at h1
        split at h1
        · cases hs : a.spot with
          | none => rfl
          | some s => simp [hs] at h1
        · cases h1
      have hlt : a.block < w.heap.size := World.block_lt_of_cell? w a h1
      obtain ⟨b, o, s⟩ := a
      simp only at hsp
      subst hsp
      refine ⟨b, o, rfl, hlt, fun i j hi hj => ?_⟩
      have h2 := (key i hi).choose_spec.2 j hj
      rw [add_plain] at h2
      rw [show o + i * ks.length + j = o + (i * ks.length + j) by omega, h2]
      simp only [rowF, hi, dite_true]
      have hl2 : j < (ints ks (key i hi).choose).length := by rw [ints_length (key i hi).choose_spec.1]; exact hj
      rw [List.getElem?_eq_getElem hl2]
      simp [List.getD_eq_getElem?_getD, List.getElem?_eq_getElem hl2]
    · simp only [hi, dite_true]
      exact ints_length (key i hi).choose_spec.1
theorem open_rows {r : Reach} {b0 : Nat} {t e : TypeId} {v : Value} {dd : DataW H} {p : List MemPlace} (d : Nat) (ks : List IntKind) (ht : P.underlying t = some (.slice e)) (hk : kindsF P d e = some ks) (hC : P.cellsOf e = ks.length) (h0 : Nat.blt 0 ks.length = true) (hv : Value.okWide P w r b0 t v) (h : DataW.Trod enc P w base spare held t v dd p) :
    ∃ (A : Option Addr) (len cap : Nat) (g : Nat → List Int), v = .slice A len cap ∧ (∀ i, i < len → (g i).length = ks.length) ∧ RdR w ks.length A len (fun i => ints ks (g i)) ∧ (A = none → len = 0 ∧ cap = 0) ∧ len ≤ cap ∧ cap ≤ maxLen := by
  obtain ⟨a, n, c, rfl⟩ := okWide_slice ht hv
  obtain ⟨fuel, h⟩ := h
  obtain ⟨A, len, cap, g, e, h1⟩ := open_flat_slice d ht hk hC h0 h
  simp only [Value.cells, List.cons.injEq, Value.slice.injEq, and_true] at e
  obtain ⟨rfl, rfl, rfl⟩ := e
  exact ⟨_, _, _, g, rfl, h1⟩
def gi (ns : List Int) (j : Nat) : Int := ns.getD j 0
def rowK : List IntKind → (Nat → Int) → List Value
  | [], _ => []
  | k :: ks, f => .int k (f 0) :: rowK ks fun j => f (j + 1)
theorem ints_rowK : ∀ (ks : List IntKind) (ns : List Int), ns.length = ks.length → ints ks ns = rowK ks (gi ns)
  | [], [], _ => rfl
  | k :: ks, n :: ns, h => by
    show Value.int k n :: ints ks ns = _
    rw [ints_rowK ks ns (by simpa using h)]
    rfl
theorem RdR.rowK {sz n : Nat} {A : Option Addr} {ks : List IntKind} {g : Nat → List Int} (h : RdR w sz A n (fun i => ints ks (g i))) (hl : ∀ i, i < n → (g i).length = ks.length) : RdR w sz A n (fun i => rowK ks (gi (g i))) :=
  ⟨h.rd.congr fun i j hi hj => by simp only [rowF, ints_rowK ks (g i) (hl i hi)], fun i hi => by rw [← ints_rowK ks (g i) (hl i hi)]; exact h.len i hi⟩
theorem trodAll_stays (hl : laidOutB P = true) {W W' : World} (hb : Below W.heap.size W W') {sp' : Nat → Bool} : ∀ {ts : List TypeId} {vs : List Value} {ds : List (DataW H)} {ps : List MemPlace}, ts.all (fun t => P.readableRec t && decide (t < P.types.size)) = true →
    DataW.TrodAll enc P W 0 (fun _ => true) true ts vs ds ps → (∀ p ∈ ps, p.block < W.heap.size) → (∀ p ∈ ps, sp' p.block = true) → DataW.TrodAll enc P W' 0 sp' true ts vs ds ps
  | [], [], [], ps, _, h, _, _ => h
  | t :: ts, v :: vs, d :: ds, ps, ht, h, hlt, hs => by
    simp only [List.all_cons, Bool.and_eq_true, decide_eq_true_eq] at ht
    obtain ⟨p, q, h1, h2, rfl⟩ := h
    exact ⟨p, q, WideElems.Trod_stays hl ht.1.1 ht.1.2 h1 (fun x hx => hb.same (hlt x (by simp [hx]))) (fun x hx => hs x (by simp [hx])), trodAll_stays hl hb ht.2 h2 (fun x hx => hlt x (by simp [hx])) (fun x hx => hs x (by simp [hx])), rfl⟩
theorem law_post {f : Func} {s : ChangeSpec} {apart fresh handsOn again : Bool} {W W' : World} {args : Array Value} {ds : List (DataW H)} {p : List MemPlace} {tb : TypeId} (hl : laidOutB P = true) (hvars : s.vars = [])
    (hW : DataW.Whole enc P f.params.toList s.vars apart W args.toList ds [] p) (hA : DataW.TrodAll enc P W 0 (fun _ => true) true f.params.toList args.toList ds p)
    (ht : f.params.toList.all (fun t => P.readableRec t && decide (t < P.types.size)) = true) (hrt : f.resultTypes = #[tb]) (htb : P.underlying tb = some .bool) (hfn : s.fn H ds = { results := [.lit (.bool true)], args := ds }) (hb : Below W.heap.size W W') :
    s.post enc P f apart fresh handsOn again W args (.bool true) W' := by
  have hlt : ∀ q ∈ p, q.block < W.heap.size := fun q hq => hW.lt q hq
  have hold : ∀ q ∈ p, (fun b => decide (b < W.heap.size)) q.block = true := fun q hq => by simpa using hW.lt q hq
  have hres : ∀ (b : Nat) (sp : Nat → Bool) (hd : Bool), DataW.TrodAll enc P W' b sp hd f.resultTypes.toList ((Value.bool true).resultList f.resultTypes.size) (s.fn H (ds ++ [])).results [] := fun b sp hd => by
    rw [List.append_nil, hfn, hrt]
    exact ⟨[], [], shut_bool htb true, rfl, rfl⟩
  have hargs : ∀ sp : Nat → Bool, (∀ q ∈ p, sp q.block = true) → DataW.TrodAll enc P W' 0 sp true f.params.toList args.toList (s.fn H (ds ++ [])).args p := fun sp hs => by
    rw [List.append_nil, hfn]
    exact trodAll_stays hl hb ht hA (fun q hq => hW.lt q hq) hs
  have hv : ∀ sp : Nat → Bool, DataW.TrodVars enc P W' sp s.vars (s.fn H (ds ++ [])).vars [] := fun sp => by
    rw [List.append_nil, hfn, hvars]; exact rfl
  have hok : ∀ (j : Nat) (t : TypeId) (r : Value), f.resultTypes[j]? = some t → ((Value.bool true).resultList f.resultTypes.size)[j]? = some r → Value.okWide P W' .any 0 t r := ok_one (by rw [hrt]) rfl (okWide_bool_mk htb true)
  refine ⟨ds, [], p, [], p, [], hW, hres _ _ _, hargs _ hold, hv _, World.keptBut_mono (fun q hq => ⟨hq, by simpa using hq⟩) (hb.frame (· ∈ p)), fun _ => ?_⟩
  obtain ⟨_, _, _, _, _, hz, hn⟩ := hW
  refine ⟨hok, _, _, ([] ++ p) ++ [], ⟨[] ++ p, [], trodAll_append (hargs _ (fun _ _ => rfl)) (hres _ _ _), hv _, rfl, ?_, ?_⟩, ?_⟩
  · intro b off hp
    have hin : MemPlace.cell b off ∈ p := by simpa using hp
    rw [hb.frozen (hlt _ hin)]
    exact hz b off hin
  · intro ha
    have := hn ha
    simpa using this
  · intro q hq _
    simpa using hq
end
end Go.Proofs.YtmonkjnfjgidbaaGreatDoor
namespace Go.Proofs.YtmonkjnfjgidbaaGreatDoor
set_option linter.all false
set_option linter.unusedVariables false
set_option linter.unusedSimpArgs false
open Go.ChangeShapes Go.WideShapes Go.RowKit Go.Deep
section
variable {H : Type} {enc : TypeId × Value → H} {P : Program} {w : World} {base : Nat} {spare : Nat → Bool} {held : Bool}
theorem open_slice_any {t e : TypeId} {fuel : Nat} {cs : List Value} {x : DataW H × List MemPlace} {sz : Nat} (ht : P.underlying t = some (.slice e)) (hC : P.cellsOf e = sz) (h0 : Nat.blt 0 sz = true) (h : DataW.trod enc P w base spare held fuel t cs = some x) :
    ∃ (A : Option Addr) (len cap : Nat) (G : Nat → List Value), cs = [.slice A len cap] ∧ RdR w sz A len G ∧ (∀ i, i < len → ∃ n y, DataW.trod enc P w base spare held n e (G i) = some y) ∧ (A = none → len = 0 ∧ cap = 0) ∧ len ≤ cap ∧ cap ≤ maxLen := by
  have h0 : 0 < sz := Nat.le_of_ble_eq_true h0
  rcases open_slice ht h with ⟨rfl, rfl⟩ | ⟨a, len, cap, m, n, D, Pl, rfl, hb, hl, hm, hmm, _, hi⟩
  · exact ⟨none, 0, 0, fun _ => [], rfl, ⟨Rd.nil, fun i hi => by omega⟩, fun i hi => by omega, fun _ => ⟨rfl, rfl⟩, Nat.le_refl _, Nat.zero_le _⟩
  · have hlm : len ≤ m := by rw [hmm]; split <;> omega
    have key : ∀ i, i < len → ∃ cs' : List Value, cs'.length = sz ∧ (∀ j, j < sz → w.cell? (a.add (i * sz + j)) = cs'[j]?) ∧ ∃ n y, DataW.trod enc P w base spare held n e cs' = some y := fun i hil => by
      obtain ⟨cs', hc, hx⟩ := hi i (by omega)
      obtain ⟨_, hcl, hat⟩ := World.cells?_some hc
      refine ⟨cs', by rw [hcl, hC], fun j hj => ?_, n, _, hx⟩
      have := hat j (by rw [hC]; exact hj)
      rw [hC] at this
      rw [← this, ← add_add]
    refine ⟨some a, len, cap, fun i => if hi : i < len then (key i hi).choose else [], rfl, ⟨fun hn => ?_, fun i hi => ?_⟩, fun i hi => ?_, fun h => (by cases h), hl, hm⟩
    · have h1 := (key 0 hn).choose_spec.2.1 0 h0
      have hsome : ((key 0 hn).choose)[0]? = some ((key 0 hn).choose[0]'(by rw [(key 0 hn).choose_spec.1]; exact h0)) := List.getElem?_eq_getElem _
      rw [hsome] at h1
      have hadd : a.add (0 * sz + 0) = a := by simp [Addr.add]
      rw [hadd] at h1
      have hsp : a.spot = none := by
        unfold World.cell? at h1
        split at h1
        · cases hs : a.spot with
          | none => rfl
          | some s => simp [hs] at h1
        · cases h1
      have hlt : a.block < w.heap.size := World.block_lt_of_cell? w a h1
      obtain ⟨b, o, s⟩ := a
      simp only at hsp
      subst hsp
      refine ⟨b, o, rfl, hlt, fun i j hi hj => ?_⟩
      have h2 := (key i hi).choose_spec.2.1 j hj
      rw [add_plain] at h2
      rw [show o + i * sz + j = o + (i * sz + j) by omega, h2]
      simp only [rowF, hi, dite_true]
      have hl2 : j < (key i hi).choose.length := by rw [(key i hi).choose_spec.1]; exact hj
      rw [List.getD_eq_getElem?_getD, List.getElem?_eq_getElem hl2]
      rfl
    · simp only [hi, dite_true]
      exact (key i hi).choose_spec.1
    · simp only [hi, dite_true]
      exact (key i hi).choose_spec.2.2
theorem trod_fields {t : TypeId} {fs : Array Field} {fuel : Nat} {cs : List Value} {x : DataW H × List MemPlace} (ht : P.underlying t = some (.struct fs)) (h : DataW.trod enc P w base spare held fuel t cs = some x) :
    cs.length = P.cellsOf t ∧ ∀ (i : Nat) (f : Field), fs[i]? = some f → ∃ n y, DataW.trod enc P w base spare held n f.type ((cs.drop f.offset).take (P.cellsOf f.type)) = some y := by
  obtain ⟨xs, n, _, _, hlen, hxl, hf⟩ := DataW.trod_struct ht h
  refine ⟨hlen, fun i f hi => ?_⟩
  have h1 := hf i f hi
  have hi' : i < fs.size := (Array.getElem?_eq_some_iff.1 hi).1
  rw [List.getElem?_eq_getElem (by omega)] at h1
  exact ⟨n, _, h1⟩
theorem open_ints_in {t e : TypeId} {k : IntKind} {fuel : Nat} {cs : List Value} {x : DataW H × List MemPlace} (ht : P.underlying t = some (.slice e)) (he : P.underlying e = some (.int k)) (hC : P.cellsOf e = 1) (h : DataW.trod enc P w base spare held fuel t cs = some x) :
    ∃ (A : Option Addr) (len cap : Nat) (v : Nat → Int), cs = [.slice A len cap] ∧ RdR w 1 A len (fun q => [.int k (v q)]) ∧ (A = none → len = 0 ∧ cap = 0) ∧ len ≤ cap ∧ cap ≤ maxLen := by
  obtain ⟨A, len, cap, g, rfl, hg, hR, h1, h2, h3⟩ := open_flat_slice (ks := [k]) 1 ht (by simp only [kindsF, he]) hC rfl h
  refine ⟨A, len, cap, fun q => gi (g q) 0, rfl, ⟨hR.rd.congr fun i j hi hj => ?_, fun i hi => rfl⟩, h1, h2, h3⟩
  show (ints [k] (g i)).getD j undef = _
  rw [ints_rowK [k] (g i) (hg i hi)]
  rfl
end
end Go.Proofs.YtmonkjnfjgidbaaGreatDoor
namespace Go.Proofs.YtmonkjnfjgidbaaGreatDoor
set_option linter.all false
set_option linter.unusedVariables false
set_option linter.unusedSimpArgs false
open Go.ChangeShapes Go.WideShapes Go.ChangeAt Go.RowKit Go.Deep
theorem Tryz.own : ownKnob Tryz.prog.godebug = none := by kernel_rfl
theorem Tryz.laidOut : laidOutB Tryz.prog = true := by kernel_rfl
section
variable {H : Type} {enc : TypeId × Value → H} {w : World} {base : Nat} {spare : Nat → Bool} {held : Bool}
set_option maxRecDepth 100000 in
theorem leg_of_trod {fuel : Nat} {G : List Value} {y : DataW H × List MemPlace} (hl : G.length = 5) (hy : DataW.trod enc Tryz.prog w base spare held fuel 122 G = some y) :
    ∃ (x : Leg) (g : Nat → Nat → Int), G = legL x ∧ RdR w 4 x.A x.n (fun j => gateL (g j)) := by
  obtain ⟨_, hf⟩ := trod_fields Tryz.underlying122 hy
  obtain ⟨n0, y0, h0⟩ := hf 0 _ rfl
  obtain ⟨n1, y1, h1⟩ := hf 1 _ rfl
  obtain ⟨n2, y2, h2⟩ := hf 2 _ rfl
  obtain ⟨n3, y3, h3⟩ := hf 3 _ rfl
  obtain ⟨k0, e0, _, _⟩ := DataW.trod_int Tryz.underlying3 h0
  obtain ⟨k1, e1, _, _⟩ := DataW.trod_int Tryz.underlying3 h1
  obtain ⟨s2, e2, l2⟩ := kindsF_spec 2 35 [.i64, .i64] (by kernel_rfl) _ _ _ h2
  obtain ⟨A, n, c, gg, e3, hg, hR, _⟩ := open_flat_slice (ks := [.i64, .i64, .i64, .i64]) 3 Tryz.underlying120 (by kernel_rfl) (by kernel_rfl) rfl h3
  have hc1 : Tryz.prog.cellsOf 3 = 1 := by kernel_rfl
  have hc2 : Tryz.prog.cellsOf 35 = 2 := by kernel_rfl
  have hc3 : Tryz.prog.cellsOf 120 = 1 := by kernel_rfl
  match s2, l2 with
  | [a0, a1], _ =>
    match G, hl with
    | [x0, x1, x2, x3, x4], _ =>
      have e0 : [x0] = [.int .i64 k0] := by simpa [hc1] using e0
      have e1 : [x1] = [.int .i64 k1] := by simpa [hc1] using e1
      have e2 : [x2, x3] = [.int .i64 a0, .int .i64 a1] := by simpa [hc2, ints] using e2
      have e3 : [x4] = [.slice A n c] := by simpa [hc3] using e3
      cases e0; cases e1; cases e2; cases e3
      exact ⟨⟨gi [k0, k1, a0, a1], A, n, c⟩, fun j => gi (gg j), rfl, hR.rowK hg⟩
set_option maxRecDepth 100000 in
theorem claim_of_trod {fuel : Nat} {G : List Value} {y : DataW H × List MemPlace} (hl : G.length = 7) (hy : DataW.trod enc Tryz.prog w base spare held fuel 71 G = some y) :
    ∃ x : (Nat → Int) × Bool, G = claimL x := by
  obtain ⟨_, hf⟩ := trod_fields Tryz.underlying71 hy
  obtain ⟨n0, y0, h0⟩ := hf 0 _ rfl
  obtain ⟨n1, y1, h1⟩ := hf 1 _ rfl
  obtain ⟨n2, y2, h2⟩ := hf 2 _ rfl
  obtain ⟨n3, y3, h3⟩ := hf 3 _ rfl
  obtain ⟨n4, y4, h4⟩ := hf 4 _ rfl
  obtain ⟨n5, y5, h5⟩ := hf 5 _ rfl
  obtain ⟨n6, y6, h6⟩ := hf 6 _ rfl
  obtain ⟨k0, e0, _, _⟩ := DataW.trod_int Tryz.underlying3 h0
  obtain ⟨k1, e1, _, _⟩ := DataW.trod_int Tryz.underlying3 h1
  obtain ⟨k2, e2, _, _⟩ := DataW.trod_int Tryz.underlying3 h2
  obtain ⟨k3, e3, _, _⟩ := DataW.trod_int Tryz.underlying3 h3
  obtain ⟨k4, e4, _, _⟩ := DataW.trod_int Tryz.underlying3 h4
  obtain ⟨k5, e5, _, _⟩ := DataW.trod_int Tryz.underlying3 h5
  obtain ⟨m, e6, _⟩ := DataW.trod_bool Tryz.underlying4 h6
  have hc1 : Tryz.prog.cellsOf 3 = 1 := by kernel_rfl
  have hc2 : Tryz.prog.cellsOf 4 = 1 := by kernel_rfl
  match G, hl with
  | [x0, x1, x2, x3, x4, x5, x6], _ =>
    have e0 : [x0] = [.int .i64 k0] := by simpa [hc1] using e0
    have e1 : [x1] = [.int .i64 k1] := by simpa [hc1] using e1
    have e2 : [x2] = [.int .i64 k2] := by simpa [hc1] using e2
    have e3 : [x3] = [.int .i64 k3] := by simpa [hc1] using e3
    have e4 : [x4] = [.int .i64 k4] := by simpa [hc1] using e4
    have e5 : [x5] = [.int .i64 k5] := by simpa [hc1] using e5
    have e6 : [x6] = [.bool m] := by simpa [hc2] using e6
    cases e0; cases e1; cases e2; cases e3; cases e4; cases e5; cases e6
    exact ⟨(gi [k0, k1, k2, k3, k4, k5], m), rfl⟩
theorem rows_choose {α : Type} {n sz : Nat} {A : Option Addr} {G : Nat → List Value} {F : α → List Value} {q : Nat → α → Prop} (d : α) (hR : RdR w sz A n G) (h : ∀ i, i < n → ∃ x, G i = F x ∧ q i x) : ∃ r : Nat → α, RdR w sz A n (fun i => F (r i)) ∧ ∀ i, i < n → q i (r i) := by
  have hch : ∀ i, ∃ x, i < n → G i = F x ∧ q i x := fun i => by
    by_cases hi : i < n
    · obtain ⟨x, hx⟩ := h i hi
      exact ⟨x, fun _ => hx⟩
    · exact ⟨d, fun h => absurd h hi⟩
  obtain ⟨r, hr⟩ := Classical.axiomOfChoice hch
  exact ⟨r, ⟨hR.rd.congr fun i j hi hj => by simp only [rowF, (hr i hi).1], fun i hi => by rw [← (hr i hi).1]; exact hR.len i hi⟩, fun i hi => (hr i hi).2⟩
set_option maxRecDepth 100000 in
theorem open_land {r : Reach} {b0 : Nat} {v : Value} {dd : DataW H} {p : List MemPlace} (hv : Value.okWide Tryz.prog w r b0 25 v) (h : DataW.Trod enc Tryz.prog w base spare held 25 v dd p) :
    ∃ (W A : Option Addr) (nw cw nl cl : Nat) (f : Nat → Nat → Int) (x : Nat → Leg) (g : Nat → Nat → Nat → Int), v = .agg (landL W nw cw A nl cl).toArray ∧ RdR w 9 W nw (fun k => wellL (f k)) ∧ RdR w 5 A nl (fun k => legL (x k)) ∧ ∀ k, k < nl → RdR w 4 (x k).A (x k).n (fun j => gateL (g k j)) := by
  obtain ⟨cs, rfl, hlen⟩ := okWide_struct Tryz.underlying25 hv
  obtain ⟨fuel, hf⟩ := h
  obtain ⟨hl, hfs⟩ := trod_fields Tryz.underlying25 hf
  obtain ⟨n0, y0, h0⟩ := hfs 0 _ rfl
  obtain ⟨n1, y1, h1⟩ := hfs 1 _ rfl
  obtain ⟨W, nw, cw, gg, e0, hg, hR0, _⟩ := open_flat_slice (ks := List.replicate 9 .i64) 3 Tryz.underlying22 (by kernel_rfl) (by kernel_rfl) rfl h0
  obtain ⟨A, nl, cl, G, e1, hR1, hel, _⟩ := open_slice_any (sz := 5) Tryz.underlying23 (by kernel_rfl) rfl h1
  obtain ⟨x, hx, hq⟩ := rows_choose (F := fun q : Leg × (Nat → Nat → Int) => legL q.1) (q := fun _ q => RdR w 4 q.1.A q.1.n (fun j => gateL (q.2 j))) (⟨fun _ => 0, none, 0, 0⟩, fun _ _ => 0) hR1 fun i hi => by
    obtain ⟨n, y, hy⟩ := hel i hi
    obtain ⟨x, g, e, hr⟩ := leg_of_trod (hR1.len i hi) hy
    exact ⟨(x, g), e, hr⟩
  have hc2 : Tryz.prog.cellsOf 25 = 2 := by kernel_rfl
  have hcw : Tryz.prog.cellsOf 22 = 1 := by kernel_rfl
  have hcl : Tryz.prog.cellsOf 23 = 1 := by kernel_rfl
  rw [hc2] at hl
  obtain ⟨L⟩ := cs
  match L, hl with
  | [x0, x1], _ =>
    have e0 : [x0] = [.slice W nw cw] := by simpa [hcw, Value.cells] using e0
    have e1 : [x1] = [.slice A nl cl] := by simpa [hcl, Value.cells] using e1
    cases e0; cases e1
    exact ⟨W, A, nw, cw, nl, cl, fun k => gi (gg k), fun k => (x k).1, fun k => (x k).2, rfl, hR0.rowK hg, hx, hq⟩
set_option maxRecDepth 100000 in
theorem open_custom {r : Reach} {b0 : Nat} {v : Value} {dd : DataW H} {p : List MemPlace} (hv : Value.okWide Tryz.prog w r b0 30 v) (h : DataW.Trod enc Tryz.prog w base spare held 30 v dd p) :
    ∃ (C D B : Option Addr) (nc cc nd cd nb cb : Nat) (c : Nat → (Nat → Int) × Bool) (d b : Nat → Nat → Int), v = .agg (custL C nc cc D nd cd B nb cb).toArray ∧ RdR w 7 C nc (fun k => claimL (c k)) ∧ RdR w 4 D nd (fun k => feudL (d k)) ∧ RdR w 3 B nb (fun k => borderL (b k)) := by
  obtain ⟨cs, rfl, hlen⟩ := okWide_struct Tryz.underlying30 hv
  obtain ⟨fuel, hf⟩ := h
  obtain ⟨hl, hfs⟩ := trod_fields Tryz.underlying30 hf
  obtain ⟨n0, y0, h0⟩ := hfs 0 _ rfl
  obtain ⟨n1, y1, h1⟩ := hfs 1 _ rfl
  obtain ⟨n2, y2, h2⟩ := hfs 2 _ rfl
  obtain ⟨C, nc, cc, G, e0, hR0, hel, _⟩ := open_slice_any (sz := 7) Tryz.underlying26 (by kernel_rfl) rfl h0
  obtain ⟨D, nd, cd, gd, e1, hgd, hR1, _⟩ := open_flat_slice (ks := List.replicate 4 .i64) 3 Tryz.underlying27 (by kernel_rfl) (by kernel_rfl) rfl h1
  obtain ⟨B, nb, cb, gb, e2, hgb, hR2, _⟩ := open_flat_slice (ks := List.replicate 3 .i64) 3 Tryz.underlying28 (by kernel_rfl) (by kernel_rfl) rfl h2
  obtain ⟨c, hc, _⟩ := rows_choose (F := claimL) (q := fun _ _ => True) (fun _ => 0, false) hR0 fun i hi => by
    obtain ⟨n, y, hy⟩ := hel i hi
    obtain ⟨x, e⟩ := claim_of_trod (hR0.len i hi) hy
    exact ⟨x, e, trivial⟩
  have hc3 : Tryz.prog.cellsOf 30 = 3 := by kernel_rfl
  have hk1 : Tryz.prog.cellsOf 26 = 1 := by kernel_rfl
  have hk2 : Tryz.prog.cellsOf 27 = 1 := by kernel_rfl
  have hk3 : Tryz.prog.cellsOf 28 = 1 := by kernel_rfl
  rw [hc3] at hl
  obtain ⟨L⟩ := cs
  match L, hl with
  | [x0, x1, x2], _ =>
    have e0 : [x0] = [.slice C nc cc] := by simpa [hk1, Value.cells] using e0
    have e1 : [x1] = [.slice D nd cd] := by simpa [hk2, Value.cells] using e1
    have e2 : [x2] = [.slice B nb cb] := by simpa [hk3, Value.cells] using e2
    cases e0; cases e1; cases e2
    exact ⟨C, D, B, nc, cc, nd, cd, nb, cb, c, fun k => gi (gd k), fun k => gi (gb k), rfl, hc, hR1.rowK hgd, hR2.rowK hgb⟩
set_option maxRecDepth 100000 in
theorem open_troop {r : Reach} {b0 : Nat} {v : Value} {dd : DataW H} {p : List MemPlace} (hv : Value.okWide Tryz.prog w r b0 33 v) (h : DataW.Trod enc Tryz.prog w base spare held 33 v dd p) :
    ∃ (T : Trp) (O U V : Option Addr) (co cu cv : Nat), v = .agg (troopL T.hd T.wo O T.no co U T.nu cu V T.nv cv).toArray ∧ RdR w 1 O T.no (fun k => [.int .i64 (T.o k)]) ∧ RdR w 1 U T.nu (fun k => [.int .i64 (T.u k)]) ∧ RdR w 1 V T.nv (fun k => [.int .i64 (T.v k)]) := by
  obtain ⟨cs, rfl, hlen⟩ := okWide_struct Tryz.underlying33 hv
  obtain ⟨fuel, hf⟩ := h
  obtain ⟨hl, hfs⟩ := trod_fields Tryz.underlying33 hf
  obtain ⟨n0, y0, h0⟩ := hfs 0 _ rfl
  obtain ⟨n1, y1, h1⟩ := hfs 1 _ rfl
  obtain ⟨n2, y2, h2⟩ := hfs 2 _ rfl
  obtain ⟨n3, y3, h3⟩ := hfs 3 _ rfl
  obtain ⟨n4, y4, h4⟩ := hfs 4 _ rfl
  obtain ⟨k0, e0, _, _⟩ := DataW.trod_int Tryz.underlying3 h0
  obtain ⟨k1, e1, _, _⟩ := DataW.trod_int Tryz.underlying3 h1
  obtain ⟨O, no, co, o, e2, hO, _⟩ := open_ints_in Tryz.underlying31 Tryz.underlying3 (by kernel_rfl) h2
  obtain ⟨U, nu, cu, u, e3, hU, _⟩ := open_ints_in Tryz.underlying31 Tryz.underlying3 (by kernel_rfl) h3
  obtain ⟨V, nv, cv, x, e4, hV, _⟩ := open_ints_in Tryz.underlying31 Tryz.underlying3 (by kernel_rfl) h4
  have hc5 : Tryz.prog.cellsOf 33 = 5 := by kernel_rfl
  have hc1 : Tryz.prog.cellsOf 3 = 1 := by kernel_rfl
  have hc2 : Tryz.prog.cellsOf 31 = 1 := by kernel_rfl
  rw [hc5] at hl
  obtain ⟨L⟩ := cs
  match L, hl with
  | [x0, x1, x2, x3, x4], _ =>
    have e0 : [x0] = [.int .i64 k0] := by simpa [hc1, Value.cells] using e0
    have e1 : [x1] = [.int .i64 k1] := by simpa [hc1, Value.cells] using e1
    have e2 : [x2] = [.slice O no co] := by simpa [hc2, Value.cells] using e2
    have e3 : [x3] = [.slice U nu cu] := by simpa [hc2, Value.cells] using e3
    have e4 : [x4] = [.slice V nv cv] := by simpa [hc2, Value.cells] using e4
    cases e0; cases e1; cases e2; cases e3; cases e4
    exact ⟨⟨k0, k1, no, nu, nv, o, u, x⟩, O, U, V, co, cu, cv, rfl, hO, hU, hV⟩
set_option maxRecDepth 100000 in
theorem open_span {r : Reach} {b0 : Nat} {v : Value} {dd : DataW H} {p : List MemPlace} (hv : Value.okWide Tryz.prog w r b0 35 v) (h : DataW.Trod enc Tryz.prog w base spare held 35 v dd p) :
    ∃ a b : Int, v = .agg #[.int .i64 a, .int .i64 b] := by
  obtain ⟨cs, rfl, hlen⟩ := okWide_struct Tryz.underlying35 hv
  obtain ⟨fuel, hf⟩ := h
  obtain ⟨s2, e2, l2⟩ := kindsF_spec 2 35 [.i64, .i64] (by kernel_rfl) _ _ _ hf
  match s2, l2 with
  | [a0, a1], _ =>
    refine ⟨a0, a1, ?_⟩
    have e3 : cs.toList = [.int .i64 a0, .int .i64 a1] := by simpa [ints, Value.cells] using e2
    obtain ⟨L⟩ := cs
    have e4 : L = [.int .i64 a0, .int .i64 a1] := e3
    rw [e4]
end
theorem gBars : Tryz.prog.globalNamed "azalai/toll.bars" = some 0 := by kernel_rfl
theorem tBars : (Tryz.prog.globals[0]?).map (·.type) = some 215 := by kernel_rfl
theorem nil_of_trod {w : World} {base : Nat} {sp : Nat → Bool} {fuel : Nat} {t : TypeId} {ps rs : Array TypeId} {va : Bool} {v : Value} {q : List MemPlace} (ht : Tryz.prog.underlying t = some (.func ps rs va)) (h : DataW.trod (funcToken Tryz.prog) Tryz.prog w base sp true fuel t [v] = some (.nil, q)) : v = Value.nilFunc := by
  cases fuel with
  | zero => simp [DataW.trod] at h
  | succ n => cases v <;> simp [DataW.trod, ht] at h <;> rfl
set_option maxRecDepth 100000 in
theorem bars0_of_laid {W : World} (h : laidMetH Tryz.prog [("azalai/toll.bars", Rows.laid_azalai_toll_bars)] W) : OldB W 0 barsL := by
  obtain ⟨g0, t0, cs, fuel, p, hg, ht, hv, hd⟩ := h.funcs (List.mem_singleton.2 rfl)
  obtain rfl := Option.some.inj (gBars.symm.trans hg)
  obtain rfl := Option.some.inj (tBars.symm.trans ht)
  have hd' : DataW.trod (funcToken Tryz.prog) Tryz.prog W 0 (fun _ => true) true fuel 215 cs.toList = some (.agg [.nil, .held [40, 42, 97, 122, 97, 108, 97, 105, 47, 116, 111, 108, 108, 46, 116, 114, 101, 107, 41, 46, 99, 108, 111, 115, 101, 100], .held [40, 42, 97, 122, 97, 108, 97, 105, 47, 116, 111, 108, 108, 46, 116, 114, 101, 107, 41, 46, 104, 97, 116, 101, 100], .held [40, 42, 97, 122, 97, 108, 97, 105, 47, 116, 111, 108, 108, 46, 116, 114, 101, 107, 41, 46, 108, 111, 115, 116]], p) := hd
  have hfl : ∃ c0 c1 c2 c3, cs = #[c0, c1, c2, c3] := by
    obtain ⟨xs, m, _, _, hl, _, _⟩ := DataW.trod_array Tryz.underlying215 hd'
    have hc : Tryz.prog.cellsOf 215 = 4 := by kernel_rfl
    rw [hc] at hl
    obtain ⟨L⟩ := cs
    match L, hl with
    | [c0, c1, c2, c3], _ => exact ⟨c0, c1, c2, c3, rfl⟩
  obtain ⟨c0, c1, c2, c3, rfl⟩ := hfl
  obtain ⟨y0, y1, y2, y3, n, hx, h0, h1, h2, h3⟩ := trod_array4 Tryz.underlying215 (by kernel_rfl) hd'
  simp only [Prod.mk.injEq, DataW.agg.injEq, List.cons.injEq, and_true] at hx
  obtain ⟨⟨e0, e1, e2, e3⟩, _⟩ := hx
  obtain ⟨d0, q0⟩ := y0
  obtain ⟨d1, q1⟩ := y1
  obtain ⟨d2, q2⟩ := y2
  obtain ⟨d3, q3⟩ := y3
  simp only at e0 e1 e2 e3
  subst e0 e1 e2 e3
  obtain rfl := nil_of_trod Tryz.underlying214 h0
  obtain rfl := func_of_trod (f0 := 215) Tryz.underlying214 (by kernel_rfl) h1
  obtain rfl := func_of_trod (f0 := 216) Tryz.underlying214 (by kernel_rfl) h2
  obtain rfl := func_of_trod (f0 := 217) Tryz.underlying214 (by kernel_rfl) h3
  have hc := World.var?_cell hg hv
  exact ⟨World.block_lt_of_cell? W ⟨0, 0, none⟩ (hc 0), fun j v hj => by rw [hc j]; simpa [barsL, barV, barF] using hj⟩
end Go.Proofs.YtmonkjnfjgidbaaGreatDoor
namespace Go.Proofs.YtmonkjnfjgidbaaGreatDoor
set_option linter.all false
set_option linter.unusedVariables false
set_option linter.unusedSimpArgs false
open Go.ChangeShapes Go.WideShapes Go.ChangeAt Go.RowKit Go.Deep
section
variable {H : Type} {enc : TypeId × Value → H} {P : Program} {w : World} {base : Nat} {spare : Nat → Bool} {held : Bool}
theorem trodAll_ten {t0 t1 t2 t3 t4 t5 t6 t7 t8 t9 : TypeId} {args : Array Value} {ds : List (DataW H)} {ps : List MemPlace} (h : DataW.TrodAll enc P w base spare held [t0, t1, t2, t3, t4, t5, t6, t7, t8, t9] args.toList ds ps) :
    ∃ v0 v1 v2 v3 v4 v5 v6 v7 v8 v9 d0 d1 d2 d3 d4 d5 d6 d7 d8 d9 p0 p1 p2 p3 p4 p5 p6 p7 p8 p9, args = #[v0, v1, v2, v3, v4, v5, v6, v7, v8, v9] ∧ ds = [d0, d1, d2, d3, d4, d5, d6, d7, d8, d9] ∧ ps = p0 ++ (p1 ++ (p2 ++ (p3 ++ (p4 ++ (p5 ++ (p6 ++ (p7 ++ (p8 ++ p9)))))))) ∧ DataW.Trod enc P w base spare held t0 v0 d0 p0 ∧ DataW.Trod enc P w base spare held t1 v1 d1 p1 ∧ DataW.Trod enc P w base spare held t2 v2 d2 p2 ∧ DataW.Trod enc P w base spare held t3 v3 d3 p3 ∧ DataW.Trod enc P w base spare held t4 v4 d4 p4 ∧ DataW.Trod enc P w base spare held t5 v5 d5 p5 ∧ DataW.Trod enc P w base spare held t6 v6 d6 p6 ∧ DataW.Trod enc P w base spare held t7 v7 d7 p7 ∧ DataW.Trod enc P w base spare held t8 v8 d8 p8 ∧ DataW.Trod enc P w base spare held t9 v9 d9 p9 := by
  obtain ⟨v0, vs0, d0, ds0, p0, q0, hargs, rfl, rfl, h0, hr0⟩ := trodAll_cons h
  obtain ⟨v1, vs1, d1, ds1, p1, q1, rfl, rfl, rfl, h1, hr1⟩ := trodAll_cons hr0
  obtain ⟨v2, vs2, d2, ds2, p2, q2, rfl, rfl, rfl, h2, hr2⟩ := trodAll_cons hr1
  obtain ⟨v3, vs3, d3, ds3, p3, q3, rfl, rfl, rfl, h3, hr3⟩ := trodAll_cons hr2
  obtain ⟨v4, vs4, d4, ds4, p4, q4, rfl, rfl, rfl, h4, hr4⟩ := trodAll_cons hr3
  obtain ⟨v5, vs5, d5, ds5, p5, q5, rfl, rfl, rfl, h5, hr5⟩ := trodAll_cons hr4
  obtain ⟨v6, vs6, d6, ds6, p6, q6, rfl, rfl, rfl, h6, hr6⟩ := trodAll_cons hr5
  obtain ⟨v7, vs7, d7, ds7, p7, q7, rfl, rfl, rfl, h7, hr7⟩ := trodAll_cons hr6
  obtain ⟨v8, vs8, d8, ds8, p8, q8, rfl, rfl, rfl, h8, hr8⟩ := trodAll_cons hr7
  obtain ⟨v9, vs9, d9, ds9, p9, q9, rfl, rfl, rfl, h9, hr9⟩ := trodAll_cons hr8
  obtain ⟨rfl, rfl, rfl⟩ := trodAll_nil hr9
  exact ⟨v0, v1, v2, v3, v4, v5, v6, v7, v8, v9, d0, d1, d2, d3, d4, d5, d6, d7, d8, d9, p0, p1, p2, p3, p4, p5, p6, p7, p8, p9, by cases args; simp_all, rfl, by simp, h0, h1, h2, h3, h4, h5, h6, h7, h8, h9⟩
theorem wf_in {k : IntKind} {n : Int} (h : (Lit.int k n).wf = true) : k.min ≤ n ∧ n ≤ k.max := by simpa [Lit.wf] using h
theorem u8_in {n : Int} (h : (Lit.int .u8 n).wf = true) : 0 ≤ n ∧ n ≤ 255 := wf_in h
theorem trod_int {P : Program} {n : Nat} {t : TypeId} {k : IntKind} {cs : List Value} {y : DataW H × List MemPlace} (ht : P.underlying t = some (.int k)) (h : DataW.trod enc P w base spare held n t cs = some y) : ∃ x : Int, cs = [.int k x] ∧ k.min ≤ x ∧ x ≤ k.max := by
  cases n with
  | zero => cases h
  | succ n =>
    unfold DataW.trod at h
    rw [ht] at h
    split at h <;> first | (rename_i e _; cases e; done) | skip
    all_goals first | (rename_i k1 k2 x e; cases e; split at h; (rename_i hx; obtain ⟨rfl, hw⟩ := hx; simp only [Lit.wf, Bool.and_eq_true, decide_eq_true_eq] at hw; exact ⟨x, rfl, hw.1, hw.2⟩); cases h) | (cases h; done) | (rename_i e; cases e; done) | (rename_i e _ _; cases e; done) | (rename_i e _ _ _; cases e; done)
end
end Go.Proofs.YtmonkjnfjgidbaaGreatDoor
namespace Go.Proofs.YtmonkjnfjgidbaaGreatDoor
set_option linter.all false
set_option linter.unusedVariables false
set_option linter.unusedSimpArgs false
open Go.ChangeShapes Go.WideShapes Go.ChangeAt Go.RowKit Go.Deep
section
variable {H : Type} {enc : TypeId × Value → H} {w : World} {base : Nat} {spare : Nat → Bool} {held : Bool}
set_option maxRecDepth 100000 in
theorem open_fees2 {r : Reach} {b0 : Nat} {v : Value} {dd : DataW H} {p : List MemPlace} (hv : Value.okWide Tryz.prog w r b0 90 v) (h : DataW.Trod enc Tryz.prog w base spare held 90 v dd p) :
    ∃ (A : Option Addr) (E : Fes) (cp : Nat), v = .slice A E.nf cp ∧ RdR w 2 A E.nf (feeL E) ∧ E.nf ≤ 9223372036854775807 := by
  obtain ⟨A, n, cp, g, rfl, hg, hR, _, h1, h2⟩ := open_rows 2 [.i64, .i64] Tryz.underlying90 (by kernel_rfl) (by kernel_rfl) rfl hv h
  exact ⟨A, ⟨n, fun k => gi (g k) 0, fun k => gi (g k) 1⟩, cp, rfl, hR.rowK hg, Nat.le_trans h1 (Nat.le_trans h2 (by decide))⟩
end
set_option maxRecDepth 100000 in
theorem tollCheapest_door (os : Os) (args : Array Value) : laidMetH Tryz.prog Rows.tollCheapestRow.laid ((World.doorLaid Tryz.prog 14 os).forCall (fun _ _ => 0) ⟨#[], args, []⟩).memory :=
  laidMetH_of_parts3 (fuel := 8) (laidMet_of_run' 8 (by kernel_rfl) (by kernel_rfl)) (by kernel_rfl) (by kernel_rfl)
set_option maxRecDepth 100000 in
theorem tollCheapest_lifted (os : Os) (started : os.Started) (H : Type) (enc : TypeId × Value → H) :
    ReturnsInHanded {} Tryz.checked os 13 .any (fun w args => (Rows.tollCheapestSpec.pre enc Tryz.prog Tryz.f13 [] false w args ∧ laidMetH Tryz.prog Rows.tollCheapestRow.laid w) ∧ sizedMet enc Tryz.prog Tryz.f13 (OpenSpec.ofChange Rows.tollCheapestSpec) false w args) (Rows.tollCheapestSpec.post enc Tryz.prog Tryz.f13 false true false false) := by
  refine returnsInHanded_of_change_and (C := Tryz.checked) (X := fun w _ => laidMetH Tryz.prog Rows.tollCheapestRow.laid w) (fun _ _ _ hh h => h.of_heap hh) Tryz.own started (by kernel_rfl) Tryz.func13
    (ChangeSpec.witness_shaped (enc := enc) (C := Tryz.checked) (os := os) (X := fun w _ => laidMetH Tryz.prog Rows.tollCheapestRow.laid w) false (World.doorLaid Tryz.prog 14 os) #[.agg #[.slice none 0 0, .slice none 0 0], .agg #[.slice none 0 0, .slice none 0 0, .slice none 0 0], .agg #[.int .i64 0, .int .i64 0, .slice none 0 0, .slice none 0 0, .slice none 0 0], .slice none 0 0, .int .i64 0, .int .i64 0, .int .i64 0, .int .i64 0, .agg #[.int .i64 0, .int .i64 0], .int .u8 0] 8 rfl (World.shaped_of_RefB (by kernel_rfl) (by kernel_rfl)) (by kernel_rfl) (by kernel_rfl) (by kernel_rfl) (tollCheapest_door os _)) ?_
  intro W base args ds gs before hval0 hW _ _ hLd _
  have hval : ∀ (j : Nat) t v, Tryz.f13.params[j]? = some t → args[j]? = some v → Value.okWide Tryz.prog W .any base t v := hval0
  have hW' := hW
  obtain ⟨p, q, hA0, hV, rfl, hfz, hnd⟩ := hW
  have hA : DataW.TrodAll enc Tryz.prog W 0 (fun _ => true) true Tryz.f13.params.toList args.toList ds p := hA0
  have hA1 := hA
  rw [Tryz.params13] at hA hval
  obtain ⟨v0, v1, v2, v3, v4, v5, v6, v7, v8, v9, d0, d1, d2, d3, d4, d5, d6, d7, d8, d9, p0, p1, p2, p3, p4, p5, p6, p7, p8, p9, rfl, rfl, rfl, h0, h1, h2, h3, h4, h5, h6, h7, h8, h9⟩ := trodAll_ten hA
  obtain ⟨rfl, rfl⟩ := trodVars_none hV
  have hG : OldB W 0 barsL := bars0_of_laid hLd
  obtain ⟨Wl, A, nw, cw, nl, cl, f, x, g, rfl, hRW, hRA, hRG⟩ := open_land (hval 0 25 v0 rfl rfl) h0
  obtain ⟨C, D, B, nc, cc, nd, cd, nb, cb, c, d, b, rfl, hRC, hRD, hRB⟩ := open_custom (hval 1 30 v1 rfl rfl) h1
  obtain ⟨T, O, U, V, co, cu, cv, rfl, hRO, hRU, hRV⟩ := open_troop (hval 2 33 v2 rfl rfl) h2
  obtain ⟨G, E, cg, rfl, hE, hnf⟩ := open_fees2 (hval 3 90 v3 rfl rfl) h3
  obtain ⟨start, rfl, _⟩ := open_int Tryz.underlying3 (hval 4 3 v4 rfl rfl) h4
  obtain ⟨to9, rfl, _⟩ := open_int Tryz.underlying3 (hval 5 3 v5 rfl rfl) h5
  obtain ⟨day, rfl, _⟩ := open_int Tryz.underlying3 (hval 6 3 v6 rfl rfl) h6
  obtain ⟨un9, rfl, _⟩ := open_int Tryz.underlying3 (hval 7 3 v7 rfl rfl) h7
  obtain ⟨q0, q1, rfl⟩ := open_span (hval 8 35 v8 rfl rfl) h8
  obtain ⟨s, rfl, _, _, hs1⟩ := open_int Tryz.underlying5 (hval 9 5 v9 rfl rfl) h9
  have hs2 := u8_in hs1
  obtain ⟨s9, rfl⟩ : ∃ s9 : Nat, s = (s9 : Int) := ⟨s.toNat, by omega⟩
  clear hA0 hval0
  simp only [List.append_nil] at hW'
  refine (lawCheapest_any (Y := ⟨nw, nl, f, x, g, q0, q1, start, day, 0, fun _ => 0⟩) (Z := ⟨nc, nd, nb, c, d, b⟩) (T := T) (E := E) (L0 := none) (to := to9) (un := un9) s9 (by omega) hnf hE ⟨hRW, hRA, hRG, hRC, hRD, hRB, hRO, hRU, hRV, ⟨Rd.nil, fun i hi => absurd hi (Nat.not_lt_zero i)⟩⟩ hG).mono ?_
  rintro e W' ⟨rfl, hb⟩
  exact ⟨_, rfl, law_post Tryz.laidOut rfl hW' hA1 (by kernel_rfl) (by kernel_rfl) Tryz.underlying4 rfl hb⟩
theorem tollCheapest_row : Rows.TollCheapestSaid :=
  OpenClaim.holds_of_wide 13 Tryz.f13 rfl rfl rfl rfl rfl rfl rfl ⟨rfl, rfl, rfl, rfl, rfl⟩ rfl rfl rfl rfl rfl (by kernel_rfl) Tryz.func13 (by kernel_rfl)
    (of_decide_eq_true (by kernel_rfl)) (by unfold Func.isWrapper; first | (rw [if_pos (by decide +kernel)]; kernel_rfl) | (rw [if_neg (by decide +kernel)]; exact ⟨rfl, rfl⟩))
    (fun os started H enc _ => tollCheapest_lifted os started H enc)
theorem tollCheapest_holds : Rows.TollCheapestCardSaid :=
  Claim7.holds_tied_plain_at .later [] [.funcs] true _ false
    tollCheapest_row (fun _ h => by cases h) (by kernel_rfl) (fun _ h => by cases h) tollCheapest_row_tie rfl ⟨rfl, rfl⟩ (by kernel_rfl) rfl
    (fun f fn hf hfn => by
      obtain rfl : f = 13 := Option.some.inj ((show Tryz.prog.funcNamed "azalai/azalailaw07.TollCheapest" = some 13 by kernel_rfl).symm.trans hf) |>.symm
      obtain rfl : fn = Tryz.f13 := (Option.some.inj (Tryz.func13.symm.trans hfn)).symm
      exact ⟨by kernel_rfl, fun j t ht => by
        have hall : (Tryz.f13.params.toList.all fun u => !Tryz.prog.wantsStandIn u) = true := by kernel_rfl
        have hm : t ∈ Tryz.f13.params.toList := by simpa using Array.mem_of_getElem? ht
        exact (show Tryz.prog.wantsStandIn t = false by simpa using List.all_eq_true.1 hall t hm)⟩)
    (by kernel_rfl)
end Go.Proofs.YtmonkjnfjgidbaaGreatDoor
