/-
  Part 11 of the proof of tollHires_holds: declarations of several texts, in build order. No condition on a program.
-/
import Derived.Test.YtfaenhhgkhcghaaGreatDoorHs10
import Derived.Test.YtfaenhhgkhcghaaGreatDoorHs03
import Derived.Test.YtfaenhhgkhcghaaGreatDoorHs08
import Derived.Test.YtfaenhhgkhcghaaGreatDoorHs09
namespace Go.Proofs.YtfaenhhgkhcghaaGreatDoor
set_option linter.all false
set_option linter.unusedVariables false
set_option linter.unusedSimpArgs false
open Go.RowKit
def trkL (T : Trp) (O : Option Addr) (co : Nat) (U : Option Addr) (cu : Nat) (V : Option Addr) (cv : Nat) (Z : Cus) (C : Option Addr) (cc : Nat) (D : Option Addr) (cd : Nat) (B : Option Addr) (cb : Nat) (S : Option Addr) (n cs : Nat) : List Value :=
 [.int .i64 T.hd, .int .i64 T.wo, .slice O T.no co, .slice U T.nu cu, .slice V T.nv cv, .slice C Z.nc cc, .slice D Z.nd cd, .slice B Z.nb cb, .slice S n cs]
def hclO (Z : Cus) (leg day : Int) : (Nat → Int) × Bool := if 0 ≤ holZ Z leg day then hclZ Z leg day else (fun _ => 0, false)
theorem ex_any {n : Nat} {p : Nat → Bool} : anyB n p = exB n p := by
 rw [Bool.eq_iff_iff, exB_iff]
 unfold anyB
 rw [List.any_eq_true]
 exact ⟨fun ⟨k, hk, h⟩ => ⟨k, List.mem_range.1 hk, h⟩, fun ⟨k, hk, h⟩ => ⟨k, List.mem_range.2 hk, h⟩⟩
theorem catT_peo {T : Trp} {w : World} {A : Option Addr} {a : Nat → Nat} {v : Nat → Nat → Int} (h : RdR w 1 A (totT a 2) (catT a (fun i k => [.int .i64 (v i k)]) 2)) (h0 : a 0 = T.no := by rfl) (h1 : a 1 = T.nu := by rfl) (e0 : v 0 = T.o := by rfl) (e1 : v 1 = T.u := by rfl) :
    RdR w 1 A (0 + T.no + T.nu) (fun k => [.int .i64 (peoA T k)]) := by
  have en : totT a 2 = 0 + T.no + T.nu := by simp only [totT, h0, h1]
  rw [en] at h
  have er : ∀ i, i < 0 + T.no + T.nu → catT a (fun i k => [Value.int .i64 (v i k)]) 2 i = [Value.int .i64 (peoA T i)] := fun i hi => by
    simp only [catT, catR, totT, h0, h1, e0, e1, Nat.zero_add, Nat.not_lt_zero, if_false, Nat.sub_zero, peoA]
    split <;> rfl
  exact ⟨h.rd.congr fun i j hi _ => by simp only [rowF, er i hi], fun i hi => rfl⟩
section
variable {Z : Cus} {T : Trp} {C D B O U V S : Option Addr} {cc cd cb co cu cv n cs bt : Nat} {w : World}
set_option maxRecDepth 100000 in
set_option maxHeartbeats 1000000 in
theorem cHost_any (leg day : Int) (hok : CusOk Z) (h : CustIn w C Z.nc D Z.nd B Z.nb Z.c Z.d Z.b) (ht : OldB w bt (trkL T O co U cu V cv Z C cc D cd B cb S n cs)) :
  Calls Tryz.prog 121 #[.pointer (some ⟨bt, 0, none⟩), .int .i64 leg, .int .i64 day] w (Ret w (.tuple #[.agg (claimL (hclO Z leg day)).toArray, .bool (decide (0 ≤ holZ Z leg day))])) := by
 have hRC := h.hC
 have h1 := h.hnc
 have hol := hol_bd (Z := Z) (leg := leg) (day := day)
 unfold trkL at ht
 have fH := fun (w' : World) (h' : RdR w' 7 C Z.nc (fun k => claimL (Z.c k))) => holder_any (C := C) (D := D) (B := B) (cc := cc) (nd := Z.nd) (cd := cd) (nb := Z.nb) (cb := cb) leg day w' h1 h'
 unfold custL at fH
 refine K_enter (S := []) (K := []) Tryz.func121 rfl Tryz.ntmps121 rfl (Sat.start _) ?_
 refine TW.seq fun Y1 hY1 => TW.region ?_
 refine TL.m (Mk.al ty_zr70) ?_
 intro b1
 refine TL.p Pu.as ?_
 refine TL.nil (TQ.thenN (hY1 _ _ ?_))
 refine TW.seq fun Y2 hY2 => ?_
 refine TW.seq fun Y3 hY3 => TW.region ?_
 refine TL.p Pu.mv ?_
 refine TL.p (by first | exact Pu.nn | exact Pu.nc) ?_
 refine TL.p (by first | exact Pu.fb ty_fa129_1 | exact Pu.fe ty_fa129_1) ?_
 refine TL.p (Pu.ldso ty_ag30) ?_
 refine TL.p Pu.mv ?_
 refine TL.p Pu.mv ?_
 refine TL.cr rfl (enters Tryz.func42 rfl rfl) (fun w hw => by
   exact fH _ (hRC.sat hw Apart.nil)) ?_
 refine TL.p Pu.as ?_
 refine TL.nil (TQ.thenN (hY3 _ _ ?_))
 refine TW.seq fun Y4 hY4 => TW.region ?_
 refine TL.p Pu.mv ?_
 refine TL.p Pu.ge ?_
 refine TL.nil (TQ.thenN (hY4 _ _ ?_))
 refine TW.cond rfl (fun hc0 => ?_) (fun hc0 => ?_)
 try simp only [zcb9] at hc0
 have hh : 0 ≤ holZ Z leg day := by unfold holZ; omega
 have hhc : hclO Z leg day = Z.c (hb leg day Z.c Z.nc).toNat := if_pos hh
 have hol2 : hb leg day Z.c Z.nc < Z.nc := hol.2
 refine TW.seq fun Y5 hY5 => TW.region ?_
 refine TL.p Pu.mv ?_
 refine TL.p (by first | exact Pu.nn | exact Pu.nc) ?_
 refine TL.p (by first | exact Pu.fb ty_fa129_1 | exact Pu.fe ty_fa129_1) ?_
 refine TL.p (by first | exact Pu.fb ty_fa30_0 | exact Pu.fe ty_fa30_0) ?_
 refine TL.p (Pu.ldo ty_sc26) ?_
 refine TL.p Pu.mv ?_
 refine TL.p (Pu.el (q := (hb leg day Z.c Z.nc).toNat) ty_et26 (hk := rfl)) ?_
 refine TL.p (Pu.lds ty_ag70) ?_
 first | refine TL.st ty_sz70 ?_ | refine TL.se ty_sz70 ?_
 refine TL.p Pu.as ?_
 refine TL.nil (TQ.thenN (hY5 _ _ ?_))
 refine TW.ret ?_
 refine TQ.thenR ?_
 refine TQ.ret Tryz.results121 rfl ((RV.cs ty_ag70 (.tmp rfl .nil))) ?_
 exact fun w hw => ⟨by rw [hhc, decide_eq_true hh]; rfl, Chg.ext hw.chg⟩
 try simp only [zcb9] at hc0
 have hh : ¬ 0 ≤ holZ Z leg day := by unfold holZ; omega
 have hhc : hclO Z leg day = (fun _ => 0, false) := if_neg hh
 refine TW.skip ?_
 refine TQ.thenN (hY2 _ _ ?_)
 refine TW.seq fun Y6 hY6 => TW.region ?_
 refine TL.p Pu.bd ?_
 first | refine TL.st ty_sz70 ?_ | refine TL.se ty_sz70 ?_
 refine TL.p Pu.as ?_
 refine TL.nil (TQ.thenN (hY6 _ _ ?_))
 refine TW.ret ?_
 refine TQ.ret Tryz.results121 rfl ((RV.cs ty_ag70 (.tmp rfl .nil))) ?_
 exact fun w hw => ⟨by rw [hhc, decide_eq_false hh]; rfl, Chg.ext hw.chg⟩
theorem cClosed1_any {b1 b2 : Nat} (x : Nat → Int) (leg day : Int) (h1 : OldB w b1 [.int .i64 leg]) (h2 : OldB w b2 [.int .i64 day]) :
  Calls Tryz.prog 195 #[.agg (borderL x).toArray, .pointer (some ⟨b1, 0, none⟩), .pointer (some ⟨b2, 0, none⟩)] w (Ret w (.bool (decide (x 0 = leg) && inB5 (x 1) (x 2) day))) := by
 refine K_enter (S := []) (K := []) Tryz.func195 rfl Tryz.ntmps195 rfl (Sat.start _) ?_
 refine TW.seq fun Y1 hY1 => TW.region ?_
 refine TL.m Mk.bx ?_
 intro b1
 refine TL.p Pu.as ?_
 refine TL.nil (TQ.thenN (hY1 _ _ ?_))
 refine TW.seq fun Y2 hY2 => ?_
 refine TW.join [(4, .bool (decide (x 0 = leg) && inB5 (x 1) (x 2) day))] ?_ (fun hJ1 => ?_)
 refine TQ.thenN (hY2 _ _ ?_)
 refine TW.ret ?_
 refine TQ.ret Tryz.results195 rfl ((.tmp rfl .nil)) ?_
 exact fun w hw => Ret.of hw
 refine TW.region ?_
 refine TL.p (by first | exact Pu.fb ty_fa72_0 | exact Pu.fe ty_fa72_0) ?_
 refine TL.p (by first | exact (Pu.ld ty_sc3) | exact (Pu.ldo ty_sc3)) ?_
 refine TL.p (by first | exact (Pu.ld ty_sc3) | exact (Pu.ldo ty_sc3)) ?_
 refine TL.p Pu.eq ?_
 refine TL.p Pu.mv ?_
 refine TL.guard (t := 9) rfl (fun hg1 => ?_) (fun hg1 => ?_)
 refine TL.gd (by first | exact (Pu.lds ty_ag72) | exact (Pu.ldso ty_ag72)) ?_
 refine TL.gd Pu.fc ?_
 refine TL.gd (by first | exact (Pu.ld ty_sc3) | exact (Pu.ldo ty_sc3)) ?_
 refine TL.cr rfl (enters Tryz.func84 rfl rfl) (fun w hw => by
   exact holds_any _ _ borderMeth (enters Tryz.func190 rfl rfl) (fun w => borderDays_any x w)) ?_
 refine TL.p Pu.kt ?_
 refine TL.p Pu.as ?_
 refine TL.nil ?_
 exact TQ.sub (by repeat (first | exact trivial | refine ⟨rfl, ?_⟩ | refine ⟨trivial, ?_⟩ | refine ⟨(by show some (Value.bool _) = some (Value.bool _); first | (simp [hg1]; done) | (refine congrArg (fun z => some (Value.bool z)) (Bool.eq_iff_iff.2 ?_); simp [hg1]; omega)), ?_⟩)) ks9 hJ1
 refine TL.gs ?_
 refine TL.gs ?_
 refine TL.gs ?_
 refine TL.gs ?_
 refine TL.p Pu.kf ?_
 refine TL.p Pu.as ?_
 refine TL.nil ?_
 exact TQ.sub (by repeat (first | exact trivial | refine ⟨rfl, ?_⟩ | refine ⟨trivial, ?_⟩ | refine ⟨(by show some (Value.bool _) = some (Value.bool _); first | (simp [hg1]; done) | (refine congrArg (fun z => some (Value.bool z)) (Bool.eq_iff_iff.2 ?_); simp [hg1]; omega)), ?_⟩)) ks9 hJ1
set_option maxRecDepth 100000 in
theorem cClosed_any (leg day : Int) (h : CustIn w C Z.nc D Z.nd B Z.nb Z.c Z.d Z.b) (ht : OldB w bt (trkL T O co U cu V cv Z C cc D cd B cb S n cs)) :
  Calls Tryz.prog 192 #[.pointer (some ⟨bt, 0, none⟩), .int .i64 leg, .int .i64 day] w (Ret w (.bool (closZ Z leg day))) := by
 have hRB := h.hB
 have h3 := h.hnb
 unfold trkL at ht
 refine K_enter (S := []) (K := []) Tryz.func192 rfl Tryz.ntmps192 rfl (Sat.start _) ?_
 refine TW.seq fun Y1 hY1 => TW.region ?_
 refine TL.m Mk.bx ?_
 intro b1
 refine TL.m Mk.bx ?_
 intro b2
 refine TL.p Pu.as ?_
 refine TL.nil (TQ.thenN (hY1 _ _ ?_))
 refine TW.seq fun Y2 hY2 => TW.region ?_
 refine TL.p Pu.mv ?_
 refine TL.p (by first | exact Pu.nn | exact Pu.nc) ?_
 refine TL.p (by first | exact Pu.fb ty_fa129_1 | exact Pu.fe ty_fa129_1) ?_
 refine TL.p (by first | exact Pu.fb ty_fa30_2 | exact Pu.fe ty_fa30_2) ?_
 refine TL.p (Pu.ldo ty_sc28) ?_
 refine TL.p Pu.fn ?_
 refine TL.cr rfl (enters Tryz.func96 rfl rfl) (fun w hw => by
   have h1 := OldB.of_blk (hw.holds (.blk b1 3 [.int .i64 leg]) (by simp))
   have h2 := OldB.of_blk (hw.holds (.blk b2 3 [.int .i64 day]) (by simp))
   exact hasBorder_any (fs := []) (v := Z.b) (p := fun k => decide (Z.b k 0 = leg) && inB5 (Z.b k 1) (Z.b k 2) day) (enters Tryz.func195 rfl rfl) (by omega) (hRB.sat hw Apart.nil) fun k hk w' hb => cClosed1_any (Z.b k) leg day (h1.ext hb) (h2.ext hb)) ?_
 refine TL.p Pu.as ?_
 refine TL.nil (TQ.thenN (hY2 _ _ ?_))
 refine TW.ret ?_
 refine TQ.ret Tryz.results192 rfl ((.tmp rfl .nil)) ?_
 exact fun w hw => ⟨ret_bool ex_any.symm, Chg.ext hw.chg⟩
set_option maxRecDepth 100000 in
set_option maxHeartbeats 1000000 in
theorem cHated1_any {q1 q2 q3 : Nat} (x : Nat → Int) (y : (Nat → Int) × Bool) (day : Int) (hx : 0 ≤ x 0 ∧ x 0 ≤ 7 ∧ 0 ≤ x 1 ∧ x 1 ≤ 7) (hy : 0 ≤ y.1 1 ∧ y.1 1 ≤ 7) (h1 : OldB w q1 (claimL y)) (h2 : OldB w q2 [.int .i64 day]) (h3 : OldB w q3 [.pointer (some ⟨bt, 0, none⟩)])
  (t : TrpIn w T O U V) (ht : OldB w bt (trkL T O co U cu V cv Z C cc D cd B cb S n cs)) :
  Calls Tryz.prog 196 #[.agg (feudL x).toArray, .pointer (some ⟨q1, 0, none⟩), .pointer (some ⟨q2, 0, none⟩), .pointer (some ⟨q3, 0, none⟩)] w (Ret w (.bool (feuC (T.no + T.nu) (peoA T) (y.1 1) day x))) := by
 have hno := t.hno
 have hnu := t.hnu
 have hRO := t.hO
 have hRU := t.hU
 unfold trkL at ht
 refine K_enter (S := []) (K := []) Tryz.func196 rfl Tryz.ntmps196 rfl (Sat.start _) ?_
 refine TW.seq fun Y1 hY1 => TW.region ?_
 refine TL.m Mk.bx ?_
 intro b1
 refine TL.p Pu.as ?_
 refine TL.nil (TQ.thenN (hY1 _ _ ?_))
 refine TW.seq fun Y2 hY2 => TW.region ?_
 refine TL.p (by first | exact Pu.fb ty_fa109_0 | exact Pu.fe ty_fa109_0) ?_
 refine TL.p (by first | exact (Pu.ld ty_sc3) | exact (Pu.ldo ty_sc3)) ?_
 refine TL.p (by first | exact Pu.fb ty_fa109_1 | exact Pu.fe ty_fa109_1) ?_
 refine TL.p (by first | exact (Pu.ld ty_sc3) | exact (Pu.ldo ty_sc3)) ?_
 refine TL.p Pu.ad ?_
 refine TL.p (by first | exact Pu.fb ty_fa70_1 | exact Pu.fe ty_fa70_1) ?_
 refine TL.p (by first | exact (Pu.ld ty_sc3) | exact (Pu.ldo ty_sc3)) ?_
 refine TL.p Pu.sb ?_
 refine TL.p Pu.as ?_
 refine TL.nil (TQ.thenN (hY2 _ _ ?_))
 refine TW.seq fun Y3 hY3 => ?_
 refine TW.join [(5, .bool (feuC (T.no + T.nu) (peoA T) (y.1 1) day x))] ?_ (fun hJ1 => ?_)
 refine TQ.thenN (hY3 _ _ ?_)
 refine TW.ret ?_
 refine TQ.ret Tryz.results196 rfl ((.tmp rfl .nil)) ?_
 exact fun w hw => Ret.of hw
 refine TW.ex0k [.blk b1 109 [.int .i64 (x 0), .int .i64 (x 1), .int .i64 (x 2), .int .i64 (x 3)]] ?_
 refine RG.tk 0 rfl (by first | exact Pu.fb ty_fa109_0 | exact Pu.fe ty_fa109_0) ?_
 refine RG.tk 1 rfl (by first | exact (Pu.ld ty_sc3) | exact (Pu.ldo ty_sc3)) ?_
 refine RG.tk 2 rfl (by first | exact Pu.fb ty_fa70_1 | exact Pu.fe ty_fa70_1) ?_
 refine RG.tk 3 rfl (by first | exact (Pu.ld ty_sc3) | exact (Pu.ldo ty_sc3)) ?_
 refine RG.tk 4 rfl Pu.eq ?_
 refine RG.tk 5 rfl Pu.mv ?_
 refine RG.guard (t := 20) rfl (fun hg1 => ?_) (fun hg1 => ?_)
 refine RG.ts 6 rfl ?_
 refine RG.ts 7 rfl ?_
 refine RG.ts 8 rfl ?_
 refine RG.ts 9 rfl ?_
 refine RG.ts 10 rfl ?_
 refine RG.tk 11 rfl Pu.kt ?_
 refine RG.tk 12 rfl Pu.mv ?_
 refine RG.tk 13 rfl (by first | exact (Pu.lds ty_ag109) | exact (Pu.ldso ty_ag109)) ?_
 refine RG.tk 15 rfl (by first | exact (Pu.ld ty_sc3) | exact (Pu.ldo ty_sc3)) ?_
 refine RG.a1 14 rfl (fun X14 hX14 => ?_)
 refine TL.gd Pu.fc ?_
 refine TL.nil ?_
 refine TQ.nxt (hX14 _ _ hl9 ?_)
 refine RG.a1 16 rfl (fun X16 hX16 => ?_)
 refine TL.cr rfl (enters Tryz.func84 rfl rfl) (fun w hw => by
   exact holds_any _ _ feudMeth (enters Tryz.func189 rfl rfl) (fun w => feudDays_any x w)) ?_
 refine TL.nil ?_
 refine TQ.nxt (hX16 _ _ hl9 ?_)
 refine RG.tk 17 rfl Pu.kt ?_
 refine RG.tk 18 rfl Pu.mv ?_
 refine RG.guard (t := 33) rfl (fun hg2 => ?_) (fun hg2 => ?_)
 refine RG.tk 19 rfl (by first | exact (Pu.ld ty_sc76) | exact (Pu.ldo ty_sc76)) ?_
 refine RG.tk 24 rfl (by first | exact (Pu.ld ty_sc76) | exact (Pu.ldo ty_sc76)) ?_
 refine RG.tk 31 rfl Pu.mv ?_
 refine RG.a2 20 25 rfl rfl (fun X20 hX20 => ?_) (fun X25 hX25 => ?_)
 refine TL.gd (by first | exact Pu.nn | exact Pu.nc) ?_
 refine TL.nil ?_
 refine TQ.nxt (hX20 _ _ hl9 ?_)
 refine RG.tk 21 rfl (by first | exact Pu.fb ty_fa129_0 | exact Pu.fe ty_fa129_0) ?_
 refine RG.tk 22 rfl (by first | exact Pu.fb ty_fa33_2 | exact Pu.fe ty_fa33_2) ?_
 refine RG.tk 23 rfl (by first | exact (Pu.ld ty_sc31) | exact (Pu.ldo ty_sc31)) ?_
 refine RG.a1 25 rfl (fun X25 hX25 => ?_)
 refine TL.gd (by first | exact Pu.nn | exact Pu.nc) ?_
 refine TL.nil ?_
 refine TQ.nxt (hX25 _ _ hl9 ?_)
 refine RG.tk 26 rfl (by first | exact Pu.fb ty_fa129_0 | exact Pu.fe ty_fa129_0) ?_
 refine RG.tk 27 rfl (by first | exact Pu.fb ty_fa33_3 | exact Pu.fe ty_fa33_3) ?_
 refine RG.tk 28 rfl (by first | exact (Pu.ld ty_sc31) | exact (Pu.ldo ty_sc31)) ?_
 refine RG.a1 29 rfl (fun X29 hX29 => ?_)
 refine TL.gm Mk.bl ?_
 intro b2
 refine TL.nil ?_
 refine TQ.nxt (hX29 _ _ hl9 ?_)
 refine RG.a1 30 rfl (fun X30 hX30 => ?_)
 refine TL.gck rfl (enters Tryz.func59 rfl rfl) (fun w hw => by
   have hb := RdR.blk (cs := [.slice O T.no co, .slice U T.nu cu]) (n := 2) (sz := 1) (r := fun i => [.slice (sl3 O T.no co U T.nu cu none 0 0 i).1 (sl3 O T.no co U T.nu cu none 0 0 i).2.1 (sl3 O T.no co U T.nu cu none 0 0 i).2.2]) (hw.holds _ (List.mem_cons_self ..)) rfl (fun _ _ => rfl)
   exact concatI_any (m := 2) (a := fun i => (sl3 O T.no co U T.nu cu none 0 0 i).1) (l := fun i => (sl3 O T.no co U T.nu cu none 0 0 i).2.1) (c := fun i => (sl3 O T.no co U T.nu cu none 0 0 i).2.2) (v := fun i => if i = 0 then T.o else T.u) (by omega) (by show totT _ 1 + T.nu ≤ _; simp only [totT, sl3]; omega) hb (fun i hi => by
    have : i = 0 ∨ i = 1 := by omega
    rcases this with rfl | rfl
    exact hRO.sat hw Apart.nil
    exact hRU.sat hw Apart.nil)) ?_
 rintro ⟨A9, c9⟩
 refine TL.nil ?_
 refine TQ.nxt (hX30 _ _ hl9 ?_)
 refine RG.a1 32 rfl (fun X32 hX32 => ?_)
 refine TL.cr rfl (enters Tryz.func122 rfl rfl) (fun w hw => by
   exact contains_any (n := 0 + T.no + T.nu) (v := peoA T) _ (by omega) (catT_peo (OwnR.rdr (hw.holds _ (List.mem_cons_self ..))))) ?_
 refine TL.nil ?_
 refine TQ.nxt (hX32 _ _ hl9 ?_)
 refine RG.tk 33 rfl Pu.kt ?_
 refine RG.tk 34 rfl Pu.as ?_
 refine RG.nil ?_ (by kernel_rfl)
 exact TQ.sub (by repeat (first | exact trivial | refine ⟨rfl, ?_⟩ | refine ⟨trivial, ?_⟩ | refine ⟨(by show some (Value.bool _) = some (Value.bool _); first | (simp [hg1, hg2, feuC, hasB, Nat.zero_add]; done) | (refine congrArg (fun z => some (Value.bool z)) (Bool.eq_iff_iff.2 ?_); simp [hg1, hg2, feuC, hasB, Nat.zero_add]; omega)), ?_⟩)) ks9 hJ1
 refine TL.gd (by first | exact Pu.nn | exact Pu.nc) ?_
 refine TL.nil ?_
 refine TQ.nxt (hX25 _ _ hl9 ?_)
 refine RG.tk 26 rfl (by first | exact Pu.fb ty_fa129_0 | exact Pu.fe ty_fa129_0) ?_
 refine RG.tk 27 rfl (by first | exact Pu.fb ty_fa33_3 | exact Pu.fe ty_fa33_3) ?_
 refine RG.tk 28 rfl (by first | exact (Pu.ld ty_sc31) | exact (Pu.ldo ty_sc31)) ?_
 refine RG.a1 20 rfl (fun X20 hX20 => ?_)
 refine TL.gd (by first | exact Pu.nn | exact Pu.nc) ?_
 refine TL.nil ?_
 refine TQ.nxt (hX20 _ _ hl9 ?_)
 refine RG.tk 21 rfl (by first | exact Pu.fb ty_fa129_0 | exact Pu.fe ty_fa129_0) ?_
 refine RG.tk 22 rfl (by first | exact Pu.fb ty_fa33_2 | exact Pu.fe ty_fa33_2) ?_
 refine RG.tk 23 rfl (by first | exact (Pu.ld ty_sc31) | exact (Pu.ldo ty_sc31)) ?_
 refine RG.a1 29 rfl (fun X29 hX29 => ?_)
 refine TL.gm Mk.bl ?_
 intro b3
 refine TL.nil ?_
 refine TQ.nxt (hX29 _ _ hl9 ?_)
 refine RG.a1 30 rfl (fun X30 hX30 => ?_)
 refine TL.gck rfl (enters Tryz.func59 rfl rfl) (fun w hw => by
   have hb := RdR.blk (cs := [.slice O T.no co, .slice U T.nu cu]) (n := 2) (sz := 1) (r := fun i => [.slice (sl3 O T.no co U T.nu cu none 0 0 i).1 (sl3 O T.no co U T.nu cu none 0 0 i).2.1 (sl3 O T.no co U T.nu cu none 0 0 i).2.2]) (hw.holds _ (List.mem_cons_self ..)) rfl (fun _ _ => rfl)
   exact concatI_any (m := 2) (a := fun i => (sl3 O T.no co U T.nu cu none 0 0 i).1) (l := fun i => (sl3 O T.no co U T.nu cu none 0 0 i).2.1) (c := fun i => (sl3 O T.no co U T.nu cu none 0 0 i).2.2) (v := fun i => if i = 0 then T.o else T.u) (by omega) (by show totT _ 1 + T.nu ≤ _; simp only [totT, sl3]; omega) hb (fun i hi => by
    have : i = 0 ∨ i = 1 := by omega
    rcases this with rfl | rfl
    exact hRO.sat hw Apart.nil
    exact hRU.sat hw Apart.nil)) ?_
 rintro ⟨A9, c9⟩
 refine TL.nil ?_
 refine TQ.nxt (hX30 _ _ hl9 ?_)
 refine RG.a1 32 rfl (fun X32 hX32 => ?_)
 refine TL.cr rfl (enters Tryz.func122 rfl rfl) (fun w hw => by
   exact contains_any (n := 0 + T.no + T.nu) (v := peoA T) _ (by omega) (catT_peo (OwnR.rdr (hw.holds _ (List.mem_cons_self ..))))) ?_
 refine TL.nil ?_
 refine TQ.nxt (hX32 _ _ hl9 ?_)
 refine RG.tk 33 rfl Pu.kt ?_
 refine RG.tk 34 rfl Pu.as ?_
 refine RG.nil ?_ (by kernel_rfl)
 exact TQ.sub (by repeat (first | exact trivial | refine ⟨rfl, ?_⟩ | refine ⟨trivial, ?_⟩ | refine ⟨(by show some (Value.bool _) = some (Value.bool _); first | (simp [hg1, hg2, feuC, hasB, Nat.zero_add]; done) | (refine congrArg (fun z => some (Value.bool z)) (Bool.eq_iff_iff.2 ?_); simp [hg1, hg2, feuC, hasB, Nat.zero_add]; omega)), ?_⟩)) ks9 hJ1
 refine RG.ts 19 rfl ?_
 refine RG.ts 20 rfl ?_
 refine RG.ts 21 rfl ?_
 refine RG.ts 22 rfl ?_
 refine RG.ts 23 rfl ?_
 refine RG.ts 24 rfl ?_
 refine RG.ts 25 rfl ?_
 refine RG.ts 26 rfl ?_
 refine RG.ts 27 rfl ?_
 refine RG.ts 28 rfl ?_
 refine RG.ts 29 rfl ?_
 refine RG.ts 30 rfl ?_
 refine RG.ts 31 rfl ?_
 refine RG.ts 32 rfl ?_
 refine RG.tk 33 rfl Pu.kf ?_
 refine RG.tk 34 rfl Pu.as ?_
 refine RG.nil ?_ (by kernel_rfl)
 exact TQ.sub (by repeat (first | exact trivial | refine ⟨rfl, ?_⟩ | refine ⟨trivial, ?_⟩ | refine ⟨(by show some (Value.bool _) = some (Value.bool _); first | (simp [hg1, hg2, feuC, hasB, Nat.zero_add]; done) | (refine congrArg (fun z => some (Value.bool z)) (Bool.eq_iff_iff.2 ?_); simp [hg1, hg2, feuC, hasB, Nat.zero_add]; omega)), ?_⟩)) ks9 hJ1
 refine RG.tk 6 rfl (by first | exact Pu.fb ty_fa109_1 | exact Pu.fe ty_fa109_1) ?_
 refine RG.tk 7 rfl (by first | exact (Pu.ld ty_sc3) | exact (Pu.ldo ty_sc3)) ?_
 refine RG.tk 8 rfl (by first | exact Pu.fb ty_fa70_1 | exact Pu.fe ty_fa70_1) ?_
 refine RG.tk 9 rfl (by first | exact (Pu.ld ty_sc3) | exact (Pu.ldo ty_sc3)) ?_
 refine RG.tk 10 rfl Pu.eq ?_
 refine RG.tk 11 rfl Pu.kf ?_
 refine RG.tk 12 rfl Pu.mv ?_
 refine RG.guard (t := 27) rfl (fun hg3 => ?_) (fun hg3 => ?_)
 refine RG.tk 13 rfl (by first | exact (Pu.lds ty_ag109) | exact (Pu.ldso ty_ag109)) ?_
 refine RG.tk 15 rfl (by first | exact (Pu.ld ty_sc3) | exact (Pu.ldo ty_sc3)) ?_
 refine RG.a1 14 rfl (fun X14 hX14 => ?_)
 refine TL.gd Pu.fc ?_
 refine TL.nil ?_
 refine TQ.nxt (hX14 _ _ hl9 ?_)
 refine RG.a1 16 rfl (fun X16 hX16 => ?_)
 refine TL.cr rfl (enters Tryz.func84 rfl rfl) (fun w hw => by
   exact holds_any _ _ feudMeth (enters Tryz.func189 rfl rfl) (fun w => feudDays_any x w)) ?_
 refine TL.nil ?_
 refine TQ.nxt (hX16 _ _ hl9 ?_)
 refine RG.tk 17 rfl Pu.kt ?_
 refine RG.tk 18 rfl Pu.mv ?_
 refine RG.guard (t := 33) rfl (fun hg4 => ?_) (fun hg4 => ?_)
 refine RG.tk 19 rfl (by first | exact (Pu.ld ty_sc76) | exact (Pu.ldo ty_sc76)) ?_
 refine RG.tk 24 rfl (by first | exact (Pu.ld ty_sc76) | exact (Pu.ldo ty_sc76)) ?_
 refine RG.tk 31 rfl Pu.mv ?_
 refine RG.a2 20 25 rfl rfl (fun X20 hX20 => ?_) (fun X25 hX25 => ?_)
 refine TL.gd (by first | exact Pu.nn | exact Pu.nc) ?_
 refine TL.nil ?_
 refine TQ.nxt (hX20 _ _ hl9 ?_)
 refine RG.tk 21 rfl (by first | exact Pu.fb ty_fa129_0 | exact Pu.fe ty_fa129_0) ?_
 refine RG.tk 22 rfl (by first | exact Pu.fb ty_fa33_2 | exact Pu.fe ty_fa33_2) ?_
 refine RG.tk 23 rfl (by first | exact (Pu.ld ty_sc31) | exact (Pu.ldo ty_sc31)) ?_
 refine RG.a1 25 rfl (fun X25 hX25 => ?_)
 refine TL.gd (by first | exact Pu.nn | exact Pu.nc) ?_
 refine TL.nil ?_
 refine TQ.nxt (hX25 _ _ hl9 ?_)
 refine RG.tk 26 rfl (by first | exact Pu.fb ty_fa129_0 | exact Pu.fe ty_fa129_0) ?_
 refine RG.tk 27 rfl (by first | exact Pu.fb ty_fa33_3 | exact Pu.fe ty_fa33_3) ?_
 refine RG.tk 28 rfl (by first | exact (Pu.ld ty_sc31) | exact (Pu.ldo ty_sc31)) ?_
 refine RG.a1 29 rfl (fun X29 hX29 => ?_)
 refine TL.gm Mk.bl ?_
 intro b4
 refine TL.nil ?_
 refine TQ.nxt (hX29 _ _ hl9 ?_)
 refine RG.a1 30 rfl (fun X30 hX30 => ?_)
 refine TL.gck rfl (enters Tryz.func59 rfl rfl) (fun w hw => by
   have hb := RdR.blk (cs := [.slice O T.no co, .slice U T.nu cu]) (n := 2) (sz := 1) (r := fun i => [.slice (sl3 O T.no co U T.nu cu none 0 0 i).1 (sl3 O T.no co U T.nu cu none 0 0 i).2.1 (sl3 O T.no co U T.nu cu none 0 0 i).2.2]) (hw.holds _ (List.mem_cons_self ..)) rfl (fun _ _ => rfl)
   exact concatI_any (m := 2) (a := fun i => (sl3 O T.no co U T.nu cu none 0 0 i).1) (l := fun i => (sl3 O T.no co U T.nu cu none 0 0 i).2.1) (c := fun i => (sl3 O T.no co U T.nu cu none 0 0 i).2.2) (v := fun i => if i = 0 then T.o else T.u) (by omega) (by show totT _ 1 + T.nu ≤ _; simp only [totT, sl3]; omega) hb (fun i hi => by
    have : i = 0 ∨ i = 1 := by omega
    rcases this with rfl | rfl
    exact hRO.sat hw Apart.nil
    exact hRU.sat hw Apart.nil)) ?_
 rintro ⟨A9, c9⟩
 refine TL.nil ?_
 refine TQ.nxt (hX30 _ _ hl9 ?_)
 refine RG.a1 32 rfl (fun X32 hX32 => ?_)
 refine TL.cr rfl (enters Tryz.func122 rfl rfl) (fun w hw => by
   exact contains_any (n := 0 + T.no + T.nu) (v := peoA T) _ (by omega) (catT_peo (OwnR.rdr (hw.holds _ (List.mem_cons_self ..))))) ?_
 refine TL.nil ?_
 refine TQ.nxt (hX32 _ _ hl9 ?_)
 refine RG.tk 33 rfl Pu.kt ?_
 refine RG.tk 34 rfl Pu.as ?_
 refine RG.nil ?_ (by kernel_rfl)
 exact TQ.sub (by repeat (first | exact trivial | refine ⟨rfl, ?_⟩ | refine ⟨trivial, ?_⟩ | refine ⟨(by show some (Value.bool _) = some (Value.bool _); first | (simp [hg1, hg3, hg4, feuC, hasB, Nat.zero_add]; done) | (refine congrArg (fun z => some (Value.bool z)) (Bool.eq_iff_iff.2 ?_); simp [hg1, hg3, hg4, feuC, hasB, Nat.zero_add]; omega)), ?_⟩)) ks9 hJ1
 refine TL.gd (by first | exact Pu.nn | exact Pu.nc) ?_
 refine TL.nil ?_
 refine TQ.nxt (hX25 _ _ hl9 ?_)
 refine RG.tk 26 rfl (by first | exact Pu.fb ty_fa129_0 | exact Pu.fe ty_fa129_0) ?_
 refine RG.tk 27 rfl (by first | exact Pu.fb ty_fa33_3 | exact Pu.fe ty_fa33_3) ?_
 refine RG.tk 28 rfl (by first | exact (Pu.ld ty_sc31) | exact (Pu.ldo ty_sc31)) ?_
 refine RG.a1 20 rfl (fun X20 hX20 => ?_)
 refine TL.gd (by first | exact Pu.nn | exact Pu.nc) ?_
 refine TL.nil ?_
 refine TQ.nxt (hX20 _ _ hl9 ?_)
 refine RG.tk 21 rfl (by first | exact Pu.fb ty_fa129_0 | exact Pu.fe ty_fa129_0) ?_
 refine RG.tk 22 rfl (by first | exact Pu.fb ty_fa33_2 | exact Pu.fe ty_fa33_2) ?_
 refine RG.tk 23 rfl (by first | exact (Pu.ld ty_sc31) | exact (Pu.ldo ty_sc31)) ?_
 refine RG.a1 29 rfl (fun X29 hX29 => ?_)
 refine TL.gm Mk.bl ?_
 intro b5
 refine TL.nil ?_
 refine TQ.nxt (hX29 _ _ hl9 ?_)
 refine RG.a1 30 rfl (fun X30 hX30 => ?_)
 refine TL.gck rfl (enters Tryz.func59 rfl rfl) (fun w hw => by
   have hb := RdR.blk (cs := [.slice O T.no co, .slice U T.nu cu]) (n := 2) (sz := 1) (r := fun i => [.slice (sl3 O T.no co U T.nu cu none 0 0 i).1 (sl3 O T.no co U T.nu cu none 0 0 i).2.1 (sl3 O T.no co U T.nu cu none 0 0 i).2.2]) (hw.holds _ (List.mem_cons_self ..)) rfl (fun _ _ => rfl)
   exact concatI_any (m := 2) (a := fun i => (sl3 O T.no co U T.nu cu none 0 0 i).1) (l := fun i => (sl3 O T.no co U T.nu cu none 0 0 i).2.1) (c := fun i => (sl3 O T.no co U T.nu cu none 0 0 i).2.2) (v := fun i => if i = 0 then T.o else T.u) (by omega) (by show totT _ 1 + T.nu ≤ _; simp only [totT, sl3]; omega) hb (fun i hi => by
    have : i = 0 ∨ i = 1 := by omega
    rcases this with rfl | rfl
    exact hRO.sat hw Apart.nil
    exact hRU.sat hw Apart.nil)) ?_
 rintro ⟨A9, c9⟩
 refine TL.nil ?_
 refine TQ.nxt (hX30 _ _ hl9 ?_)
 refine RG.a1 32 rfl (fun X32 hX32 => ?_)
 refine TL.cr rfl (enters Tryz.func122 rfl rfl) (fun w hw => by
   exact contains_any (n := 0 + T.no + T.nu) (v := peoA T) _ (by omega) (catT_peo (OwnR.rdr (hw.holds _ (List.mem_cons_self ..))))) ?_
 refine TL.nil ?_
 refine TQ.nxt (hX32 _ _ hl9 ?_)
 refine RG.tk 33 rfl Pu.kt ?_
 refine RG.tk 34 rfl Pu.as ?_
 refine RG.nil ?_ (by kernel_rfl)
 exact TQ.sub (by repeat (first | exact trivial | refine ⟨rfl, ?_⟩ | refine ⟨trivial, ?_⟩ | refine ⟨(by show some (Value.bool _) = some (Value.bool _); first | (simp [hg1, hg3, hg4, feuC, hasB, Nat.zero_add]; done) | (refine congrArg (fun z => some (Value.bool z)) (Bool.eq_iff_iff.2 ?_); simp [hg1, hg3, hg4, feuC, hasB, Nat.zero_add]; omega)), ?_⟩)) ks9 hJ1
 refine RG.ts 19 rfl ?_
 refine RG.ts 20 rfl ?_
 refine RG.ts 21 rfl ?_
 refine RG.ts 22 rfl ?_
 refine RG.ts 23 rfl ?_
 refine RG.ts 24 rfl ?_
 refine RG.ts 25 rfl ?_
 refine RG.ts 26 rfl ?_
 refine RG.ts 27 rfl ?_
 refine RG.ts 28 rfl ?_
 refine RG.ts 29 rfl ?_
 refine RG.ts 30 rfl ?_
 refine RG.ts 31 rfl ?_
 refine RG.ts 32 rfl ?_
 refine RG.tk 33 rfl Pu.kf ?_
 refine RG.tk 34 rfl Pu.as ?_
 refine RG.nil ?_ (by kernel_rfl)
 exact TQ.sub (by repeat (first | exact trivial | refine ⟨rfl, ?_⟩ | refine ⟨trivial, ?_⟩ | refine ⟨(by show some (Value.bool _) = some (Value.bool _); first | (simp [hg1, hg3, hg4, feuC, hasB, Nat.zero_add]; done) | (refine congrArg (fun z => some (Value.bool z)) (Bool.eq_iff_iff.2 ?_); simp [hg1, hg3, hg4, feuC, hasB, Nat.zero_add]; omega)), ?_⟩)) ks9 hJ1
 refine RG.ts 13 rfl ?_
 refine RG.ts 14 rfl ?_
 refine RG.ts 15 rfl ?_
 refine RG.ts 16 rfl ?_
 refine RG.tk 17 rfl Pu.kf ?_
 refine RG.tk 18 rfl Pu.mv ?_
 refine RG.ts 19 rfl ?_
 refine RG.ts 20 rfl ?_
 refine RG.ts 21 rfl ?_
 refine RG.ts 22 rfl ?_
 refine RG.ts 23 rfl ?_
 refine RG.ts 24 rfl ?_
 refine RG.ts 25 rfl ?_
 refine RG.ts 26 rfl ?_
 refine RG.ts 27 rfl ?_
 refine RG.ts 28 rfl ?_
 refine RG.ts 29 rfl ?_
 refine RG.ts 30 rfl ?_
 refine RG.ts 31 rfl ?_
 refine RG.ts 32 rfl ?_
 refine RG.tk 33 rfl Pu.kf ?_
 refine RG.tk 34 rfl Pu.as ?_
 refine RG.nil ?_ (by kernel_rfl)
 exact TQ.sub (by repeat (first | exact trivial | refine ⟨rfl, ?_⟩ | refine ⟨trivial, ?_⟩ | refine ⟨(by show some (Value.bool _) = some (Value.bool _); first | (simp [hg1, hg3, feuC, hasB, Nat.zero_add]; done) | (refine congrArg (fun z => some (Value.bool z)) (Bool.eq_iff_iff.2 ?_); simp [hg1, hg3, feuC, hasB, Nat.zero_add]; omega)), ?_⟩)) ks9 hJ1
end
end Go.Proofs.YtfaenhhgkhcghaaGreatDoor
namespace Go.Proofs.YtfaenhhgkhcghaaGreatDoor
set_option linter.all false
set_option linter.unusedVariables false
set_option linter.unusedSimpArgs false
open Go.RowKit
theorem hclO_bd {Z : Cus} (hok : CusOk Z) {leg day : Int} : 0 ≤ (hclO Z leg day).1 1 ∧ (hclO Z leg day).1 1 ≤ 7 := by
 unfold hclO
 split
 · have hol := hol_bd (Z := Z) (leg := leg) (day := day)
   have := hok.c (holZ Z leg day).toNat (by omega)
   unfold hclZ
   omega
 · exact ⟨Int.le_refl _, by decide⟩
theorem hat_eq {Z : Cus} {T : Trp} {leg day : Int} : (decide (0 ≤ holZ Z leg day) && anyB Z.nd fun k => feuC (T.no + T.nu) (peoA T) ((hclO Z leg day).1 1) day (Z.d k)) = hatZ Z T leg day := by
 unfold hatZ
 by_cases h : 0 ≤ holZ Z leg day
 · rw [decide_eq_true h, Bool.true_and, Bool.true_and, ex_any, feu_eq]
   unfold hclO feuZ
   rw [if_pos h]
 · rw [decide_eq_false h, Bool.false_and, Bool.false_and]
theorem los_eq {Z : Cus} {T : Trp} {leg day : Int} : (decide (0 ≤ holZ Z leg day) && (hclO Z leg day).2 && !hasB T.u T.nu ((hclO Z leg day).1 1)) = losZ Z T leg day := by
 unfold losZ
 by_cases h : 0 ≤ holZ Z leg day
 · unfold hclO
   rw [decide_eq_true h, Bool.true_and, Bool.true_and, if_pos h]
 · rw [decide_eq_false h, Bool.false_and, Bool.false_and, Bool.false_and]
section
variable {Z : Cus} {T : Trp} {C D B O U V S : Option Addr} {cc cd cb co cu cv n cs bt : Nat} {w : World}
set_option maxRecDepth 100000 in
set_option maxHeartbeats 1000000 in
theorem cHated_any (leg day : Int) (hok : CusOk Z) (h : CustIn w C Z.nc D Z.nd B Z.nb Z.c Z.d Z.b) (t : TrpIn w T O U V) (ht : OldB w bt (trkL T O co U cu V cv Z C cc D cd B cb S n cs)) :
  Calls Tryz.prog 193 #[.pointer (some ⟨bt, 0, none⟩), .int .i64 leg, .int .i64 day] w (Ret w (.bool (hatZ Z T leg day))) := by
 have hRD := h.hD
 have h2 := h.hnd
 have ht9 := ht
 have hbd := hclO_bd hok (leg := leg) (day := day)
 unfold trkL at ht
 refine K_enter (S := []) (K := []) Tryz.func193 rfl Tryz.ntmps193 rfl (Sat.start _) ?_
 refine TW.seq fun Y1 hY1 => TW.region ?_
 refine TL.m Mk.bx ?_
 intro b1
 refine TL.m Mk.bx ?_
 intro b2
 refine TL.p Pu.as ?_
 refine TL.nil (TQ.thenN (hY1 _ _ ?_))
 refine TW.seq fun Y2 hY2 => TW.region ?_
 refine TL.p (Pu.ld ty_sc76) ?_
 refine TL.p Pu.mv ?_
 refine TL.p (Pu.ld ty_sc3) ?_
 refine TL.cr rfl (enters Tryz.func121 rfl rfl) (fun w hw => by
   exact cHost_any leg day hok (h.ext (Chg.ext hw.chg)) (ht9.ext (Chg.ext hw.chg))) ?_
 refine TL.p Pu.mv ?_
 refine TL.p Pu.ex ?_
 refine TL.p Pu.ex ?_
 refine TL.m (Mk.al ty_zr70) ?_
 intro b3
 first | refine TL.st ty_sz70 ?_ | refine TL.se ty_sz70 ?_
 refine TL.p Pu.as ?_
 refine TL.nil (TQ.thenN (hY2 _ _ ?_))
 refine TW.seq fun Y3 hY3 => ?_
 refine TW.join [(6, .bool (decide (0 ≤ holZ Z leg day) && anyB Z.nd fun k => feuC (T.no + T.nu) (peoA T) ((hclO Z leg day).1 1) day (Z.d k)))] ?_ (fun hJ1 => ?_)
 refine TQ.thenN (hY3 _ _ ?_)
 refine TW.ret ?_
 refine TQ.ret Tryz.results193 rfl ((.tmp rfl .nil)) ?_
 exact fun w hw => ⟨ret_bool hat_eq.symm, Chg.ext hw.chg⟩
 refine TW.region ?_
 refine TL.p Pu.mv ?_
 refine TL.p Pu.mv ?_
 refine TL.guard (t := 17) rfl (fun hg1 => ?_) (fun hg1 => ?_)
 refine TL.gd (Pu.ld ty_sc76) ?_
 refine TL.gd (by first | exact Pu.nn | exact Pu.nc) ?_
 refine TL.gd (by first | exact Pu.fb ty_fa129_1 | exact Pu.fe ty_fa129_1) ?_
 refine TL.gd (by first | exact Pu.fb ty_fa30_1 | exact Pu.fe ty_fa30_1) ?_
 refine TL.gd (Pu.ldo ty_sc27) ?_
 refine TL.gd Pu.fn ?_
 refine TL.cr rfl (enters Tryz.func94 rfl rfl) (fun w hw => by
   have q1 := OldB.of_blk (hw.holds (.blk b3 70 (claimL (hclO Z leg day))) (by simp [claimL]))
   have q2 := OldB.of_blk (hw.holds (.blk b2 3 [.int .i64 day]) (by simp))
   have q3 := OldB.of_blk (hw.holds (.blk b1 76 [.pointer (some ⟨bt, 0, none⟩)]) (by simp))
   exact hasFeud_any (fs := []) (v := Z.d) (p := fun k => feuC (T.no + T.nu) (peoA T) ((hclO Z leg day).1 1) day (Z.d k)) (enters Tryz.func196 rfl rfl) (by omega) (hRD.sat hw Apart.nil) fun k hk w' hb => cHated1_any (Z.d k) (hclO Z leg day) day (by have := hok.d k hk; omega) hbd (q1.ext hb) (q2.ext hb) (q3.ext hb) ((t.ext (Chg.ext hw.chg)).ext hb) ((ht9.ext (Chg.ext hw.chg)).ext hb)) ?_
 refine TL.p Pu.kt ?_
 refine TL.p Pu.as ?_
 refine TL.nil ?_
 exact TQ.sub (by repeat (first | exact trivial | refine ⟨rfl, ?_⟩ | refine ⟨trivial, ?_⟩ | refine ⟨(by show some (Value.bool _) = some (Value.bool _); first | (simp [hg1]; done) | (refine congrArg (fun z => some (Value.bool z)) (Bool.eq_iff_iff.2 ?_); simp [hg1]; omega)), ?_⟩)) ks9 hJ1
 refine TL.gs ?_
 refine TL.gs ?_
 refine TL.gs ?_
 refine TL.gs ?_
 refine TL.gs ?_
 refine TL.gs ?_
 refine TL.gs ?_
 refine TL.p Pu.kf ?_
 refine TL.p Pu.as ?_
 refine TL.nil ?_
 exact TQ.sub (by repeat (first | exact trivial | refine ⟨rfl, ?_⟩ | refine ⟨trivial, ?_⟩ | refine ⟨(by show some (Value.bool _) = some (Value.bool _); first | (simp [hg1]; done) | (refine congrArg (fun z => some (Value.bool z)) (Bool.eq_iff_iff.2 ?_); simp [hg1]; omega)), ?_⟩)) ks9 hJ1
set_option maxRecDepth 100000 in
set_option maxHeartbeats 1000000 in
theorem cLost_any (leg day : Int) (hok : CusOk Z) (h : CustIn w C Z.nc D Z.nd B Z.nb Z.c Z.d Z.b) (t : TrpIn w T O U V) (ht : OldB w bt (trkL T O co U cu V cv Z C cc D cd B cb S n cs)) :
  Calls Tryz.prog 194 #[.pointer (some ⟨bt, 0, none⟩), .int .i64 leg, .int .i64 day] w (Ret w (.bool (losZ Z T leg day))) := by
 have hnu := t.hnu
 have hRU := t.hU
 have ht9 := ht
 obtain ⟨y, hy⟩ : ∃ y, y = hclO Z leg day := ⟨_, rfl⟩
 have fH := fun (w' : World) (h' : CustIn w' C Z.nc D Z.nd B Z.nb Z.c Z.d Z.b) (ht' : OldB w' bt (trkL T O co U cu V cv Z C cc D cd B cb S n cs)) => cHost_any leg day hok h' ht'
 rw [← hy] at fH
 unfold trkL at ht
 refine K_enter (S := []) (K := []) Tryz.func194 rfl Tryz.ntmps194 rfl (Sat.start _) ?_
 refine TW.seq fun Y1 hY1 => TW.region ?_
 refine TL.p Pu.as ?_
 refine TL.nil (TQ.thenN (hY1 _ _ ?_))
 refine TW.seq fun Y2 hY2 => TW.region ?_
 refine TL.p Pu.mv ?_
 refine TL.p Pu.mv ?_
 refine TL.p Pu.mv ?_
 refine TL.cr rfl (enters Tryz.func121 rfl rfl) (fun w hw => by
   exact fH _ (h.ext (Chg.ext hw.chg)) (ht9.ext (Chg.ext hw.chg))) ?_
 refine TL.p Pu.mv ?_
 refine TL.p Pu.ex ?_
 refine TL.p Pu.ex ?_
 refine TL.m (Mk.al ty_zr70) ?_
 intro b1
 first | refine TL.st ty_sz70 ?_ | refine TL.se ty_sz70 ?_
 refine TL.p Pu.as ?_
 refine TL.nil (TQ.thenN (hY2 _ _ ?_))
 refine TW.seq fun Y3 hY3 => ?_
 refine TW.join [(6, .bool (decide (0 ≤ holZ Z leg day) && y.2 && !hasB T.u T.nu (y.1 1)))] ?_ (fun hJ1 => ?_)
 refine TQ.thenN (hY3 _ _ ?_)
 refine TW.ret ?_
 refine TQ.ret Tryz.results194 rfl ((.tmp rfl .nil)) ?_
 exact fun w hw => ⟨ret_bool (by rw [hy]; exact los_eq.symm), Chg.ext hw.chg⟩
 refine TW.ex0k [.blk b1 70 (claimL y)] ?_
 refine RG.tk 0 rfl Pu.mv ?_
 refine RG.tk 1 rfl Pu.mv ?_
 refine RG.guard (t := 17) rfl (fun hg1 => ?_) (fun hg1 => ?_)
 refine RG.tk 2 rfl (by first | exact Pu.fb ty_fa70_6 | exact Pu.fe ty_fa70_6) ?_
 refine RG.tk 3 rfl (Pu.ld ty_sc4) ?_
 refine RG.tk 4 rfl Pu.kt ?_
 refine RG.tk 5 rfl Pu.mv ?_
 refine RG.guard (t := 21) rfl (fun hg2 => ?_) (fun hg2 => ?_)
 refine RG.tk 6 rfl Pu.mv ?_
 refine RG.tk 11 rfl (by first | exact Pu.fb ty_fa70_1 | exact Pu.fe ty_fa70_1) ?_
 refine RG.tk 12 rfl (Pu.ld ty_sc3) ?_
 refine RG.a1 7 rfl (fun X7 hX7 => ?_)
 refine TL.gd (by first | exact Pu.nn | exact Pu.nc) ?_
 refine TL.nil ?_
 refine TQ.nxt (hX7 _ _ hl9 ?_)
 refine RG.tk 8 rfl (by first | exact Pu.fb ty_fa129_0 | exact Pu.fe ty_fa129_0) ?_
 refine RG.tk 9 rfl (by first | exact Pu.fb ty_fa33_3 | exact Pu.fe ty_fa33_3) ?_
 refine RG.tk 10 rfl (Pu.ldo ty_sc31) ?_
 refine RG.a1 13 rfl (fun X13 hX13 => ?_)
 refine TL.cr rfl (enters Tryz.func122 rfl rfl) (fun w hw => by
   exact contains_any (v := T.u) _ (by omega) (hRU.sat hw Apart.nil)) ?_
 refine TL.nil ?_
 refine TQ.nxt (hX13 _ _ hl9 ?_)
 refine RG.tk 14 rfl Pu.no ?_
 refine RG.tk 15 rfl Pu.kt ?_
 refine RG.tk 16 rfl Pu.as ?_
 refine RG.nil ?_ (by kernel_rfl)
 exact TQ.sub (by repeat (first | exact trivial | refine ⟨rfl, ?_⟩ | refine ⟨trivial, ?_⟩ | refine ⟨(by show some (Value.bool _) = some (Value.bool _); first | (simp [hg1, hg2]; done) | (refine congrArg (fun z => some (Value.bool z)) (Bool.eq_iff_iff.2 ?_); simp [hg1, hg2]; omega)), ?_⟩)) ks9 hJ1
 refine RG.ts 6 rfl ?_
 refine RG.ts 7 rfl ?_
 refine RG.ts 8 rfl ?_
 refine RG.ts 9 rfl ?_
 refine RG.ts 10 rfl ?_
 refine RG.ts 11 rfl ?_
 refine RG.ts 12 rfl ?_
 refine RG.ts 13 rfl ?_
 refine RG.ts 14 rfl ?_
 refine RG.tk 15 rfl Pu.kf ?_
 refine RG.tk 16 rfl Pu.as ?_
 refine RG.nil ?_ (by kernel_rfl)
 exact TQ.sub (by repeat (first | exact trivial | refine ⟨rfl, ?_⟩ | refine ⟨trivial, ?_⟩ | refine ⟨(by show some (Value.bool _) = some (Value.bool _); first | (simp [hg1, hg2]; done) | (refine congrArg (fun z => some (Value.bool z)) (Bool.eq_iff_iff.2 ?_); simp [hg1, hg2]; omega)), ?_⟩)) ks9 hJ1
 refine RG.ts 2 rfl ?_
 refine RG.ts 3 rfl ?_
 refine RG.tk 4 rfl Pu.kf ?_
 refine RG.tk 5 rfl Pu.mv ?_
 refine RG.ts 6 rfl ?_
 refine RG.ts 7 rfl ?_
 refine RG.ts 8 rfl ?_
 refine RG.ts 9 rfl ?_
 refine RG.ts 10 rfl ?_
 refine RG.ts 11 rfl ?_
 refine RG.ts 12 rfl ?_
 refine RG.ts 13 rfl ?_
 refine RG.ts 14 rfl ?_
 refine RG.tk 15 rfl Pu.kf ?_
 refine RG.tk 16 rfl Pu.as ?_
 refine RG.nil ?_ (by kernel_rfl)
 exact TQ.sub (by repeat (first | exact trivial | refine ⟨rfl, ?_⟩ | refine ⟨trivial, ?_⟩ | refine ⟨(by show some (Value.bool _) = some (Value.bool _); first | (simp [hg1]; done) | (refine congrArg (fun z => some (Value.bool z)) (Bool.eq_iff_iff.2 ?_); simp [hg1]; omega)), ?_⟩)) ks9 hJ1
def lstF (a : Int) (v : Nat → Int) : Nat → Int
 | 0 => a
 | k + 1 => min (lstF a v k) (v k)
theorem leastU_any {A : Option Addr} {n cp : Nat} {v : Nat → Int} (a : Int) (hn : n ≤ 1000000) (hR : RdR w 1 A n (fun k => [.int .u8 (v k)])) :
  Calls Tryz.prog 129 #[.int .u8 a, .slice A n cp] w (Ret w (.int .u8 (lstF a v n))) := by
 refine K_enter (S := []) (K := []) Tryz.func129 rfl Tryz.ntmps129 rfl (Sat.start _) ?_
 refine TW.seq fun Y1 hY1 => TW.region ?_
 refine TL.p Pu.as ?_
 refine TL.nil (TQ.thenN (hY1 _ _ ?_))
 refine TW.seq fun Y2 hY2 => ?_
 refine TW.seq fun Y3 hY3 => TW.region ?_
 refine TL.p Pu.mv ?_
 refine TL.p (Pu.ln Tryz.underlying214) ?_
 refine TL.p Pu.mv ?_
 refine TL.nil (TQ.thenN (hY3 _ _ ?_))
 refine TW.block ?_
 refine TW.loop1 (fun (k : Nat) => [(9, .int .i64 (k : Int)), (8, .int .i64 (n : Int)), (7, .slice A n cp), (0, .int .u8 (lstF a v k))]) (fun k => []) (fun k => k ≤ n) (fun k => n - k) 0 fs9 ?_ ?_ ?_
 exact ks9
 exact Nat.zero_le _
 rintro k hk Z0 hZ0
 refine TW.seq fun Y4 hY4 => TW.region ?_
 refine TL.p Pu.lt ?_
 refine TL.nil (TQ.thenN (hY4 _ _ ?_))
 refine TW.seq fun Y5 hY5 => ?_
 refine TW.cond rfl (fun hc0 => ?_) (fun hc0 => ?_)
 try simp only [zcb9] at hc0
 have hkn : k < n := by omega
 refine TW.skip ?_
 refine TQ.thenN (hY5 _ _ ?_)
 refine TW.seq fun Y6 hY6 => ?_
 refine TW.block ?_
 refine TW.seq fun Y7 hY7 => TW.region ?_
 refine TL.p (Pu.el ty_et214) ?_
 refine TL.p (Pu.ld ty_sc5) ?_
 refine TL.p Pu.as ?_
 refine TL.nil (TQ.thenN (hY7 _ _ ?_))
 refine TW.region ?_
 refine TL.p Pu.mv ?_
 refine TL.p Pu.mv ?_
 refine TL.p Pu.mn ?_
 refine TL.p Pu.as ?_
 refine TL.nil ?_
 refine TQ.blkN ?_
 refine TQ.thenN (hY6 _ _ ?_)
 refine TW.region ?_
 refine TL.p Pu.ad ?_
 refine TL.p Pu.mv ?_
 refine TL.nil ?_
 refine TQ.thenN (hZ0 (k + 1) _ _ ?_ ?_ fs9 ?_)
 exact (by omega)
 exact zom9
 exact ks9
 try simp only [zcb9] at hc0
 obtain rfl : k = n := by omega
 refine TW.exit ?_
 refine TQ.thenX ?_
 refine TQ.thenX ?_
 refine TQ.blkX ?_
 refine TQ.thenN (hY2 _ _ ?_)
 refine TW.seq fun Y8 hY8 => TW.region ?_
 refine TL.p Pu.mv ?_
 refine TL.p Pu.as ?_
 refine TL.nil (TQ.thenN (hY8 _ _ ?_))
 refine TW.ret ?_
 refine TQ.ret Tryz.results129 rfl ((.tmp rfl .nil)) ?_
 exact fun w hw => Ret.of hw
theorem leastI_any {A : Option Addr} {n cp : Nat} {v : Nat → Int} (a : Int) (hn : n ≤ 1000000) (hR : RdR w 1 A n (fun k => [.int .i64 (v k)])) :
  Calls Tryz.prog 124 #[.int .i64 a, .slice A n cp] w (Ret w (.int .i64 (lstF a v n))) := by
 refine K_enter (S := []) (K := []) Tryz.func124 rfl Tryz.ntmps124 rfl (Sat.start _) ?_
 refine TW.seq fun Y1 hY1 => TW.region ?_
 refine TL.p Pu.as ?_
 refine TL.nil (TQ.thenN (hY1 _ _ ?_))
 refine TW.seq fun Y2 hY2 => ?_
 refine TW.seq fun Y3 hY3 => TW.region ?_
 refine TL.p Pu.mv ?_
 refine TL.p (Pu.ln Tryz.underlying31) ?_
 refine TL.p Pu.mv ?_
 refine TL.nil (TQ.thenN (hY3 _ _ ?_))
 refine TW.block ?_
 refine TW.loop1 (fun (k : Nat) => [(9, .int .i64 (k : Int)), (8, .int .i64 (n : Int)), (7, .slice A n cp), (0, .int .i64 (lstF a v k))]) (fun k => []) (fun k => k ≤ n) (fun k => n - k) 0 fs9 ?_ ?_ ?_
 exact ks9
 exact Nat.zero_le _
 rintro k hk Z0 hZ0
 refine TW.seq fun Y4 hY4 => TW.region ?_
 refine TL.p Pu.lt ?_
 refine TL.nil (TQ.thenN (hY4 _ _ ?_))
 refine TW.seq fun Y5 hY5 => ?_
 refine TW.cond rfl (fun hc0 => ?_) (fun hc0 => ?_)
 try simp only [zcb9] at hc0
 have hkn : k < n := by omega
 refine TW.skip ?_
 refine TQ.thenN (hY5 _ _ ?_)
 refine TW.seq fun Y6 hY6 => ?_
 refine TW.block ?_
 refine TW.seq fun Y7 hY7 => TW.region ?_
 refine TL.p (Pu.el ty_et31) ?_
 refine TL.p (Pu.ld ty_sc3) ?_
 refine TL.p Pu.as ?_
 refine TL.nil (TQ.thenN (hY7 _ _ ?_))
 refine TW.region ?_
 refine TL.p Pu.mv ?_
 refine TL.p Pu.mv ?_
 refine TL.p Pu.mn ?_
 refine TL.p Pu.as ?_
 refine TL.nil ?_
 refine TQ.blkN ?_
 refine TQ.thenN (hY6 _ _ ?_)
 refine TW.region ?_
 refine TL.p Pu.ad ?_
 refine TL.p Pu.mv ?_
 refine TL.nil ?_
 refine TQ.thenN (hZ0 (k + 1) _ _ ?_ ?_ fs9 ?_)
 exact (by omega)
 exact zom9
 exact ks9
 try simp only [zcb9] at hc0
 obtain rfl : k = n := by omega
 refine TW.exit ?_
 refine TQ.thenX ?_
 refine TQ.thenX ?_
 refine TQ.blkX ?_
 refine TQ.thenN (hY2 _ _ ?_)
 refine TW.seq fun Y8 hY8 => TW.region ?_
 refine TL.p Pu.mv ?_
 refine TL.p Pu.as ?_
 refine TL.nil (TQ.thenN (hY8 _ _ ?_))
 refine TW.ret ?_
 refine TQ.ret Tryz.results124 rfl ((.tmp rfl .nil)) ?_
 exact fun w hw => Ret.of hw
end
end Go.Proofs.YtfaenhhgkhcghaaGreatDoor
namespace Go.Proofs.YtfaenhhgkhcghaaGreatDoor
set_option linter.all false
set_option linter.unusedVariables false
set_option linter.unusedSimpArgs false
open Go.RowKit
def rulV (Z : Cus) (k : Nat) : Value :=
 if k < Z.nc then .iface 116 (.agg (claimL (Z.c k)).toArray)
 else if k < Z.nc + Z.nd then .iface 119 (.agg (feudL (Z.d (k - Z.nc))).toArray)
 else .iface 122 (.agg (borderL (Z.b (k - Z.nc - Z.nd))).toArray)
def rulA (Z : Cus) (k : Nat) : Int := if k < Z.nc then (Z.c k).1 2 else if k < Z.nc + Z.nd then Z.d (k - Z.nc) 2 else Z.b (k - Z.nc - Z.nd) 1
def rulE (Z : Cus) (k : Nat) : Int := if k < Z.nc then (Z.c k).1 3 else if k < Z.nc + Z.nd then Z.d (k - Z.nc) 3 else Z.b (k - Z.nc - Z.nd) 2
theorem rul_meth (Z : Cus) (k : Nat) : ∃ (Ty : TypeId) (u : Value) (f : FuncId), rulV Z k = .iface Ty u ∧ Meth Tryz.prog Ty "azalai/toll.days" f ∧ Enters Tryz.prog f ∧ ∀ w, Calls Tryz.prog f #[u] w (Ret w (.tuple #[.int .i64 (rulA Z k), .int .i64 (rulE Z k)])) := by
 unfold rulV rulA rulE
 by_cases h1 : k < Z.nc
 · simp only [if_pos h1]
   exact ⟨_, _, _, rfl, claimMeth, enters Tryz.func188 rfl rfl, fun w => claimDays_any _ w⟩
 · simp only [if_neg h1]
   by_cases h2 : k < Z.nc + Z.nd
   · simp only [if_pos h2]
     exact ⟨_, _, _, rfl, feudMeth, enters Tryz.func189 rfl rfl, fun w => feudDays_any _ w⟩
   · simp only [if_neg h2]
     exact ⟨_, _, _, rfl, borderMeth, enters Tryz.func190 rfl rfl, fun w => borderDays_any _ w⟩
theorem rulE_bd {Z : Cus} (hok : CusOk Z) {k : Nat} (hk : k < Z.nc + Z.nd + Z.nb) : 0 ≤ rulE Z k ∧ rulE Z k ≤ 100000 := by
 unfold rulE
 split
 · have := hok.c k (by omega); omega
 · split
   · have := hok.d (k - Z.nc) (by omega); omega
   · have := hok.b (k - Z.nc - Z.nd) (by omega); omega
theorem prs_add {f g : Nat → Int} {m : Nat} : ∀ n, prsL f g (m + n) = prsL f g m ++ prsL (fun k => f (m + k)) (fun k => g (m + k)) n
 | 0 => by simp [prsL]
 | n + 1 => by
  show prsL f g (m + n) ++ [f (m + n), g (m + n)] = _
  rw [prs_add n]
  simp [prsL]
theorem prs_congr {f g f' g' : Nat → Int} : ∀ n, (∀ k, k < n → f k = f' k ∧ g k = g' k) → prsL f g n = prsL f' g' n
 | 0, _ => rfl
 | n + 1, h => by
  simp only [prsL]
  rw [prs_congr n fun k hk => h k (by omega), (h n (by omega)).1, (h n (by omega)).2]
def rulP (Z : Cus) (lo : Int) (k : Nat) : List Int := ([lo] : List Int) ++ prsL (rulA Z) (fun k => rulE Z k + 1) k
theorem rulP_s {Z : Cus} {lo : Int} {k : Nat} : rulP Z lo (k + 1) = rulP Z lo k ++ [rulA Z k, rulE Z k + 1] := by simp [rulP, prsL]
theorem rulP_len {Z : Cus} {lo : Int} {k : Nat} : (rulP Z lo k).length = 1 + 2 * k := by simp [rulP, prs_len]; omega
theorem rulP_all {Z : Cus} {lo : Int} : rulP Z lo (Z.nc + Z.nd + Z.nb) = rulZ Z lo := by
 unfold rulP rulZ rulL
 rw [prs_add, prs_add]
 have e1 : prsL (rulA Z) (fun k => rulE Z k + 1) Z.nc = prsL (fun k => (Z.c k).1 2) (fun k => (Z.c k).1 3 + 1) Z.nc := prs_congr _ fun k hk => by
  unfold rulA rulE; rw [if_pos hk, if_pos hk]; exact ⟨rfl, rfl⟩
 have e2 : prsL (fun k => rulA Z (Z.nc + k)) (fun k => rulE Z (Z.nc + k) + 1) Z.nd = prsL (fun k => Z.d k 2) (fun k => Z.d k 3 + 1) Z.nd := prs_congr _ fun k hk => by
  unfold rulA rulE
  rw [if_neg (by omega), if_pos (by omega), if_neg (by omega), if_pos (by omega), show Z.nc + k - Z.nc = k by omega]; exact ⟨rfl, rfl⟩
 have e3 : prsL (fun k => rulA Z (Z.nc + Z.nd + k)) (fun k => rulE Z (Z.nc + Z.nd + k) + 1) Z.nb = prsL (fun k => Z.b k 1) (fun k => Z.b k 2 + 1) Z.nb := prs_congr _ fun k hk => by
  unfold rulA rulE
  rw [if_neg (by omega), if_neg (by omega), if_neg (by omega), if_neg (by omega), show Z.nc + Z.nd + k - Z.nc - Z.nd = k by omega]; exact ⟨rfl, rfl⟩
 rw [e1, e2, e3]
 simp only [List.append_assoc]
theorem filter_takeT {L : List Int} {p : Int → Bool} {k : Nat} (h : k < L.length) : (L.take (k + 1)).filter p = if p (L.getD k 0) = true then (L.take k).filter p ++ [L.getD k 0] else (L.take k).filter p := by
 rw [take_succ h, List.filter_append]
 by_cases hp : p (L.getD k 0) = true
 · rw [if_pos hp]; simp only [List.filter_cons, hp, if_true, List.filter_nil]
 · rw [if_neg hp]; simp only [List.filter_cons, hp, Bool.false_eq_true, if_false, List.filter_nil, List.append_nil]
theorem filter_at {L : List Int} {p : Int → Bool} {k : Nat} (h : k < L.length) (hp : p (L.getD k 0) = true) : ((L.take k).filter p).length < (L.filter p).length ∧ (L.filter p).getD ((L.take k).filter p).length 0 = L.getD k 0 := by
 have e : L.filter p = (L.take (k + 1)).filter p ++ (L.drop (k + 1)).filter p := by rw [← List.filter_append, List.take_append_drop]
 rw [filter_takeT h, if_pos hp] at e
 rw [e]
 refine ⟨by simp only [List.length_append, List.length_cons]; omega, ?_⟩
 simp [List.getD_eq_getElem?_getD]
def cdA (Z : Cus) (lo : Int) : List Int := cmpL (srt (rulZ Z lo))
theorem cdA_len {Z : Cus} {lo : Int} (h1 : Z.nc ≤ 30) (h2 : Z.nd ≤ 20) (h3 : Z.nb ≤ 20) : (cdA Z lo).length ≤ 6001 := by
 have := cmpL_le (srt (rulZ Z lo))
 rw [srt_len] at this
 exact Nat.le_trans this (rulZ_len (by omega) (by omega) (by omega))
def cdZ (Z : Cus) (lo hi : Int) : List Int := (cdA Z lo).filter (inB5 lo hi)
theorem cdZ_mem {Z : Cus} {lo hi t : Int} : t ∈ tuD Z lo hi ↔ t ∈ cdZ Z lo hi := tu_cd
section
variable {Z : Cus} {C D B : Option Addr} {cc cd cb : Nat} {w : World}
def chgM (C : Option Addr) (cc : Nat) (D : Option Addr) (cd : Nat) (B : Option Addr) (cb : Nat) (Z : Cus) (lo hi : Int) (x : Nat × Nat × Nat) : List Fact := [.blk x.1 30 (custL C Z.nc cc D Z.nd cd B Z.nb cb), .blk x.2.1 3 [.int .i64 lo], .blk x.2.2 3 [.int .i64 hi]]
theorem cChanges_any (lo hi : Int) : CallsK Tryz.prog 120 #[.agg (custL C Z.nc cc D Z.nd cd B Z.nb cb).toArray, .int .i64 lo, .int .i64 hi] [] w (Nat × Nat × Nat) (fun y => .func (.func 147) #[] #[.pointer (some ⟨y.1, 0, none⟩), .pointer (some ⟨y.2.1, 0, none⟩), .pointer (some ⟨y.2.2, 0, none⟩)]) (fun y => chgM C cc D cd B cb Z lo hi y) := by
 unfold chgM custL
 refine K_enter (S := []) (K := []) Tryz.func120 rfl Tryz.ntmps120 rfl (Sat.start _) ?_
 refine TW.seq fun Y1 hY1 => TW.region ?_
 refine TL.m Mk.bx ?_
 intro b1
 refine TL.m Mk.bx ?_
 intro b2
 refine TL.m Mk.bx ?_
 intro b3
 refine TL.p Pu.as ?_
 refine TL.nil (TQ.thenN (hY1 _ _ ?_))
 refine TW.seq fun Y2 hY2 => TW.region ?_
 refine TL.p Pu.fn ?_
 refine TL.p Pu.as ?_
 refine TL.nil (TQ.thenN (hY2 _ _ ?_))
 refine TW.ret ?_
 refine TQ.ret Tryz.results120 rfl ((.tmp rfl .nil)) ?_
 exact fun w hw => ⟨(b1, b2, b3), rfl, hw.sub ks9⟩
def chgY (Z : Cus) (lo hi : Int) (x : Nat × Nat × Nat) (g : Option Addr × Nat) : List Fact := [.own g.1 (cdA Z lo).length g.2 3 1 (iL (cdA Z lo)), .blk x.2.1 3 [.int .i64 lo], .blk x.2.2 3 [.int .i64 hi]]
set_option maxRecDepth 100000 in
set_option maxHeartbeats 4000000 in
theorem changes1_iter {x : Nat × Nat × Nat} {lo hi : Int} {S : List Nat} {W0 : World} {R : Type} {J : Nat → R → List Fact} (hok : CusOk Z) (h : CustIn W0 C Z.nc D Z.nd B Z.nb Z.c Z.d Z.b) (aC : Apart S C) (aD : Apart S D) (aB : Apart S B) :
  IterR Tryz.prog 147 [.pointer (some ⟨x.1, 0, none⟩), .pointer (some ⟨x.2.1, 0, none⟩), .pointer (some ⟨x.2.2, 0, none⟩)] (chgM C cc D cd B cb Z lo hi x) (Option Addr × Nat) (fun q _ => [.int .i64 ((cdZ Z lo hi).getD q 0)]) (fun _ g => chgY Z lo hi x g) (fun _ g => chgY Z lo hi x g) (cdZ Z lo hi).length [] S W0 R J := by
 intro lY Rx Jx r0 w9 hS hround
 have hRC := h.hC
 have hRD := h.hD
 have hRB := h.hB
 have h1 := hok.nc
 have h2 := hok.nd
 have h3 := hok.nb
 have hcd := cdA_len (lo := lo) h1 h2 h3
 obtain ⟨bc, bf, bt⟩ := x
 unfold chgM custL at hS
 unfold chgY at hround
 simp only at hS hround ⊢
 refine K_enterW (S := S) (K := .blk bc 30 [.slice C Z.nc cc, .slice D Z.nd cd, .slice B Z.nb cb] :: .blk bf 3 [.int .i64 lo] :: .blk bt 3 [.int .i64 hi] :: J 0 r0) Tryz.func147 rfl Tryz.ntmps147 rfl hS ?_
 refine TW.seq fun Y1 hY1 => TW.region ?_
 refine TL.p Pu.as ?_
 refine TL.nil (TQ.thenN (hY1 _ _ ?_))
 refine TW.seq fun Y2 hY2 => ?_
 refine TW.seq fun Y3 hY3 => TW.region ?_
 refine TL.p (by first | exact Pu.fb ty_fa30_0 | exact Pu.fe ty_fa30_0) ?_
 refine TL.p (by first | exact (Pu.ld ty_sc26) | exact (Pu.ldo ty_sc26)) ?_
 refine TL.p (Pu.ln Tryz.underlying26) ?_
 refine TL.p Pu.mv ?_
 refine TL.nil (TQ.thenN (hY3 _ _ ?_))
 refine TW.block ?_
 refine TW.loop3 (fun (k : Nat) (E : Option Addr) (ce : Nat) => [(22, .int .i64 (k : Int)), (21, .int .i64 (Z.nc : Int)), (20, .slice C Z.nc cc), (5, .slice E k ce), (0, .func (.yield lY) #[] #[]), (1, .pointer (some ⟨bc, 0, none⟩)), (2, .pointer (some ⟨bf, 0, none⟩)), (3, .pointer (some ⟨bt, 0, none⟩))]) (fun k E ce => .own E k ce 176 1 (fun k => [rulV Z k]) :: .blk bc 30 [.slice C Z.nc cc, .slice D Z.nd cd, .slice B Z.nb cb] :: .blk bf 3 [.int .i64 lo] :: .blk bt 3 [.int .i64 hi] :: J 0 r0) (fun k E ce => k ≤ Z.nc) (fun k E ce => Z.nc - k) 0 none 0 fs9 ?_ ?_ ?_
 exact KSub.nilOwn (KSub.refl _)
 exact Nat.zero_le _
 rintro k E ce hk Z0 hZ0
 refine TW.seq fun Y4 hY4 => TW.region ?_
 refine TL.p Pu.lt ?_
 refine TL.nil (TQ.thenN (hY4 _ _ ?_))
 refine TW.seq fun Y5 hY5 => ?_
 refine TW.cond rfl (fun hc0 => ?_) (fun hc0 => ?_)
 try simp only [zcb9] at hc0
 have hkn : k < Z.nc := by omega
 refine TW.skip ?_
 refine TQ.thenN (hY5 _ _ ?_)
 refine TW.seq fun Y6 hY6 => ?_
 refine TW.block ?_
 refine TW.seq fun Y7 hY7 => TW.region ?_
 refine TL.p (Pu.el ty_et26) ?_
 refine TL.p (by first | exact (Pu.lds ty_ag70) | exact (Pu.ldso ty_ag70)) ?_
 refine TL.m (Mk.al ty_zr70) ?_
 intro b1
 first | refine TL.st ty_sz70 ?_ | refine TL.se ty_sz70 ?_
 refine TL.nil (TQ.thenN (hY7 _ _ ?_))
 refine TW.region ?_
 refine TL.p Pu.mv ?_
 refine TL.p (by first | exact (Pu.lds ty_ag70) | exact (Pu.ldso ty_ag70)) ?_
 refine TL.p Pu.fc ?_
 refine TL.m Mk.bl ?_
 intro b2
 first | refine TL.a0 ty_et211 ?_ | refine TL.ap ty_et211 ?_
 intro A3 c3
 refine TL.p Pu.as ?_
 refine TL.nil ?_
 refine TQ.blkN ?_
 refine TQ.thenN (hY6 _ _ ?_)
 refine TW.region ?_
 refine TL.p Pu.ad ?_
 refine TL.p Pu.mv ?_
 refine TL.nil ?_
 refine TQ.thenN (hZ0 (k + 1) _ _ _ _ ?_ ?_ fs9 ?_)
 exact (by omega)
 exact zom9
 exact KSub.own pk9 (stp_row (r := fun k => [rulV Z k]) (by show _ = [rulV Z k]; unfold rulV; rw [if_pos hkn]; rfl)) (KSub.cons pk9 (KSub.cons pk9 (KSub.cons pk9 (by first | exact KSub.refl _ | exact KSub.drop (KSub.refl _) | exact KSub.drop (KSub.drop (KSub.refl _))))))
 try simp only [zcb9] at hc0
 obtain rfl : k = Z.nc := by omega
 refine TW.exit ?_
 refine TQ.thenX ?_
 refine TQ.thenX ?_
 refine TQ.blkX ?_
 refine TQ.thenN (hY2 _ _ ?_)
 refine TW.seq fun Y8 hY8 => ?_
 refine TW.seq fun Y9 hY9 => TW.region ?_
 refine TL.p (by first | exact Pu.fb ty_fa30_1 | exact Pu.fe ty_fa30_1) ?_
 refine TL.p (by first | exact (Pu.ld ty_sc27) | exact (Pu.ldo ty_sc27)) ?_
 refine TL.p (Pu.ln Tryz.underlying27) ?_
 refine TL.p Pu.mv ?_
 refine TL.nil (TQ.thenN (hY9 _ _ ?_))
 refine TW.block ?_
 refine TW.loop3 (fun (k : Nat) (E : Option Addr) (ce : Nat) => [(35, .int .i64 (k : Int)), (34, .int .i64 (Z.nd : Int)), (33, .slice D Z.nd cd), (5, .slice E (Z.nc + k) ce), (0, .func (.yield lY) #[] #[]), (1, .pointer (some ⟨bc, 0, none⟩)), (2, .pointer (some ⟨bf, 0, none⟩)), (3, .pointer (some ⟨bt, 0, none⟩))]) (fun k E ce => .own E (Z.nc + k) ce 176 1 (fun k => [rulV Z k]) :: .blk bc 30 [.slice C Z.nc cc, .slice D Z.nd cd, .slice B Z.nb cb] :: .blk bf 3 [.int .i64 lo] :: .blk bt 3 [.int .i64 hi] :: J 0 r0) (fun k E ce => k ≤ Z.nd) (fun k E ce => Z.nd - k) 0 E ce fs9 ?_ ?_ ?_
 exact KSub.refl _
 exact Nat.zero_le _
 rintro k E ce hk Z1 hZ1
 refine TW.seq fun Y10 hY10 => TW.region ?_
 refine TL.p Pu.lt ?_
 refine TL.nil (TQ.thenN (hY10 _ _ ?_))
 refine TW.seq fun Y11 hY11 => ?_
 refine TW.cond rfl (fun hc1 => ?_) (fun hc1 => ?_)
 try simp only [zcb9] at hc1
 have hkn : k < Z.nd := by omega
 refine TW.skip ?_
 refine TQ.thenN (hY11 _ _ ?_)
 refine TW.seq fun Y12 hY12 => ?_
 refine TW.block ?_
 refine TW.seq fun Y13 hY13 => TW.region ?_
 refine TL.p (Pu.el ty_et27) ?_
 refine TL.p (by first | exact (Pu.lds ty_ag109) | exact (Pu.ldso ty_ag109)) ?_
 refine TL.m (Mk.al ty_zr109) ?_
 intro b4
 first | refine TL.st ty_sz109 ?_ | refine TL.se ty_sz109 ?_
 refine TL.nil (TQ.thenN (hY13 _ _ ?_))
 refine TW.region ?_
 refine TL.p Pu.mv ?_
 refine TL.p (by first | exact (Pu.lds ty_ag109) | exact (Pu.ldso ty_ag109)) ?_
 refine TL.p Pu.fc ?_
 refine TL.m Mk.bl ?_
 intro b5
 first | refine TL.a0 ty_et211 ?_ | refine TL.ap ty_et211 ?_
 intro A6 c6
 refine TL.p Pu.as ?_
 refine TL.nil ?_
 refine TQ.blkN ?_
 refine TQ.thenN (hY12 _ _ ?_)
 refine TW.region ?_
 refine TL.p Pu.ad ?_
 refine TL.p Pu.mv ?_
 refine TL.nil ?_
 refine TQ.thenN (hZ1 (k + 1) _ _ _ _ ?_ ?_ fs9 ?_)
 exact (by omega)
 exact zom9
 exact KSub.own pk9 (stp_row (r := fun k => [rulV Z k]) (by show _ = [rulV Z (Z.nc + k)]; unfold rulV; rw [if_neg (by omega), if_pos (by omega), show Z.nc + k - Z.nc = k by omega]; rfl)) (KSub.cons pk9 (KSub.cons pk9 (KSub.cons pk9 (by first | exact KSub.refl _ | exact KSub.drop (KSub.refl _) | exact KSub.drop (KSub.drop (KSub.refl _))))))
 try simp only [zcb9] at hc1
 obtain rfl : k = Z.nd := by omega
 refine TW.exit ?_
 refine TQ.thenX ?_
 refine TQ.thenX ?_
 refine TQ.blkX ?_
 refine TQ.thenN (hY8 _ _ ?_)
 refine TW.seq fun Y14 hY14 => ?_
 refine TW.seq fun Y15 hY15 => TW.region ?_
 refine TL.p (by first | exact Pu.fb ty_fa30_2 | exact Pu.fe ty_fa30_2) ?_
 refine TL.p (by first | exact (Pu.ld ty_sc28) | exact (Pu.ldo ty_sc28)) ?_
 refine TL.p (Pu.ln Tryz.underlying28) ?_
 refine TL.p Pu.mv ?_
 refine TL.nil (TQ.thenN (hY15 _ _ ?_))
 refine TW.block ?_
 refine TW.loop3 (fun (k : Nat) (E : Option Addr) (ce : Nat) => [(48, .int .i64 (k : Int)), (47, .int .i64 (Z.nb : Int)), (46, .slice B Z.nb cb), (5, .slice E (Z.nc + Z.nd + k) ce), (0, .func (.yield lY) #[] #[]), (2, .pointer (some ⟨bf, 0, none⟩)), (3, .pointer (some ⟨bt, 0, none⟩))]) (fun k E ce => .own E (Z.nc + Z.nd + k) ce 176 1 (fun k => [rulV Z k]) :: .blk bf 3 [.int .i64 lo] :: .blk bt 3 [.int .i64 hi] :: J 0 r0) (fun k E ce => k ≤ Z.nb) (fun k E ce => Z.nb - k) 0 E ce fs9 ?_ ?_ ?_
 exact KSub.cons pk9 (KSub.cons pk9 (KSub.cons pk9 (KSub.drop (KSub.refl _))))
 exact Nat.zero_le _
 rintro k E ce hk Z2 hZ2
 refine TW.seq fun Y16 hY16 => TW.region ?_
 refine TL.p Pu.lt ?_
 refine TL.nil (TQ.thenN (hY16 _ _ ?_))
 refine TW.seq fun Y17 hY17 => ?_
 refine TW.cond rfl (fun hc2 => ?_) (fun hc2 => ?_)
 try simp only [zcb9] at hc2
 have hkn : k < Z.nb := by omega
 refine TW.skip ?_
 refine TQ.thenN (hY17 _ _ ?_)
 refine TW.seq fun Y18 hY18 => ?_
 refine TW.block ?_
 refine TW.seq fun Y19 hY19 => TW.region ?_
 refine TL.p (Pu.el ty_et28) ?_
 refine TL.p (by first | exact (Pu.lds ty_ag72) | exact (Pu.ldso ty_ag72)) ?_
 refine TL.m (Mk.al ty_zr72) ?_
 intro b7
 first | refine TL.st ty_sz72 ?_ | refine TL.se ty_sz72 ?_
 refine TL.nil (TQ.thenN (hY19 _ _ ?_))
 refine TW.region ?_
 refine TL.p Pu.mv ?_
 refine TL.p (by first | exact (Pu.lds ty_ag72) | exact (Pu.ldso ty_ag72)) ?_
 refine TL.p Pu.fc ?_
 refine TL.m Mk.bl ?_
 intro b8
 first | refine TL.a0 ty_et211 ?_ | refine TL.ap ty_et211 ?_
 intro A9 c9
 refine TL.p Pu.as ?_
 refine TL.nil ?_
 refine TQ.blkN ?_
 refine TQ.thenN (hY18 _ _ ?_)
 refine TW.region ?_
 refine TL.p Pu.ad ?_
 refine TL.p Pu.mv ?_
 refine TL.nil ?_
 refine TQ.thenN (hZ2 (k + 1) _ _ _ _ ?_ ?_ fs9 ?_)
 exact (by omega)
 exact zom9
 exact KSub.own pk9 (stp_row (r := fun k => [rulV Z k]) (by show _ = [rulV Z (Z.nc + Z.nd + k)]; unfold rulV; rw [if_neg (by omega), if_neg (by omega), show Z.nc + Z.nd + k - Z.nc - Z.nd = k by omega]; rfl)) (KSub.cons pk9 (KSub.cons pk9 (by first | exact KSub.refl _ | exact KSub.drop (KSub.refl _) | exact KSub.drop (KSub.drop (KSub.refl _)))))
 try simp only [zcb9] at hc2
 obtain rfl : k = Z.nb := by omega
 refine TW.exit ?_
 refine TQ.thenX ?_
 refine TQ.thenX ?_
 refine TQ.blkX ?_
 refine TQ.thenN (hY14 _ _ ?_)
 refine TW.seq fun Y20 hY20 => TW.region ?_
 refine TL.p (by first | exact (Pu.ld ty_sc3) | exact (Pu.ldo ty_sc3)) ?_
 refine TL.m Mk.bl ?_
 intro b10
 refine TL.p Pu.as ?_
 refine TL.nil (TQ.thenN (hY20 _ _ ?_))
 refine TW.seq fun Y21 hY21 => ?_
 refine TW.seq fun Y22 hY22 => TW.region ?_
 refine TL.p Pu.mv ?_
 refine TL.p (Pu.ln Tryz.underlying211) ?_
 refine TL.p Pu.mv ?_
 refine TL.nil (TQ.thenN (hY22 _ _ ?_))
 refine TW.block ?_
 refine TW.loop5 (fun (k : Nat) (A : Option Addr) (ca : Nat) (L : List Int) (m : Nat) => [(62, .int .i64 (k : Int)), (61, .int .i64 ((Z.nc + Z.nd + Z.nb : Nat) : Int)), (60, .slice E (Z.nc + Z.nd + Z.nb) ce), (12, .slice A m ca), (0, .func (.yield lY) #[] #[]), (2, .pointer (some ⟨bf, 0, none⟩)), (3, .pointer (some ⟨bt, 0, none⟩))]) (fun k A ca L m => .own A m ca 3 1 (iL L) :: .own E (Z.nc + Z.nd + Z.nb) ce 176 1 (fun k => [rulV Z k]) :: .blk bf 3 [.int .i64 lo] :: .blk bt 3 [.int .i64 hi] :: J 0 r0) (fun k A ca L m => k ≤ Z.nc + Z.nd + Z.nb ∧ L = rulP Z lo k ∧ m = L.length) (fun k A ca L m => Z.nc + Z.nd + Z.nb - k) 0 _ _ (rulP Z lo 0) 1 fs9 ?_ ?_ ?_
 exact KSub.ofBlk pk9 rfl (fun _ _ => rfl) rfl rfl (KSub.cons pk9 (KSub.cons pk9 (KSub.cons pk9 (KSub.refl _))))
 exact ⟨Nat.zero_le _, rfl, rfl⟩
 rintro k A ca L m ⟨hk, hL, hm⟩ Z3 hZ3
 have hL9 := hidT hL
 have hmb : m ≤ 10000 := by rw [hm, hL, rulP_len]; omega
 clear hL
 obtain ⟨Ty, uV, fM, hv, hmt, hen, hdy⟩ := rul_meth Z k
 replace hv := hidT hv
 refine TW.seq fun Y23 hY23 => TW.region ?_
 refine TL.p Pu.lt ?_
 refine TL.nil (TQ.thenN (hY23 _ _ ?_))
 refine TW.seq fun Y24 hY24 => ?_
 refine TW.cond rfl (fun hc3 => ?_) (fun hc3 => ?_)
 try simp only [zcb9] at hc3
 have hkn : k < Z.nc + Z.nd + Z.nb := by omega
 have hbd := rulE_bd hok hkn
 refine TW.skip ?_
 refine TQ.thenN (hY24 _ _ ?_)
 refine TW.seq fun Y25 hY25 => ?_
 refine TW.block ?_
 refine TW.seq fun Y26 hY26 => TW.region ?_
 refine TL.p (Pu.el ty_et211) ?_
 refine TL.p (by first | exact (Pu.ld ty_sc176) | exact (Pu.ldo ty_sc176)) ?_
 refine TL.p Pu.as ?_
 refine TL.nil (TQ.thenN (hY26 _ _ ?_))
 refine TW.seq fun Y27 hY27 => TW.region ?_
 refine TL.p Pu.mv ?_
 rw [hv.out]
 refine TL.iv rfl rfl hmt hen (fun w hw => by
   exact hdy _) ?_
 refine TL.p Pu.mv ?_
 refine TL.p Pu.ex ?_
 refine TL.p Pu.ex ?_
 refine TL.p Pu.as ?_
 refine TL.p Pu.as ?_
 refine TL.nil (TQ.thenN (hY27 _ _ ?_))
 refine TW.region ?_
 refine TL.p Pu.mv ?_
 refine TL.p Pu.mv ?_
 refine TL.p Pu.mv ?_
 refine TL.p Pu.ad ?_
 refine TL.m Mk.bl ?_
 intro b11
 refine TL.obn (b := b11) (n := 2) (sz := 1) (r := iL [rulA Z k, rulE Z k + 1]) pk9 rfl (fun _ _ => rfl) ?_
 first | refine TL.a0 ty_et31 ?_ | refine TL.ap ty_et31 ?_
 intro A12 c12
 refine TL.p Pu.as ?_
 refine TL.nil ?_
 refine TQ.blkN ?_
 refine TQ.thenN (hY25 _ _ ?_)
 refine TW.region ?_
 refine TL.p Pu.ad ?_
 refine TL.p Pu.mv ?_
 refine TL.nil ?_
 refine TQ.thenN (hZ3 (k + 1) _ _ (rulP Z lo (k + 1)) _ _ _ ?_ ?_ fs9 ?_)
 exact ⟨by omega, rfl, by rw [hm, hL9.out, rulP_len, rulP_len]; omega⟩
 exact zom9
 exact KSub.own Pick.hd (iL_app2 hm (by rw [rulP_s, ← hL9.out]; rfl) rfl rfl) (by exact KSub.cons pk9 (KSub.cons pk9 (KSub.cons pk9 (by first | exact KSub.refl _ | exact KSub.drop (KSub.refl _) | exact KSub.drop (KSub.drop (KSub.refl _))))))
 try simp only [zcb9] at hc3
 have hkn : k = Z.nc + Z.nd + Z.nb := by omega
 have hLZ := hidT (show L = rulZ Z lo by rw [hL9.out, hkn]; exact rulP_all)
 have hm9 := hidT hm
 refine TW.exit ?_
 refine TQ.thenX ?_
 refine TQ.thenX ?_
 refine TQ.blkX ?_
 refine TQ.thenN (hY21 _ _ ?_)
 refine TW.seq fun Y28 hY28 => TW.region ?_
 refine TL.p Pu.mv ?_
 refine TL.call rfl (enters Tryz.func148 rfl rfl) (M := [.own A m ca 3 1 (iL L)]) (List.Perm.refl _) rfl (fun w hw => by
   exact sortT_any hm9.out (by omega) (hw.holds (.own A m ca 3 1 (iL L)) (by simp))) ?_
 rintro ⟨⟩
 refine TL.nil (TQ.thenN (hY28 _ _ ?_))
 refine TW.seq fun Y29 hY29 => TW.region ?_
 refine TL.p Pu.mv ?_
 refine TL.call rfl (enters Tryz.func139 rfl rfl) (M := [.own A m ca 3 1 (iL (srt L))]) (List.Perm.refl _) rfl (fun w hw => by
   exact compact_any (by rw [srt_len]; exact hm9.out) (by omega) (hw.holds (.own A m ca 3 1 (iL (srt L))) (by simp))) ?_
 rintro ⟨⟩
 refine TL.p (Pu.ln Tryz.underlying31) ?_
 refine TL.p Pu.mv ?_
 refine TL.nil (TQ.thenN (hY29 _ _ ?_))
 refine TW.block ?_
 rw [hLZ.out]
 refine TW.loop2 (fun (k : Nat) (r : R) => [(83, .int .i64 (k : Int)), (82, .int .i64 ((cdA Z lo).length : Int)), (81, .slice A (cdA Z lo).length ca), (0, .func (.yield lY) #[] #[]), (2, .pointer (some ⟨bf, 0, none⟩)), (3, .pointer (some ⟨bt, 0, none⟩))]) (fun k r => .own A (cdA Z lo).length ca 3 1 (iL (cdA Z lo)) :: .blk bf 3 [.int .i64 lo] :: .blk bt 3 [.int .i64 hi] :: J (((cdA Z lo).take k).filter (inB5 lo hi)).length r) (fun k r => k ≤ (cdA Z lo).length) (fun k r => (cdA Z lo).length - k) 0 r0 fs9 ?_ ?_ ?_
 exact KSub.cons pk9 (KSub.cons pk9 (KSub.cons pk9 (by first | exact KSub.refl _ | exact KSub.drop (KSub.refl _) | exact KSub.drop (KSub.drop (KSub.refl _)))))
 exact Nat.zero_le _
 rintro k r hk Z4 hZ4
 refine TW.seq fun Y30 hY30 => TW.region ?_
 refine TL.p Pu.lt ?_
 refine TL.nil (TQ.thenN (hY30 _ _ ?_))
 refine TW.seq fun Y31 hY31 => ?_
 refine TW.cond rfl (fun hc4 => ?_) (fun hc4 => ?_)
 try simp only [zcb9] at hc4
 have hkn : k < (cdA Z lo).length := by omega
 refine TW.skip ?_
 refine TQ.thenN (hY31 _ _ ?_)
 refine TW.seq fun Y32 hY32 => ?_
 refine TW.block ?_
 refine TW.seq fun Y33 hY33 => TW.region ?_
 refine TL.p (Pu.el ty_et31) ?_
 refine TL.p (by first | exact (Pu.ld ty_sc3) | exact (Pu.ldo ty_sc3)) ?_
 refine TL.p Pu.as ?_
 refine TL.nil (TQ.thenN (hY33 _ _ ?_))
 refine TW.seq fun Y34 hY34 => ?_
 refine TW.regionI ?_
 refine TLi.op (fun U1 hU1 => ?_) (by rintro ⟨_, _, h⟩; first | exact h | (obtain ⟨⟨_, h⟩, _⟩ := h; cases h) | cases h)
 refine TL.p Pu.mv ?_
 refine TL.nil ?_
 refine TQ.nxt (hU1 _ _ ?_)
 refine TLi.op (fun U2 hU2 => ?_) (by rintro ⟨_, _, h⟩; first | exact h | (obtain ⟨⟨_, h⟩, _⟩ := h; cases h) | cases h)
 refine TL.p (by first | exact (Pu.ld ty_sc3) | exact (Pu.ldo ty_sc3)) ?_
 refine TL.nil ?_
 refine TQ.nxt (hU2 _ _ ?_)
 refine TLi.op (fun U3 hU3 => ?_) (by rintro ⟨_, _, h⟩; first | exact h | (obtain ⟨⟨_, h⟩, _⟩ := h; cases h) | cases h)
 refine TL.p (by first | exact (Pu.ld ty_sc3) | exact (Pu.ldo ty_sc3)) ?_
 refine TL.nil ?_
 refine TQ.nxt (hU3 _ _ ?_)
 refine TLi.op (fun U4 hU4 => ?_) (by rintro ⟨_, _, h⟩; first | exact h | (obtain ⟨⟨_, h⟩, _⟩ := h; cases h) | cases h)
 refine TL.cr rfl (enters Tryz.func41 rfl rfl) (fun w hw => by
   exact in_any _ _ _ _) ?_
 refine TL.nil ?_
 refine TQ.nxt (hU4 _ _ ?_)
 refine TLi.op (fun U5 hU5 => ?_) (by rintro ⟨_, _, h⟩; first | exact h | (obtain ⟨⟨_, h⟩, _⟩ := h; cases h) | cases h)
 refine TL.p Pu.mv ?_
 refine TL.nil ?_
 refine TQ.nxt (hU5 _ _ ?_)
 refine TLi.guard (t := 91) rfl (fun hg1 => ?_) (fun hg1 => ?_)
 try simp only [zgb9] at hg1
 refine TLi.op (fun U6 hU6 => ?_) (by rintro ⟨_, _, h⟩; first | exact h | (obtain ⟨⟨_, h⟩, _⟩ := h; cases h) | cases h)
 refine TL.gd Pu.mv ?_
 refine TL.nil ?_
 refine TQ.nxt (hU6 _ _ ?_)
 refine TLi.op (fun U7 hU7 => ?_) (by rintro ⟨_, _, h⟩; first | exact h | (obtain ⟨⟨_, h⟩, _⟩ := h; cases h) | cases h)
 refine TL.gd Pu.mv ?_
 refine TL.nil ?_
 refine TQ.nxt (hU7 _ _ ?_)
 refine TLi.yi rfl rfl (fun w hw => by
   obtain ⟨hg2, hg3⟩ := filter_at hkn hg1
   have h9 := hround (((cdA Z lo).take k).filter (inB5 lo hi)).length (A, ca) r w hg2 hw
   unfold cdZ at h9
   simp only [hg3] at h9
   exact h9) ?_ ?_
 intro r
 refine TLi.op (fun U8 hU8 => ?_) (by rintro ⟨_, _, h⟩; first | exact h | (obtain ⟨⟨_, h⟩, _⟩ := h; cases h) | cases h)
 refine TL.gd Pu.no ?_
 refine TL.nil ?_
 refine TQ.nxt (hU8 _ _ ?_)
 refine TLi.op (fun U9 hU9 => ?_) (by rintro ⟨_, _, h⟩; first | exact h | (obtain ⟨⟨_, h⟩, _⟩ := h; cases h) | cases h)
 refine TL.p Pu.kt ?_
 refine TL.nil ?_
 refine TQ.nxt (hU9 _ _ ?_)
 refine TLi.nil ?_
 refine TQ.thenN (hY34 _ _ ?_)
 refine TW.condF rfl rfl ?_
 refine TW.skip ?_
 refine TQ.blkN ?_
 refine TQ.thenN (hY32 _ _ ?_)
 refine TW.region ?_
 refine TL.p Pu.ad ?_
 refine TL.p Pu.mv ?_
 refine TL.nil ?_
 have hft := filter_takeT (p := inB5 lo hi) hkn
 rw [hg1] at hft
 refine TQ.thenN (hZ4 (k + 1) r _ _ ?_ ?_ fs9 ?_)
 exact (by omega)
 exact zom9
 first
  | (rw [hft, if_pos rfl, List.length_append]; exact KSub.refl _)
  | (rw [hft, if_neg (by simp)]; exact KSub.refl _)
 intro x'
 refine TLi.op (fun U10 hU10 => ?_) (by rintro ⟨_, _, h⟩; first | exact h | (obtain ⟨⟨_, h⟩, _⟩ := h; cases h) | cases h)
 refine TL.gd Pu.no ?_
 refine TL.nil ?_
 refine TQ.nxt (hU10 _ _ ?_)
 refine TLi.op (fun U11 hU11 => ?_) (by rintro ⟨_, _, h⟩; first | exact h | (obtain ⟨⟨_, h⟩, _⟩ := h; cases h) | cases h)
 refine TL.p Pu.kt ?_
 refine TL.nil ?_
 refine TQ.nxt (hU11 _ _ ?_)
 refine TLi.nil ?_
 refine TQ.thenN (hY34 _ _ ?_)
 refine TW.condT rfl rfl ?_
 refine TW.ret ?_
 refine TQ.blkR ?_
 refine TQ.thenR ?_
 refine TQ.thenR ?_
 refine TQ.blkR ?_
 refine TQ.ret Tryz.results147 rfl (.nil) ?_
 exact fun w hw => ⟨⟨_, rfl⟩, .inr ⟨x', hw.sub (KSub.dropL _ (KSub.refl _))⟩⟩
 try simp only [zgb9] at hg1
 refine TLi.op (fun U12 hU12 => ?_) (by rintro ⟨_, _, h⟩; first | exact h | (obtain ⟨⟨_, h⟩, _⟩ := h; cases h) | cases h)
 refine TL.gs ?_
 refine TL.nil ?_
 refine TQ.nxt (hU12 _ _ ?_)
 refine TLi.op (fun U13 hU13 => ?_) (by rintro ⟨_, _, h⟩; first | exact h | (obtain ⟨⟨_, h⟩, _⟩ := h; cases h) | cases h)
 refine TL.gs ?_
 refine TL.nil ?_
 refine TQ.nxt (hU13 _ _ ?_)
 refine TLi.op (fun U14 hU14 => ?_) (by rintro ⟨_, _, h⟩; first | exact h | (obtain ⟨⟨_, h⟩, _⟩ := h; cases h) | cases h)
 refine TL.gs ?_
 refine TL.nil ?_
 refine TQ.nxt (hU14 _ _ ?_)
 refine TLi.op (fun U15 hU15 => ?_) (by rintro ⟨_, _, h⟩; first | exact h | (obtain ⟨⟨_, h⟩, _⟩ := h; cases h) | cases h)
 refine TL.gs ?_
 refine TL.nil ?_
 refine TQ.nxt (hU15 _ _ ?_)
 refine TLi.op (fun U16 hU16 => ?_) (by rintro ⟨_, _, h⟩; first | exact h | (obtain ⟨⟨_, h⟩, _⟩ := h; cases h) | cases h)
 refine TL.p Pu.kf ?_
 refine TL.nil ?_
 refine TQ.nxt (hU16 _ _ ?_)
 refine TLi.nil ?_
 refine TQ.thenN (hY34 _ _ ?_)
 refine TW.condF rfl rfl ?_
 refine TW.skip ?_
 refine TQ.blkN ?_
 refine TQ.thenN (hY32 _ _ ?_)
 refine TW.region ?_
 refine TL.p Pu.ad ?_
 refine TL.p Pu.mv ?_
 refine TL.nil ?_
 have hft := filter_takeT (p := inB5 lo hi) hkn
 rw [hg1] at hft
 refine TQ.thenN (hZ4 (k + 1) r _ _ ?_ ?_ fs9 ?_)
 exact (by omega)
 exact zom9
 first
  | (rw [hft, if_pos rfl, List.length_append]; exact KSub.refl _)
  | (rw [hft, if_neg (by simp)]; exact KSub.refl _)
 try simp only [zcb9] at hc4
 have hkn : k = (cdA Z lo).length := by omega
 refine TW.exit ?_
 refine TQ.thenX ?_
 refine TQ.thenX ?_
 refine TQ.blkX ?_
 refine TQ.end Tryz.results147 rfl (.nil) ?_
 exact fun w hw => ⟨⟨_, rfl⟩, .inl ⟨r, by rw [hkn, List.take_length] at hw; exact hw.sub (KSub.drop (KSub.drop (KSub.drop (KSub.refl _))))⟩⟩
end
end Go.Proofs.YtfaenhhgkhcghaaGreatDoor
namespace Go.Proofs.YtfaenhhgkhcghaaGreatDoor
set_option linter.all false
set_option linter.unusedVariables false
set_option linter.unusedSimpArgs false
open Go.RowKit
def barF : Nat → Nat
 | 1 => 192
 | 2 => 193
 | _ => 194
def barV : Nat → Value
 | 0 => Value.nilFunc
 | n + 1 => .func (.func (barF (n + 1))) #[] #[]
def barsL : List Value := [barV 0, barV 1, barV 2, barV 3]
theorem barV_s {i : Nat} (h : ¬ i = 0) : barV i = .func (.func (barF i)) #[] #[] := by
 cases i with
 | zero => exact absurd rfl h
 | succ i => rfl
def barB (Z : Cus) (T : Trp) (leg day : Int) : Nat → Bool
 | 0 => false
 | 1 => closZ Z leg day
 | 2 => hatZ Z T leg day
 | _ => losZ Z T leg day
set_option maxRecDepth 100000 in
theorem idxBar {i : Nat} (hi : i < 4) (w : World) : (Instr.index 197 (.agg barsL.toArray) (.int .i64 (i : Int))).run Tryz.prog w = .ok (barV i) w := by
 have : i = 0 ∨ i = 1 ∨ i = 2 ∨ i = 3 := by omega
 rcases this with rfl | rfl | rfl | rfl <;> (unfold barsL; go_simp; rfl)
set_option maxRecDepth 100000 in
theorem neBar (x y : Operand) {i : Nat} (hi : i < 4) (w : World) : (do eqGuard .neq 196 x y (barV i) Value.nilFunc; binOp .neq 196 (barV i) Value.nilFunc : Sem Value).run Tryz.prog w = .ok (.bool (!decide (i = 0))) w := by
 have : i = 0 ∨ i = 1 ∨ i = 2 ∨ i = 3 := by omega
 rcases this with rfl | rfl | rfl | rfl <;> (unfold barV; go_simp; try rfl)
set_option maxRecDepth 100000 in
theorem cvBar {i : Nat} (hi : i < 4) (w : World) : (convert 3 5 (.int .i64 (i : Int))).run Tryz.prog w = .ok (.int .u8 (i : Int)) w := by
 have : i = 0 ∨ i = 1 ∨ i = 2 ∨ i = 3 := by omega
 rcases this with rfl | rfl | rfl | rfl <;> (go_simp; try rfl)
def lesK (bs : Nat → Bool) (a : Int) : Nat → Int
 | 0 => a
 | i + 1 => lesV (bs i) i (lesK bs a i)
theorem les_four {Z : Cus} {T : Trp} {leg day a : Int} : lesK (barB Z T leg day) a 4 = if whyZ Z T leg day = 0 then a else min a (whyZ Z T leg day) := by
 unfold whyZ
 rw [← les_eq]
 rfl
theorem wc_snoc {f : Int → Int} {t : Int} : ∀ (L : List Int) (a : Int), wcK f (L ++ [t]) a = if f t = 0 then wcK f L a else min (wcK f L a) (f t)
 | [], a => rfl
 | x :: L, a => by
  show wcK f (L ++ [t]) _ = _
  rw [wc_snoc L]
  rfl
theorem wc_le {f : Int → Int} (hf : ∀ t, 0 ≤ f t ∧ f t ≤ 3) (L : List Int) : 0 ≤ wcK f L 255 ∧ wcK f L 255 ≤ 255 := by
 rcases wc_spec hf L 255 (.inl rfl) with ⟨h, _, _⟩ | ⟨h1, h2, _⟩ <;> omega
theorem lesK_bd {bs : Nat → Bool} {a : Int} (ha : 0 ≤ a ∧ a ≤ 255) : ∀ i, 0 ≤ lesK bs a i ∧ lesK bs a i ≤ 255
 | 0 => ha
 | i + 1 => by
  have := lesK_bd (bs := bs) ha i
  simp only [lesK, lesV]
  split <;> omega
section
variable {Z : Cus} {T : Trp} {C D B O U V S : Option Addr} {cc cd cb co cu cv n cs bt : Nat} {w : World}
theorem bar_calls {i : Nat} (h0 : ¬ i = 0) (h4 : i < 4) (leg day : Int) (hok : CusOk Z) (h : CustIn w C Z.nc D Z.nd B Z.nb Z.c Z.d Z.b) (t : TrpIn w T O U V) (ht : OldB w bt (trkL T O co U cu V cv Z C cc D cd B cb S n cs)) :
   Calls Tryz.prog (barF i) #[.pointer (some ⟨bt, 0, none⟩), .int .i64 leg, .int .i64 day] w (Ret w (.bool (barB Z T leg day i))) := by
 have : i = 1 ∨ i = 2 ∨ i = 3 := by omega
 rcases this with rfl | rfl | rfl
 · exact cClosed_any leg day h ht
 · exact cHated_any leg day hok h t ht
 · exact cLost_any leg day hok h t ht
theorem bar_enters {i : Nat} (h0 : ¬ i = 0) (h4 : i < 4) : Enters Tryz.prog (barF i) := by
 have : i = 1 ∨ i = 2 ∨ i = 3 := by omega
 rcases this with rfl | rfl | rfl
 · exact enters Tryz.func192 rfl rfl
 · exact enters Tryz.func193 rfl rfl
 · exact enters Tryz.func194 rfl rfl
set_option maxRecDepth 100000 in
set_option maxHeartbeats 4000000 in
theorem cBarred_any (s : Nat → Int) (hs : 0 ≤ s 5 ∧ s 5 ≤ 100001) (hok : CusOk Z) (h : CustIn w C Z.nc D Z.nd B Z.nb Z.c Z.d Z.b) (t : TrpIn w T O U V) (ht : OldB w bt (trkL T O co U cu V cv Z C cc D cd B cb S n cs)) (hG : OldB w 0 barsL) :
  Calls Tryz.prog 85 #[.pointer (some ⟨bt, 0, none⟩), .agg (stopL s).toArray] w (Ret w (.int .u8 (whyD Z T s))) := by
 have ht9 := ht
 unfold trkL at ht
 unfold stopL
 have fC := fun (w' : World) => cChanges_any (w := w') (C := C) (cc := cc) (D := D) (cd := cd) (B := B) (cb := cb) (Z := Z) (s 2) (s 5 - 1)
 unfold custL at fC
 have hwhy : ∀ t, 0 ≤ whyZ Z T (s 0) t ∧ whyZ Z T (s 0) t ≤ 3 := fun t => whyZ_bd
 refine K_enterM (S := []) (K := []) Tryz.func85 rfl Tryz.ntmps85 rfl (Sat.start _) ?_
 refine TW.seqD fun Y1 hY1 => ?_
 refine TW.region ?_
 refine TL.m Mk.bx ?_
 intro b1
 refine TL.m Mk.bx ?_
 intro b2
 refine TL.p Pu.as ?_
 refine TL.nil ?_
 refine TQ.thenN (hY1 _ _ _ ?_)
 refine TW.seqD fun Y2 hY2 => ?_
 refine TW.region ?_
 refine TL.m (Mk.al ty_zr5) ?_
 intro b3
 first | refine TL.st ty_sz5 ?_ | refine TL.se ty_sz5 ?_
 refine TL.nil ?_
 refine TQ.thenN (hY2 _ _ _ ?_)
 refine TW.seqD fun Y3 hY3 => ?_
 refine TW.seqD fun Y4 hY4 => ?_
 refine TW.np ?_
 refine TW.dw 12 ?_
 refine RK.tk (Pu.ld ty_sc76) ?_
 refine RK.tk (by first | exact Pu.nn | exact Pu.nc) ?_
 refine RK.tk (by first | exact Pu.fb ty_fa129_1 | exact Pu.fe ty_fa129_1) ?_
 refine RK.tk (Pu.ldso ty_ag30) ?_
 refine RK.tk (by first | exact Pu.fb ty_fa160_2 | exact Pu.fe ty_fa160_2) ?_
 refine RK.tk (by first | exact Pu.fb ty_fa36_0 | exact Pu.fe ty_fa36_0) ?_
 refine RK.tk (Pu.ld ty_sc3) ?_
 refine RK.tk (by first | exact Pu.fb ty_fa160_3 | exact Pu.fe ty_fa160_3) ?_
 refine RK.tk (by first | exact Pu.fb ty_fa36_1 | exact Pu.fe ty_fa36_1) ?_
 refine RK.tk (Pu.ld ty_sc3) ?_
 refine RK.tk Pu.sb ?_
 refine RK.keep ?_
 refine RK.ch [false] ?_ trivial
 refine WK.call rfl (enters Tryz.func120 rfl rfl) rfl (fun w hw => by
   exact fC _) ?_
 rintro x
 refine WK.n ?_
 refine TL.nil ?_
 refine TQ.npN ?_
 refine TQ.thenN (hY4 _ _ _ ?_)
 refine TW.block ?_
 refine TW.rangeR (fun (q : Nat) (_ : Unit) => .blk b3 5 [.int .u8 (wcK (fun t => whyZ Z T (s 0) t) ((cdZ Z (s 2) (s 5 - 1)).take q) 255)] :: .blk b1 76 [.pointer (some ⟨bt, 0, none⟩)] :: .blk b2 160 [.int .i64 (s 0), .int .i64 (s 1), .int .i64 (s 2), .int .i64 (s 3), .int .i64 (s 4), .int .i64 (s 5)] :: []) (fun x : Empty => x.elim) (fun x => x.elim) (()) (fun a b => changes1_iter (C := C) (D := D) (B := B) (cc := cc) (cd := cd) (cb := cb) (Z := Z) (x := x) (lo := s 2) (hi := s 5 - 1) hok h Apart.nil Apart.nil Apart.nil) ?_ ?_ ?_ ?_ (eg := enters Tryz.func147 rfl rfl)
 unfold chgM
 exact KSub.cons pk9 (KSub.cons pk9 (KSub.cons pk9 ks9))
 rintro lR DR oR oR1 oR2 q g r hq ZR0 hZR0
 simp only [chgY, List.cons_append, List.nil_append]
 have hwc := wc_le (f := fun t => whyZ Z T (s 0) t) hwhy ((cdZ Z (s 2) (s 5 - 1)).take q)
 refine TWi.region ?_
 refine TL.p Pu.as ?_
 refine TL.nil ?_
 refine TQ.thenN (hZR0 _ _ _ Pick.hd ?_)
 refine TWi.block ?_
 refine TWi.seq fun Y5 hY5 => ?_
 refine TWi.region ?_
 refine TL.p (Pu.ldso ty_ag197) ?_
 refine TL.p Pu.mv ?_
 refine TL.nil (TQ.thenN (hY5 _ _ ?_))
 refine TWi.block ?_
 refine TWi.loop1 (fun (i : Nat) => [(23, .int .i64 (i : Int)), (22, .agg barsL.toArray), (6, .int .i64 ((cdZ Z (s 2) (s 5 - 1)).getD q 0)), (5, .pointer (some ⟨b3, 0, none⟩)), (3, .pointer (some ⟨b2, 0, none⟩)), (2, .pointer (some ⟨b1, 0, none⟩))]) (fun i => [.blk b3 5 [.int .u8 (lesK (barB Z T (s 0) ((cdZ Z (s 2) (s 5 - 1)).getD q 0)) (wcK (fun t => whyZ Z T (s 0) t) ((cdZ Z (s 2) (s 5 - 1)).take q) 255) i)], .obj lR oR1, .obj DR oR2, .own g.1 (cdA Z (s 2)).length g.2 3 1 (iL (cdA Z (s 2))), .blk x.2.1 3 [.int .i64 (s 2)], .blk x.2.2 3 [.int .i64 (s 5 - 1)], .blk b1 76 [.pointer (some ⟨bt, 0, none⟩)], .blk b2 160 [.int .i64 (s 0), .int .i64 (s 1), .int .i64 (s 2), .int .i64 (s 3), .int .i64 (s 4), .int .i64 (s 5)]]) (fun i => i ≤ 4) (fun i => 4 - i) 0 fs9 ?_ ?_ ?_
 exact ks9
 exact Nat.zero_le _
 rintro i hi Z0 hZ0
 have hlb := lesK_bd (bs := barB Z T (s 0) ((cdZ Z (s 2) (s 5 - 1)).getD q 0)) hwc i
 refine TWi.seq fun Y6 hY6 => ?_
 refine TWi.region ?_
 refine TL.p Pu.lt ?_
 refine TL.nil (TQ.thenN (hY6 _ _ ?_))
 refine TWi.seq fun Y7 hY7 => ?_
 refine TWi.cond rfl (fun hc0 => ?_) (fun hc0 => ?_)
 try simp only [zcb9] at hc0
 have hi4 : i < 4 := by omega
 refine TWi.skip ?_
 refine TQ.thenN (hY7 _ _ ?_)
 refine TWi.seq fun Y8 hY8 => ?_
 refine TWi.block ?_
 refine TWi.seq fun Y9 hY9 => ?_
 refine TWi.region ?_
 refine TL.p Pu.mv ?_
 refine TL.p (Pu.ix (hr := fun w => idxBar hi4 w)) ?_
 refine TL.p Pu.as ?_
 refine TL.p Pu.as ?_
 refine TL.nil (TQ.thenN (hY9 _ _ ?_))
 refine TWi.seq fun Y10 hY10 => ?_
 refine TWi.join [(36, .bool (barB Z T (s 0) ((cdZ Z (s 2) (s 5 - 1)).getD q 0) i))] ?_ (fun hJ1 => ?_)
 refine TQ.thenN (hY10 _ _ ?_)
 refine TWi.cond rfl (fun hc1 => ?_) (fun hc1 => ?_)
 try simp only [zcb9] at hc1
 have hst := hidT (show lesK (barB Z T (s 0) ((cdZ Z (s 2) (s 5 - 1)).getD q 0)) (wcK (fun t => whyZ Z T (s 0) t) ((cdZ Z (s 2) (s 5 - 1)).take q) 255) (i + 1) = min (lesK (barB Z T (s 0) ((cdZ Z (s 2) (s 5 - 1)).getD q 0)) (wcK (fun t => whyZ Z T (s 0) t) ((cdZ Z (s 2) (s 5 - 1)).take q) 255) i) i by simp only [lesK, lesV]; rw [if_pos hc1])
 refine TWi.region ?_
 refine TL.p (Pu.ld ty_sc5) ?_
 refine TL.p Pu.mv ?_
 refine TL.p (Pu.cv (hr := fun w => cvBar hi4 w)) ?_
 refine TL.m Mk.bl ?_
 intro b4
 refine TL.cr rfl (enters Tryz.func129 rfl rfl) (fun w hw => by
   exact leastU_any (n := 1) (v := fun _ => (i : Int)) _ (by omega) (RdR.blk (cs := [.int .u8 (i : Int)]) (hw.holds _ (List.mem_cons_self ..)) rfl (fun _ _ => rfl))) ?_
 first | refine TL.st ty_sz5 ?_ | refine TL.se ty_sz5 ?_
 refine TL.nil ?_
 refine TQ.blkN ?_
 refine TQ.thenN (hY8 _ _ ?_)
 refine TWi.region ?_
 refine TL.p Pu.ad ?_
 refine TL.p Pu.mv ?_
 refine TL.nil ?_
 refine TQ.thenN (hZ0 (i + 1) _ _ ?_ ?_ fs9 ?_)
 exact (by omega)
 exact zom9
 exact KSub.valI pk9 hst.out.symm ks9
 try simp only [zcb9] at hc1
 have hst := hidT (show lesK (barB Z T (s 0) ((cdZ Z (s 2) (s 5 - 1)).getD q 0)) (wcK (fun t => whyZ Z T (s 0) t) ((cdZ Z (s 2) (s 5 - 1)).take q) 255) (i + 1) = lesK (barB Z T (s 0) ((cdZ Z (s 2) (s 5 - 1)).getD q 0)) (wcK (fun t => whyZ Z T (s 0) t) ((cdZ Z (s 2) (s 5 - 1)).take q) 255) i by simp only [lesK, lesV]; rw [if_neg (by rw [hc1]; simp)])
 refine TWi.skip ?_
 refine TQ.blkN ?_
 refine TQ.thenN (hY8 _ _ ?_)
 refine TWi.region ?_
 refine TL.p Pu.ad ?_
 refine TL.p Pu.mv ?_
 refine TL.nil ?_
 refine TQ.thenN (hZ0 (i + 1) _ _ ?_ ?_ fs9 ?_)
 exact (by omega)
 exact zom9
 exact KSub.valI pk9 hst.out.symm ks9
 refine TWi.region ?_
 refine TL.p Pu.mv ?_
 refine TL.p (Pu.bn (hr := fun w => neBar _ _ hi4 w)) ?_
 refine TL.p Pu.mv ?_
 refine TL.guard (t := 29) rfl (fun hg1 => ?_) (fun hg1 => ?_)
 try simp only [zgb9] at hg1
 refine TL.gd Pu.mv ?_
 refine TL.gd (Pu.ld ty_sc76) ?_
 refine TL.gd (by first | exact Pu.fb ty_fa160_0 | exact Pu.fe ty_fa160_0) ?_
 refine TL.gd (Pu.ld ty_sc3) ?_
 refine TL.gd Pu.mv ?_
 refine TL.cv (fs := []) (cs := []) (by show some (barV i) = _; rw [barV_s hg1]) rfl (bar_enters hg1 hi4) (fun w hw => bar_calls hg1 hi4 _ _ hok (h.ext (Chg.ext hw.chg)) (t.ext (Chg.ext hw.chg)) (ht9.ext (Chg.ext hw.chg))) ?_
 refine TL.p Pu.kt ?_
 refine TL.nil ?_
 exact TQ.sub (by repeat (first | exact trivial | refine ⟨rfl, ?_⟩ | refine ⟨trivial, ?_⟩ | refine ⟨(by show some (Value.bool _) = some (Value.bool _); first | (simp [hg1, barB]; done) | (refine congrArg (fun z => some (Value.bool z)) (Bool.eq_iff_iff.2 ?_); simp [hg1, barB]; omega)), ?_⟩)) ks9 hJ1
 try simp only [zgb9] at hg1
 refine TL.gs ?_
 refine TL.gs ?_
 refine TL.gs ?_
 refine TL.gs ?_
 refine TL.gs ?_
 refine TL.gs ?_
 refine TL.p Pu.kf ?_
 refine TL.nil ?_
 exact TQ.sub (by repeat (first | exact trivial | refine ⟨rfl, ?_⟩ | refine ⟨trivial, ?_⟩ | refine ⟨(by show some (Value.bool _) = some (Value.bool _); first | (simp [hg1, barB]; done) | (refine congrArg (fun z => some (Value.bool z)) (Bool.eq_iff_iff.2 ?_); simp [hg1, barB]; omega)), ?_⟩)) ks9 hJ1
 try simp only [zcb9] at hc0
 obtain rfl : i = 4 := by omega
 refine TWi.exit ?_
 refine TQ.thenX ?_
 refine TQ.thenX ?_
 refine TQ.blkX ?_
 refine TQ.blkN ?_
 refine TQ.rbN (()) ?_
 simp only [chgY, List.cons_append, List.nil_append]
 refine KSub.cons pk9 (KSub.cons pk9 (KSub.cons pk9 (KSub.cons pk9 (KSub.cons pk9 (KSub.valI pk9 ?_ ks9)))))
 rw [les_four, take_succ hq, wc_snoc]
 rintro DR r
 simp only [List.nil_append, List.take_length]
 refine TQ.blkN ?_
 refine TQ.thenN (hY3 _ _ _ ?_)
 refine TW.seqD fun Y11 hY11 => ?_
 refine TW.seqD fun Y12 hY12 => ?_
 refine TW.region ?_
 refine TL.p (Pu.ld ty_sc5) ?_
 refine TL.p Pu.eq ?_
 refine TL.nil ?_
 refine TQ.thenN (hY12 _ _ _ ?_)
 refine TW.cond rfl (fun hc2 => ?_) (fun hc2 => ?_)
 try simp only [zcb9] at hc2
 have hr := why_same (L := cdZ Z (s 2) (s 5 - 1)) (M := tuD Z (s 2) (s 5 - 1)) hwhy (fun t => cdZ_mem.symm)
 rw [if_pos hc2] at hr
 refine TW.seqD fun Y13 hY13 => ?_
 refine TW.region ?_
 refine TL.p Pu.as ?_
 refine TL.nil ?_
 refine TQ.thenN (hY13 _ _ _ ?_)
 refine TW.ret ?_
 refine TQ.thenR ?_
 refine TQ.retM Tryz.results85 pk9 ((.tmp rfl .nil)) ?_
 exact fun w hw => ⟨ret_u8 hr, Chg.ext hw.chg⟩
 try simp only [zcb9] at hc2
 have hr := why_same (L := cdZ Z (s 2) (s 5 - 1)) (M := tuD Z (s 2) (s 5 - 1)) hwhy (fun t => cdZ_mem.symm)
 rw [if_neg hc2] at hr
 refine TW.skip ?_
 refine TQ.thenN (hY11 _ _ _ ?_)
 refine TW.seqD fun Y14 hY14 => ?_
 refine TW.region ?_
 refine TL.p (Pu.ld ty_sc5) ?_
 refine TL.p Pu.as ?_
 refine TL.nil ?_
 refine TQ.thenN (hY14 _ _ _ ?_)
 refine TW.ret ?_
 refine TQ.retM Tryz.results85 pk9 ((.tmp rfl .nil)) ?_
 exact fun w hw => ⟨ret_u8 hr, Chg.ext hw.chg⟩
 intro _ x; exact x.elim
end
end Go.Proofs.YtfaenhhgkhcghaaGreatDoor
namespace Go.Proofs.YtfaenhhgkhcghaaGreatDoor
set_option linter.all false
set_option linter.unusedVariables false
set_option linter.unusedSimpArgs false
open Go.RowKit
theorem ex_get {n k : Nat} {p : Nat → Bool} (h : exB n p = false) (hk : k < n) : p k = false := by
 cases e : p k with
 | false => rfl
 | true => rw [ex_yes hk e] at h; cases h
theorem wkC_split {Y : Wy} (h : wkC Y = 0) : okY Y = 0 ∧ begY Y = true ∧ ¬ 24 < Y.n ∧ lostY Y = false ∧ lateY Y = false := by
 unfold wkC at h
 split at h
 · next h1 => exact absurd h h1
 · next h1 =>
   split at h
   · cases h
   · next h2 =>
     split at h
     · cases h
     · next h3 =>
       split at h
       · cases h
       · next h4 =>
         split at h
         · cases h
         · next h5 => exact ⟨Decidable.not_not.1 h1, by simpa using h2, h3, by simpa using h4, by simpa using h5⟩
theorem stY_bd {Y : Wy} (h : wkC Y = 0) : ∀ k, k < Y.n → 0 ≤ stY Y k 2 ∧ stY Y k 2 ≤ stY Y k 3 ∧ stY Y k 3 < stY Y k 5 ∧ stY Y k 5 ≤ 100001 := fun k hk => by
 obtain ⟨h1, h2, h3, h4, h5⟩ := wkC_split h
 have ho := wyOk_of h1
 have hl : ∀ j, j < Y.n → 0 ≤ wlY Y (j + 1) := fun j hj => by have := of_decide_eq_false (ex_get h4 hj); omega
 have ha : atSY Y (k + 1) ≤ 100000 := by have := of_decide_eq_false (ex_get h5 hk); omega
 have hin := ls_ok (hl k hk)
 have hat := at_ok ho h2 hl (k := k) (by omega)
 have hleg := ho.leg (Y.ls k).toNat (by omega)
 have e1 := leaves_le (u := uY Y) (gn := nY Y) (g := Y.g) (i := (Y.ls k).toNat) ho.h0 ho.h1 hleg hat.2.1
 have e2 := (arS_bd (u := uY Y) (gn := nY Y) (g := Y.g) (i := (Y.ls k).toNat) (t := atSY Y k) ho.h0 ho.h1 hleg (by omega)).2.2 ha
 have e3 := lvB_bd (u := uY Y) (gn := nY Y) (g := Y.g) (p1 := Y.p1) (i := (Y.ls k).toNat) (t := atBY Y k) (by omega)
 show 0 ≤ lvBY Y k ∧ lvBY Y k ≤ lvSY Y k ∧ lvSY Y k < atSY Y (k + 1) ∧ atSY Y (k + 1) ≤ 100001
 unfold lvBY lvSY
 unfold atSY at ha ⊢
 simp only [atS] at ha ⊢
 refine ⟨by omega, e1, e2, by omega⟩
def chkY (Y : Wy) (Z : Cus) : Int := checkC Y.nw Y.nl Y.f Y.x Y.g Z.nc Z.nd Z.nb Z.c Z.d Z.b
def rdyC (Y : Wy) (Z : Cus) (T : Trp) : Int := if chkY Y Z ≠ 0 then chkY Y Z else if trpOk T = true then 0 else 73
def tolC (Y : Wy) (Z : Cus) (T : Trp) : Int := if rdyC Y Z T ≠ 0 then rdyC Y Z T else wkC Y
def tolN (Y : Wy) (Z : Cus) (T : Trp) : Nat := if tolC Y Z T = 0 then Y.n else 0
theorem tol_rdy {Y : Wy} {Z : Cus} {T : Trp} (h : rdyC Y Z T ≠ 0) : tolC Y Z T = rdyC Y Z T := if_pos h
theorem tol_wk {Y : Wy} {Z : Cus} {T : Trp} (h : rdyC Y Z T = 0) : tolC Y Z T = wkC Y := if_neg (by omega)
theorem rdy_chk {Y : Wy} {Z : Cus} {T : Trp} (h : chkY Y Z ≠ 0) : rdyC Y Z T = chkY Y Z := if_pos h
theorem rdy_trp {Y : Wy} {Z : Cus} {T : Trp} (h : chkY Y Z = 0) (ht : trpOk T = false) : rdyC Y Z T = 73 := by unfold rdyC; rw [if_neg (by omega), if_neg (by rw [ht]; simp)]
theorem rdy_ok {Y : Wy} {Z : Cus} {T : Trp} (h : chkY Y Z = 0) (ht : trpOk T = true) : rdyC Y Z T = 0 := by unfold rdyC; rw [if_neg (by omega), if_pos ht]
theorem rdy_split {Y : Wy} {Z : Cus} {T : Trp} (h : rdyC Y Z T = 0) : chkY Y Z = 0 ∧ trpOk T = true := by
 unfold rdyC at h
 split at h
 · next h1 => exact absurd h h1
 · next h1 =>
   split at h
   · next h2 => exact ⟨Decidable.not_not.1 h1, h2⟩
   · cases h
theorem chk_ok {Y : Wy} {Z : Cus} (h : chkY Y Z = 0) : CusOk Z := by
 unfold chkY checkC at h
 split at h
 · exact cusOk_of h
 · cases h
section
variable {Z : Cus} {T : Trp} {Y : Wy} {W A L C D B O U V S : Option Addr} {cw cl cn cc cd cb co cu cv n cs bt : Nat} {st : Nat → Nat → Int} {w : World}
set_option maxRecDepth 100000 in
set_option maxHeartbeats 1000000 in
theorem cFirst_any (hok : CusOk Z) (h : CustIn w C Z.nc D Z.nd B Z.nb Z.c Z.d Z.b) (t : TrpIn w T O U V) (s : StpIn w n st S) (ht : OldB w bt (trkL T O co U cu V cv Z C cc D cd B cb S n cs)) (hG : OldB w 0 barsL) :
  Calls Tryz.prog 43 #[.pointer (some ⟨bt, 0, none⟩)] w (Ret w (.tuple #[.int .u8 (barD Z T n st).1, .int .i64 (barD Z T n st).2])) := by
 have ht9 := ht
 have hRS := s.hR
 have hn := s.hn
 unfold trkL at ht
 refine K_enter (S := []) (K := []) Tryz.func43 rfl Tryz.ntmps43 rfl (Sat.start _) ?_
 refine TW.seq fun Y1 hY1 => TW.region ?_
 refine TL.p Pu.as ?_
 refine TL.p Pu.as ?_
 refine TL.nil (TQ.thenN (hY1 _ _ ?_))
 refine TW.seq fun Y2 hY2 => ?_
 refine TW.seq fun Y3 hY3 => TW.region ?_
 refine TL.p Pu.mv ?_
 refine TL.p (by first | exact Pu.nn | exact Pu.nc) ?_
 refine TL.p (by first | exact Pu.fb ty_fa129_2 | exact Pu.fe ty_fa129_2) ?_
 refine TL.p (Pu.ldo ty_sc83) ?_
 refine TL.p (Pu.ln Tryz.underlying83) ?_
 refine TL.p Pu.mv ?_
 refine TL.nil (TQ.thenN (hY3 _ _ ?_))
 refine TW.block ?_
 refine TW.loop1 (fun (i : Nat) => [(12, .int .i64 (i : Int)), (11, .int .i64 (n : Int)), (10, .slice S n cs), (0, .pointer (some ⟨bt, 0, none⟩))]) (fun i => []) (fun i => i ≤ n ∧ ∀ j, j < i → ¬ 0 < whyD Z T (st j)) (fun i => n - i) 0 fs9 ?_ ?_ ?_
 exact ks9
 exact ⟨Nat.zero_le _, fun j hj => by omega⟩
 rintro i ⟨hi, hall⟩ Z0 hZ0
 refine TW.seq fun Y4 hY4 => TW.region ?_
 refine TL.p Pu.lt ?_
 refine TL.nil (TQ.thenN (hY4 _ _ ?_))
 refine TW.seq fun Y5 hY5 => ?_
 refine TW.cond rfl (fun hc0 => ?_) (fun hc0 => ?_)
 try simp only [zcb9] at hc0
 have hin : i < n := by omega
 have hbd := s.bd i hin
 refine TW.skip ?_
 refine TQ.thenN (hY5 _ _ ?_)
 refine TW.seq fun Y6 hY6 => ?_
 refine TW.block ?_
 refine TW.seq fun Y7 hY7 => TW.region ?_
 refine TL.p Pu.mv ?_
 refine TL.p (Pu.el ty_et83) ?_
 refine TL.p (Pu.lds ty_ag160) ?_
 refine TL.m (Mk.al ty_zr160) ?_
 intro b1
 refine TL.p Pu.as ?_
 first | refine TL.st ty_sz160 ?_ | refine TL.se ty_sz160 ?_
 refine TL.nil (TQ.thenN (hY7 _ _ ?_))
 refine TW.seq fun Y8 hY8 => TW.region ?_
 refine TL.p Pu.mv ?_
 refine TL.p (Pu.lds ty_ag160) ?_
 refine TL.cr rfl (enters Tryz.func85 rfl rfl) (fun w hw => by
   exact cBarred_any (st i) (by omega) hok (h.ext (Chg.ext hw.chg)) (t.ext (Chg.ext hw.chg)) (ht9.ext (Chg.ext hw.chg)) (hG.ext (Chg.ext hw.chg))) ?_
 refine TL.p Pu.as ?_
 refine TL.nil (TQ.thenN (hY8 _ _ ?_))
 refine TW.seq fun Y9 hY9 => TW.region ?_
 refine TL.p Pu.mv ?_
 refine TL.p Pu.ne ?_
 refine TL.nil (TQ.thenN (hY9 _ _ ?_))
 refine TW.cond rfl (fun hc1 => ?_) (fun hc1 => ?_)
 try simp only [zcb9] at hc1
 have hb := wr_spec (f := fun t => whyZ Z T (st i 0) t) (fun t => (whyZ_bd).1) (tuD Z (st i 2) (st i 5 - 1)) 0 (by omega)
 have hpos : 0 < whyD Z T (st i) := by
  have h9 : 0 ≤ whyD Z T (st i) := by unfold whyD; rcases hb with ⟨q, _⟩ | ⟨q, _⟩ <;> omega
  omega
 refine TW.seq fun Y10 hY10 => TW.region ?_
 refine TL.p Pu.mv ?_
 refine TL.p Pu.mv ?_
 refine TL.p Pu.as ?_
 refine TL.p Pu.as ?_
 refine TL.nil (TQ.thenN (hY10 _ _ ?_))
 refine TW.ret ?_
 refine TQ.blkR ?_
 refine TQ.thenR ?_
 refine TQ.thenR ?_
 refine TQ.blkR ?_
 refine TQ.thenR ?_
 refine TQ.ret Tryz.results43 rfl ((.tmp rfl (.tmp rfl .nil))) ?_
 exact fun w hw => ⟨ret_u8i (by unfold barD; rw [brF_yes (f := fun i => whyD Z T (st i)) hpos hall n hin]) (by unfold barD; rw [brF_yes (f := fun i => whyD Z T (st i)) hpos hall n hin]), Chg.ext hw.chg⟩
 try simp only [zcb9] at hc1
 have hpos : ¬ 0 < whyD Z T (st i) := by omega
 refine TW.skip ?_
 refine TQ.blkN ?_
 refine TQ.thenN (hY6 _ _ ?_)
 refine TW.region ?_
 refine TL.p Pu.ad ?_
 refine TL.p Pu.mv ?_
 refine TL.nil ?_
 refine TQ.thenN (hZ0 (i + 1) _ _ ?_ ?_ fs9 ?_)
 exact ⟨by omega, fun j hj => (Nat.lt_succ_iff_lt_or_eq.1 hj).elim (hall j) (fun e => e ▸ hpos)⟩
 exact zom9
 exact ks9
 try simp only [zcb9] at hc0
 obtain rfl : i = n := by omega
 refine TW.exit ?_
 refine TQ.thenX ?_
 refine TQ.thenX ?_
 refine TQ.blkX ?_
 refine TQ.thenN (hY2 _ _ ?_)
 refine TW.seq fun Y11 hY11 => TW.region ?_
 refine TL.p Pu.as ?_
 refine TL.p Pu.as ?_
 refine TL.nil (TQ.thenN (hY11 _ _ ?_))
 refine TW.ret ?_
 refine TQ.ret Tryz.results43 rfl ((.tmp rfl (.tmp rfl .nil))) ?_
 exact fun w hw => ⟨ret_u8i (by unfold barD; rw [brF_no _ hall]) (by unfold barD; rw [brF_no _ hall]), Chg.ext hw.chg⟩
theorem cReady_any (hL : LandIn w W Y.nw A Y.nl Y.f Y.x Y.g) (h : CustIn w C Z.nc D Z.nd B Z.nb Z.c Z.d Z.b) (t : TrpIn w T O U V) :
  Calls Tryz.prog 25 #[.agg (landL W Y.nw cw A Y.nl cl).toArray, .agg (custL C Z.nc cc D Z.nd cd B Z.nb cb).toArray, .agg (troopL T.hd T.wo O T.no co U T.nu cu V T.nv cv).toArray] w (Ret w (.int .i64 (rdyC Y Z T))) := by
 unfold landL custL troopL
 refine K_enter (S := []) (K := []) Tryz.func25 rfl Tryz.ntmps25 rfl (Sat.start _) ?_
 refine TW.seq fun Y1 hY1 => TW.region ?_
 refine TL.m Mk.bx ?_
 intro b1
 refine TL.m Mk.bx ?_
 intro b2
 refine TL.m Mk.bx ?_
 intro b3
 refine TL.p Pu.as ?_
 refine TL.nil (TQ.thenN (hY1 _ _ ?_))
 refine TW.seq fun Y2 hY2 => ?_
 refine TW.seq fun Y3 hY3 => TW.region ?_
 refine TL.p (Pu.lds ty_ag25) ?_
 refine TL.p (Pu.lds ty_ag30) ?_
 refine TL.cr rfl (enters Tryz.func23 rfl rfl) (fun w hw => by
   exact tollCheck_any (hL.ext (Chg.ext hw.chg)) (h.ext (Chg.ext hw.chg))) ?_
 refine TL.p Pu.as ?_
 refine TL.nil (TQ.thenN (hY3 _ _ ?_))
 refine TW.seq fun Y4 hY4 => TW.region ?_
 refine TL.p Pu.mv ?_
 refine TL.p Pu.ne ?_
 refine TL.nil (TQ.thenN (hY4 _ _ ?_))
 refine TW.cond rfl (fun hc0 => ?_) (fun hc0 => ?_)
 try simp only [zcb9] at hc0
 have hne : chkY Y Z ≠ 0 := hc0
 refine TW.seq fun Y5 hY5 => TW.region ?_
 refine TL.p Pu.mv ?_
 refine TL.p Pu.as ?_
 refine TL.nil (TQ.thenN (hY5 _ _ ?_))
 refine TW.ret ?_
 refine TQ.thenR ?_
 refine TQ.ret Tryz.results25 rfl ((.tmp rfl .nil)) ?_
 exact fun w hw => ⟨ret_int (rdy_chk hne), Chg.ext hw.chg⟩
 try simp only [zcb9] at hc0
 have hz : chkY Y Z = 0 := by show checkC _ _ _ _ _ _ _ _ _ _ _ = 0; simpa using hc0
 refine TW.skip ?_
 refine TQ.thenN (hY2 _ _ ?_)
 refine TW.seq fun Y6 hY6 => ?_
 refine TW.seq fun Y7 hY7 => TW.region ?_
 refine TL.p (Pu.lds ty_ag33) ?_
 refine TL.cr rfl (enters Tryz.func54 rfl rfl) (fun w hw => by
   exact cValid_any (t.ext (Chg.ext hw.chg))) ?_
 refine TL.p Pu.no ?_
 refine TL.nil (TQ.thenN (hY7 _ _ ?_))
 refine TW.cond rfl (fun hc1 => ?_) (fun hc1 => ?_)
 try simp only [zcb9] at hc1
 have h1 : trpOk T = false := by simpa using hc1
 refine TW.seq fun Y8 hY8 => TW.region ?_
 refine TL.p Pu.as ?_
 refine TL.nil (TQ.thenN (hY8 _ _ ?_))
 refine TW.ret ?_
 refine TQ.thenR ?_
 refine TQ.ret Tryz.results25 rfl ((.tmp rfl .nil)) ?_
 exact fun w hw => ⟨ret_int (rdy_trp hz h1), Chg.ext hw.chg⟩
 try simp only [zcb9] at hc1
 have h1 : trpOk T = true := by simpa using hc1
 refine TW.skip ?_
 refine TQ.thenN (hY6 _ _ ?_)
 refine TW.seq fun Y9 hY9 => TW.region ?_
 refine TL.p Pu.as ?_
 refine TL.nil (TQ.thenN (hY9 _ _ ?_))
 refine TW.ret ?_
 refine TQ.ret Tryz.results25 rfl ((.tmp rfl .nil)) ?_
 exact fun w hw => ⟨ret_int (rdy_ok hz h1), Chg.ext hw.chg⟩
set_option maxRecDepth 100000 in
theorem cWalked_any (hL : LandIn w W Y.nw A Y.nl Y.f Y.x Y.g) (hn : Y.n ≤ 1000) (hR : RdR w 1 L Y.n (fun k => [.int .i64 (Y.ls k)])) :
  CallsK Tryz.prog 27 #[.agg (landL W Y.nw cw A Y.nl cl).toArray, .agg (custL C Z.nc cc D Z.nd cd B Z.nb cb).toArray, .agg (troopL T.hd T.wo O T.no co U T.nu cu V T.nv cv).toArray, .int .i64 Y.start, .int .i64 Y.day, .agg #[.int .i64 Y.p0, .int .i64 Y.p1], .slice L Y.n cn] [] w ((Option Addr × Nat) × Nat) (fun y => .tuple #[.pointer (some ⟨y.2, 0, none⟩), .int .i64 (wkC Y)])
   (fun y => [.blk y.2 129 (trkL T O co U cu V cv Z C cc D cd B cb y.1.1 (wkN Y) y.1.2), .own y.1.1 (wkN Y) y.1.2 160 6 (fun k => stopL (stY Y k))]) := by
 unfold landL custL troopL trkL
 refine K_enter (S := []) (K := []) Tryz.func27 rfl Tryz.ntmps27 rfl (Sat.start _) ?_
 refine TW.seq fun Y1 hY1 => TW.region ?_
 refine TL.m Mk.bx ?_
 intro b1
 refine TL.m Mk.bx ?_
 intro b2
 refine TL.m Mk.bx ?_
 intro b3
 refine TL.m Mk.bx ?_
 intro b4
 refine TL.p Pu.as ?_
 refine TL.p Pu.as ?_
 refine TL.nil (TQ.thenN (hY1 _ _ ?_))
 refine TW.seq fun Y2 hY2 => TW.region ?_
 refine TL.p (Pu.lds ty_ag25) ?_
 refine TL.p Pu.mv ?_
 refine TL.p Pu.mv ?_
 refine TL.p (Pu.lds ty_ag36) ?_
 refine TL.p Pu.mv ?_
 refine TL.call (M := []) rfl (enters Tryz.func57 rfl rfl) (List.Perm.refl _) rfl (fun w hw => by
   exact cWalk_any (hL.ext (Chg.ext hw.chg)) hn (hR.sat hw Apart.nil)) ?_
 rintro ⟨⟨As, cs⟩, i9⟩
 simp only [wkR, wkL, List.cons_append, List.nil_append]
 refine TL.p Pu.mv ?_
 refine TL.p Pu.ex ?_
 refine TL.p Pu.ex ?_
 refine TL.p Pu.ex ?_
 refine TL.p Pu.as ?_
 refine TL.p Pu.as ?_
 refine TL.p Pu.as ?_
 refine TL.nil (TQ.thenN (hY2 _ _ ?_))
 refine TW.seq fun Y3 hY3 => TW.region ?_
 refine TL.p (Pu.lds ty_ag33) ?_
 refine TL.p (Pu.lds ty_ag30) ?_
 refine TL.p Pu.mv ?_
 refine TL.p Pu.bd ?_
 refine TL.m Mk.bx ?_
 intro b5
 refine TL.p Pu.mv ?_
 refine TL.p Pu.as ?_
 refine TL.p Pu.as ?_
 refine TL.nil (TQ.thenN (hY3 _ _ ?_))
 refine TW.ret ?_
 refine TQ.ret Tryz.results27 rfl ((.tmp rfl (.tmp rfl .nil))) ?_
 exact fun w hw => ⟨((As, cs), b5), rfl, hw.sub ks9⟩
end
end Go.Proofs.YtfaenhhgkhcghaaGreatDoor
namespace Go.Proofs.YtfaenhhgkhcghaaGreatDoor
set_option linter.all false
set_option linter.unusedVariables false
set_option linter.unusedSimpArgs false
open Go.RowKit
theorem tolN_0 {Y : Wy} {Z : Cus} {T : Trp} (h : tolC Y Z T ≠ 0) : tolN Y Z T = 0 := if_neg h
theorem tolN_n {Y : Wy} {Z : Cus} {T : Trp} (h : tolC Y Z T = 0) : tolN Y Z T = Y.n := if_pos h
theorem tolN_wk {Y : Wy} {Z : Cus} {T : Trp} (h : rdyC Y Z T = 0) : tolN Y Z T = wkN Y := by unfold tolN wkN; rw [tol_wk h]
section
variable {Z : Cus} {T : Trp} {Y : Wy} {W A L C D B O U V S : Option Addr} {cw cl cn cc cd cb co cu cv n cs bt : Nat} {st : Nat → Nat → Int} {w : World}
theorem tol_stp {As : Option Addr} {c9 : Nat} {w' : World} {S : List Nat} {w0 : World} {K : List Fact} (hn : Y.n ≤ 1000) (hw : Sat S w0 K w') (hm : Fact.own As (tolN Y Z T) c9 160 6 (fun k => stopL (stY Y k)) ∈ K) (h : tolC Y Z T = 0) (hr : rdyC Y Z T = 0) : StpIn w' (tolN Y Z T) (stY Y) As := by
 have hb := stY_bd (Y := Y) (by rw [← tol_wk hr]; exact h)
 have e := tolN_n h
 exact ⟨by rw [e]; exact hn, OwnR.rdr (hw.holds _ hm), fun k hk => hb k (by rw [← e]; exact hk)⟩
set_option maxRecDepth 100000 in
set_option maxHeartbeats 1000000 in
theorem rwalk_any (hL : LandIn w W Y.nw A Y.nl Y.f Y.x Y.g) (hn : Y.n ≤ 1000) (hR : RdR w 1 L Y.n (fun k => [.int .i64 (Y.ls k)])) (h : CustIn w C Z.nc D Z.nd B Z.nb Z.c Z.d Z.b) (t : TrpIn w T O U V) :
  CallsK Tryz.prog 32 #[.agg (landL W Y.nw cw A Y.nl cl).toArray, .agg (custL C Z.nc cc D Z.nd cd B Z.nb cb).toArray, .agg (troopL T.hd T.wo O T.no co U T.nu cu V T.nv cv).toArray, .int .i64 Y.start, .int .i64 Y.day, .agg #[.int .i64 Y.p0, .int .i64 Y.p1], .slice L Y.n cn] [] w (Option Addr × Nat) (fun y => .tuple #[.slice y.1 (tolN Y Z T) y.2, .int .i64 (tolC Y Z T)])
   (fun y => [.own y.1 (tolN Y Z T) y.2 160 6 (fun k => stopL (stY Y k))]) := by
 have bad : ∀ {w' : World} {K : List Fact} {e : Int}, Sat [] w K w' → tolC Y Z T = e → e ≠ 0 → ∃ y : Option Addr × Nat, Ending.returned (retV [.slice none 0 0, .int .i64 e]) = .returned (.tuple #[.slice y.1 (tolN Y Z T) y.2, .int .i64 (tolC Y Z T)]) ∧ Sat [] w [.own y.1 (tolN Y Z T) y.2 160 6 (fun k => stopL (stY Y k))] w' := fun hw he h0 => by
  refine ⟨(none, 0), ?_, ?_⟩
  rw [tolN_0 (by rw [he]; exact h0), he]; rfl
  rw [tolN_0 (by rw [he]; exact h0)]; exact hw.sub (KSub.nilOwn KSub.nil)
 unfold landL custL troopL
 refine K_enter (S := []) (K := []) Tryz.func32 rfl Tryz.ntmps32 rfl (Sat.start _) ?_
 refine TW.seq fun Y1 hY1 => TW.region ?_
 refine TL.m Mk.bx ?_
 intro b1
 refine TL.m Mk.bx ?_
 intro b2
 refine TL.m Mk.bx ?_
 intro b3
 refine TL.m Mk.bx ?_
 intro b4
 refine TL.p Pu.as ?_
 refine TL.p Pu.as ?_
 refine TL.nil (TQ.thenN (hY1 _ _ ?_))
 refine TW.seq fun Y2 hY2 => ?_
 refine TW.seq fun Y3 hY3 => TW.region ?_
 refine TL.p (Pu.lds ty_ag25) ?_
 refine TL.p (Pu.lds ty_ag30) ?_
 refine TL.cr rfl (enters Tryz.func29 rfl rfl) (fun w hw => by
   exact refCheck_any (hL.ext (Chg.ext hw.chg)) (h.ext (Chg.ext hw.chg))) ?_
 refine TL.p Pu.as ?_
 refine TL.nil (TQ.thenN (hY3 _ _ ?_))
 refine TW.seq fun Y4 hY4 => TW.region ?_
 refine TL.p Pu.mv ?_
 refine TL.p Pu.ne ?_
 refine TL.nil (TQ.thenN (hY4 _ _ ?_))
 refine TW.cond rfl (fun hc0 => ?_) (fun hc0 => ?_)
 try simp only [zcb9] at hc0
 have hne : chkY Y Z ≠ 0 := hc0
 refine TW.seq fun Y5 hY5 => TW.region ?_
 refine TL.p Pu.mv ?_
 refine TL.p Pu.as ?_
 refine TL.p Pu.as ?_
 refine TL.nil (TQ.thenN (hY5 _ _ ?_))
 refine TW.ret ?_
 refine TQ.thenR ?_
 refine TQ.ret Tryz.results32 rfl ((.tmp rfl (.tmp rfl .nil))) ?_
 exact fun w hw => bad hw (by rw [tol_rdy (by rw [rdy_chk hne]; exact hne), rdy_chk hne]; rfl) hne
 try simp only [zcb9] at hc0
 have hz : chkY Y Z = 0 := by show checkC _ _ _ _ _ _ _ _ _ _ _ = 0; simpa using hc0
 refine TW.skip ?_
 refine TQ.thenN (hY2 _ _ ?_)
 refine TW.seq fun Y6 hY6 => ?_
 refine TW.seq fun Y7 hY7 => TW.region ?_
 refine TL.p (Pu.lds ty_ag33) ?_
 refine TL.cr rfl (enters Tryz.func30 rfl rfl) (fun w hw => by
   exact rTroop_any (t.ext (Chg.ext hw.chg))) ?_
 refine TL.p Pu.no ?_
 refine TL.nil (TQ.thenN (hY7 _ _ ?_))
 refine TW.cond rfl (fun hc1 => ?_) (fun hc1 => ?_)
 try simp only [zcb9] at hc1
 have h1 : trpOk T = false := by simpa using hc1
 refine TW.seq fun Y8 hY8 => TW.region ?_
 refine TL.p Pu.as ?_
 refine TL.p Pu.as ?_
 refine TL.nil (TQ.thenN (hY8 _ _ ?_))
 refine TW.ret ?_
 refine TQ.thenR ?_
 refine TQ.ret Tryz.results32 rfl ((.tmp rfl (.tmp rfl .nil))) ?_
 exact fun w hw => bad hw (by rw [tol_rdy (by rw [rdy_trp hz h1]; decide), rdy_trp hz h1]) (by decide)
 try simp only [zcb9] at hc1
 have h1 : trpOk T = true := by simpa using hc1
 have hr := rdy_ok hz h1
 refine TW.skip ?_
 refine TQ.thenN (hY6 _ _ ?_)
 refine TW.seq fun Y9 hY9 => TW.region ?_
 refine TL.p (Pu.lds ty_ag25) ?_
 refine TL.p Pu.mv ?_
 refine TL.p Pu.mv ?_
 refine TL.p (Pu.lds ty_ag36) ?_
 refine TL.p Pu.mv ?_
 refine TL.call (M := []) rfl (enters Tryz.func64 rfl rfl) (List.Perm.refl _) rfl (fun w hw => by
   exact rWalk_any (hL.ext (Chg.ext hw.chg)) hn (hR.sat hw Apart.nil)) ?_
 rintro ⟨⟨As, cs⟩, i9⟩
 simp only [wkR, wkL, List.cons_append, List.nil_append]
 refine TL.p Pu.mv ?_
 refine TL.p Pu.ex ?_
 refine TL.p Pu.ex ?_
 refine TL.p Pu.ex ?_
 refine TL.p Pu.as ?_
 refine TL.p Pu.as ?_
 refine TL.p Pu.as ?_
 refine TL.nil (TQ.thenN (hY9 _ _ ?_))
 refine TW.seq fun Y10 hY10 => TW.region ?_
 refine TL.p Pu.mv ?_
 refine TL.p Pu.mv ?_
 refine TL.p Pu.as ?_
 refine TL.p Pu.as ?_
 refine TL.nil (TQ.thenN (hY10 _ _ ?_))
 refine TW.ret ?_
 refine TQ.ret Tryz.results32 rfl ((.tmp rfl (.tmp rfl .nil))) ?_
 exact fun w hw => ⟨(As, cs), by rw [tolN_wk hr, tol_wk hr]; rfl, by rw [tolN_wk hr]; exact hw.sub (KSub.cons pk9 KSub.nil)⟩
end
end Go.Proofs.YtfaenhhgkhcghaaGreatDoor
namespace Go.Proofs.YtfaenhhgkhcghaaGreatDoor
set_option linter.all false
set_option linter.unusedVariables false
set_option linter.unusedSimpArgs false
open Go.RowKit
abbrev tied (K : List Fact) : Fact := bun K
theorem Sat.unbun {S : List Nat} {w0 w : World} {K1 K : List Fact} (h : Sat S w0 (tied K1 :: K) w) : Sat S w0 (K1 ++ K) w := by
 have e : feet (tied K1 :: K) = feet (K1 ++ K) := by rw [feet_append]; rfl
 refine ⟨h.chg, by rw [← e]; exact h.nd, by rw [← e]; exact h.ge, fun φ hφ => ?_⟩
 rcases List.mem_append.1 hφ with hφ | hφ
 · exact (h.holds _ (List.mem_cons_self ..)).now φ hφ
 · exact h.holds φ (List.mem_cons_of_mem _ hφ)
def ownsU (E : TypeId) (sz : Nat) (A : Nat → Option Addr) (l c : Nat → Nat) (r : Nat → Nat → List Value) : Nat → Nat → List Fact
 | _, 0 => []
 | s, n + 1 => .own (A s) (l s) (c s) E sz (r s) :: ownsU E sz A l c r (s + 1) n
def ownsXE (E : TypeId) (sz : Nat) (A : Nat → Option Addr) (l c : Nat → Nat) (r : Nat → Nat → List Value) (s : Nat) : Nat → List Fact
 | 0 => []
 | n + 1 => if n = s then ownsE E sz A l c r n else .own (A n) (l n) (c n) E sz (r n) :: ownsXE E sz A l c r s n
section
variable {E : TypeId} {sz : Nat} {A A2 : Nat → Option Addr} {l l2 c c2 : Nat → Nat} {r r2 : Nat → Nat → List Value} {s : Nat}
theorem ownsE_perm : ∀ {n : Nat}, s < n → (ownsE E sz A l c r n).Perm (.own (A s) (l s) (c s) E sz (r s) :: ownsXE E sz A l c r s n)
 | n + 1, h => by
  by_cases hs : n = s
  · subst hs
    simp only [ownsE, ownsXE, if_true]
    exact List.Perm.refl _
  · simp only [ownsE, ownsXE, if_neg hs]
    exact ((ownsE_perm (n := n) (by omega)).cons _).trans (List.Perm.swap _ _ _)
theorem ownsE_congr2 : ∀ {n : Nat}, (∀ i, i < n → A i = A2 i ∧ l i = l2 i ∧ c i = c2 i ∧ r i = r2 i) → ownsE E sz A l c r n = ownsE E sz A2 l2 c2 r2 n
 | 0, _ => rfl
 | n + 1, h => by
  obtain ⟨h1, h2, h3, h4⟩ := h n (by omega)
  simp only [ownsE, h1, h2, h3, h4, ownsE_congr2 (n := n) fun i hi => h i (by omega)]
theorem ownsXE_congr : ∀ {n : Nat}, (∀ i, i < n → i ≠ s → A i = A2 i ∧ l i = l2 i ∧ c i = c2 i ∧ r i = r2 i) → ownsXE E sz A l c r s n = ownsXE E sz A2 l2 c2 r2 s n
  | 0, _ => rfl
  | n + 1, h => by
    by_cases hs : n = s
    · subst hs
      simp only [ownsXE, if_true]
      exact ownsE_congr2 fun i hi => h i (by omega) (by omega)
    · obtain ⟨h1, h2, h3, h4⟩ := h n (by omega) hs
      simp only [ownsXE, if_neg hs, h1, h2, h3, h4, ownsXE_congr (n := n) fun i hi => h i (by omega)]
variable {cx : Cx} {Q : Exit → Act → World → Prop} {F : Fr} {K K' : List Fact} {ops : Array Oper} {rest : List Oper}
theorem TL.ownTake {n : Nat} (s : Nat) (hs : s < n) (hp : Pick K (tied (ownsE E sz A l c r n)) K') (h : TL cx ops Q rest F (.own (A s) (l s) (c s) E sz (r s) :: tied (ownsXE E sz A l c r s n) :: K')) : TL cx ops Q rest F K := fun a w hF hK => by
 have h1 : Sat cx.S cx.w0 (ownsE E sz A l c r n ++ K') w := (hK.pick hp).unbun
 have h2 := h1.perm ((ownsE_perm hs).append_right K')
 have h3 : Sat cx.S cx.w0 (ownsXE E sz A l c r s n ++ (.own (A s) (l s) (c s) E sz (r s) :: K')) w := h2.perm List.perm_middle.symm
 exact h a w hF (h3.bun.perm (List.Perm.swap _ _ _))
theorem TL.ownNext {n : Nat} (hp : Pick K (tied (ownsU E sz A l c r s (n + 1))) K') (h : TL cx ops Q rest F (.own (A s) (l s) (c s) E sz (r s) :: tied (ownsU E sz A l c r (s + 1) n) :: K')) : TL cx ops Q rest F K := fun a w hF hK => by
 have h1 : Sat cx.S cx.w0 (ownsU E sz A l c r s (n + 1) ++ K') w := (hK.pick hp).unbun
 have h3 : Sat cx.S cx.w0 (ownsU E sz A l c r (s + 1) n ++ (.own (A s) (l s) (c s) E sz (r s) :: K')) w := h1.perm List.perm_middle.symm
 exact h a w hF (h3.bun.perm (List.Perm.swap _ _ _))
theorem TQ.tiedU {e : Exit} (hp : Pick K (tied (ownsE E sz A l c r 8)) K') (h : TQ cx Q e F (tied (ownsU E sz A l c r 0 8) :: K')) : TQ cx Q e F K := fun a w hF hK => by
 have h1 : Sat cx.S cx.w0 (ownsE E sz A l c r 8 ++ K') w := (hK.pick hp).unbun
 have e : ownsU E sz A l c r 0 8 = (ownsE E sz A l c r 8).reverse := rfl
 have h2 : Sat cx.S cx.w0 (ownsU E sz A l c r 0 8 ++ K') w := by
  rw [e]
  exact h1.perm ((List.reverse_perm _).symm.append_right K')
 exact h a w hF h2.bun
theorem TW.tied0 {x : Code} (r : Nat → Nat → List Value) (h : TW cx x Q F (tied (ownsE E sz (fun _ => none) (fun _ => 0) (fun _ => 0) r 8) :: K)) : TW cx x Q F K := fun a w hF hK => by
 refine h a w hF ((hK.sub ?_).bun)
 simp only [ownsE, List.cons_append, List.nil_append]
 exact KSub.nilOwn (KSub.nilOwn (KSub.nilOwn (KSub.nilOwn (KSub.nilOwn (KSub.nilOwn (KSub.nilOwn (KSub.nilOwn (KSub.refl _))))))))
theorem TL.ownPut {n : Nat} {A9 : Option Addr} {l9 c9 : Nat} {r9 : Nat → List Value} {K1 K2 : List Fact} (hp : Pick K (.own A9 l9 c9 E sz r9) K1) (hp2 : Pick K1 (tied (ownsXE E sz A l c r s n)) K2) (hs : s < n) (hA : A2 s = A9) (hl : l2 s = l9) (hc : c2 s = c9) (hr : ∀ k, k < l9 → r9 k = r2 s k)
  (ho : ∀ i, i < n → i ≠ s → A i = A2 i ∧ l i = l2 i ∧ c i = c2 i ∧ r i = r2 i) (h : TL cx ops Q rest F (tied (ownsE E sz A2 l2 c2 r2 n) :: K2)) : TL cx ops Q rest F K := fun a w hF hK => by
 subst hA hl hc
 have h1 := (hK.pick hp).sub (KSub.own Pick.hd hr (KSub.refl _))
 have h2 := h1.perm ((hp2.perm).cons _)
 have h3 := h2.perm (List.Perm.swap _ _ _)
 have h4 := h3.unbun
 rw [ownsXE_congr ho] at h4
 have h5 : Sat cx.S cx.w0 ((.own (A2 s) (l2 s) (c2 s) E sz (r2 s) :: ownsXE E sz A2 l2 c2 r2 s n) ++ K2) w := h4.perm List.perm_middle
 exact h a w hF ((h5.perm ((ownsE_perm hs).symm.append_right K2)).bun)
theorem Pu.l1V {d : Option Tmp} {ty : TypeId} {pos : String} {af : Array Edge} {g : Option (Nat × Bool)} {x y : Operand} {T kt et : TypeId} {kk : IntKind} {b : Nat} {i : Int} {z : Value} (v : Value) {m : List (Int × Value)} (hT : MapT cx.P T kt et kk) (hz : ∀ w, (zeroValue et).run cx.P w = .ok z w) (hv : (mlook i m).getD z = v) (hx : ev F x = some (.map (some b)) := by rfl) (hy : ev F y = some (.int kk i) := by rfl)
    (hp : Pick K (.obj b (mapO kk m)) K' := by repeat (first | exact Pick.hd | apply Pick.tl)) : Pu cx F K ⟨d, .lookup T x y false, ty, pos, af, g⟩ v := by
  subst hv
  exact Pu.l1 hT hz hx hy hp
end
theorem look_put {i j : Int} {v : Value} : ∀ l : List (Int × Value), mlook j (mput i v l) = if j = i then some v else mlook j l
 | [] => by simp only [mput, mlook]
 | (k, u) :: l => by
  simp only [mput]
  by_cases h : i = k
  · subst h
    rw [if_pos rfl]
    simp only [mlook]
    by_cases e : j = i
    · rw [if_pos e, if_pos e]
    · rw [if_neg e, if_neg e, if_neg e]
  · rw [if_neg h]
    simp only [mlook, look_put l]
    by_cases e : j = k
    · rw [if_pos e, if_pos e, if_neg (fun e2 => h (by rw [← e2, e]))]
    · rw [if_neg e, if_neg e]
noncomputable def propB (p : Prop) : Bool := @decide p (Classical.propDecidable p)
theorem propB_iff {p : Prop} : propB p = true ↔ p := @decide_eq_true_iff p (Classical.propDecidable p)
end Go.Proofs.YtfaenhhgkhcghaaGreatDoor
