/-
  Part 9 of the proof of tollHires_holds: declarations of several texts, in build order. No condition on a program.
-/
import Derived.Test.YtfaenhhgkhcghaaGreatDoorHs08
import Derived.Test.YtfaenhhgkhcghaaGreatDoorHs03
import Derived.ArgAppend
import Derived.Ground.SlgmProg
import Derived.Shelf.SortM.Plain
import Derived.Shelf.SortM.SortNone
import Derived.Test.YtfaenhhgkhcghaaGreatDoorProg
namespace Go.Proofs.YtfaenhhgkhcghaaGreatDoor
set_option linter.all false
set_option linter.unusedVariables false
set_option linter.unusedSimpArgs false
open Go.RowKit
section
variable {Y : Wy} {W A L : Option Addr} {cw cl cn : Nat} {w : World}
theorem cEndY_any (h : LandIn w W Y.nw A Y.nl Y.f Y.x Y.g) (k : Nat) :
 Calls Tryz.prog 102 #[.agg (carL W Y.nw cw A Y.nl cl Y.p0 Y.p1).toArray, .int .i64 (Y.ls k), .int .i64 (wlY Y k)] w (Ret w (.int .i64 (wlY Y (k + 1)))) := cEnd_any _ _ h.hA h.hnl
theorem cLeaveY_any (ho : WyOk Y) (h : LandIn w W Y.nw A Y.nl Y.f Y.x Y.g) (k : Nat) (hk : 0 ≤ Y.ls k ∧ Y.ls k < Y.nl) (hs : 0 ≤ atBY Y k ∧ atBY Y k ≤ atSY Y k ∧ atSY Y k ≤ 100001) :
  Calls Tryz.prog 103 #[.agg (carL W Y.nw cw A Y.nl cl Y.p0 Y.p1).toArray, .int .i64 (Y.ls k), .agg #[.int .i64 (atBY Y k), .int .i64 (atSY Y k)]] w (Ret w (.agg #[.int .i64 (lvBY Y k), .int .i64 (lvSY Y k)])) := by
 have := cLeave_any (cw := cw) (cl := cl) (Y.ls k).toNat (atBY Y k) (atSY Y k) (by omega) h ho.h0 ho.h1 ho.h2 (ho.leg _ (by omega)) (by omega) (by omega)
 rw [Int.toNat_of_nonneg hk.1] at this
 exact this
theorem cArriveY_any (ho : WyOk Y) (h : LandIn w W Y.nw A Y.nl Y.f Y.x Y.g) (k : Nat) (hk : 0 ≤ Y.ls k ∧ Y.ls k < Y.nl) (hs : 0 ≤ atBY Y k ∧ atBY Y k ≤ atSY Y k ∧ atSY Y k ≤ 100001) :
  Calls Tryz.prog 73 #[.agg (carL W Y.nw cw A Y.nl cl Y.p0 Y.p1).toArray, .int .i64 (Y.ls k), .agg #[.int .i64 (atBY Y k), .int .i64 (atSY Y k)]] w (Ret w (.agg #[.int .i64 (atBY Y (k + 1)), .int .i64 (atSY Y (k + 1))])) := by
 have := cArrive_any (cw := cw) (cl := cl) (Y.ls k).toNat (atBY Y k) (atSY Y k) (by omega) h ho.h0 ho.h1 ho.h2 (ho.leg _ (by omega)) (by omega) (by omega)
 rw [Int.toNat_of_nonneg hk.1] at this
 exact this
set_option maxRecDepth 100000 in
set_option maxHeartbeats 4000000 in
theorem cWalk_any (h : LandIn w W Y.nw A Y.nl Y.f Y.x Y.g) (hn : Y.n ≤ 1000) (hR : RdR w 1 L Y.n (fun k => [.int .i64 (Y.ls k)])) :
  CallsK Tryz.prog 57 #[.agg (landL W Y.nw cw A Y.nl cl).toArray, .int .i64 Y.start, .int .i64 Y.day, .agg #[.int .i64 Y.p0, .int .i64 Y.p1], .slice L Y.n cn] [] w ((Option Addr × Nat) × Int) (wkR Y) (wkL Y) := by
 have hnw := h.hnw
 have hnl := h.hnl
 by_cases hok : okY Y = 0
 case neg =>
  unfold landL
  refine K_enter (S := []) (K := []) Tryz.func57 rfl Tryz.ntmps57 rfl (Sat.start _) ?_
  refine TW.seq fun Y1 hY1 => TW.region ?_
  refine TL.m Mk.bx ?_
  intro b1
  refine TL.m Mk.bx ?_
  intro b2
  refine TL.p Pu.as ?_
  refine TL.p Pu.as ?_
  refine TL.p Pu.as ?_
  refine TL.nil (TQ.thenN (hY1 _ _ ?_))
  refine TW.seq fun Y2 hY2 => TW.region ?_
  refine TL.p (Pu.lds ty_ag25) ?_
  refine TL.p (Pu.lds ty_ag36) ?_
  refine TL.cr rfl (enters Tryz.func68 rfl rfl) (fun w hw => by
   exact cOpen_bad (h.ext (Chg.ext hw.chg)) hok) ?_
  refine TL.p Pu.mv ?_
  refine TL.p Pu.ex ?_
  refine TL.p Pu.ex ?_
  refine TL.m (Mk.al ty_zr140) ?_
  intro b3
  first | refine TL.st ty_sz140 ?_ | refine TL.se ty_sz140 ?_
  refine TL.p Pu.as ?_
  refine TL.nil (TQ.thenN (hY2 _ _ ?_))
  refine TW.seq fun Y3 hY3 => ?_
  refine TW.block ?_
  refine TW.seq fun Y4 hY4 => TW.region ?_
  refine TL.p Pu.mv ?_
  refine TL.p Pu.ne ?_
  refine TL.p Pu.as ?_
  refine TL.nil (TQ.thenN (hY4 _ _ ?_))
  refine TW.condT rfl ((by show (!decide (okY Y = 0)) = true; simp [hok])) ?_
  refine TW.seq fun Y5 hY5 => TW.region ?_
  refine TL.p Pu.mv ?_
  refine TL.p Pu.as ?_
  refine TL.p Pu.as ?_
  refine TL.p Pu.as ?_
  refine TL.nil (TQ.thenN (hY5 _ _ ?_))
  refine TW.ret ?_
  refine TQ.blkR ?_
  refine TQ.thenR ?_
  refine TQ.ret Tryz.results57 rfl ((.tmp rfl (.tmp rfl (.tmp rfl .nil)))) ?_
  exact fun w hw => wk_bad hw (wkC_ask hok) hok
 case pos =>
  have ho := wyOk_of hok
  unfold landL
  have fW := fun (w' : World) (h' : LandIn w' W Y.nw A Y.nl Y.f Y.x Y.g) (k : Nat) => cEndY_any (cw := cw) (cl := cl) h' k
  have fL := fun (w' : World) (h' : LandIn w' W Y.nw A Y.nl Y.f Y.x Y.g) (k : Nat) => cLeaveY_any (cw := cw) (cl := cl) ho h' k
  have fA := fun (w' : World) (h' : LandIn w' W Y.nw A Y.nl Y.f Y.x Y.g) (k : Nat) => cArriveY_any (cw := cw) (cl := cl) ho h' k
  unfold carL at fW fL fA
  refine K_enter (S := []) (K := []) Tryz.func57 rfl Tryz.ntmps57 rfl (Sat.start _) ?_
  refine TW.seq fun Y1 hY1 => TW.region ?_
  refine TL.m Mk.bx ?_
  intro b1
  refine TL.m Mk.bx ?_
  intro b2
  refine TL.p Pu.as ?_
  refine TL.p Pu.as ?_
  refine TL.p Pu.as ?_
  refine TL.nil (TQ.thenN (hY1 _ _ ?_))
  refine TW.seq fun Y2 hY2 => TW.region ?_
  refine TL.p (Pu.lds ty_ag25) ?_
  refine TL.p (Pu.lds ty_ag36) ?_
  refine TL.cr rfl (enters Tryz.func68 rfl rfl) (fun w hw => by
   exact cOpen_ok (h.ext (Chg.ext hw.chg)) hok) ?_
  refine TL.p Pu.mv ?_
  refine TL.p Pu.ex ?_
  refine TL.p Pu.ex ?_
  refine TL.m (Mk.al ty_zr140) ?_
  intro b3
  first | refine TL.st ty_sz140 ?_ | refine TL.se ty_sz140 ?_
  refine TL.p Pu.as ?_
  refine TL.nil (TQ.thenN (hY2 _ _ ?_))
  refine TW.seq fun Y3 hY3 => ?_
  refine TW.block ?_
  refine TW.seq fun Y4 hY4 => TW.region ?_
  refine TL.p Pu.mv ?_
  refine TL.p Pu.ne ?_
  refine TL.p Pu.as ?_
  refine TL.nil (TQ.thenN (hY4 _ _ ?_))
  refine TW.condF rfl ((by simp)) ?_
  refine TW.seq fun Y5 hY5 => ?_
  refine TW.join [(32, .bool (!begY Y))] ?_ (fun hJ1 => ?_)
  refine TQ.thenN (hY5 _ _ ?_)
  refine TW.cond rfl (fun hc1 => ?_) (fun hc1 => ?_)
  try simp only [zcb9] at hc1
  have hb : begY Y = false := by simpa using hc1
  refine TW.seq fun Y6 hY6 => TW.region ?_
  refine TL.p Pu.as ?_
  refine TL.p Pu.as ?_
  refine TL.p Pu.as ?_
  refine TL.nil (TQ.thenN (hY6 _ _ ?_))
  refine TW.ret ?_
  refine TQ.blkR ?_
  refine TQ.thenR ?_
  refine TQ.ret Tryz.results57 rfl ((.tmp rfl (.tmp rfl (.tmp rfl .nil)))) ?_
  exact fun w hw => wk_bad hw (wkC_beg hok hb) (by omega)
  try simp only [zcb9] at hc1
  have hb : begY Y = true := by simpa using hc1
  refine TW.seq fun Y7 hY7 => TW.region ?_
  refine TL.p Pu.mv ?_
  refine TL.p (Pu.ln Tryz.underlying31) ?_
  refine TL.p Pu.gt ?_
  refine TL.p Pu.as ?_
  refine TL.nil (TQ.thenN (hY7 _ _ ?_))
  refine TW.cond rfl (fun hc2 => ?_) (fun hc2 => ?_)
  try simp only [zcb9] at hc2
  have h24 : 24 < Y.n := by omega
  refine TW.seq fun Y8 hY8 => TW.region ?_
  refine TL.p Pu.as ?_
  refine TL.p Pu.as ?_
  refine TL.p Pu.as ?_
  refine TL.nil (TQ.thenN (hY8 _ _ ?_))
  refine TW.ret ?_
  refine TQ.blkR ?_
  refine TQ.thenR ?_
  refine TQ.ret Tryz.results57 rfl ((.tmp rfl (.tmp rfl (.tmp rfl .nil)))) ?_
  exact fun w hw => wk_bad hw (wkC_many hok hb h24) (by omega)
  try simp only [zcb9] at hc2
  have h24 : ¬ 24 < Y.n := by omega
  refine TW.skip ?_
  refine TQ.blkN ?_
  refine TQ.thenN (hY3 _ _ ?_)
  refine TW.seq fun Y9 hY9 => TW.region ?_
  refine TL.p Pu.as ?_
  refine TL.nil (TQ.thenN (hY9 _ _ ?_))
  refine TW.seq fun Y10 hY10 => TW.region ?_
  refine TL.p Pu.mv ?_
  refine TL.p Pu.as ?_
  refine TL.nil (TQ.thenN (hY10 _ _ ?_))
  refine TW.seq fun Y11 hY11 => ?_
  refine TW.seq fun Y12 hY12 => TW.region ?_
  refine TL.p Pu.mv ?_
  refine TL.p (Pu.ln Tryz.underlying31) ?_
  refine TL.p Pu.mv ?_
  refine TL.nil (TQ.thenN (hY12 _ _ ?_))
  refine TW.block ?_
  refine TW.loop3 (fun (k : Nat) (E : Option Addr) (ce : Nat) => [(54, .int .i64 (k : Int)), (53, .int .i64 (Y.n : Int)), (52, .slice L Y.n cn), (15, .int .i64 (wlY Y k)), (14, .slice E k ce), (13, .pointer (some ⟨b3, 0, none⟩)), (10, .slice none 0 0), (2, .int .i64 Y.day), (4, .slice L Y.n cn)]) (fun k E ce => [.own E k ce 3 1 (rowV fun j => wlY Y (j + 1)), .blk b3 140 [.slice W Y.nw cw, .slice A Y.nl cl, .int .i64 Y.p0, .int .i64 Y.p1]]) (fun k E ce => k ≤ Y.n ∧ ∀ j, j < k → 0 ≤ wlY Y (j + 1)) (fun k E ce => Y.n - k) 0 none 0 fs9 ?_ ?_ ?_
  exact KSub.nilOwn ks9
  exact ⟨Nat.zero_le _, fun j hj => by omega⟩
  rintro k E ce ⟨hk, hall⟩ Z0 hZ0
  refine TW.seq fun Y13 hY13 => TW.region ?_
  refine TL.p Pu.lt ?_
  refine TL.nil (TQ.thenN (hY13 _ _ ?_))
  refine TW.seq fun Y14 hY14 => ?_
  refine TW.cond rfl (fun hc3 => ?_) (fun hc3 => ?_)
  try simp only [zcb9] at hc3
  have hkn : k < Y.n := by omega
  refine TW.skip ?_
  refine TQ.thenN (hY14 _ _ ?_)
  refine TW.seq fun Y15 hY15 => ?_
  refine TW.block ?_
  refine TW.seq fun Y16 hY16 => TW.region ?_
  refine TL.p Pu.mv ?_
  refine TL.p (Pu.el ty_et31) ?_
  refine TL.p (Pu.ld ty_sc3) ?_
  refine TL.p Pu.as ?_
  refine TL.p Pu.as ?_
  refine TL.nil (TQ.thenN (hY16 _ _ ?_))
  refine TW.seq fun Y17 hY17 => ?_
  refine TW.seq fun Y18 hY18 => TW.region ?_
  refine TL.p (Pu.lds ty_ag140) ?_
  refine TL.p Pu.mv ?_
  refine TL.p Pu.mv ?_
  refine TL.cr rfl (enters Tryz.func102 rfl rfl) (fun w hw => by
   exact fW _ (h.ext (Chg.ext hw.chg)) k) ?_
  refine TL.p Pu.as ?_
  refine TL.nil (TQ.thenN (hY18 _ _ ?_))
  refine TW.seq fun Y19 hY19 => TW.region ?_
  refine TL.p Pu.mv ?_
  refine TL.p Pu.lt ?_
  refine TL.nil (TQ.thenN (hY19 _ _ ?_))
  refine TW.cond rfl (fun hc4 => ?_) (fun hc4 => ?_)
  try simp only [zcb9] at hc4
  have hl9 : wlY Y (k + 1) < 0 := by omega
  refine TW.seq fun Y20 hY20 => TW.region ?_
  refine TL.p Pu.mv ?_
  refine TL.p Pu.as ?_
  refine TL.p Pu.as ?_
  refine TL.p Pu.as ?_
  refine TL.nil (TQ.thenN (hY20 _ _ ?_))
  refine TW.ret ?_
  refine TQ.thenR ?_
  refine TQ.blkR ?_
  refine TQ.thenR ?_
  refine TQ.thenR ?_
  refine TQ.blkR ?_
  refine TQ.thenR ?_
  refine TQ.ret Tryz.results57 rfl ((.tmp rfl (.tmp rfl (.tmp rfl .nil)))) ?_
  exact fun w hw => wk_bad hw (wkC_lost hok hb h24 (lost_yes hkn hl9)) (by omega)
  try simp only [zcb9] at hc4
  have hl9 : 0 ≤ wlY Y (k + 1) := by omega
  refine TW.skip ?_
  refine TQ.thenN (hY17 _ _ ?_)
  refine TW.region ?_
  refine TL.p Pu.mv ?_
  refine TL.p Pu.mv ?_
  refine TL.m Mk.bl ?_
  intro b4
  first | refine TL.a0 ty_et31 ?_ | refine TL.ap ty_et31 ?_
  intro A5 c5
  refine TL.p Pu.as ?_
  refine TL.nil ?_
  refine TQ.blkN ?_
  refine TQ.thenN (hY15 _ _ ?_)
  refine TW.region ?_
  refine TL.p Pu.ad ?_
  refine TL.p Pu.mv ?_
  refine TL.nil ?_
  refine TQ.thenN (hZ0 (k + 1) _ _ _ _ ?_ ?_ fs9 ?_)
  exact ⟨by omega, fun j hj => (Nat.lt_succ_iff_lt_or_eq.1 hj).elim (hall j) (fun e => e ▸ hl9)⟩
  exact zom9
  exact KSub.own pk9 (stp_row (r := rowV fun j => wlY Y (j + 1)) rfl) ks9
  try simp only [zcb9] at hc3
  obtain rfl : k = Y.n := by omega
  have hlost := lost_no hall
  refine TW.exit ?_
  refine TQ.thenX ?_
  refine TQ.thenX ?_
  refine TQ.blkX ?_
  refine TQ.thenN (hY11 _ _ ?_)
  refine TW.seq fun Y21 hY21 => TW.region ?_
  refine TL.p Pu.mv ?_
  refine TL.p Pu.mv ?_
  refine TL.p Pu.bd ?_
  refine TL.m (Mk.al ty_zr152) ?_
  intro b6
  first | refine TL.st ty_sz152 ?_ | refine TL.se ty_sz152 ?_
  refine TL.nil (TQ.thenN (hY21 _ _ ?_))
  refine TW.seq fun Y22 hY22 => ?_
  refine TW.seq fun Y23 hY23 => TW.region ?_
  refine TL.p Pu.mv ?_
  refine TL.p (Pu.ln Tryz.underlying31) ?_
  refine TL.p Pu.mv ?_
  refine TL.nil (TQ.thenN (hY23 _ _ ?_))
  refine TW.block ?_
  refine TW.loop3 (fun (k : Nat) (E2 : Option Addr) (ce2 : Nat) => [(76, .int .i64 (k : Int)), (75, .int .i64 (Y.n : Int)), (74, .slice L Y.n cn), (10, .slice E2 k ce2), (14, .slice E Y.n ce), (13, .pointer (some ⟨b3, 0, none⟩)), (18, .pointer (some ⟨b6, 0, none⟩))]) (fun k E2 ce2 => [.own E2 k ce2 160 6 (fun k => stopL (stY Y k)), .own E Y.n ce 3 1 (rowV fun j => wlY Y (j + 1)), .blk b6 152 [.int .i64 (atBY Y k), .int .i64 (atSY Y k)], .blk b3 140 [.slice W Y.nw cw, .slice A Y.nl cl, .int .i64 Y.p0, .int .i64 Y.p1]]) (fun k E2 ce2 => k ≤ Y.n ∧ ∀ j, j < k → atSY Y (j + 1) ≤ 100000) (fun k E2 ce2 => Y.n - k) 0 none 0 fs9 ?_ ?_ ?_
  exact KSub.nilOwn ks9
  exact ⟨Nat.zero_le _, fun j hj => by omega⟩
  rintro k E2 ce2 ⟨hk, hall2⟩ Z1 hZ1
  refine TW.seq fun Y24 hY24 => TW.region ?_
  refine TL.p Pu.lt ?_
  refine TL.nil (TQ.thenN (hY24 _ _ ?_))
  refine TW.seq fun Y25 hY25 => ?_
  refine TW.cond rfl (fun hc5 => ?_) (fun hc5 => ?_)
  try simp only [zcb9] at hc5
  have hkn : k < Y.n := by omega
  have hin := ls_ok (hall k hkn)
  have hat := at_ok ho hb hall (k := k) (by omega)
  have hat1 := at_ok ho hb hall (k := k + 1) (by omega)
  refine TW.skip ?_
  refine TQ.thenN (hY25 _ _ ?_)
  refine TW.seq fun Y26 hY26 => ?_
  refine TW.block ?_
  refine TW.seq fun Y27 hY27 => TW.region ?_
  refine TL.p Pu.mv ?_
  refine TL.p (Pu.el ty_et31) ?_
  refine TL.p (Pu.ld ty_sc3) ?_
  refine TL.p Pu.as ?_
  refine TL.p Pu.as ?_
  refine TL.nil (TQ.thenN (hY27 _ _ ?_))
  refine TW.seq fun Y28 hY28 => TW.region ?_
  refine TL.p (Pu.lds ty_ag140) ?_
  refine TL.p Pu.mv ?_
  refine TL.p (Pu.lds ty_ag152) ?_
  refine TL.cr rfl (enters Tryz.func103 rfl rfl) (fun w hw => by
   exact fL _ (h.ext (Chg.ext hw.chg)) k hin hat) ?_
  refine TL.m (Mk.al ty_zr152) ?_
  intro b7
  first | refine TL.st ty_sz152 ?_ | refine TL.se ty_sz152 ?_
  refine TL.nil (TQ.thenN (hY28 _ _ ?_))
  refine TW.seq fun Y29 hY29 => ?_
  refine TW.seq fun Y30 hY30 => TW.region ?_
  refine TL.p (Pu.lds ty_ag140) ?_
  refine TL.p Pu.mv ?_
  refine TL.p (Pu.lds ty_ag152) ?_
  refine TL.cr rfl (enters Tryz.func73 rfl rfl) (fun w hw => by
   exact fA _ (h.ext (Chg.ext hw.chg)) k hin hat) ?_
  first | refine TL.st ty_sz152 ?_ | refine TL.se ty_sz152 ?_
  refine TL.nil (TQ.thenN (hY30 _ _ ?_))
  refine TW.seq fun Y31 hY31 => TW.region ?_
  refine TL.obn (b := b6) (n := 2) (sz := 1) (r := rowV (two (atBY Y (k + 1)) (atSY Y (k + 1)))) pk9 rfl (fun _ _ => rfl) ?_
  refine TL.p (Pu.ea (q := 1) ty_ar152 (hk := rfl)) ?_
  refine TL.p (Pu.ld ty_sc3) ?_
  refine TL.bo (b := b6) (cs := [.int .i64 (atBY Y (k + 1)), .int .i64 (atSY Y (k + 1))]) pk9 rfl ?_
  refine TL.p Pu.gt ?_
  refine TL.nil (TQ.thenN (hY31 _ _ ?_))
  refine TW.cond rfl (fun hc6 => ?_) (fun hc6 => ?_)
  try simp only [zcb9] at hc6
  have h9 : 100000 < atSY Y (k + 1) := by simpa [two] using hc6
  refine TW.seq fun Y32 hY32 => TW.region ?_
  refine TL.p Pu.mv ?_
  refine TL.p Pu.as ?_
  refine TL.p Pu.as ?_
  refine TL.p Pu.as ?_
  refine TL.nil (TQ.thenN (hY32 _ _ ?_))
  refine TW.ret ?_
  refine TQ.thenR ?_
  refine TQ.blkR ?_
  refine TQ.thenR ?_
  refine TQ.thenR ?_
  refine TQ.blkR ?_
  refine TQ.thenR ?_
  refine TQ.ret Tryz.results57 rfl ((.tmp rfl (.tmp rfl (.tmp rfl .nil)))) ?_
  exact fun w hw => wk_bad hw (wkC_late hok hb h24 (lost_no hall) (late_yes hkn h9)) (by omega)
  try simp only [zcb9] at hc6
  have h9 : atSY Y (k + 1) ≤ 100000 := by simpa [two] using hc6
  refine TW.skip ?_
  refine TQ.thenN (hY29 _ _ ?_)
  refine TW.dw 12 ?_
  refine RK.tk Pu.mv ?_
  refine RK.tk Pu.mv ?_
  refine RK.tk Pu.mv ?_
  refine RK.tk Pu.mv ?_
  refine RK.tk (Pu.el ty_et31) ?_
  refine RK.tk (Pu.ld ty_sc3) ?_
  refine RK.tk (Pu.lds ty_ag152) ?_
  refine RK.keep ?_
  refine RK.tk (Pu.lds ty_ag152) ?_
  refine RK.keep ?_
  refine RK.keep ?_
  refine RK.keep ?_
  refine RK.ch [false, false, true, false] ?_ trivial
  refine WK.cr rfl (enters Tryz.func104 rfl rfl) (fun w hw => by
   exact wSpan_any _ _ _) ?_
  refine WK.cr rfl (enters Tryz.func104 rfl rfl) (fun w hw => by
   exact wSpan_any _ _ _) ?_
  refine WK.p Pu.bd ?_
  refine WK.m Mk.bl ?_
  intro b8
  refine WK.n ?_
  first | refine TL.a0 ty_et83 ?_ | refine TL.ap ty_et83 ?_
  intro A9 c9
  refine TL.p Pu.as ?_
  refine TL.nil ?_
  refine TQ.blkN ?_
  refine TQ.thenN (hY26 _ _ ?_)
  refine TW.region ?_
  refine TL.p Pu.ad ?_
  refine TL.p Pu.mv ?_
  refine TL.nil ?_
  refine TQ.thenN (hZ1 (k + 1) _ _ _ _ ?_ ?_ fs9 ?_)
  exact ⟨by omega, fun j hj => (Nat.lt_succ_iff_lt_or_eq.1 hj).elim (hall2 j) (fun e => e ▸ h9)⟩
  exact zom9
  exact KSub.own pk9 (stp_row (r := fun k => stopL (stY Y k)) rfl) ks9
  try simp only [zcb9] at hc5
  obtain rfl : k = Y.n := by omega
  have hlate := late_no hall2
  refine TW.exit ?_
  refine TQ.thenX ?_
  refine TQ.thenX ?_
  refine TQ.blkX ?_
  refine TQ.thenN (hY22 _ _ ?_)
  refine TW.seq fun Y33 hY33 => TW.region ?_
  refine TL.p Pu.mv ?_
  refine TL.p Pu.as ?_
  refine TL.p Pu.as ?_
  refine TL.p Pu.as ?_
  refine TL.nil (TQ.thenN (hY33 _ _ ?_))
  refine TW.ret ?_
  refine TQ.ret Tryz.results57 rfl ((.tmp rfl (.tmp rfl (.tmp rfl .nil)))) ?_
  have hc9 := wkC_ok hok hb h24 hlost hlate
  have hn9 := wkN_n hc9
  exact fun w hw => ⟨((E2, ce2), 0), by unfold wkR; rw [hn9, hc9]; rfl, by unfold wkL; rw [hn9]; exact hw.sub (KSub.cons pk9 KSub.nil)⟩
  refine TW.region ?_
  refine TL.p (by first | exact Pu.fb ty_fa25_0 | exact Pu.fe ty_fa25_0) ?_
  refine TL.p (Pu.ld ty_sc22) ?_
  refine TL.p (Pu.ln Tryz.underlying22) ?_
  refine TL.p Pu.sb ?_
  refine TL.p Pu.mv ?_
  refine TL.m Mk.bl ?_
  intro b10
  refine TL.cr rfl (enters Tryz.func69 rfl rfl) (fun w hw => by
   exact fromOne_any _ _ _ (hw.holds _ (List.mem_cons_self ..))) ?_
  refine TL.p Pu.no ?_
  refine TL.p Pu.mv ?_
  refine TL.guard (t := 41) rfl (fun hg1 => ?_) (fun hg1 => ?_)
  refine TL.gs ?_
  refine TL.gs ?_
  refine TL.gs ?_
  refine TL.gs ?_
  refine TL.p Pu.kt ?_
  refine TL.p Pu.as ?_
  refine TL.nil ?_
  exact TQ.sub (by repeat (first | exact trivial | refine ⟨rfl, ?_⟩ | refine ⟨trivial, ?_⟩ | refine ⟨(by show some (Value.bool _) = some (Value.bool _); first | (simp [hg1, begY]; done) | (refine congrArg (fun z => some (Value.bool z)) (Bool.eq_iff_iff.2 ?_); simp [hg1, begY]; omega)), ?_⟩)) ks9 hJ1
  refine TL.gd Pu.mv ?_
  refine TL.gm Mk.bl ?_
  intro b11
  refine TL.cr rfl (enters Tryz.func69 rfl rfl) (fun w hw => by
   exact fromOne_any _ _ _ (hw.holds _ (List.mem_cons_self ..))) ?_
  refine TL.gd Pu.no ?_
  refine TL.p Pu.kf ?_
  refine TL.p Pu.as ?_
  refine TL.nil ?_
  exact TQ.sub (by repeat (first | exact trivial | refine ⟨rfl, ?_⟩ | refine ⟨trivial, ?_⟩ | refine ⟨(by show some (Value.bool _) = some (Value.bool _); first | (simp [hg1, begY]; done) | (refine congrArg (fun z => some (Value.bool z)) (Bool.eq_iff_iff.2 ?_); simp [hg1, begY]; omega)), ?_⟩)) ks9 hJ1
end
end Go.Proofs.YtfaenhhgkhcghaaGreatDoor
namespace Go.Proofs.YtfaenhhgkhcghaaGreatDoor
set_option linter.all false
set_option linter.unusedVariables false
set_option linter.unusedSimpArgs false
open Go.RowKit
section
variable {P : Program} {ops : Array Oper} {Q : Exit → Act → World → Prop} {md : Region.Mode} {S1 S : World → Prop} {s : Nat}
def wpUntil (P : Program) (md : Region.Mode) (ops : Array Oper) (Q : Exit → Act → World → Prop) (S1 S : World → Prop) (s : Nat) : Nat → Array Bool → Act → World → Prop
 | 0, l, a, w => Region.ready md ops l = [] ∧ Q .normal a w
 | n + 1, l, a, w => (Region.ready md ops l = [] → Q .normal a w) ∧ ∀ i ∈ Region.ready md ops l, wpOp P ops Q i (fun a' w' => S1 w' ∧ ((l.setIfInBounds i true).getD s true = false → S w') ∧ wpUntil P md ops Q S1 S s n (l.setIfInBounds i true) a' w') a w
theorem until_any : ∀ (n : Nat) (l : Array Bool) (a : Act) (w : World), wpUntil P md ops Q S1 S s n l a w → wpAnyH P md ops Q S1 n l a w
 | 0, _, _, _, h => h
 | n + 1, _, _, _, h => ⟨h.1, fun i hi => wpOp_mono (fun a' w' h' => ⟨h'.1, until_any n _ a' w' h'.2.2⟩) (h.2 i hi)⟩
theorem set_stays {l : Array Bool} {i : Nat} (h : l.getD s true = true) : (l.setIfInBounds i true).getD s true = true := by
 by_cases hi : i = s
 · subst hi
   by_cases hlt : i < l.size
   · simp [hlt]
   · simp [hlt]
 · rw [getD_set_ne true hi]; exact h
theorem until_of_any : ∀ (n : Nat) (l : Array Bool) (a : Act) (w : World), l.getD s true = true → wpAnyH P md ops Q S1 n l a w → wpUntil P md ops Q S1 S s n l a w
 | 0, _, _, _, _, h => h
 | n + 1, l, _, _, hs, h => ⟨h.1, fun i hi => wpOp_mono (fun a' w' h' => ⟨h'.1, fun h0 => (by rw [set_stays hs] at h0; cases h0), until_of_any n _ a' w' (set_stays hs) h'.2⟩) (h.2 i hi)⟩
theorem until_first {i : Nat} {oi : Oper} {v : Value} {T : World → Prop} (hi : ops[i]? = some oi) (hsel : ∀ (j : Nat) (o : Oper) cs b, ops[j]? = some o → o.op ≠ .select cs b)
    (hQ : ∀ c a w, Q (.panic c) (a.put oi.dst v) w → Q (.panic c) a w) (his : i ≠ s)
    (hT : (T = S ∧ ∃ os, ops[s]? = some os ∧ ∃ e ∈ os.after, Region.binds md e = true ∧ e.on = i) ∨ T = S1) :
    ∀ (n : Nat) (l : Array Bool) (a : Act) (w : World),
      (∀ j oj, ops[j]? = some oj → j ≠ i → l.getD j true = false → (∀ e ∈ oj.after, Region.binds md e = true → e.on ≠ i) → oi.apart ops oj = true) →
      i ∈ Region.ready md ops l → YieldsIf P ops T oi v a → l.getD s true = false → S1 w → S w →
      wpUntil P md ops Q S1 S s n (l.setIfInBounds i true) (a.put oi.dst v) w → wpUntil P md ops Q S1 S s (n + 1) l a w := by
  intro n
  have hTw : ∀ w, S1 w → S w → T w := fun w h1 h => by
    rcases hT with ⟨rfl, _⟩ | rfl
    · exact h
    · exact h1
  induction n with
  | zero =>
    intro l a w _ hr hy hs hS1 hS H
    refine ⟨fun h => (by rw [h] at hr; cases hr), fun j hj => ?_⟩
    by_cases hji : j = i
    · subst hji; exact hy.wpOp hi (hTw w hS1 hS) ⟨hS1, fun _ => hS, H⟩
    · have := ready_mono hj hji
      rw [H.1] at this
      cases this
  | succ n ih =>
    intro l a w hfree hr hy hs hS1 hS H
    refine ⟨fun h => (by rw [h] at hr; cases hr), fun j hj => ?_⟩
    by_cases hji : j = i
    · subst hji; exact hy.wpOp hi (hTw w hS1 hS) ⟨hS1, fun _ => hS, H⟩
    · have h1 := H.2 j (ready_mono hj hji)
      obtain ⟨hjun, oj, hoj, hall⟩ := mem_ready.1 hj
      have hiun := (mem_ready.1 hr).1
      have hnot : ∀ e ∈ oj.after, Region.binds md e = true → e.on ≠ i := fun e he hb heq => by
        have h2 := hall e he hb
        rw [heq] at h2
        rcases Nat.lt_or_ge i l.size with h' | h'
        · simp [h'] at hiun h2; rw [hiun] at h2; cases h2
        · simp [Array.getElem?_eq_none h'] at h2
      have h2 := wpOp_putIf hoj (hfree j oj hoj hji hjun hnot) (fun cs b => hsel i oi cs b hi) (fun cs b => hsel j oj cs b hoj) hQ hy h1
      have hfree' : ∀ k ok, ops[k]? = some ok → k ≠ i → (l.setIfInBounds j true).getD k true = false →
          (∀ e ∈ ok.after, Region.binds md e = true → e.on ≠ i) → oi.apart ops ok = true := fun k ok hk hki hun hno => by
        refine hfree k ok hk hki ?_ hno
        by_cases hjk : j = k
        · subst hjk; exact hjun
        · rw [getD_set_ne true hjk] at hun; exact hun
      have hcomm : (l.setIfInBounds i true).setIfInBounds j true = (l.setIfInBounds j true).setIfInBounds i true := Array.setIfInBounds_comm _ _ (fun e => hji e.symm)
      have hbit : ((l.setIfInBounds i true).setIfInBounds j true).getD s true = (l.setIfInBounds j true).getD s true := by rw [hcomm, getD_set_ne true his]
      refine wpOp_mono (fun a' w' h3 => ?_) h2
      obtain ⟨hy', hS1', hS', H'⟩ := h3
      rw [hbit] at hS'
      by_cases hjs : (l.setIfInBounds j true).getD s true = false
      · refine ⟨hS1', fun _ => hS' hjs, ih (l.setIfInBounds j true) a' w' hfree' (ready_mono hr (Ne.symm hji)) hy' hjs hS1' (hS' hjs) ?_⟩
        rw [← hcomm]
        exact H'
      · have hjs' : (l.setIfInBounds j true).getD s true = true := by simpa using hjs
        refine ⟨hS1', fun h => absurd h hjs, ?_⟩
        rcases hT with ⟨_, os, hos, e, he, hb, hei⟩ | rfl
        · exfalso
          have hsj : j = s := by
            by_cases hne : j = s
            · exact hne
            · rw [getD_set_ne true hne, hs] at hjs'; cases hjs'
          subst hsj
          rw [hoj] at hos
          cases hos
          exact hnot e he hb hei
        · refine until_of_any _ _ _ _ hjs' (wpAnyH_first hi hsel hQ n (l.setIfInBounds j true) a' w' hfree' (ready_mono hr (Ne.symm hji)) hy' hS1' ?_)
          have := until_any _ _ _ _ H'
          rw [hcomm] at this
          exact this
end
theorem wpOp_of_TL {c : Cx} {Q : Exit → Act → World → Prop} {F : Fr} {K : List Fact} {ops : Array Oper} {j : Nat} {o : Oper} {Z : Act → World → Prop} (ho : ops[j]? = some o) (h : TL c ops (nxt Z Q) [o] F K) {a : Act} {w : World} (hF : FS c.n c.D F a) (hK : Sat c.S c.w0 K w) : wpOp c.P ops Q j Z a w := by
 have h1 := h a w hF hK
 unfold wpList at h1
 unfold wpOp
 simp only [ho]
 split
 · rename_i hw
   rw [if_pos hw] at h1
   rcases h1 with h1 | ⟨hA, hL⟩
   · refine .inl ?_
     unfold Oper.wp at *
     generalize (execOp a.eval o).run c.P w = r at *
     cases r with
     | ok x w' =>
      cases x <;> simp only [Oper.upon] at h1 ⊢ <;> first
       | exact h1
       | exact Calls.mono h1 (fun e w'' he => by
        cases e with
        | returned v => exact he
        | panicked ch => exact he
        | outgrown => obtain ⟨x, y, z⟩ := he; exact ⟨x, y, z⟩)
       | exact Rows.mono h1 (fun _ _ he => he)
     | halt x w' => cases x <;> simp only [Oper.upon] at h1 ⊢ <;> exact h1
   · obtain ⟨x, y, z⟩ := hL
     exact .inr ⟨hA, x, y, z⟩
 · rename_i hw
   rw [if_neg hw] at h1
   exact h1
section
variable {c : Cx} {Q : Exit → Act → World → Prop} {F F' : Fr} {K K' K0 : List Fact} {ops : Array Oper} {listed : Array Bool} {fuel s : Nat}
def RU (c : Cx) (ops : Array Oper) (Q : Exit → Act → World → Prop) (K0 : List Fact) (s : Nat) (listed : Array Bool) (fuel : Nat) (F : Fr) (K : List Fact) : Prop :=
 ∀ a w, FS c.n c.D F a → Sat c.S c.w0 K w → wpUntil c.P .any ops Q (Sat c.S c.w0 []) (Sat c.S c.w0 K0) s fuel listed a w
def waitsB (ops : Array Oper) (s i : Nat) : Bool := match ops[s]? with
  | some o => o.after.any fun e => Region.binds .any e && e.on == i
  | none => false
theorem waits_spec {i : Nat} (h : waitsB ops s i = true) : ∃ os, ops[s]? = some os ∧ ∃ e ∈ os.after, Region.binds .any e = true ∧ e.on = i := by
 unfold waitsB at h
 split at h
 · rename_i o ho
   obtain ⟨e, he, h2⟩ := Array.any_eq_true'.1 h
   simp only [Bool.and_eq_true, beq_iff_eq] at h2
   exact ⟨o, ho, e, he, h2.1, h2.2⟩
 · cases h
theorem TW.exu {id : Nat} {l : List Oper} (s : Nat) (K0 : List Fact) (h2 : RU c l.toArray Q K0 s (Array.replicate l.length false) l.length F K) (hm : c.P.follows .mixedOrders = true := by rfl) : TW c (.region id l.toArray true) Q F K := fun a w hF hK => by
 refine wp_region_any hm (wpAny_of_held (S := Sat c.S c.w0 []) _ _ _ _ (until_any (S := Sat c.S c.w0 K0) (s := s) _ _ _ _ ?_))
 rw [List.size_toArray]
 exact h2 a w.drew hF (hK.ext (keep_drew w))
theorem RU.tk (i : Nat) {op : Op} {ty : TypeId} {pos : String} {af : Array Edge} {g : Option (Nat × Bool)} {t : Nat} {v : Value} (ho : ops[i]? = some ⟨some t, op, ty, pos, af, g⟩) (hp : Pu c F K0 ⟨some t, op, ty, pos, af, g⟩ v) (h : RU c ops Q K0 s (listed.setIfInBounds i true) fuel ((t, v) :: F) K) (hh : HasL K K0 := by repeat (first | exact HasL.nil | refine HasL.cons pk9 ?_)) (hk : takeA ops listed i = true := by kernel_rfl) (hw : waitsB ops s i = true := by kernel_rfl) (hn : Nat.beq i s = false := by rfl) (hu : listed.getD s true = false := by kernel_rfl) (hg : gdB F ops g = some true := by rfl) (hd : Nat.blt t c.n = true := by rfl) (hpan : Pan Q := by (intro d _ _ _ _; cases d <;> exact Iff.rfl)) :
    RU c ops Q K0 s listed (fuel + 1) F K := fun a w hF hK => by
  simp only [takeA, Bool.and_eq_true] at hk
  have his : i ≠ s := fun e => by rw [beq_iff.2 e] at hn; cases hn
  exact until_first ho (Region.noSelect_spec hk.1.1) (fun ch a w h => (hpan _ v ch a w).1 h) his (.inl ⟨rfl, waits_spec hw⟩) fuel listed a w (Region.free_spec ho hk.1.2) (by simpa using hk.2) (.inl ⟨hF.wanted hg, fun w' hS => hp a w' hF hS⟩) hu (HasL.nil.has.sat hK) (hh.has.sat hK) (h _ w (hF.put hd v) hK)
theorem RU.tm (i : Nat) {op : Op} {ty : TypeId} {pos : String} {af : Array Edge} {g : Option (Nat × Bool)} {t : Nat} {v : Value} (ho : ops[i]? = some ⟨some t, op, ty, pos, af, g⟩) (hp : Pu c F [] ⟨some t, op, ty, pos, af, g⟩ v) (h : RU c ops Q K0 s (listed.setIfInBounds i true) fuel ((t, v) :: F) K) (hh : HasL K K0 := by repeat (first | exact HasL.nil | refine HasL.cons pk9 ?_)) (hk : takeA ops listed i = true := by kernel_rfl) (hn : Nat.beq i s = false := by rfl) (hu : listed.getD s true = false := by kernel_rfl) (hg : gdB F ops g = some true := by rfl) (hd : Nat.blt t c.n = true := by rfl) (hpan : Pan Q := by (intro d _ _ _ _; cases d <;> exact Iff.rfl)) :
    RU c ops Q K0 s listed (fuel + 1) F K := fun a w hF hK => by
  simp only [takeA, Bool.and_eq_true] at hk
  have his : i ≠ s := fun e => by rw [beq_iff.2 e] at hn; cases hn
  exact until_first (T := Sat c.S c.w0 []) ho (Region.noSelect_spec hk.1.1) (fun ch a w h => (hpan _ v ch a w).1 h) his (.inr rfl) fuel listed a w (Region.free_spec ho hk.1.2) (by simpa using hk.2) (.inl ⟨hF.wanted hg, fun w' hS => hp a w' hF hS⟩) hu (HasL.nil.has.sat hK) (hh.has.sat hK) (h _ w (hF.put hd v) hK)
theorem RU.a1 (i : Nat) {o : Oper} (ho : ops[i]? = some o) (h : ∀ Z : Act → World → Prop, (∀ F2 K2, HasL K2 K0 → RU c ops Q K0 s (listed.setIfInBounds i true) fuel F2 K2 → TQ c (fun _ => Z) .normal F2 K2) → TL c ops (nxt Z Q) [o] F K) (hr : Region.ready .any ops listed = [i] := by kernel_rfl) : RU c ops Q K0 s listed (fuel + 1) F K := fun a w hF hK => by
 refine ⟨fun h0 => (by rw [hr] at h0; cases h0), fun j hj => ?_⟩
 rw [hr, List.mem_singleton] at hj
 subst hj
 exact wpOp_of_TL ho (h (fun a' w' => Sat c.S c.w0 [] w' ∧ ((listed.setIfInBounds j true).getD s true = false → Sat c.S c.w0 K0 w') ∧ wpUntil c.P .any ops Q (Sat c.S c.w0 []) (Sat c.S c.w0 K0) s fuel (listed.setIfInBounds j true) a' w') (fun F2 K2 hh hg a' w' hF2 hK2 => ⟨HasL.nil.has.sat hK2, fun _ => hh.has.sat hK2, hg a' w' hF2 hK2⟩)) hF hK
theorem RU.st {o : Oper} (ho : ops[s]? = some o) (h : ∀ Z : Act → World → Prop, (∀ F2 K2, RG c ops Q [] [] (listed.setIfInBounds s true) fuel F2 K2 → TQ c (fun _ => Z) .normal F2 K2) → TL c ops (nxt Z Q) [o] F K) (hr : Region.ready .any ops listed = [s] := by kernel_rfl) (hu : (listed.setIfInBounds s true).getD s true = true := by kernel_rfl) : RU c ops Q K0 s listed (fuel + 1) F K := fun a w hF hK => by
 refine ⟨fun h0 => (by rw [hr] at h0; cases h0), fun j hj => ?_⟩
 rw [hr, List.mem_singleton] at hj
 subst hj
 exact wpOp_of_TL ho (h (fun a' w' => Sat c.S c.w0 [] w' ∧ ((listed.setIfInBounds j true).getD j true = false → Sat c.S c.w0 K0 w') ∧ wpUntil c.P .any ops Q (Sat c.S c.w0 []) (Sat c.S c.w0 K0) j fuel (listed.setIfInBounds j true) a' w') (fun F2 K2 hg a' w' hF2 hK2 => ⟨HasL.nil.has.sat hK2, fun h0 => (by rw [hu] at h0; cases h0), until_of_any _ _ _ _ hu (hg (fun p hp => by cases hp) a' w' hF2 hK2)⟩)) hF hK
end
end Go.Proofs.YtfaenhhgkhcghaaGreatDoor
namespace Go.Proofs.YtfaenhhgkhcghaaGreatDoor
set_option linter.all false
set_option linter.unusedVariables false
set_option linter.unusedSimpArgs false
open Go.RowKit Go.MapKept
abbrev Gl := List (Int × Value × Nat)
def entG (kk : IntKind) (x : Int × Value × Nat) : MapEntry := { key := .int kk x.1, val := x.2.1, born := x.2.2 }
def gO (kk : IntKind) (t : Gl) (n : Nat) : Obj := .map (t.map (entG kk)).toArray n
def gl (t : Gl) : List (Int × Value) := t.map fun x => (x.1, x.2.1)
def mdel (i : Int) : List (Int × Value) → List (Int × Value)
 | [] => []
 | (k, u) :: l => if i = k then l else (k, u) :: mdel i l
theorem findNow_entG (kk : IntKind) (i : Int) : ∀ (t : Gl) (q : Nat), Instr.findNow (.int kk) (.int kk i) (t.map (entG kk)) q = some (mfind i q (gl t))
  | [], _ => rfl
  | (k, v, s) :: l, q => by
    by_cases h : i = k
    · subst h; simp [entG, gl, Instr.findNow, Instr.sameNow, mfind]
    · have hb : (i == k) = false := by simpa using h
      have ih := findNow_entG kk i l (q + 1)
      simp only [List.map_cons, gl] at ih ⊢
      simp [entG, Instr.findNow, Instr.sameNow, mfind, h, hb]
      simpa [entG] using ih
theorem mfind_at {i : Int} {u : Value} : ∀ {t : Gl} {q p : Nat}, mfind i q (gl t) = some (q + p, u) → ∃ b, t[p]? = some (i, u, b) ∧ gl (t.eraseIdx p) = mdel i (gl t) ∧ ∀ v, gl (t.modify p fun x => (i, v, x.2.2)) = mput i v (gl t)
  | [], _, _, h => by simp [gl, mfind] at h
  | (k, w, s) :: l, q, p, h => by
    by_cases hk : i = k
    · simp [gl, mfind, hk] at h
      obtain ⟨h1, h2⟩ := h
      subst h1 h2 hk
      exact ⟨s, by simp, by simp [gl, mdel], fun v => by simp [gl, mput]⟩
    · have h' : mfind i (q + 1) (gl l) = some (q + p, u) := by simpa [gl, mfind, hk] using h
      have hp : 0 < p := by
        have := mput_some.mfind_ge h'
        omega
      obtain ⟨p', rfl⟩ : ∃ p', p = p' + 1 := ⟨p - 1, by omega⟩
      rw [show q + (p' + 1) = (q + 1) + p' by omega] at h'
      obtain ⟨b, h1, h2, h3⟩ := mfind_at h'
      refine ⟨b, by simpa using h1, ?_, fun v => ?_⟩
      · simp only [List.eraseIdx_cons_succ]
        show (k, w) :: gl (l.eraseIdx p') = mdel i ((k, w) :: gl l)
        rw [h2]; simp [mdel, hk]
      · simp only [List.modify_succ_cons]
        show (k, w) :: gl (l.modify p' _) = mput i v ((k, w) :: gl l)
        rw [h3 v]; simp [mput, hk]
theorem mput_no {i : Int} {v : Value} : ∀ {l : List (Int × Value)} {q : Nat}, mfind i q l = none → mput i v l = l ++ [(i, v)]
  | [], _, _ => rfl
  | (k, u) :: l, q, h => by
    by_cases hk : i = k
    · simp [mfind, hk] at h
    · have h' : mfind i (q + 1) l = none := by simpa [mfind, hk] using h
      simp [mput, hk, mput_no h']
theorem mdel_no {i : Int} : ∀ {l : List (Int × Value)} {q : Nat}, mfind i q l = none → mdel i l = l
  | [], _, _ => rfl
  | (k, u) :: l, q, h => by
    by_cases hk : i = k
    · simp [mfind, hk] at h
    · have h' : mfind i (q + 1) l = none := by simpa [mfind, hk] using h
      simp [mdel, hk, mdel_no h']
theorem erase_map {α β : Type} (f : α → β) : ∀ (l : List α) (p : Nat), (l.map f).eraseIdx p = (l.eraseIdx p).map f
 | [], _ => rfl
 | _ :: _, 0 => rfl
 | x :: l, p + 1 => by simp [erase_map f l p]
theorem run_getObj_g {P : Program} {w : World} {b n : Nat} {kk : IntKind} {t : Gl} (hb : w.heap[b]? = some (gO kk t n)) : (getObj b).run P w = .ok (.map (t.map (entG kk)).toArray n) w := by
 unfold gO at hb
 exact Go.MapKept.run_getObj_map hb
theorem run_setObj_g {P : Program} {w : World} {b n : Nat} {kk : IntKind} {t : Gl} (o : Obj) (hb : w.heap[b]? = some (gO kk t n)) : (setObj b o).run P w = .ok () { w with heap := w.heap.setIfInBounds b o } := by
 unfold gO at hb
 exact Go.MapKept.run_setObj_map o hb
theorem run_lookup_g {P : Program} {T kt et : TypeId} {kk : IntKind} {w : World} {b n : Nat} {t : Gl} {i : Int} {z : Value} (hT : MapT P T kt et kk) (hb : w.heap[b]? = some (gO kk t n)) (hz : (zeroValue et).run P w = .ok z w) (ok : Bool) :
  (Instr.lookup T (.map (some b)) (.int kk i) ok).run P w = .ok (if ok then .tuple #[(mlook i (gl t)).getD z, .bool (mlook i (gl t)).isSome] else (mlook i (gl t)).getD z) w := by
 have h0 := findNow_entG kk i t 0
 have hf : (Instr.findKey kt (.int kk i) (t.map (entG kk))).run P w = .ok (mfind i 0 (gl t)) w := run_findKey hT.key h0
 have hl := mfind_look i (gl t) 0
 unfold Instr.lookup
 simp only [Sem.run_bind, run_underlying hT.map, Result.andThen_ok, run_getObj_g hb, Sem.run_pure, run_checkKey hT.key (isKey_int kk i), hf]
 cases hm : mfind i 0 (gl t) with
 | none =>
  rw [hm] at hl
  have hl' : mlook i (gl t) = none := by simpa using hl.symm
  simp [hz, hl', Result.andThen_ok]
 | some x =>
  rw [hm] at hl
  have hl' : mlook i (gl t) = some x.2 := by simpa using hl.symm
  simp [hl', Result.andThen_ok]
theorem run_mapUpdate_g {P : Program} {T kt et : TypeId} {kk : IntKind} {w : World} {b n : Nat} {t : Gl} {i : Int} {v : Value} (hT : MapT P T kt et kk) (hb : w.heap[b]? = some (gO kk t n)) :
  ∃ t' n', gl t' = mput i v (gl t) ∧ (Instr.mapUpdate T (.map (some b)) (.int kk i) v).run P w = .ok () { w with heap := w.heap.setIfInBounds b (gO kk t' n') } := by
 have h0 := findNow_entG kk i t 0
 have hf : (Instr.findKey kt (.int kk i) (t.map (entG kk))).run P w = .ok (mfind i 0 (gl t)) w := run_findKey hT.key h0
 unfold Instr.mapUpdate
 simp only [Sem.run_bind, run_underlying hT.map, Result.andThen_ok, run_getObj_g hb, run_checkKey hT.key (isKey_int kk i), hf]
 cases hm : mfind i 0 (gl t) with
 | none =>
  refine ⟨t ++ [(i, v, n)], n + 1, by rw [mput_no hm]; simp [gl], ?_⟩
  simp only [run_setObj_g _ hb]
  unfold gO
  simp [entG]
 | some x =>
  obtain ⟨p, u⟩ := x
  obtain ⟨c, h3, _, h4⟩ := mfind_at (q := 0) (p := p) (by rw [hm, Nat.zero_add])
  refine ⟨_, n, h4 v, ?_⟩
  have hk : ((((t.map (entG kk)).toArray[p]?).map (·.key)).getD (Value.int kk i)) = .int kk i := by simp [h3, entG]
  have hkeep : (Instr.keyThatStays (.int kk i) (.int kk i)).run P w = .ok (.int kk i) w := by simp [Instr.keyThatStays, Instr.sameBits]
  simp only [hk, hkeep, Sem.run_bind, Result.andThen_ok, run_setObj_g _ hb]
  have e : (t.map (entG kk)).modify p (fun e => { e with key := .int kk i, val := v }) = (t.modify p fun x => (i, v, x.2.2)).map (entG kk) := by
   apply List.ext_getElem?
   intro j
   simp only [List.getElem?_map, List.getElem?_modify]
   by_cases hj : p = j <;> cases t[j]? <;> simp [hj, entG]
  unfold gO
  simp [← e]
theorem run_delete_g {P : Program} {T kt kt' et ty : TypeId} {kk : IntKind} {w : World} {b n : Nat} {t : Gl} {i : Int} (hT : MapT P T kt et kk) (hb : w.heap[b]? = some (gO kk t n)) :
  ∃ t', gl t' = mdel i (gl t) ∧ (Builtin.delete_ #[T, kt'] ty #[.map (some b), .int kk i]).run P w = .ok (.tuple #[]) { w with heap := w.heap.setIfInBounds b (gO kk t' n) } := by
 have h0 := findNow_entG kk i t 0
 have hf : (Instr.findKey kt (.int kk i) (t.map (entG kk))).run P w = .ok (mfind i 0 (gl t)) w := run_findKey hT.key h0
 cases hm : mfind i 0 (gl t) with
 | none =>
  refine ⟨t, (mdel_no hm).symm, ?_⟩
  rw [hm] at hf
  simp [Builtin.delete_, run_underlying hT.map, run_getObj_g hb, run_checkKey hT.key (isKey_int kk i), hf, run_setObj_g _ hb, Result.andThen, gO]
 | some x =>
  obtain ⟨p, u⟩ := x
  obtain ⟨c, h3, h4, _⟩ := mfind_at (q := 0) (p := p) (by rw [hm, Nat.zero_add])
  refine ⟨_, h4, ?_⟩
  rw [hm] at hf
  have hp : p < (t.map (entG kk)).toArray.size := by
   have := (List.getElem?_eq_some_iff.1 h3).1
   simpa using this
  have e : (t.map (entG kk)).toArray.eraseIdxIfInBounds p = ((t.eraseIdx p).map (entG kk)).toArray := by
   unfold Array.eraseIdxIfInBounds
   rw [dif_pos hp]
   simp [erase_map]
  simp [Builtin.delete_, run_underlying hT.map, run_getObj_g hb, run_checkKey hT.key (isKey_int kk i), hf, run_setObj_g _ hb, Result.andThen, gO, erase_map]
section
variable {c : Cx} {Q : Exit → Act → World → Prop} {F F' : Fr} {K K' K0 : List Fact} {ops : Array Oper} {rest : List Oper} {d : Option Tmp} {ty : TypeId} {pos : String} {af : Array Edge} {g : Option (Nat × Bool)} {k fuel t nf : Nat}
theorem TL.mmG {T : TypeId} {kk : IntKind} (h : ∀ b, TL c ops Q rest ((t, .map (some b)) :: F) (.obj b (gO kk [] 0) :: K)) (hd : Nat.blt t c.n = true := by rfl) : TL c ops Q (⟨some t, .makeMap T none, ty, pos, af, none⟩ :: rest) F K :=
 TL.mm (kk := kk) h hd
theorem TL.muG {m x y : Operand} {T kt et : TypeId} {kk : IntKind} {b n : Nat} {i : Int} {v : Value} {l : Gl} (hT : MapT c.P T kt et kk) (h : ∀ l' n', gl l' = mput i v (gl l) → TL c ops Q rest F (.obj b (gO kk l' n') :: K')) (hm : ev F m = some (.map (some b)) := by rfl) (hx : ev F x = some (.int kk i) := by rfl) (hy : ev F y = some v := by rfl)
    (hp : Pick K (.obj b (gO kk l n)) K' := by repeat (first | exact Pick.hd | apply Pick.tl)) : TL c ops Q (⟨none, .mapUpdate T m x y, ty, pos, af, none⟩ :: rest) F K := fun a w hF hK => by
  have hs := hK.pick hp
  have hb : w.heap[b]? = some (gO kk l n) := (hs.holds (.obj b (gO kk l n)) (by simp)).1
  obtain ⟨l', n', hl, hr⟩ := run_mapUpdate_g (i := i) (v := v) hT hb
  refine wpList_skip rfl (w' := { w with heap := w.heap.setIfInBounds b (gO kk l' n') }) ?_ (h l' n' hl a _ hF (hs.turn ?_ (by simp [Fact.foot]) (fun q hq => .inl hq) ⟨(heap_set hb).1, rfl⟩))
  · simp [execOp, hF.evl hm, hF.evl hx, hF.evl hy, hr]
  · exact ⟨rfl, rfl, rfl, by simp, fun q _ hq => (heap_set hb).2 q (by simpa [Fact.foot] using hq)⟩
end
end Go.Proofs.YtfaenhhgkhcghaaGreatDoor
namespace Go.Proofs.YtfaenhhgkhcghaaGreatDoor
set_option linter.all false
set_option linter.unusedVariables false
set_option linter.unusedSimpArgs false
open Go.RowKit Go.MapKept
section
variable {P : Program} {fn : Func} {R : Ending → World → Prop} {t : Array Value}
def LeavesB (P : Program) (fn : Func) (t : Array Value) (R : Ending → World → Prop) : List Deferred → World → Prop
 | [], w => ∃ v, (results fn t).run P w = .ok v w ∧ R (.returned v) w
 | d :: ds, w => (∃ r w', d.target = .collected r ∧ (Instr.takeDeferred r).run P w = .ok [] w' ∧ LeavesB P fn t R ds w') ∨
  (∃ b ts ty cs v w', d.target = .builtin b ts ty cs ∧ (invoke d.target d.args).run P w = .ok (.value v) w' ∧ LeavesB P fn t R ds w')
theorem step_blt {fr : Frame} {cs : List Frame} {w w' : World} {d : Deferred} {ds : List Deferred} {b : Builtin} {ts : Array TypeId} {ty : TypeId} {co : Array Bool} {v : Value}
  (hm : fr.mode = .returning) (hd : fr.defers = d :: ds) (ht : d.target = .builtin b ts ty co) (hk : (invoke d.target d.args).run P w = .ok (.value v) w') :
  step P (lone fr cs w) = .next (lone { fr with defers := ds } cs w') := by
 obtain ⟨g, a⟩ := d
 simp only at ht
 subst ht
 refine step_lone_go ?_
 simp [stepG, unwind, callDeferred, hm, hd, Sem.runT_eq, hk, GStep.bare_after]
theorem leavesB_steps {n : Nat} : ∀ (ds : List Deferred) (w : World) (fr : Frame) (cs : List Frame), fr.mode = .returning → fr.defers = ds → fr.tmps = t → P.funcs[fr.fn]? = some fn → fr.kind = .normal → Fence.wide.fn fr.fn → Fence.wide.room (cs.length + 1 + n) → LeavesB P fn t R ds w →
    ∃ e w' fr', R e w' ∧ ComesIn (Machine.fenced P Fence.wide) P (lone fr cs w) (lone fr' cs w') e ∧ fr'.fn = fr.fn ∧ fr'.leaving P w' e
  | [], w, fr, cs, hu, hd, ht, hf, hk, hb, hr, h => leaves_stepsIn (n := n) [] .returning w fr cs hu hd ht hf hk hb hr h
  | d :: ds, w, fr, cs, hu, hd, ht, hf, hk, hb, hr, h => by
    rcases h with ⟨r, w', htar, htake, hrest⟩ | ⟨b, ts, ty, co, v, w', htar, hinv, hrest⟩
    · have h1 := step_collected (cs := cs) (by rw [hu]; simp) hd htar htake
      have i1 : (lone fr cs w).fenced P Fence.wide := fenced_out hb hr (by rw [hu]; simp) hd (fun g hg => by rw [htar] at hg; simp [Target.leads] at hg)
      obtain ⟨e, w2, fr2, hR, hs, hfn, hl⟩ := leavesB_steps ds w' { fr with defers := [] ++ ds } cs hu rfl ht hf hk hb hr hrest
      exact ⟨e, w2, fr2, hR, ComesIn.of_steps (.one i1 h1) hs, hfn, hl⟩
    · have h1 := step_blt (cs := cs) hu hd htar hinv
      have i1 : (lone fr cs w).fenced P Fence.wide := fenced_out hb hr (by rw [hu]; simp) hd (fun g hg => by rw [htar] at hg; simp [Target.leads] at hg)
      obtain ⟨e, w2, fr2, hR, hs, hfn, hl⟩ := leavesB_steps ds w' { fr with defers := ds } cs hu rfl ht hf hk hb hr hrest
      exact ⟨e, w2, fr2, hR, ComesIn.of_steps (.one i1 h1) hs, hfn, hl⟩
def bodyPostB (P : Program) (fn : Func) (R : Ending → World → Prop) : Exit → Act → World → Prop
 | .normal, a, w => LeavesB P fn a.tmps R a.defers w
 | .ret, a, w => LeavesB P fn a.tmps R a.defers w
 | _, _, _ => False
theorem calls_of_blt {f : FuncId} {c : Code} {args : Array Value} {w : World} (hf : P.funcs[f]? = some fn) (hb : fn.body = some c)
  (h : c.wp P (bodyPostB P fn R) { tmps := args ++ Array.replicate (fn.ntmps - args.size) undef, defers := [] } w) : Calls P f args w R := by
 refine (callsIn_wide (n := 2)).1 ⟨trivial, fun cs hr => ?_⟩
 let b : Frame := { (default : Frame) with fn := f, kind := .normal, roundOf := none }
 have henter : Frame.enter P f args .normal = b.atR { tmps := args ++ Array.replicate (fn.ntmps - args.size) undef, defers := [] } [.code c] := by
  simp [Frame.enter, Frame.atR, hf, hb, b]
 obtain ⟨e, a', w', hq, harr⟩ := (wpIn_wide (n := 2)).2 h b [] cs rfl trivial hr
 rw [← henter] at harr
 cases e with
 | normal =>
  obtain ⟨e', w'', fr', hR, hs, hfn, hl⟩ := leavesB_steps (n := 2) a'.defers w' { b.atR a' [] with mode := .returning } cs rfl rfl rfl hf rfl trivial hr hq
  exact ⟨e', w'', fr', hR, ComesIn.of_steps (StepsIn.trans harr (.one (fenced_calm (fr := b.atR a' []) trivial hr rfl) (stepR_end rfl))) hs, hfn, hl⟩
 | ret =>
  obtain ⟨todo, hs₀⟩ := harr.1 rfl
  obtain ⟨e', w'', fr', hR, hs, hfn, hl⟩ := leavesB_steps (n := 2) a'.defers w' { b.atR a' todo with mode := .returning } cs rfl rfl rfl hf rfl trivial hr hq
  exact ⟨e', w'', fr', hR, ComesIn.of_steps hs₀ hs, hfn, hl⟩
 | panic chain => exact hq.elim
 | exit id => exact hq.elim
 | goto l => exact hq.elim
 | outgrown => exact hq.elim
end
theorem K_enterB {P : Program} {f : FuncId} {fn : Func} {code : Code} {n : Nat} {args : List Value} {R : Ending → World → Prop} {w w0 : World} {S : List Nat} {K : List Fact} (hf : P.funcs[f]? = some fn) (hb : fn.body = some code) (hn : fn.ntmps = n) (hl : Nat.ble args.length n = true) (hS : Sat S w0 K w)
  (h : TW ⟨P, n, [], S, w0⟩ code (bodyPostB P fn R) (zipF 0 args) K) : Calls P f args.toArray w R := by
 refine calls_of_blt hf hb ?_
 rw [hn]
 exact h _ _ (FS.start (Nat.le_of_ble_eq_true hl)) hS
section
variable {c : Cx} {Q : Exit → Act → World → Prop} {F F' : Fr} {K K' K1 K2 : List Fact} {ops : Array Oper} {rest : List Oper} {d : Option Tmp} {ty : TypeId} {pos : String} {af : Array Edge} {g : Option (Nat × Bool)}
theorem TQ.retB0 {fn : Func} {R : Ending → World → Prop} {rs : List ResultVar} {vs : List Value} (hr : fn.results = rs.toArray) (hv : RV c F K rs vs) (h : ∀ w, Sat c.S c.w0 K w → R (.returned (retV vs)) w) (hD : c.D = [] := by rfl) : TQ c (bodyPostB c.P fn R) .ret F K := fun a w hF hK => by
 obtain ⟨t, ds⟩ := a
 have e : ds = [] := hF.dfs.trans hD
 subst e
 exact ⟨_, hv.results hr hF hK, h w hK⟩
def bltD (b : Builtin) (ts : Array TypeId) (ty : TypeId) (co : Array Bool) (us : List Value) : Deferred := { target := .builtin b ts ty co, args := us.toArray }
theorem TQ.retB {fn : Func} {R : Ending → World → Prop} {rs : List ResultVar} {vs : List Value} {D b n : Nat} {l : Gl} {T kt kt' et : TypeId} {kk : IntKind} {i : Int} {tz : TypeId} {co : Array Bool} (hT : MapT c.P T kt et kk) (hr : fn.results = rs.toArray) (hp : Pick K (.obj D (.deferred (some []))) K1) (hm : Pick K1 (.obj b (gO kk l n)) K2)
  (hv : ∀ l', RV c F (.obj b (gO kk l' n) :: K2) rs vs) (h : ∀ l', gl l' = mdel i (gl l) → ∀ w, Sat c.S c.w0 (.obj b (gO kk l' n) :: K2) w → R (.returned (retV vs)) w) (hD : c.D = [{ target := .collected D, args := #[] }, bltD .delete #[T, kt'] tz co [.map (some b), .int kk i]] := by rfl) : TQ c (bodyPostB c.P fn R) .ret F K := fun a w hF hK => by
 have h1 := hK.pick hp
 have hd : w.heap[D]? = some (.deferred (some [])) := (h1.holds (.obj _ _) (by simp)).1
 have h2 : Sat c.S c.w0 K1 (w.putObj D (.deferred none)) := (h1.putO (o' := .deferred none) rfl).sub (KSub.drop (KSub.refl _))
 obtain ⟨t, ds⟩ := a
 have e : ds = _ := hF.dfs.trans hD
 subst e
 have h3 := h2.pick hm
 have hb : (w.putObj D (.deferred none)).heap[b]? = some (gO kk l n) := (h3.holds (.obj b (gO kk l n)) (by simp)).1
 obtain ⟨l', hl, hrun⟩ := run_delete_g (i := i) (kt' := kt') (ty := tz) hT hb
 have h4 : Sat c.S c.w0 (.obj b (gO kk l' n) :: K2) { w.putObj D (.deferred none) with heap := (w.putObj D (.deferred none)).heap.setIfInBounds b (gO kk l' n) } :=
  h3.turn ⟨rfl, rfl, rfl, by simp, fun q _ hq => (heap_set hb).2 q (by simpa [Fact.foot] using hq)⟩ (by simp [Fact.foot]) (fun q hq => .inl hq) ⟨(heap_set hb).1, rfl⟩
 generalize ({ w.putObj D (.deferred none) with heap := (w.putObj D (.deferred none)).heap.setIfInBounds b (gO kk l' n) } : World) = W2 at hrun h4
 have h5 : LeavesB c.P fn t R [] W2 := ⟨_, (hv l').results hr hF h4, h l' hl _ h4⟩
 have h6 : (invoke (bltD .delete #[T, kt'] tz co [.map (some b), .int kk i]).target (bltD .delete #[T, kt'] tz co [.map (some b), .int kk i]).args).run c.P (w.putObj D (.deferred none)) = .ok (.value (.tuple #[])) W2 := by
  simp [bltD, invoke, builtin, hrun]
 have h7 : LeavesB c.P fn t R [bltD .delete #[T, kt'] tz co [.map (some b), .int kk i]] (w.putObj D (.deferred none)) := Or.inr ⟨.delete, _, _, _, .tuple #[], W2, rfl, h6, h5⟩
 exact Or.inl ⟨D, _, rfl, run_takeDeferred hd, h7⟩
theorem TL.dfb {b : Builtin} {xs : List Operand} {ts : Array TypeId} {us : List Value} (hx : evs F xs = some us) (h : ∀ co, TL { c with D := bltD b ts ty co us :: c.D } ops Q rest F K) : TL c ops Q (⟨none, .defer { callee := .builtin b, args := xs.toArray, argTypes := ts }, ty, pos, af, none⟩ :: rest) F K := fun a w hF hK => by
 refine wpList_plain rfl fun Z hZ => ?_
 have hr : ∃ co, (execOp a.eval ⟨none, .defer { callee := .builtin b, args := xs.toArray, argTypes := ts }, ty, pos, af, none⟩).run c.P w = .ok (.defer (bltD b ts ty co us)) w := by
  have e2 := hF.evsl hx
  simp [execOp, resolve, e2, bltD]
 obtain ⟨co, hr⟩ := hr
 unfold Oper.wp
 rw [hr]
 exact hZ _ _ (h co _ w ⟨hF.size, by show _ :: a.defers = _; rw [hF.dfs], hF.get⟩ hK)
end
end Go.Proofs.YtfaenhhgkhcghaaGreatDoor
namespace Go.Proofs.YtfaenhhgkhcghaaGreatDoor
set_option linter.all false
set_option linter.unusedVariables false
set_option linter.unusedSimpArgs false
open Go.RowKit
theorem Fact.locB {φ : Fact} {w w' : World} (h : φ.holds w) (he : ∀ b ∈ φ.foot, w'.heap[b]? = w.heap[b]?) : φ.holds w' := by
  match φ, h, he with
  | .blk b t cs, h, he => exact (he b (by simp [Fact.foot])).trans h
  | .own A n c E sz f, h, he => exact ⟨own_of_block h.own fun b hb => he b (by rw [own_foot, hb]; simp), h.len⟩
  | .obj b o, h, he => exact ⟨(he b (by simp [Fact.foot])).trans h.1, h.2⟩
  | .pr l p, h, he =>
    refine ⟨h.loc w w' h.lt h.now he, fun b hb => ?_, h.loc⟩
    have h1 := h.lt b hb
    have h2 := he b hb
    rw [Array.getElem?_eq_getElem h1] at h2
    exact (Array.getElem?_eq_some_iff.1 h2).1
def bun (K : List Fact) : Fact := .pr (feet K) fun w => ∀ φ ∈ K, φ.holds w
theorem bun_holds {K : List Fact} {w : World} (h : ∀ φ ∈ K, φ.holds w) : (bun K).holds w :=
 ⟨h, fun b hb => by
  obtain ⟨φ, hφ, hb'⟩ := List.mem_flatMap.1 hb
  exact Fact.lt (h φ hφ) b hb', fun w w' _ hp he φ hφ => Fact.locB (hp φ hφ) fun b hb => he b (List.mem_flatMap.2 ⟨φ, hφ, hb⟩)⟩
theorem Sat.bun {S : List Nat} {w0 w : World} {K1 K : List Fact} (h : Sat S w0 (K1 ++ K) w) : Sat S w0 (bun K1 :: K) w := by
 have e : feet (Go.Proofs.YtfaenhhgkhcghaaGreatDoor.bun K1 :: K) = feet (K1 ++ K) := by rw [feet_append]; rfl
 refine ⟨h.chg, by rw [e]; exact h.nd, by rw [e]; exact h.ge, fun φ hφ => ?_⟩
 rcases List.mem_cons.1 hφ with rfl | hφ
 · exact bun_holds fun ψ hψ => h.holds ψ (List.mem_append_left _ hψ)
 · exact h.holds φ (List.mem_append_right _ hφ)
theorem TL.bun {c : Cx} {Q : Exit → Act → World → Prop} {F : Fr} {K1 K : List Fact} {ops : Array Oper} {rest : List Oper} (h : TL c ops Q rest F (bun K1 :: K)) : TL c ops Q rest F (K1 ++ K) := fun a w hF hK => h a w hF hK.bun
theorem bun_get {S : List Nat} {w0 w : World} {K1 K : List Fact} (hw : Sat S w0 K w) (hm : bun K1 ∈ K) {φ : Fact} (h : φ ∈ K1) : φ.holds w := (hw.holds _ hm).now φ h
end Go.Proofs.YtfaenhhgkhcghaaGreatDoor
namespace Go.Proofs.YtfaenhhgkhcghaaGreatDoor
set_option linter.all false
set_option linter.unusedVariables false
set_option linter.unusedSimpArgs false
open Go.RowKit
def ownsE (E : TypeId) (sz : Nat) (A : Nat → Option Addr) (l c : Nat → Nat) (r : Nat → Nat → List Value) : Nat → List Fact
 | 0 => []
 | n + 1 => .own (A n) (l n) (c n) E sz (r n) :: ownsE E sz A l c r n
theorem ownsE_mem {E : TypeId} {sz : Nat} {A : Nat → Option Addr} {l c : Nat → Nat} {r : Nat → Nat → List Value} {s : Nat} : ∀ {n : Nat}, s < n → Fact.own (A s) (l s) (c s) E sz (r s) ∈ ownsE E sz A l c r n
 | n + 1, h => by
  simp only [ownsE, List.mem_cons]
  by_cases hs : s = n
  · subst hs; exact .inl rfl
  · exact .inr (ownsE_mem (by omega))
def updA {α : Type} (f : Nat → α) (s : Nat) (x : α) : Nat → α := fun i => if i = s then x else f i
end Go.Proofs.YtfaenhhgkhcghaaGreatDoor
namespace Go.Proofs.YtfaenhhgkhcghaaGreatDoor
set_option linter.all false
set_option linter.unusedVariables false
set_option linter.unusedSimpArgs false
open Go.RowKit
def wysN (f : Int × Int → List (List Int) → List (List Int)) (bn : List Int) (L : List (Int × Int)) (o : List (List Int)) : Nat → List (List Int)
 | 0 => o
 | q + 1 => if 200 < (wysN f bn L o q).length then wysN f bn L o q else if (L.getD q (0, 0)).2 ∈ bn then wysN f bn L o q else f (L.getD q (0, 0)) (wysN f bn L o q)
def wys (ld : Int → List (Int × Int)) (ar : Int → Int → Int) (to un : Int) : Nat → Int → Int → List Int → List Int → List (List Int) → List (List Int)
 | 0, _, _, _, _, out => out
 | r + 1, well, day, been, way, out =>
  if un < day then out else if well = to then out ++ [way] else wysN (fun y o => wys ld ar to un r y.2 (ar y.1 day) (been ++ [well]) (way ++ [y.1]) o) (been ++ [well]) (ld well) out (ld well).length
section
variable {f : Int × Int → List (List Int) → List (List Int)} {bn : List Int} {L : List (Int × Int)} {o : List (List Int)} {q : Nat}
theorem wysN_skip (h : ¬ 200 < (wysN f bn L o q).length) (hm : (L.getD q (0, 0)).2 ∈ bn) : wysN f bn L o (q + 1) = wysN f bn L o q := by
 simp only [wysN]
 rw [if_neg h, if_pos hm]
theorem wysN_go (h : ¬ 200 < (wysN f bn L o q).length) (hm : ¬ (L.getD q (0, 0)).2 ∈ bn) : wysN f bn L o (q + 1) = f (L.getD q (0, 0)) (wysN f bn L o q) := by
 simp only [wysN]
 rw [if_neg h, if_neg hm]
theorem wysN_stop (h : 200 < (wysN f bn L o q).length) : ∀ k, q ≤ k → wysN f bn L o k = wysN f bn L o q
  | 0, hk => by obtain rfl : q = 0 := by omega
                rfl
  | k + 1, hk => by
    by_cases e : q = k + 1
    · subst e; rfl
    · have ih := wysN_stop h k (by omega)
      simp only [wysN]
      rw [ih, if_pos h]
end
def cntB (p : Nat → Bool) : Nat → Nat
 | 0 => 0
 | n + 1 => cntB p n + (if p n = true then 1 else 0)
theorem cntB_le {p q : Nat → Bool} (h : ∀ i, p i = true → q i = true) : ∀ n, cntB p n ≤ cntB q n
 | 0 => Nat.le_refl _
 | n + 1 => by
  have := cntB_le h n
  simp only [cntB]
  by_cases e : p n = true
  · rw [if_pos e, if_pos (h n e)]; omega
  · rw [if_neg e]; omega
theorem cntB_lt {p q : Nat → Bool} (h : ∀ i, p i = true → q i = true) {k : Nat} (h1 : q k = true) (h2 : p k = false) : ∀ n, k < n → cntB p n < cntB q n
  | 0, hk => by omega
  | n + 1, hk => by
    simp only [cntB]
    by_cases e : k = n
    · subst e
      have := cntB_le h k
      rw [if_pos h1, if_neg (by rw [h2]; simp)]
      omega
    · have := cntB_lt h h1 h2 n (by omega)
      by_cases e : p n = true
      · rw [if_pos e, if_pos (h n e)]; omega
      · rw [if_neg e]; omega
def lftN (nw : Nat) (been : List Int) : Nat := cntB (fun i => !been.contains (i : Int)) nw
theorem lft_less {nw : Nat} {been : List Int} {a : Int} (h0 : 0 ≤ a) (h1 : a < nw) (h : a ∉ been) : lftN nw (been ++ [a]) < lftN nw been := by
  refine cntB_lt (k := a.toNat) (fun i hi => ?_) ?_ ?_ nw (by omega)
  · simp only [Bool.not_eq_true', List.contains_eq_mem, decide_eq_false_iff_not, List.mem_append, not_or] at hi ⊢
    exact hi.1
  · have e : ((a.toNat : Nat) : Int) = a := by omega
    simp only [e, Bool.not_eq_true', List.contains_eq_mem, decide_eq_false_iff_not]
    exact h
  · have e : ((a.toNat : Nat) : Int) = a := by omega
    simp [e]
def blM (been : List Int) : List (Int × Value) := been.map fun i => (i, .bool true)
theorem bl_look {i : Int} : ∀ {been : List Int}, mlook i (blM been) = if i ∈ been then some (.bool true) else none
 | [] => by simp [blM, mlook]
 | a :: l => by
  have ih := bl_look (i := i) (been := l)
  simp only [blM, List.map_cons, mlook] at ih ⊢
  by_cases e : i = a
  · rw [if_pos e, if_pos (by rw [e]; simp)]
  · rw [if_neg e, ih]
    by_cases e2 : i ∈ l
    · rw [if_pos e2, if_pos (List.mem_cons_of_mem _ e2)]
    · rw [if_neg e2, if_neg (by simp [e, e2])]
theorem bl_put {i : Int} : ∀ {been : List Int}, i ∉ been → mput i (.bool true) (blM been) = blM (been ++ [i])
 | [], _ => rfl
 | a :: l, h => by
  have ih := bl_put (i := i) (been := l) (fun e => h (List.mem_cons_of_mem _ e))
  simp only [blM, List.map_cons, List.cons_append, mput] at ih ⊢
  rw [if_neg (fun e => h (by rw [e]; simp)), ih]
theorem bl_del {i : Int} : ∀ {been : List Int}, i ∉ been → mdel i (blM (been ++ [i])) = blM been
 | [], _ => by simp [blM, mdel]
 | a :: l, h => by
  have ih := bl_del (i := i) (been := l) (fun e => h (List.mem_cons_of_mem _ e))
  simp only [blM, List.map_cons, List.cons_append, mdel] at ih ⊢
  rw [if_neg (fun e => h (by rw [e]; simp)), ih]
def lksK (out : List (List Int)) (ia : Nat → Option Addr) (ic : Nat → Nat) : List Fact := ownsE 3 1 ia (fun k => (out.getD k []).length) ic (fun k => iL (out.getD k [])) out.length
def lksR (out : List (List Int)) (ia : Nat → Option Addr) (ic : Nat → Nat) (k : Nat) : List Value := [.slice (ia k) (out.getD k []).length (ic k)]
theorem getW_app {out : List (List Int)} {w : List Int} {k : Nat} (h : k < out.length) : (out ++ [w]).getD k [] = out.getD k [] := by
 rw [List.getD_eq_getElem?_getD, List.getD_eq_getElem?_getD, List.getElem?_append_left h]
theorem getD_last {out : List (List Int)} {w : List Int} : (out ++ [w]).getD out.length [] = w := by
 rw [List.getD_eq_getElem?_getD, List.getElem?_append_right (Nat.le_refl _), Nat.sub_self]
 rfl
theorem ownsE_congr9 {E : TypeId} {sz : Nat} {A A2 : Nat → Option Addr} {l l2 c c2 : Nat → Nat} {r r2 : Nat → Nat → List Value} : ∀ {n : Nat}, (∀ i, i < n → A i = A2 i ∧ l i = l2 i ∧ c i = c2 i ∧ r i = r2 i) → ownsE E sz A l c r n = ownsE E sz A2 l2 c2 r2 n
 | 0, _ => rfl
 | n + 1, h => by
  obtain ⟨h1, h2, h3, h4⟩ := h n (by omega)
  simp only [ownsE, h1, h2, h3, h4, ownsE_congr9 (n := n) fun i hi => h i (by omega)]
theorem lks_app {out : List (List Int)} {ia : Nat → Option Addr} {ic : Nat → Nat} {A8 : Option Addr} {c8 : Nat} {way : List Int} : lksK (out ++ [way]) (updA ia out.length A8) (updA ic out.length c8) = .own A8 way.length c8 3 1 (iL way) :: lksK out ia ic := by
 unfold lksK
 rw [List.length_append, List.length_singleton]
 simp only [ownsE, getD_last]
 have e1 : updA ia out.length A8 out.length = A8 := if_pos rfl
 have e2 : updA ic out.length c8 out.length = c8 := if_pos rfl
 rw [e1, e2]
 congr 1
 refine ownsE_congr9 fun i hi => ?_
 rw [getW_app hi]
 exact ⟨if_neg (by omega), rfl, if_neg (by omega), rfl⟩
theorem lks_row {out : List (List Int)} {ia : Nat → Option Addr} {ic : Nat → Nat} {A8 : Option Addr} {c8 : Nat} {way : List Int} : ∀ i, i < out.length + 1 → catR out.length (lksR out ia ic) (fun _ => [.slice A8 way.length c8]) i = lksR (out ++ [way]) (updA ia out.length A8) (updA ic out.length c8) i := fun i hi => by
  unfold catR lksR
  by_cases h : i < out.length
  · rw [if_pos h, getW_app h]
    show _ = [Value.slice (if i = out.length then A8 else ia i) _ (if i = out.length then c8 else ic i)]
    rw [if_neg (by omega), if_neg (by omega)]
  · obtain rfl : i = out.length := by omega
    rw [if_neg h, getD_last]
    show _ = [Value.slice (if out.length = out.length then A8 else ia out.length) _ (if out.length = out.length then c8 else ic out.length)]
    rw [if_pos rfl, if_pos rfl]
theorem sat_bunC {S : List Nat} {w0 w : World} {φ : Fact} {L K : List Fact} (h : Sat S w0 (φ :: bun L :: K) w) : Sat S w0 (bun (φ :: L) :: K) w := by
 have e : feet (bun (φ :: L) :: K) = feet (φ :: bun L :: K) := by
   show feet (φ :: L) ++ feet K = φ.foot ++ (feet L ++ feet K)
   show (φ.foot ++ feet L) ++ feet K = _
   rw [List.append_assoc]
 refine ⟨h.chg, by rw [e]; exact h.nd, by rw [e]; exact h.ge, fun ψ hψ => ?_⟩
 rcases List.mem_cons.1 hψ with rfl | hψ
 · refine bun_holds fun χ hχ => ?_
   rcases List.mem_cons.1 hχ with rfl | hχ
   · exact h.holds _ (List.mem_cons_self ..)
   · exact (h.holds (bun L) (by simp)).now χ hχ
 · exact h.holds ψ (by simp [hψ])
theorem tl_bunC {c : Cx} {Q : Exit → Act → World → Prop} {F : Fr} {φ : Fact} {L L2 K K1 K2 : List Fact} {ops : Array Oper} {rest : List Oper} (h1 : Pick K φ K1) (h2 : Pick K1 (bun L) K2) (e : L2 = φ :: L) (h : TL c ops Q rest F (bun L2 :: K2)) : TL c ops Q rest F K := fun a w hF hK => by
 subst e
 have hs : Sat c.S c.w0 (φ :: bun L :: K2) w := (hK.pick h1).sub (KSub.cons .hd (KSub.cons h2 (KSub.refl _)))
 exact h a w hF (sat_bunC hs)
def arW (x : Nat → Leg) (g : Nat → Nat → Nat → Int) (p0 k t : Int) : Int := arV (lvF (g k.toNat) 1 2 t (dyS (x k.toNat).u p0) (x k.toNat).n) (dyS (x k.toNat).u p0)
structure LegsOk (nw nl : Nat) (x : Nat → Leg) (g : Nat → Nat → Nat → Int) : Prop where
 l : ∀ k, k < nl → LegIn (x k).u (x k).n (g k)
 e : ∀ k, k < nl → 0 ≤ (x k).u 0 ∧ (x k).u 0 < nw ∧ 0 ≤ (x k).u 1 ∧ (x k).u 1 < nw
theorem lead_at {nw nl : Nat} {x : Nat → Leg} {g : Nat → Nat → Nat → Int} (h : LegsOk nw nl x g) {well : Int} {q : Nat} (hq : q < (ldL (fun k => (x k).u) well nl).length) :
   ∃ k : Nat, k < nl ∧ ((ldL (fun k => (x k).u) well nl).getD q (0, 0)).1 = (k : Int) ∧ 0 ≤ ((ldL (fun k => (x k).u) well nl).getD q (0, 0)).2 ∧ ((ldL (fun k => (x k).u) well nl).getD q (0, 0)).2 < nw := by
 obtain ⟨k, hk, ha, e⟩ := ld_in nl (getD_in hq)
 have he := h.e k hk
 refine ⟨k, hk, by rw [e], ?_⟩
 rw [e]
 show 0 ≤ othV (x k).u well ∧ othV (x k).u well < nw
 unfold othV
 rcases ha with ha | ha
 · rw [if_pos ha]; omega
 · split
   · omega
   · omega
theorem arW_bd {nw nl : Nat} {x : Nat → Leg} {g : Nat → Nat → Nat → Int} (h : LegsOk nw nl x g) {p0 p1 t : Int} {k : Nat} (hk : k < nl) (h0 : 1 ≤ p0) (h1 : p0 ≤ p1) (ht : 0 ≤ t ∧ t ≤ 100001) : 0 ≤ arW x g p0 k t ∧ arW x g p0 k t ≤ 100001 := by
 have hl := h.l k hk
 have hd := dy_bd h0 h1 hl.l0 hl.l1 hl.l2
 have hg := lv_ge (g := g k) (op := 1) (sh := 2) (n := dyS (x k).u p0) ht.2 (x k).n
 unfold arW arV
 rw [Int.toNat_natCast]
 omega
end Go.Proofs.YtfaenhhgkhcghaaGreatDoor
namespace Go.Proofs.YtfaenhhgkhcghaaGreatDoor
set_option linter.all false
set_option linter.unusedVariables false
set_option linter.unusedSimpArgs false
open Go.RowKit
section
variable {c : Cx} {Q : Exit → Act → World → Prop} {F F' : Fr} {K K' K0 : List Fact} {ops : Array Oper} {listed : Array Bool} {fuel s : Nat}
theorem TW.expu {id : Nat} {l : List Oper} {X : Type} (s : Nat) (K0 : List Fact) (Fj : X → Fr) (Kj : X → List Fact) (h1 : ∀ x, TQ c Q .normal (Fj x) (Kj x)) (h2 : (∀ x, TQ c Q .normal (Fj x) (Kj x)) → RU c l.toArray Q K0 s (Array.replicate l.length false) l.length F K) (hm : c.P.follows .mixedOrders = true := by rfl) : TW c (.region id l.toArray true) Q F K := TW.exu s K0 (h2 h1) hm
def RUo (c : Cx) (ops : Array Oper) (Q : Exit → Act → World → Prop) (K0 : List Fact) (s : Nat) (listed : Array Bool) (fuel : Nat) (F : Fr) (K : List Fact) (i : Nat) (o : Oper) : Prop :=
 ∀ Z : Act → World → Prop, (∀ F2 K2, HasL K2 K0 → RU c ops Q K0 s (listed.setIfInBounds i true) fuel F2 K2 → TQ c (fun _ => Z) .normal F2 K2) → TL c ops (nxt Z Q) [o] F K
theorem RU.all {L : List Nat} (hr : Region.ready .any ops listed = L) (hL : L ≠ []) (h : ∀ j ∈ L, ∃ o, ops[j]? = some o ∧ RUo c ops Q K0 s listed fuel F K j o) : RU c ops Q K0 s listed (fuel + 1) F K := fun a w hF hK => by
 refine ⟨fun h0 => absurd (hr.symm.trans h0) hL, fun j hj => ?_⟩
 rw [hr] at hj
 obtain ⟨o, ho, h9⟩ := h j hj
 exact wpOp_of_TL ho (h9 (fun a' w' => Sat c.S c.w0 [] w' ∧ ((listed.setIfInBounds j true).getD s true = false → Sat c.S c.w0 K0 w') ∧ wpUntil c.P .any ops Q (Sat c.S c.w0 []) (Sat c.S c.w0 K0) s fuel (listed.setIfInBounds j true) a' w') (fun F2 K2 hh hg a' w' hF2 hK2 => ⟨HasL.nil.has.sat hK2, fun _ => hh.has.sat hK2, hg a' w' hF2 hK2⟩)) hF hK
theorem RU.a2 (i j : Nat) {o o' : Oper} (ho : ops[i]? = some o) (ho' : ops[j]? = some o') (h : RUo c ops Q K0 s listed fuel F K i o) (h' : RUo c ops Q K0 s listed fuel F K j o') (hr : Region.ready .any ops listed = [i, j] := by kernel_rfl) : RU c ops Q K0 s listed (fuel + 1) F K :=
 RU.all hr (by simp) fun k hk => by
  simp only [List.mem_cons, List.not_mem_nil, or_false] at hk
  rcases hk with rfl | rfl
  · exact ⟨o, ho, h⟩
  · exact ⟨o', ho', h'⟩
theorem RU.a3 (i j k : Nat) {o o' o'' : Oper} (ho : ops[i]? = some o) (ho' : ops[j]? = some o') (ho'' : ops[k]? = some o'') (h : RUo c ops Q K0 s listed fuel F K i o) (h' : RUo c ops Q K0 s listed fuel F K j o') (h'' : RUo c ops Q K0 s listed fuel F K k o'') (hr : Region.ready .any ops listed = [i, j, k] := by kernel_rfl) : RU c ops Q K0 s listed (fuel + 1) F K :=
 RU.all hr (by simp) fun k hk => by
  simp only [List.mem_cons, List.not_mem_nil, or_false] at hk
  rcases hk with rfl | rfl | rfl
  · exact ⟨o, ho, h⟩
  · exact ⟨o', ho', h'⟩
  · exact ⟨o'', ho'', h''⟩
end
section
variable {c : Cx} {Q : Exit → Act → World → Prop} {F F' : Fr} {K K' K0 : List Fact} {ops : Array Oper} {listed l2 : Array Bool} {fuel f2 : Nat}
end
section
variable {c : Cx} {Q : Exit → Act → World → Prop} {F : Fr} {K K0 : List Fact} {ops : Array Oper} {listed : Array Bool} {fuel : Nat}
end
section
variable {c : Cx} {Q : Exit → Act → World → Prop} {F F' : Fr} {K K' K0 : List Fact} {ops : Array Oper} {nf : Nat} {fl : List Fl} {bs : List Bool} {pend : List (Nat × Oper)} {ty : TypeId} {pos : String} {af : Array Edge}
end
end Go.Proofs.YtfaenhhgkhcghaaGreatDoor
namespace Go.Proofs.YtfaenhhgkhcghaaGreatDoor
set_option linter.all false
set_option linter.unusedVariables false
set_option linter.unusedSimpArgs false
open Go.RowKit
theorem rd_cells {w : World} {sz m : Nat} {p : Addr} {g : Nat → Nat → Value} (hz : 0 < sz) (hr : Rd w sz (some p) m g) : ∀ q u, (flat sz m g)[q]? = some u → w.cell? (p.add q) = some u := fun q u hq => by
 have hql : q < m * sz := by have := (List.getElem?_eq_some_iff.1 hq).1; rw [flat_length] at this; exact this
 have hm : 0 < m := by
   rcases Nat.eq_zero_or_pos m with rfl | h
   · simp at hql
   · exact h
 obtain ⟨b, off, e0, hlt, hc⟩ := hr hm
 injection e0 with e0
 subst e0
 have hi' : q / sz < m := Nat.div_lt_of_lt_mul (by rw [Nat.mul_comm]; exact hql)
 have hj' : q % sz < sz := Nat.mod_lt _ hz
 have e : q = q / sz * sz + q % sz := by rw [Nat.mul_comm]; exact (Nat.div_add_mod q sz).symm
 have h2 := flat_get (f := g) hi' hj'
 rw [← e, hq] at h2
 have h3 := hc _ _ hi' hj'
 rw [Nat.add_assoc, ← e, ← h2] at h3
 rw [← h3]
 unfold Addr.add
 by_cases hq0 : q = 0
 · subst hq0; rfl
 · rw [if_neg hq0]
theorem run_append_F {P : Program} {w : World} {t ty E : TypeId} {sz bytes : Nat} (T : ElemT P t E sz bytes) {A A2 : Option Addr} {n m c : Nat} {f g : Nat → Nat → Value} (hf : Rd w sz A n f) (hr : Rd w sz A2 m g) (h0 : 0 < m) (h1 : ∀ i j, i < m → j < sz → (g i j).oneCell' = true) (hm : n + m ≤ 1000000000) (hby : bytes ≤ 10000) :
  ∃ v' w', (Builtin.append_ #[t, t] ty #[.slice A n n, .slice A2 m c]).run P w = .ok v' w' ∧ Own w' 0 E sz v' (n + m) (cat n f g) ∧ w.grownBy w' none ∧ (∀ q, v'.ownBlock = some q → w.heap.size ≤ q) := by
 cases A with
 | none =>
  have hn : n = 0 := by
    rcases Nat.eq_zero_or_pos n with h | h
    · exact h
    · obtain ⟨b, off, e, _⟩ := hf h
      cases e
  subst hn
  have hown : Own w 0 E sz (.slice none 0 0) 0 f := ⟨by simp [flat], .inl ⟨rfl, rfl⟩⟩
  obtain ⟨v', w', h2, h3, h4, h5⟩ := run_append_R (ty := ty) T hown hr (fun _ => .inr trivial) h1 hm hby (Nat.zero_le _)
  refine ⟨v', w', h2, h3, h4, fun q hq => ?_⟩
  rcases h5 with h5 | h5
  · rw [h5] at hq; simp [Value.ownBlock] at hq
  · rw [h5] at hq; cases hq; exact Nat.le_refl _
 | some p =>
  obtain ⟨i, z, hi, hz, hs, hb, hzs⟩ := T.hi
  obtain ⟨b2, off, rfl, hlt, hc⟩ := hr h0
  obtain ⟨v', w', hrun, h2, h3⟩ := run_append_arg_grows (P := P) w t ty E i z sz bytes T.ht hi hz hs hb hzs T.pos p n n (flat sz n f) (flat_length _ _ _) (rd_cells T.pos hf) ⟨b2, off, none⟩ m c (flat sz m g) (flat_length _ _ _) (rd_cells T.pos hr) (by omega) (by simp only [maxLen]; omega) (Nat.le_trans (Nat.mul_le_mul hm hby) (by decide))
  have h4 : Own w' w.heap.size E sz v' (n + m) (cat n f g) := by
    unfold Own
    rw [flat_cat]
    exact h2
  refine ⟨v', w', hrun, ?_, h3, ?_⟩
  · rcases h4 with ⟨k1, k2⟩
    refine ⟨k1, ?_⟩
    rcases k2 with k2 | ⟨g', cap, cur, e, hge, rest⟩
    · exact .inl k2
    · exact .inr ⟨g', cap, cur, e, Nat.zero_le _, rest⟩
  · intro q hq
    rcases h4.2 with ⟨e, _⟩ | ⟨g', cap, cur, e, hge, _⟩
    · rw [e] at hq; simp [Value.ownBlock] at hq
    · rw [e] at hq; simp [Value.ownBlock] at hq; rw [← hq]; exact hge
section
variable {c : Cx} {Q : Exit → Act → World → Prop} {F F' : Fr} {K K' K0 : List Fact} {ops : Array Oper} {rest : List Oper} {d : Option Tmp} {ty : TypeId} {pos : String} {af : Array Edge} {g : Option (Nat × Bool)}
theorem TL.apF {x y : Operand} {t E : TypeId} {sz bytes : Nat} {A A2 : Option Addr} {n m cp2 : Nat} {r s : Nat → List Value} (T : ElemT c.P t E sz bytes) (h : ∀ A' cp', TL c ops Q rest (fput F d (.slice A' (n + m) cp')) (.own A' (n + m) cp' E sz (catR n r s) :: K)) (hx : ev F x = some (.slice A n n) := by rfl) (hy : ev F y = some (.slice A2 m cp2) := by rfl) (hd : dok d c.n = true := by rfl)
    (hs1 : Src c K sz A n r := by first | exact Src.old (by assumption) (by first | exact Apart.nil | assumption) | exact Src.own pk9) (hs2 : Src c K sz A2 m s := by first | exact Src.blk1 pk9 rfl | exact Src.old (by assumption) (by first | exact Apart.nil | assumption) | exact Src.own pk9)
    (h0 : 0 < m := by omega) (h1 : ∀ i, i < m → (s i).all Value.oneCell' = true := by first | (intro i hi; rfl) | assumption) (hm : n + m ≤ 1000000000 := by omega) (hby : bytes ≤ 10000 := by decide) :
    TL c ops Q (⟨d, .call { callee := .builtin .append, args := #[x, y], argTypes := #[t, t] }, ty, pos, af, none⟩ :: rest) F K := fun a w hF hK => by
  have hr := hs1 w hK
  have hq := hs2 w hK
  obtain ⟨v', w', hrun, hown, hg, hge⟩ := run_append_F (ty := ty) (c := cp2) T hr.rd hq.rd h0 (fun i j hi hj => by
    have := h1 i hi
    rw [List.all_eq_true] at this
    have hlen := hq.len i hi
    have e : rowF s i j = (s i)[j]'(by omega) := by simp [rowF, List.getD_eq_getElem?_getD, List.getElem?_eq_getElem (show j < (s i).length by omega)]
    rw [e]
    exact this _ (List.getElem_mem _)) hm hby
  refine wpList_plain rfl fun Z hZ => ?_
  unfold Oper.wp execOp
  simp only [resolve, invoke, builtin, Sem.run_bind, Sem.run_pure, Result.andThen_ok, List.map_toArray, List.map_cons, List.map_nil, hF.evl hx, hF.evl hy]
  rw [hrun]
  obtain ⟨A', cp', rfl, _, _, _⟩ := hown.form
  have hbe : Below w.heap.size w w' := (Below.refl _ _).grown hg (Nat.le_refl _) (fun k hk => by cases hk)
  have hnew : Sat [] w [.own A' (n + m) cp' E sz (catR n r s)] w' := by
    refine Sat.one (Chg.of_ext hbe) (by rw [own_foot]; cases (Value.slice A' (n + m) cp').ownBlock <;> simp) (fun q hq => .inr ?_) ⟨hown.congr fun i j hi hj => ?_, fun i hi => ?_⟩
    · rw [own_foot] at hq
      exact hge q (by cases e : (Value.slice A' (n + m) cp').ownBlock with
        | none => rw [e] at hq; cases hq
        | some b => rw [e] at hq; simp at hq; rw [hq])
    · simp only [cat, rowF, catR]; split <;> rfl
    · simp only [catR]; split
      · exact hr.len i ‹_›
      · exact hq.len _ (by omega)
  exact hZ _ _ (h A' cp' _ _ (hF.fput hd _) (hK.add hnew))
theorem Pu.s3 {T E : TypeId} {sz bytes : Nat} {x y z : Operand} {A : Option Addr} {n cp : Nat} {i j : Int} (hT : ElemT c.P T E sz bytes) (hx : ev F x = some (.slice A n cp) := by rfl) (hy : ev F y = some (.int .i64 i) := by rfl) (hz : ev F z = some (.int .i64 j) := by rfl) (h1 : i = n := by rfl) (h2 : j = n := by rfl) (h3 : n ≤ cp := by omega) : Pu c F K ⟨d, .slice T x none (some y) (some z), ty, pos, af, g⟩ (.slice A n n) := fun a w hF _ => by
 obtain ⟨i', z', hi, hz', hs, hb, hzs⟩ := hT.hi
 have hsz : (sizeOf E).run c.P w = .ok sz w := by simp [sizeOf, typeInfo, hi, hs]
 have hA : A.map (fun x => x.add 0) = A := by
  cases A with
  | none => rfl
  | some p => simp [Addr.add]
 subst h1 h2
 simp [execOp, Instr.sliceAt, Instr.slice, hF.evl hx, hF.evl hy, hF.evl hz, run_underlying hT.ht, Instr.sliceBounds, Instr.sliceBound, asIntOf, h3, hsz, hA]
end
end Go.Proofs.YtfaenhhgkhcghaaGreatDoor
namespace Go.Proofs
open Go.Shelf
def Tryz.laysSlM5_f148_ren : Go.Shelf.Ren := ⟨fun | 5 => 148 | 8 => 155 | 7 => 154 | 19 => 164 | 20 => 165 | 10 => 156 | 11 => 157 | 12 => 158 | 13 => 159 | 14 => 160 | 15 => 161 | 16 => 152 | 17 => 162 | 18 => 163 | 30 => 166 | 31 => 167 | 32 => 168 | 33 => 169 | 34 => 170 | 35 => 128 | 40 => 171 | n => n, fun | 23 => 31 | 25 => 3 | 3 => 3 | 32 => 219 | 22 => 31 | 0 => 0 | 44 => 229 | 46 => 231 | 4 => 4 | 36 => 222 | 35 => 221 | 41 => 226 | 5 => 5 | 9 => 9 | 53 => 232 | 57 => 236 | 63 => 238 | 64 => 162 | n => n, fun | n => n⟩
theorem Tryz.laysSlM5_f148 : Go.Proofs.SlLaysM.n5 Tryz.prog Tryz.laysSlM5_f148_ren := {
 mixed := by kernel_rfl
 f5 := ⟨Tryz.f148.name, by decide, Tryz.func148.trans (congrArg some (by kernel_rfl))⟩
 f7 := ⟨Tryz.f154.name, by decide, Tryz.func154.trans (congrArg some (by kernel_rfl))⟩
 f8 := Tryz.func155.trans (congrArg some (by kernel_rfl))
 f10 := ⟨Tryz.f156.name, by decide, Tryz.func156.trans (congrArg some (by kernel_rfl))⟩
 f11 := ⟨Tryz.f157.name, by decide, Tryz.func157.trans (congrArg some (by kernel_rfl))⟩
 f12 := ⟨Tryz.f158.name, by decide, Tryz.func158.trans (congrArg some (by kernel_rfl))⟩
 f13 := ⟨Tryz.f159.name, by decide, Tryz.func159.trans (congrArg some (by kernel_rfl))⟩
 f14 := ⟨Tryz.f160.name, by decide, Tryz.func160.trans (congrArg some (by kernel_rfl))⟩
 f15 := ⟨Tryz.f161.name, by decide, Tryz.func161.trans (congrArg some (by kernel_rfl))⟩
 f16 := ⟨Tryz.f152.name, by decide, Tryz.func152.trans (congrArg some (by kernel_rfl))⟩
 f17 := ⟨Tryz.f162.name, by decide, Tryz.func162.trans (congrArg some (by kernel_rfl))⟩
 f18 := ⟨Tryz.f163.name, by decide, Tryz.func163.trans (congrArg some (by kernel_rfl))⟩
 f19 := Tryz.func164.trans (congrArg some (by kernel_rfl))
 f20 := Tryz.func165.trans (congrArg some (by kernel_rfl))
 f30 := ⟨Tryz.f166.name, by decide, Tryz.func166.trans (congrArg some (by kernel_rfl))⟩
 f31 := Tryz.func167.trans (congrArg some (by kernel_rfl))
 f32 := Tryz.func168.trans (congrArg some (by kernel_rfl))
 f33 := ⟨Tryz.f169.name, by decide, Tryz.func169.trans (congrArg some (by kernel_rfl))⟩
 f34 := ⟨Tryz.f170.name, by decide, Tryz.func170.trans (congrArg some (by kernel_rfl))⟩
 f35 := ⟨Tryz.f128.name, by decide, Tryz.func128.trans (congrArg some (by kernel_rfl))⟩
 f40 := ⟨Tryz.f171.name, by decide, Tryz.func171.trans (congrArg some (by kernel_rfl))⟩
 t0 := Tryz.underlying0
 a0 := Tryz.isAgg0
 z0 := Tryz.sizeOf0
 v0 := Tryz.zeroValue0
 t3 := Tryz.underlying3
 a3 := Tryz.isAgg3
 z3 := Tryz.sizeOf3
 v3 := Tryz.zeroValue3
 t4 := Tryz.underlying4
 a4 := Tryz.isAgg4
 z4 := Tryz.sizeOf4
 v4 := Tryz.zeroValue4
 t5 := Tryz.underlying5
 a5 := Tryz.isAgg5
 z5 := Tryz.sizeOf5
 v5 := Tryz.zeroValue5
 t9 := Tryz.underlying9
 a9 := Tryz.isAgg9
 z9 := Tryz.sizeOf9
 v9 := Tryz.zeroValue9
 t22 := Tryz.underlying31
 a22 := Tryz.isAgg31
 z22 := Tryz.sizeOf31
 v22 := Tryz.zeroValue31
 t23 := Tryz.underlying31
 a23 := Tryz.isAgg31
 z23 := Tryz.sizeOf31
 v23 := Tryz.zeroValue31
 t25 := Tryz.underlying3
 a25 := Tryz.isAgg3
 z25 := Tryz.sizeOf3
 v25 := Tryz.zeroValue3
 t32 := Tryz.underlying219
 a32 := Tryz.isAgg219
 z32 := Tryz.sizeOf219
 v32 := Tryz.zeroValue219
 t35 := Tryz.underlying221
 a35 := Tryz.isAgg221
 z35 := Tryz.sizeOf221
 v35 := Tryz.zeroValue221
 t36 := Tryz.underlying222
 a36 := Tryz.isAgg222
 z36 := Tryz.sizeOf222
 v36 := Tryz.zeroValue222
 t41 := Tryz.underlying226
 a41 := Tryz.isAgg226
 z41 := Tryz.sizeOf226
 v41 := Tryz.zeroValue226
 t44 := Tryz.underlying229
 a44 := Tryz.isAgg229
 z44 := Tryz.sizeOf229
 v44 := Tryz.zeroValue229
 t46 := Tryz.underlying231
 a46 := Tryz.isAgg231
 z46 := Tryz.sizeOf231
 v46 := Tryz.zeroValue231
 t53 := Tryz.underlying232
 a53 := Tryz.isAgg232
 z53 := Tryz.sizeOf232
 v53 := Tryz.zeroValue232
 t57 := Tryz.underlying236
 a57 := Tryz.isAgg236
 z57 := Tryz.sizeOf236
 v57 := Tryz.zeroValue236
 t63 := Tryz.underlying238
 a63 := Tryz.isAgg238
 z63 := Tryz.sizeOf238
 v63 := Tryz.zeroValue238
 t64 := Tryz.underlying162
 a64 := Tryz.isAgg162
 z64 := Tryz.sizeOf162
 v64 := Tryz.zeroValue162 }
open Go.Sort Go.RowKit in
theorem Tryz.slices_Sort_int (blk off cap : Nat) (zs : List Int) (w : World) (hH : Holds (Value.int .i64) w blk off zs.toArray) (hblk : blk < w.heap.size) (hsz : zs.length < 4611686018427387904) :
 Calls Tryz.prog 148 #[.slice (some ⟨blk, off, none⟩) zs.length cap] w fun e w' =>
  e = .returned (.tuple #[]) ∧ ∃ n os, w' = grow (putRow (Value.int .i64) (Sort.ahead w n) blk off (zs.mergeSort fun x y => decide (x ≤ y)).toArray) os := AnyM.slices_Sort_int Tryz.laysSlM5_f148 blk off cap zs w hH hblk hsz
open Go.RowKit Go.Sort in
theorem Tryz.slices_Sort_int_none (p : Option Addr) (cap : Nat) (w : World) :
 Calls Tryz.prog 148 #[.slice p 0 cap] w fun e w' => e = .returned (.tuple #[]) ∧ w' = w := AnyM.slices_Sort_int_none Tryz.laysSlM5_f148 p cap w
end Go.Proofs
