/-
  Part 13 of the proof of tollHired_holds: declarations of several texts, in build order. No condition on a program.
-/
import Derived.Test.YtmonkjnfjgidbaaGreatDoorHi12
import Derived.Test.YtmonkjnfjgidbaaGreatDoorHi02
import Derived.ProofKit
import Derived.Deep.Slices
import Derived.Carry
namespace Go.Proofs.YtmonkjnfjgidbaaGreatDoor
set_option linter.all false
set_option linter.unusedVariables false
set_option linter.unusedSimpArgs false
open Go.RowKit
def stpB (s : Nat → Int) : Bool := !(decide (s 2 < 0) || decide (s 3 < s 2) || decide (s 4 ≤ s 2) || decide (s 5 < s 4) || decide (100000 < s 5) || decide (s 5 ≤ s 3))
def gonB (Y : Wy) (Z : Cus) (T : Trp) : Bool := !(great7 Y.nw Y.nl Y.x Z.nc Z.nd Z.nb T.no T.nu T.nv || decide ((30 : Int) < (Y.n : Int)) || !decide (chkY Y Z = 0) || !trpOk T) && (decide (wkC Y = 0) && allB Y.n fun k => stpB (stY Y k))
def gonN (Y : Wy) (Z : Cus) (T : Trp) : Nat := if gonB Y Z T = true then Y.n else 0
structure Gon (Y : Wy) (Z : Cus) (T : Trp) : Prop where
  gr : great7 Y.nw Y.nl Y.x Z.nc Z.nd Z.nb T.no T.nu T.nv = false
  n30 : Y.n ≤ 30
  chk : chkY Y Z = 0
  trp : trpOk T = true
  wk : wkC Y = 0
  stp : ∀ k, k < Y.n → stpB (stY Y k) = true
theorem gon_of {Y : Wy} {Z : Cus} {T : Trp} (h : gonB Y Z T = true) : Gon Y Z T := by
  unfold gonB at h
  simp only [Bool.and_eq_true, Bool.not_eq_true', Bool.or_eq_false_iff, decide_eq_false_iff_not, Bool.not_eq_false', decide_eq_true_eq] at h
  obtain ⟨⟨⟨⟨h1, h2⟩, h3⟩, h4⟩, h5, h6⟩ := h
  exact ⟨h1, by omega, h3, h4, h5, fun k hk => allB_iff.1 h6 k hk⟩
theorem Gon.rdy {Y : Wy} {Z : Cus} {T : Trp} (h : Gon Y Z T) : rdyC Y Z T = 0 := rdy_ok h.chk h.trp
theorem gon_no1 {Y : Wy} {Z : Cus} {T : Trp} (h : (great7 Y.nw Y.nl Y.x Z.nc Z.nd Z.nb T.no T.nu T.nv || decide ((30 : Int) < (Y.n : Int)) || !decide (chkY Y Z = 0) || !trpOk T) = true) : gonB Y Z T = false := by unfold gonB; rw [h]; rfl
theorem gon_no2 {Y : Wy} {Z : Cus} {T : Trp} (h : wkC Y ≠ 0) : gonB Y Z T = false := by unfold gonB; rw [decide_eq_false h, Bool.false_and, Bool.and_false]
theorem gon_no3 {Y : Wy} {Z : Cus} {T : Trp} {k : Nat} (hk : k < Y.n) (h : stpB (stY Y k) = false) : gonB Y Z T = false := by
  cases e : gonB Y Z T with
  | false => rfl
  | true => have := (gon_of e).stp k hk; rw [h] at this; cases this
theorem gon_yes {Y : Wy} {Z : Cus} {T : Trp} (h1 : (great7 Y.nw Y.nl Y.x Z.nc Z.nd Z.nb T.no T.nu T.nv || decide ((30 : Int) < (Y.n : Int)) || !decide (chkY Y Z = 0) || !trpOk T) = false) (h2 : wkC Y = 0) (h3 : ∀ k, k < Y.n → stpB (stY Y k) = true) : gonB Y Z T = true := by
  unfold gonB
  rw [h1, decide_eq_true h2]
  show (true && _) = true
  rw [Bool.true_and]
  exact allB_iff.2 h3
def gonV (Y : Wy) (Z : Cus) (T : Trp) (y : Option Addr × Nat) : Value := .tuple #[.slice y.1 (gonN Y Z T) y.2, .bool (gonB Y Z T)]
def gonK (Y : Wy) (Z : Cus) (T : Trp) (y : Option Addr × Nat) : List Fact := [.own y.1 (gonN Y Z T) y.2 62 6 (fun k => stopL (stY Y k))]
theorem gon_bad {Y : Wy} {Z : Cus} {T : Trp} {w w' : World} {K : List Fact} (hw : Sat [] w K w') (h : gonB Y Z T = false) : ∃ y, Ending.returned (retV [.slice none 0 0, .bool false]) = .returned (gonV Y Z T y) ∧ Sat [] w (gonK Y Z T y) w' := by
  have e : gonN Y Z T = 0 := by unfold gonN; rw [h]; rfl
  refine ⟨(none, 0), ?_, ?_⟩
  · unfold gonV; rw [e, h]; rfl
  · unfold gonK; rw [e]; exact hw.sub (KSub.nilOwn KSub.nil)
section
variable {Y : Wy} {Z : Cus} {T : Trp} {W A L C D B O U V : Option Addr} {cw cl cn cc cd cb co cu cv : Nat} {w : World}
structure ArgIn (w : World) (Y : Wy) (Z : Cus) (T : Trp) (W A L C D B O U V : Option Addr) : Prop where
  hRW : RdR w 9 W Y.nw (fun k => wellL (Y.f k))
  hRA : RdR w 5 A Y.nl (fun k => legL (Y.x k))
  hRG : ∀ k, k < Y.nl → RdR w 4 (Y.x k).A (Y.x k).n (fun j => gateL (Y.g k j))
  hRC : RdR w 7 C Z.nc (fun k => claimL (Z.c k))
  hRD : RdR w 4 D Z.nd (fun k => feudL (Z.d k))
  hRB : RdR w 3 B Z.nb (fun k => borderL (Z.b k))
  hRO : RdR w 1 O T.no (fun k => [.int .i64 (T.o k)])
  hRU : RdR w 1 U T.nu (fun k => [.int .i64 (T.u k)])
  hRV : RdR w 1 V T.nv (fun k => [.int .i64 (T.v k)])
  hRL : RdR w 1 L Y.n (fun k => [.int .i64 (Y.ls k)])
theorem ArgIn.land (h : ArgIn w Y Z T W A L C D B O U V) (g : great7 Y.nw Y.nl Y.x Z.nc Z.nd Z.nb T.no T.nu T.nv = false) : LandIn w W Y.nw A Y.nl Y.f Y.x Y.g :=
  have q := great_all g
  ⟨q.1.1, q.1.2.1, h.hRW, h.hRA, q.1.2.2, h.hRG⟩
theorem ArgIn.cust (h : ArgIn w Y Z T W A L C D B O U V) (g : great7 Y.nw Y.nl Y.x Z.nc Z.nd Z.nb T.no T.nu T.nv = false) : CustIn w C Z.nc D Z.nd B Z.nb Z.c Z.d Z.b :=
  have q := great_all g
  ⟨q.2.1.1, q.2.1.2.1, q.2.1.2.2, h.hRC, h.hRD, h.hRB⟩
theorem ArgIn.trp (h : ArgIn w Y Z T W A L C D B O U V) (g : great7 Y.nw Y.nl Y.x Z.nc Z.nd Z.nb T.no T.nu T.nv = false) : TrpIn w T O U V :=
  have q := great_all g
  ⟨q.2.2.1, q.2.2.2.1, q.2.2.2.2, h.hRO, h.hRU, h.hRV⟩
set_option maxRecDepth 100000 in
set_option maxHeartbeats 4000000 in
theorem going_any (a : ArgIn w Y Z T W A L C D B O U V) :
    CallsK Tryz.prog 28 #[.agg (landL W Y.nw cw A Y.nl cl).toArray, .agg (custL C Z.nc cc D Z.nd cd B Z.nb cb).toArray, .agg (troopL T.hd T.wo O T.no co U T.nu cu V T.nv cv).toArray, .int .i64 Y.start, .int .i64 Y.day, .agg #[.int .i64 Y.p0, .int .i64 Y.p1], .slice L Y.n cn] [] w (Option Addr × Nat) (gonV Y Z T) (gonK Y Z T) := by
  have hRA := a.hRA
  have hRL := a.hRL
  have fK := fun (w' : World) (h1 : LandIn w' W Y.nw A Y.nl Y.f Y.x Y.g) (h2 : CustIn w' C Z.nc D Z.nd B Z.nb Z.c Z.d Z.b) => refCheck_any (cw := cw) (cl := cl) (cc := cc) (cd := cd) (cb := cb) h1 h2
  have fT := fun (w' : World) (h3 : TrpIn w' T O U V) => rTroop_any (co := co) (cu := cu) (cv := cv) h3
  have fW := fun (w' : World) (h1 : LandIn w' W Y.nw A Y.nl Y.f Y.x Y.g) (hn : Y.n ≤ 1000) (h2 : RdR w' 1 L Y.n (fun k => [.int .i64 (Y.ls k)])) => cWalk_any (cw := cw) (cl := cl) (cn := cn) h1 hn h2
  unfold landL custL at fK
  unfold troopL at fT
  unfold landL at fW
  unfold landL custL troopL
  refine K_enter (S := []) (K := []) Tryz.func28 rfl Tryz.ntmps28 rfl (Sat.start _) ?_
  refine TW.seq fun Y1 hY1 => ?_
  refine TW.region ?_
  refine TL.m Mk.bx ?_
  intro b1
  refine TL.m Mk.bx ?_
  intro b2
  refine TL.m Mk.bx ?_
  intro b3
  refine TL.m Mk.bx ?_
  intro b4
  refine TL.p Pu.as ?_
  refine TL.p Pu.as ?_
  refine TL.nil ?_
  refine TQ.thenN (hY1 _ _ ?_)
  refine TW.seq fun Y2 hY2 => ?_
  refine TW.seq fun Y3 hY3 => ?_
  refine TW.join [(40, .bool (great7 Y.nw Y.nl Y.x Z.nc Z.nd Z.nb T.no T.nu T.nv || decide ((30 : Int) < (Y.n : Int)) || !decide (chkY Y Z = 0) || !trpOk T))] ?_ (fun hJ1 => ?_)
  refine TQ.thenN (hY3 _ _ ?_)
  refine TW.cond rfl (fun hc0 => ?_) (fun hc0 => ?_)
  try simp only [decide_eq_true_eq, decide_eq_false_iff_not, Bool.not_eq_true', Bool.not_eq_false', Bool.and_eq_true, Bool.or_eq_true, Bool.and_eq_false_iff, Bool.or_eq_false_iff, Int.not_lt, Int.not_le] at hc0
  have hbad := gon_no1 (Y := Y) (Z := Z) (T := T) (by simpa using hc0)
  refine TW.seq fun Y4 hY4 => ?_
  refine TW.region ?_
  refine TL.p Pu.as ?_
  refine TL.p Pu.as ?_
  refine TL.nil ?_
  refine TQ.thenN (hY4 _ _ ?_)
  refine TW.ret ?_
  refine TQ.thenR ?_
  refine TQ.ret Tryz.results28 rfl ((.tmp rfl (.tmp rfl .nil))) ?_
  exact fun w hw => gon_bad hw hbad
  try simp only [decide_eq_true_eq, decide_eq_false_iff_not, Bool.not_eq_true', Bool.not_eq_false', Bool.and_eq_true, Bool.or_eq_true, Bool.and_eq_false_iff, Bool.or_eq_false_iff, Int.not_lt, Int.not_le] at hc0
  have hg0 : (great7 Y.nw Y.nl Y.x Z.nc Z.nd Z.nb T.no T.nu T.nv || decide ((30 : Int) < (Y.n : Int)) || !decide (chkY Y Z = 0) || !trpOk T) = false := by simpa using hc0
  have hgr : great7 Y.nw Y.nl Y.x Z.nc Z.nd Z.nb T.no T.nu T.nv = false := by rw [Bool.or_eq_false_iff, Bool.or_eq_false_iff, Bool.or_eq_false_iff] at hg0; exact hg0.1.1.1
  have hnn : Y.n ≤ 1000 := by rw [Bool.or_eq_false_iff, Bool.or_eq_false_iff, Bool.or_eq_false_iff, decide_eq_false_iff_not] at hg0; have := hg0.1.1.2; omega
  refine TW.skip ?_
  refine TQ.thenN (hY2 _ _ ?_)
  refine TW.seq fun Y5 hY5 => ?_
  refine TW.region ?_
  refine TL.p (Pu.lds ty_ag25) ?_
  refine TL.p Pu.mv ?_
  refine TL.p Pu.mv ?_
  refine TL.p (Pu.lds ty_ag35) ?_
  refine TL.p Pu.mv ?_
  refine TL.call (M := []) rfl (enters Tryz.func63 rfl rfl) (List.Perm.refl _) rfl (fun w hw => by
      exact fW _ ((a.land hgr).ext (Chg.ext hw.chg)) hnn (hRL.sat hw Apart.nil)) ?_
  rintro ⟨⟨As, cs⟩, i9⟩
  simp only [wkR, wkL, List.cons_append, List.nil_append]
  refine TL.p Pu.mv ?_
  refine TL.p Pu.ex ?_
  refine TL.p Pu.ex ?_
  refine TL.p Pu.ex ?_
  refine TL.p Pu.as ?_
  refine TL.p Pu.as ?_
  refine TL.p Pu.as ?_
  refine TL.nil ?_
  refine TQ.thenN (hY5 _ _ ?_)
  refine TW.seq fun Y6 hY6 => ?_
  refine TW.seq fun Y7 hY7 => ?_
  refine TW.region ?_
  refine TL.p Pu.mv ?_
  refine TL.p Pu.ne ?_
  refine TL.nil ?_
  refine TQ.thenN (hY7 _ _ ?_)
  refine TW.cond rfl (fun hc1 => ?_) (fun hc1 => ?_)
  try simp only [decide_eq_true_eq, decide_eq_false_iff_not, Bool.not_eq_true', Bool.not_eq_false', Bool.and_eq_true, Bool.or_eq_true, Bool.and_eq_false_iff, Bool.or_eq_false_iff, Int.not_lt, Int.not_le] at hc1
  have hbad := gon_no2 (Y := Y) (Z := Z) (T := T) hc1
  refine TW.seq fun Y8 hY8 => ?_
  refine TW.region ?_
  refine TL.p Pu.as ?_
  refine TL.p Pu.as ?_
  refine TL.nil ?_
  refine TQ.thenN (hY8 _ _ ?_)
  refine TW.ret ?_
  refine TQ.thenR ?_
  refine TQ.ret Tryz.results28 rfl ((.tmp rfl (.tmp rfl .nil))) ?_
  exact fun w hw => gon_bad hw hbad
  try simp only [decide_eq_true_eq, decide_eq_false_iff_not, Bool.not_eq_true', Bool.not_eq_false', Bool.and_eq_true, Bool.or_eq_true, Bool.and_eq_false_iff, Bool.or_eq_false_iff, Int.not_lt, Int.not_le] at hc1
  have hwz : wkC Y = 0 := by simpa using hc1
  have hwn := wkN_n hwz
  rw [hwn]
  refine TW.skip ?_
  refine TQ.thenN (hY6 _ _ ?_)
  refine TW.seq fun Y9 hY9 => ?_
  refine TW.seq fun Y10 hY10 => ?_
  refine TW.region ?_
  refine TL.p Pu.mv ?_
  refine TL.p (Pu.ln Tryz.underlying58) ?_
  refine TL.p Pu.mv ?_
  refine TL.nil ?_
  refine TQ.thenN (hY10 _ _ ?_)
  refine TW.block ?_
  refine TW.loop1 (fun (i : Nat) => [(55, .int .i64 (i : Int)), (54, .int .i64 (Y.n : Int)), (53, .slice As Y.n cs), (16, .slice As Y.n cs)]) (fun i => [.own As Y.n cs 62 6 (fun k => stopL (stY Y k))]) (fun i => i ≤ Y.n ∧ ∀ j, j < i → stpB (stY Y j) = true) (fun i => Y.n - i) 0 fs9 ?_ ?_ ?_
  exact ks9
  exact ⟨Nat.zero_le _, fun j hj => by omega⟩
  rintro i ⟨hi, hall⟩ Z0 hZ0
  refine TW.seq fun Y11 hY11 => ?_
  refine TW.region ?_
  refine TL.p Pu.lt ?_
  refine TL.nil ?_
  refine TQ.thenN (hY11 _ _ ?_)
  refine TW.seq fun Y12 hY12 => ?_
  refine TW.cond rfl (fun hc2 => ?_) (fun hc2 => ?_)
  try simp only [decide_eq_true_eq, decide_eq_false_iff_not, Bool.not_eq_true', Bool.not_eq_false', Bool.and_eq_true, Bool.or_eq_true, Bool.and_eq_false_iff, Bool.or_eq_false_iff, Int.not_lt, Int.not_le] at hc2
  have hin : i < Y.n := by omega
  refine TW.skip ?_
  refine TQ.thenN (hY12 _ _ ?_)
  refine TW.seq fun Y13 hY13 => ?_
  refine TW.block ?_
  refine TW.seq fun Y14 hY14 => ?_
  refine TW.region ?_
  refine TL.p (Pu.el ty_et58) ?_
  refine TL.p (Pu.lds ty_ag62) ?_
  refine TL.m (Mk.al ty_zr62) ?_
  intro b5
  first | refine TL.st ty_sz62 ?_ | refine TL.se ty_sz62 ?_
  refine TL.nil ?_
  refine TQ.thenN (hY14 _ _ ?_)
  refine TW.seq fun Y15 hY15 => ?_
  refine TW.join [(104, .bool (!stpB (stY Y i)))] ?_ (fun hJ2 => ?_)
  refine TQ.thenN (hY15 _ _ ?_)
  refine TW.cond rfl (fun hc3 => ?_) (fun hc3 => ?_)
  try simp only [decide_eq_true_eq, decide_eq_false_iff_not, Bool.not_eq_true', Bool.not_eq_false', Bool.and_eq_true, Bool.or_eq_true, Bool.and_eq_false_iff, Bool.or_eq_false_iff, Int.not_lt, Int.not_le] at hc3
  have hbad := gon_no3 (Y := Y) (Z := Z) (T := T) hin (by simpa using hc3)
  refine TW.seq fun Y16 hY16 => ?_
  refine TW.region ?_
  refine TL.p Pu.as ?_
  refine TL.p Pu.as ?_
  refine TL.nil ?_
  refine TQ.thenN (hY16 _ _ ?_)
  refine TW.ret ?_
  refine TQ.blkR ?_
  refine TQ.thenR ?_
  refine TQ.thenR ?_
  refine TQ.blkR ?_
  refine TQ.thenR ?_
  refine TQ.ret Tryz.results28 rfl ((.tmp rfl (.tmp rfl .nil))) ?_
  exact fun w hw => gon_bad hw hbad
  try simp only [decide_eq_true_eq, decide_eq_false_iff_not, Bool.not_eq_true', Bool.not_eq_false', Bool.and_eq_true, Bool.or_eq_true, Bool.and_eq_false_iff, Bool.or_eq_false_iff, Int.not_lt, Int.not_le] at hc3
  have hst : stpB (stY Y i) = true := by simpa using hc3
  refine TW.skip ?_
  refine TQ.blkN ?_
  refine TQ.thenN (hY13 _ _ ?_)
  refine TW.region ?_
  refine TL.p Pu.ad ?_
  refine TL.p Pu.mv ?_
  refine TL.nil ?_
  refine TQ.thenN (hZ0 (i + 1) _ _ ?_ ?_ fs9 ?_)
  exact ⟨by omega, fun j hj => (Nat.lt_succ_iff_lt_or_eq.1 hj).elim (hall j) (fun e => by rw [e]; exact hst)⟩
  exact (by first | omega | (simp only []; omega) | (simp; omega))
  exact ks9
  refine TW.region ?_
  refine TL.p (by first | exact Pu.fb ty_fa62_2 | exact Pu.fe ty_fa62_2) ?_
  refine TL.p (by first | exact Pu.fb ty_fa35_0 | exact Pu.fe ty_fa35_0) ?_
  refine TL.p (Pu.ld ty_sc3) ?_
  refine TL.p Pu.lt ?_
  refine TL.p Pu.mv ?_
  refine TL.guard (t := 63) rfl (fun hg1 => ?_) (fun hg1 => ?_)
  try simp only [decide_eq_true_eq, decide_eq_false_iff_not, Bool.not_eq_true', Bool.not_eq_false', Int.natCast_pos] at hg1
  refine TL.gs ?_
  refine TL.gs ?_
  refine TL.gs ?_
  refine TL.gs ?_
  refine TL.gs ?_
  refine TL.gs ?_
  refine TL.gs ?_
  refine TL.p Pu.kt ?_
  refine TL.p Pu.mv ?_
  refine TL.gs ?_
  refine TL.gs ?_
  refine TL.gs ?_
  refine TL.gs ?_
  refine TL.gs ?_
  refine TL.gs ?_
  refine TL.gs ?_
  refine TL.p Pu.kt ?_
  refine TL.p Pu.mv ?_
  refine TL.gs ?_
  refine TL.gs ?_
  refine TL.gs ?_
  refine TL.gs ?_
  refine TL.gs ?_
  refine TL.gs ?_
  refine TL.gs ?_
  refine TL.p Pu.kt ?_
  refine TL.p Pu.mv ?_
  refine TL.gs ?_
  refine TL.gs ?_
  refine TL.gs ?_
  refine TL.gs ?_
  refine TL.p Pu.kt ?_
  refine TL.p Pu.mv ?_
  refine TL.gs ?_
  refine TL.gs ?_
  refine TL.gs ?_
  refine TL.gs ?_
  refine TL.gs ?_
  refine TL.gs ?_
  refine TL.gs ?_
  refine TL.p Pu.kt ?_
  refine TL.nil ?_
  exact TQ.sub (by repeat (first | exact trivial | refine ⟨rfl, ?_⟩ | refine ⟨trivial, ?_⟩ | refine ⟨(by show some (Value.bool _) = some (Value.bool _); first | (simp [hg1, stpB]; done) | (refine congrArg (fun z => some (Value.bool z)) (Bool.eq_iff_iff.2 ?_); simp [hg1, stpB]; omega)), ?_⟩)) ks9 hJ2
  try simp only [decide_eq_true_eq, decide_eq_false_iff_not, Bool.not_eq_true', Bool.not_eq_false', Int.natCast_pos] at hg1
  refine TL.gd (by first | exact Pu.fb ty_fa62_2 | exact Pu.fe ty_fa62_2) ?_
  refine TL.gd (by first | exact Pu.fb ty_fa35_0 | exact Pu.fe ty_fa35_0) ?_
  refine TL.gd (Pu.ld ty_sc3) ?_
  refine TL.gd (by first | exact Pu.fb ty_fa62_2 | exact Pu.fe ty_fa62_2) ?_
  refine TL.gd (by first | exact Pu.fb ty_fa35_1 | exact Pu.fe ty_fa35_1) ?_
  refine TL.gd (Pu.ld ty_sc3) ?_
  refine TL.gd Pu.gt ?_
  refine TL.p Pu.kf ?_
  refine TL.p Pu.mv ?_
  refine TL.guard (t := 72) rfl (fun hg2 => ?_) (fun hg2 => ?_)
  try simp only [decide_eq_true_eq, decide_eq_false_iff_not, Bool.not_eq_true', Bool.not_eq_false', Int.natCast_pos] at hg2
  refine TL.gs ?_
  refine TL.gs ?_
  refine TL.gs ?_
  refine TL.gs ?_
  refine TL.gs ?_
  refine TL.gs ?_
  refine TL.gs ?_
  refine TL.p Pu.kt ?_
  refine TL.p Pu.mv ?_
  refine TL.gs ?_
  refine TL.gs ?_
  refine TL.gs ?_
  refine TL.gs ?_
  refine TL.gs ?_
  refine TL.gs ?_
  refine TL.gs ?_
  refine TL.p Pu.kt ?_
  refine TL.p Pu.mv ?_
  refine TL.gs ?_
  refine TL.gs ?_
  refine TL.gs ?_
  refine TL.gs ?_
  refine TL.p Pu.kt ?_
  refine TL.p Pu.mv ?_
  refine TL.gs ?_
  refine TL.gs ?_
  refine TL.gs ?_
  refine TL.gs ?_
  refine TL.gs ?_
  refine TL.gs ?_
  refine TL.gs ?_
  refine TL.p Pu.kt ?_
  refine TL.nil ?_
  exact TQ.sub (by repeat (first | exact trivial | refine ⟨rfl, ?_⟩ | refine ⟨trivial, ?_⟩ | refine ⟨(by show some (Value.bool _) = some (Value.bool _); first | (simp [hg1, hg2, stpB]; done) | (refine congrArg (fun z => some (Value.bool z)) (Bool.eq_iff_iff.2 ?_); simp [hg1, hg2, stpB]; omega)), ?_⟩)) ks9 hJ2
  try simp only [decide_eq_true_eq, decide_eq_false_iff_not, Bool.not_eq_true', Bool.not_eq_false', Int.natCast_pos] at hg2
  refine TL.gd (by first | exact Pu.fb ty_fa62_3 | exact Pu.fe ty_fa62_3) ?_
  refine TL.gd (by first | exact Pu.fb ty_fa35_0 | exact Pu.fe ty_fa35_0) ?_
  refine TL.gd (Pu.ld ty_sc3) ?_
  refine TL.gd (by first | exact Pu.fb ty_fa62_2 | exact Pu.fe ty_fa62_2) ?_
  refine TL.gd (by first | exact Pu.fb ty_fa35_0 | exact Pu.fe ty_fa35_0) ?_
  refine TL.gd (Pu.ld ty_sc3) ?_
  refine TL.gd Pu.le ?_
  refine TL.p Pu.kf ?_
  refine TL.p Pu.mv ?_
  refine TL.guard (t := 81) rfl (fun hg3 => ?_) (fun hg3 => ?_)
  try simp only [decide_eq_true_eq, decide_eq_false_iff_not, Bool.not_eq_true', Bool.not_eq_false', Int.natCast_pos] at hg3
  refine TL.gs ?_
  refine TL.gs ?_
  refine TL.gs ?_
  refine TL.gs ?_
  refine TL.gs ?_
  refine TL.gs ?_
  refine TL.gs ?_
  refine TL.p Pu.kt ?_
  refine TL.p Pu.mv ?_
  refine TL.gs ?_
  refine TL.gs ?_
  refine TL.gs ?_
  refine TL.gs ?_
  refine TL.p Pu.kt ?_
  refine TL.p Pu.mv ?_
  refine TL.gs ?_
  refine TL.gs ?_
  refine TL.gs ?_
  refine TL.gs ?_
  refine TL.gs ?_
  refine TL.gs ?_
  refine TL.gs ?_
  refine TL.p Pu.kt ?_
  refine TL.nil ?_
  exact TQ.sub (by repeat (first | exact trivial | refine ⟨rfl, ?_⟩ | refine ⟨trivial, ?_⟩ | refine ⟨(by show some (Value.bool _) = some (Value.bool _); first | (simp [hg1, hg2, hg3, stpB]; done) | (refine congrArg (fun z => some (Value.bool z)) (Bool.eq_iff_iff.2 ?_); simp [hg1, hg2, hg3, stpB]; omega)), ?_⟩)) ks9 hJ2
  try simp only [decide_eq_true_eq, decide_eq_false_iff_not, Bool.not_eq_true', Bool.not_eq_false', Int.natCast_pos] at hg3
  refine TL.gd (by first | exact Pu.fb ty_fa62_3 | exact Pu.fe ty_fa62_3) ?_
  refine TL.gd (by first | exact Pu.fb ty_fa35_0 | exact Pu.fe ty_fa35_0) ?_
  refine TL.gd (Pu.ld ty_sc3) ?_
  refine TL.gd (by first | exact Pu.fb ty_fa62_3 | exact Pu.fe ty_fa62_3) ?_
  refine TL.gd (by first | exact Pu.fb ty_fa35_1 | exact Pu.fe ty_fa35_1) ?_
  refine TL.gd (Pu.ld ty_sc3) ?_
  refine TL.gd Pu.gt ?_
  refine TL.p Pu.kf ?_
  refine TL.p Pu.mv ?_
  refine TL.guard (t := 90) rfl (fun hg4 => ?_) (fun hg4 => ?_)
  try simp only [decide_eq_true_eq, decide_eq_false_iff_not, Bool.not_eq_true', Bool.not_eq_false', Int.natCast_pos] at hg4
  refine TL.gs ?_
  refine TL.gs ?_
  refine TL.gs ?_
  refine TL.gs ?_
  refine TL.p Pu.kt ?_
  refine TL.p Pu.mv ?_
  refine TL.gs ?_
  refine TL.gs ?_
  refine TL.gs ?_
  refine TL.gs ?_
  refine TL.gs ?_
  refine TL.gs ?_
  refine TL.gs ?_
  refine TL.p Pu.kt ?_
  refine TL.nil ?_
  exact TQ.sub (by repeat (first | exact trivial | refine ⟨rfl, ?_⟩ | refine ⟨trivial, ?_⟩ | refine ⟨(by show some (Value.bool _) = some (Value.bool _); first | (simp [hg1, hg2, hg3, hg4, stpB]; done) | (refine congrArg (fun z => some (Value.bool z)) (Bool.eq_iff_iff.2 ?_); simp [hg1, hg2, hg3, hg4, stpB]; omega)), ?_⟩)) ks9 hJ2
  try simp only [decide_eq_true_eq, decide_eq_false_iff_not, Bool.not_eq_true', Bool.not_eq_false', Int.natCast_pos] at hg4
  refine TL.gd (by first | exact Pu.fb ty_fa62_3 | exact Pu.fe ty_fa62_3) ?_
  refine TL.gd (by first | exact Pu.fb ty_fa35_1 | exact Pu.fe ty_fa35_1) ?_
  refine TL.gd (Pu.ld ty_sc3) ?_
  refine TL.gd Pu.gt ?_
  refine TL.p Pu.kf ?_
  refine TL.p Pu.mv ?_
  refine TL.guard (t := 96) rfl (fun hg5 => ?_) (fun hg5 => ?_)
  try simp only [decide_eq_true_eq, decide_eq_false_iff_not, Bool.not_eq_true', Bool.not_eq_false', Int.natCast_pos] at hg5
  refine TL.gs ?_
  refine TL.gs ?_
  refine TL.gs ?_
  refine TL.gs ?_
  refine TL.gs ?_
  refine TL.gs ?_
  refine TL.gs ?_
  refine TL.p Pu.kt ?_
  refine TL.nil ?_
  exact TQ.sub (by repeat (first | exact trivial | refine ⟨rfl, ?_⟩ | refine ⟨trivial, ?_⟩ | refine ⟨(by show some (Value.bool _) = some (Value.bool _); first | (simp [hg1, hg2, hg3, hg4, hg5, stpB]; done) | (refine congrArg (fun z => some (Value.bool z)) (Bool.eq_iff_iff.2 ?_); simp [hg1, hg2, hg3, hg4, hg5, stpB]; omega)), ?_⟩)) ks9 hJ2
  try simp only [decide_eq_true_eq, decide_eq_false_iff_not, Bool.not_eq_true', Bool.not_eq_false', Int.natCast_pos] at hg5
  refine TL.gd (by first | exact Pu.fb ty_fa62_3 | exact Pu.fe ty_fa62_3) ?_
  refine TL.gd (by first | exact Pu.fb ty_fa35_1 | exact Pu.fe ty_fa35_1) ?_
  refine TL.gd (Pu.ld ty_sc3) ?_
  refine TL.gd (by first | exact Pu.fb ty_fa62_2 | exact Pu.fe ty_fa62_2) ?_
  refine TL.gd (by first | exact Pu.fb ty_fa35_1 | exact Pu.fe ty_fa35_1) ?_
  refine TL.gd (Pu.ld ty_sc3) ?_
  refine TL.gd Pu.le ?_
  refine TL.p Pu.kf ?_
  refine TL.nil ?_
  exact TQ.sub (by repeat (first | exact trivial | refine ⟨rfl, ?_⟩ | refine ⟨trivial, ?_⟩ | refine ⟨(by show some (Value.bool _) = some (Value.bool _); first | (simp [hg1, hg2, hg3, hg4, hg5, stpB]; done) | (refine congrArg (fun z => some (Value.bool z)) (Bool.eq_iff_iff.2 ?_); simp [hg1, hg2, hg3, hg4, hg5, stpB]; omega)), ?_⟩)) ks9 hJ2
  try simp only [decide_eq_true_eq, decide_eq_false_iff_not, Bool.not_eq_true', Bool.not_eq_false', Bool.and_eq_true, Bool.or_eq_true, Bool.and_eq_false_iff, Bool.or_eq_false_iff, Int.not_lt, Int.not_le] at hc2
  obtain rfl : i = Y.n := by omega
  refine TW.exit ?_
  refine TQ.thenX ?_
  refine TQ.thenX ?_
  refine TQ.blkX ?_
  refine TQ.thenN (hY9 _ _ ?_)
  refine TW.seq fun Y17 hY17 => ?_
  refine TW.region ?_
  refine TL.p Pu.mv ?_
  refine TL.p Pu.as ?_
  refine TL.p Pu.as ?_
  refine TL.nil ?_
  refine TQ.thenN (hY17 _ _ ?_)
  refine TW.ret ?_
  refine TQ.ret Tryz.results28 rfl ((.tmp rfl (.tmp rfl .nil))) ?_
  have hyes := gon_yes (Y := Y) (Z := Z) (T := T) hg0 hwz hall
  have e : gonN Y Z T = Y.n := if_pos hyes
  exact fun w hw => ⟨(As, cs), by unfold gonV; rw [e, hyes]; rfl, by unfold gonK; rw [e]; exact hw.sub (KSub.cons pk9 KSub.nil)⟩
  refine TW.region ?_
  refine TL.p (Pu.lds ty_ag25) ?_
  refine TL.p (Pu.lds ty_ag30) ?_
  refine TL.p (Pu.lds ty_ag33) ?_
  refine TL.cr rfl (enters Tryz.func14 rfl rfl) (fun w hw => by
      exact great7_any (hRA.sat hw Apart.nil)) ?_
  refine TL.p Pu.mv ?_
  refine TL.guard (t := 25) rfl (fun hg6 => ?_) (fun hg6 => ?_)
  try simp only [decide_eq_true_eq, decide_eq_false_iff_not, Bool.not_eq_true', Bool.not_eq_false', Int.natCast_pos] at hg6
  refine TL.gs ?_
  refine TL.gs ?_
  refine TL.gs ?_
  refine TL.p Pu.kt ?_
  refine TL.p Pu.mv ?_
  refine TL.gs ?_
  refine TL.gs ?_
  refine TL.gs ?_
  refine TL.gs ?_
  refine TL.p Pu.kt ?_
  refine TL.p Pu.mv ?_
  refine TL.gs ?_
  refine TL.gs ?_
  refine TL.gs ?_
  refine TL.p Pu.kt ?_
  refine TL.nil ?_
  exact TQ.sub (by repeat (first | exact trivial | refine ⟨rfl, ?_⟩ | refine ⟨trivial, ?_⟩ | refine ⟨(by show some (Value.bool _) = some (Value.bool _); first | (simp [hg6, chkY]; done) | (refine congrArg (fun z => some (Value.bool z)) (Bool.eq_iff_iff.2 ?_); simp [hg6, chkY]; omega)), ?_⟩)) ks9 hJ1
  try simp only [decide_eq_true_eq, decide_eq_false_iff_not, Bool.not_eq_true', Bool.not_eq_false', Int.natCast_pos] at hg6
  refine TL.gd Pu.mv ?_
  refine TL.gd (Pu.ln Tryz.underlying31) ?_
  refine TL.gd Pu.gt ?_
  refine TL.p Pu.kf ?_
  refine TL.p Pu.mv ?_
  refine TL.guard (t := 30) rfl (fun hg7 => ?_) (fun hg7 => ?_)
  try simp only [decide_eq_true_eq, decide_eq_false_iff_not, Bool.not_eq_true', Bool.not_eq_false', Int.natCast_pos] at hg7
  refine TL.gs ?_
  refine TL.gs ?_
  refine TL.gs ?_
  refine TL.gs ?_
  refine TL.p Pu.kt ?_
  refine TL.p Pu.mv ?_
  refine TL.gs ?_
  refine TL.gs ?_
  refine TL.gs ?_
  refine TL.p Pu.kt ?_
  refine TL.nil ?_
  exact TQ.sub (by repeat (first | exact trivial | refine ⟨rfl, ?_⟩ | refine ⟨trivial, ?_⟩ | refine ⟨(by show some (Value.bool _) = some (Value.bool _); first | (simp [hg6, hg7, chkY]; done) | (refine congrArg (fun z => some (Value.bool z)) (Bool.eq_iff_iff.2 ?_); simp [hg6, hg7, chkY]; omega)), ?_⟩)) ks9 hJ1
  try simp only [decide_eq_true_eq, decide_eq_false_iff_not, Bool.not_eq_true', Bool.not_eq_false', Int.natCast_pos] at hg7
  refine TL.gd (Pu.lds ty_ag25) ?_
  refine TL.gd (Pu.lds ty_ag30) ?_
  refine TL.cr rfl (enters Tryz.func35 rfl rfl) (fun w hw => by
      exact fK _ ((a.land hg6).ext (Chg.ext hw.chg)) ((a.cust hg6).ext (Chg.ext hw.chg))) ?_
  refine TL.gd Pu.ne ?_
  refine TL.p Pu.kf ?_
  refine TL.p Pu.mv ?_
  refine TL.guard (t := 36) rfl (fun hg8 => ?_) (fun hg8 => ?_)
  try simp only [decide_eq_true_eq, decide_eq_false_iff_not, Bool.not_eq_true', Bool.not_eq_false', Int.natCast_pos] at hg8
  refine TL.gs ?_
  refine TL.gs ?_
  refine TL.gs ?_
  refine TL.p Pu.kt ?_
  refine TL.nil ?_
  exact TQ.sub (by repeat (first | exact trivial | refine ⟨rfl, ?_⟩ | refine ⟨trivial, ?_⟩ | refine ⟨(by show some (Value.bool _) = some (Value.bool _); first | (simp [hg6, hg7, hg8, chkY]; done) | (refine congrArg (fun z => some (Value.bool z)) (Bool.eq_iff_iff.2 ?_); simp [hg6, hg7, hg8, chkY]; omega)), ?_⟩)) ks9 hJ1
  try simp only [decide_eq_true_eq, decide_eq_false_iff_not, Bool.not_eq_true', Bool.not_eq_false', Int.natCast_pos] at hg8
  refine TL.gd (Pu.lds ty_ag33) ?_
  refine TL.cr rfl (enters Tryz.func51 rfl rfl) (fun w hw => by
      exact fT _ ((a.trp hg6).ext (Chg.ext hw.chg))) ?_
  refine TL.gd Pu.no ?_
  refine TL.p Pu.kf ?_
  refine TL.nil ?_
  exact TQ.sub (by repeat (first | exact trivial | refine ⟨rfl, ?_⟩ | refine ⟨trivial, ?_⟩ | refine ⟨(by show some (Value.bool _) = some (Value.bool _); first | (simp [hg6, hg7, hg8, chkY]; done) | (refine congrArg (fun z => some (Value.bool z)) (Bool.eq_iff_iff.2 ?_); simp [hg6, hg7, hg8, chkY]; omega)), ?_⟩)) ks9 hJ1
end
end Go.Proofs.YtmonkjnfjgidbaaGreatDoor
namespace Go.Proofs.YtmonkjnfjgidbaaGreatDoor
set_option linter.all false
set_option linter.unusedVariables false
set_option linter.unusedSimpArgs false
section
variable {Z : Cus} {lo : Int} {k : Nat}
end
section
variable {Z : Cus} {T : Trp} {leg d t : Int}
end
section
variable {Z : Cus} {T : Trp} {s : Nat → Int}
end
theorem barA_ok {Y : Wy} {Z : Cus} {T : Trp} (h : tolC Y Z T = 0) : barA Y Z T = barD Z T Y.n (stY Y) := if_pos h
end Go.Proofs.YtmonkjnfjgidbaaGreatDoor
namespace Go.Proofs.YtmonkjnfjgidbaaGreatDoor
set_option linter.all false
set_option linter.unusedVariables false
set_option linter.unusedSimpArgs false
open Go.RowKit
theorem ltL_irr : ∀ l : List Int, ltL l l = false
  | [] => rfl
  | a :: l => by simp only [ltL, if_true]; exact ltL_irr l
theorem ltL_trans : ∀ {l m n : List Int}, l.length = m.length → m.length = n.length → ltL l m = true → ltL m n = true → ltL l n = true
  | [], _, _, _, _, h, _ => by simp [ltL] at h
  | _ :: _, [], _, h, _, _, _ => by simp at h
  | _ :: _, _ :: _, [], _, h, _, _ => by simp at h
  | a :: l, b :: m, c :: n, h1, h2, h3, h4 => by
    simp only [ltL] at h3 h4 ⊢
    by_cases e1 : a = b
    · subst e1
      rw [if_pos rfl] at h3
      by_cases e2 : a = c
      · subst e2
        rw [if_pos rfl] at h4 ⊢
        exact ltL_trans (by simpa using h1) (by simpa using h2) h3 h4
      · rw [if_neg e2] at h4 ⊢
        exact h4
    · rw [if_neg e1, decide_eq_true_eq] at h3
      by_cases e2 : b = c
      · subst e2
        rw [if_neg e1, decide_eq_true_eq]
        exact h3
      · rw [if_neg e2, decide_eq_true_eq] at h4
        rw [if_neg (by omega), decide_eq_true_eq]
        omega
theorem betC_iff {n : Int} {l : List Int} {c : Int} {b : List Int} : betC n l c b = true ↔ n < c ∨ (n = c ∧ (l.length < b.length ∨ (l.length = b.length ∧ ltL l b = true))) := by
  unfold betC
  simp only [Bool.or_eq_true, Bool.and_eq_true, decide_eq_true_eq]
theorem betC_irr {n : Int} {l : List Int} : betC n l n l = false := by
  cases e : betC n l n l with
  | false => rfl
  | true =>
    rw [betC_iff, ltL_irr] at e
    simp at e
theorem betC_trans {n1 n2 n3 : Int} {l1 l2 l3 : List Int} (h1 : betC n1 l1 n2 l2 = true) (h2 : betC n2 l2 n3 l3 = true) : betC n1 l1 n3 l3 = true := by
  rw [betC_iff] at h1 h2 ⊢
  rcases h1 with h1 | ⟨e1, h1⟩
  · exact .inl (by omega)
  · rcases h2 with h2 | ⟨e2, h2⟩
    · exact .inl (by omega)
    · refine .inr ⟨by omega, ?_⟩
      rcases h1 with h1 | ⟨f1, h1⟩
      · exact .inl (by omega)
      · rcases h2 with h2 | ⟨f2, h2⟩
        · exact .inl (by omega)
        · exact .inr ⟨by omega, ltL_trans f1 f2 h1 h2⟩
section
variable {free : List Int → Bool} {E : Fes}
theorem hirK_min : ∀ Q q, q < Q → free (selT E q E.nf) = true → (hirK free E Q).2.2 = true ∧ betC (selR E q E.nf) (selT E q E.nf) (hirK free E Q).2.1 (hirK free E Q).1 = false
  | 0, q, h, _ => by omega
  | Q + 1, q, h, hq => by
    cases hf : free (selT E Q E.nf) with
    | false =>
      rw [hir_no1 hf]
      have hne : q ≠ Q := fun e => by rw [e, hf] at hq; cases hq
      exact hirK_min Q q (by omega) hq
    | true =>
      cases hb : (!(hirK free E Q).2.2 || betC (selR E Q E.nf) (selT E Q E.nf) (hirK free E Q).2.1 (hirK free E Q).1) with
      | false =>
        rw [hir_no2 hb]
        by_cases e : q = Q
        · subst e
          rw [Bool.or_eq_false_iff, Bool.not_eq_false'] at hb
          exact hb
        · exact hirK_min Q q (by omega) hq
      | true =>
        rw [hir_yes hb hf]
        refine ⟨rfl, ?_⟩
        show betC (selR E q E.nf) (selT E q E.nf) (selR E Q E.nf) (selT E Q E.nf) = false
        by_cases e : q = Q
        · subst e; exact betC_irr
        · obtain ⟨h1, h2⟩ := hirK_min Q q (by omega) hq
          rw [h1, Bool.not_true, Bool.false_or] at hb
          cases e9 : betC (selR E q E.nf) (selT E q E.nf) (selR E Q E.nf) (selT E Q E.nf) with
          | false => rfl
          | true => rw [betC_trans e9 hb] at h2; cases h2
theorem hirK_is : ∀ Q, (hirK free E Q).2.2 = true → ∃ q, q < Q ∧ (hirK free E Q).1 = selT E q E.nf ∧ (hirK free E Q).2.1 = selR E q E.nf ∧ free (selT E q E.nf) = true
  | 0, h => by simp [hirK] at h
  | Q + 1, h => by
    simp only [hirK] at h ⊢
    split
    · next e =>
      rw [Bool.and_eq_true] at e
      exact ⟨Q, by omega, rfl, rfl, e.2⟩
    · next e =>
      rw [if_neg e] at h
      obtain ⟨q, h1, h2⟩ := hirK_is Q h
      exact ⟨q, by omega, h2⟩
theorem bit_mod {s m k : Nat} (h : k < m) : s % 2 ^ m / 2 ^ k % 2 = 1 ↔ s / 2 ^ k % 2 = 1 := by
  have h1 := Nat.testBit_mod_two_pow s m k
  rw [Nat.testBit_eq_decide_div_mod_eq, Nat.testBit_eq_decide_div_mod_eq, decide_eq_true h, Bool.true_and, decide_eq_decide] at h1
  exact h1
theorem selT_mod {s m : Nat} : ∀ k, k ≤ m → selT E (s % 2 ^ m) k = selT E s k
  | 0, _ => rfl
  | k + 1, h => by
    simp only [selT]
    rw [selT_mod k (by omega)]
    by_cases e : s / 2 ^ k % 2 = 1
    · rw [if_pos e, if_pos ((bit_mod (by omega)).2 e)]
    · rw [if_neg e, if_neg (fun h9 => e ((bit_mod (by omega)).1 h9))]
theorem selR_mod {s m : Nat} : ∀ k, k ≤ m → selR E (s % 2 ^ m) k = selR E s k
  | 0, _ => rfl
  | k + 1, h => by
    simp only [selR]
    rw [selR_mod k (by omega)]
    by_cases e : s / 2 ^ k % 2 = 1
    · rw [if_pos e, if_pos ((bit_mod (by omega)).2 e)]
    · rw [if_neg e, if_neg (fun h9 => e ((bit_mod (by omega)).1 h9))]
theorem fes_lt (h : fesOk E = true) {i : Nat} : ∀ j, i < j → j < E.nf → E.t i < E.t j
  | 0, h1, _ => by omega
  | j + 1, h1, h2 => by
    have h9 := allB_iff.1 h (j + 1) h2
    unfold feeK at h9
    simp only [Bool.and_eq_true, Bool.or_eq_true, decide_eq_true_eq, Nat.add_sub_cancel] at h9
    have h8 := h9.2.resolve_left (by omega)
    by_cases e : i = j
    · subst e; exact h8
    · have := fes_lt h (i := i) j (by omega) (by omega)
      omega
theorem mem_sel (h : fesOk E = true) {q i : Nat} (hi : i < E.nf) : ∀ k, k ≤ E.nf → (E.t i ∈ selT E q k ↔ i < k ∧ q / 2 ^ i % 2 = 1)
  | 0, _ => by simp [selT]
  | k + 1, hk => by
    have ih := mem_sel h (q := q) hi k (by omega)
    have hne : E.t i = E.t k ↔ i = k := by
      constructor
      · intro e
        rcases Nat.lt_trichotomy i k with h9 | h9 | h9
        · have := fes_lt h k h9 (by omega); omega
        · exact h9
        · have := fes_lt h i h9 hi; omega
      · intro e; rw [e]
    simp only [selT]
    by_cases e : q / 2 ^ k % 2 = 1
    · rw [if_pos e, List.mem_append, ih, List.mem_singleton, hne]
      constructor
      · rintro (⟨h1, h2⟩ | rfl)
        · exact ⟨by omega, h2⟩
        · exact ⟨by omega, e⟩
      · rintro ⟨h1, h2⟩
        by_cases e2 : i = k
        · exact .inr e2
        · exact .inl ⟨by omega, h2⟩
    · rw [if_neg e, ih]
      constructor
      · rintro ⟨h1, h2⟩
        exact ⟨by omega, h2⟩
      · rintro ⟨h1, h2⟩
        have : i ≠ k := fun e2 => by rw [e2] at h2; exact e h2
        exact ⟨by omega, h2⟩
theorem selT_sorted (h : fesOk E = true) {q : Nat} {L : List Int} (hL : L = selT E q E.nf) {i : Nat} (hi : i < E.nf) : hasB (fun k => L.getD k 0) L.length (E.t i) = decide (q / 2 ^ i % 2 = 1) := by
  rw [Bool.eq_iff_iff, hasL_iff, hL, mem_sel h hi E.nf (Nat.le_refl _), decide_eq_true_eq]
  exact ⟨fun h9 => h9.2, fun h9 => ⟨hi, h9⟩⟩
end
theorem ltL_diff : ∀ {l m : List Int} (i : Nat), l.length = m.length → ltL l m = false → i < l.length → (∀ j, j < i → l.getD j 0 = m.getD j 0) → l.getD i 0 ≠ m.getD i 0 → m.getD i 0 < l.getD i 0
  | [], _, i, _, _, h, _, _ => by simp at h
  | _ :: _, [], _, h, _, _, _, _ => by simp at h
  | a :: l, b :: m, 0, h1, h2, _, _, h5 => by
    have h5 : a ≠ b := h5
    simp only [ltL] at h2
    rw [if_neg h5, decide_eq_false_iff_not] at h2
    show b < a
    omega
  | a :: l, b :: m, i + 1, h1, h2, h3, h4, h5 => by
    have e : a = b := h4 0 (by omega)
    simp only [ltL] at h2
    rw [if_pos e] at h2
    exact ltL_diff (l := l) (m := m) i (by simpa using h1) h2 (by simpa using h3) (fun j hj => h4 (j + 1) (by omega)) h5
theorem tri_gud {T : Trp} {l : List Int} : ∀ i, i ≤ 8 → (∀ x, x ∈ gudK T l i → 0 ≤ x ∧ x < i) ∧ triOk (fun k => (gudK T l i).getD k 0) (gudK T l i).length = true
  | 0, _ => ⟨fun x h => by simp [gudK] at h, rfl⟩
  | i + 1, hi => by
    obtain ⟨h1, h2⟩ := tri_gud (T := T) (l := l) i (by omega)
    simp only [gudK]
    split
    · constructor
      · intro x h
        rcases List.mem_append.1 h with h | h
        · have := h1 x h; omega
        · rw [List.mem_singleton] at h; omega
      · unfold triOk at h2 ⊢
        refine allB_iff.2 fun k hk => ?_
        rw [List.length_append, List.length_singleton] at hk
        by_cases e : k < (gudK T l i).length
        · have := allB_iff.1 h2 k e
          simp only [List.getD_eq_getElem?_getD] at this ⊢
          rw [List.getElem?_append_left e]
          by_cases e0 : k = 0
          · subst e0
            simpa using this
          · rw [List.getElem?_append_left (by omega)]
            exact this
        · obtain rfl : k = (gudK T l i).length := by omega
          simp only [List.getD_eq_getElem?_getD]
          rw [List.getElem?_append_right (by omega), Nat.sub_self]
          show (inB5 0 7 (i : Int) && (decide ((gudK T l i).length = 0) || decide (((gudK T l i ++ [(i : Int)])[(gudK T l i).length - 1]?).getD 0 < (i : Int)))) = true
          have hb : inB5 0 7 (i : Int) = true := by unfold inB5; simp only [Bool.and_eq_true, decide_eq_true_eq]; omega
          rw [hb, Bool.true_and]
          by_cases e0 : (gudK T l i).length = 0
          · rw [decide_eq_true e0]; rfl
          · rw [List.getElem?_append_left (by omega)]
            have := h1 _ (mem_getD (L := gudK T l i) (k := (gudK T l i).length - 1) (by omega))
            rw [List.getD_eq_getElem?_getD] at this
            rw [decide_eq_true this.2, Bool.or_true]
    · exact ⟨fun x h => by have := h1 x h; omega, h2⟩
theorem gud_ok {T : Trp} {l : List Int} (h : trpOk T = true) : trpOk (gud T l) = true := by
  have h9 := (tri_gud (T := T) (l := l) 8 (Nat.le_refl _)).2
  unfold trpOk at h ⊢
  simp only [Bool.and_eq_true] at h ⊢
  exact ⟨⟨⟨h.1.1.1, h.1.1.2⟩, h9⟩, h.2⟩
theorem gud_tol {Y : Wy} {Z : Cus} {T : Trp} {l : List Int} (g : Gon Y Z T) : tolC Y Z (gud T l) = 0 := by
  rw [tol_wk (rdy_ok g.chk (gud_ok g.trp))]
  exact g.wk
theorem gud_free {Y : Wy} {Z : Cus} {T : Trp} {l : List Int} (g : Gon Y Z T) (hl : ∀ x, x ∈ l → 0 ≤ x ∧ x ≤ 7) : decide ((barA Y Z (gud T l)).1 = 0) = freeB Z T Y.n (stY Y) l := by
  rw [barA_ok (gud_tol g), gud_bar g.trp hl]
  rfl
end Go.Proofs.YtmonkjnfjgidbaaGreatDoor
namespace Go.Proofs.YtmonkjnfjgidbaaGreatDoor
set_option linter.all false
set_option linter.unusedVariables false
set_option linter.unusedSimpArgs false
open Go.RowKit
section
variable {c : Cx} {F : Fr} {K : List Fact} {d : Option Tmp} {ty xt yt : TypeId} {pos : String} {af : Array Edge} {g : Option (Nat × Bool)} {x y : Operand}
theorem Pu.srU {b i : Nat} (hx : ev F x = some (.int .u8 (b : Int)) := by rfl) (hy : ev F y = some (.int .i64 (i : Int)) := by rfl) (hj : i ≤ 8 := by omega) : Pu c F K ⟨d, .binOp .shr xt x y yt, ty, pos, af, g⟩ (.int .u8 ((b / 2 ^ i : Nat) : Int)) := Pu.bin hx hy fun w => by
  have h9 : Min.min i 8 = i := Nat.min_eq_left hj
  go_simp
theorem bits_and8 {m : Nat} (hm : m ≤ 255) : bits .and .u8 (m : Int) 1 = ((m % 2 : Nat) : Int) := by
  have h1 : (BitVec.ofInt 8 (m : Int) &&& BitVec.ofInt 8 1).toNat = m % 2 := by
    rw [BitVec.toNat_and, BitVec.toNat_ofInt, BitVec.toNat_ofInt]
    have e1 : ((m : Int) % (2 ^ 8 : Nat)).toNat = m := by omega
    have e2 : ((1 : Int) % (2 ^ 8 : Nat)).toNat = 1 := by decide
    rw [e1, e2, Nat.and_one_is_mod]
  have h2 : bits .and .u8 (m : Int) 1 = IntKind.u8.wrap ((BitVec.ofInt 8 (m : Int) &&& BitVec.ofInt 8 1).toNat : Int) := rfl
  rw [h2, h1]
  have h3 : m % 2 = 0 ∨ m % 2 = 1 := by omega
  rcases h3 with e | e <;> rw [e] <;> rfl
theorem Pu.anU {m : Nat} (hx : ev F x = some (.int .u8 (m : Int)) := by rfl) (hy : ev F y = some (.int .u8 1) := by rfl) (hm : m ≤ 255 := by omega) : Pu c F K ⟨d, .binOp .and xt x y yt, ty, pos, af, g⟩ (.int .u8 ((m % 2 : Nat) : Int)) := Pu.bin hx hy fun w => by
  have h := bits_and8 hm
  go_simp
end
set_option maxRecDepth 100000 in
theorem rFees2_any {A : Option Addr} {ca : Nat} {E : Fes} {w : World} (hn : E.nf ≤ 9223372036854775807) (hR : RdR w 2 A E.nf (feeL E)) :
    Calls Tryz.prog 38 #[.slice A E.nf ca] w (Ret w (.bool (fesOk E))) := by
  unfold feeL at hR
  refine K_enter (S := []) (K := []) Tryz.func38 rfl Tryz.ntmps38 rfl (Sat.start _) ?_
  refine TW.seq fun Y1 hY1 => ?_
  refine TW.region ?_
  refine TL.p Pu.as ?_
  refine TL.nil ?_
  refine TQ.thenN (hY1 _ _ ?_)
  refine TW.seq fun Y2 hY2 => ?_
  refine TW.seq fun Y3 hY3 => ?_
  refine TW.region ?_
  refine TL.p Pu.as ?_
  refine TL.nil ?_
  refine TQ.thenN (hY3 _ _ ?_)
  refine TW.block ?_
  refine TW.loop1 (fun (k : Nat) => [(3, .int .i64 (k : Int)), (0, .slice A E.nf ca)]) (fun k => []) (fun k => k ≤ E.nf ∧ ∀ j, j < k → feeK E j = true) (fun k => E.nf - k) 0 fs9 ?_ ?_ ?_
  exact ks9
  exact ⟨Nat.zero_le _, fun j hj => by omega⟩
  rintro k ⟨hk, hall⟩ Z0 hZ0
  refine TW.seq fun Y4 hY4 => ?_
  refine TW.seq fun Y5 hY5 => ?_
  refine TW.region ?_
  refine TL.p Pu.mv ?_
  refine TL.p Pu.mv ?_
  refine TL.p (Pu.ln Tryz.underlying90) ?_
  refine TL.p Pu.lt ?_
  refine TL.nil ?_
  refine TQ.thenN (hY5 _ _ ?_)
  refine TW.cond rfl (fun hc0 => ?_) (fun hc0 => ?_)
  try simp only [decide_eq_true_eq, decide_eq_false_iff_not, Bool.not_eq_true', Bool.not_eq_false', Bool.and_eq_true, Bool.or_eq_true, Bool.and_eq_false_iff, Bool.or_eq_false_iff, Int.not_lt, Int.not_le] at hc0
  have hkn : k < E.nf := by omega
  have e1 : (0 < (k : Int)) = ¬ (k = 0) := by simp; omega
  refine TW.skip ?_
  refine TQ.thenN (hY4 _ _ ?_)
  refine TW.seq fun Y6 hY6 => ?_
  refine TW.block ?_
  refine TW.seq fun Y7 hY7 => ?_
  refine TW.join [(43, .bool (!feeK E k))] ?_ (fun hJ1 => ?_)
  refine TQ.thenN (hY7 _ _ ?_)
  refine TW.cond rfl (fun hc1 => ?_) (fun hc1 => ?_)
  try simp only [decide_eq_true_eq, decide_eq_false_iff_not, Bool.not_eq_true', Bool.not_eq_false', Bool.and_eq_true, Bool.or_eq_true, Bool.and_eq_false_iff, Bool.or_eq_false_iff, Int.not_lt, Int.not_le] at hc1
  have hg : feeK E k = false := by simpa using hc1
  refine TW.seq fun Y8 hY8 => ?_
  refine TW.region ?_
  refine TL.p Pu.as ?_
  refine TL.nil ?_
  refine TQ.thenN (hY8 _ _ ?_)
  refine TW.ret ?_
  refine TQ.blkR ?_
  refine TQ.thenR ?_
  refine TQ.thenR ?_
  refine TQ.blkR ?_
  refine TQ.thenR ?_
  refine TQ.ret Tryz.results38 rfl ((.tmp rfl .nil)) ?_
  exact fun w hw => ⟨ret_b (by
    cases h : fesOk E with
    | false => rfl
    | true => have := allB_iff.1 h k hkn; rw [hg] at this; cases this), Chg.ext hw.chg⟩
  try simp only [decide_eq_true_eq, decide_eq_false_iff_not, Bool.not_eq_true', Bool.not_eq_false', Bool.and_eq_true, Bool.or_eq_true, Bool.and_eq_false_iff, Bool.or_eq_false_iff, Int.not_lt, Int.not_le] at hc1
  have hg : feeK E k = true := by simpa using hc1
  refine TW.skip ?_
  refine TQ.blkN ?_
  refine TQ.thenN (hY6 _ _ ?_)
  refine TW.region ?_
  refine TL.p Pu.mv ?_
  refine TL.p Pu.ad ?_
  refine TL.p Pu.as ?_
  refine TL.nil ?_
  refine TQ.thenN (hZ0 (k + 1) _ _ ?_ ?_ fs9 ?_)
  exact ⟨by omega, fun j hj => (Nat.lt_succ_iff_lt_or_eq.1 hj).elim (hall j) (fun e => e ▸ hg)⟩
  exact (by first | omega | (simp only []; omega) | (simp; omega))
  exact ks9
  refine TW.dw 34 ?_
  refine RK.tk Pu.mv ?_
  refine RK.tk Pu.mv ?_
  refine RK.tk (Pu.el ty_et90) ?_
  refine RK.tk (by first | exact Pu.fb ty_fa95_0 | exact Pu.fe ty_fa95_0) ?_
  refine RK.tk (Pu.ld ty_sc3) ?_
  refine RK.keep ?_
  refine RK.keep ?_
  refine RK.keep ?_
  refine RK.keep ?_
  refine RK.keep ?_
  refine RK.keep ?_
  refine RK.keep ?_
  refine RK.keep ?_
  refine RK.keep ?_
  refine RK.keep ?_
  refine RK.keep ?_
  refine RK.keep ?_
  refine RK.keep ?_
  refine RK.keep ?_
  refine RK.keep ?_
  refine RK.keep ?_
  refine RK.keep ?_
  refine RK.keep ?_
  refine RK.keep ?_
  refine RK.keep ?_
  refine RK.keep ?_
  refine RK.keep ?_
  refine RK.keep ?_
  refine RK.keep ?_
  refine RK.keep ?_
  refine RK.keep ?_
  refine RK.keep ?_
  refine RK.keep ?_
  refine RK.keep ?_
  refine RK.ch [false, true, true, true, true, true, true, true, false, true, true, true, true, true, true, true, true, true, true, true, true, true, true, true, true, true, true, true, true] ?_ trivial
  refine WK.cr rfl (enters Tryz.func65 rfl rfl) (fun w hw => by
      exact within7_any _ _ _ _) ?_
  refine WK.p Pu.no ?_
  refine WK.p Pu.mv ?_
  refine WK.guard (t := 17) rfl (fun hg1 => ?_) (fun hg1 => ?_)
  try simp only [decide_eq_true_eq, decide_eq_false_iff_not, Bool.not_eq_true', Bool.not_eq_false', Int.natCast_pos] at hg1
  refine WK.ps ?_
  refine WK.ps ?_
  refine WK.ps ?_
  refine WK.ps ?_
  refine WK.ps ?_
  refine WK.gs ?_
  refine WK.ps ?_
  refine WK.p Pu.kt ?_
  refine WK.p Pu.mv ?_
  refine WK.ps ?_
  refine WK.ps ?_
  refine WK.ps ?_
  refine WK.ps ?_
  refine WK.ps ?_
  refine WK.ps ?_
  refine WK.ps ?_
  refine WK.ps ?_
  refine WK.ps ?_
  refine WK.ps ?_
  refine WK.ps ?_
  refine WK.ps ?_
  refine WK.ps ?_
  refine WK.ps ?_
  refine WK.ps ?_
  refine WK.ps ?_
  refine WK.p Pu.kt ?_
  refine WK.n ?_
  refine TL.nil ?_
  exact TQ.sub (by repeat (first | exact trivial | refine ⟨rfl, ?_⟩ | refine ⟨trivial, ?_⟩ | refine ⟨(by show some (Value.bool _) = some (Value.bool _); first | (simp [hg1, feeK]; done) | (refine congrArg (fun z => some (Value.bool z)) (Bool.eq_iff_iff.2 ?_); simp [hg1, feeK]; omega)), ?_⟩)) ks9 hJ1
  try simp only [decide_eq_true_eq, decide_eq_false_iff_not, Bool.not_eq_true', Bool.not_eq_false', Int.natCast_pos] at hg1
  refine WK.p Pu.mv ?_
  refine WK.p Pu.mv ?_
  refine WK.p (Pu.el ty_et90) ?_
  refine WK.p (by first | exact Pu.fb ty_fa95_1 | exact Pu.fe ty_fa95_1) ?_
  refine WK.p (Pu.ld ty_sc3) ?_
  refine WK.cr rfl (enters Tryz.func65 rfl rfl) (fun w hw => by
      exact within7_any _ _ _ _) ?_
  refine WK.p Pu.no ?_
  refine WK.p Pu.kf ?_
  refine WK.p Pu.mv ?_
  refine WK.guard (t := 26) rfl (fun hg2 => ?_) (fun hg2 => ?_)
  try simp only [decide_eq_true_eq, decide_eq_false_iff_not, Bool.not_eq_true', Bool.not_eq_false', Int.natCast_pos] at hg2
  refine WK.ps ?_
  refine WK.ps ?_
  refine WK.ps ?_
  refine WK.ps ?_
  refine WK.ps ?_
  refine WK.ps ?_
  refine WK.ps ?_
  refine WK.ps ?_
  refine WK.ps ?_
  refine WK.ps ?_
  refine WK.ps ?_
  refine WK.ps ?_
  refine WK.ps ?_
  refine WK.ps ?_
  refine WK.ps ?_
  refine WK.ps ?_
  refine WK.p Pu.kt ?_
  refine WK.n ?_
  refine TL.nil ?_
  exact TQ.sub (by repeat (first | exact trivial | refine ⟨rfl, ?_⟩ | refine ⟨trivial, ?_⟩ | refine ⟨(by show some (Value.bool _) = some (Value.bool _); first | (simp [hg1, hg2, feeK]; done) | (refine congrArg (fun z => some (Value.bool z)) (Bool.eq_iff_iff.2 ?_); simp [hg1, hg2, feeK]; omega)), ?_⟩)) ks9 hJ1
  try simp only [decide_eq_true_eq, decide_eq_false_iff_not, Bool.not_eq_true', Bool.not_eq_false', Int.natCast_pos] at hg2
  refine WK.p Pu.mv ?_
  refine WK.p Pu.gt ?_
  refine WK.p Pu.mv ?_
  refine WK.guard (t := 29) rfl (fun hg3 => ?_) (fun hg3 => ?_)
  try simp only [decide_eq_true_eq, decide_eq_false_iff_not, Bool.not_eq_true', Bool.not_eq_false', Int.natCast_pos] at hg3
  refine WK.p Pu.mv ?_
  refine WK.p Pu.mv ?_
  refine WK.p (Pu.el ty_et90) ?_
  refine WK.p (by first | exact Pu.fb ty_fa95_0 | exact Pu.fe ty_fa95_0) ?_
  refine WK.p (Pu.ld ty_sc3) ?_
  refine WK.p Pu.mv ?_
  refine WK.p Pu.mv ?_
  refine WK.p Pu.sb ?_
  refine WK.p (Pu.el (q := k - 1) ty_et90 (hk := by omega)) ?_
  refine WK.p (by first | exact Pu.fb ty_fa95_0 | exact Pu.fe ty_fa95_0) ?_
  refine WK.p (Pu.ld ty_sc3) ?_
  refine WK.p Pu.le ?_
  refine WK.p Pu.kt ?_
  refine WK.p Pu.kf ?_
  refine WK.n ?_
  refine TL.nil ?_
  exact TQ.sub (by repeat (first | exact trivial | refine ⟨rfl, ?_⟩ | refine ⟨trivial, ?_⟩ | refine ⟨(by show some (Value.bool _) = some (Value.bool _); first | (simp [hg1, hg2, hg3, feeK]; done) | (refine congrArg (fun z => some (Value.bool z)) (Bool.eq_iff_iff.2 ?_); simp [hg1, hg2, hg3, feeK]; omega)), ?_⟩)) ks9 hJ1
  try simp only [decide_eq_true_eq, decide_eq_false_iff_not, Bool.not_eq_true', Bool.not_eq_false', Int.natCast_pos] at hg3
  refine WK.ps ?_
  refine WK.ps ?_
  refine WK.ps ?_
  refine WK.ps ?_
  refine WK.ps ?_
  refine WK.ps ?_
  refine WK.ps ?_
  refine WK.ps ?_
  refine WK.ps ?_
  refine WK.ps ?_
  refine WK.ps ?_
  refine WK.ps ?_
  refine WK.p Pu.kf ?_
  refine WK.p Pu.kf ?_
  refine WK.n ?_
  refine TL.nil ?_
  exact TQ.sub (by repeat (first | exact trivial | refine ⟨rfl, ?_⟩ | refine ⟨trivial, ?_⟩ | refine ⟨(by show some (Value.bool _) = some (Value.bool _); first | (simp [hg1, hg2, hg3, feeK]; done) | (refine congrArg (fun z => some (Value.bool z)) (Bool.eq_iff_iff.2 ?_); simp [hg1, hg2, hg3, feeK]; omega)), ?_⟩)) ks9 hJ1
  try simp only [decide_eq_true_eq, decide_eq_false_iff_not, Bool.not_eq_true', Bool.not_eq_false', Bool.and_eq_true, Bool.or_eq_true, Bool.and_eq_false_iff, Bool.or_eq_false_iff, Int.not_lt, Int.not_le] at hc0
  have hkn : k = E.nf := by omega
  refine TW.exit ?_
  refine TQ.thenX ?_
  refine TQ.thenX ?_
  refine TQ.blkX ?_
  refine TQ.thenN (hY2 _ _ ?_)
  refine TW.seq fun Y9 hY9 => ?_
  refine TW.region ?_
  refine TL.p Pu.as ?_
  refine TL.nil ?_
  refine TQ.thenN (hY9 _ _ ?_)
  refine TW.ret ?_
  refine TQ.ret Tryz.results38 rfl ((.tmp rfl .nil)) ?_
  exact fun w hw => ⟨ret_b (by unfold fesOk; exact (allB_iff.2 fun j hj => hall j (by omega)).symm), Chg.ext hw.chg⟩
section
variable {Y : Wy} {Z : Cus} {T : Trp} {E : Fes} {W A L C D B O U V G : Option Addr} {cw cl cn cc cd cb co cu cv cg : Nat} {w : World}
set_option maxRecDepth 100000 in
set_option maxHeartbeats 4000000 in
theorem hired1_any {M : Option Addr} {cm : Nat} (l : List Int) (b1 b2 b3 b4 b5 b6 b7 : Nat) (g : Gon Y Z T) (hl : ∀ x, x ∈ l → 0 ≤ x ∧ x ≤ 7) (hlen : l.length ≤ 1000) (a : ArgIn w Y Z T W A L C D B O U V) (hG : OldB w 0 barsL)
    (hM : RdR w 1 M l.length (iL l)) (o1 : OldB w b1 (landL W Y.nw cw A Y.nl cl)) (o2 : OldB w b2 (custL C Z.nc cc D Z.nd cd B Z.nb cb)) (o3 : OldB w b3 (troopL T.hd T.wo O T.no co U T.nu cu V T.nv cv)) (o4 : OldB w b4 [.int .i64 Y.start]) (o5 : OldB w b5 [.int .i64 Y.day]) (o6 : OldB w b6 [.int .i64 Y.p0, .int .i64 Y.p1]) (o7 : OldB w b7 [.slice L Y.n cn]) :
    Calls Tryz.prog 39 #[.slice M l.length cm, .pointer (some ⟨b1, 0, none⟩), .pointer (some ⟨b2, 0, none⟩), .pointer (some ⟨b3, 0, none⟩), .pointer (some ⟨b4, 0, none⟩), .pointer (some ⟨b5, 0, none⟩), .pointer (some ⟨b6, 0, none⟩), .pointer (some ⟨b7, 0, none⟩)] w (Ret w (.bool (freeB Z T Y.n (stY Y) l))) := by
  have hn1 : Y.n ≤ 1000 := by have := g.n30; omega
  have hz := gud_tol (l := l) g
  have fU := fun (w' : World) (h4 : TrpIn w' T O U V) (h5 : RdR w' 1 M l.length (iL l)) => guided_any (co := co) (cu := cu) (cv := cv) (ca := cm) l hlen h4 h5
  have fB := fun (w' : World) (Ag : Option Addr) (ag : Nat) (h1 : LandIn w' W Y.nw A Y.nl Y.f Y.x Y.g) (h2 : RdR w' 1 L Y.n (fun k => [.int .i64 (Y.ls k)])) (h3 : CustIn w' C Z.nc D Z.nd B Z.nb Z.c Z.d Z.b) (h4 : TrpIn w' (gud T l) O Ag V) (h5 : OldB w' 0 barsL) => tollBarred_any (cw := cw) (cl := cl) (cn := cn) (cc := cc) (cd := cd) (cb := cb) (co := co) (cu := ag) (cv := cv) h1 hn1 h2 h3 h4 h5
  rw [hz] at fB
  unfold landL at o1 fB
  unfold custL at o2 fB
  unfold troopL at o3 fU fB
  have hRL := a.hRL
  refine K_enter (S := []) (K := []) Tryz.func39 rfl Tryz.ntmps39 rfl (Sat.start _) ?_
  refine TW.seq fun Y1 hY1 => ?_
  refine TW.region ?_
  refine TL.p Pu.as ?_
  refine TL.nil ?_
  refine TQ.thenN (hY1 _ _ ?_)
  refine TW.seq fun Y2 hY2 => ?_
  refine TW.dw 17 ?_
  refine RK.tk (by first | exact (Pu.lds ty_ag25) | exact (Pu.ldso ty_ag25)) ?_
  refine RK.tk (by first | exact (Pu.lds ty_ag30) | exact (Pu.ldso ty_ag30)) ?_
  refine RK.tk (by first | exact (Pu.lds ty_ag33) | exact (Pu.ldso ty_ag33)) ?_
  refine RK.tk Pu.mv ?_
  refine RK.keep ?_
  refine RK.tk (by first | exact (Pu.ld ty_sc3) | exact (Pu.ldo ty_sc3)) ?_
  refine RK.tk (by first | exact (Pu.ld ty_sc3) | exact (Pu.ldo ty_sc3)) ?_
  refine RK.tk (by first | exact (Pu.lds ty_ag35) | exact (Pu.ldso ty_ag35)) ?_
  refine RK.tk (by first | exact (Pu.ld ty_sc31) | exact (Pu.ldo ty_sc31)) ?_
  refine RK.keep ?_
  refine RK.keep ?_
  refine RK.keep ?_
  refine RK.keep ?_
  refine RK.keep ?_
  refine RK.keep ?_
  refine RK.keep ?_
  refine RK.keep ?_
  refine RK.ch [false, false, true, true, true, true, true, true, true] ?_ trivial
  refine WK.call rfl (enters Tryz.func40 rfl rfl) rfl (fun w hw => by
      exact fU _ ((a.trp g.gr).ext (Chg.ext hw.chg)) (hM.sat hw Apart.nil)) ?_
  rintro ⟨Ag, ag⟩
  refine WK.cr rfl (enters Tryz.func18 rfl rfl) (fun w hw => by
      have t2 := (a.trp g.gr).ext (Chg.ext hw.chg)
      have q9 := OwnR.rdr (hw.holds (.own Ag (gudK T l 8).length ag 3 1 (iL (gudK T l 8))) (by simp))
      exact fB _ Ag ag ((a.land g.gr).ext (Chg.ext hw.chg)) (hRL.sat hw Apart.nil) ((a.cust g.gr).ext (Chg.ext hw.chg)) ⟨t2.hno, Nat.le_trans (gudK_len 8) (by omega), t2.hnv, t2.hO, q9, t2.hV⟩ (hG.ext (Chg.ext hw.chg))) ?_
  refine WK.p Pu.mv ?_
  refine WK.p Pu.ex ?_
  refine WK.p Pu.ex ?_
  refine WK.p Pu.ex ?_
  refine WK.p Pu.as ?_
  refine WK.p Pu.as ?_
  refine WK.p Pu.as ?_
  refine WK.n ?_
  refine TL.nil ?_
  refine TQ.thenN (hY2 _ _ ?_)
  refine TW.seq fun Y3 hY3 => ?_
  refine TW.join [(9, .bool (decide ((barA Y Z (gud T l)).1 = 0)))] ?_ (fun hJ1 => ?_)
  refine TQ.thenN (hY3 _ _ ?_)
  refine TW.ret ?_
  refine TQ.ret Tryz.results39 rfl ((.tmp rfl .nil)) ?_
  exact fun w hw => ⟨ret_b (gud_free g hl), Chg.ext hw.chg⟩
  refine TW.region ?_
  refine TL.p Pu.mv ?_
  refine TL.p Pu.eq ?_
  refine TL.lit (t := 28) (b' := true) rfl (rfl) ?_
  refine TL.p Pu.mv ?_
  refine TL.gd Pu.mv ?_
  refine TL.gd Pu.eq ?_
  refine TL.p Pu.kt ?_
  refine TL.p Pu.as ?_
  refine TL.nil ?_
  exact TQ.sub (by repeat (first | exact trivial | refine ⟨rfl, ?_⟩ | refine ⟨trivial, ?_⟩ | refine ⟨(by show some (Value.bool _) = some (Value.bool _); first | (simp []; done) | (refine congrArg (fun z => some (Value.bool z)) (Bool.eq_iff_iff.2 ?_); simp []; omega)), ?_⟩)) ks9 hJ1
set_option maxRecDepth 100000 in
set_option maxHeartbeats 8000000 in
theorem lawHired_any (s : Nat) (hs : s ≤ 255) (hnf : E.nf ≤ 9223372036854775807) (hE : RdR w 2 G E.nf (feeL E)) (a : ArgIn w Y Z T W A L C D B O U V) (hG : OldB w 0 barsL) :
    Calls Tryz.prog 9 #[.agg (landL W Y.nw cw A Y.nl cl).toArray, .agg (custL C Z.nc cc D Z.nd cd B Z.nb cb).toArray, .agg (troopL T.hd T.wo O T.no co U T.nu cu V T.nv cv).toArray, .slice G E.nf cg, .int .i64 Y.start, .int .i64 Y.day, .agg #[.int .i64 Y.p0, .int .i64 Y.p1], .slice L Y.n cn, .int .u8 (s : Int)] w (Ret w (.bool true)) := by
  have fG := fun (w' : World) (a' : ArgIn w' Y Z T W A L C D B O U V) => going_any (cw := cw) (cl := cl) (cn := cn) (cc := cc) (cd := cd) (cb := cb) (co := co) (cu := cu) (cv := cv) a'
  have fH := fun (w' : World) (hn : Y.n ≤ 1000) (h1 : LandIn w' W Y.nw A Y.nl Y.f Y.x Y.g) (h2 : RdR w' 1 L Y.n (fun k => [.int .i64 (Y.ls k)])) (h3 : CustIn w' C Z.nc D Z.nd B Z.nb Z.c Z.d Z.b) (h4 : TrpIn w' T O U V) (h5 : OldB w' 0 barsL) (hn2 : E.nf ≤ 1000) (h6 : RdR w' 2 G E.nf (feeL E)) => tollHire_any (cw := cw) (cl := cl) (cn := cn) (cc := cc) (cd := cd) (cb := cb) (co := co) (cu := cu) (cv := cv) (cg := cg) h1 hn h2 h3 h4 h5 hn2 h6
  have aE : ∀ {w'}, Below w.heap.size w w' → ArgIn w' Y Z T W A L C D B O U V := fun hb => ⟨a.hRW.chg (Chg.of_ext hb) Apart.nil, a.hRA.chg (Chg.of_ext hb) Apart.nil, fun k hk => (a.hRG k hk).chg (Chg.of_ext hb) Apart.nil, a.hRC.chg (Chg.of_ext hb) Apart.nil, a.hRD.chg (Chg.of_ext hb) Apart.nil, a.hRB.chg (Chg.of_ext hb) Apart.nil, a.hRO.chg (Chg.of_ext hb) Apart.nil, a.hRU.chg (Chg.of_ext hb) Apart.nil, a.hRV.chg (Chg.of_ext hb) Apart.nil, a.hRL.chg (Chg.of_ext hb) Apart.nil⟩
  have fC := fun (w' : World) (b1 b2 b3 b4 b5 b6 b7 : Nat) (M : Option Addr) (cm : Nat) (l : List Int) (g : Gon Y Z T) (hl : ∀ x, x ∈ l → 0 ≤ x ∧ x ≤ 7) (hlen : l.length ≤ 1000) (a' : ArgIn w' Y Z T W A L C D B O U V) => hired1_any (cw := cw) (cl := cl) (cn := cn) (cc := cc) (cd := cd) (cb := cb) (co := co) (cu := cu) (cv := cv) (w := w') (M := M) (cm := cm) l b1 b2 b3 b4 b5 b6 b7 g hl hlen a'
  unfold landL custL troopL at fG fH fC
  unfold landL custL troopL
  have hRL := a.hRL
  unfold feeL at hE
  refine K_enter (S := []) (K := []) Tryz.func9 rfl Tryz.ntmps9 rfl (Sat.start _) ?_
  refine TW.seq fun Y1 hY1 => ?_
  refine TW.region ?_
  refine TL.m Mk.bx ?_
  intro b1
  refine TL.m Mk.bx ?_
  intro b2
  refine TL.m Mk.bx ?_
  intro b3
  refine TL.m Mk.bx ?_
  intro b4
  refine TL.m Mk.bx ?_
  intro b5
  refine TL.m Mk.bx ?_
  intro b6
  refine TL.m Mk.bx ?_
  intro b7
  refine TL.p Pu.as ?_
  refine TL.nil ?_
  refine TQ.thenN (hY1 _ _ ?_)
  refine TW.seq fun Y2 hY2 => ?_
  refine TW.region ?_
  refine TL.cr rfl (enters Tryz.func27 rfl rfl) (fun w hw => by
      exact alive_any (hG.ext (Chg.ext hw.chg))) ?_
  refine TL.p Pu.as ?_
  refine TL.nil ?_
  refine TQ.thenN (hY2 _ _ ?_)
  refine TW.seq fun Y3 hY3 => ?_
  refine TW.seq fun Y4 hY4 => ?_
  refine TW.region ?_
  refine TL.p (Pu.lds ty_ag25) ?_
  refine TL.p (Pu.lds ty_ag30) ?_
  refine TL.p (Pu.lds ty_ag33) ?_
  refine TL.p (Pu.ld ty_sc3) ?_
  refine TL.p (Pu.ld ty_sc3) ?_
  refine TL.p (Pu.lds ty_ag35) ?_
  refine TL.p (Pu.ld ty_sc31) ?_
  refine TL.call (M := []) rfl (enters Tryz.func28 rfl rfl) (List.Perm.refl _) rfl (fun w hw => by
      exact fG _ (aE (Chg.ext hw.chg))) ?_
  rintro ⟨As, cs⟩
  simp only [gonV, gonK, List.cons_append, List.nil_append]
  refine TL.p Pu.mv ?_
  refine TL.p Pu.ex ?_
  refine TL.p Pu.ex ?_
  refine TL.p Pu.as ?_
  refine TL.p Pu.as ?_
  refine TL.nil ?_
  refine TQ.thenN (hY4 _ _ ?_)
  refine TW.seq fun Y5 hY5 => ?_
  refine TW.join [(57, .bool (!(gonB Y Z T && fesOk E)))] ?_ (fun hJ1 => ?_)
  refine TQ.thenN (hY5 _ _ ?_)
  refine TW.cond rfl (fun hc0 => ?_) (fun hc0 => ?_)
  try simp only [decide_eq_true_eq, decide_eq_false_iff_not, Bool.not_eq_true', Bool.not_eq_false', Bool.and_eq_true, Bool.or_eq_true, Bool.and_eq_false_iff, Bool.or_eq_false_iff, Int.not_lt, Int.not_le] at hc0
  refine TW.seq fun Y6 hY6 => ?_
  refine TW.region ?_
  refine TL.p Pu.mv ?_
  refine TL.p Pu.as ?_
  refine TL.nil ?_
  refine TQ.thenN (hY6 _ _ ?_)
  refine TW.ret ?_
  refine TQ.thenR ?_
  refine TQ.ret Tryz.results9 rfl ((.tmp rfl .nil)) ?_
  exact fun w hw => Ret.of hw
  try simp only [decide_eq_true_eq, decide_eq_false_iff_not, Bool.not_eq_true', Bool.not_eq_false', Bool.and_eq_true, Bool.or_eq_true, Bool.and_eq_false_iff, Bool.or_eq_false_iff, Int.not_lt, Int.not_le] at hc0
  have hgf : gonB Y Z T = true ∧ fesOk E = true := by simpa using hc0
  have g := gon_of hgf.1
  have hfe := hgf.2
  have hgn : gonN Y Z T = Y.n := if_pos hgf.1
  rw [hgn]
  have hn1 : Y.n ≤ 1000 := by have := g.n30; omega
  have hn8 := fes_len hfe
  refine TW.skip ?_
  refine TQ.thenN (hY3 _ _ ?_)
  refine TW.seq fun Y7 hY7 => ?_
  refine TW.region ?_
  refine TL.p Pu.fn ?_
  refine TL.p Pu.as ?_
  refine TL.nil ?_
  refine TQ.thenN (hY7 _ _ ?_)
  refine TW.seq fun Y8 hY8 => ?_
  refine TW.region ?_
  refine TL.p Pu.as ?_
  refine TL.nil ?_
  refine TQ.thenN (hY8 _ _ ?_)
  refine TW.seq fun Y9 hY9 => ?_
  refine TW.region ?_
  refine TL.p Pu.as ?_
  refine TL.nil ?_
  refine TQ.thenN (hY9 _ _ ?_)
  refine TW.seq fun Y10 hY10 => ?_
  refine TW.seq fun Y11 hY11 => ?_
  refine TW.region ?_
  refine TL.p Pu.mv ?_
  refine TL.p (Pu.ln Tryz.underlying90) ?_
  refine TL.p Pu.mv ?_
  refine TL.nil ?_
  refine TQ.thenN (hY11 _ _ ?_)
  refine TW.block ?_
  refine TW.loop5 (fun (k : Nat) (Al : Option Addr) (cl9 : Nat) (M : List Int) (m : Nat) => [(62, .int .i64 (k : Int)), (61, .int .i64 (E.nf : Int)), (60, .slice G E.nf cg), (23, .slice Al m cl9), (24, .int .i64 (selR E s k)), (22, .func (.func 39) #[] #[.pointer (some ⟨b1, 0, none⟩), .pointer (some ⟨b2, 0, none⟩), .pointer (some ⟨b3, 0, none⟩), .pointer (some ⟨b4, 0, none⟩), .pointer (some ⟨b5, 0, none⟩), .pointer (some ⟨b6, 0, none⟩), .pointer (some ⟨b7, 0, none⟩)]), (3, .slice G E.nf cg), (19, .bool true), (8, .int .u8 (s : Int)), (9, .pointer (some ⟨b1, 0, none⟩)), (10, .pointer (some ⟨b2, 0, none⟩)), (11, .pointer (some ⟨b3, 0, none⟩)), (13, .pointer (some ⟨b4, 0, none⟩)), (14, .pointer (some ⟨b5, 0, none⟩)), (15, .pointer (some ⟨b6, 0, none⟩)), (16, .pointer (some ⟨b7, 0, none⟩))]) (fun k Al cl9 M m => [.own Al m cl9 3 1 (iL M), .blk b1 25 [.slice W Y.nw cw, .slice A Y.nl cl], .blk b2 30 [.slice C Z.nc cc, .slice D Z.nd cd, .slice B Z.nb cb], .blk b3 33 [.int .i64 T.hd, .int .i64 T.wo, .slice O T.no co, .slice U T.nu cu, .slice V T.nv cv], .blk b4 3 [.int .i64 Y.start], .blk b5 3 [.int .i64 Y.day], .blk b6 35 [.int .i64 Y.p0, .int .i64 Y.p1], .blk b7 31 [.slice L Y.n cn]]) (fun k Al cl9 M m => k ≤ E.nf ∧ M = selT E s k ∧ m = M.length) (fun k Al cl9 M m => E.nf - k) 0 none 0 [] 0 fs9 ?_ ?_ ?_
  exact KSub.nilOwn ks9
  exact ⟨Nat.zero_le _, rfl, rfl⟩
  rintro k Al cl9 M m ⟨hk, hM, hm⟩ Z0 hZ0
  have hM9 := hidT hM
  have hm9 : m ≤ 8 := by rw [hm, hM]; exact Nat.le_trans (selT_len k) (by omega)
  have hrb := selR_bd hfe (q := s) k hk
  clear hM
  refine TW.seq fun Y12 hY12 => ?_
  refine TW.region ?_
  refine TL.p Pu.lt ?_
  refine TL.nil ?_
  refine TQ.thenN (hY12 _ _ ?_)
  refine TW.seq fun Y13 hY13 => ?_
  refine TW.cond rfl (fun hc1 => ?_) (fun hc1 => ?_)
  try simp only [decide_eq_true_eq, decide_eq_false_iff_not, Bool.not_eq_true', Bool.not_eq_false', Bool.and_eq_true, Bool.or_eq_true, Bool.and_eq_false_iff, Bool.or_eq_false_iff, Int.not_lt, Int.not_le] at hc1
  have hkn : k < E.nf := by omega
  have hfa := fes_at hfe hkn
  have hqd := Nat.div_le_self s (2 ^ k)
  refine TW.skip ?_
  refine TQ.thenN (hY13 _ _ ?_)
  refine TW.seq fun Y14 hY14 => ?_
  refine TW.block ?_
  refine TW.seq fun Y15 hY15 => ?_
  refine TW.region ?_
  refine TL.p Pu.mv ?_
  refine TL.p (Pu.el ty_et90) ?_
  refine TL.p (Pu.lds ty_ag95) ?_
  refine TL.m (Mk.al ty_zr95) ?_
  intro b8
  refine TL.p Pu.as ?_
  first | refine TL.st ty_sz95 ?_ | refine TL.se ty_sz95 ?_
  refine TL.nil ?_
  refine TQ.thenN (hY15 _ _ ?_)
  refine TW.seq fun Y16 hY16 => ?_
  refine TW.region ?_
  refine TL.p Pu.mv ?_
  refine TL.p Pu.mv ?_
  refine TL.p (Pu.srU (b := s) (i := k)) ?_
  refine TL.p (Pu.anU (m := s / 2 ^ k)) ?_
  refine TL.p Pu.eq ?_
  refine TL.nil ?_
  refine TQ.thenN (hY16 _ _ ?_)
  refine TW.cond rfl (fun hc2 => ?_) (fun hc2 => ?_)
  try simp only [decide_eq_true_eq, decide_eq_false_iff_not, Bool.not_eq_true', Bool.not_eq_false', Bool.and_eq_true, Bool.or_eq_true, Bool.and_eq_false_iff, Bool.or_eq_false_iff, Int.not_lt, Int.not_le] at hc2
  have hbit : s / 2 ^ k % 2 = 1 := by generalize s / 2 ^ k % 2 = z at hc2; omega
  have hst : selT E s (k + 1) = M ++ [E.t k] := by rw [hM9.out]; simp only [selT]; rw [if_pos hbit]
  have hsr := hidT (show selR E s (k + 1) = selR E s k + E.r k by simp only [selR]; rw [if_pos hbit])
  have hlen9 : m + 1 = (selT E s (k + 1)).length := by rw [hst, List.length_append, ← hm]; rfl
  refine TW.expk [.blk b8 95 [.int .i64 (E.t k), .int .i64 (E.r k)]] (fun (⟨A4, c4⟩ : Option Addr × Nat) => ([(23, .slice A4 (m + 1) c4), (24, .int .i64 (selR E s k + E.r k)), (62, .int .i64 (k : Int)), (61, .int .i64 (E.nf : Int)), (60, .slice G E.nf cg), (22, .func (.func 39) #[] #[.pointer (some ⟨b1, 0, none⟩), .pointer (some ⟨b2, 0, none⟩), .pointer (some ⟨b3, 0, none⟩), .pointer (some ⟨b4, 0, none⟩), .pointer (some ⟨b5, 0, none⟩), .pointer (some ⟨b6, 0, none⟩), .pointer (some ⟨b7, 0, none⟩)]), (3, .slice G E.nf cg), (19, .bool true), (8, .int .u8 (s : Int)), (9, .pointer (some ⟨b1, 0, none⟩)), (10, .pointer (some ⟨b2, 0, none⟩)), (11, .pointer (some ⟨b3, 0, none⟩)), (13, .pointer (some ⟨b4, 0, none⟩)), (14, .pointer (some ⟨b5, 0, none⟩)), (15, .pointer (some ⟨b6, 0, none⟩)), (16, .pointer (some ⟨b7, 0, none⟩))] : Fr)) (fun (⟨A4, c4⟩ : Option Addr × Nat) => [.own A4 (m + 1) c4 3 1 (catR m (iL M) (fun _ => [.int .i64 (E.t k)])), .blk b1 25 [.slice W Y.nw cw, .slice A Y.nl cl], .blk b2 30 [.slice C Z.nc cc, .slice D Z.nd cd, .slice B Z.nb cb], .blk b3 33 [.int .i64 T.hd, .int .i64 T.wo, .slice O T.no co, .slice U T.nu cu, .slice V T.nv cv], .blk b4 3 [.int .i64 Y.start], .blk b5 3 [.int .i64 Y.day], .blk b6 35 [.int .i64 Y.p0, .int .i64 Y.p1], .blk b7 31 [.slice L Y.n cn]]) ?_ (fun hE => ?_)
  rintro ⟨A4, c4⟩
  refine TQ.blkN ?_
  refine TQ.thenN (hY14 _ _ ?_)
  refine TW.region ?_
  refine TL.p Pu.ad ?_
  refine TL.p Pu.mv ?_
  refine TL.nil ?_
  refine TQ.thenN (hZ0 (k + 1) _ _ (selT E s (k + 1)) _ _ _ ?_ ?_ (by refine ⟨rfl, rfl, rfl, rfl, (congrArg (fun z => some (Value.int .i64 z)) hsr.out.symm), ?_⟩; (repeat (first | exact trivial | refine ⟨rfl, ?_⟩ | refine ⟨trivial, ?_⟩))) ?_)
  exact ⟨by omega, rfl, hlen9⟩
  exact (by first | omega | (simp only []; omega) | (simp; omega))
  first
    | exact KSub.own Pick.hd (iL_app hm hst rfl) ks9
    | exact KSub.own pk9 (fun i _ => by rw [hst]) ks9
  refine RG.tk 0 rfl Pu.mv ?_
  refine RG.tk 1 rfl (by first | exact Pu.fb ty_fa95_0 | exact Pu.fe ty_fa95_0) ?_
  refine RG.tk 2 rfl (Pu.ld ty_sc3) ?_
  refine RG.tk 5 rfl Pu.mv ?_
  refine RG.tk 6 rfl (by first | exact Pu.fb ty_fa95_1 | exact Pu.fe ty_fa95_1) ?_
  refine RG.tk 7 rfl (Pu.ld ty_sc3) ?_
  refine RG.tk 8 rfl Pu.ad ?_
  refine RG.a1 3 rfl (fun X3 hX3 => ?_)
  refine TL.m Mk.bl ?_
  intro x3
  refine TL.nil ?_
  refine TQ.nxt (hX3 _ _ hl9 ?_)
  refine RG.a1 4 rfl (fun X4 hX4 => ?_)
  first | refine TL.a0 ty_et31 ?_ | refine TL.ap ty_et31 ?_
  intro A4 c4
  refine TL.nil ?_
  refine TQ.nxt (hX4 _ _ hl9 ?_)
  refine RG.tk 9 rfl Pu.as ?_
  refine RG.tk 10 rfl Pu.as ?_
  exact RG.nil (TQ.sub fs9 kt9 (hE ⟨A4, c4⟩)) (by kernel_rfl)
  try simp only [decide_eq_true_eq, decide_eq_false_iff_not, Bool.not_eq_true', Bool.not_eq_false', Bool.and_eq_true, Bool.or_eq_true, Bool.and_eq_false_iff, Bool.or_eq_false_iff, Int.not_lt, Int.not_le] at hc2
  have hbit : ¬ s / 2 ^ k % 2 = 1 := by generalize s / 2 ^ k % 2 = z at hc2 ⊢; omega
  have hst : selT E s (k + 1) = M := by rw [hM9.out]; simp only [selT]; rw [if_neg hbit]
  have hsr := hidT (show selR E s (k + 1) = selR E s k by simp only [selR]; rw [if_neg hbit])
  have hlen9 : m = (selT E s (k + 1)).length := by rw [hst, ← hm]
  refine TW.skip ?_
  refine TQ.blkN ?_
  refine TQ.thenN (hY14 _ _ ?_)
  refine TW.region ?_
  refine TL.p Pu.ad ?_
  refine TL.p Pu.mv ?_
  refine TL.nil ?_
  refine TQ.thenN (hZ0 (k + 1) _ _ (selT E s (k + 1)) _ _ _ ?_ ?_ (by refine ⟨rfl, rfl, rfl, rfl, (congrArg (fun z => some (Value.int .i64 z)) hsr.out.symm), ?_⟩; (repeat (first | exact trivial | refine ⟨rfl, ?_⟩ | refine ⟨trivial, ?_⟩))) ?_)
  exact ⟨by omega, rfl, hlen9⟩
  exact (by first | omega | (simp only []; omega) | (simp; omega))
  first
    | exact KSub.own Pick.hd (iL_app hm hst rfl) ks9
    | exact KSub.own pk9 (fun i _ => by rw [hst]) ks9
  try simp only [decide_eq_true_eq, decide_eq_false_iff_not, Bool.not_eq_true', Bool.not_eq_false', Bool.and_eq_true, Bool.or_eq_true, Bool.and_eq_false_iff, Bool.or_eq_false_iff, Int.not_lt, Int.not_le] at hc1
  obtain rfl : k = E.nf := by omega
  subst hm
  refine TW.exit ?_
  refine TQ.thenX ?_
  refine TQ.thenX ?_
  refine TQ.blkX ?_
  refine TQ.thenN (hY10 _ _ ?_)
  refine TW.seq fun Y17 hY17 => ?_
  refine TW.region ?_
  refine TL.p (Pu.lds ty_ag25) ?_
  refine TL.p (Pu.lds ty_ag30) ?_
  refine TL.p (Pu.lds ty_ag33) ?_
  refine TL.p Pu.mv ?_
  refine TL.p (Pu.ld ty_sc3) ?_
  refine TL.p (Pu.ld ty_sc3) ?_
  refine TL.p (Pu.lds ty_ag35) ?_
  refine TL.p (Pu.ld ty_sc31) ?_
  refine TL.call (M := []) rfl (enters Tryz.func41 rfl rfl) (List.Perm.refl _) rfl (fun w hw => by
      exact fH _ hn1 ((a.land g.gr).ext (Chg.ext hw.chg)) (hRL.sat hw Apart.nil) ((a.cust g.gr).ext (Chg.ext hw.chg)) ((a.trp g.gr).ext (Chg.ext hw.chg)) (hG.ext (Chg.ext hw.chg)) (by omega) (hE.sat hw Apart.nil)) ?_
  rintro ⟨Ag, ag⟩
  simp only [hirA, hirF, List.cons_append, List.nil_append]
  have hMb : ∀ x, x ∈ M → 0 ≤ x ∧ x ≤ 7 := fun x hx => selT_bd hfe (Nat.le_refl _) (by rw [← hM9.out]; exact hx)
  have hmm : M.length ≤ 1000 := by omega
  refine TL.p Pu.mv ?_
  refine TL.p Pu.ex ?_
  refine TL.p Pu.ex ?_
  refine TL.p Pu.ex ?_
  refine TL.p Pu.as ?_
  refine TL.p Pu.as ?_
  refine TL.p Pu.as ?_
  refine TL.nil ?_
  refine TQ.thenN (hY17 _ _ ?_)
  refine TW.seq fun Y18 hY18 => ?_
  refine TW.seq fun Y19 hY19 => ?_
  refine TW.region ?_
  refine TL.p Pu.mv ?_
  refine TL.p Pu.ne ?_
  refine TL.nil ?_
  refine TQ.thenN (hY19 _ _ ?_)
  refine TW.cond rfl (fun hc3 => ?_) (fun hc3 => ?_)
  try simp only [decide_eq_true_eq, decide_eq_false_iff_not, Bool.not_eq_true', Bool.not_eq_false', Bool.and_eq_true, Bool.or_eq_true, Bool.and_eq_false_iff, Bool.or_eq_false_iff, Int.not_lt, Int.not_le] at hc3
  have hno : (hirW Y Z T E).2.2 = false := by
    cases e9 : (hirW Y Z T E).2.2 with
    | false => rfl
    | true => exact absurd (hirC_ok g.rdy hfe g.wk e9) hc3
  have hC := hirC_no g.rdy hfe g.wk hno
  have hL0 : hirL Y Z T E = [] := if_neg (by rw [hC]; decide)
  have hN0 : hirN Y Z T E = 0 := if_neg (by rw [hC]; decide)
  rw [hC, hL0, hN0]
  have hfo : freeB Z T Y.n (stY Y) M = false := by
    cases e9 : freeB Z T Y.n (stY Y) M with
    | false => rfl
    | true =>
      rw [hM9.out, ← selT_mod (m := E.nf) E.nf (Nat.le_refl _)] at e9
      have := (hirK_min (2 ^ E.nf) (s % 2 ^ E.nf) (Nat.mod_lt _ (Nat.two_pow_pos _)) e9).1
      unfold hirW hirV at hno
      rw [hno] at this
      cases this
  refine TW.seq fun Y20 hY20 => ?_
  refine TW.join [(18, .bool true)] ?_ (fun hJ2 => ?_)
  refine TQ.thenN (hY20 _ _ ?_)
  refine TW.ret ?_
  refine TQ.thenR ?_
  refine TQ.ret Tryz.results9 rfl ((.tmp rfl .nil)) ?_
  exact fun w hw => Ret.of hw
  refine TW.region ?_
  refine TL.p Pu.mv ?_
  refine TL.p Pu.mv ?_
  refine TL.guard (t := 98) rfl (fun hg1 => ?_) (fun hg1 => ?_)
  try simp only [decide_eq_true_eq, decide_eq_false_iff_not, Bool.not_eq_true', Bool.not_eq_false', Int.natCast_pos] at hg1
  refine TL.gd Pu.mv ?_
  refine TL.gd Pu.eq ?_
  refine TL.lit (t := 100) (b' := true) rfl (rfl) ?_
  refine TL.p Pu.kt ?_
  refine TL.p Pu.mv ?_
  refine TL.gd Pu.mv ?_
  refine TL.gd (Pu.ln Tryz.underlying31) ?_
  refine TL.gd Pu.eq ?_
  refine TL.lit (t := 105) (b' := true) rfl (rfl) ?_
  refine TL.p Pu.kt ?_
  refine TL.p Pu.mv ?_
  refine TL.gd Pu.mv ?_
  refine TL.gd Pu.eq ?_
  refine TL.lit (t := 109) (b' := true) rfl (rfl) ?_
  refine TL.p Pu.kt ?_
  refine TL.p Pu.mv ?_
  refine TL.gd Pu.mv ?_
  refine TL.gd Pu.mv ?_
  refine TL.cv rfl rfl (enters Tryz.func39 rfl rfl) (fun w hw => by
      have q1 := OldB.of_blk (hw.holds (.blk b1 25 [.slice W Y.nw cw, .slice A Y.nl cl]) (Pick.mem pk9))
      have q2 := OldB.of_blk (hw.holds (.blk b2 30 [.slice C Z.nc cc, .slice D Z.nd cd, .slice B Z.nb cb]) (Pick.mem pk9))
      have q3 := OldB.of_blk (hw.holds (.blk b3 33 [.int .i64 T.hd, .int .i64 T.wo, .slice O T.no co, .slice U T.nu cu, .slice V T.nv cv]) (Pick.mem pk9))
      have q4 := OldB.of_blk (hw.holds (.blk b4 3 [.int .i64 Y.start]) (Pick.mem pk9))
      have q5 := OldB.of_blk (hw.holds (.blk b5 3 [.int .i64 Y.day]) (Pick.mem pk9))
      have q6 := OldB.of_blk (hw.holds (.blk b6 35 [.int .i64 Y.p0, .int .i64 Y.p1]) (Pick.mem pk9))
      have q7 := OldB.of_blk (hw.holds (.blk b7 31 [.slice L Y.n cn]) (Pick.mem pk9))
      exact fC _ b1 b2 b3 b4 b5 b6 b7 _ _ M g hMb (by omega) (aE (Chg.ext hw.chg)) (hG.ext (Chg.ext hw.chg)) (OwnR.rdr (hw.holds (.own Al M.length cl9 3 1 (iL M)) (Pick.mem pk9))) q1 q2 q3 q4 q5 q6 q7) ?_
  refine TL.gd Pu.no ?_
  refine TL.p Pu.kt ?_
  refine TL.p Pu.as ?_
  refine TL.nil ?_
  exact TQ.sub (by repeat (first | exact trivial | refine ⟨rfl, ?_⟩ | refine ⟨trivial, ?_⟩ | refine ⟨(by show some (Value.bool _) = some (Value.bool _); first | (simp [hg1]; done) | (refine congrArg (fun z => some (Value.bool z)) (Bool.eq_iff_iff.2 ?_); simp [hg1]; omega)), ?_⟩)) ks9 hJ2
  try simp only [decide_eq_true_eq, decide_eq_false_iff_not, Bool.not_eq_true', Bool.not_eq_false', Int.natCast_pos] at hg1
  refine TL.gs ?_
  refine TL.gs ?_
  refine TL.p Pu.kf ?_
  refine TL.p Pu.mv ?_
  refine TL.gs ?_
  refine TL.gs ?_
  refine TL.gs ?_
  refine TL.p Pu.kf ?_
  refine TL.p Pu.mv ?_
  refine TL.gs ?_
  refine TL.gs ?_
  refine TL.p Pu.kf ?_
  refine TL.p Pu.mv ?_
  refine TL.gs ?_
  refine TL.gs ?_
  refine TL.gs ?_
  refine TL.gs ?_
  refine TL.p Pu.kf ?_
  refine TL.p Pu.as ?_
  refine TL.nil ?_
  exact TQ.sub (by repeat (first | exact trivial | refine ⟨rfl, ?_⟩ | refine ⟨trivial, ?_⟩ | refine ⟨(by show some (Value.bool _) = some (Value.bool _); first | (simp [hg1]; done) | (refine congrArg (fun z => some (Value.bool z)) (Bool.eq_iff_iff.2 ?_); simp [hg1]; omega)), ?_⟩)) ks9 hJ2
  try simp only [decide_eq_true_eq, decide_eq_false_iff_not, Bool.not_eq_true', Bool.not_eq_false', Bool.and_eq_true, Bool.or_eq_true, Bool.and_eq_false_iff, Bool.or_eq_false_iff, Int.not_lt, Int.not_le] at hc3
  have hC : hirC Y Z T E = 0 := by simpa using hc3
  have hye : (hirW Y Z T E).2.2 = true := by
    cases e9 : (hirW Y Z T E).2.2 with
    | true => rfl
    | false => have := hirC_no g.rdy hfe g.wk e9; omega
  have hL0 : hirL Y Z T E = (hirW Y Z T E).1 := if_pos hC
  have hN0 : hirN Y Z T E = (hirW Y Z T E).2.1 := if_pos hC
  rw [hL0, hN0]
  obtain ⟨q, hq, e1, e2, hfr⟩ := hirK_is (free := freeB Z T Y.n (stY Y)) (E := E) (2 ^ E.nf) hye
  have e1 : (hirW Y Z T E).1 = selT E q E.nf := e1
  have e2 : (hirW Y Z T E).2.1 = selR E q E.nf := e2
  have hmin : freeB Z T Y.n (stY Y) M = true → betC (selR E s E.nf) M (selR E q E.nf) (selT E q E.nf) = false := fun e9 => by
    rw [hM9.out, ← selT_mod (m := E.nf) E.nf (Nat.le_refl _)] at e9
    have h9 := (hirK_min (2 ^ E.nf) (s % 2 ^ E.nf) (Nat.mod_lt _ (Nat.two_pow_pos _)) e9).2
    rw [selT_mod E.nf (Nat.le_refl _), selR_mod E.nf (Nat.le_refl _)] at h9
    rw [hM9.out, ← e1, ← e2]
    exact h9
  rw [e1, e2]
  clear hL0 hN0 e1 e2
  obtain ⟨N, hN⟩ : ∃ N, N = selT E q E.nf := ⟨_, rfl⟩
  rw [← hN] at hfr hmin ⊢
  have hn9 : N.length ≤ 8 := by rw [hN]; exact Nat.le_trans (selT_len E.nf) (by omega)
  have hN9 := hidT hN
  have hNb : ∀ x, x ∈ N → 0 ≤ x ∧ x ≤ 7 := fun x hx => selT_bd hfe (Nat.le_refl _) (by rw [← hN]; exact hx)
  clear hN
  have hnn : N.length ≤ 1000 := by omega
  refine TW.skip ?_
  refine TQ.thenN (hY18 _ _ ?_)
  refine TW.seq fun Y21 hY21 => ?_
  refine TW.region ?_
  refine TL.p Pu.as ?_
  refine TL.p Pu.as ?_
  refine TL.nil ?_
  refine TQ.thenN (hY21 _ _ ?_)
  refine TW.seq fun Y22 hY22 => ?_
  refine TW.seq fun Y23 hY23 => ?_
  refine TW.region ?_
  refine TL.p Pu.mv ?_
  refine TL.p (Pu.ln Tryz.underlying90) ?_
  refine TL.p Pu.mv ?_
  refine TL.nil ?_
  refine TQ.thenN (hY23 _ _ ?_)
  refine TW.block ?_
  refine TW.loop1 (fun (i : Nat) => [(119, .int .i64 (i : Int)), (118, .int .i64 (E.nf : Int)), (117, .slice G E.nf cg), (30, .int .i64 (selR E q i)), (31, .int .i64 ((selT E q i).length : Int)), (27, .slice Ag N.length ag), (28, .int .i64 (selR E q E.nf)), (23, .slice Al M.length cl9), (24, .int .i64 (selR E s E.nf)), (22, .func (.func 39) #[] #[.pointer (some ⟨b1, 0, none⟩), .pointer (some ⟨b2, 0, none⟩), .pointer (some ⟨b3, 0, none⟩), .pointer (some ⟨b4, 0, none⟩), .pointer (some ⟨b5, 0, none⟩), .pointer (some ⟨b6, 0, none⟩), .pointer (some ⟨b7, 0, none⟩)]), (3, .slice G E.nf cg), (19, .bool true), (9, .pointer (some ⟨b1, 0, none⟩)), (10, .pointer (some ⟨b2, 0, none⟩)), (11, .pointer (some ⟨b3, 0, none⟩)), (13, .pointer (some ⟨b4, 0, none⟩)), (14, .pointer (some ⟨b5, 0, none⟩)), (15, .pointer (some ⟨b6, 0, none⟩)), (16, .pointer (some ⟨b7, 0, none⟩))]) (fun i => [.own Ag N.length ag 3 1 (iL N), .own Al M.length cl9 3 1 (iL M), .blk b1 25 [.slice W Y.nw cw, .slice A Y.nl cl], .blk b2 30 [.slice C Z.nc cc, .slice D Z.nd cd, .slice B Z.nb cb], .blk b3 33 [.int .i64 T.hd, .int .i64 T.wo, .slice O T.no co, .slice U T.nu cu, .slice V T.nv cv], .blk b4 3 [.int .i64 Y.start], .blk b5 3 [.int .i64 Y.day], .blk b6 35 [.int .i64 Y.p0, .int .i64 Y.p1], .blk b7 31 [.slice L Y.n cn]]) (fun i => i ≤ E.nf) (fun i => E.nf - i) 0 fs9 ?_ ?_ ?_
  exact ks9
  exact Nat.zero_le _
  rintro i hi Z1 hZ1
  have hib := selR_bd hfe (q := q) i hi
  have hil := selT_len (E := E) (q := q) i
  refine TW.seq fun Y24 hY24 => ?_
  refine TW.region ?_
  refine TL.p Pu.lt ?_
  refine TL.nil ?_
  refine TQ.thenN (hY24 _ _ ?_)
  refine TW.seq fun Y25 hY25 => ?_
  refine TW.cond rfl (fun hc4 => ?_) (fun hc4 => ?_)
  try simp only [decide_eq_true_eq, decide_eq_false_iff_not, Bool.not_eq_true', Bool.not_eq_false', Bool.and_eq_true, Bool.or_eq_true, Bool.and_eq_false_iff, Bool.or_eq_false_iff, Int.not_lt, Int.not_le] at hc4
  have hik : i < E.nf := by omega
  have hfa := fes_at hfe hik
  refine TW.skip ?_
  refine TQ.thenN (hY25 _ _ ?_)
  refine TW.seq fun Y26 hY26 => ?_
  refine TW.block ?_
  refine TW.seq fun Y27 hY27 => ?_
  refine TW.region ?_
  refine TL.p (Pu.el ty_et90) ?_
  refine TL.p (Pu.lds ty_ag95) ?_
  refine TL.m (Mk.al ty_zr95) ?_
  intro b9
  first | refine TL.st ty_sz95 ?_ | refine TL.se ty_sz95 ?_
  refine TL.nil ?_
  refine TQ.thenN (hY27 _ _ ?_)
  refine TW.seq fun Y28 hY28 => ?_
  refine TW.region ?_
  refine TL.p Pu.mv ?_
  refine TL.p (by first | exact Pu.fb ty_fa95_0 | exact Pu.fe ty_fa95_0) ?_
  refine TL.p (Pu.ld ty_sc3) ?_
  refine TL.cr rfl (enters Tryz.func33 rfl rfl) (fun w hw => by
      have h9 := lHas_any (cp := ag) (v := fun k => N.getD k 0) (a := E.t i) (by omega) (OwnR.rdr (hw.holds (.own Ag N.length ag 3 1 (iL N)) (by simp)))
      rw [selT_sorted hfe hN9.out hik] at h9
      exact h9) ?_
  refine TL.nil ?_
  refine TQ.thenN (hY28 _ _ ?_)
  refine TW.cond rfl (fun hc5 => ?_) (fun hc5 => ?_)
  try simp only [decide_eq_true_eq, decide_eq_false_iff_not, Bool.not_eq_true', Bool.not_eq_false', Bool.and_eq_true, Bool.or_eq_true, Bool.and_eq_false_iff, Bool.or_eq_false_iff, Int.not_lt, Int.not_le] at hc5
  have hbit : q / 2 ^ i % 2 = 1 := hc5
  have hsr := hidT (show selR E q (i + 1) = selR E q i + E.r i by simp only [selR]; rw [if_pos hbit])
  have hsl := hidT (show ((selT E q (i + 1)).length : Int) = ((selT E q i).length : Int) + 1 by simp only [selT]; rw [if_pos hbit, List.length_append]; rfl)
  refine TW.seq fun Y29 hY29 => ?_
  refine TW.region ?_
  refine TL.p Pu.mv ?_
  refine TL.p (by first | exact Pu.fb ty_fa95_1 | exact Pu.fe ty_fa95_1) ?_
  refine TL.p (Pu.ld ty_sc3) ?_
  refine TL.p Pu.ad ?_
  refine TL.p Pu.as ?_
  refine TL.nil ?_
  refine TQ.thenN (hY29 _ _ ?_)
  refine TW.region ?_
  refine TL.p Pu.mv ?_
  refine TL.p Pu.ad ?_
  refine TL.p Pu.as ?_
  refine TL.nil ?_
  refine TQ.blkN ?_
  refine TQ.thenN (hY26 _ _ ?_)
  refine TW.region ?_
  refine TL.p Pu.ad ?_
  refine TL.p Pu.mv ?_
  refine TL.nil ?_
  refine TQ.thenN (hZ1 (i + 1) _ _ ?_ ?_ (by refine ⟨rfl, rfl, rfl, (congrArg (fun z => some (Value.int .i64 z)) hsr.out.symm), (congrArg (fun z => some (Value.int .i64 z)) hsl.out.symm), ?_⟩; (repeat (first | exact trivial | refine ⟨rfl, ?_⟩ | refine ⟨trivial, ?_⟩))) ?_)
  exact (by omega)
  exact (by first | omega | (simp only []; omega) | (simp; omega))
  exact ks9
  try simp only [decide_eq_true_eq, decide_eq_false_iff_not, Bool.not_eq_true', Bool.not_eq_false', Bool.and_eq_true, Bool.or_eq_true, Bool.and_eq_false_iff, Bool.or_eq_false_iff, Int.not_lt, Int.not_le] at hc5
  have hbit : ¬ q / 2 ^ i % 2 = 1 := hc5
  have hsr := hidT (show selR E q (i + 1) = selR E q i by simp only [selR]; rw [if_neg hbit])
  have hsl := hidT (show ((selT E q (i + 1)).length : Int) = ((selT E q i).length : Int) by simp only [selT]; rw [if_neg hbit])
  refine TW.skip ?_
  refine TQ.blkN ?_
  refine TQ.thenN (hY26 _ _ ?_)
  refine TW.region ?_
  refine TL.p Pu.ad ?_
  refine TL.p Pu.mv ?_
  refine TL.nil ?_
  refine TQ.thenN (hZ1 (i + 1) _ _ ?_ ?_ (by refine ⟨rfl, rfl, rfl, (congrArg (fun z => some (Value.int .i64 z)) hsr.out.symm), (congrArg (fun z => some (Value.int .i64 z)) hsl.out.symm), ?_⟩; (repeat (first | exact trivial | refine ⟨rfl, ?_⟩ | refine ⟨trivial, ?_⟩))) ?_)
  exact (by omega)
  exact (by first | omega | (simp only []; omega) | (simp; omega))
  exact ks9
  try simp only [decide_eq_true_eq, decide_eq_false_iff_not, Bool.not_eq_true', Bool.not_eq_false', Bool.and_eq_true, Bool.or_eq_true, Bool.and_eq_false_iff, Bool.or_eq_false_iff, Int.not_lt, Int.not_le] at hc4
  obtain rfl : i = E.nf := by omega
  refine TW.exit ?_
  refine TQ.thenX ?_
  refine TQ.thenX ?_
  refine TQ.blkX ?_
  refine TQ.thenN (hY22 _ _ ?_)
  refine TW.seq fun Y30 hY30 => ?_
  rw [← hN9.out]
  refine TW.seq fun Y31 hY31 => ?_
  refine TW.join [(148, .bool false)] ?_ (fun hJ3 => ?_)
  refine TQ.thenN (hY31 _ _ ?_)
  refine TW.condF rfl (rfl) ?_
  refine TW.skip ?_
  refine TQ.thenN (hY30 _ _ ?_)
  refine TW.seq fun Y32 hY32 => ?_
  refine TW.seq fun Y33 hY33 => ?_
  refine TW.join [(157, .bool (!freeB Z T Y.n (stY Y) M || decide (selR E q E.nf < selR E s E.nf)))] ?_ (fun hJ4 => ?_)
  refine TQ.thenN (hY33 _ _ ?_)
  refine TW.cond rfl (fun hc7 => ?_) (fun hc7 => ?_)
  try simp only [decide_eq_true_eq, decide_eq_false_iff_not, Bool.not_eq_true', Bool.not_eq_false', Bool.and_eq_true, Bool.or_eq_true, Bool.and_eq_false_iff, Bool.or_eq_false_iff, Int.not_lt, Int.not_le] at hc7
  refine TW.seq fun Y34 hY34 => ?_
  refine TW.region ?_
  refine TL.p Pu.mv ?_
  refine TL.p Pu.as ?_
  refine TL.nil ?_
  refine TQ.thenN (hY34 _ _ ?_)
  refine TW.ret ?_
  refine TQ.thenR ?_
  refine TQ.ret Tryz.results9 rfl ((.tmp rfl .nil)) ?_
  exact fun w hw => Ret.of hw
  try simp only [decide_eq_true_eq, decide_eq_false_iff_not, Bool.not_eq_true', Bool.not_eq_false', Bool.and_eq_true, Bool.or_eq_true, Bool.and_eq_false_iff, Bool.or_eq_false_iff, Int.not_lt, Int.not_le] at hc7
  have hff : freeB Z T Y.n (stY Y) M = true ∧ ¬ selR E q E.nf < selR E s E.nf := by simpa using hc7
  have hbe := hmin hff.1
  have hbe : ¬ (selR E s E.nf < selR E q E.nf ∨ (selR E s E.nf = selR E q E.nf ∧ (M.length < N.length ∨ (M.length = N.length ∧ ltL M N = true)))) := fun h9 => by rw [betC_iff.2 h9] at hbe; cases hbe
  have hcst := hff.2
  have hb1 : ¬ selR E s E.nf < selR E q E.nf := fun h9 => hbe (.inl h9)
  have hb2 : ¬ M.length < N.length := fun h9 => hbe (.inr ⟨by omega, .inl (by omega)⟩)
  have hb3 : M.length = N.length → ltL M N = false := fun h9 => by
    cases e9 : ltL M N with
    | false => rfl
    | true => exact absurd (.inr ⟨by omega, .inr ⟨by omega, e9⟩⟩) hbe
  refine TW.skip ?_
  refine TQ.thenN (hY32 _ _ ?_)
  refine TW.seq fun Y35 hY35 => ?_
  refine TW.seq fun Y36 hY36 => ?_
  refine TW.join [(168, .bool false)] ?_ (fun hJ5 => ?_)
  refine TQ.thenN (hY36 _ _ ?_)
  refine TW.condF rfl (rfl) ?_
  refine TW.skip ?_
  refine TQ.thenN (hY35 _ _ ?_)
  refine TW.seq fun Y37 hY37 => ?_
  refine TW.seq fun Y38 hY38 => ?_
  refine TW.region ?_
  refine TL.p Pu.mv ?_
  refine TL.p (Pu.ln Tryz.underlying31) ?_
  refine TL.p Pu.mv ?_
  refine TL.nil ?_
  refine TQ.thenN (hY38 _ _ ?_)
  refine TW.block ?_
  refine TW.loop1 (fun (j : Nat) => [(171, .int .i64 (j : Int)), (170, .int .i64 (N.length : Int)), (169, .slice Ag N.length ag), (27, .slice Ag N.length ag), (23, .slice Al M.length cl9), (19, .bool true)]) (fun j => [.own Ag N.length ag 3 1 (iL N), .own Al M.length cl9 3 1 (iL M)]) (fun j => j ≤ N.length ∧ (M.length = N.length → ∀ r, r < j → M.getD r 0 = N.getD r 0)) (fun j => N.length - j) 0 fs9 ?_ ?_ ?_
  exact ks9
  exact ⟨Nat.zero_le _, fun _ r hr => by omega⟩
  rintro j ⟨hj, hall⟩ Z2 hZ2
  refine TW.seq fun Y39 hY39 => ?_
  refine TW.region ?_
  refine TL.p Pu.lt ?_
  refine TL.nil ?_
  refine TQ.thenN (hY39 _ _ ?_)
  refine TW.seq fun Y40 hY40 => ?_
  refine TW.cond rfl (fun hc9 => ?_) (fun hc9 => ?_)
  try simp only [decide_eq_true_eq, decide_eq_false_iff_not, Bool.not_eq_true', Bool.not_eq_false', Bool.and_eq_true, Bool.or_eq_true, Bool.and_eq_false_iff, Bool.or_eq_false_iff, Int.not_lt, Int.not_le] at hc9
  have hjn : j < N.length := by omega
  refine TW.skip ?_
  refine TQ.thenN (hY40 _ _ ?_)
  refine TW.seq fun Y41 hY41 => ?_
  refine TW.block ?_
  refine TW.seq fun Y42 hY42 => ?_
  refine TW.region ?_
  refine TL.p Pu.mv ?_
  refine TL.p Pu.as ?_
  refine TL.nil ?_
  refine TQ.thenN (hY42 _ _ ?_)
  refine TW.seq fun Y43 hY43 => ?_
  refine TW.join [(189, .bool (decide (M.length = N.length) && !decide (N.getD j 0 = M.getD j 0)))] ?_ (fun hJ6 => ?_)
  refine TQ.thenN (hY43 _ _ ?_)
  refine TW.cond rfl (fun hc10 => ?_) (fun hc10 => ?_)
  try simp only [decide_eq_true_eq, decide_eq_false_iff_not, Bool.not_eq_true', Bool.not_eq_false', Bool.and_eq_true, Bool.or_eq_true, Bool.and_eq_false_iff, Bool.or_eq_false_iff, Int.not_lt, Int.not_le] at hc10
  have hd : M.length = N.length ∧ N.getD j 0 ≠ M.getD j 0 := by simpa using hc10
  have hlt := ltL_diff (l := M) (m := N) j (by omega) (hb3 hd.1) (by omega) (hall hd.1) (fun e => hd.2 e.symm)
  refine TW.seq fun Y44 hY44 => ?_
  refine TW.join [(18, .bool true)] ?_ (fun hJ7 => ?_)
  refine TQ.thenN (hY44 _ _ ?_)
  refine TW.ret ?_
  refine TQ.blkR ?_
  refine TQ.thenR ?_
  refine TQ.thenR ?_
  refine TQ.blkR ?_
  refine TQ.thenR ?_
  refine TQ.ret Tryz.results9 rfl ((.tmp rfl .nil)) ?_
  exact fun w hw => Ret.of hw
  refine TW.dw 13 ?_
  refine RK.tk Pu.mv ?_
  refine RK.tk Pu.mv ?_
  refine RK.guard (t := 191) rfl (fun hg2 => ?_) (fun hg2 => ?_)
  try simp only [decide_eq_true_eq, decide_eq_false_iff_not, Bool.not_eq_true', Bool.not_eq_false', Int.natCast_pos] at hg2
  refine RK.tk Pu.mv ?_
  refine RK.tk Pu.mv ?_
  refine RK.tk (Pu.el ty_et31) ?_
  refine RK.tk (Pu.ld ty_sc3) ?_
  refine RK.tk Pu.mv ?_
  refine RK.tk Pu.mv ?_
  refine RK.tk (Pu.el ty_et31) ?_
  refine RK.tk (Pu.ld ty_sc3) ?_
  refine RK.tk Pu.lt ?_
  refine RK.tk Pu.kt ?_
  refine RK.tk Pu.as ?_
  refine RK.ch [] ?_ trivial
  refine WK.n ?_
  refine TL.nil ?_
  exact TQ.sub (by repeat (first | exact trivial | refine ⟨rfl, ?_⟩ | refine ⟨trivial, ?_⟩ | refine ⟨(by show some (Value.bool _) = some (Value.bool _); first | (simp [hg2, -List.getD_eq_getElem?_getD]; done) | (refine congrArg (fun z => some (Value.bool z)) (Bool.eq_iff_iff.2 ?_); simp [hg2, -List.getD_eq_getElem?_getD]; omega)), ?_⟩)) ks9 hJ7
  try simp only [decide_eq_true_eq, decide_eq_false_iff_not, Bool.not_eq_true', Bool.not_eq_false', Int.natCast_pos] at hg2
  refine RK.s ?_
  refine RK.s ?_
  refine RK.s ?_
  refine RK.s ?_
  refine RK.s ?_
  refine RK.s ?_
  refine RK.s ?_
  refine RK.s ?_
  refine RK.s ?_
  refine RK.tk Pu.kf ?_
  refine RK.tk Pu.as ?_
  refine RK.ch [] ?_ trivial
  refine WK.n ?_
  refine TL.nil ?_
  exact TQ.sub (by repeat (first | exact trivial | refine ⟨rfl, ?_⟩ | refine ⟨trivial, ?_⟩ | refine ⟨(by show some (Value.bool _) = some (Value.bool _); first | (simp [hg2, -List.getD_eq_getElem?_getD]; done) | (refine congrArg (fun z => some (Value.bool z)) (Bool.eq_iff_iff.2 ?_); simp [hg2, -List.getD_eq_getElem?_getD]; omega)), ?_⟩)) ks9 hJ7
  try simp only [decide_eq_true_eq, decide_eq_false_iff_not, Bool.not_eq_true', Bool.not_eq_false', Bool.and_eq_true, Bool.or_eq_true, Bool.and_eq_false_iff, Bool.or_eq_false_iff, Int.not_lt, Int.not_le] at hc10
  have hd : M.length = N.length → N.getD j 0 = M.getD j 0 := fun e => by rcases hc10 with h | h; exact absurd e h; exact h
  refine TW.skip ?_
  refine TQ.blkN ?_
  refine TQ.thenN (hY41 _ _ ?_)
  refine TW.region ?_
  refine TL.p Pu.ad ?_
  refine TL.p Pu.mv ?_
  refine TL.nil ?_
  refine TQ.thenN (hZ2 (j + 1) _ _ ?_ ?_ fs9 ?_)
  exact ⟨by omega, fun e r hr => (Nat.lt_succ_iff_lt_or_eq.1 hr).elim (hall e r) (fun e2 => by rw [e2]; exact (hd e).symm)⟩
  exact (by first | omega | (simp only []; omega) | (simp; omega))
  exact ks9
  refine TW.dw 16 ?_
  refine RK.tk Pu.mv ?_
  refine RK.tk (Pu.ln Tryz.underlying31) ?_
  refine RK.tk Pu.mv ?_
  refine RK.tk (Pu.ln Tryz.underlying31) ?_
  refine RK.tk Pu.eq ?_
  refine RK.tk Pu.mv ?_
  refine RK.guard (t := 179) rfl (fun hg3 => ?_) (fun hg3 => ?_)
  try simp only [decide_eq_true_eq, decide_eq_false_iff_not, Bool.not_eq_true', Bool.not_eq_false', Int.natCast_pos] at hg3
  refine RK.tk Pu.mv ?_
  refine RK.tk Pu.mv ?_
  refine RK.tk (Pu.el ty_et31) ?_
  refine RK.tk (Pu.ld ty_sc3) ?_
  refine RK.tk Pu.mv ?_
  refine RK.tk Pu.mv ?_
  refine RK.tk (Pu.el ty_et31) ?_
  refine RK.tk (Pu.ld ty_sc3) ?_
  refine RK.tk Pu.ne ?_
  refine RK.tk Pu.kt ?_
  refine RK.ch [] ?_ trivial
  refine WK.n ?_
  refine TL.nil ?_
  exact TQ.sub (by repeat (first | exact trivial | refine ⟨rfl, ?_⟩ | refine ⟨trivial, ?_⟩ | refine ⟨(by show some (Value.bool _) = some (Value.bool _); first | (simp [hg3, -List.getD_eq_getElem?_getD]; done) | (refine congrArg (fun z => some (Value.bool z)) (Bool.eq_iff_iff.2 ?_); simp [hg3, -List.getD_eq_getElem?_getD]; omega)), ?_⟩)) ks9 hJ6
  try simp only [decide_eq_true_eq, decide_eq_false_iff_not, Bool.not_eq_true', Bool.not_eq_false', Int.natCast_pos] at hg3
  refine RK.s ?_
  refine RK.s ?_
  refine RK.s ?_
  refine RK.s ?_
  refine RK.s ?_
  refine RK.s ?_
  refine RK.s ?_
  refine RK.s ?_
  refine RK.s ?_
  refine RK.tk Pu.kf ?_
  refine RK.ch [] ?_ trivial
  refine WK.n ?_
  refine TL.nil ?_
  exact TQ.sub (by repeat (first | exact trivial | refine ⟨rfl, ?_⟩ | refine ⟨trivial, ?_⟩ | refine ⟨(by show some (Value.bool _) = some (Value.bool _); first | (simp [hg3, -List.getD_eq_getElem?_getD]; done) | (refine congrArg (fun z => some (Value.bool z)) (Bool.eq_iff_iff.2 ?_); simp [hg3, -List.getD_eq_getElem?_getD]; omega)), ?_⟩)) ks9 hJ6
  try simp only [decide_eq_true_eq, decide_eq_false_iff_not, Bool.not_eq_true', Bool.not_eq_false', Bool.and_eq_true, Bool.or_eq_true, Bool.and_eq_false_iff, Bool.or_eq_false_iff, Int.not_lt, Int.not_le] at hc9
  have hjn : j = N.length := by omega
  refine TW.exit ?_
  refine TQ.thenX ?_
  refine TQ.thenX ?_
  refine TQ.blkX ?_
  refine TQ.thenN (hY37 _ _ ?_)
  refine TW.seq fun Y45 hY45 => ?_
  refine TW.region ?_
  refine TL.p Pu.mv ?_
  refine TL.p Pu.as ?_
  refine TL.nil ?_
  refine TQ.thenN (hY45 _ _ ?_)
  refine TW.ret ?_
  refine TQ.ret Tryz.results9 rfl ((.tmp rfl .nil)) ?_
  exact fun w hw => Ret.of hw
  refine TW.region ?_
  refine TL.p Pu.mv ?_
  refine TL.p Pu.mv ?_
  refine TL.p Pu.lt ?_
  refine TL.p Pu.mv ?_
  refine TL.guard (t := 162) rfl (fun hg4 => ?_) (fun hg4 => ?_)
  try simp only [decide_eq_true_eq, decide_eq_false_iff_not, Bool.not_eq_true', Bool.not_eq_false', Int.natCast_pos] at hg4
  refine TL.gs ?_
  refine TL.gs ?_
  refine TL.gs ?_
  refine TL.gs ?_
  refine TL.gs ?_
  refine TL.p Pu.kt ?_
  refine TL.nil ?_
  exact TQ.sub (by repeat (first | exact trivial | refine ⟨rfl, ?_⟩ | refine ⟨trivial, ?_⟩ | refine ⟨(by show some (Value.bool _) = some (Value.bool _); first | (simp [hg4]; done) | (refine congrArg (fun z => some (Value.bool z)) (Bool.eq_iff_iff.2 ?_); simp [hg4]; omega)), ?_⟩)) ks9 hJ5
  try simp only [decide_eq_true_eq, decide_eq_false_iff_not, Bool.not_eq_true', Bool.not_eq_false', Int.natCast_pos] at hg4
  refine TL.gd Pu.mv ?_
  refine TL.gd (Pu.ln Tryz.underlying31) ?_
  refine TL.gd Pu.mv ?_
  refine TL.gd (Pu.ln Tryz.underlying31) ?_
  refine TL.gd Pu.lt ?_
  refine TL.p Pu.kf ?_
  refine TL.nil ?_
  exact TQ.sub (by repeat (first | exact trivial | refine ⟨rfl, ?_⟩ | refine ⟨trivial, ?_⟩ | refine ⟨(by show some (Value.bool _) = some (Value.bool _); first | (simp [hg4]; done) | (refine congrArg (fun z => some (Value.bool z)) (Bool.eq_iff_iff.2 ?_); simp [hg4]; omega)), ?_⟩)) ks9 hJ5
  refine TW.region ?_
  refine TL.p Pu.mv ?_
  refine TL.p Pu.mv ?_
  refine TL.cv rfl rfl (enters Tryz.func39 rfl rfl) (fun w hw => by
      have q1 := OldB.of_blk (hw.holds (.blk b1 25 [.slice W Y.nw cw, .slice A Y.nl cl]) (Pick.mem pk9))
      have q2 := OldB.of_blk (hw.holds (.blk b2 30 [.slice C Z.nc cc, .slice D Z.nd cd, .slice B Z.nb cb]) (Pick.mem pk9))
      have q3 := OldB.of_blk (hw.holds (.blk b3 33 [.int .i64 T.hd, .int .i64 T.wo, .slice O T.no co, .slice U T.nu cu, .slice V T.nv cv]) (Pick.mem pk9))
      have q4 := OldB.of_blk (hw.holds (.blk b4 3 [.int .i64 Y.start]) (Pick.mem pk9))
      have q5 := OldB.of_blk (hw.holds (.blk b5 3 [.int .i64 Y.day]) (Pick.mem pk9))
      have q6 := OldB.of_blk (hw.holds (.blk b6 35 [.int .i64 Y.p0, .int .i64 Y.p1]) (Pick.mem pk9))
      have q7 := OldB.of_blk (hw.holds (.blk b7 31 [.slice L Y.n cn]) (Pick.mem pk9))
      exact fC _ b1 b2 b3 b4 b5 b6 b7 _ _ M g hMb (by omega) (aE (Chg.ext hw.chg)) (hG.ext (Chg.ext hw.chg)) (OwnR.rdr (hw.holds (.own Al M.length cl9 3 1 (iL M)) (Pick.mem pk9))) q1 q2 q3 q4 q5 q6 q7) ?_
  refine TL.p Pu.no ?_
  refine TL.p Pu.mv ?_
  refine TL.guard (t := 153) rfl (fun hg5 => ?_) (fun hg5 => ?_)
  try simp only [decide_eq_true_eq, decide_eq_false_iff_not, Bool.not_eq_true', Bool.not_eq_false', Int.natCast_pos] at hg5
  refine TL.gs ?_
  refine TL.gs ?_
  refine TL.gs ?_
  refine TL.p Pu.kt ?_
  refine TL.nil ?_
  exact TQ.sub (by repeat (first | exact trivial | refine ⟨rfl, ?_⟩ | refine ⟨trivial, ?_⟩ | refine ⟨(by show some (Value.bool _) = some (Value.bool _); first | (simp [hg5]; done) | (refine congrArg (fun z => some (Value.bool z)) (Bool.eq_iff_iff.2 ?_); simp [hg5]; omega)), ?_⟩)) ks9 hJ4
  try simp only [decide_eq_true_eq, decide_eq_false_iff_not, Bool.not_eq_true', Bool.not_eq_false', Int.natCast_pos] at hg5
  refine TL.gd Pu.mv ?_
  refine TL.gd Pu.mv ?_
  refine TL.gd Pu.gt ?_
  refine TL.p Pu.kf ?_
  refine TL.nil ?_
  exact TQ.sub (by repeat (first | exact trivial | refine ⟨rfl, ?_⟩ | refine ⟨trivial, ?_⟩ | refine ⟨(by show some (Value.bool _) = some (Value.bool _); first | (simp [hg5]; done) | (refine congrArg (fun z => some (Value.bool z)) (Bool.eq_iff_iff.2 ?_); simp [hg5]; omega)), ?_⟩)) ks9 hJ4
  refine TW.region ?_
  refine TL.p Pu.mv ?_
  refine TL.p Pu.mv ?_
  refine TL.p Pu.ne ?_
  refine TL.lit (t := 136) (b' := false) rfl ((by simp)) ?_
  refine TL.p Pu.mv ?_
  refine TL.gd Pu.mv ?_
  refine TL.gd Pu.mv ?_
  refine TL.gd (Pu.ln Tryz.underlying31) ?_
  refine TL.gd Pu.ne ?_
  refine TL.lit (t := 141) (b' := false) rfl ((by simp)) ?_
  refine TL.p Pu.kf ?_
  refine TL.p Pu.mv ?_
  refine TL.gd Pu.mv ?_
  refine TL.gd Pu.mv ?_
  refine TL.cv rfl rfl (enters Tryz.func39 rfl rfl) (fun w hw => by
      have q1 := OldB.of_blk (hw.holds (.blk b1 25 [.slice W Y.nw cw, .slice A Y.nl cl]) (Pick.mem pk9))
      have q2 := OldB.of_blk (hw.holds (.blk b2 30 [.slice C Z.nc cc, .slice D Z.nd cd, .slice B Z.nb cb]) (Pick.mem pk9))
      have q3 := OldB.of_blk (hw.holds (.blk b3 33 [.int .i64 T.hd, .int .i64 T.wo, .slice O T.no co, .slice U T.nu cu, .slice V T.nv cv]) (Pick.mem pk9))
      have q4 := OldB.of_blk (hw.holds (.blk b4 3 [.int .i64 Y.start]) (Pick.mem pk9))
      have q5 := OldB.of_blk (hw.holds (.blk b5 3 [.int .i64 Y.day]) (Pick.mem pk9))
      have q6 := OldB.of_blk (hw.holds (.blk b6 35 [.int .i64 Y.p0, .int .i64 Y.p1]) (Pick.mem pk9))
      have q7 := OldB.of_blk (hw.holds (.blk b7 31 [.slice L Y.n cn]) (Pick.mem pk9))
      exact fC _ b1 b2 b3 b4 b5 b6 b7 _ _ N g hNb (by omega) (aE (Chg.ext hw.chg)) (hG.ext (Chg.ext hw.chg)) (OwnR.rdr (hw.holds (.own Ag N.length ag 3 1 (iL N)) (Pick.mem pk9))) q1 q2 q3 q4 q5 q6 q7) ?_
  refine TL.gd Pu.no ?_
  refine TL.p Pu.kf ?_
  refine TL.nil ?_
  exact TQ.sub (by repeat (first | exact trivial | refine ⟨rfl, ?_⟩ | refine ⟨trivial, ?_⟩ | refine ⟨(by show some (Value.bool _) = some (Value.bool _); first | (simp [hfr]; done) | (refine congrArg (fun z => some (Value.bool z)) (Bool.eq_iff_iff.2 ?_); simp [hfr]; omega)), ?_⟩)) ks9 hJ3
  refine TW.region ?_
  refine TL.p Pu.mv ?_
  refine TL.p Pu.no ?_
  refine TL.p Pu.mv ?_
  refine TL.guard (t := 49) rfl (fun hg6 => ?_) (fun hg6 => ?_)
  try simp only [decide_eq_true_eq, decide_eq_false_iff_not, Bool.not_eq_true', Bool.not_eq_false', Int.natCast_pos] at hg6
  refine TL.gs ?_
  refine TL.gs ?_
  refine TL.gs ?_
  refine TL.p Pu.kt ?_
  refine TL.p Pu.mv ?_
  refine TL.gs ?_
  refine TL.gs ?_
  refine TL.p Pu.kt ?_
  refine TL.nil ?_
  exact TQ.sub (by repeat (first | exact trivial | refine ⟨rfl, ?_⟩ | refine ⟨trivial, ?_⟩ | refine ⟨(by show some (Value.bool _) = some (Value.bool _); first | (simp [hg6]; done) | (refine congrArg (fun z => some (Value.bool z)) (Bool.eq_iff_iff.2 ?_); simp [hg6]; omega)), ?_⟩)) ks9 hJ1
  try simp only [decide_eq_true_eq, decide_eq_false_iff_not, Bool.not_eq_true', Bool.not_eq_false', Int.natCast_pos] at hg6
  refine TL.gd Pu.mv ?_
  refine TL.cr rfl (enters Tryz.func38 rfl rfl) (fun w hw => by
      exact rFees2_any hnf (hE.sat hw Apart.nil)) ?_
  refine TL.gd Pu.no ?_
  refine TL.p Pu.kf ?_
  refine TL.p Pu.mv ?_
  refine TL.guard (t := 54) rfl (fun hg7 => ?_) (fun hg7 => ?_)
  try simp only [decide_eq_true_eq, decide_eq_false_iff_not, Bool.not_eq_true', Bool.not_eq_false', Int.natCast_pos] at hg7
  refine TL.gs ?_
  refine TL.gs ?_
  refine TL.p Pu.kt ?_
  refine TL.nil ?_
  exact TQ.sub (by repeat (first | exact trivial | refine ⟨rfl, ?_⟩ | refine ⟨trivial, ?_⟩ | refine ⟨(by show some (Value.bool _) = some (Value.bool _); first | (simp [hg6, hg7]; done) | (refine congrArg (fun z => some (Value.bool z)) (Bool.eq_iff_iff.2 ?_); simp [hg6, hg7]; omega)), ?_⟩)) ks9 hJ1
  try simp only [decide_eq_true_eq, decide_eq_false_iff_not, Bool.not_eq_true', Bool.not_eq_false', Int.natCast_pos] at hg7
  refine TL.gd Pu.mv ?_
  refine TL.gd Pu.no ?_
  refine TL.p Pu.kf ?_
  refine TL.nil ?_
  exact TQ.sub (by repeat (first | exact trivial | refine ⟨rfl, ?_⟩ | refine ⟨trivial, ?_⟩ | refine ⟨(by show some (Value.bool _) = some (Value.bool _); first | (simp [hg6, hg7]; done) | (refine congrArg (fun z => some (Value.bool z)) (Bool.eq_iff_iff.2 ?_); simp [hg6, hg7]; omega)), ?_⟩)) ks9 hJ1
end
end Go.Proofs.YtmonkjnfjgidbaaGreatDoor
namespace Go.Proofs.YtmonkjnfjgidbaaGreatDoor
set_option linter.all false
set_option linter.unusedVariables false
set_option linter.unusedSimpArgs false
open Go.ChangeShapes Go.WideShapes Go.RowKit Go.Deep
section
variable {H : Type} {enc : TypeId × Value → H} {P : Program} {w : World} {base : Nat} {spare : Nat → Bool} {held : Bool}
def kindsL (P : Program) (g : TypeId → Option (List IntKind)) : List Field → Nat → Option (List IntKind)
  | [], _ => some []
  | f :: fs, off => match g f.type with
    | some a => if f.offset = off ∧ a.length = P.cellsOf f.type then match kindsL P g fs (off + a.length) with
      | some b => some (a ++ b)
      | none => none
      else none
    | none => none
def kindsF (P : Program) : Nat → TypeId → Option (List IntKind)
  | 0, _ => none
  | d + 1, t => match P.underlying t with
    | some (.int k) => some [k]
    | some (.struct fs) => match kindsL P (kindsF P d) fs.toList 0 with
      | some a => if a.length = P.cellsOf t then some a else none
      | none => none
    | _ => none
def ints (ks : List IntKind) (ns : List Int) : List Value := List.zipWith Value.int ks ns
theorem ints_append {a b : List IntKind} {x y : List Int} (h : x.length = a.length) : ints (a ++ b) (x ++ y) = ints a x ++ ints b y := by
  unfold ints; rw [List.zipWith_append h.symm]
theorem ints_length {a : List IntKind} {x : List Int} (h : x.length = a.length) : (ints a x).length = a.length := by simp [ints, h]
theorem kindsL_spec {g : TypeId → Option (List IntKind)} (hg : ∀ t ks, g t = some ks → ∀ fuel cs x, DataW.trod enc P w base spare held fuel t cs = some x → ∃ ns : List Int, cs = ints ks ns ∧ ns.length = ks.length) :
    ∀ (fs : List Field) (off : Nat) (ks : List IntKind) (cs : List Value), kindsL P g fs off = some ks → cs.length = off + ks.length →
      (∀ f ∈ fs, ∃ n x, DataW.trod enc P w base spare held n f.type ((cs.drop f.offset).take (P.cellsOf f.type)) = some x) → ∃ ns : List Int, cs.drop off = ints ks ns ∧ ns.length = ks.length
  | [], off, ks, cs, h, hl, _ => by cases h; exact ⟨[], by simp at hl; simp [ints, hl], rfl⟩
  | f :: fs, off, ks, cs, h, hl, hf => by
    simp only [kindsL] at h
    cases h1 : g f.type with
    | none => rw [h1] at h; cases h
    | some a =>
      rw [h1] at h
      simp only at h
      split at h
      · rename_i h2
        obtain ⟨h2, h3⟩ := h2
        cases h4 : kindsL P g fs (off + a.length) with
        | none => rw [h4] at h; cases h
        | some b =>
          rw [h4] at h
          cases h
          obtain ⟨n, x, hx⟩ := hf f (by simp)
          rw [h2, ← h3] at hx
          obtain ⟨ns, e1, e2⟩ := hg _ _ h1 _ _ _ hx
          obtain ⟨ms, e3, e4⟩ := kindsL_spec hg fs (off + a.length) b cs h4 (by rw [hl]; simp; omega) (fun f' hf' => hf f' (by simp [hf']))
          refine ⟨ns ++ ms, ?_, by simp [e2, e4]⟩
          rw [ints_append e2, ← e1, ← e3, ← List.drop_drop, List.take_append_drop]
      · cases h
theorem kindsF_spec : ∀ (d : Nat) (t : TypeId) (ks : List IntKind), kindsF P d t = some ks → ∀ fuel cs x, DataW.trod enc P w base spare held fuel t cs = some x → ∃ ns : List Int, cs = ints ks ns ∧ ns.length = ks.length
  | 0, _, _, h, _, _, _, _ => by cases h
  | d + 1, t, ks, h, fuel, cs, x, hx => by
    simp only [kindsF] at h
    cases hu : P.underlying t with
    | none => rw [hu] at h; cases h
    | some desc =>
      rw [hu] at h
      match desc, hu, h with
      | .int k, hu, h =>
        injection h with h
        subst h
        obtain ⟨n, rfl, _, _⟩ := DataW.trod_int hu hx
        exact ⟨[n], rfl, rfl⟩
      | .struct fs, hu, h =>
        simp only at h
        cases h1 : kindsL P (kindsF P d) fs.toList 0 with
        | none => rw [h1] at h; cases h
        | some a =>
          rw [h1] at h
          simp only at h
          split at h
          · rename_i h2
            cases h
            obtain ⟨xs, n, _, _, hlen, hxl, hf⟩ := DataW.trod_struct hu hx
            obtain ⟨ns, e1, e2⟩ := kindsL_spec (kindsF_spec d) fs.toList 0 _ cs h1 (by omega) (fun f hf' => by
              obtain ⟨i, hi, rfl⟩ := List.getElem_of_mem hf'
              have hi' : i < fs.size := by simpa using hi
              have := hf i fs[i] (by simp [hi'])
              rw [List.getElem?_eq_getElem (by omega)] at this
              exact ⟨n, _, this⟩)
            exact ⟨ns, by simpa using e1, e2⟩
          · cases h
theorem open_flat_slice {t e : TypeId} {fuel : Nat} {cs : List Value} {x : DataW H × List MemPlace} (d : Nat) {ks : List IntKind} (ht : P.underlying t = some (.slice e)) (hk : kindsF P d e = some ks) (hC : P.cellsOf e = ks.length) (h0 : Nat.blt 0 ks.length = true) (h : DataW.trod enc P w base spare held fuel t cs = some x) :
    ∃ (A : Option Addr) (len cap : Nat) (g : Nat → List Int), cs = [.slice A len cap] ∧ (∀ i, i < len → (g i).length = ks.length) ∧ RdR w ks.length A len (fun i => ints ks (g i)) ∧ (A = none → len = 0 ∧ cap = 0) ∧ len ≤ cap ∧ cap ≤ maxLen := by
  have h0 : 0 < ks.length := Nat.le_of_ble_eq_true h0
  rcases open_slice ht h with ⟨rfl, rfl⟩ | ⟨a, len, cap, m, n, D, Pl, rfl, hb, hl, hm, hmm, _, hi⟩
  · exact ⟨none, 0, 0, fun _ => [], rfl, fun i hi => by omega, ⟨Rd.nil, fun i hi => by omega⟩, fun _ => ⟨rfl, rfl⟩, Nat.le_refl _, Nat.zero_le _⟩
  · have hlm : len ≤ m := by rw [hmm]; split <;> omega
    have key : ∀ i, i < len → ∃ ns : List Int, ns.length = ks.length ∧ ∀ j, j < ks.length → w.cell? (a.add (i * ks.length + j)) = (ints ks ns)[j]? := fun i hil => by
      obtain ⟨cs', hc, hx⟩ := hi i (by omega)
      obtain ⟨_, hcl, hat⟩ := World.cells?_some hc
      obtain ⟨ns, rfl, e2⟩ := kindsF_spec d e ks hk _ _ _ hx
      refine ⟨ns, e2, fun j hj => ?_⟩
      have := hat j (by rw [hC]; exact hj)
      rw [hC] at this
      rw [← this, ← add_add]
    refine ⟨some a, len, cap, fun i => if hi : i < len then (key i hi).choose else [], rfl, fun i hi => ?_, ⟨fun hn => ?_, fun i hi => ?_⟩, fun h => (by cases h), hl, hm⟩
    · simp only [hi, dite_true]; exact (key i hi).choose_spec.1
    · have h1 := (key 0 hn).choose_spec.2 0 h0
      have hsome : (ints ks (key 0 hn).choose)[0]? = some ((ints ks (key 0 hn).choose)[0]'(by rw [ints_length (key 0 hn).choose_spec.1]; exact h0)) := List.getElem?_eq_getElem _
      rw [hsome] at h1
      have hadd : a.add (0 * ks.length + 0) = a := by simp [Addr.add]
      rw [hadd] at h1
      have hsp : a.spot = none := by
        unfold World.cell? at h1
        split at h1
        · cases hs : a.spot with
          | none => rfl
          | some s => simp [hs] at h1
        · cases h1
      have hlt : a.block < w.heap.size := World.block_lt_of_cell? w a h1
      obtain ⟨b, o, s⟩ := a
      simp only at hsp
      subst hsp
      refine ⟨b, o, rfl, hlt, fun i j hi hj => ?_⟩
      have h2 := (key i hi).choose_spec.2 j hj
      rw [add_plain] at h2
      rw [show o + i * ks.length + j = o + (i * ks.length + j) by omega, h2]
      simp only [rowF, hi, dite_true]
      have hl2 : j < (ints ks (key i hi).choose).length := by rw [ints_length (key i hi).choose_spec.1]; exact hj
      rw [List.getElem?_eq_getElem hl2]
      simp [List.getD_eq_getElem?_getD, List.getElem?_eq_getElem hl2]
    · simp only [hi, dite_true]
      exact ints_length (key i hi).choose_spec.1
theorem open_rows {r : Reach} {b0 : Nat} {t e : TypeId} {v : Value} {dd : DataW H} {p : List MemPlace} (d : Nat) (ks : List IntKind) (ht : P.underlying t = some (.slice e)) (hk : kindsF P d e = some ks) (hC : P.cellsOf e = ks.length) (h0 : Nat.blt 0 ks.length = true) (hv : Value.okWide P w r b0 t v) (h : DataW.Trod enc P w base spare held t v dd p) :
    ∃ (A : Option Addr) (len cap : Nat) (g : Nat → List Int), v = .slice A len cap ∧ (∀ i, i < len → (g i).length = ks.length) ∧ RdR w ks.length A len (fun i => ints ks (g i)) ∧ (A = none → len = 0 ∧ cap = 0) ∧ len ≤ cap ∧ cap ≤ maxLen := by
  obtain ⟨a, n, c, rfl⟩ := okWide_slice ht hv
  obtain ⟨fuel, h⟩ := h
  obtain ⟨A, len, cap, g, e, h1⟩ := open_flat_slice d ht hk hC h0 h
  simp only [Value.cells, List.cons.injEq, Value.slice.injEq, and_true] at e
  obtain ⟨rfl, rfl, rfl⟩ := e
  exact ⟨_, _, _, g, rfl, h1⟩
def gi (ns : List Int) (j : Nat) : Int := ns.getD j 0
def rowK : List IntKind → (Nat → Int) → List Value
  | [], _ => []
  | k :: ks, f => .int k (f 0) :: rowK ks fun j => f (j + 1)
theorem ints_rowK : ∀ (ks : List IntKind) (ns : List Int), ns.length = ks.length → ints ks ns = rowK ks (gi ns)
  | [], [], _ => rfl
  | k :: ks, n :: ns, h => by
    show Value.int k n :: ints ks ns = _
    rw [ints_rowK ks ns (by simpa using h)]
    rfl
theorem RdR.rowK {sz n : Nat} {A : Option Addr} {ks : List IntKind} {g : Nat → List Int} (h : RdR w sz A n (fun i => ints ks (g i))) (hl : ∀ i, i < n → (g i).length = ks.length) : RdR w sz A n (fun i => rowK ks (gi (g i))) :=
  ⟨h.rd.congr fun i j hi hj => by simp only [rowF, ints_rowK ks (g i) (hl i hi)], fun i hi => by rw [← ints_rowK ks (g i) (hl i hi)]; exact h.len i hi⟩
theorem trodAll_stays (hl : laidOutB P = true) {W W' : World} (hb : Below W.heap.size W W') {sp' : Nat → Bool} : ∀ {ts : List TypeId} {vs : List Value} {ds : List (DataW H)} {ps : List MemPlace}, ts.all (fun t => P.readableRec t && decide (t < P.types.size)) = true →
    DataW.TrodAll enc P W 0 (fun _ => true) true ts vs ds ps → (∀ p ∈ ps, p.block < W.heap.size) → (∀ p ∈ ps, sp' p.block = true) → DataW.TrodAll enc P W' 0 sp' true ts vs ds ps
  | [], [], [], ps, _, h, _, _ => h
  | t :: ts, v :: vs, d :: ds, ps, ht, h, hlt, hs => by
    simp only [List.all_cons, Bool.and_eq_true, decide_eq_true_eq] at ht
    obtain ⟨p, q, h1, h2, rfl⟩ := h
    exact ⟨p, q, WideElems.Trod_stays hl ht.1.1 ht.1.2 h1 (fun x hx => hb.same (hlt x (by simp [hx]))) (fun x hx => hs x (by simp [hx])), trodAll_stays hl hb ht.2 h2 (fun x hx => hlt x (by simp [hx])) (fun x hx => hs x (by simp [hx])), rfl⟩
theorem law_post {f : Func} {s : ChangeSpec} {apart fresh handsOn again : Bool} {W W' : World} {args : Array Value} {ds : List (DataW H)} {p : List MemPlace} {tb : TypeId} (hl : laidOutB P = true) (hvars : s.vars = [])
    (hW : DataW.Whole enc P f.params.toList s.vars apart W args.toList ds [] p) (hA : DataW.TrodAll enc P W 0 (fun _ => true) true f.params.toList args.toList ds p)
    (ht : f.params.toList.all (fun t => P.readableRec t && decide (t < P.types.size)) = true) (hrt : f.resultTypes = #[tb]) (htb : P.underlying tb = some .bool) (hfn : s.fn H ds = { results := [.lit (.bool true)], args := ds }) (hb : Below W.heap.size W W') :
    s.post enc P f apart fresh handsOn again W args (.bool true) W' := by
  have hlt : ∀ q ∈ p, q.block < W.heap.size := fun q hq => hW.lt q hq
  have hold : ∀ q ∈ p, (fun b => decide (b < W.heap.size)) q.block = true := fun q hq => by simpa using hW.lt q hq
  have hres : ∀ (b : Nat) (sp : Nat → Bool) (hd : Bool), DataW.TrodAll enc P W' b sp hd f.resultTypes.toList ((Value.bool true).resultList f.resultTypes.size) (s.fn H (ds ++ [])).results [] := fun b sp hd => by
    rw [List.append_nil, hfn, hrt]
    exact ⟨[], [], shut_bool htb true, rfl, rfl⟩
  have hargs : ∀ sp : Nat → Bool, (∀ q ∈ p, sp q.block = true) → DataW.TrodAll enc P W' 0 sp true f.params.toList args.toList (s.fn H (ds ++ [])).args p := fun sp hs => by
    rw [List.append_nil, hfn]
    exact trodAll_stays hl hb ht hA (fun q hq => hW.lt q hq) hs
  have hv : ∀ sp : Nat → Bool, DataW.TrodVars enc P W' sp s.vars (s.fn H (ds ++ [])).vars [] := fun sp => by
    rw [List.append_nil, hfn, hvars]; exact rfl
  have hok : ∀ (j : Nat) (t : TypeId) (r : Value), f.resultTypes[j]? = some t → ((Value.bool true).resultList f.resultTypes.size)[j]? = some r → Value.okWide P W' .any 0 t r := ok_one (by rw [hrt]) rfl (okWide_bool_mk htb true)
  refine ⟨ds, [], p, [], p, [], hW, hres _ _ _, hargs _ hold, hv _, World.keptBut_mono (fun q hq => ⟨hq, by simpa using hq⟩) (hb.frame (· ∈ p)), fun _ => ?_⟩
  obtain ⟨_, _, _, _, _, hz, hn⟩ := hW
  refine ⟨hok, _, _, ([] ++ p) ++ [], ⟨[] ++ p, [], trodAll_append (hargs _ (fun _ _ => rfl)) (hres _ _ _), hv _, rfl, ?_, ?_⟩, ?_⟩
  · intro b off hp
    have hin : MemPlace.cell b off ∈ p := by simpa using hp
    rw [hb.frozen (hlt _ hin)]
    exact hz b off hin
  · intro ha
    have := hn ha
    simpa using this
  · intro q hq _
    simpa using hq
end
end Go.Proofs.YtmonkjnfjgidbaaGreatDoor
