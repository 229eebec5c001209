/-
  Part 13 of the proof of tollPaid_holds: declarations of several texts, in build order. No condition on a program.
-/
import Derived.Test.YtmonkjnfjgidbaaGreatDoorPa12
import Derived.WideKeyRuns
namespace Go.Proofs.YtmonkjnfjgidbaaGreatDoor
set_option linter.all false
set_option linter.unusedVariables false
set_option linter.unusedSimpArgs false
open Go.RowKit
def U32n (n : Nat) (u : Nat → Int) : Prop := ∀ k, k < n → 0 ≤ u k ∧ u k ≤ 4294967295
def chsV (n : Nat) (u : Nat → Int) (i : Nat) : Int := if i < n then u i else 0
theorem chs_bd {n : Nat} {u : Nat → Int} (h : U32n n u) (i : Nat) : 0 ≤ chsV n u i ∧ chsV n u i ≤ 4294967295 := by
  unfold chsV
  split
  · next hi => exact h i hi
  · omega
theorem ret_u32 {a b : Int} (h : a = b) : Ending.returned (.int .u32 a) = .returned (.int .u32 b) := by rw [h]
set_option maxRecDepth 100000 in
theorem choose_any {A : Option Addr} {n cp : Nat} {u : Nat → Int} {w : World} (i : Nat) (hR : RdR w 1 A n (fun k => [.int .u32 (u k)])) :
    Calls Tryz.prog 30 #[.slice A n cp, .int .i64 (i : Int)] w (Ret w (.int .u32 (chsV n u i))) := by
  refine K_enter (S := []) (K := []) Tryz.func30 rfl Tryz.ntmps30 rfl (Sat.start _) ?_
  refine TW.seq fun Y1 hY1 => ?_
  refine TW.region ?_
  refine TL.p Pu.as ?_
  refine TL.nil ?_
  refine TQ.thenN (hY1 _ _ ?_)
  refine TW.seq fun Y2 hY2 => ?_
  refine TW.seq fun Y3 hY3 => ?_
  refine TW.region ?_
  refine TL.p Pu.mv ?_
  refine TL.p Pu.mv ?_
  refine TL.p (Pu.ln Tryz.underlying56) ?_
  refine TL.p Pu.lt ?_
  refine TL.nil ?_
  refine TQ.thenN (hY3 _ _ ?_)
  refine TW.cond rfl (fun hc0 => ?_) (fun hc0 => ?_)
  try simp only [decide_eq_true_eq, decide_eq_false_iff_not, Bool.not_eq_true', Bool.not_eq_false', Bool.and_eq_true, Bool.or_eq_true, Bool.and_eq_false_iff, Bool.or_eq_false_iff, Int.not_lt, Int.not_le] at hc0
  have hi : i < n := by omega
  refine TW.seq fun Y4 hY4 => ?_
  refine TW.region ?_
  refine TL.p Pu.mv ?_
  refine TL.p Pu.mv ?_
  refine TL.p (Pu.el ty_et56) ?_
  refine TL.p (Pu.ld ty_sc64) ?_
  refine TL.p Pu.as ?_
  refine TL.nil ?_
  refine TQ.thenN (hY4 _ _ ?_)
  refine TW.ret ?_
  refine TQ.thenR ?_
  refine TQ.ret Tryz.results30 rfl ((.tmp rfl .nil)) ?_
  exact fun w hw => ⟨ret_u32 (by unfold chsV; rw [if_pos hi]), Chg.ext hw.chg⟩
  try simp only [decide_eq_true_eq, decide_eq_false_iff_not, Bool.not_eq_true', Bool.not_eq_false', Bool.and_eq_true, Bool.or_eq_true, Bool.and_eq_false_iff, Bool.or_eq_false_iff, Int.not_lt, Int.not_le] at hc0
  have hi : ¬ i < n := by omega
  refine TW.skip ?_
  refine TQ.thenN (hY2 _ _ ?_)
  refine TW.seq fun Y5 hY5 => ?_
  refine TW.region ?_
  refine TL.p Pu.as ?_
  refine TL.nil ?_
  refine TQ.thenN (hY5 _ _ ?_)
  refine TW.ret ?_
  refine TQ.ret Tryz.results30 rfl ((.tmp rfl .nil)) ?_
  exact fun w hw => ⟨ret_u32 (by unfold chsV; rw [if_neg hi]), Chg.ext hw.chg⟩
def insV (lo hi x : Int) : Int := lo + x % (hi - lo + 1)
theorem ins_bd {lo hi x : Int} (h : lo ≤ hi) : lo ≤ insV lo hi x ∧ insV lo hi x ≤ hi := by
  unfold insV
  have h1 := Int.emod_nonneg x (show hi - lo + 1 ≠ 0 by omega)
  have h2 := Int.emod_lt_of_pos x (show 0 < hi - lo + 1 by omega)
  omega
set_option maxRecDepth 100000 in
theorem inside_any {lo hi x : Int} (h0 : 0 ≤ lo) (h1 : lo ≤ hi) (h2 : hi ≤ 200000) (hx : 0 ≤ x ∧ x ≤ 4294967295) (w : World) :
    Calls Tryz.prog 29 #[.agg #[.int .i64 lo, .int .i64 hi], .int .u32 x] w (Ret w (.int .i64 (insV lo hi x))) := by
  have h3 := Int.emod_nonneg x (show hi - lo + 1 ≠ 0 by omega)
  have h4 := Int.emod_lt_of_pos x (show 0 < hi - lo + 1 by omega)
  refine K_enter (S := []) (K := []) Tryz.func29 rfl Tryz.ntmps29 rfl (Sat.start _) ?_
  refine TW.seq fun Y1 hY1 => ?_
  refine TW.region ?_
  refine TL.m Mk.bx ?_
  intro b1
  refine TL.p Pu.as ?_
  refine TL.nil ?_
  refine TQ.thenN (hY1 _ _ ?_)
  refine TW.seq fun Y2 hY2 => ?_
  refine TW.dw 13 ?_
  refine RK.tk (by first | exact Pu.fb ty_fa35_0 | exact Pu.fe ty_fa35_0) ?_
  refine RK.tk (Pu.ld ty_sc3) ?_
  refine RK.tk Pu.mv ?_
  refine RK.tk (Pu.cv (v := .int .i64 x) rfl (fun w => by go_simp; rw [IntWalk.i64_in x (by omega)])) ?_
  refine RK.tk (by first | exact Pu.fb ty_fa35_1 | exact Pu.fe ty_fa35_1) ?_
  refine RK.tk (Pu.ld ty_sc3) ?_
  refine RK.tk (by first | exact Pu.fb ty_fa35_0 | exact Pu.fe ty_fa35_0) ?_
  refine RK.tk (Pu.ld ty_sc3) ?_
  refine RK.tk Pu.sb ?_
  refine RK.tk Pu.ad ?_
  refine RK.tk Pu.rm ?_
  refine RK.tk Pu.ad ?_
  refine RK.tk Pu.as ?_
  refine RK.ch [] ?_ trivial
  refine WK.n ?_
  refine TL.nil ?_
  refine TQ.thenN (hY2 _ _ ?_)
  refine TW.ret ?_
  refine TQ.ret Tryz.results29 rfl ((.tmp rfl .nil)) ?_
  exact fun w hw => Ret.of hw
def stpB (s : Nat → Int) : Bool := !(decide (s 2 < 0) || decide (s 3 < s 2) || decide (s 4 ≤ s 2) || decide (s 5 < s 4) || decide (100000 < s 5) || decide (s 5 ≤ s 3))
theorem stp_bd {s : Nat → Int} (h : stpB s = true) : 0 ≤ s 2 ∧ s 2 ≤ s 3 ∧ s 2 < s 4 ∧ s 4 ≤ s 5 ∧ s 5 ≤ 100000 ∧ s 3 < s 5 := by
  unfold stpB at h
  rw [Bool.not_eq_true'] at h
  simp only [Bool.or_eq_false_iff, decide_eq_false_iff_not] at h
  omega
def gonB (Y : Wy) (Z : Cus) (T : Trp) : Bool := !(great7 Y.nw Y.nl Y.x Z.nc Z.nd Z.nb T.no T.nu T.nv || decide ((30 : Int) < (Y.n : Int)) || !decide (chkY Y Z = 0) || !trpOk T) && (decide (wkC Y = 0) && allB Y.n fun k => stpB (stY Y k))
def gonN (Y : Wy) (Z : Cus) (T : Trp) : Nat := if gonB Y Z T = true then Y.n else 0
structure Gon (Y : Wy) (Z : Cus) (T : Trp) : Prop where
  gr : great7 Y.nw Y.nl Y.x Z.nc Z.nd Z.nb T.no T.nu T.nv = false
  n30 : Y.n ≤ 30
  chk : chkY Y Z = 0
  trp : trpOk T = true
  wk : wkC Y = 0
  stp : ∀ k, k < Y.n → stpB (stY Y k) = true
theorem gon_of {Y : Wy} {Z : Cus} {T : Trp} (h : gonB Y Z T = true) : Gon Y Z T := by
  unfold gonB at h
  simp only [Bool.and_eq_true, Bool.not_eq_true', Bool.or_eq_false_iff, decide_eq_false_iff_not, Bool.not_eq_false', decide_eq_true_eq] at h
  obtain ⟨⟨⟨⟨h1, h2⟩, h3⟩, h4⟩, h5, h6⟩ := h
  exact ⟨h1, by omega, h3, h4, h5, fun k hk => allB_iff.1 h6 k hk⟩
theorem Gon.rdy {Y : Wy} {Z : Cus} {T : Trp} (h : Gon Y Z T) : rdyC Y Z T = 0 := rdy_ok h.chk h.trp
theorem Gon.tol {Y : Wy} {Z : Cus} {T : Trp} (h : Gon Y Z T) : tolC Y Z T = 0 := by rw [tol_wk h.rdy]; exact h.wk
theorem gon_no1 {Y : Wy} {Z : Cus} {T : Trp} (h : (great7 Y.nw Y.nl Y.x Z.nc Z.nd Z.nb T.no T.nu T.nv || decide ((30 : Int) < (Y.n : Int)) || !decide (chkY Y Z = 0) || !trpOk T) = true) : gonB Y Z T = false := by unfold gonB; rw [h]; rfl
theorem gon_no2 {Y : Wy} {Z : Cus} {T : Trp} (h : wkC Y ≠ 0) : gonB Y Z T = false := by unfold gonB; rw [decide_eq_false h, Bool.false_and, Bool.and_false]
theorem gon_no3 {Y : Wy} {Z : Cus} {T : Trp} {k : Nat} (hk : k < Y.n) (h : stpB (stY Y k) = false) : gonB Y Z T = false := by
  cases e : gonB Y Z T with
  | false => rfl
  | true => have := (gon_of e).stp k hk; rw [h] at this; cases this
theorem gon_yes {Y : Wy} {Z : Cus} {T : Trp} (h1 : (great7 Y.nw Y.nl Y.x Z.nc Z.nd Z.nb T.no T.nu T.nv || decide ((30 : Int) < (Y.n : Int)) || !decide (chkY Y Z = 0) || !trpOk T) = false) (h2 : wkC Y = 0) (h3 : ∀ k, k < Y.n → stpB (stY Y k) = true) : gonB Y Z T = true := by
  unfold gonB
  rw [h1, decide_eq_true h2]
  show (true && _) = true
  rw [Bool.true_and]
  exact allB_iff.2 h3
def gonV (Y : Wy) (Z : Cus) (T : Trp) (y : Option Addr × Nat) : Value := .tuple #[.slice y.1 (gonN Y Z T) y.2, .bool (gonB Y Z T)]
def gonK (Y : Wy) (Z : Cus) (T : Trp) (y : Option Addr × Nat) : List Fact := [.own y.1 (gonN Y Z T) y.2 62 6 (fun k => stopL (stY Y k))]
theorem gon_bad {Y : Wy} {Z : Cus} {T : Trp} {w w' : World} {K : List Fact} (hw : Sat [] w K w') (h : gonB Y Z T = false) : ∃ y, Ending.returned (retV [.slice none 0 0, .bool false]) = .returned (gonV Y Z T y) ∧ Sat [] w (gonK Y Z T y) w' := by
  have e : gonN Y Z T = 0 := by unfold gonN; rw [h]; rfl
  refine ⟨(none, 0), ?_, ?_⟩
  · unfold gonV; rw [e, h]; rfl
  · unfold gonK; rw [e]; exact hw.sub (KSub.nilOwn KSub.nil)
section
variable {Y : Wy} {Z : Cus} {T : Trp} {W A L C D B O U V : Option Addr} {cw cl cn cc cd cb co cu cv : Nat} {w : World}
structure ArgIn (w : World) (Y : Wy) (Z : Cus) (T : Trp) (W A L C D B O U V : Option Addr) : Prop where
  hRW : RdR w 9 W Y.nw (fun k => wellL (Y.f k))
  hRA : RdR w 5 A Y.nl (fun k => legL (Y.x k))
  hRG : ∀ k, k < Y.nl → RdR w 4 (Y.x k).A (Y.x k).n (fun j => gateL (Y.g k j))
  hRC : RdR w 7 C Z.nc (fun k => claimL (Z.c k))
  hRD : RdR w 4 D Z.nd (fun k => feudL (Z.d k))
  hRB : RdR w 3 B Z.nb (fun k => borderL (Z.b k))
  hRO : RdR w 1 O T.no (fun k => [.int .i64 (T.o k)])
  hRU : RdR w 1 U T.nu (fun k => [.int .i64 (T.u k)])
  hRV : RdR w 1 V T.nv (fun k => [.int .i64 (T.v k)])
  hRL : RdR w 1 L Y.n (fun k => [.int .i64 (Y.ls k)])
theorem ArgIn.land (h : ArgIn w Y Z T W A L C D B O U V) (g : great7 Y.nw Y.nl Y.x Z.nc Z.nd Z.nb T.no T.nu T.nv = false) : LandIn w W Y.nw A Y.nl Y.f Y.x Y.g :=
  have q := great_all g
  ⟨q.1.1, q.1.2.1, h.hRW, h.hRA, q.1.2.2, h.hRG⟩
theorem ArgIn.cust (h : ArgIn w Y Z T W A L C D B O U V) (g : great7 Y.nw Y.nl Y.x Z.nc Z.nd Z.nb T.no T.nu T.nv = false) : CustIn w C Z.nc D Z.nd B Z.nb Z.c Z.d Z.b :=
  have q := great_all g
  ⟨q.2.1.1, q.2.1.2.1, q.2.1.2.2, h.hRC, h.hRD, h.hRB⟩
theorem ArgIn.trp (h : ArgIn w Y Z T W A L C D B O U V) (g : great7 Y.nw Y.nl Y.x Z.nc Z.nd Z.nb T.no T.nu T.nv = false) : TrpIn w T O U V :=
  have q := great_all g
  ⟨q.2.2.1, q.2.2.2.1, q.2.2.2.2, h.hRO, h.hRU, h.hRV⟩
set_option maxRecDepth 100000 in
set_option maxHeartbeats 4000000 in
theorem going_any (a : ArgIn w Y Z T W A L C D B O U V) :
    CallsK Tryz.prog 28 #[.agg (landL W Y.nw cw A Y.nl cl).toArray, .agg (custL C Z.nc cc D Z.nd cd B Z.nb cb).toArray, .agg (troopL T.hd T.wo O T.no co U T.nu cu V T.nv cv).toArray, .int .i64 Y.start, .int .i64 Y.day, .agg #[.int .i64 Y.p0, .int .i64 Y.p1], .slice L Y.n cn] [] w (Option Addr × Nat) (gonV Y Z T) (gonK Y Z T) := by
  have hRA := a.hRA
  have hRL := a.hRL
  have fK := fun (w' : World) (h1 : LandIn w' W Y.nw A Y.nl Y.f Y.x Y.g) (h2 : CustIn w' C Z.nc D Z.nd B Z.nb Z.c Z.d Z.b) => refCheck_any (cw := cw) (cl := cl) (cc := cc) (cd := cd) (cb := cb) h1 h2
  have fT := fun (w' : World) (h3 : TrpIn w' T O U V) => rTroop_any (co := co) (cu := cu) (cv := cv) h3
  have fW := fun (w' : World) (h1 : LandIn w' W Y.nw A Y.nl Y.f Y.x Y.g) (hn : Y.n ≤ 1000) (h2 : RdR w' 1 L Y.n (fun k => [.int .i64 (Y.ls k)])) => cWalk_any (cw := cw) (cl := cl) (cn := cn) h1 hn h2
  unfold landL custL at fK
  unfold troopL at fT
  unfold landL at fW
  unfold landL custL troopL
  refine K_enter (S := []) (K := []) Tryz.func28 rfl Tryz.ntmps28 rfl (Sat.start _) ?_
  refine TW.seq fun Y1 hY1 => ?_
  refine TW.region ?_
  refine TL.m Mk.bx ?_
  intro b1
  refine TL.m Mk.bx ?_
  intro b2
  refine TL.m Mk.bx ?_
  intro b3
  refine TL.m Mk.bx ?_
  intro b4
  refine TL.p Pu.as ?_
  refine TL.p Pu.as ?_
  refine TL.nil ?_
  refine TQ.thenN (hY1 _ _ ?_)
  refine TW.seq fun Y2 hY2 => ?_
  refine TW.seq fun Y3 hY3 => ?_
  refine TW.join [(40, .bool (great7 Y.nw Y.nl Y.x Z.nc Z.nd Z.nb T.no T.nu T.nv || decide ((30 : Int) < (Y.n : Int)) || !decide (chkY Y Z = 0) || !trpOk T))] ?_ (fun hJ1 => ?_)
  refine TQ.thenN (hY3 _ _ ?_)
  refine TW.cond rfl (fun hc0 => ?_) (fun hc0 => ?_)
  try simp only [decide_eq_true_eq, decide_eq_false_iff_not, Bool.not_eq_true', Bool.not_eq_false', Bool.and_eq_true, Bool.or_eq_true, Bool.and_eq_false_iff, Bool.or_eq_false_iff, Int.not_lt, Int.not_le] at hc0
  have hbad := gon_no1 (Y := Y) (Z := Z) (T := T) (by simpa using hc0)
  refine TW.seq fun Y4 hY4 => ?_
  refine TW.region ?_
  refine TL.p Pu.as ?_
  refine TL.p Pu.as ?_
  refine TL.nil ?_
  refine TQ.thenN (hY4 _ _ ?_)
  refine TW.ret ?_
  refine TQ.thenR ?_
  refine TQ.ret Tryz.results28 rfl ((.tmp rfl (.tmp rfl .nil))) ?_
  exact fun w hw => gon_bad hw hbad
  try simp only [decide_eq_true_eq, decide_eq_false_iff_not, Bool.not_eq_true', Bool.not_eq_false', Bool.and_eq_true, Bool.or_eq_true, Bool.and_eq_false_iff, Bool.or_eq_false_iff, Int.not_lt, Int.not_le] at hc0
  have hg0 : (great7 Y.nw Y.nl Y.x Z.nc Z.nd Z.nb T.no T.nu T.nv || decide ((30 : Int) < (Y.n : Int)) || !decide (chkY Y Z = 0) || !trpOk T) = false := by simpa using hc0
  have hgr : great7 Y.nw Y.nl Y.x Z.nc Z.nd Z.nb T.no T.nu T.nv = false := by rw [Bool.or_eq_false_iff, Bool.or_eq_false_iff, Bool.or_eq_false_iff] at hg0; exact hg0.1.1.1
  have hnn : Y.n ≤ 1000 := by rw [Bool.or_eq_false_iff, Bool.or_eq_false_iff, Bool.or_eq_false_iff, decide_eq_false_iff_not] at hg0; have := hg0.1.1.2; omega
  refine TW.skip ?_
  refine TQ.thenN (hY2 _ _ ?_)
  refine TW.seq fun Y5 hY5 => ?_
  refine TW.region ?_
  refine TL.p (Pu.lds ty_ag25) ?_
  refine TL.p Pu.mv ?_
  refine TL.p Pu.mv ?_
  refine TL.p (Pu.lds ty_ag35) ?_
  refine TL.p Pu.mv ?_
  refine TL.call (M := []) rfl (enters Tryz.func63 rfl rfl) (List.Perm.refl _) rfl (fun w hw => by
      exact fW _ ((a.land hgr).ext (Chg.ext hw.chg)) hnn (hRL.sat hw Apart.nil)) ?_
  rintro ⟨⟨As, cs⟩, i9⟩
  simp only [wkR, wkL, List.cons_append, List.nil_append]
  refine TL.p Pu.mv ?_
  refine TL.p Pu.ex ?_
  refine TL.p Pu.ex ?_
  refine TL.p Pu.ex ?_
  refine TL.p Pu.as ?_
  refine TL.p Pu.as ?_
  refine TL.p Pu.as ?_
  refine TL.nil ?_
  refine TQ.thenN (hY5 _ _ ?_)
  refine TW.seq fun Y6 hY6 => ?_
  refine TW.seq fun Y7 hY7 => ?_
  refine TW.region ?_
  refine TL.p Pu.mv ?_
  refine TL.p Pu.ne ?_
  refine TL.nil ?_
  refine TQ.thenN (hY7 _ _ ?_)
  refine TW.cond rfl (fun hc1 => ?_) (fun hc1 => ?_)
  try simp only [decide_eq_true_eq, decide_eq_false_iff_not, Bool.not_eq_true', Bool.not_eq_false', Bool.and_eq_true, Bool.or_eq_true, Bool.and_eq_false_iff, Bool.or_eq_false_iff, Int.not_lt, Int.not_le] at hc1
  have hbad := gon_no2 (Y := Y) (Z := Z) (T := T) hc1
  refine TW.seq fun Y8 hY8 => ?_
  refine TW.region ?_
  refine TL.p Pu.as ?_
  refine TL.p Pu.as ?_
  refine TL.nil ?_
  refine TQ.thenN (hY8 _ _ ?_)
  refine TW.ret ?_
  refine TQ.thenR ?_
  refine TQ.ret Tryz.results28 rfl ((.tmp rfl (.tmp rfl .nil))) ?_
  exact fun w hw => gon_bad hw hbad
  try simp only [decide_eq_true_eq, decide_eq_false_iff_not, Bool.not_eq_true', Bool.not_eq_false', Bool.and_eq_true, Bool.or_eq_true, Bool.and_eq_false_iff, Bool.or_eq_false_iff, Int.not_lt, Int.not_le] at hc1
  have hwz : wkC Y = 0 := by simpa using hc1
  have hwn := wkN_n hwz
  rw [hwn]
  refine TW.skip ?_
  refine TQ.thenN (hY6 _ _ ?_)
  refine TW.seq fun Y9 hY9 => ?_
  refine TW.seq fun Y10 hY10 => ?_
  refine TW.region ?_
  refine TL.p Pu.mv ?_
  refine TL.p (Pu.ln Tryz.underlying58) ?_
  refine TL.p Pu.mv ?_
  refine TL.nil ?_
  refine TQ.thenN (hY10 _ _ ?_)
  refine TW.block ?_
  refine TW.loop1 (fun (i : Nat) => [(55, .int .i64 (i : Int)), (54, .int .i64 (Y.n : Int)), (53, .slice As Y.n cs), (16, .slice As Y.n cs)]) (fun i => [.own As Y.n cs 62 6 (fun k => stopL (stY Y k))]) (fun i => i ≤ Y.n ∧ ∀ j, j < i → stpB (stY Y j) = true) (fun i => Y.n - i) 0 fs9 ?_ ?_ ?_
  exact ks9
  exact ⟨Nat.zero_le _, fun j hj => by omega⟩
  rintro i ⟨hi, hall⟩ Z0 hZ0
  refine TW.seq fun Y11 hY11 => ?_
  refine TW.region ?_
  refine TL.p Pu.lt ?_
  refine TL.nil ?_
  refine TQ.thenN (hY11 _ _ ?_)
  refine TW.seq fun Y12 hY12 => ?_
  refine TW.cond rfl (fun hc2 => ?_) (fun hc2 => ?_)
  try simp only [decide_eq_true_eq, decide_eq_false_iff_not, Bool.not_eq_true', Bool.not_eq_false', Bool.and_eq_true, Bool.or_eq_true, Bool.and_eq_false_iff, Bool.or_eq_false_iff, Int.not_lt, Int.not_le] at hc2
  have hin : i < Y.n := by omega
  refine TW.skip ?_
  refine TQ.thenN (hY12 _ _ ?_)
  refine TW.seq fun Y13 hY13 => ?_
  refine TW.block ?_
  refine TW.seq fun Y14 hY14 => ?_
  refine TW.region ?_
  refine TL.p (Pu.el ty_et58) ?_
  refine TL.p (Pu.lds ty_ag62) ?_
  refine TL.m (Mk.al ty_zr62) ?_
  intro b5
  first | refine TL.st ty_sz62 ?_ | refine TL.se ty_sz62 ?_
  refine TL.nil ?_
  refine TQ.thenN (hY14 _ _ ?_)
  refine TW.seq fun Y15 hY15 => ?_
  refine TW.join [(104, .bool (!stpB (stY Y i)))] ?_ (fun hJ2 => ?_)
  refine TQ.thenN (hY15 _ _ ?_)
  refine TW.cond rfl (fun hc3 => ?_) (fun hc3 => ?_)
  try simp only [decide_eq_true_eq, decide_eq_false_iff_not, Bool.not_eq_true', Bool.not_eq_false', Bool.and_eq_true, Bool.or_eq_true, Bool.and_eq_false_iff, Bool.or_eq_false_iff, Int.not_lt, Int.not_le] at hc3
  have hbad := gon_no3 (Y := Y) (Z := Z) (T := T) hin (by simpa using hc3)
  refine TW.seq fun Y16 hY16 => ?_
  refine TW.region ?_
  refine TL.p Pu.as ?_
  refine TL.p Pu.as ?_
  refine TL.nil ?_
  refine TQ.thenN (hY16 _ _ ?_)
  refine TW.ret ?_
  refine TQ.blkR ?_
  refine TQ.thenR ?_
  refine TQ.thenR ?_
  refine TQ.blkR ?_
  refine TQ.thenR ?_
  refine TQ.ret Tryz.results28 rfl ((.tmp rfl (.tmp rfl .nil))) ?_
  exact fun w hw => gon_bad hw hbad
  try simp only [decide_eq_true_eq, decide_eq_false_iff_not, Bool.not_eq_true', Bool.not_eq_false', Bool.and_eq_true, Bool.or_eq_true, Bool.and_eq_false_iff, Bool.or_eq_false_iff, Int.not_lt, Int.not_le] at hc3
  have hst : stpB (stY Y i) = true := by simpa using hc3
  refine TW.skip ?_
  refine TQ.blkN ?_
  refine TQ.thenN (hY13 _ _ ?_)
  refine TW.region ?_
  refine TL.p Pu.ad ?_
  refine TL.p Pu.mv ?_
  refine TL.nil ?_
  refine TQ.thenN (hZ0 (i + 1) _ _ ?_ ?_ fs9 ?_)
  exact ⟨by omega, fun j hj => (Nat.lt_succ_iff_lt_or_eq.1 hj).elim (hall j) (fun e => by rw [e]; exact hst)⟩
  exact (by first | omega | (simp only []; omega) | (simp; omega))
  exact ks9
  refine TW.region ?_
  refine TL.p (by first | exact Pu.fb ty_fa62_2 | exact Pu.fe ty_fa62_2) ?_
  refine TL.p (by first | exact Pu.fb ty_fa35_0 | exact Pu.fe ty_fa35_0) ?_
  refine TL.p (Pu.ld ty_sc3) ?_
  refine TL.p Pu.lt ?_
  refine TL.p Pu.mv ?_
  refine TL.guard (t := 63) rfl (fun hg1 => ?_) (fun hg1 => ?_)
  try simp only [decide_eq_true_eq, decide_eq_false_iff_not, Bool.not_eq_true', Bool.not_eq_false', Int.natCast_pos] at hg1
  refine TL.gs ?_
  refine TL.gs ?_
  refine TL.gs ?_
  refine TL.gs ?_
  refine TL.gs ?_
  refine TL.gs ?_
  refine TL.gs ?_
  refine TL.p Pu.kt ?_
  refine TL.p Pu.mv ?_
  refine TL.gs ?_
  refine TL.gs ?_
  refine TL.gs ?_
  refine TL.gs ?_
  refine TL.gs ?_
  refine TL.gs ?_
  refine TL.gs ?_
  refine TL.p Pu.kt ?_
  refine TL.p Pu.mv ?_
  refine TL.gs ?_
  refine TL.gs ?_
  refine TL.gs ?_
  refine TL.gs ?_
  refine TL.gs ?_
  refine TL.gs ?_
  refine TL.gs ?_
  refine TL.p Pu.kt ?_
  refine TL.p Pu.mv ?_
  refine TL.gs ?_
  refine TL.gs ?_
  refine TL.gs ?_
  refine TL.gs ?_
  refine TL.p Pu.kt ?_
  refine TL.p Pu.mv ?_
  refine TL.gs ?_
  refine TL.gs ?_
  refine TL.gs ?_
  refine TL.gs ?_
  refine TL.gs ?_
  refine TL.gs ?_
  refine TL.gs ?_
  refine TL.p Pu.kt ?_
  refine TL.nil ?_
  exact TQ.sub (by repeat (first | exact trivial | refine ⟨rfl, ?_⟩ | refine ⟨trivial, ?_⟩ | refine ⟨(by show some (Value.bool _) = some (Value.bool _); first | (simp [hg1, stpB]; done) | (refine congrArg (fun z => some (Value.bool z)) (Bool.eq_iff_iff.2 ?_); simp [hg1, stpB]; omega)), ?_⟩)) ks9 hJ2
  try simp only [decide_eq_true_eq, decide_eq_false_iff_not, Bool.not_eq_true', Bool.not_eq_false', Int.natCast_pos] at hg1
  refine TL.gd (by first | exact Pu.fb ty_fa62_2 | exact Pu.fe ty_fa62_2) ?_
  refine TL.gd (by first | exact Pu.fb ty_fa35_0 | exact Pu.fe ty_fa35_0) ?_
  refine TL.gd (Pu.ld ty_sc3) ?_
  refine TL.gd (by first | exact Pu.fb ty_fa62_2 | exact Pu.fe ty_fa62_2) ?_
  refine TL.gd (by first | exact Pu.fb ty_fa35_1 | exact Pu.fe ty_fa35_1) ?_
  refine TL.gd (Pu.ld ty_sc3) ?_
  refine TL.gd Pu.gt ?_
  refine TL.p Pu.kf ?_
  refine TL.p Pu.mv ?_
  refine TL.guard (t := 72) rfl (fun hg2 => ?_) (fun hg2 => ?_)
  try simp only [decide_eq_true_eq, decide_eq_false_iff_not, Bool.not_eq_true', Bool.not_eq_false', Int.natCast_pos] at hg2
  refine TL.gs ?_
  refine TL.gs ?_
  refine TL.gs ?_
  refine TL.gs ?_
  refine TL.gs ?_
  refine TL.gs ?_
  refine TL.gs ?_
  refine TL.p Pu.kt ?_
  refine TL.p Pu.mv ?_
  refine TL.gs ?_
  refine TL.gs ?_
  refine TL.gs ?_
  refine TL.gs ?_
  refine TL.gs ?_
  refine TL.gs ?_
  refine TL.gs ?_
  refine TL.p Pu.kt ?_
  refine TL.p Pu.mv ?_
  refine TL.gs ?_
  refine TL.gs ?_
  refine TL.gs ?_
  refine TL.gs ?_
  refine TL.p Pu.kt ?_
  refine TL.p Pu.mv ?_
  refine TL.gs ?_
  refine TL.gs ?_
  refine TL.gs ?_
  refine TL.gs ?_
  refine TL.gs ?_
  refine TL.gs ?_
  refine TL.gs ?_
  refine TL.p Pu.kt ?_
  refine TL.nil ?_
  exact TQ.sub (by repeat (first | exact trivial | refine ⟨rfl, ?_⟩ | refine ⟨trivial, ?_⟩ | refine ⟨(by show some (Value.bool _) = some (Value.bool _); first | (simp [hg1, hg2, stpB]; done) | (refine congrArg (fun z => some (Value.bool z)) (Bool.eq_iff_iff.2 ?_); simp [hg1, hg2, stpB]; omega)), ?_⟩)) ks9 hJ2
  try simp only [decide_eq_true_eq, decide_eq_false_iff_not, Bool.not_eq_true', Bool.not_eq_false', Int.natCast_pos] at hg2
  refine TL.gd (by first | exact Pu.fb ty_fa62_3 | exact Pu.fe ty_fa62_3) ?_
  refine TL.gd (by first | exact Pu.fb ty_fa35_0 | exact Pu.fe ty_fa35_0) ?_
  refine TL.gd (Pu.ld ty_sc3) ?_
  refine TL.gd (by first | exact Pu.fb ty_fa62_2 | exact Pu.fe ty_fa62_2) ?_
  refine TL.gd (by first | exact Pu.fb ty_fa35_0 | exact Pu.fe ty_fa35_0) ?_
  refine TL.gd (Pu.ld ty_sc3) ?_
  refine TL.gd Pu.le ?_
  refine TL.p Pu.kf ?_
  refine TL.p Pu.mv ?_
  refine TL.guard (t := 81) rfl (fun hg3 => ?_) (fun hg3 => ?_)
  try simp only [decide_eq_true_eq, decide_eq_false_iff_not, Bool.not_eq_true', Bool.not_eq_false', Int.natCast_pos] at hg3
  refine TL.gs ?_
  refine TL.gs ?_
  refine TL.gs ?_
  refine TL.gs ?_
  refine TL.gs ?_
  refine TL.gs ?_
  refine TL.gs ?_
  refine TL.p Pu.kt ?_
  refine TL.p Pu.mv ?_
  refine TL.gs ?_
  refine TL.gs ?_
  refine TL.gs ?_
  refine TL.gs ?_
  refine TL.p Pu.kt ?_
  refine TL.p Pu.mv ?_
  refine TL.gs ?_
  refine TL.gs ?_
  refine TL.gs ?_
  refine TL.gs ?_
  refine TL.gs ?_
  refine TL.gs ?_
  refine TL.gs ?_
  refine TL.p Pu.kt ?_
  refine TL.nil ?_
  exact TQ.sub (by repeat (first | exact trivial | refine ⟨rfl, ?_⟩ | refine ⟨trivial, ?_⟩ | refine ⟨(by show some (Value.bool _) = some (Value.bool _); first | (simp [hg1, hg2, hg3, stpB]; done) | (refine congrArg (fun z => some (Value.bool z)) (Bool.eq_iff_iff.2 ?_); simp [hg1, hg2, hg3, stpB]; omega)), ?_⟩)) ks9 hJ2
  try simp only [decide_eq_true_eq, decide_eq_false_iff_not, Bool.not_eq_true', Bool.not_eq_false', Int.natCast_pos] at hg3
  refine TL.gd (by first | exact Pu.fb ty_fa62_3 | exact Pu.fe ty_fa62_3) ?_
  refine TL.gd (by first | exact Pu.fb ty_fa35_0 | exact Pu.fe ty_fa35_0) ?_
  refine TL.gd (Pu.ld ty_sc3) ?_
  refine TL.gd (by first | exact Pu.fb ty_fa62_3 | exact Pu.fe ty_fa62_3) ?_
  refine TL.gd (by first | exact Pu.fb ty_fa35_1 | exact Pu.fe ty_fa35_1) ?_
  refine TL.gd (Pu.ld ty_sc3) ?_
  refine TL.gd Pu.gt ?_
  refine TL.p Pu.kf ?_
  refine TL.p Pu.mv ?_
  refine TL.guard (t := 90) rfl (fun hg4 => ?_) (fun hg4 => ?_)
  try simp only [decide_eq_true_eq, decide_eq_false_iff_not, Bool.not_eq_true', Bool.not_eq_false', Int.natCast_pos] at hg4
  refine TL.gs ?_
  refine TL.gs ?_
  refine TL.gs ?_
  refine TL.gs ?_
  refine TL.p Pu.kt ?_
  refine TL.p Pu.mv ?_
  refine TL.gs ?_
  refine TL.gs ?_
  refine TL.gs ?_
  refine TL.gs ?_
  refine TL.gs ?_
  refine TL.gs ?_
  refine TL.gs ?_
  refine TL.p Pu.kt ?_
  refine TL.nil ?_
  exact TQ.sub (by repeat (first | exact trivial | refine ⟨rfl, ?_⟩ | refine ⟨trivial, ?_⟩ | refine ⟨(by show some (Value.bool _) = some (Value.bool _); first | (simp [hg1, hg2, hg3, hg4, stpB]; done) | (refine congrArg (fun z => some (Value.bool z)) (Bool.eq_iff_iff.2 ?_); simp [hg1, hg2, hg3, hg4, stpB]; omega)), ?_⟩)) ks9 hJ2
  try simp only [decide_eq_true_eq, decide_eq_false_iff_not, Bool.not_eq_true', Bool.not_eq_false', Int.natCast_pos] at hg4
  refine TL.gd (by first | exact Pu.fb ty_fa62_3 | exact Pu.fe ty_fa62_3) ?_
  refine TL.gd (by first | exact Pu.fb ty_fa35_1 | exact Pu.fe ty_fa35_1) ?_
  refine TL.gd (Pu.ld ty_sc3) ?_
  refine TL.gd Pu.gt ?_
  refine TL.p Pu.kf ?_
  refine TL.p Pu.mv ?_
  refine TL.guard (t := 96) rfl (fun hg5 => ?_) (fun hg5 => ?_)
  try simp only [decide_eq_true_eq, decide_eq_false_iff_not, Bool.not_eq_true', Bool.not_eq_false', Int.natCast_pos] at hg5
  refine TL.gs ?_
  refine TL.gs ?_
  refine TL.gs ?_
  refine TL.gs ?_
  refine TL.gs ?_
  refine TL.gs ?_
  refine TL.gs ?_
  refine TL.p Pu.kt ?_
  refine TL.nil ?_
  exact TQ.sub (by repeat (first | exact trivial | refine ⟨rfl, ?_⟩ | refine ⟨trivial, ?_⟩ | refine ⟨(by show some (Value.bool _) = some (Value.bool _); first | (simp [hg1, hg2, hg3, hg4, hg5, stpB]; done) | (refine congrArg (fun z => some (Value.bool z)) (Bool.eq_iff_iff.2 ?_); simp [hg1, hg2, hg3, hg4, hg5, stpB]; omega)), ?_⟩)) ks9 hJ2
  try simp only [decide_eq_true_eq, decide_eq_false_iff_not, Bool.not_eq_true', Bool.not_eq_false', Int.natCast_pos] at hg5
  refine TL.gd (by first | exact Pu.fb ty_fa62_3 | exact Pu.fe ty_fa62_3) ?_
  refine TL.gd (by first | exact Pu.fb ty_fa35_1 | exact Pu.fe ty_fa35_1) ?_
  refine TL.gd (Pu.ld ty_sc3) ?_
  refine TL.gd (by first | exact Pu.fb ty_fa62_2 | exact Pu.fe ty_fa62_2) ?_
  refine TL.gd (by first | exact Pu.fb ty_fa35_1 | exact Pu.fe ty_fa35_1) ?_
  refine TL.gd (Pu.ld ty_sc3) ?_
  refine TL.gd Pu.le ?_
  refine TL.p Pu.kf ?_
  refine TL.nil ?_
  exact TQ.sub (by repeat (first | exact trivial | refine ⟨rfl, ?_⟩ | refine ⟨trivial, ?_⟩ | refine ⟨(by show some (Value.bool _) = some (Value.bool _); first | (simp [hg1, hg2, hg3, hg4, hg5, stpB]; done) | (refine congrArg (fun z => some (Value.bool z)) (Bool.eq_iff_iff.2 ?_); simp [hg1, hg2, hg3, hg4, hg5, stpB]; omega)), ?_⟩)) ks9 hJ2
  try simp only [decide_eq_true_eq, decide_eq_false_iff_not, Bool.not_eq_true', Bool.not_eq_false', Bool.and_eq_true, Bool.or_eq_true, Bool.and_eq_false_iff, Bool.or_eq_false_iff, Int.not_lt, Int.not_le] at hc2
  obtain rfl : i = Y.n := by omega
  refine TW.exit ?_
  refine TQ.thenX ?_
  refine TQ.thenX ?_
  refine TQ.blkX ?_
  refine TQ.thenN (hY9 _ _ ?_)
  refine TW.seq fun Y17 hY17 => ?_
  refine TW.region ?_
  refine TL.p Pu.mv ?_
  refine TL.p Pu.as ?_
  refine TL.p Pu.as ?_
  refine TL.nil ?_
  refine TQ.thenN (hY17 _ _ ?_)
  refine TW.ret ?_
  refine TQ.ret Tryz.results28 rfl ((.tmp rfl (.tmp rfl .nil))) ?_
  have hyes := gon_yes (Y := Y) (Z := Z) (T := T) hg0 hwz hall
  have e : gonN Y Z T = Y.n := if_pos hyes
  exact fun w hw => ⟨(As, cs), by unfold gonV; rw [e, hyes]; rfl, by unfold gonK; rw [e]; exact hw.sub (KSub.cons pk9 KSub.nil)⟩
  refine TW.region ?_
  refine TL.p (Pu.lds ty_ag25) ?_
  refine TL.p (Pu.lds ty_ag30) ?_
  refine TL.p (Pu.lds ty_ag33) ?_
  refine TL.cr rfl (enters Tryz.func14 rfl rfl) (fun w hw => by
      exact great7_any (hRA.sat hw Apart.nil)) ?_
  refine TL.p Pu.mv ?_
  refine TL.guard (t := 25) rfl (fun hg6 => ?_) (fun hg6 => ?_)
  try simp only [decide_eq_true_eq, decide_eq_false_iff_not, Bool.not_eq_true', Bool.not_eq_false', Int.natCast_pos] at hg6
  refine TL.gs ?_
  refine TL.gs ?_
  refine TL.gs ?_
  refine TL.p Pu.kt ?_
  refine TL.p Pu.mv ?_
  refine TL.gs ?_
  refine TL.gs ?_
  refine TL.gs ?_
  refine TL.gs ?_
  refine TL.p Pu.kt ?_
  refine TL.p Pu.mv ?_
  refine TL.gs ?_
  refine TL.gs ?_
  refine TL.gs ?_
  refine TL.p Pu.kt ?_
  refine TL.nil ?_
  exact TQ.sub (by repeat (first | exact trivial | refine ⟨rfl, ?_⟩ | refine ⟨trivial, ?_⟩ | refine ⟨(by show some (Value.bool _) = some (Value.bool _); first | (simp [hg6, chkY]; done) | (refine congrArg (fun z => some (Value.bool z)) (Bool.eq_iff_iff.2 ?_); simp [hg6, chkY]; omega)), ?_⟩)) ks9 hJ1
  try simp only [decide_eq_true_eq, decide_eq_false_iff_not, Bool.not_eq_true', Bool.not_eq_false', Int.natCast_pos] at hg6
  refine TL.gd Pu.mv ?_
  refine TL.gd (Pu.ln Tryz.underlying31) ?_
  refine TL.gd Pu.gt ?_
  refine TL.p Pu.kf ?_
  refine TL.p Pu.mv ?_
  refine TL.guard (t := 30) rfl (fun hg7 => ?_) (fun hg7 => ?_)
  try simp only [decide_eq_true_eq, decide_eq_false_iff_not, Bool.not_eq_true', Bool.not_eq_false', Int.natCast_pos] at hg7
  refine TL.gs ?_
  refine TL.gs ?_
  refine TL.gs ?_
  refine TL.gs ?_
  refine TL.p Pu.kt ?_
  refine TL.p Pu.mv ?_
  refine TL.gs ?_
  refine TL.gs ?_
  refine TL.gs ?_
  refine TL.p Pu.kt ?_
  refine TL.nil ?_
  exact TQ.sub (by repeat (first | exact trivial | refine ⟨rfl, ?_⟩ | refine ⟨trivial, ?_⟩ | refine ⟨(by show some (Value.bool _) = some (Value.bool _); first | (simp [hg6, hg7, chkY]; done) | (refine congrArg (fun z => some (Value.bool z)) (Bool.eq_iff_iff.2 ?_); simp [hg6, hg7, chkY]; omega)), ?_⟩)) ks9 hJ1
  try simp only [decide_eq_true_eq, decide_eq_false_iff_not, Bool.not_eq_true', Bool.not_eq_false', Int.natCast_pos] at hg7
  refine TL.gd (Pu.lds ty_ag25) ?_
  refine TL.gd (Pu.lds ty_ag30) ?_
  refine TL.cr rfl (enters Tryz.func35 rfl rfl) (fun w hw => by
      exact fK _ ((a.land hg6).ext (Chg.ext hw.chg)) ((a.cust hg6).ext (Chg.ext hw.chg))) ?_
  refine TL.gd Pu.ne ?_
  refine TL.p Pu.kf ?_
  refine TL.p Pu.mv ?_
  refine TL.guard (t := 36) rfl (fun hg8 => ?_) (fun hg8 => ?_)
  try simp only [decide_eq_true_eq, decide_eq_false_iff_not, Bool.not_eq_true', Bool.not_eq_false', Int.natCast_pos] at hg8
  refine TL.gs ?_
  refine TL.gs ?_
  refine TL.gs ?_
  refine TL.p Pu.kt ?_
  refine TL.nil ?_
  exact TQ.sub (by repeat (first | exact trivial | refine ⟨rfl, ?_⟩ | refine ⟨trivial, ?_⟩ | refine ⟨(by show some (Value.bool _) = some (Value.bool _); first | (simp [hg6, hg7, hg8, chkY]; done) | (refine congrArg (fun z => some (Value.bool z)) (Bool.eq_iff_iff.2 ?_); simp [hg6, hg7, hg8, chkY]; omega)), ?_⟩)) ks9 hJ1
  try simp only [decide_eq_true_eq, decide_eq_false_iff_not, Bool.not_eq_true', Bool.not_eq_false', Int.natCast_pos] at hg8
  refine TL.gd (Pu.lds ty_ag33) ?_
  refine TL.cr rfl (enters Tryz.func51 rfl rfl) (fun w hw => by
      exact fT _ ((a.trp hg6).ext (Chg.ext hw.chg))) ?_
  refine TL.gd Pu.no ?_
  refine TL.p Pu.kf ?_
  refine TL.nil ?_
  exact TQ.sub (by repeat (first | exact trivial | refine ⟨rfl, ?_⟩ | refine ⟨trivial, ?_⟩ | refine ⟨(by show some (Value.bool _) = some (Value.bool _); first | (simp [hg6, hg7, hg8, chkY]; done) | (refine congrArg (fun z => some (Value.bool z)) (Bool.eq_iff_iff.2 ?_); simp [hg6, hg7, hg8, chkY]; omega)), ?_⟩)) ks9 hJ1
end
end Go.Proofs.YtmonkjnfjgidbaaGreatDoor
namespace Go.Proofs.YtmonkjnfjgidbaaGreatDoor
set_option linter.all false
set_option linter.unusedVariables false
set_option linter.unusedSimpArgs false
theorem prs_in {f g : Nat → Int} {k : Nat} : ∀ n, k < n → f k ∈ prsL f g n ∧ g k ∈ prsL f g n
  | 0, h => by omega
  | n + 1, h => by
    simp only [prsL, List.mem_append, List.mem_cons, List.not_mem_nil, or_false]
    by_cases e : k = n
    · subst e; exact ⟨.inr (.inl rfl), .inr (.inr rfl)⟩
    · have := prs_in (f := f) (g := g) n (by omega : k < n)
      exact ⟨.inl this.1, .inl this.2⟩
section
variable {Z : Cus} {lo : Int} {k : Nat}
theorem rul_c (hk : k < Z.nc) : (Z.c k).1 2 ∈ rulZ Z lo ∧ (Z.c k).1 3 + 1 ∈ rulZ Z lo := by
  have := prs_in (f := fun k => (Z.c k).1 2) (g := fun k => (Z.c k).1 3 + 1) Z.nc hk
  unfold rulZ rulL
  simp only [List.mem_append]
  exact ⟨.inl (.inl (.inr this.1)), .inl (.inl (.inr this.2))⟩
theorem rul_d (hk : k < Z.nd) : Z.d k 2 ∈ rulZ Z lo ∧ Z.d k 3 + 1 ∈ rulZ Z lo := by
  have := prs_in (f := fun k => Z.d k 2) (g := fun k => Z.d k 3 + 1) Z.nd hk
  unfold rulZ rulL
  simp only [List.mem_append]
  exact ⟨.inl (.inr this.1), .inl (.inr this.2)⟩
theorem rul_b (hk : k < Z.nb) : Z.b k 1 ∈ rulZ Z lo ∧ Z.b k 2 + 1 ∈ rulZ Z lo := by
  have := prs_in (f := fun k => Z.b k 1) (g := fun k => Z.b k 2 + 1) Z.nb hk
  unfold rulZ rulL
  simp only [List.mem_append]
  exact ⟨.inr this.1, .inr this.2⟩
end
structure SameDay (Z : Cus) (x t : Int) : Prop where
  c : ∀ k, k < Z.nc → inB5 ((Z.c k).1 2) ((Z.c k).1 3) x = inB5 ((Z.c k).1 2) ((Z.c k).1 3) t
  d : ∀ k, k < Z.nd → inB5 (Z.d k 2) (Z.d k 3) x = inB5 (Z.d k 2) (Z.d k 3) t
  b : ∀ k, k < Z.nb → inB5 (Z.b k 1) (Z.b k 2) x = inB5 (Z.b k 1) (Z.b k 2) t
theorem day_turn {Z : Cus} {lo hi d : Int} (h1 : lo ≤ d) (h2 : d ≤ hi) : ∃ t, t ∈ tuD Z lo hi ∧ t ≤ d ∧ SameDay Z d t := by
  have hlo : lo ∈ (rulZ Z lo).filter (fun x => decide (x ≤ d)) := List.mem_filter.2 ⟨rul_lo, decide_eq_true h1⟩
  obtain ⟨hm, hx⟩ := mx_mst (List.length_pos_of_mem hlo)
  generalize mxF (fun k => ((rulZ Z lo).filter (fun x => decide (x ≤ d))).getD k 0) (((rulZ Z lo).filter (fun x => decide (x ≤ d))).length - 1) = t at hm hx
  obtain ⟨hm1, hm2⟩ := List.mem_filter.1 hm
  have hm2 := of_decide_eq_true hm2
  have hlt := hx lo hlo
  have hx : ∀ x, x ∈ rulZ Z lo → x ≤ d → x ≤ t := fun x h3 h4 => hx x (List.mem_filter.2 ⟨h3, decide_eq_true h4⟩)
  have key : ∀ {a b : Int}, a ∈ rulZ Z lo → b + 1 ∈ rulZ Z lo → inB5 a b d = inB5 a b t := fun {a b} ha hb => by
    have k1 := hx a ha
    have k2 := hx (b + 1) hb
    unfold inB5
    rw [Bool.eq_iff_iff]
    simp only [Bool.and_eq_true, decide_eq_true_eq]
    constructor
    · intro h; exact ⟨k1 h.1, by omega⟩
    · intro h
      by_cases e : b + 1 ≤ d
      · have := k2 e
        omega
      · exact ⟨by omega, by omega⟩
  refine ⟨t, ?_, hm2, fun k hk => key (rul_c hk).1 (rul_c hk).2, fun k hk => key (rul_d hk).1 (rul_d hk).2, fun k hk => key (rul_b hk).1 (rul_b hk).2⟩
  unfold tuD
  rw [tu_mem]
  refine ⟨inB_iff.2 ⟨hlt, by omega⟩, ?_⟩
  obtain ⟨j, hj, e⟩ := mem_at hm1
  exact ⟨j, hj, e⟩
theorem hb_same {leg d t : Int} {c : Nat → (Nat → Int) × Bool} : ∀ n, (∀ k, k < n → inB5 ((c k).1 2) ((c k).1 3) d = inB5 ((c k).1 2) ((c k).1 3) t) → hb leg d c n = hb leg t c n
  | 0, _ => rfl
  | n + 1, h => by
    have e := hb_same (leg := leg) n fun k hk => h k (by omega)
    simp only [hb]
    have e2 : hitB leg d (c n) = hitB leg t (c n) := by unfold hitB; rw [h n (by omega)]
    rw [e, e2]
section
variable {Z : Cus} {T : Trp} {leg d t : Int}
theorem SameDay.hol (h : SameDay Z d t) : holZ Z leg d = holZ Z leg t := hb_same _ h.c
theorem SameDay.hcl (h : SameDay Z d t) : hclZ Z leg d = hclZ Z leg t := by unfold hclZ; rw [h.hol]
theorem SameDay.pay (h : SameDay Z d t) : payZ Z T leg d = payZ Z T leg t ∧ whoZ Z leg d = whoZ Z leg t := by
  unfold payZ whoZ
  rw [h.hol, h.hcl]
  exact ⟨rfl, rfl⟩
end
section
variable {Z : Cus} {T : Trp} {s : Nat → Int}
end
end Go.Proofs.YtmonkjnfjgidbaaGreatDoor
namespace Go.Proofs.YtmonkjnfjgidbaaGreatDoor
set_option linter.all false
set_option linter.unusedVariables false
set_option linter.unusedSimpArgs false
open Go.RowKit
section
variable {Z : Cus} {T : Trp} {q : Int}
end
theorem mx0_zero {v : Nat → Int} (h : ∀ k, v k = 0) : ∀ k, mx0 v k = 0
  | 0 => rfl
  | k + 1 => by simp only [mx0]; rw [mx0_zero h k, h]; rfl
section
variable {Z : Cus} {T : Trp} {q : Int} {st : Nat → Nat → Int}
end
section
variable {Z : Cus} {T : Trp} {s : Nat}
end
section
variable {Z : Cus} {T : Trp} {Y : Wy}
end
end Go.Proofs.YtmonkjnfjgidbaaGreatDoor
namespace Go.Proofs.YtmonkjnfjgidbaaGreatDoor
set_option linter.all false
set_option linter.unusedVariables false
set_option linter.unusedSimpArgs false
open Go.RowKit
theorem mn0_at {v : Nat → Int} {j : Nat} : ∀ k, j < k → mn0 v k ≤ v j
  | 0, h => by omega
  | 1, h => by obtain rfl : j = 0 := by omega
               rw [mn_first]; omega
  | k + 2, h => by
    rw [mn_next (by omega)]
    by_cases e : j = k + 1
    · subst e; omega
    · have := mn0_at (v := v) (j := j) (k + 1) (by omega)
      omega
theorem mx0_at {v : Nat → Int} {j : Nat} : ∀ k, j < k → v j ≤ mx0 v k
  | 0, h => by omega
  | k + 1, h => by
    simp only [mx0]
    by_cases e : j = k
    · subst e; omega
    · have := mx0_at (v := v) (j := j) k (by omega)
      omega
theorem mn_mx {v : Nat → Int} : ∀ k, mn0 v k ≤ mx0 v k
  | 0 => Int.le_refl _
  | k + 1 => by
    have h1 := mn0_at (v := v) (j := k) (k + 1) (by omega)
    have h2 := mx0_at (v := v) (j := k) (k + 1) (by omega)
    omega
section
variable {Z : Cus} {T : Trp} {s : Nat → Int} {d : Int}
theorem day_sum (h1 : s 2 ≤ d) (h2 : d ≤ s 3) : sumLo Z T s ≤ payZ Z T (s 0) d ∧ payZ Z T (s 0) d ≤ sumHi Z T s := by
  obtain ⟨t, ht, _, hs⟩ := day_turn (Z := Z) h1 h2
  obtain ⟨j, hj, e⟩ := mem_at ht
  rw [(hs.pay (T := T) (leg := s 0)).1, ← e]
  exact ⟨mn0_at (v := fun j => payZ Z T (s 0) ((tuD Z (s 2) (s 3)).getD j 0)) _ hj, mx0_at (v := fun j => payZ Z T (s 0) ((tuD Z (s 2) (s 3)).getD j 0)) _ hj⟩
theorem day_trb (q : Nat) (h1 : s 2 ≤ d) (h2 : d ≤ s 3) : trbLo Z T s q ≤ onT Z T (s 0) q d ∧ onT Z T (s 0) q d ≤ trbHi Z T s q := by
  obtain ⟨t, ht, _, hs⟩ := day_turn (Z := Z) h1 h2
  obtain ⟨j, hj, e⟩ := mem_at ht
  have h9 : onT Z T (s 0) q d = onT Z T (s 0) q t := by
    unfold onT
    rw [(hs.pay (T := T) (leg := s 0)).1, (hs.pay (T := T) (leg := s 0)).2]
  rw [h9, ← e]
  exact ⟨mn0_at (v := fun j => onT Z T (s 0) q ((tuD Z (s 2) (s 3)).getD j 0)) _ hj, mx0_at (v := fun j => onT Z T (s 0) q ((tuD Z (s 2) (s 3)).getD j 0)) _ hj⟩
theorem trb_le (q : Nat) : trbLo Z T s q ≤ trbHi Z T s q := mn_mx _
theorem on_guest {leg q t : Int} (h : hasB T.v T.nv q = true) : onT Z T leg q t = 0 := by
  unfold onT
  split
  · next e =>
    unfold payZ
    unfold whoZ at e
    split
    · next hh =>
      rw [if_pos hh] at e
      rw [e, if_pos h]
    · rfl
  · rfl
theorem trb_guest {q : Nat} (h : 0 < trbHi Z T s q) : hasB T.v T.nv (q : Int) = false := by
  cases e : hasB T.v T.nv (q : Int) with
  | false => rfl
  | true =>
    have : trbHi Z T s q = 0 := mx0_zero (fun _ => on_guest e) _
    omega
end
def paidS (Z : Cus) (T : Trp) (st : Nat → Nat → Int) (d : Nat → Int) : Nat → Int
  | 0 => 0
  | i + 1 => paidS Z T st d i + payZ Z T (st i 0) (d i)
section
variable {Z : Cus} {T : Trp} {st : Nat → Nat → Int} {d : Nat → Int}
theorem paid_bd : ∀ n, (∀ i, i < n → st i 2 ≤ d i ∧ d i ≤ st i 3) → allLo Z T st n ≤ paidS Z T st d n ∧ paidS Z T st d n ≤ allHi Z T st n
  | 0, _ => ⟨Int.le_refl _, Int.le_refl _⟩
  | n + 1, h => by
    have h1 := paid_bd n fun i hi => h i (by omega)
    have h2 := day_sum (Z := Z) (T := T) (h n (by omega)).1 (h n (by omega)).2
    simp only [allLo, allHi, paidS]
    omega
theorem tolI_mem {i : Int} {lo hi : Nat → Int} {x : TlX} : ∀ p, x ∈ tolI i lo hi p → ∃ q : Nat, q < p ∧ 0 < hi q ∧ x = (i, (q : Int), lo q, hi q)
  | 0, h => by simp [tolI] at h
  | p + 1, h => by
    simp only [tolI] at h
    split at h
    · next hp =>
      rcases List.mem_append.1 h with h | h
      · obtain ⟨q, hq, e⟩ := tolI_mem p h
        exact ⟨q, by omega, e⟩
      · exact ⟨p, by omega, hp, List.mem_singleton.1 h⟩
    · obtain ⟨q, hq, e⟩ := tolI_mem p h
      exact ⟨q, by omega, e⟩
theorem tolA_mem {x : TlX} : ∀ n, x ∈ tolA Z T st n → ∃ i q : Nat, i < n ∧ q < 8 ∧ 0 < trbHi Z T (st i) q ∧ x = ((i : Int), (q : Int), trbLo Z T (st i) q, trbHi Z T (st i) q)
  | 0, h => by simp [tolA] at h
  | n + 1, h => by
    simp only [tolA] at h
    rcases List.mem_append.1 h with h | h
    · obtain ⟨i, q, hi, e⟩ := tolA_mem n h
      exact ⟨i, q, by omega, e⟩
    · obtain ⟨q, hq, h1, e⟩ := tolI_mem 8 h
      exact ⟨n, q, by omega, hq, h1, e⟩
def keyL (x y : TlX) : Prop := x.1 < y.1 ∨ (x.1 = y.1 ∧ x.2.1 < y.2.1)
theorem tolI_ord {i : Int} {lo hi : Nat → Int} : ∀ p, (tolI i lo hi p).Pairwise keyL
  | 0 => List.Pairwise.nil
  | p + 1 => by
    simp only [tolI]
    split
    · refine List.pairwise_append.2 ⟨tolI_ord p, List.pairwise_singleton _ _, fun a ha b hb => ?_⟩
      obtain ⟨q, hq, _, e⟩ := tolI_mem p ha
      rw [List.mem_singleton] at hb
      subst e hb
      exact .inr ⟨rfl, by show (q : Int) < p; omega⟩
    · exact tolI_ord p
theorem tolA_ord : ∀ n, (tolA Z T st n).Pairwise keyL
  | 0 => List.Pairwise.nil
  | n + 1 => by
    simp only [tolA]
    refine List.pairwise_append.2 ⟨tolA_ord n, tolI_ord 8, fun a ha b hb => ?_⟩
    obtain ⟨i, q, hi, _, _, e⟩ := tolA_mem n ha
    obtain ⟨p, hp, _, e2⟩ := tolI_mem 8 hb
    subst e e2
    exact .inl (by show (i : Int) < n; omega)
def tolG (L : List TlX) (k : Nat) : TlX := L.getD k (0, 0, 0, 0)
theorem tolG_mem {L : List TlX} {k : Nat} (h : k < L.length) : tolG L k ∈ L := by
  unfold tolG
  rw [List.getD_eq_getElem?_getD, List.getElem?_eq_getElem h]
  exact List.getElem_mem h
theorem tolG_ord {L : List TlX} (hp : L.Pairwise keyL) {j k : Nat} (hj : j < k) (hk : k < L.length) : keyL (tolG L j) (tolG L k) := by
  have h := (List.pairwise_iff_getElem.1 hp) j k (by omega) hk hj
  unfold tolG
  rw [List.getD_eq_getElem?_getD, List.getElem?_eq_getElem (by omega), List.getD_eq_getElem?_getD, List.getElem?_eq_getElem hk]
  exact h
def tlk (L : List TlX) (i q : Int) : Option (Int × Int) := (L.find? fun x => decide (x.1 = i ∧ x.2.1 = q)).map (·.2.2)
theorem tlk_app {L M : List TlX} {i q : Int} : tlk (L ++ M) i q = (tlk L i q).or (tlk M i q) := by
  unfold tlk
  rw [List.find?_append]
  cases L.find? fun x => decide (x.1 = i ∧ x.2.1 = q) <;> rfl
theorem tlk_none {L : List TlX} {i q : Int} (h : ∀ x, x ∈ L → ¬ (x.1 = i ∧ x.2.1 = q)) : tlk L i q = none := by
  unfold tlk
  rw [List.find?_eq_none.2 fun x hx => by rw [decide_eq_true_eq]; exact h x hx]
  rfl
theorem tlk_tolI {i : Int} {lo hi : Nat → Int} {q : Nat} : ∀ p, tlk (tolI i lo hi p) i q = if q < p ∧ 0 < hi q then some (lo q, hi q) else none
  | 0 => by rw [if_neg (by omega)]; rfl
  | p + 1 => by
    have ih := tlk_tolI (i := i) (lo := lo) (hi := hi) (q := q) p
    simp only [tolI]
    by_cases hp : 0 < hi p
    · rw [if_pos hp, tlk_app, ih]
      by_cases e : q = p
      · subst e
        rw [if_neg (by omega), if_pos ⟨by omega, hp⟩]
        unfold tlk
        simp
      · have h2 : tlk [(i, (p : Int), lo p, hi p)] i q = none := tlk_none fun x hx => by
          rw [List.mem_singleton] at hx
          subst hx
          intro h
          have := h.2
          simp only at this
          omega
        rw [h2, Option.or_none]
        by_cases h3 : q < p ∧ 0 < hi q
        · rw [if_pos h3, if_pos ⟨by omega, h3.2⟩]
        · rw [if_neg h3, if_neg (fun h4 => h3 ⟨by omega, h4.2⟩)]
    · rw [if_neg hp, ih]
      by_cases h3 : q < p ∧ 0 < hi q
      · rw [if_pos h3, if_pos ⟨by omega, h3.2⟩]
      · rw [if_neg h3, if_neg]
        rintro ⟨h4, h5⟩
        by_cases e : q = p
        · subst e; exact hp h5
        · exact h3 ⟨by omega, h5⟩
theorem tlk_tolA {i q : Nat} : ∀ n, i < n → q < 8 → tlk (tolA Z T st n) i q = if 0 < trbHi Z T (st i) q then some (trbLo Z T (st i) q, trbHi Z T (st i) q) else none
  | 0, h, _ => by omega
  | n + 1, h, hq => by
    simp only [tolA]
    rw [tlk_app]
    by_cases e : i = n
    · subst e
      have h1 : tlk (tolA Z T st i) i q = none := tlk_none fun x hx => by
        obtain ⟨j, p, hj, _, _, e⟩ := tolA_mem i hx
        subst e
        intro h
        have := h.1
        simp only at this
        omega
      rw [h1, Option.none_or, tlk_tolI]
      by_cases h3 : 0 < trbHi Z T (st i) q
      · rw [if_pos h3, if_pos ⟨hq, h3⟩]
      · rw [if_neg h3, if_neg (fun h4 => h3 h4.2)]
    · have h1 : tlk (tolI (n : Int) (trbLo Z T (st n)) (trbHi Z T (st n)) 8) i q = none := tlk_none fun x hx => by
        obtain ⟨p, _, _, e⟩ := tolI_mem 8 hx
        subst e
        intro h
        have := h.1
        simp only at this
        omega
      rw [h1, Option.or_none]
      exact tlk_tolA n (by omega) hq
theorem told_ok {i q n : Nat} {s d : Int} (hok : CusOk Z) (ht : trpOk T = true) (hi : i < n) (hq : q < 8) (h1 : st i 2 ≤ d) (h2 : d ≤ st i 3) (hs : s = onT Z T (st i 0) q d) : ((tlk (tolA Z T st n) i q).getD (0, 0)).1 ≤ s ∧ s ≤ ((tlk (tolA Z T st n) i q).getD (0, 0)).2 := by
  rw [tlk_tolA n hi hq, hs]
  have h3 := day_trb (Z := Z) (T := T) (s := st i) q h1 h2
  have h4 := onT_bd (leg := st i 0) (q := q) (t := d) hok ht
  by_cases h5 : 0 < trbHi Z T (st i) q
  · rw [if_pos h5]; exact h3
  · rw [if_neg h5]
    show (0 : Int) ≤ _ ∧ _ ≤ (0 : Int)
    omega
theorem tol_at {n k : Nat} {D : List TlX} (hD : D = tolA Z T st n) (hk : k < D.length) : (0 ≤ (tolG D k).1 ∧ (tolG D k).1 < n ∧ 0 ≤ (tolG D k).2.1 ∧ (tolG D k).2.1 < 8 ∧ 1 ≤ (tolG D k).2.2.2 ∧ (tolG D k).2.2.1 ≤ (tolG D k).2.2.2) ∧ hasB T.v T.nv (tolG D k).2.1 = false := by
  have hm := tolG_mem hk
  rw [hD] at hm
  obtain ⟨i, q, hi, hq, h1, e⟩ := tolA_mem n hm
  rw [← hD] at e
  rw [e]
  have h2 := trb_le (Z := Z) (T := T) (s := st i) q
  refine ⟨?_, trb_guest h1⟩
  simp only
  omega
theorem tol_prev {n k : Nat} {D : List TlX} (hD : D = tolA Z T st n) (h0 : 0 < k) (hk : k < D.length) : (tolG D (k - 1)).1 < (tolG D k).1 ∨ ((tolG D (k - 1)).1 = (tolG D k).1 ∧ (tolG D (k - 1)).2.1 < (tolG D k).2.1) :=
  tolG_ord (by rw [hD]; exact tolA_ord n) (by omega) hk
theorem tol_new {n k : Nat} {D : List TlX} (hD : D = tolA Z T st n) (hk : k < D.length) : tlk (D.take k) (tolG D k).1 (tolG D k).2.1 = none := tlk_none fun x hx h => by
  obtain ⟨j, hj, e⟩ := List.getElem_of_mem hx
  rw [List.length_take] at hj
  rw [List.getElem_take] at e
  have h1 := tolG_ord (L := D) (by rw [hD]; exact tolA_ord n) (show j < k by omega) hk
  have e2 : tolG D j = x := by
    unfold tolG
    rw [List.getD_eq_getElem?_getD, List.getElem?_eq_getElem (by omega)]
    exact e
  rw [e2] at h1
  unfold keyL at h1
  omega
theorem tol_take {k : Nat} {D : List TlX} (hk : k < D.length) : D.take (k + 1) = D.take k ++ [tolG D k] := by
  rw [List.take_succ, List.getElem?_eq_getElem hk]
  unfold tolG
  rw [List.getD_eq_getElem?_getD, List.getElem?_eq_getElem hk]
  rfl
end
end Go.Proofs.YtmonkjnfjgidbaaGreatDoor
namespace Go.Proofs.YtmonkjnfjgidbaaGreatDoor
set_option linter.all false
set_option linter.unusedVariables false
set_option linter.unusedSimpArgs false
open Go.RowKit
section
variable {leg day : Int} {c : Nat → (Nat → Int) × Bool}
end
section
variable {c : Nat → (Nat → Int) × Bool} {n : Nat}
end
theorem Pu.bv {c : Cx} {F : Fr} {K : List Fact} {o : Oper} {b b' : Bool} (h : Pu c F K o (.bool b)) (e : b = b') : Pu c F K o (.bool b') := e ▸ h
theorem eqIntG (d : Nat) (i j : Int) (w : World) : (Op.equalIn (d + 1) 3 (.int .i64 i) (.int .i64 j)).run Tryz.prog w = .ok (decide (i = j)) w := by
  simp only [Op.equalIn, Sem.run_bind, run_underlying Tryz.underlying3, Result.andThen_ok, if_true, Sem.run_pure]
  simp
  rw [Bool.eq_iff_iff, beq_iff_eq, decide_eq_true_eq]
theorem eqArrG (d : Nat) (i j x y : Int) (w : World) : (Op.equalIn (d + 2) 80 (.agg #[.int .i64 i, .int .i64 j]) (.agg #[.int .i64 x, .int .i64 y])).run Tryz.prog w = .ok (decide (i = x ∧ j = y)) w := by
  obtain ⟨k, z, hk, _⟩ := (ty_et31 : ElemT Tryz.prog 31 3 1 8).hi
  refine (run_equalIn_array w (d + 1) _ _ Tryz.underlying80 hk).trans ?_
  have hc : Tryz.prog.cellsOf 3 = 1 := by kernel_rfl
  have hp : Tryz.prog.plainKey 3 = true := by kernel_rfl
  rw [hc]
  by_cases h1 : i = x
  · by_cases h2 : j = y
    · subst h1 h2
      simp only [show List.range 2 = [0, 1] from rfl, Op.eqItems, Sem.run_bind, run_part_plain w hp (xs := #[.int .i64 i, .int .i64 j]) (off := 0) (v := .int .i64 i) rfl, run_part_plain w hp (xs := #[.int .i64 i, .int .i64 j]) (off := 1) (v := .int .i64 j) rfl, Result.andThen_ok, eqInt, Nat.zero_mul, Nat.one_mul, Nat.mul_one, Bool.not_true, Bool.false_eq_true, if_false, Sem.run_pure]
      simp
    · subst h1
      simp only [show List.range 2 = [0, 1] from rfl, Op.eqItems, Sem.run_bind, run_part_plain w hp (xs := #[.int .i64 i, .int .i64 j]) (off := 0) (v := .int .i64 i) rfl, run_part_plain w hp (xs := #[.int .i64 i, .int .i64 j]) (off := 1) (v := .int .i64 j) rfl, run_part_plain w hp (xs := #[.int .i64 i, .int .i64 y]) (off := 0) (v := .int .i64 i) rfl, run_part_plain w hp (xs := #[.int .i64 i, .int .i64 y]) (off := 1) (v := .int .i64 y) rfl, Result.andThen_ok, eqIntG, Nat.zero_mul, Nat.one_mul, Nat.mul_one, decide_true, decide_eq_false h2, Bool.not_true, Bool.not_false, Bool.false_eq_true, if_false, if_true, Sem.run_pure]
      simp [h2]
  · simp only [show List.range 2 = [0, 1] from rfl, Op.eqItems, Sem.run_bind, run_part_plain w hp (xs := #[.int .i64 i, .int .i64 j]) (off := 0) (v := .int .i64 i) rfl, run_part_plain w hp (xs := #[.int .i64 x, .int .i64 y]) (off := 0) (v := .int .i64 x) rfl, Result.andThen_ok, eqIntG, Nat.zero_mul, Nat.one_mul, Nat.mul_one, decide_eq_false h1, Bool.not_true, Bool.not_false, Bool.false_eq_true, if_false, if_true, Sem.run_pure]
    simp [h1]
end Go.Proofs.YtmonkjnfjgidbaaGreatDoor
namespace Go.Proofs.YtmonkjnfjgidbaaGreatDoor
set_option linter.all false
set_option linter.unusedVariables false
set_option linter.unusedSimpArgs false
open Go.RowKit Go.MapKept
def pKey (a b : Int) : Value := .agg #[.int .i64 a, .int .i64 b]
def entP : Nat → List TlX → List MapEntry
  | _, [] => []
  | s, x :: l => { key := pKey x.1 x.2.1, val := .agg #[.int .i64 x.2.2.1, .int .i64 x.2.2.2], born := s } :: entP (s + 1) l
def mapP (l : List TlX) : Obj := .map (entP 0 l).toArray l.length
theorem entP_app : ∀ (l : List TlX) (x : TlX) (s : Nat), entP s (l ++ [x]) = entP s l ++ [{ key := pKey x.1 x.2.1, val := .agg #[.int .i64 x.2.2.1, .int .i64 x.2.2.2], born := s + l.length }]
  | [], _, _ => rfl
  | y :: l, x, s => by
    simp only [List.cons_append, entP, entP_app l x (s + 1), List.length_cons]
    rw [show s + 1 + l.length = s + (l.length + 1) by omega]
def pfind (i q : Int) : Nat → List TlX → Option (Nat × Value)
  | _, [] => none
  | k, x :: l => if i = x.1 ∧ q = x.2.1 then some (k, .agg #[.int .i64 x.2.2.1, .int .i64 x.2.2.2]) else pfind i q (k + 1) l
theorem pfind_tlk {i q : Int} : ∀ (l : List TlX) (k : Nat), (pfind i q k l).map (·.2) = (tlk l i q).map fun y => .agg #[.int .i64 y.1, .int .i64 y.2]
  | [], _ => rfl
  | x :: l, k => by
    have ih := pfind_tlk (i := i) (q := q) l (k + 1)
    unfold tlk at ih ⊢
    simp only [pfind, List.find?_cons]
    by_cases h : i = x.1 ∧ q = x.2.1
    · rw [if_pos h, decide_eq_true (show x.1 = i ∧ x.2.1 = q from ⟨h.1.symm, h.2.symm⟩)]
      rfl
    · rw [if_neg h, decide_eq_false (show ¬ (x.1 = i ∧ x.2.1 = q) from fun h9 => h ⟨h9.1.symm, h9.2.symm⟩)]
      exact ih
section
variable {w : World}
theorem equalP (i q a b : Int) (w : World) : (Op.equal 80 (pKey i q) (pKey a b)).run Tryz.prog w = .ok (decide (i = a ∧ q = b)) w := eqArrG 9998 i q a b w
theorem asking_P (i q : Int) : ∀ (l : List TlX) (s k : Nat), (Instr.findAsking 80 (pKey i q) (entP s l) k).run Tryz.prog w = .ok (pfind i q k l) w
  | [], _, _ => by simp [entP, pfind, Instr.findAsking]
  | x :: l, s, k => by
    have ih := asking_P i q l (s + 1) (k + 1)
    simp only [entP, pfind, Instr.findAsking, Sem.run_bind, equalP, Result.andThen_ok]
    by_cases h : i = x.1 ∧ q = x.2.1
    · simp [h]
    · simp [h, ih]
theorem findKey_P (i q : Int) (l : List TlX) : (Instr.findKey 80 (pKey i q) (entP 0 l)).run Tryz.prog w = .ok (pfind i q 0 l) w := by
  rw [run_findKey_eq w (by kernel_rfl)]
  exact asking_P i q l 0 0
theorem checkKey_P (e : Bool) (i q : Int) (w : World) : (Instr.checkKey e 10000 80 (pKey i q)).run Tryz.prog w = .ok () w := by
  cases e <;> kernel_rfl
theorem getObj_P {b : Nat} {l : List TlX} (hb : w.heap[b]? = some (mapP l)) : (getObj b).run Tryz.prog w = .ok (.map (entP 0 l).toArray l.length) w := by
  unfold mapP at hb
  exact Go.MapKept.run_getObj_map hb
theorem setObj_P {b : Nat} {l : List TlX} (o : Obj) (hb : w.heap[b]? = some (mapP l)) : (setObj b o).run Tryz.prog w = .ok () { w with heap := w.heap.setIfInBounds b o } := by
  unfold mapP at hb
  exact Go.MapKept.run_setObj_map o hb
theorem lookup_P {b : Nat} {l : List TlX} {i q : Int} (hb : w.heap[b]? = some (mapP l)) :
    (Instr.lookup 76 (.map (some b)) (pKey i q) false).run Tryz.prog w = .ok (.agg #[.int .i64 ((tlk l i q).getD (0, 0)).1, .int .i64 ((tlk l i q).getD (0, 0)).2]) w := by
  have hl := pfind_tlk (i := i) (q := q) l 0
  have hz : (zeroValue 35).run Tryz.prog w = .ok (.agg #[.int .i64 0, .int .i64 0]) w := by kernel_rfl
  unfold Instr.lookup
  simp only [Sem.run_bind, run_underlying Tryz.underlying76, Result.andThen_ok, getObj_P hb, Sem.run_pure, checkKey_P, findKey_P]
  cases hm : pfind i q 0 l with
  | none =>
    rw [hm] at hl
    have hl' : tlk l i q = none := by simpa using hl.symm
    simp [hz, hl', Result.andThen_ok]
  | some x =>
    rw [hm] at hl
    cases hk : tlk l i q with
    | none => rw [hk] at hl; simp at hl
    | some y =>
      rw [hk] at hl
      have hl' : x.2 = .agg #[.int .i64 y.1, .int .i64 y.2] := by simpa using hl
      simp [hl', Result.andThen_ok]
theorem update_P {b : Nat} {l : List TlX} {x : TlX} (hb : w.heap[b]? = some (mapP l)) (hn : tlk l x.1 x.2.1 = none) :
    (Instr.mapUpdate 76 (.map (some b)) (pKey x.1 x.2.1) (.agg #[.int .i64 x.2.2.1, .int .i64 x.2.2.2])).run Tryz.prog w = .ok () { w with heap := w.heap.setIfInBounds b (mapP (l ++ [x])) } := by
  have hl := pfind_tlk (i := x.1) (q := x.2.1) l 0
  rw [hn] at hl
  have hm : pfind x.1 x.2.1 0 l = none := by simpa using hl
  unfold Instr.mapUpdate
  simp only [Sem.run_bind, run_underlying Tryz.underlying76, Result.andThen_ok, getObj_P hb, checkKey_P, findKey_P, hm, setObj_P _ hb]
  unfold mapP
  rw [entP_app]
  simp
end
section
variable {S : List Nat} {w0 : World} {Q : Exit → Act → World → Prop} {F F' : Fr} {K K' K0 : List Fact} {ops : Array Oper} {rest : List Oper} {d : Option Tmp} {ty : TypeId} {pos : String} {af : Array Edge} {g : Option (Nat × Bool)} {k fuel t nf : Nat} {c : Cx}
theorem TL.mup {m x y : Operand} {b : Nat} {v : TlX} {l : List TlX} (hP : c.P = Tryz.prog) (hn : tlk l v.1 v.2.1 = none) (h : TL c ops Q rest F (.obj b (mapP (l ++ [v])) :: K')) (hm : ev F m = some (.map (some b)) := by rfl) (hx : ev F x = some (pKey v.1 v.2.1) := by rfl) (hy : ev F y = some (.agg #[.int .i64 v.2.2.1, .int .i64 v.2.2.2]) := by rfl)
    (hp : Pick K (.obj b (mapP l)) K' := by repeat (first | exact Pick.hd | apply Pick.tl)) : TL c ops Q (⟨none, .mapUpdate 76 m x y, ty, pos, af, none⟩ :: rest) F K := fun a w hF hK => by
  have hs := hK.pick hp
  have hb : w.heap[b]? = some (mapP l) := (hs.holds (.obj b (mapP l)) (by simp)).1
  have hr := update_P (x := v) hb hn
  rw [← hP] at hr
  refine wpList_skip rfl (w' := { w with heap := w.heap.setIfInBounds b (mapP (l ++ [v])) }) ?_ (h a _ hF (hs.turn ?_ (by simp [Fact.foot]) (fun q hq => .inl hq) ⟨(heap_set hb).1, rfl⟩))
  · simp [execOp, hF.evl hm, hF.evl hx, hF.evl hy, hr]
  · exact ⟨rfl, rfl, rfl, by simp, fun q _ hq => (heap_set hb).2 q (by simpa [Fact.foot] using hq)⟩
theorem Pu.lkp {x y : Operand} {b : Nat} {i q : Int} {l : List TlX} (hP : c.P = Tryz.prog) (hx : ev F x = some (.map (some b)) := by rfl) (hy : ev F y = some (pKey i q) := by rfl)
    (hp : Pick K (.obj b (mapP l)) K' := by repeat (first | exact Pick.hd | apply Pick.tl)) : Pu c F K ⟨d, .lookup 76 x y false, ty, pos, af, g⟩ (.agg #[.int .i64 ((tlk l i q).getD (0, 0)).1, .int .i64 ((tlk l i q).getD (0, 0)).2]) := fun a w hF hK => by
  have hb : w.heap[b]? = some (mapP l) := (hK.holds _ hp.mem).1
  have hr := lookup_P (i := i) (q := q) hb
  rw [← hP] at hr
  simp [execOp, hF.evl hx, hF.evl hy, hr]
end
end Go.Proofs.YtmonkjnfjgidbaaGreatDoor
namespace Go.Proofs.YtmonkjnfjgidbaaGreatDoor
set_option linter.all false
set_option linter.unusedVariables false
set_option linter.unusedSimpArgs false
open Go.RowKit
theorem dueV_eq {Y : Wy} {Z : Cus} {T : Trp} : dueV Y Z T = fun y => .tuple #[.slice y.1 (dueL Y Z T).length y.2, .agg #[.int .i64 (dueLo Y Z T), .int .i64 (dueHi Y Z T)], .int .i64 (tolC Y Z T)] := rfl
theorem dueK_eq {Y : Wy} {Z : Cus} {T : Trp} : dueK Y Z T = fun y => [.own y.1 (dueL Y Z T).length y.2 78 4 (fun k => tolL ((dueL Y Z T).getD k (0, 0, 0, 0)))] := rfl
section
variable {Y : Wy} {Z : Cus} {T : Trp} {W A L C D B O U V : Option Addr} {cw cl cn cc cd cb co cu cv : Nat} {w : World}
end
end Go.Proofs.YtmonkjnfjgidbaaGreatDoor
namespace Go.Proofs.YtmonkjnfjgidbaaGreatDoor
set_option linter.all false
set_option linter.unusedVariables false
set_option linter.unusedSimpArgs false
open Go.RowKit
theorem Pu.iv {c : Cx} {F : Fr} {K : List Fact} {o : Oper} {a b : Int} {k : IntKind} (h : Pu c F K o (.int k a)) (e : a = b) : Pu c F K o (.int k b) := e ▸ h
section
variable {Y : Wy} {Z : Cus} {T : Trp} {W A L C D0 B O U V G : Option Addr} {cw cl cn cc cd cb co cu cv cg nb : Nat} {u : Nat → Int} {w : World}
set_option maxRecDepth 100000 in
set_option maxHeartbeats 8000000 in
theorem lawPaid_any (a : ArgIn w Y Z T W A L C D0 B O U V) (hRG : RdR w 1 G nb (fun k => [.int .u32 (u k)])) (hu : U32n nb u) (hG : OldB w 0 barsL) :
    Calls Tryz.prog 6 #[.agg (landL W Y.nw cw A Y.nl cl).toArray, .agg (custL C Z.nc cc D0 Z.nd cd B Z.nb cb).toArray, .agg (troopL T.hd T.wo O T.no co U T.nu cu V T.nv cv).toArray, .int .i64 Y.start, .int .i64 Y.day, .agg #[.int .i64 Y.p0, .int .i64 Y.p1], .slice L Y.n cn, .slice G nb cg] w (Ret w (.bool true)) := by
  have fG := fun (w' : World) (a' : ArgIn w' Y Z T W A L C D0 B O U V) => going_any (cw := cw) (cl := cl) (cn := cn) (cc := cc) (cd := cd) (cb := cb) (co := co) (cu := cu) (cv := cv) a'
  have aE : ∀ {w'}, Below w.heap.size w w' → ArgIn w' Y Z T W A L C D0 B O U V := fun hb => ⟨a.hRW.chg (Chg.of_ext hb) Apart.nil, a.hRA.chg (Chg.of_ext hb) Apart.nil, fun k hk => (a.hRG k hk).chg (Chg.of_ext hb) Apart.nil, a.hRC.chg (Chg.of_ext hb) Apart.nil, a.hRD.chg (Chg.of_ext hb) Apart.nil, a.hRB.chg (Chg.of_ext hb) Apart.nil, a.hRO.chg (Chg.of_ext hb) Apart.nil, a.hRU.chg (Chg.of_ext hb) Apart.nil, a.hRV.chg (Chg.of_ext hb) Apart.nil, a.hRL.chg (Chg.of_ext hb) Apart.nil⟩
  have fD := fun (w' : World) (hn : Y.n ≤ 1000) (h1 : LandIn w' W Y.nw A Y.nl Y.f Y.x Y.g) (h2 : RdR w' 1 L Y.n (fun k => [.int .i64 (Y.ls k)])) (h3 : CustIn w' C Z.nc D0 Z.nd B Z.nb Z.c Z.d Z.b) (h4 : TrpIn w' T O U V) => tollDue_any (cw := cw) (cl := cl) (cn := cn) (cc := cc) (cd := cd) (cb := cb) (co := co) (cu := cu) (cv := cv) h1 hn h2 h3 h4
  have fH := fun (w' : World) (leg day : Int) (h3 : CustIn w' C Z.nc D0 Z.nd B Z.nb Z.c Z.d Z.b) => lHost_any (cc := cc) (cd := cd) (cb := cb) leg day h3
  unfold landL custL troopL at fG fD
  unfold custL at fH
  unfold landL custL troopL
  have hRL := a.hRL
  have hRV := a.hRV
  refine K_enter (S := []) (K := []) Tryz.func6 rfl Tryz.ntmps6 rfl (Sat.start _) ?_
  refine TW.seq fun Y1 hY1 => ?_
  refine TW.region ?_
  refine TL.m Mk.bx ?_
  intro b1
  refine TL.m Mk.bx ?_
  intro b2
  refine TL.m Mk.bx ?_
  intro b3
  refine TL.m Mk.bx ?_
  intro b4
  refine TL.p Pu.as ?_
  refine TL.nil ?_
  refine TQ.thenN (hY1 _ _ ?_)
  refine TW.seq fun Y2 hY2 => ?_
  refine TW.region ?_
  refine TL.cr rfl (enters Tryz.func27 rfl rfl) (fun w hw => by
      exact alive_any (hG.ext (Chg.ext hw.chg))) ?_
  refine TL.p Pu.as ?_
  refine TL.nil ?_
  refine TQ.thenN (hY2 _ _ ?_)
  refine TW.seq fun Y3 hY3 => ?_
  refine TW.region ?_
  refine TL.p (Pu.lds ty_ag25) ?_
  refine TL.p (Pu.lds ty_ag30) ?_
  refine TL.p (Pu.lds ty_ag33) ?_
  refine TL.p Pu.mv ?_
  refine TL.p Pu.mv ?_
  refine TL.p (Pu.lds ty_ag35) ?_
  refine TL.p Pu.mv ?_
  refine TL.call (M := []) rfl (enters Tryz.func28 rfl rfl) (List.Perm.refl _) rfl (fun w hw => by
      exact fG _ (aE (Chg.ext hw.chg))) ?_
  rintro ⟨As, cs⟩
  simp only [gonV, gonK, List.cons_append, List.nil_append]
  refine TL.p Pu.mv ?_
  refine TL.p Pu.ex ?_
  refine TL.p Pu.ex ?_
  refine TL.p Pu.as ?_
  refine TL.p Pu.as ?_
  refine TL.nil ?_
  refine TQ.thenN (hY3 _ _ ?_)
  refine TW.seq fun Y4 hY4 => ?_
  refine TW.seq fun Y5 hY5 => ?_
  refine TW.join [(53, .bool (!gonB Y Z T))] ?_ (fun hJ1 => ?_)
  refine TQ.thenN (hY5 _ _ ?_)
  refine TW.cond rfl (fun hc0 => ?_) (fun hc0 => ?_)
  try simp only [decide_eq_true_eq, decide_eq_false_iff_not, Bool.not_eq_true', Bool.not_eq_false', Bool.and_eq_true, Bool.or_eq_true, Bool.and_eq_false_iff, Bool.or_eq_false_iff, Int.not_lt, Int.not_le] at hc0
  refine TW.seq fun Y6 hY6 => ?_
  refine TW.region ?_
  refine TL.p Pu.mv ?_
  refine TL.p Pu.as ?_
  refine TL.nil ?_
  refine TQ.thenN (hY6 _ _ ?_)
  refine TW.ret ?_
  refine TQ.thenR ?_
  refine TQ.ret Tryz.results6 rfl ((.tmp rfl .nil)) ?_
  exact fun w hw => Ret.of hw
  try simp only [decide_eq_true_eq, decide_eq_false_iff_not, Bool.not_eq_true', Bool.not_eq_false', Bool.and_eq_true, Bool.or_eq_true, Bool.and_eq_false_iff, Bool.or_eq_false_iff, Int.not_lt, Int.not_le] at hc0
  have hgo : gonB Y Z T = true := by simpa using hc0
  have g := gon_of hgo
  have hgn : gonN Y Z T = Y.n := if_pos hgo
  rw [hgn]
  have hn1 : Y.n ≤ 1000 := by have := g.n30; omega
  have hn30 := g.n30
  have htr := g.trp
  have hok := chk_ok g.chk
  have hto := hidT g.tol
  have hl3 := trp_lens htr
  obtain ⟨D, hD⟩ : ∃ D, D = dueL Y Z T := ⟨_, rfl⟩
  obtain ⟨lo0, hlo0⟩ : ∃ x, x = dueLo Y Z T := ⟨_, rfl⟩
  obtain ⟨hi0, hhi0⟩ : ∃ x, x = dueHi Y Z T := ⟨_, rfl⟩
  have hDA : D = tolA Z T (stY Y) Y.n := by rw [hD]; exact if_pos hto.out
  have hLA : lo0 = allLo Z T (stY Y) Y.n := by rw [hlo0]; exact if_pos hto.out
  have hHA : hi0 = allHi Z T (stY Y) Y.n := by rw [hhi0]; exact if_pos hto.out
  have hDl : D.length ≤ 1000000 := by
    rw [hDA]
    have := tolA_len (Z := Z) (T := T) (st := stY Y) Y.n
    omega
  replace hD := hidT hD
  replace hDA := hidT hDA
  replace hLA := hidT hLA
  replace hHA := hidT hHA
  replace hlo0 := hidT hlo0
  replace hhi0 := hidT hhi0
  refine TW.skip ?_
  refine TQ.thenN (hY4 _ _ ?_)
  refine TW.seq fun Y7 hY7 => ?_
  refine TW.region ?_
  refine TL.p (Pu.lds ty_ag25) ?_
  refine TL.p (Pu.lds ty_ag30) ?_
  refine TL.p (Pu.lds ty_ag33) ?_
  refine TL.p Pu.mv ?_
  refine TL.p Pu.mv ?_
  refine TL.p (Pu.lds ty_ag35) ?_
  refine TL.p Pu.mv ?_
  refine TL.call (M := []) rfl (enters Tryz.func20 rfl rfl) (List.Perm.refl _) rfl (fun w hw => by
      have h9 := fD _ hn1 ((a.land g.gr).ext (Chg.ext hw.chg)) (hRL.sat hw Apart.nil) ((a.cust g.gr).ext (Chg.ext hw.chg)) ((a.trp g.gr).ext (Chg.ext hw.chg))
      rw [dueV_eq, dueK_eq] at h9
      rw [hto.out, ← hD.out, ← hlo0.out, ← hhi0.out] at h9
      exact h9) ?_
  rintro ⟨P0, p0⟩
  simp only [List.cons_append, List.nil_append]
  refine TL.p Pu.mv ?_
  refine TL.p Pu.ex ?_
  refine TL.p Pu.ex ?_
  refine TL.p Pu.ex ?_
  refine TL.m (Mk.al ty_zr35) ?_
  intro b5
  refine TL.p Pu.as ?_
  first | refine TL.st ty_sz35 ?_ | refine TL.se ty_sz35 ?_
  refine TL.p Pu.as ?_
  refine TL.nil ?_
  refine TQ.thenN (hY7 _ _ ?_)
  refine TW.seq fun Y8 hY8 => ?_
  refine TW.seq fun Y9 hY9 => ?_
  refine TW.region ?_
  refine TL.p Pu.mv ?_
  refine TL.p Pu.ne ?_
  refine TL.nil ?_
  refine TQ.thenN (hY9 _ _ ?_)
  refine TW.condF rfl (rfl) ?_
  refine TW.skip ?_
  refine TQ.thenN (hY8 _ _ ?_)
  refine TW.seq fun Y10 hY10 => ?_
  refine TW.region ?_
  refine TL.mm (kk := .i64) ?_
  intro bM
  refine TL.p Pu.as ?_
  refine TL.nil ?_
  refine TQ.thenN (hY10 _ _ ?_)
  refine TW.seq fun Y11 hY11 => ?_
  refine TW.seq fun Y12 hY12 => ?_
  refine TW.region ?_
  refine TL.p Pu.mv ?_
  refine TL.p (Pu.ln Tryz.underlying45) ?_
  refine TL.p Pu.mv ?_
  refine TL.nil ?_
  refine TQ.thenN (hY12 _ _ ?_)
  refine TW.block ?_
  refine TW.loop2 (fun (k : Nat) (M : List TlX) => [(72, .int .i64 (k : Int)), (71, .int .i64 (D.length : Int)), (70, .slice P0 D.length p0), (17, .bool true), (18, .slice As Y.n cs), (20, .slice P0 D.length p0), (21, .pointer (some ⟨b5, 0, none⟩)), (23, .map (some bM)), (7, .slice G nb cg), (9, .pointer (some ⟨b2, 0, none⟩)), (10, .pointer (some ⟨b3, 0, none⟩))]) (fun k M => [.own P0 D.length p0 78 4 (fun k => tolL (tolG D k)), .obj bM (mapP M), .own As Y.n cs 62 6 (fun k => stopL (stY Y k)), .blk b5 35 [.int .i64 lo0, .int .i64 hi0], .blk b2 30 [.slice C Z.nc cc, .slice D0 Z.nd cd, .slice B Z.nb cb], .blk b3 33 [.int .i64 T.hd, .int .i64 T.wo, .slice O T.no co, .slice U T.nu cu, .slice V T.nv cv]]) (fun k M => k ≤ D.length ∧ M = D.take k) (fun k M => D.length - k) 0 [] fs9 ?_ ?_ ?_
  exact ks9
  exact ⟨Nat.zero_le _, rfl⟩
  rintro k M ⟨hk, hM⟩ Z0 hZ0
  have hM9 := hidT hM
  clear hM
  refine TW.seq fun Y13 hY13 => ?_
  refine TW.region ?_
  refine TL.p Pu.lt ?_
  refine TL.nil ?_
  refine TQ.thenN (hY13 _ _ ?_)
  refine TW.seq fun Y14 hY14 => ?_
  refine TW.cond rfl (fun hc2 => ?_) (fun hc2 => ?_)
  try simp only [decide_eq_true_eq, decide_eq_false_iff_not, Bool.not_eq_true', Bool.not_eq_false', Bool.and_eq_true, Bool.or_eq_true, Bool.and_eq_false_iff, Bool.or_eq_false_iff, Int.not_lt, Int.not_le] at hc2
  have hkn : k < D.length := by omega
  obtain ⟨hxa, hxg⟩ := tol_at hDA.out hkn
  have hxo : 0 < k → _ := fun h0 => tol_prev hDA.out h0 hkn
  have hxn : tlk M (tolG D k).1 (tolG D k).2.1 = none := by rw [hM9.out]; exact tol_new hDA.out hkn
  have hxt : M ++ [tolG D k] = D.take (k + 1) := by rw [hM9.out, tol_take hkn]
  replace hxt := hidT hxt
  refine TW.skip ?_
  refine TQ.thenN (hY14 _ _ ?_)
  refine TW.seq fun Y15 hY15 => ?_
  refine TW.block ?_
  refine TW.seq fun Y16 hY16 => ?_
  refine TW.region ?_
  refine TL.p Pu.mv ?_
  refine TL.p (Pu.el ty_et45) ?_
  refine TL.p (Pu.lds ty_ag78) ?_
  refine TL.m (Mk.al ty_zr78) ?_
  intro b6
  refine TL.p Pu.as ?_
  first | refine TL.st ty_sz78 ?_ | refine TL.se ty_sz78 ?_
  refine TL.nil ?_
  refine TQ.thenN (hY16 _ _ ?_)
  refine TW.seq fun Y17 hY17 => ?_
  refine TW.seq fun Y18 hY18 => ?_
  refine TW.join [(155, .bool false)] ?_ (fun hJ2 => ?_)
  refine TQ.thenN (hY18 _ _ ?_)
  refine TW.condF rfl (rfl) ?_
  refine TW.skip ?_
  refine TQ.thenN (hY17 _ _ ?_)
  refine TW.region ?_
  refine TL.p Pu.mv ?_
  refine TL.p (by first | exact Pu.fb ty_fa78_0 | exact Pu.fe ty_fa78_0) ?_
  refine TL.p (Pu.ld ty_sc3) ?_
  refine TL.p (by first | exact Pu.fb ty_fa78_1 | exact Pu.fe ty_fa78_1) ?_
  refine TL.p (Pu.ld ty_sc3) ?_
  refine TL.p Pu.bd ?_
  refine TL.p (by first | exact Pu.fb ty_fa78_2 | exact Pu.fe ty_fa78_2) ?_
  refine TL.p (Pu.lds ty_ag35) ?_
  refine TL.mup (v := tolG D k) rfl hxn ?_
  refine TL.nil ?_
  refine TQ.blkN ?_
  refine TQ.thenN (hY15 _ _ ?_)
  refine TW.region ?_
  refine TL.p Pu.ad ?_
  refine TL.p Pu.mv ?_
  refine TL.nil ?_
  refine TQ.thenN (hZ0 (k + 1) (M ++ [tolG D k]) _ _ ?_ ?_ fs9 ?_)
  exact ⟨by omega, hxt.out⟩
  exact (by first | omega | (simp only []; omega) | (simp; omega))
  exact ks9
  refine TW.dw 79 ?_
  refine RK.tk (by first | exact Pu.fb ty_fa78_0 | exact Pu.fe ty_fa78_0) ?_
  refine RK.tk (Pu.ld ty_sc3) ?_
  refine RK.tk (Pu.bv Pu.lt (decide_eq_false (by omega))) ?_
  refine RK.tk Pu.mv ?_
  refine RK.tk (by first | exact Pu.fb ty_fa78_0 | exact Pu.fe ty_fa78_0) ?_
  refine RK.tk (Pu.ld ty_sc3) ?_
  refine RK.tk Pu.mv ?_
  refine RK.tk (Pu.ln Tryz.underlying58) ?_
  refine RK.tk (Pu.bv Pu.ge (decide_eq_false (by omega))) ?_
  refine RK.tk Pu.kf ?_
  refine RK.tk Pu.mv ?_
  refine RK.tk (by first | exact Pu.fb ty_fa78_1 | exact Pu.fe ty_fa78_1) ?_
  refine RK.tk (Pu.ld ty_sc3) ?_
  refine RK.tk (Pu.bv Pu.lt (decide_eq_false (by omega))) ?_
  refine RK.tk Pu.kf ?_
  refine RK.tk Pu.mv ?_
  refine RK.tk (by first | exact Pu.fb ty_fa78_1 | exact Pu.fe ty_fa78_1) ?_
  refine RK.tk (Pu.ld ty_sc3) ?_
  refine RK.tk (Pu.bv Pu.ge (decide_eq_false (by omega))) ?_
  refine RK.tk Pu.kf ?_
  refine RK.tk Pu.mv ?_
  refine RK.tk (by first | exact Pu.fb ty_fa78_2 | exact Pu.fe ty_fa78_2) ?_
  refine RK.tk (by first | exact Pu.fb ty_fa35_1 | exact Pu.fe ty_fa35_1) ?_
  refine RK.tk (Pu.ld ty_sc3) ?_
  refine RK.tk (Pu.bv Pu.lt (decide_eq_false (by omega))) ?_
  refine RK.tk Pu.kf ?_
  refine RK.tk Pu.mv ?_
  refine RK.tk (by first | exact Pu.fb ty_fa78_2 | exact Pu.fe ty_fa78_2) ?_
  refine RK.tk (by first | exact Pu.fb ty_fa35_0 | exact Pu.fe ty_fa35_0) ?_
  refine RK.tk (Pu.ld ty_sc3) ?_
  refine RK.tk (by first | exact Pu.fb ty_fa78_2 | exact Pu.fe ty_fa78_2) ?_
  refine RK.tk (by first | exact Pu.fb ty_fa35_1 | exact Pu.fe ty_fa35_1) ?_
  refine RK.tk (Pu.ld ty_sc3) ?_
  refine RK.tk (Pu.bv Pu.gt (decide_eq_false (by omega))) ?_
  refine RK.tk Pu.kf ?_
  refine RK.tk Pu.mv ?_
  refine RK.tk (by first | exact Pu.fb ty_fa33_4 | exact Pu.fe ty_fa33_4) ?_
  refine RK.tk (Pu.ld ty_sc31) ?_
  refine RK.tk (by first | exact Pu.fb ty_fa78_1 | exact Pu.fe ty_fa78_1) ?_
  refine RK.tk (Pu.ld ty_sc3) ?_
  refine RK.keep ?_
  refine RK.keep ?_
  refine RK.keep ?_
  refine RK.keep ?_
  refine RK.keep ?_
  refine RK.keep ?_
  refine RK.keep ?_
  refine RK.keep ?_
  refine RK.keep ?_
  refine RK.keep ?_
  refine RK.keep ?_
  refine RK.keep ?_
  refine RK.keep ?_
  refine RK.keep ?_
  refine RK.keep ?_
  refine RK.keep ?_
  refine RK.keep ?_
  refine RK.keep ?_
  refine RK.keep ?_
  refine RK.keep ?_
  refine RK.keep ?_
  refine RK.keep ?_
  refine RK.keep ?_
  refine RK.keep ?_
  refine RK.keep ?_
  refine RK.keep ?_
  refine RK.keep ?_
  refine RK.keep ?_
  refine RK.keep ?_
  refine RK.keep ?_
  refine RK.keep ?_
  refine RK.keep ?_
  refine RK.keep ?_
  refine RK.keep ?_
  refine RK.keep ?_
  refine RK.keep ?_
  refine RK.keep ?_
  refine RK.keep ?_
  refine RK.keep ?_
  refine RK.ch [false, true, true, true, true, true, true, true, true, true, true, true, true, true, true, true, true, true, true, true, true, true, true, true, true, true, true, true, true, true, true, true, true, true, true, true, true, true, true] ?_ trivial
  refine WK.cr rfl (enters Tryz.func33 rfl rfl) (fun w hw => by
      have h9 := lHas_any (cp := cv) (v := T.v) (a := (tolG D k).2.1) (by omega) (hRV.sat hw Apart.nil)
      rw [hxg] at h9
      exact h9) ?_
  refine WK.p Pu.kf ?_
  refine WK.p Pu.mv ?_
  refine WK.guard (t := 119) rfl (fun hg1 => ?_) (fun hg1 => ?_)
  try simp only [decide_eq_true_eq, decide_eq_false_iff_not, Bool.not_eq_true', Bool.not_eq_false', Int.natCast_pos] at hg1
  refine WK.ps ?_
  refine WK.ps ?_
  refine WK.ps ?_
  refine WK.ps ?_
  refine WK.ps ?_
  refine WK.ps ?_
  refine WK.ps ?_
  refine WK.ps ?_
  refine WK.ps ?_
  refine WK.ps ?_
  refine WK.ps ?_
  refine WK.ps ?_
  refine WK.ps ?_
  refine WK.ps ?_
  refine WK.ps ?_
  refine WK.ps ?_
  refine WK.ps ?_
  refine WK.ps ?_
  refine WK.ps ?_
  refine WK.ps ?_
  refine WK.ps ?_
  refine WK.ps ?_
  refine WK.ps ?_
  refine WK.ps ?_
  refine WK.ps ?_
  refine WK.ps ?_
  refine WK.ps ?_
  refine WK.ps ?_
  refine WK.ps ?_
  refine WK.ps ?_
  refine WK.ps ?_
  refine WK.ps ?_
  refine WK.ps ?_
  refine WK.ps ?_
  refine WK.ps ?_
  refine WK.p Pu.kt ?_
  refine WK.n ?_
  refine TL.nil ?_
  exact TQ.sub (by repeat (first | exact trivial | refine ⟨rfl, ?_⟩ | refine ⟨trivial, ?_⟩ | refine ⟨(by show some (Value.bool _) = some (Value.bool _); first | (simp [hg1]; done) | (refine congrArg (fun z => some (Value.bool z)) (Bool.eq_iff_iff.2 ?_); simp [hg1]; omega)), ?_⟩)) ks9 hJ2
  try simp only [decide_eq_true_eq, decide_eq_false_iff_not, Bool.not_eq_true', Bool.not_eq_false', Int.natCast_pos] at hg1
  refine WK.p Pu.mv ?_
  refine WK.p Pu.gt ?_
  refine WK.p Pu.mv ?_
  refine WK.guard (t := 122) rfl (fun hg2 => ?_) (fun hg2 => ?_)
  try simp only [decide_eq_true_eq, decide_eq_false_iff_not, Bool.not_eq_true', Bool.not_eq_false', Int.natCast_pos] at hg2
  refine WK.p (by first | exact Pu.fb ty_fa78_0 | exact Pu.fe ty_fa78_0) ?_
  refine WK.p (Pu.ld ty_sc3) ?_
  refine WK.p Pu.mv ?_
  refine WK.p Pu.mv ?_
  refine WK.p Pu.sb ?_
  refine WK.p (Pu.el (q := k - 1) ty_et45 (hk := by omega)) ?_
  refine WK.p (by first | exact Pu.fb ty_fa78_0 | exact Pu.fe ty_fa78_0) ?_
  refine WK.p (Pu.ld ty_sc3) ?_
  refine WK.p Pu.lt ?_
  refine WK.p Pu.mv ?_
  refine WK.guard (t := 132) rfl (fun hg3 => ?_) (fun hg3 => ?_)
  try simp only [decide_eq_true_eq, decide_eq_false_iff_not, Bool.not_eq_true', Bool.not_eq_false', Int.natCast_pos] at hg3
  refine WK.ps ?_
  refine WK.ps ?_
  refine WK.ps ?_
  refine WK.ps ?_
  refine WK.ps ?_
  refine WK.ps ?_
  refine WK.ps ?_
  refine WK.ps ?_
  refine WK.ps ?_
  refine WK.ps ?_
  refine WK.ps ?_
  refine WK.ps ?_
  refine WK.ps ?_
  refine WK.ps ?_
  refine WK.ps ?_
  refine WK.ps ?_
  refine WK.ps ?_
  refine WK.ps ?_
  refine WK.ps ?_
  refine WK.ps ?_
  refine WK.p Pu.kt ?_
  refine WK.p Pu.kt ?_
  refine WK.p Pu.kf ?_
  refine WK.n ?_
  refine TL.nil ?_
  exact TQ.sub (by repeat (first | exact trivial | refine ⟨rfl, ?_⟩ | refine ⟨trivial, ?_⟩ | refine ⟨(by show some (Value.bool _) = some (Value.bool _); first | (simp [hg1, hg2, hg3]; done) | (refine congrArg (fun z => some (Value.bool z)) (Bool.eq_iff_iff.2 ?_); simp [hg1, hg2, hg3]; omega)), ?_⟩)) ks9 hJ2
  try simp only [decide_eq_true_eq, decide_eq_false_iff_not, Bool.not_eq_true', Bool.not_eq_false', Int.natCast_pos] at hg3
  refine WK.p (by first | exact Pu.fb ty_fa78_0 | exact Pu.fe ty_fa78_0) ?_
  refine WK.p (Pu.ld ty_sc3) ?_
  refine WK.p Pu.mv ?_
  refine WK.p Pu.mv ?_
  refine WK.p Pu.sb ?_
  refine WK.p (Pu.el (q := k - 1) ty_et45 (hk := by omega)) ?_
  refine WK.p (by first | exact Pu.fb ty_fa78_0 | exact Pu.fe ty_fa78_0) ?_
  refine WK.p (Pu.ld ty_sc3) ?_
  refine WK.p Pu.eq ?_
  refine WK.p Pu.mv ?_
  refine WK.guard (t := 142) rfl (fun hg4 => ?_) (fun hg4 => ?_)
  try simp only [decide_eq_true_eq, decide_eq_false_iff_not, Bool.not_eq_true', Bool.not_eq_false', Int.natCast_pos] at hg4
  refine WK.p (by first | exact Pu.fb ty_fa78_1 | exact Pu.fe ty_fa78_1) ?_
  refine WK.p (Pu.ld ty_sc3) ?_
  refine WK.p Pu.mv ?_
  refine WK.p Pu.mv ?_
  refine WK.p Pu.sb ?_
  refine WK.p (Pu.el (q := k - 1) ty_et45 (hk := by omega)) ?_
  refine WK.p (by first | exact Pu.fb ty_fa78_1 | exact Pu.fe ty_fa78_1) ?_
  refine WK.p (Pu.ld ty_sc3) ?_
  refine WK.p Pu.le ?_
  refine WK.p Pu.kt ?_
  refine WK.p Pu.kf ?_
  refine WK.p Pu.kt ?_
  refine WK.p Pu.kf ?_
  refine WK.n ?_
  refine TL.nil ?_
  exact TQ.sub (by repeat (first | exact trivial | refine ⟨rfl, ?_⟩ | refine ⟨trivial, ?_⟩ | refine ⟨(by show some (Value.bool _) = some (Value.bool _); first | (simp [hg1, hg2, hg3, hg4]; done) | (refine congrArg (fun z => some (Value.bool z)) (Bool.eq_iff_iff.2 ?_); simp [hg1, hg2, hg3, hg4]; omega)), ?_⟩)) ks9 hJ2
  try simp only [decide_eq_true_eq, decide_eq_false_iff_not, Bool.not_eq_true', Bool.not_eq_false', Int.natCast_pos] at hg4
  refine WK.ps ?_
  refine WK.ps ?_
  refine WK.ps ?_
  refine WK.ps ?_
  refine WK.ps ?_
  refine WK.ps ?_
  refine WK.ps ?_
  refine WK.ps ?_
  refine WK.ps ?_
  refine WK.p Pu.kf ?_
  refine WK.p Pu.kf ?_
  refine WK.p Pu.kt ?_
  refine WK.p Pu.kf ?_
  refine WK.n ?_
  refine TL.nil ?_
  exact TQ.sub (by repeat (first | exact trivial | refine ⟨rfl, ?_⟩ | refine ⟨trivial, ?_⟩ | refine ⟨(by show some (Value.bool _) = some (Value.bool _); first | (simp [hg1, hg2, hg3, hg4]; done) | (refine congrArg (fun z => some (Value.bool z)) (Bool.eq_iff_iff.2 ?_); simp [hg1, hg2, hg3, hg4]; omega)), ?_⟩)) ks9 hJ2
  try simp only [decide_eq_true_eq, decide_eq_false_iff_not, Bool.not_eq_true', Bool.not_eq_false', Int.natCast_pos] at hg2
  refine WK.ps ?_
  refine WK.ps ?_
  refine WK.ps ?_
  refine WK.ps ?_
  refine WK.ps ?_
  refine WK.ps ?_
  refine WK.ps ?_
  refine WK.ps ?_
  refine WK.ps ?_
  refine WK.ps ?_
  refine WK.ps ?_
  refine WK.ps ?_
  refine WK.ps ?_
  refine WK.ps ?_
  refine WK.ps ?_
  refine WK.ps ?_
  refine WK.ps ?_
  refine WK.ps ?_
  refine WK.ps ?_
  refine WK.ps ?_
  refine WK.ps ?_
  refine WK.ps ?_
  refine WK.ps ?_
  refine WK.ps ?_
  refine WK.ps ?_
  refine WK.ps ?_
  refine WK.ps ?_
  refine WK.ps ?_
  refine WK.ps ?_
  refine WK.ps ?_
  refine WK.ps ?_
  refine WK.p Pu.kf ?_
  refine WK.p Pu.kf ?_
  refine WK.n ?_
  refine TL.nil ?_
  exact TQ.sub (by repeat (first | exact trivial | refine ⟨rfl, ?_⟩ | refine ⟨trivial, ?_⟩ | refine ⟨(by show some (Value.bool _) = some (Value.bool _); first | (simp [hg1, hg2]; done) | (refine congrArg (fun z => some (Value.bool z)) (Bool.eq_iff_iff.2 ?_); simp [hg1, hg2]; omega)), ?_⟩)) ks9 hJ2
  try simp only [decide_eq_true_eq, decide_eq_false_iff_not, Bool.not_eq_true', Bool.not_eq_false', Bool.and_eq_true, Bool.or_eq_true, Bool.and_eq_false_iff, Bool.or_eq_false_iff, Int.not_lt, Int.not_le] at hc2
  obtain rfl : k = D.length := by omega
  obtain rfl : D = M := by rw [hM9.out, List.take_length]
  refine TW.exit ?_
  refine TQ.thenX ?_
  refine TQ.thenX ?_
  refine TQ.blkX ?_
  refine TQ.thenN (hY11 _ _ ?_)
  refine TW.seq fun Y19 hY19 => ?_
  refine TW.region ?_
  refine TL.p Pu.as ?_
  refine TL.nil ?_
  refine TQ.thenN (hY19 _ _ ?_)
  refine TW.seq fun Y20 hY20 => ?_
  refine TW.seq fun Y21 hY21 => ?_
  refine TW.region ?_
  refine TL.p Pu.mv ?_
  refine TL.p (Pu.ln Tryz.underlying58) ?_
  refine TL.p Pu.mv ?_
  refine TL.nil ?_
  refine TQ.thenN (hY21 _ _ ?_)
  refine TW.block ?_
  refine TW.loop1 (fun (i : Nat) => [(167, .int .i64 (i : Int)), (166, .int .i64 (Y.n : Int)), (165, .slice As Y.n cs), (26, .int .i64 (paidS Z T (stY Y) (fun j => insV (stY Y j 2) (stY Y j 3) (chsV nb u j)) i)), (17, .bool true), (18, .slice As Y.n cs), (20, .slice P0 D.length p0), (21, .pointer (some ⟨b5, 0, none⟩)), (23, .map (some bM)), (7, .slice G nb cg), (9, .pointer (some ⟨b2, 0, none⟩)), (10, .pointer (some ⟨b3, 0, none⟩))]) (fun i => [.obj bM (mapP D), .own As Y.n cs 62 6 (fun k => stopL (stY Y k)), .blk b5 35 [.int .i64 lo0, .int .i64 hi0], .blk b2 30 [.slice C Z.nc cc, .slice D0 Z.nd cd, .slice B Z.nb cb], .blk b3 33 [.int .i64 T.hd, .int .i64 T.wo, .slice O T.no co, .slice U T.nu cu, .slice V T.nv cv]]) (fun i => i ≤ Y.n) (fun i => Y.n - i) 0 fs9 ?_ ?_ ?_
  exact ks9
  exact Nat.zero_le _
  rintro i hi Z1 hZ1
  have hpb := paid_bd (Z := Z) (T := T) (st := stY Y) (d := fun j => insV (stY Y j 2) (stY Y j 3) (chsV nb u j)) i (fun j hj => ins_bd (stp_bd (g.stp j (by omega))).2.1)
  have hab := all_bd (st := stY Y) hok htr i
  refine TW.seq fun Y22 hY22 => ?_
  refine TW.region ?_
  refine TL.p Pu.lt ?_
  refine TL.nil ?_
  refine TQ.thenN (hY22 _ _ ?_)
  refine TW.seq fun Y23 hY23 => ?_
  refine TW.cond rfl (fun hc4 => ?_) (fun hc4 => ?_)
  try simp only [decide_eq_true_eq, decide_eq_false_iff_not, Bool.not_eq_true', Bool.not_eq_false', Bool.and_eq_true, Bool.or_eq_true, Bool.and_eq_false_iff, Bool.or_eq_false_iff, Int.not_lt, Int.not_le] at hc4
  have hin : i < Y.n := by omega
  have hs := stp_bd (g.stp i hin)
  have c1 := chs_bd hu i
  have hle := ins_bd (lo := stY Y i 2) (hi := stY Y i 3) (x := chsV nb u i) hs.2.1
  obtain ⟨d, hd⟩ : ∃ x, x = insV (stY Y i 2) (stY Y i 3) (chsV nb u i) := ⟨_, rfl⟩
  rw [← hd] at hle
  have hps : paidS Z T (stY Y) (fun j => insV (stY Y j 2) (stY Y j 3) (chsV nb u j)) (i + 1) = paidS Z T (stY Y) (fun j => insV (stY Y j 2) (stY Y j 3) (chsV nb u j)) i + payZ Z T (stY Y i 0) d := by rw [hd]; rfl
  replace hps := hidT hps
  replace hd := hidT hd
  have hpz := payZ_bd (leg := stY Y i 0) (t := d) hok htr
  have hol := hol_bd (Z := Z) (leg := stY Y i 0) (day := d)
  obtain ⟨pz, hpz9⟩ : ∃ x, x = payZ Z T (stY Y i 0) d := ⟨_, rfl⟩
  rw [← hpz9] at hpz
  replace hpz9 := hidT hpz9
  obtain ⟨ps, hps9⟩ : ∃ x, x = paidS Z T (stY Y) (fun j => insV (stY Y j 2) (stY Y j 3) (chsV nb u j)) i := ⟨_, rfl⟩
  rw [← hps9] at hpb ⊢
  replace hps9 := hidT hps9
  have hps10 := hidT (show ps + pz = paidS Z T (stY Y) (fun j => insV (stY Y j 2) (stY Y j 3) (chsV nb u j)) (i + 1) by rw [hps.out, hps9.out, hpz9.out])
  refine TW.skip ?_
  refine TQ.thenN (hY23 _ _ ?_)
  refine TW.seq fun Y24 hY24 => ?_
  refine TW.block ?_
  refine TW.seq fun Y25 hY25 => ?_
  refine TW.region ?_
  refine TL.p Pu.mv ?_
  refine TL.p (Pu.el ty_et58) ?_
  refine TL.p (Pu.lds ty_ag62) ?_
  refine TL.m (Mk.al ty_zr62) ?_
  intro b7
  refine TL.p Pu.as ?_
  first | refine TL.st ty_sz62 ?_ | refine TL.se ty_sz62 ?_
  refine TL.nil ?_
  refine TQ.thenN (hY25 _ _ ?_)
  refine TW.seq fun Y26 hY26 => ?_
  refine TW.dw 7 ?_
  refine RK.tk (by first | exact Pu.fb ty_fa62_2 | exact Pu.fe ty_fa62_2) ?_
  refine RK.tk (Pu.lds ty_ag35) ?_
  refine RK.tk Pu.mv ?_
  refine RK.tk Pu.mv ?_
  refine RK.keep ?_
  refine RK.keep ?_
  refine RK.keep ?_
  refine RK.ch [false, false, true] ?_ trivial
  refine WK.cr rfl (enters Tryz.func30 rfl rfl) (fun w hw => by
      exact choose_any i (hRG.sat hw Apart.nil)) ?_
  refine WK.cr rfl (enters Tryz.func29 rfl rfl) (fun w hw => by
      have h9 := inside_any (lo := stY Y i 2) (hi := stY Y i 3) (x := chsV nb u i) hs.1 hs.2.1 (by omega) c1
      rw [← hd.out] at h9
      exact h9 _) ?_
  refine WK.p Pu.as ?_
  refine WK.n ?_
  refine TL.nil ?_
  refine TQ.thenN (hY26 _ _ ?_)
  refine TW.seq fun Y27 hY27 => ?_
  refine TW.region ?_
  refine TL.p Pu.as ?_
  refine TL.nil ?_
  refine TQ.thenN (hY27 _ _ ?_)
  refine TW.seq fun Y28 hY28 => ?_
  refine TW.region ?_
  refine TL.p (Pu.lds ty_ag30) ?_
  refine TL.p (by first | exact Pu.fb ty_fa62_0 | exact Pu.fe ty_fa62_0) ?_
  refine TL.p (Pu.ld ty_sc3) ?_
  refine TL.p Pu.mv ?_
  refine TL.cr rfl (enters Tryz.func34 rfl rfl) (fun w hw => by
      exact fH _ (stY Y i 0) d ((a.cust g.gr).ext (Chg.ext hw.chg))) ?_
  refine TL.p Pu.mv ?_
  refine TL.p Pu.ex ?_
  refine TL.p Pu.ex ?_
  refine TL.m (Mk.al ty_zr71) ?_
  intro b8
  first | refine TL.st ty_sz71 ?_ | refine TL.se ty_sz71 ?_
  refine TL.p Pu.as ?_
  refine TL.nil ?_
  refine TQ.thenN (hY28 _ _ ?_)
  refine TW.seq fun Y29 hY29 => ?_
  refine TW.seq fun Y30 hY30 => ?_
  refine TW.join [(194, .bool (decide (0 ≤ holZ Z (stY Y i 0) d) && !hasB T.v T.nv ((hclO Z (stY Y i 0) d).1 1)))] ?_ (fun hJ3 => ?_)
  refine TQ.thenN (hY30 _ _ ?_)
  refine TW.cond rfl (fun hc5 => ?_) (fun hc5 => ?_)
  try simp only [decide_eq_true_eq, decide_eq_false_iff_not, Bool.not_eq_true', Bool.not_eq_false', Bool.and_eq_true, Bool.or_eq_true, Bool.and_eq_false_iff, Bool.or_eq_false_iff, Int.not_lt, Int.not_le] at hc5
  have hh : 0 ≤ holZ Z (stY Y i 0) d := hc5.1
  have hcz : hclO Z (stY Y i 0) d = hclZ Z (stY Y i 0) d := if_pos hh
  have hbd := hok.c (holZ Z (stY Y i 0) d).toNat (by omega)
  have hcl : Z.c (holZ Z (stY Y i 0) d).toNat = hclO Z (stY Y i 0) d := by rw [hcz]; rfl
  rw [hcl] at hbd
  have htr9 := htr
  unfold trpOk inB5 at htr9
  simp only [Bool.and_eq_true, decide_eq_true_eq] at htr9
  obtain ⟨⟨⟨⟨⟨h10, h11⟩, h12, h13⟩, _⟩, _⟩, _⟩ := htr9
  have q1 : 0 ≤ (hclO Z (stY Y i 0) d).1 4 * T.hd ∧ (hclO Z (stY Y i 0) d).1 4 * T.hd ≤ 1000000 * 1000 := ⟨Int.mul_nonneg (by omega) (by omega), Int.mul_le_mul (by omega) h11 (by omega) (by omega)⟩
  have q2 : 0 ≤ (hclO Z (stY Y i 0) d).1 5 * T.wo ∧ (hclO Z (stY Y i 0) d).1 5 * T.wo ≤ 1000 * 1000000000000 := ⟨Int.mul_nonneg (by omega) (by omega), Int.mul_le_mul (by omega) h13 (by omega) (by omega)⟩
  have hsum := hidT (show (hclO Z (stY Y i 0) d).1 4 * T.hd + ((hclO Z (stY Y i 0) d).1 5 * T.wo + 999) / 1000 = pz by rw [hpz9.out]; unfold payZ; rw [if_pos hh, ← hcz, if_neg (by rw [hc5.2]; simp)])
  refine TW.region ?_
  refine TL.p (by first | exact Pu.fb ty_fa71_4 | exact Pu.fe ty_fa71_4) ?_
  refine TL.p (Pu.ld ty_sc3) ?_
  refine TL.p (by first | exact Pu.fb ty_fa33_0 | exact Pu.fe ty_fa33_0) ?_
  refine TL.p (Pu.ld ty_sc3) ?_
  refine TL.p Pu.ml ?_
  refine TL.p (by first | exact Pu.fb ty_fa71_5 | exact Pu.fe ty_fa71_5) ?_
  refine TL.p (Pu.ld ty_sc3) ?_
  refine TL.p (by first | exact Pu.fb ty_fa33_1 | exact Pu.fe ty_fa33_1) ?_
  refine TL.p (Pu.ld ty_sc3) ?_
  refine TL.p Pu.ml ?_
  refine TL.p Pu.ad ?_
  refine TL.p Pu.qu ?_
  refine TL.p (Pu.iv Pu.ad hsum.out) ?_
  refine TL.p Pu.as ?_
  refine TL.nil ?_
  refine TQ.thenN (hY29 _ _ ?_)
  refine TW.seq fun Y31 hY31 => ?_
  refine TW.seq fun Y32 hY32 => ?_
  refine TW.region ?_
  refine TL.p Pu.mv ?_
  refine TL.nil ?_
  refine TQ.thenN (hY32 _ _ ?_)
  refine TW.block ?_
  refine TW.loop1 (fun (q : Nat) => [(208, .int .i64 (q : Int)), (30, .int .i64 pz), (29, .int .i64 d), (27, .int .i64 (i : Int)), (31, .pointer (some ⟨b8, 0, none⟩)), (32, .bool (decide (0 ≤ holZ Z (stY Y i 0) d))), (167, .int .i64 (i : Int)), (166, .int .i64 (Y.n : Int)), (165, .slice As Y.n cs), (26, .int .i64 ps), (17, .bool true), (18, .slice As Y.n cs), (20, .slice P0 D.length p0), (21, .pointer (some ⟨b5, 0, none⟩)), (23, .map (some bM)), (7, .slice G nb cg), (9, .pointer (some ⟨b2, 0, none⟩)), (10, .pointer (some ⟨b3, 0, none⟩))]) (fun q => [.blk b8 71 (claimL (hclO Z (stY Y i 0) d)), .obj bM (mapP D), .own As Y.n cs 62 6 (fun k => stopL (stY Y k)), .blk b5 35 [.int .i64 lo0, .int .i64 hi0], .blk b2 30 [.slice C Z.nc cc, .slice D0 Z.nd cd, .slice B Z.nb cb], .blk b3 33 [.int .i64 T.hd, .int .i64 T.wo, .slice O T.no co, .slice U T.nu cu, .slice V T.nv cv]]) (fun q => q ≤ 8) (fun q => 8 - q) 0 (by refine ⟨rfl, (by first | rfl | exact congrArg (fun z => some (Value.int .i64 z)) hp0.out.symm), ?_⟩; (repeat (first | exact trivial | refine ⟨rfl, ?_⟩ | refine ⟨trivial, ?_⟩))) ?_ ?_ ?_
  exact ks9
  exact Nat.zero_le _
  rintro q hq Z2 hZ2
  refine TW.seq fun Y33 hY33 => ?_
  refine TW.region ?_
  refine TL.p Pu.lt ?_
  refine TL.nil ?_
  refine TQ.thenN (hY33 _ _ ?_)
  refine TW.seq fun Y34 hY34 => ?_
  refine TW.cond rfl (fun hc6 => ?_) (fun hc6 => ?_)
  try simp only [decide_eq_true_eq, decide_eq_false_iff_not, Bool.not_eq_true', Bool.not_eq_false', Bool.and_eq_true, Bool.or_eq_true, Bool.and_eq_false_iff, Bool.or_eq_false_iff, Int.not_lt, Int.not_le] at hc6
  have hq8 : q < 8 := by omega
  refine TW.skip ?_
  refine TQ.thenN (hY34 _ _ ?_)
  refine TW.seq fun Y35 hY35 => ?_
  refine TW.block ?_
  refine TW.seq fun Y36 hY36 => ?_
  refine TW.region ?_
  refine TL.p Pu.mv ?_
  refine TL.p Pu.as ?_
  refine TL.nil ?_
  refine TQ.thenN (hY36 _ _ ?_)
  refine TW.seq fun Y37 hY37 => ?_
  refine TW.region ?_
  refine TL.p Pu.as ?_
  refine TL.nil ?_
  refine TQ.thenN (hY37 _ _ ?_)
  refine TW.seq fun Y38 hY38 => ?_
  refine TW.seq fun Y39 hY39 => ?_
  refine TW.join [(217, .bool (decide (0 ≤ holZ Z (stY Y i 0) d) && decide ((hclO Z (stY Y i 0) d).1 1 = (q : Int))))] ?_ (fun hJ4 => ?_)
  refine TQ.thenN (hY39 _ _ ?_)
  refine TW.cond rfl (fun hc7 => ?_) (fun hc7 => ?_)
  try simp only [decide_eq_true_eq, decide_eq_false_iff_not, Bool.not_eq_true', Bool.not_eq_false', Bool.and_eq_true, Bool.or_eq_true, Bool.and_eq_false_iff, Bool.or_eq_false_iff, Int.not_lt, Int.not_le] at hc7
  have how : pz = onT Z T (stY Y i 0) q d := by
    have hcz : hclO Z (stY Y i 0) d = hclZ Z (stY Y i 0) d := if_pos hc7.1
    unfold onT whoZ
    rw [if_pos hc7.1, ← hcz, if_pos hc7.2, hpz9.out]
  have htd := told_ok (Z := Z) (T := T) (st := stY Y) hok htr hin hq8 hle.1 hle.2 how
  rw [← hDA.out] at htd
  replace how := hidT how
  refine TW.region ?_
  refine TL.p Pu.mv ?_
  refine TL.p Pu.as ?_
  refine TL.nil ?_
  refine TQ.thenN (hY38 _ _ ?_)
  refine TW.seq fun Y40 hY40 => ?_
  refine TW.region ?_
  refine TL.p Pu.mv ?_
  refine TL.p Pu.mv ?_
  refine TL.p Pu.mv ?_
  refine TL.p Pu.bd ?_
  refine TL.p (Pu.lkp (i := (i : Int)) (q := (q : Int)) rfl) ?_
  refine TL.m (Mk.al ty_zr35) ?_
  intro b9
  first | refine TL.st ty_sz35 ?_ | refine TL.se ty_sz35 ?_
  refine TL.nil ?_
  refine TQ.thenN (hY40 _ _ ?_)
  refine TW.seq fun Y41 hY41 => ?_
  refine TW.join [(233, .bool false)] ?_ (fun hJ5 => ?_)
  refine TQ.thenN (hY41 _ _ ?_)
  refine TW.condF rfl (rfl) ?_
  refine TW.skip ?_
  refine TQ.blkN ?_
  refine TQ.thenN (hY35 _ _ ?_)
  refine TW.region ?_
  refine TL.p Pu.ad ?_
  refine TL.p Pu.mv ?_
  refine TL.nil ?_
  refine TQ.thenN (hZ2 (q + 1) _ _ ?_ ?_ fs9 ?_)
  exact (by omega)
  exact (by first | omega | (simp only []; omega) | (simp; omega))
  exact ks9
  refine TW.region ?_
  refine TL.p Pu.mv ?_
  refine TL.p (by first | exact Pu.fb ty_fa35_0 | exact Pu.fe ty_fa35_0) ?_
  refine TL.p (Pu.ld ty_sc3) ?_
  refine TL.p (Pu.bv Pu.lt (decide_eq_false (by omega))) ?_
  refine TL.lit (t := 227) (b' := false) rfl (rfl) ?_
  refine TL.p Pu.mv ?_
  refine TL.gd Pu.mv ?_
  refine TL.gd (by first | exact Pu.fb ty_fa35_1 | exact Pu.fe ty_fa35_1) ?_
  refine TL.gd (Pu.ld ty_sc3) ?_
  refine TL.gd (Pu.bv Pu.gt (decide_eq_false (by omega))) ?_
  refine TL.lit (t := 232) (b' := false) rfl (rfl) ?_
  refine TL.p Pu.kf ?_
  refine TL.nil ?_
  exact TQ.sub (by repeat (first | exact trivial | refine ⟨rfl, ?_⟩ | refine ⟨trivial, ?_⟩ | refine ⟨(by show some (Value.bool _) = some (Value.bool _); first | (simp []; done) | (refine congrArg (fun z => some (Value.bool z)) (Bool.eq_iff_iff.2 ?_); simp []; omega)), ?_⟩)) ks9 hJ5
  try simp only [decide_eq_true_eq, decide_eq_false_iff_not, Bool.not_eq_true', Bool.not_eq_false', Bool.and_eq_true, Bool.or_eq_true, Bool.and_eq_false_iff, Bool.or_eq_false_iff, Int.not_lt, Int.not_le] at hc7
  have how : 0 = onT Z T (stY Y i 0) q d := by
    unfold onT whoZ
    by_cases hh9 : 0 ≤ holZ Z (stY Y i 0) d
    have hcz : hclO Z (stY Y i 0) d = hclZ Z (stY Y i 0) d := if_pos hh9
    rw [if_pos hh9, ← hcz]
    rcases hc7 with h9 | h9
    exact absurd hh9 (by omega)
    rw [if_neg h9]
    rw [if_neg hh9, if_neg (by omega)]
  have htd := told_ok (Z := Z) (T := T) (st := stY Y) hok htr hin hq8 hle.1 hle.2 how
  rw [← hDA.out] at htd
  replace how := hidT how
  refine TW.skip ?_
  refine TQ.thenN (hY38 _ _ ?_)
  refine TW.seq fun Y42 hY42 => ?_
  refine TW.region ?_
  refine TL.p Pu.mv ?_
  refine TL.p Pu.mv ?_
  refine TL.p Pu.mv ?_
  refine TL.p Pu.bd ?_
  refine TL.p (Pu.lkp (i := (i : Int)) (q := (q : Int)) rfl) ?_
  refine TL.m (Mk.al ty_zr35) ?_
  intro b10
  first | refine TL.st ty_sz35 ?_ | refine TL.se ty_sz35 ?_
  refine TL.nil ?_
  refine TQ.thenN (hY42 _ _ ?_)
  refine TW.seq fun Y43 hY43 => ?_
  refine TW.join [(233, .bool false)] ?_ (fun hJ6 => ?_)
  refine TQ.thenN (hY43 _ _ ?_)
  refine TW.condF rfl (rfl) ?_
  refine TW.skip ?_
  refine TQ.blkN ?_
  refine TQ.thenN (hY35 _ _ ?_)
  refine TW.region ?_
  refine TL.p Pu.ad ?_
  refine TL.p Pu.mv ?_
  refine TL.nil ?_
  refine TQ.thenN (hZ2 (q + 1) _ _ ?_ ?_ fs9 ?_)
  exact (by omega)
  exact (by first | omega | (simp only []; omega) | (simp; omega))
  exact ks9
  refine TW.region ?_
  refine TL.p Pu.mv ?_
  refine TL.p (by first | exact Pu.fb ty_fa35_0 | exact Pu.fe ty_fa35_0) ?_
  refine TL.p (Pu.ld ty_sc3) ?_
  refine TL.p (Pu.bv Pu.lt (decide_eq_false (by omega))) ?_
  refine TL.lit (t := 227) (b' := false) rfl (rfl) ?_
  refine TL.p Pu.mv ?_
  refine TL.gd Pu.mv ?_
  refine TL.gd (by first | exact Pu.fb ty_fa35_1 | exact Pu.fe ty_fa35_1) ?_
  refine TL.gd (Pu.ld ty_sc3) ?_
  refine TL.gd (Pu.bv Pu.gt (decide_eq_false (by omega))) ?_
  refine TL.lit (t := 232) (b' := false) rfl (rfl) ?_
  refine TL.p Pu.kf ?_
  refine TL.nil ?_
  exact TQ.sub (by repeat (first | exact trivial | refine ⟨rfl, ?_⟩ | refine ⟨trivial, ?_⟩ | refine ⟨(by show some (Value.bool _) = some (Value.bool _); first | (simp []; done) | (refine congrArg (fun z => some (Value.bool z)) (Bool.eq_iff_iff.2 ?_); simp []; omega)), ?_⟩)) ks9 hJ6
  refine TW.region ?_
  refine TL.p Pu.mv ?_
  refine TL.p Pu.mv ?_
  refine TL.guard (t := 212) rfl (fun hg5 => ?_) (fun hg5 => ?_)
  try simp only [decide_eq_true_eq, decide_eq_false_iff_not, Bool.not_eq_true', Bool.not_eq_false', Int.natCast_pos] at hg5
  refine TL.gd (by first | exact Pu.fb ty_fa71_1 | exact Pu.fe ty_fa71_1) ?_
  refine TL.gd (Pu.ld ty_sc3) ?_
  refine TL.gd Pu.mv ?_
  refine TL.gd Pu.eq ?_
  refine TL.p Pu.kt ?_
  refine TL.nil ?_
  exact TQ.sub (by repeat (first | exact trivial | refine ⟨rfl, ?_⟩ | refine ⟨trivial, ?_⟩ | refine ⟨(by show some (Value.bool _) = some (Value.bool _); first | (simp [hg5]; done) | (refine congrArg (fun z => some (Value.bool z)) (Bool.eq_iff_iff.2 ?_); simp [hg5]; omega)), ?_⟩)) ks9 hJ4
  try simp only [decide_eq_true_eq, decide_eq_false_iff_not, Bool.not_eq_true', Bool.not_eq_false', Int.natCast_pos] at hg5
  refine TL.gs ?_
  refine TL.gs ?_
  refine TL.gs ?_
  refine TL.gs ?_
  refine TL.p Pu.kf ?_
  refine TL.nil ?_
  exact TQ.sub (by repeat (first | exact trivial | refine ⟨rfl, ?_⟩ | refine ⟨trivial, ?_⟩ | refine ⟨(by show some (Value.bool _) = some (Value.bool _); first | (simp [hg5]; done) | (refine congrArg (fun z => some (Value.bool z)) (Bool.eq_iff_iff.2 ?_); simp [hg5]; omega)), ?_⟩)) ks9 hJ4
  try simp only [decide_eq_true_eq, decide_eq_false_iff_not, Bool.not_eq_true', Bool.not_eq_false', Bool.and_eq_true, Bool.or_eq_true, Bool.and_eq_false_iff, Bool.or_eq_false_iff, Int.not_lt, Int.not_le] at hc6
  obtain rfl : q = 8 := by omega
  refine TW.exit ?_
  refine TQ.thenX ?_
  refine TQ.thenX ?_
  refine TQ.blkX ?_
  refine TQ.thenN (hY31 _ _ ?_)
  refine TW.region ?_
  refine TL.p Pu.mv ?_
  refine TL.p Pu.mv ?_
  refine TL.p Pu.ad ?_
  refine TL.p Pu.as ?_
  refine TL.nil ?_
  refine TQ.blkN ?_
  refine TQ.thenN (hY24 _ _ ?_)
  refine TW.region ?_
  refine TL.p Pu.ad ?_
  refine TL.p Pu.mv ?_
  refine TL.nil ?_
  refine TQ.thenN (hZ1 (i + 1) _ _ ?_ ?_ (by refine ⟨rfl, rfl, rfl, (congrArg (fun z => some (Value.int .i64 z)) hps10.out), ?_⟩; (repeat (first | exact trivial | refine ⟨rfl, ?_⟩ | refine ⟨trivial, ?_⟩))) ?_)
  exact (by omega)
  exact (by first | omega | (simp only []; omega) | (simp; omega))
  exact ks9
  try simp only [decide_eq_true_eq, decide_eq_false_iff_not, Bool.not_eq_true', Bool.not_eq_false', Bool.and_eq_true, Bool.or_eq_true, Bool.and_eq_false_iff, Bool.or_eq_false_iff, Int.not_lt, Int.not_le] at hc5
  have hp0 := hidT (show pz = 0 by
    rw [hpz9.out]
    unfold payZ
    by_cases hh : 0 ≤ holZ Z (stY Y i 0) d
    have hcz : hclO Z (stY Y i 0) d = hclZ Z (stY Y i 0) d := if_pos hh
    rw [if_pos hh, ← hcz]
    rcases hc5 with h9 | h9
    exact absurd hh (by omega)
    rw [if_pos h9]
    rw [if_neg hh])
  refine TW.skip ?_
  refine TQ.thenN (hY29 _ _ ?_)
  refine TW.seq fun Y44 hY44 => ?_
  refine TW.seq fun Y45 hY45 => ?_
  refine TW.region ?_
  refine TL.p Pu.mv ?_
  refine TL.nil ?_
  refine TQ.thenN (hY45 _ _ ?_)
  refine TW.block ?_
  refine TW.loop1 (fun (q : Nat) => [(208, .int .i64 (q : Int)), (30, .int .i64 pz), (29, .int .i64 d), (27, .int .i64 (i : Int)), (31, .pointer (some ⟨b8, 0, none⟩)), (32, .bool (decide (0 ≤ holZ Z (stY Y i 0) d))), (167, .int .i64 (i : Int)), (166, .int .i64 (Y.n : Int)), (165, .slice As Y.n cs), (26, .int .i64 ps), (17, .bool true), (18, .slice As Y.n cs), (20, .slice P0 D.length p0), (21, .pointer (some ⟨b5, 0, none⟩)), (23, .map (some bM)), (7, .slice G nb cg), (9, .pointer (some ⟨b2, 0, none⟩)), (10, .pointer (some ⟨b3, 0, none⟩))]) (fun q => [.blk b8 71 (claimL (hclO Z (stY Y i 0) d)), .obj bM (mapP D), .own As Y.n cs 62 6 (fun k => stopL (stY Y k)), .blk b5 35 [.int .i64 lo0, .int .i64 hi0], .blk b2 30 [.slice C Z.nc cc, .slice D0 Z.nd cd, .slice B Z.nb cb], .blk b3 33 [.int .i64 T.hd, .int .i64 T.wo, .slice O T.no co, .slice U T.nu cu, .slice V T.nv cv]]) (fun q => q ≤ 8) (fun q => 8 - q) 0 (by refine ⟨rfl, (by first | rfl | exact congrArg (fun z => some (Value.int .i64 z)) hp0.out.symm), ?_⟩; (repeat (first | exact trivial | refine ⟨rfl, ?_⟩ | refine ⟨trivial, ?_⟩))) ?_ ?_ ?_
  exact ks9
  exact Nat.zero_le _
  rintro q hq Z2 hZ2
  refine TW.seq fun Y46 hY46 => ?_
  refine TW.region ?_
  refine TL.p Pu.lt ?_
  refine TL.nil ?_
  refine TQ.thenN (hY46 _ _ ?_)
  refine TW.seq fun Y47 hY47 => ?_
  refine TW.cond rfl (fun hc6 => ?_) (fun hc6 => ?_)
  try simp only [decide_eq_true_eq, decide_eq_false_iff_not, Bool.not_eq_true', Bool.not_eq_false', Bool.and_eq_true, Bool.or_eq_true, Bool.and_eq_false_iff, Bool.or_eq_false_iff, Int.not_lt, Int.not_le] at hc6
  have hq8 : q < 8 := by omega
  refine TW.skip ?_
  refine TQ.thenN (hY47 _ _ ?_)
  refine TW.seq fun Y48 hY48 => ?_
  refine TW.block ?_
  refine TW.seq fun Y49 hY49 => ?_
  refine TW.region ?_
  refine TL.p Pu.mv ?_
  refine TL.p Pu.as ?_
  refine TL.nil ?_
  refine TQ.thenN (hY49 _ _ ?_)
  refine TW.seq fun Y50 hY50 => ?_
  refine TW.region ?_
  refine TL.p Pu.as ?_
  refine TL.nil ?_
  refine TQ.thenN (hY50 _ _ ?_)
  refine TW.seq fun Y51 hY51 => ?_
  refine TW.seq fun Y52 hY52 => ?_
  refine TW.join [(217, .bool (decide (0 ≤ holZ Z (stY Y i 0) d) && decide ((hclO Z (stY Y i 0) d).1 1 = (q : Int))))] ?_ (fun hJ7 => ?_)
  refine TQ.thenN (hY52 _ _ ?_)
  refine TW.cond rfl (fun hc7 => ?_) (fun hc7 => ?_)
  try simp only [decide_eq_true_eq, decide_eq_false_iff_not, Bool.not_eq_true', Bool.not_eq_false', Bool.and_eq_true, Bool.or_eq_true, Bool.and_eq_false_iff, Bool.or_eq_false_iff, Int.not_lt, Int.not_le] at hc7
  have how : pz = onT Z T (stY Y i 0) q d := by
    have hcz : hclO Z (stY Y i 0) d = hclZ Z (stY Y i 0) d := if_pos hc7.1
    unfold onT whoZ
    rw [if_pos hc7.1, ← hcz, if_pos hc7.2, hpz9.out]
  have htd := told_ok (Z := Z) (T := T) (st := stY Y) hok htr hin hq8 hle.1 hle.2 how
  rw [← hDA.out] at htd
  replace how := hidT how
  refine TW.region ?_
  refine TL.p Pu.mv ?_
  refine TL.p Pu.as ?_
  refine TL.nil ?_
  refine TQ.thenN (hY51 _ _ ?_)
  refine TW.seq fun Y53 hY53 => ?_
  refine TW.region ?_
  refine TL.p Pu.mv ?_
  refine TL.p Pu.mv ?_
  refine TL.p Pu.mv ?_
  refine TL.p Pu.bd ?_
  refine TL.p (Pu.lkp (i := (i : Int)) (q := (q : Int)) rfl) ?_
  refine TL.m (Mk.al ty_zr35) ?_
  intro b11
  first | refine TL.st ty_sz35 ?_ | refine TL.se ty_sz35 ?_
  refine TL.nil ?_
  refine TQ.thenN (hY53 _ _ ?_)
  refine TW.seq fun Y54 hY54 => ?_
  refine TW.join [(233, .bool false)] ?_ (fun hJ8 => ?_)
  refine TQ.thenN (hY54 _ _ ?_)
  refine TW.condF rfl (rfl) ?_
  refine TW.skip ?_
  refine TQ.blkN ?_
  refine TQ.thenN (hY48 _ _ ?_)
  refine TW.region ?_
  refine TL.p Pu.ad ?_
  refine TL.p Pu.mv ?_
  refine TL.nil ?_
  refine TQ.thenN (hZ2 (q + 1) _ _ ?_ ?_ fs9 ?_)
  exact (by omega)
  exact (by first | omega | (simp only []; omega) | (simp; omega))
  exact ks9
  refine TW.region ?_
  refine TL.p Pu.mv ?_
  refine TL.p (by first | exact Pu.fb ty_fa35_0 | exact Pu.fe ty_fa35_0) ?_
  refine TL.p (Pu.ld ty_sc3) ?_
  refine TL.p (Pu.bv Pu.lt (decide_eq_false (by omega))) ?_
  refine TL.lit (t := 227) (b' := false) rfl (rfl) ?_
  refine TL.p Pu.mv ?_
  refine TL.gd Pu.mv ?_
  refine TL.gd (by first | exact Pu.fb ty_fa35_1 | exact Pu.fe ty_fa35_1) ?_
  refine TL.gd (Pu.ld ty_sc3) ?_
  refine TL.gd (Pu.bv Pu.gt (decide_eq_false (by omega))) ?_
  refine TL.lit (t := 232) (b' := false) rfl (rfl) ?_
  refine TL.p Pu.kf ?_
  refine TL.nil ?_
  exact TQ.sub (by repeat (first | exact trivial | refine ⟨rfl, ?_⟩ | refine ⟨trivial, ?_⟩ | refine ⟨(by show some (Value.bool _) = some (Value.bool _); first | (simp []; done) | (refine congrArg (fun z => some (Value.bool z)) (Bool.eq_iff_iff.2 ?_); simp []; omega)), ?_⟩)) ks9 hJ8
  try simp only [decide_eq_true_eq, decide_eq_false_iff_not, Bool.not_eq_true', Bool.not_eq_false', Bool.and_eq_true, Bool.or_eq_true, Bool.and_eq_false_iff, Bool.or_eq_false_iff, Int.not_lt, Int.not_le] at hc7
  have how : 0 = onT Z T (stY Y i 0) q d := by
    unfold onT whoZ
    by_cases hh9 : 0 ≤ holZ Z (stY Y i 0) d
    have hcz : hclO Z (stY Y i 0) d = hclZ Z (stY Y i 0) d := if_pos hh9
    rw [if_pos hh9, ← hcz]
    rcases hc7 with h9 | h9
    exact absurd hh9 (by omega)
    rw [if_neg h9]
    rw [if_neg hh9, if_neg (by omega)]
  have htd := told_ok (Z := Z) (T := T) (st := stY Y) hok htr hin hq8 hle.1 hle.2 how
  rw [← hDA.out] at htd
  replace how := hidT how
  refine TW.skip ?_
  refine TQ.thenN (hY51 _ _ ?_)
  refine TW.seq fun Y55 hY55 => ?_
  refine TW.region ?_
  refine TL.p Pu.mv ?_
  refine TL.p Pu.mv ?_
  refine TL.p Pu.mv ?_
  refine TL.p Pu.bd ?_
  refine TL.p (Pu.lkp (i := (i : Int)) (q := (q : Int)) rfl) ?_
  refine TL.m (Mk.al ty_zr35) ?_
  intro b12
  first | refine TL.st ty_sz35 ?_ | refine TL.se ty_sz35 ?_
  refine TL.nil ?_
  refine TQ.thenN (hY55 _ _ ?_)
  refine TW.seq fun Y56 hY56 => ?_
  refine TW.join [(233, .bool false)] ?_ (fun hJ9 => ?_)
  refine TQ.thenN (hY56 _ _ ?_)
  refine TW.condF rfl (rfl) ?_
  refine TW.skip ?_
  refine TQ.blkN ?_
  refine TQ.thenN (hY48 _ _ ?_)
  refine TW.region ?_
  refine TL.p Pu.ad ?_
  refine TL.p Pu.mv ?_
  refine TL.nil ?_
  refine TQ.thenN (hZ2 (q + 1) _ _ ?_ ?_ fs9 ?_)
  exact (by omega)
  exact (by first | omega | (simp only []; omega) | (simp; omega))
  exact ks9
  refine TW.region ?_
  refine TL.p Pu.mv ?_
  refine TL.p (by first | exact Pu.fb ty_fa35_0 | exact Pu.fe ty_fa35_0) ?_
  refine TL.p (Pu.ld ty_sc3) ?_
  refine TL.p (Pu.bv Pu.lt (decide_eq_false (by omega))) ?_
  refine TL.lit (t := 227) (b' := false) rfl (rfl) ?_
  refine TL.p Pu.mv ?_
  refine TL.gd Pu.mv ?_
  refine TL.gd (by first | exact Pu.fb ty_fa35_1 | exact Pu.fe ty_fa35_1) ?_
  refine TL.gd (Pu.ld ty_sc3) ?_
  refine TL.gd (Pu.bv Pu.gt (decide_eq_false (by omega))) ?_
  refine TL.lit (t := 232) (b' := false) rfl (rfl) ?_
  refine TL.p Pu.kf ?_
  refine TL.nil ?_
  exact TQ.sub (by repeat (first | exact trivial | refine ⟨rfl, ?_⟩ | refine ⟨trivial, ?_⟩ | refine ⟨(by show some (Value.bool _) = some (Value.bool _); first | (simp []; done) | (refine congrArg (fun z => some (Value.bool z)) (Bool.eq_iff_iff.2 ?_); simp []; omega)), ?_⟩)) ks9 hJ9
  refine TW.region ?_
  refine TL.p Pu.mv ?_
  refine TL.p Pu.mv ?_
  refine TL.guard (t := 212) rfl (fun hg6 => ?_) (fun hg6 => ?_)
  try simp only [decide_eq_true_eq, decide_eq_false_iff_not, Bool.not_eq_true', Bool.not_eq_false', Int.natCast_pos] at hg6
  refine TL.gd (by first | exact Pu.fb ty_fa71_1 | exact Pu.fe ty_fa71_1) ?_
  refine TL.gd (Pu.ld ty_sc3) ?_
  refine TL.gd Pu.mv ?_
  refine TL.gd Pu.eq ?_
  refine TL.p Pu.kt ?_
  refine TL.nil ?_
  exact TQ.sub (by repeat (first | exact trivial | refine ⟨rfl, ?_⟩ | refine ⟨trivial, ?_⟩ | refine ⟨(by show some (Value.bool _) = some (Value.bool _); first | (simp [hg6]; done) | (refine congrArg (fun z => some (Value.bool z)) (Bool.eq_iff_iff.2 ?_); simp [hg6]; omega)), ?_⟩)) ks9 hJ7
  try simp only [decide_eq_true_eq, decide_eq_false_iff_not, Bool.not_eq_true', Bool.not_eq_false', Int.natCast_pos] at hg6
  refine TL.gs ?_
  refine TL.gs ?_
  refine TL.gs ?_
  refine TL.gs ?_
  refine TL.p Pu.kf ?_
  refine TL.nil ?_
  exact TQ.sub (by repeat (first | exact trivial | refine ⟨rfl, ?_⟩ | refine ⟨trivial, ?_⟩ | refine ⟨(by show some (Value.bool _) = some (Value.bool _); first | (simp [hg6]; done) | (refine congrArg (fun z => some (Value.bool z)) (Bool.eq_iff_iff.2 ?_); simp [hg6]; omega)), ?_⟩)) ks9 hJ7
  try simp only [decide_eq_true_eq, decide_eq_false_iff_not, Bool.not_eq_true', Bool.not_eq_false', Bool.and_eq_true, Bool.or_eq_true, Bool.and_eq_false_iff, Bool.or_eq_false_iff, Int.not_lt, Int.not_le] at hc6
  obtain rfl : q = 8 := by omega
  refine TW.exit ?_
  refine TQ.thenX ?_
  refine TQ.thenX ?_
  refine TQ.blkX ?_
  refine TQ.thenN (hY44 _ _ ?_)
  refine TW.region ?_
  refine TL.p Pu.mv ?_
  refine TL.p Pu.mv ?_
  refine TL.p Pu.ad ?_
  refine TL.p Pu.as ?_
  refine TL.nil ?_
  refine TQ.blkN ?_
  refine TQ.thenN (hY24 _ _ ?_)
  refine TW.region ?_
  refine TL.p Pu.ad ?_
  refine TL.p Pu.mv ?_
  refine TL.nil ?_
  refine TQ.thenN (hZ1 (i + 1) _ _ ?_ ?_ (by refine ⟨rfl, rfl, rfl, (congrArg (fun z => some (Value.int .i64 z)) hps10.out), ?_⟩; (repeat (first | exact trivial | refine ⟨rfl, ?_⟩ | refine ⟨trivial, ?_⟩))) ?_)
  exact (by omega)
  exact (by first | omega | (simp only []; omega) | (simp; omega))
  exact ks9
  refine TW.region ?_
  refine TL.p Pu.mv ?_
  refine TL.p Pu.mv ?_
  refine TL.guard (t := 187) rfl (fun hg7 => ?_) (fun hg7 => ?_)
  try simp only [decide_eq_true_eq, decide_eq_false_iff_not, Bool.not_eq_true', Bool.not_eq_false', Int.natCast_pos] at hg7
  refine TL.gd (by first | exact Pu.fb ty_fa33_4 | exact Pu.fe ty_fa33_4) ?_
  refine TL.gd (Pu.ld ty_sc31) ?_
  refine TL.gd (by first | exact Pu.fb ty_fa71_1 | exact Pu.fe ty_fa71_1) ?_
  refine TL.gd (Pu.ld ty_sc3) ?_
  refine TL.cr rfl (enters Tryz.func33 rfl rfl) (fun w hw => by
      exact lHas_any (cp := cv) (v := T.v) (by omega) (hRV.sat hw Apart.nil)) ?_
  refine TL.gd Pu.no ?_
  refine TL.p Pu.kt ?_
  refine TL.nil ?_
  exact TQ.sub (by repeat (first | exact trivial | refine ⟨rfl, ?_⟩ | refine ⟨trivial, ?_⟩ | refine ⟨(by show some (Value.bool _) = some (Value.bool _); first | (simp [hg7]; done) | (refine congrArg (fun z => some (Value.bool z)) (Bool.eq_iff_iff.2 ?_); simp [hg7]; omega)), ?_⟩)) ks9 hJ3
  try simp only [decide_eq_true_eq, decide_eq_false_iff_not, Bool.not_eq_true', Bool.not_eq_false', Int.natCast_pos] at hg7
  refine TL.gs ?_
  refine TL.gs ?_
  refine TL.gs ?_
  refine TL.gs ?_
  refine TL.gs ?_
  refine TL.gs ?_
  refine TL.p Pu.kf ?_
  refine TL.nil ?_
  exact TQ.sub (by repeat (first | exact trivial | refine ⟨rfl, ?_⟩ | refine ⟨trivial, ?_⟩ | refine ⟨(by show some (Value.bool _) = some (Value.bool _); first | (simp [hg7]; done) | (refine congrArg (fun z => some (Value.bool z)) (Bool.eq_iff_iff.2 ?_); simp [hg7]; omega)), ?_⟩)) ks9 hJ3
  try simp only [decide_eq_true_eq, decide_eq_false_iff_not, Bool.not_eq_true', Bool.not_eq_false', Bool.and_eq_true, Bool.or_eq_true, Bool.and_eq_false_iff, Bool.or_eq_false_iff, Int.not_lt, Int.not_le] at hc4
  obtain rfl : i = Y.n := by omega
  rw [← hLA.out, ← hHA.out] at hpb
  obtain ⟨ps, hps9⟩ : ∃ x, x = paidS Z T (stY Y) (fun j => insV (stY Y j 2) (stY Y j 3) (chsV nb u j)) Y.n := ⟨_, rfl⟩
  rw [← hps9] at hpb ⊢
  refine TW.exit ?_
  refine TQ.thenX ?_
  refine TQ.thenX ?_
  refine TQ.blkX ?_
  refine TQ.thenN (hY20 _ _ ?_)
  refine TW.seq fun Y57 hY57 => ?_
  refine TW.join [(16, .bool true)] ?_ (fun hJ10 => ?_)
  refine TQ.thenN (hY57 _ _ ?_)
  refine TW.ret ?_
  refine TQ.ret Tryz.results6 rfl ((.tmp rfl .nil)) ?_
  exact fun w hw => Ret.of hw
  refine TW.region ?_
  refine TL.p Pu.mv ?_
  refine TL.p Pu.mv ?_
  refine TL.lit (t := 240) (b' := true) rfl (rfl) ?_
  refine TL.gd Pu.mv ?_
  refine TL.gd (by first | exact Pu.fb ty_fa35_0 | exact Pu.fe ty_fa35_0) ?_
  refine TL.gd (Pu.ld ty_sc3) ?_
  refine TL.gd (Pu.bv Pu.ge (decide_eq_true (by omega))) ?_
  refine TL.lit (t := 244) (b' := true) rfl (rfl) ?_
  refine TL.p Pu.kt ?_
  refine TL.p Pu.mv ?_
  refine TL.gd Pu.mv ?_
  refine TL.gd (by first | exact Pu.fb ty_fa35_1 | exact Pu.fe ty_fa35_1) ?_
  refine TL.gd (Pu.ld ty_sc3) ?_
  refine TL.gd (Pu.bv Pu.le (decide_eq_true (by omega))) ?_
  refine TL.lit (t := 250) (b' := true) rfl (rfl) ?_
  refine TL.p Pu.kt ?_
  refine TL.p Pu.as ?_
  refine TL.nil ?_
  exact TQ.sub (by repeat (first | exact trivial | refine ⟨rfl, ?_⟩ | refine ⟨trivial, ?_⟩ | refine ⟨(by show some (Value.bool _) = some (Value.bool _); first | (simp []; done) | (refine congrArg (fun z => some (Value.bool z)) (Bool.eq_iff_iff.2 ?_); simp []; omega)), ?_⟩)) ks9 hJ10
  refine TW.region ?_
  refine TL.p Pu.mv ?_
  refine TL.p Pu.no ?_
  refine TL.p Pu.mv ?_
  refine TL.guard (t := 50) rfl (fun hg8 => ?_) (fun hg8 => ?_)
  try simp only [decide_eq_true_eq, decide_eq_false_iff_not, Bool.not_eq_true', Bool.not_eq_false', Int.natCast_pos] at hg8
  refine TL.gs ?_
  refine TL.gs ?_
  refine TL.p Pu.kt ?_
  refine TL.nil ?_
  exact TQ.sub (by repeat (first | exact trivial | refine ⟨rfl, ?_⟩ | refine ⟨trivial, ?_⟩ | refine ⟨(by show some (Value.bool _) = some (Value.bool _); first | (simp [hg8]; done) | (refine congrArg (fun z => some (Value.bool z)) (Bool.eq_iff_iff.2 ?_); simp [hg8]; omega)), ?_⟩)) ks9 hJ1
  try simp only [decide_eq_true_eq, decide_eq_false_iff_not, Bool.not_eq_true', Bool.not_eq_false', Int.natCast_pos] at hg8
  refine TL.gd Pu.mv ?_
  refine TL.gd Pu.no ?_
  refine TL.p Pu.kf ?_
  refine TL.nil ?_
  exact TQ.sub (by repeat (first | exact trivial | refine ⟨rfl, ?_⟩ | refine ⟨trivial, ?_⟩ | refine ⟨(by show some (Value.bool _) = some (Value.bool _); first | (simp [hg8]; done) | (refine congrArg (fun z => some (Value.bool z)) (Bool.eq_iff_iff.2 ?_); simp [hg8]; omega)), ?_⟩)) ks9 hJ1
end
end Go.Proofs.YtmonkjnfjgidbaaGreatDoor
