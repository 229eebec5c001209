/-
  Part 13 of the proof of tollCheapest_holds: declarations of several texts, in build order. No condition on a program.
-/
import Derived.Test.YtmonkjnfjgidbaaGreatDoorCh12
import Derived.Test.YtmonkjnfjgidbaaGreatDoorCh10
import Derived.Test.YtmonkjnfjgidbaaGreatDoorCh09
import Derived.Test.YtmonkjnfjgidbaaGreatDoorCh08
import Derived.Test.YtmonkjnfjgidbaaGreatDoorCh03
import Derived.WideKeyRuns
namespace Go.Proofs.YtmonkjnfjgidbaaGreatDoor
set_option linter.all false
set_option linter.unusedVariables false
set_option linter.unusedSimpArgs false
open Go.RowKit
theorem tri_up {v : Nat → Int} {n : Nat} (h : triOk v n = true) : ∀ i : Nat, i < n → (i : Int) ≤ v i ∧ v i ≤ 7
  | 0, hi => by
    have := allB_iff.1 h 0 hi
    unfold inB5 at this
    simp only [Bool.and_eq_true, decide_eq_true_eq] at this
    omega
  | i + 1, hi => by
    have h1 := tri_up h i (by omega)
    have := allB_iff.1 h (i + 1) hi
    unfold inB5 at this
    simp only [Bool.and_eq_true, Bool.or_eq_true, decide_eq_true_eq, Nat.add_sub_cancel] at this
    have h2 := this.2.resolve_left (by omega)
    omega
theorem tri_len {v : Nat → Int} {n : Nat} (h : triOk v n = true) : n ≤ 8 := by
  by_cases h0 : n = 0
  · omega
  · have h1 := tri_up h (n - 1) (by omega)
    omega
theorem trp_lens {T : Trp} (h : trpOk T = true) : T.no ≤ 8 ∧ T.nu ≤ 8 ∧ T.nv ≤ 8 := by
  unfold trpOk at h
  simp only [Bool.and_eq_true] at h
  exact ⟨tri_len h.1.1.2, tri_len h.1.2, tri_len h.2⟩
def hirW (Y : Wy) (Z : Cus) (T : Trp) (E : Fes) : List Int × Int × Bool := hirV Z T Y.n (stY Y) E
def hirC (Y : Wy) (Z : Cus) (T : Trp) (E : Fes) : Int := if rdyC Y Z T ≠ 0 then rdyC Y Z T else if fesOk E = false then 74 else if wkC Y ≠ 0 then wkC Y else if (hirW Y Z T E).2.2 = true then 0 else 75
def hirL (Y : Wy) (Z : Cus) (T : Trp) (E : Fes) : List Int := if hirC Y Z T E = 0 then (hirW Y Z T E).1 else []
def hirN (Y : Wy) (Z : Cus) (T : Trp) (E : Fes) : Int := if hirC Y Z T E = 0 then (hirW Y Z T E).2.1 else 0
def hirA (Y : Wy) (Z : Cus) (T : Trp) (E : Fes) (y : Option Addr × Nat) : Value := .tuple #[.slice y.1 (hirL Y Z T E).length y.2, .int .i64 (hirN Y Z T E), .int .i64 (hirC Y Z T E)]
def hirF (Y : Wy) (Z : Cus) (T : Trp) (E : Fes) (y : Option Addr × Nat) : List Fact := [.own y.1 (hirL Y Z T E).length y.2 3 1 (iL (hirL Y Z T E))]
section
variable {Y : Wy} {Z : Cus} {T : Trp} {E : Fes}
theorem hirC_rdy (h : rdyC Y Z T ≠ 0) : hirC Y Z T E = rdyC Y Z T := if_pos h
theorem hirC_fee (h : rdyC Y Z T = 0) (hE : fesOk E = false) : hirC Y Z T E = 74 := by unfold hirC; rw [if_neg (by omega), if_pos hE]
theorem hirC_wk (h : rdyC Y Z T = 0) (hE : fesOk E = true) (hw : wkC Y ≠ 0) : hirC Y Z T E = wkC Y := by unfold hirC; rw [if_neg (by omega), if_neg (by rw [hE]; simp), if_pos hw]
theorem hirC_no (h : rdyC Y Z T = 0) (hE : fesOk E = true) (hw : wkC Y = 0) (hf : (hirW Y Z T E).2.2 = false) : hirC Y Z T E = 75 := by unfold hirC; rw [if_neg (by omega), if_neg (by rw [hE]; simp), if_neg (by omega), if_neg (by rw [hf]; simp)]
theorem hirC_ok (h : rdyC Y Z T = 0) (hE : fesOk E = true) (hw : wkC Y = 0) (hf : (hirW Y Z T E).2.2 = true) : hirC Y Z T E = 0 := by unfold hirC; rw [if_neg (by omega), if_neg (by rw [hE]; simp), if_neg (by omega), if_pos hf]
theorem hir_bad {w w' : World} {K : List Fact} {e : Int} (hw : Sat [] w K w') (he : hirC Y Z T E = e) (h0 : e ≠ 0) : ∃ y, Ending.returned (retV [.slice none 0 0, .int .i64 0, .int .i64 e]) = .returned (hirA Y Z T E y) ∧ Sat [] w (hirF Y Z T E y) w' := by
  have h9 : hirC Y Z T E ≠ 0 := by rw [he]; exact h0
  have e1 : hirL Y Z T E = [] := if_neg h9
  have e2 : hirN Y Z T E = 0 := if_neg h9
  refine ⟨(none, 0), ?_, ?_⟩
  · unfold hirA
    rw [e1, e2, he]
    rfl
  · unfold hirF
    rw [e1]
    exact hw.sub (KSub.nilOwn KSub.nil)
theorem hir_good {w w' : World} {K : List Fact} {y0 : Option Addr × Nat} (hw : Sat [] w (.own y0.1 (hirW Y Z T E).1.length y0.2 3 1 (iL (hirW Y Z T E).1) :: K) w') (he : hirC Y Z T E = 0) : ∃ y, Ending.returned (retV [.slice y0.1 (hirW Y Z T E).1.length y0.2, .int .i64 (hirW Y Z T E).2.1, .int .i64 0]) = .returned (hirA Y Z T E y) ∧ Sat [] w (hirF Y Z T E y) w' := by
  have e1 : hirL Y Z T E = (hirW Y Z T E).1 := if_pos he
  have e2 : hirN Y Z T E = (hirW Y Z T E).2.1 := if_pos he
  refine ⟨y0, ?_, ?_⟩
  · unfold hirA
    rw [e1, e2, he]
    rfl
  · unfold hirF
    rw [e1]
    exact hw.sub (KSub.cons pk9 KSub.nil)
end
section
variable {Z : Cus} {T : Trp} {Y : Wy} {W A L C D B O U V G : Option Addr} {cw cl cn cc cd cb co cu cv cg : Nat} {E : Fes} {w : World}
set_option maxRecDepth 100000 in
set_option maxHeartbeats 1000000 in
theorem tollHire_any (hL : LandIn w W Y.nw A Y.nl Y.f Y.x Y.g) (hn : Y.n ≤ 1000) (hR : RdR w 1 L Y.n (fun k => [.int .i64 (Y.ls k)])) (h : CustIn w C Z.nc D Z.nd B Z.nb Z.c Z.d Z.b) (t : TrpIn w T O U V) (hG : OldB w 0 barsL) (hnf : E.nf ≤ 1000) (hE : RdR w 2 G E.nf (feeL E)) :
    CallsK Tryz.prog 41 #[.agg (landL W Y.nw cw A Y.nl cl).toArray, .agg (custL C Z.nc cc D Z.nd cd B Z.nb cb).toArray, .agg (troopL T.hd T.wo O T.no co U T.nu cu V T.nv cv).toArray, .slice G E.nf cg, .int .i64 Y.start, .int .i64 Y.day, .agg #[.int .i64 Y.p0, .int .i64 Y.p1], .slice L Y.n cn] [] w (Option Addr × Nat) (hirA Y Z T E) (hirF Y Z T E) := by
  have fR := fun (w' : World) (h1 : LandIn w' W Y.nw A Y.nl Y.f Y.x Y.g) (h2 : CustIn w' C Z.nc D Z.nd B Z.nb Z.c Z.d Z.b) (h3 : TrpIn w' T O U V) => cReady_any (cw := cw) (cl := cl) (cc := cc) (cd := cd) (cb := cb) (co := co) (cu := cu) (cv := cv) h1 h2 h3
  have fW := fun (w' : World) (h1 : LandIn w' W Y.nw A Y.nl Y.f Y.x Y.g) (h2 : RdR w' 1 L Y.n (fun k => [.int .i64 (Y.ls k)])) => cWalked_any (Z := Z) (T := T) (C := C) (D := D) (B := B) (O := O) (U := U) (V := V) (cw := cw) (cl := cl) (cc := cc) (cd := cd) (cb := cb) (co := co) (cu := cu) (cv := cv) (cn := cn) h1 hn h2
  unfold landL custL troopL at fR fW ⊢
  refine K_enter (S := []) (K := []) Tryz.func41 rfl Tryz.ntmps41 rfl (Sat.start _) ?_
  refine TW.seq fun Y1 hY1 => ?_
  refine TW.region ?_
  refine TL.m Mk.bx ?_
  intro b1
  refine TL.m Mk.bx ?_
  intro b2
  refine TL.m Mk.bx ?_
  intro b3
  refine TL.m Mk.bx ?_
  intro b4
  refine TL.p Pu.as ?_
  refine TL.p Pu.as ?_
  refine TL.p Pu.as ?_
  refine TL.nil ?_
  refine TQ.thenN (hY1 _ _ ?_)
  refine TW.seq fun Y2 hY2 => ?_
  refine TW.seq fun Y3 hY3 => ?_
  refine TW.region ?_
  refine TL.p (Pu.lds ty_ag25) ?_
  refine TL.p (Pu.lds ty_ag30) ?_
  refine TL.p (Pu.lds ty_ag33) ?_
  refine TL.cr rfl (enters Tryz.func55 rfl rfl) (fun w hw => by
      exact fR _ (hL.ext (Chg.ext hw.chg)) (h.ext (Chg.ext hw.chg)) (t.ext (Chg.ext hw.chg))) ?_
  refine TL.p Pu.as ?_
  refine TL.nil ?_
  refine TQ.thenN (hY3 _ _ ?_)
  refine TW.seq fun Y4 hY4 => ?_
  refine TW.region ?_
  refine TL.p Pu.mv ?_
  refine TL.p Pu.ne ?_
  refine TL.nil ?_
  refine TQ.thenN (hY4 _ _ ?_)
  refine TW.cond rfl (fun hc0 => ?_) (fun hc0 => ?_)
  try simp only [decide_eq_true_eq, decide_eq_false_iff_not, Bool.not_eq_true', Bool.not_eq_false', Bool.and_eq_true, Bool.or_eq_true, Bool.and_eq_false_iff, Bool.or_eq_false_iff, Int.not_lt, Int.not_le] at hc0
  have hne : rdyC Y Z T ≠ 0 := hc0
  refine TW.seq fun Y5 hY5 => ?_
  refine TW.region ?_
  refine TL.p Pu.mv ?_
  refine TL.p Pu.as ?_
  refine TL.p Pu.as ?_
  refine TL.p Pu.as ?_
  refine TL.nil ?_
  refine TQ.thenN (hY5 _ _ ?_)
  refine TW.ret ?_
  refine TQ.thenR ?_
  refine TQ.ret Tryz.results41 rfl ((.tmp rfl (.tmp rfl (.tmp rfl .nil)))) ?_
  exact fun w hw => hir_bad hw (hirC_rdy hne) hne
  try simp only [decide_eq_true_eq, decide_eq_false_iff_not, Bool.not_eq_true', Bool.not_eq_false', Bool.and_eq_true, Bool.or_eq_true, Bool.and_eq_false_iff, Bool.or_eq_false_iff, Int.not_lt, Int.not_le] at hc0
  have hz : rdyC Y Z T = 0 := by simpa using hc0
  obtain ⟨hz1, hz2⟩ := rdy_split hz
  have hok := chk_ok hz1
  refine TW.skip ?_
  refine TQ.thenN (hY2 _ _ ?_)
  refine TW.seq fun Y6 hY6 => ?_
  refine TW.seq fun Y7 hY7 => ?_
  refine TW.region ?_
  refine TL.p Pu.mv ?_
  refine TL.cr rfl (enters Tryz.func70 rfl rfl) (fun w hw => by
      exact cPriced_any (by omega) (hE.sat hw Apart.nil)) ?_
  refine TL.p Pu.no ?_
  refine TL.nil ?_
  refine TQ.thenN (hY7 _ _ ?_)
  refine TW.cond rfl (fun hc1 => ?_) (fun hc1 => ?_)
  try simp only [decide_eq_true_eq, decide_eq_false_iff_not, Bool.not_eq_true', Bool.not_eq_false', Bool.and_eq_true, Bool.or_eq_true, Bool.and_eq_false_iff, Bool.or_eq_false_iff, Int.not_lt, Int.not_le] at hc1
  have h2 : fesOk E = false := by simpa using hc1
  refine TW.seq fun Y8 hY8 => ?_
  refine TW.region ?_
  refine TL.p Pu.as ?_
  refine TL.p Pu.as ?_
  refine TL.p Pu.as ?_
  refine TL.nil ?_
  refine TQ.thenN (hY8 _ _ ?_)
  refine TW.ret ?_
  refine TQ.thenR ?_
  refine TQ.ret Tryz.results41 rfl ((.tmp rfl (.tmp rfl (.tmp rfl .nil)))) ?_
  exact fun w hw => hir_bad hw (hirC_fee hz h2) (by decide)
  try simp only [decide_eq_true_eq, decide_eq_false_iff_not, Bool.not_eq_true', Bool.not_eq_false', Bool.and_eq_true, Bool.or_eq_true, Bool.and_eq_false_iff, Bool.or_eq_false_iff, Int.not_lt, Int.not_le] at hc1
  have h2 : fesOk E = true := by simpa using hc1
  refine TW.skip ?_
  refine TQ.thenN (hY6 _ _ ?_)
  refine TW.seq fun Y9 hY9 => ?_
  refine TW.region ?_
  refine TL.p (Pu.lds ty_ag25) ?_
  refine TL.p (Pu.lds ty_ag30) ?_
  refine TL.p (Pu.lds ty_ag33) ?_
  refine TL.p Pu.mv ?_
  refine TL.p Pu.mv ?_
  refine TL.p (Pu.lds ty_ag35) ?_
  refine TL.p Pu.mv ?_
  refine TL.call (M := []) rfl (enters Tryz.func56 rfl rfl) (List.Perm.refl _) rfl (fun w hw => by
      exact fW _ (hL.ext (Chg.ext hw.chg)) (hR.sat hw Apart.nil)) ?_
  rintro ⟨⟨As, cs⟩, bt⟩
  refine TL.p Pu.mv ?_
  refine TL.p Pu.ex ?_
  refine TL.p Pu.ex ?_
  refine TL.p Pu.as ?_
  refine TL.p Pu.as ?_
  refine TL.nil ?_
  refine TQ.thenN (hY9 _ _ ?_)
  refine TW.seq fun Y10 hY10 => ?_
  refine TW.seq fun Y11 hY11 => ?_
  refine TW.region ?_
  refine TL.p Pu.mv ?_
  refine TL.p Pu.ne ?_
  refine TL.nil ?_
  refine TQ.thenN (hY11 _ _ ?_)
  refine TW.cond rfl (fun hc2 => ?_) (fun hc2 => ?_)
  try simp only [decide_eq_true_eq, decide_eq_false_iff_not, Bool.not_eq_true', Bool.not_eq_false', Bool.and_eq_true, Bool.or_eq_true, Bool.and_eq_false_iff, Bool.or_eq_false_iff, Int.not_lt, Int.not_le] at hc2
  have hne : wkC Y ≠ 0 := hc2
  refine TW.seq fun Y12 hY12 => ?_
  refine TW.region ?_
  refine TL.p Pu.mv ?_
  refine TL.p Pu.as ?_
  refine TL.p Pu.as ?_
  refine TL.p Pu.as ?_
  refine TL.nil ?_
  refine TQ.thenN (hY12 _ _ ?_)
  refine TW.ret ?_
  refine TQ.thenR ?_
  refine TQ.ret Tryz.results41 rfl ((.tmp rfl (.tmp rfl (.tmp rfl .nil)))) ?_
  exact fun w hw => hir_bad hw (hirC_wk hz h2 hne) hne
  try simp only [decide_eq_true_eq, decide_eq_false_iff_not, Bool.not_eq_true', Bool.not_eq_false', Bool.and_eq_true, Bool.or_eq_true, Bool.and_eq_false_iff, Bool.or_eq_false_iff, Int.not_lt, Int.not_le] at hc2
  have hwz : wkC Y = 0 := by simpa using hc2
  have hwn := wkN_n hwz
  have hwb := stY_bd hwz
  have hWe : hirV Z T (wkN Y) (stY Y) E = hirW Y Z T E := by unfold hirW; rw [hwn]
  refine TW.skip ?_
  refine TQ.thenN (hY10 _ _ ?_)
  refine TW.seq fun Y13 hY13 => ?_
  refine TW.region ?_
  refine TL.p Pu.mv ?_
  refine TL.p Pu.mv ?_
  refine TL.call (M := []) rfl (enters Tryz.func71 rfl rfl) (List.Perm.refl _) rfl (fun w hw => by
      have q1 := OldB.of_blk (hw.holds (.blk bt 180 (trkL T O co U cu V cv Z C cc D cd B cb As (wkN Y) cs)) (by simp))
      have q2 := OwnR.rdr (hw.holds (.own As (wkN Y) cs 62 6 (fun k => stopL (stY Y k))) (by simp))
      exact cHire_any hok h2 (h.ext (Chg.ext hw.chg)) (t.ext (Chg.ext hw.chg)) ⟨by rw [hwn]; exact hn, q2, fun k hk => hwb k (by rw [← hwn]; exact hk)⟩ q1 (hG.ext (Chg.ext hw.chg)) (by have := trp_lens hz2; omega) (hE.sat hw Apart.nil)) ?_
  rintro ⟨Ag, cg9⟩
  simp only [hWe, hirR]
  refine TL.p Pu.mv ?_
  refine TL.p Pu.ex ?_
  refine TL.p Pu.ex ?_
  refine TL.p Pu.ex ?_
  refine TL.p Pu.as ?_
  refine TL.p Pu.as ?_
  refine TL.p Pu.as ?_
  refine TL.nil ?_
  refine TQ.thenN (hY13 _ _ ?_)
  refine TW.seq fun Y14 hY14 => ?_
  refine TW.seq fun Y15 hY15 => ?_
  refine TW.region ?_
  refine TL.p Pu.mv ?_
  refine TL.p Pu.no ?_
  refine TL.nil ?_
  refine TQ.thenN (hY15 _ _ ?_)
  refine TW.cond rfl (fun hc3 => ?_) (fun hc3 => ?_)
  try simp only [decide_eq_true_eq, decide_eq_false_iff_not, Bool.not_eq_true', Bool.not_eq_false', Bool.and_eq_true, Bool.or_eq_true, Bool.and_eq_false_iff, Bool.or_eq_false_iff, Int.not_lt, Int.not_le] at hc3
  have hf : (hirW Y Z T E).2.2 = false := by simpa using hc3
  refine TW.seq fun Y16 hY16 => ?_
  refine TW.region ?_
  refine TL.p Pu.as ?_
  refine TL.p Pu.as ?_
  refine TL.p Pu.as ?_
  refine TL.nil ?_
  refine TQ.thenN (hY16 _ _ ?_)
  refine TW.ret ?_
  refine TQ.thenR ?_
  refine TQ.ret Tryz.results41 rfl ((.tmp rfl (.tmp rfl (.tmp rfl .nil)))) ?_
  exact fun w hw => hir_bad hw (hirC_no hz h2 hwz hf) (by decide)
  try simp only [decide_eq_true_eq, decide_eq_false_iff_not, Bool.not_eq_true', Bool.not_eq_false', Bool.and_eq_true, Bool.or_eq_true, Bool.and_eq_false_iff, Bool.or_eq_false_iff, Int.not_lt, Int.not_le] at hc3
  have hf : (hirW Y Z T E).2.2 = true := by simpa using hc3
  refine TW.skip ?_
  refine TQ.thenN (hY14 _ _ ?_)
  refine TW.seq fun Y17 hY17 => ?_
  refine TW.region ?_
  refine TL.p Pu.mv ?_
  refine TL.p Pu.mv ?_
  refine TL.p Pu.as ?_
  refine TL.p Pu.as ?_
  refine TL.p Pu.as ?_
  refine TL.nil ?_
  refine TQ.thenN (hY17 _ _ ?_)
  refine TW.ret ?_
  refine TQ.ret Tryz.results41 rfl ((.tmp rfl (.tmp rfl (.tmp rfl .nil)))) ?_
  exact fun w hw => by
    have q9 := hir_good (Y := Y) (Z := Z) (T := T) (E := E) (y0 := (Ag, cg9)) (K := []) (hw.sub (KSub.cons pk9 KSub.nil)) (hirC_ok hz h2 hwz hf)
    exact q9
end
end Go.Proofs.YtmonkjnfjgidbaaGreatDoor
namespace Go.Proofs.YtmonkjnfjgidbaaGreatDoor
set_option linter.all false
set_option linter.unusedVariables false
set_option linter.unusedSimpArgs false
open Go.RowKit
def wcN (Y : Wy) (Z : Cus) (T : Trp) (E : Fes) (v : List Int) : Int := (hirW (wsV Y v) Z T E).2.1 + allHi Z T (stY (wsV Y v)) v.length
abbrev ChS : Type := Nat × List Int × Int × Bool
def chpK (Y : Wy) (Z : Cus) (T : Trp) (E : Fes) (L : List (List Int)) : Nat → ChS
  | 0 => (0, [], 0, false)
  | k + 1 => if ((hirW (wsV Y (L.getD k [])) Z T E).2.2 && (!(chpK Y Z T E L k).2.2.2 || decide (wcN Y Z T E (L.getD k []) < (chpK Y Z T E L k).2.2.1))) = true then (k, (hirW (wsV Y (L.getD k [])) Z T E).1, wcN Y Z T E (L.getD k []), true) else chpK Y Z T E L k
def chpS (Y : Wy) (Z : Cus) (T : Trp) (E : Fes) (to un : Int) : ChS := chpK Y Z T E (wsL Y to un) (wsL Y to un).length
def chpC (Y : Wy) (Z : Cus) (T : Trp) (E : Fes) (to un : Int) : Int := if rdyC Y Z T ≠ 0 then rdyC Y Z T else if fesOk E = false then 74 else if wsC Y to un ≠ 0 then wsC Y to un else if (chpS Y Z T E to un).2.2.2 = true then 0 else 75
def chpL (Y : Wy) (Z : Cus) (T : Trp) (E : Fes) (to un : Int) : List Int := if chpC Y Z T E to un = 0 then (wsL Y to un).getD (chpS Y Z T E to un).1 [] else []
def chpG (Y : Wy) (Z : Cus) (T : Trp) (E : Fes) (to un : Int) : List Int := if chpC Y Z T E to un = 0 then (chpS Y Z T E to un).2.1 else []
def chpN (Y : Wy) (Z : Cus) (T : Trp) (E : Fes) (to un : Int) : Int := if chpC Y Z T E to un = 0 then (chpS Y Z T E to un).2.2.1 else 0
abbrev CX : Type := (Option Addr × Nat) × (Option Addr × Nat)
def chpV (Y : Wy) (Z : Cus) (T : Trp) (E : Fes) (to un : Int) (y : CX) : Value := .tuple #[.slice y.1.1 (chpL Y Z T E to un).length y.1.2, .slice y.2.1 (chpG Y Z T E to un).length y.2.2, .int .i64 (chpN Y Z T E to un), .int .i64 (chpC Y Z T E to un)]
def chpF (Y : Wy) (Z : Cus) (T : Trp) (E : Fes) (to un : Int) (y : CX) : List Fact := [.own y.1.1 (chpL Y Z T E to un).length y.1.2 3 1 (iL (chpL Y Z T E to un)), .own y.2.1 (chpG Y Z T E to un).length y.2.2 3 1 (iL (chpG Y Z T E to un))]
theorem foot_sub {φ : Fact} : ∀ {L : List Fact}, φ ∈ L → φ.foot.Sublist (feet L)
  | ψ :: L, h => by
    show φ.foot.Sublist (ψ.foot ++ feet L)
    rcases List.mem_cons.1 h with rfl | h
    · exact List.sublist_append_left _ _
    · exact (foot_sub h).trans (List.sublist_append_right _ _)
theorem sat_bunM {S : List Nat} {w0 w : World} {φ : Fact} {L K : List Fact} (h : Sat S w0 (bun L :: K) w) (hm : φ ∈ L) : Sat S w0 (φ :: K) w := by
  have hsub : (feet (φ :: K)).Sublist (feet (bun L :: K)) := by
    show (φ.foot ++ feet K).Sublist (feet L ++ feet K)
    exact List.Sublist.append (foot_sub hm) (List.Sublist.refl _)
  refine ⟨h.chg, h.nd.sublist hsub, fun b hb => h.ge b (hsub.subset hb), fun ψ hψ => ?_⟩
  rcases List.mem_cons.1 hψ with rfl | hψ
  · exact (h.holds (bun L) (List.mem_cons_self ..)).now _ hm
  · exact h.holds ψ (List.mem_cons_of_mem _ hψ)
theorem lks_mem {L : List (List Int)} {ia : Nat → Option Addr} {ic : Nat → Nat} {k : Nat} (h : k < L.length) : Fact.own (ia k) (L.getD k []).length (ic k) 3 1 (iL (L.getD k [])) ∈ lksK L ia ic := ownsE_mem h
section
variable {Y : Wy} {Z : Cus} {T : Trp} {E : Fes} {to un : Int}
theorem chp_bad {w0 w : World} {K : List Fact} {e : Int} (h : Sat [] w0 K w) (he : chpC Y Z T E to un = e) (h0 : e ≠ 0) : ∃ y : CX, Ending.returned (retV [.slice none 0 0, .slice none 0 0, .int .i64 0, .int .i64 e]) = .returned (chpV Y Z T E to un y) ∧ Sat [] w0 (chpF Y Z T E to un y) w := by
  have h9 : chpC Y Z T E to un ≠ 0 := by rw [he]; exact h0
  refine ⟨((none, 0), none, 0), ?_, ?_⟩
  · unfold chpV chpL chpG chpN
    rw [if_neg h9, if_neg h9, if_neg h9, he]
    rfl
  · unfold chpF chpL chpG
    rw [if_neg h9, if_neg h9]
    exact h.sub (KSub.nilOwn (KSub.nilOwn KSub.nil))
theorem chpK_at {L : List (List Int)} : ∀ k, (chpK Y Z T E L k).2.2.2 = true → (chpK Y Z T E L k).1 < k
  | 0, h => by simp [chpK] at h
  | k + 1, h => by
    simp only [chpK] at h ⊢
    split
    · simp only; omega
    · next e =>
      rw [if_neg e] at h
      have := chpK_at k h
      omega
theorem hirW_bd {Y : Wy} (hE : fesOk E = true) : 0 ≤ (hirW Y Z T E).2.1 ∧ (hirW Y Z T E).2.1 ≤ 8000000000000 := hirK_bd hE _
theorem chpK_bd {L : List (List Int)} (hok : CusOk Z) (ht : trpOk T = true) (hE : fesOk E = true) (hL : ∀ v, v ∈ L → v.length ≤ 1000) : ∀ k, k ≤ L.length → 0 ≤ (chpK Y Z T E L k).2.2.1 ∧ (chpK Y Z T E L k).2.2.1 ≤ 3000000000000000
  | 0, _ => by simp [chpK]
  | k + 1, hk => by
    simp only [chpK]
    split
    · have h1 := hirW_bd (Z := Z) (T := T) (Y := wsV Y (L.getD k [])) hE
      have h2 := all_bd (st := stY (wsV Y (L.getD k []))) hok ht (L.getD k []).length
      have h3 : (L.getD k []).length ≤ 1000 := hL _ (by rw [List.getD_eq_getElem?_getD, List.getElem?_eq_getElem (show k < L.length by omega)]; exact List.getElem_mem _)
      simp only [wcN]
      omega
    · exact chpK_bd hok ht hE hL k (by omega)
end
section
variable {Y : Wy} {Z : Cus} {T : Trp} {E : Fes} {to un : Int} {W A C D B O U V G : Option Addr} {cw cl cc cd cb co cu cv cg : Nat} {w : World}
set_option maxRecDepth 100000 in
set_option maxHeartbeats 8000000 in
theorem tollCheapest_any (hL : LandIn w W Y.nw A Y.nl Y.f Y.x Y.g) (h : CustIn w C Z.nc D Z.nd B Z.nb Z.c Z.d Z.b) (t : TrpIn w T O U V) (hG : OldB w 0 barsL) (hnf : E.nf ≤ 1000) (hE : RdR w 2 G E.nf (feeL E)) :
    CallsK Tryz.prog 43 #[.agg (landL W Y.nw cw A Y.nl cl).toArray, .agg (custL C Z.nc cc D Z.nd cd B Z.nb cb).toArray, .agg (troopL T.hd T.wo O T.no co U T.nu cu V T.nv cv).toArray, .slice G E.nf cg, .int .i64 Y.start, .int .i64 to, .int .i64 Y.day, .int .i64 un, .agg #[.int .i64 Y.p0, .int .i64 Y.p1]] [] w CX (chpV Y Z T E to un) (chpF Y Z T E to un) := by
  have fR := fun (w' : World) (h1 : LandIn w' W Y.nw A Y.nl Y.f Y.x Y.g) (h2 : CustIn w' C Z.nc D Z.nd B Z.nb Z.c Z.d Z.b) (h3 : TrpIn w' T O U V) => cReady_any (cw := cw) (cl := cl) (cc := cc) (cd := cd) (cb := cb) (co := co) (cu := cu) (cv := cv) h1 h2 h3
  have fW := fun (w' : World) (v : List Int) (L : Option Addr) (cn : Nat) (hn : v.length ≤ 1000) (h1 : LandIn w' W Y.nw A Y.nl Y.f Y.x Y.g) (h2 : RdR w' 1 L v.length (iL v)) => cWalked_any (Y := wsV Y v) (L := L) (Z := Z) (T := T) (C := C) (D := D) (B := B) (O := O) (U := U) (V := V) (cw := cw) (cl := cl) (cc := cc) (cd := cd) (cb := cb) (co := co) (cu := cu) (cv := cv) (cn := cn) h1 hn h2
  have fY := fun (w' : World) (h1 : LandIn w' W Y.nw A Y.nl Y.f Y.x Y.g) => cWays_any (to := to) (un := un) (cw := cw) (cl := cl) h1
  unfold landL custL troopL at fR fW
  unfold landL at fY
  unfold landL custL troopL
  refine K_enter (S := []) (K := []) Tryz.func43 rfl Tryz.ntmps43 rfl (Sat.start _) ?_
  refine TW.seq fun Y1 hY1 => ?_
  refine TW.region ?_
  refine TL.m Mk.bx ?_
  intro b1
  refine TL.m Mk.bx ?_
  intro b2
  refine TL.m Mk.bx ?_
  intro b3
  refine TL.m Mk.bx ?_
  intro b4
  refine TL.p Pu.as ?_
  refine TL.p Pu.as ?_
  refine TL.p Pu.as ?_
  refine TL.p Pu.as ?_
  refine TL.nil ?_
  refine TQ.thenN (hY1 _ _ ?_)
  refine TW.seq fun Y2 hY2 => ?_
  refine TW.seq fun Y3 hY3 => ?_
  refine TW.region ?_
  refine TL.p (Pu.lds ty_ag25) ?_
  refine TL.p (Pu.lds ty_ag30) ?_
  refine TL.p (Pu.lds ty_ag33) ?_
  refine TL.cr rfl (enters Tryz.func55 rfl rfl) (fun w hw => by
      exact fR _ (hL.ext (Chg.ext hw.chg)) (h.ext (Chg.ext hw.chg)) (t.ext (Chg.ext hw.chg))) ?_
  refine TL.p Pu.as ?_
  refine TL.nil ?_
  refine TQ.thenN (hY3 _ _ ?_)
  refine TW.seq fun Y4 hY4 => ?_
  refine TW.region ?_
  refine TL.p Pu.mv ?_
  refine TL.p Pu.ne ?_
  refine TL.nil ?_
  refine TQ.thenN (hY4 _ _ ?_)
  refine TW.cond rfl (fun hc0 => ?_) (fun hc0 => ?_)
  try simp only [decide_eq_true_eq, decide_eq_false_iff_not, Bool.not_eq_true', Bool.not_eq_false', Bool.and_eq_true, Bool.or_eq_true, Bool.and_eq_false_iff, Bool.or_eq_false_iff, Int.not_lt, Int.not_le] at hc0
  have hne : rdyC Y Z T ≠ 0 := hc0
  refine TW.seq fun Y5 hY5 => ?_
  refine TW.region ?_
  refine TL.p Pu.mv ?_
  refine TL.p Pu.as ?_
  refine TL.p Pu.as ?_
  refine TL.p Pu.as ?_
  refine TL.p Pu.as ?_
  refine TL.nil ?_
  refine TQ.thenN (hY5 _ _ ?_)
  refine TW.ret ?_
  refine TQ.thenR ?_
  refine TQ.ret Tryz.results43 rfl ((.tmp rfl (.tmp rfl (.tmp rfl (.tmp rfl .nil))))) ?_
  exact fun w hw => chp_bad hw (if_pos hne) hne
  try simp only [decide_eq_true_eq, decide_eq_false_iff_not, Bool.not_eq_true', Bool.not_eq_false', Bool.and_eq_true, Bool.or_eq_true, Bool.and_eq_false_iff, Bool.or_eq_false_iff, Int.not_lt, Int.not_le] at hc0
  have hz : rdyC Y Z T = 0 := by simpa using hc0
  obtain ⟨hz1, hz2⟩ := rdy_split hz
  have hok := chk_ok hz1
  refine TW.skip ?_
  refine TQ.thenN (hY2 _ _ ?_)
  refine TW.seq fun Y6 hY6 => ?_
  refine TW.seq fun Y7 hY7 => ?_
  refine TW.region ?_
  refine TL.p Pu.mv ?_
  refine TL.cr rfl (enters Tryz.func70 rfl rfl) (fun w hw => by
      exact cPriced_any (by omega) (hE.sat hw Apart.nil)) ?_
  refine TL.p Pu.no ?_
  refine TL.nil ?_
  refine TQ.thenN (hY7 _ _ ?_)
  refine TW.cond rfl (fun hc1 => ?_) (fun hc1 => ?_)
  try simp only [decide_eq_true_eq, decide_eq_false_iff_not, Bool.not_eq_true', Bool.not_eq_false', Bool.and_eq_true, Bool.or_eq_true, Bool.and_eq_false_iff, Bool.or_eq_false_iff, Int.not_lt, Int.not_le] at hc1
  have h2 : fesOk E = false := by simpa using hc1
  refine TW.seq fun Y8 hY8 => ?_
  refine TW.region ?_
  refine TL.p Pu.as ?_
  refine TL.p Pu.as ?_
  refine TL.p Pu.as ?_
  refine TL.p Pu.as ?_
  refine TL.nil ?_
  refine TQ.thenN (hY8 _ _ ?_)
  refine TW.ret ?_
  refine TQ.thenR ?_
  refine TQ.ret Tryz.results43 rfl ((.tmp rfl (.tmp rfl (.tmp rfl (.tmp rfl .nil))))) ?_
  exact fun w hw => chp_bad hw (by unfold chpC; rw [if_neg (by omega), if_pos h2]) (by decide)
  try simp only [decide_eq_true_eq, decide_eq_false_iff_not, Bool.not_eq_true', Bool.not_eq_false', Bool.and_eq_true, Bool.or_eq_true, Bool.and_eq_false_iff, Bool.or_eq_false_iff, Int.not_lt, Int.not_le] at hc1
  have h2 : fesOk E = true := by simpa using hc1
  refine TW.skip ?_
  refine TQ.thenN (hY6 _ _ ?_)
  refine TW.seq fun Y9 hY9 => ?_
  refine TW.region ?_
  refine TL.p (Pu.lds ty_ag25) ?_
  refine TL.p Pu.mv ?_
  refine TL.p Pu.mv ?_
  refine TL.p Pu.mv ?_
  refine TL.p Pu.mv ?_
  refine TL.p (Pu.lds ty_ag35) ?_
  refine TL.call (M := []) rfl (enters Tryz.func52 rfl rfl) (List.Perm.refl _) rfl (fun w hw => by
      exact fY _ (hL.ext (Chg.ext hw.chg))) ?_
  rintro ⟨⟨A9, c9⟩, ia, ic⟩
  simp only [wsK, lksR, List.cons_append, List.nil_append]
  refine TL.p Pu.mv ?_
  refine TL.p Pu.ex ?_
  refine TL.p Pu.ex ?_
  refine TL.p Pu.as ?_
  refine TL.p Pu.as ?_
  refine TL.nil ?_
  refine TQ.thenN (hY9 _ _ ?_)
  refine TW.seq fun Y10 hY10 => ?_
  refine TW.seq fun Y11 hY11 => ?_
  refine TW.region ?_
  refine TL.p Pu.mv ?_
  refine TL.p Pu.ne ?_
  refine TL.nil ?_
  refine TQ.thenN (hY11 _ _ ?_)
  refine TW.cond rfl (fun hc2 => ?_) (fun hc2 => ?_)
  try simp only [decide_eq_true_eq, decide_eq_false_iff_not, Bool.not_eq_true', Bool.not_eq_false', Bool.and_eq_true, Bool.or_eq_true, Bool.and_eq_false_iff, Bool.or_eq_false_iff, Int.not_lt, Int.not_le] at hc2
  have hne : wsC Y to un ≠ 0 := hc2
  refine TW.seq fun Y12 hY12 => ?_
  refine TW.region ?_
  refine TL.p Pu.mv ?_
  refine TL.p Pu.as ?_
  refine TL.p Pu.as ?_
  refine TL.p Pu.as ?_
  refine TL.p Pu.as ?_
  refine TL.nil ?_
  refine TQ.thenN (hY12 _ _ ?_)
  refine TW.ret ?_
  refine TQ.thenR ?_
  refine TQ.ret Tryz.results43 rfl ((.tmp rfl (.tmp rfl (.tmp rfl (.tmp rfl .nil))))) ?_
  exact fun w hw => chp_bad hw (by unfold chpC; rw [if_neg (by omega), if_neg (by rw [h2]; simp), if_pos hne]) hne
  try simp only [decide_eq_true_eq, decide_eq_false_iff_not, Bool.not_eq_true', Bool.not_eq_false', Bool.and_eq_true, Bool.or_eq_true, Bool.and_eq_false_iff, Bool.or_eq_false_iff, Int.not_lt, Int.not_le] at hc2
  have hwz : wsC Y to un = 0 := by simpa using hc2
  have hwv := fun v (hv : v ∈ wsL Y to un) => wsL_wk hwz hv
  have hcc : chpC Y Z T E to un = if (chpS Y Z T E to un).2.2.2 = true then 0 else 75 := by unfold chpC; rw [if_neg (by omega), if_neg (by rw [h2]; simp), if_neg (by omega)]
  replace hcc := hidT hcc
  have hl2 : (wsL Y to un).length ≤ 200   := wsL_len hwz
  have hln : ∀ v, v ∈ wsL Y to un → v.length ≤ 24 := fun v hv => wsL_n hwz hv
  refine TW.skip ?_
  refine TQ.thenN (hY10 _ _ ?_)
  refine TW.seq fun Y13 hY13 => ?_
  refine TW.region ?_
  refine TL.p Pu.as ?_
  refine TL.nil ?_
  refine TQ.thenN (hY13 _ _ ?_)
  refine TW.seq fun Y14 hY14 => ?_
  refine TW.seq fun Y15 hY15 => ?_
  refine TW.region ?_
  refine TL.p Pu.mv ?_
  refine TL.p (Pu.ln Tryz.underlying113) ?_
  refine TL.p Pu.mv ?_
  refine TL.nil ?_
  refine TQ.thenN (hY15 _ _ ?_)
  refine TW.block ?_
  refine TW.loop5 (fun (k : Nat) (s : ChS) (z : Option Addr × Nat × Nat) (Ag : Option Addr) (ag : Nat) => [(59, .int .i64 (k : Int)), (58, .int .i64 ((wsL Y to un).length : Int)), (57, .slice A9 (wsL Y to un).length c9), (18, .slice z.1 z.2.2 z.2.1), (19, .slice Ag s.2.1.length ag), (20, .int .i64 s.2.2.1), (24, .bool s.2.2.2), (3, .slice G E.nf cg), (4, .int .i64 Y.start), (6, .int .i64 Y.day), (9, .pointer (some ⟨b1, 0, none⟩)), (10, .pointer (some ⟨b2, 0, none⟩)), (11, .pointer (some ⟨b3, 0, none⟩)), (17, .pointer (some ⟨b4, 0, none⟩))]) (fun k s z Ag ag => [.own Ag s.2.1.length ag 3 1 (iL s.2.1), .own A9 (wsL Y to un).length c9 31 1 (fun k => [.slice (ia k) ((wsL Y to un).getD k []).length (ic k)]), bun (lksK (wsL Y to un) ia ic), .blk b1 25 [.slice W Y.nw cw, .slice A Y.nl cl], .blk b2 30 [.slice C Z.nc cc, .slice D Z.nd cd, .slice B Z.nb cb], .blk b3 33 [.int .i64 T.hd, .int .i64 T.wo, .slice O T.no co, .slice U T.nu cu, .slice V T.nv cv], .blk b4 35 [.int .i64 Y.p0, .int .i64 Y.p1]]) (fun k s z Ag ag => k ≤ (wsL Y to un).length ∧ s = chpK Y Z T E (wsL Y to un) k ∧ (s.2.2.2 = true → z.1 = ia s.1 ∧ z.2.1 = ic s.1 ∧ z.2.2 = ((wsL Y to un).getD s.1 []).length)) (fun k s z Ag ag => (wsL Y to un).length - k) 0 (0, [], 0, false) (none, 0, 0) none 0 fs9 ?_ ?_ ?_
  exact KSub.nilOwn ks9
  exact ⟨Nat.zero_le _, rfl, fun h9 => by cases h9⟩
  rintro k s z Ag ag ⟨hk, hs, hsl⟩ Z0 hZ0
  have hsb := chpK_bd (Y := Y) hok hz2 h2 (fun v hv => Nat.le_trans (hln v hv) (by decide)) k hk
  rw [← hs] at hsb
  replace hs := hidT hs
  replace hsl := hidT hsl
  refine TW.seq fun Y16 hY16 => ?_
  refine TW.region ?_
  refine TL.p Pu.lt ?_
  refine TL.nil ?_
  refine TQ.thenN (hY16 _ _ ?_)
  refine TW.seq fun Y17 hY17 => ?_
  refine TW.cond rfl (fun hc3 => ?_) (fun hc3 => ?_)
  try simp only [decide_eq_true_eq, decide_eq_false_iff_not, Bool.not_eq_true', Bool.not_eq_false', Bool.and_eq_true, Bool.or_eq_true, Bool.and_eq_false_iff, Bool.or_eq_false_iff, Int.not_lt, Int.not_le] at hc3
  have hkn : k < (wsL Y to un).length := by omega
  have hvm : ((wsL Y to un).getD k []) ∈ wsL Y to un := by rw [List.getD_eq_getElem?_getD, List.getElem?_eq_getElem hkn]; exact List.getElem_mem _
  have hvw := hwv _ hvm
  have hvn := hln _ hvm
  have hvk : wkN (wsV Y ((wsL Y to un).getD k [])) = ((wsL Y to un).getD k []).length := wkN_n hvw
  have hwb := stY_bd hvw
  have hib := hirW_bd (Y := wsV Y ((wsL Y to un).getD k [])) (Z := Z) (T := T) h2
  have hab := all_bd (st := stY (wsV Y ((wsL Y to un).getD k []))) hok hz2 ((wsL Y to un).getD k []).length
  obtain ⟨hh, hhe⟩ : ∃ hh, hh = hirW (wsV Y ((wsL Y to un).getD k [])) Z T E := ⟨_, rfl⟩
  obtain ⟨hi9, hie⟩ : ∃ hi9, hi9 = allHi Z T (stY (wsV Y ((wsL Y to un).getD k []))) ((wsL Y to un).getD k []).length := ⟨_, rfl⟩
  obtain ⟨lo9, hlo⟩ : ∃ lo9, lo9 = allLo Z T (stY (wsV Y ((wsL Y to un).getD k []))) ((wsL Y to un).getD k []).length := ⟨_, rfl⟩
  rw [← hhe] at hib
  rw [← hie, ← hlo] at hab
  have hst1 : chpK Y Z T E (wsL Y to un) (k + 1) = if (hh.2.2 && (!s.2.2.2 || decide (hh.2.1 + hi9 < s.2.2.1))) = true then (k, hh.1, hh.2.1 + hi9, true) else s := by rw [hs.out, hhe, hie]; rfl
  replace hhe := hidT hhe
  replace hie := hidT hie
  replace hlo := hidT hlo
  replace hvk := hidT hvk
  replace hvw := hidT hvw
  refine TW.skip ?_
  refine TQ.thenN (hY17 _ _ ?_)
  refine TW.seq fun Y18 hY18 => ?_
  refine TW.block ?_
  refine TW.seq fun Y19 hY19 => ?_
  refine TW.region ?_
  refine TL.p (Pu.el ty_et113) ?_
  refine TL.p (Pu.ld ty_sc31) ?_
  refine TL.p Pu.as ?_
  refine TL.nil ?_
  refine TQ.thenN (hY19 _ _ ?_)
  refine TW.seq fun Y20 hY20 => ?_
  refine TW.region ?_
  refine TL.p (Pu.lds ty_ag25) ?_
  refine TL.p (Pu.lds ty_ag30) ?_
  refine TL.p (Pu.lds ty_ag33) ?_
  refine TL.p Pu.mv ?_
  refine TL.p Pu.mv ?_
  refine TL.p (Pu.lds ty_ag35) ?_
  refine TL.p Pu.mv ?_
  refine TL.call (M := []) rfl (enters Tryz.func56 rfl rfl) (List.Perm.refl _) rfl (fun w hw => by
      have q0 := bun_get hw (K1 := lksK (wsL Y to un) ia ic) (Pick.mem pk9) (lks_mem hkn)
      have h9 := fW _ ((wsL Y to un).getD k []) (ia k) (ic k) (by omega) (hL.ext (Chg.ext hw.chg)) (OwnR.rdr q0)
      rw [hvw.out, hvk.out] at h9
      exact h9) ?_
  rintro ⟨⟨As, cs⟩, bt⟩
  refine TL.p Pu.mv ?_
  refine TL.p Pu.ex ?_
  refine TL.p Pu.ex ?_
  refine TL.p Pu.as ?_
  refine TL.p Pu.as ?_
  refine TL.nil ?_
  refine TQ.thenN (hY20 _ _ ?_)
  refine TW.seq fun Y21 hY21 => ?_
  refine TW.seq fun Y22 hY22 => ?_
  refine TW.region ?_
  refine TL.p Pu.mv ?_
  refine TL.p Pu.ne ?_
  refine TL.nil ?_
  refine TQ.thenN (hY22 _ _ ?_)
  refine TW.condF rfl (rfl) ?_
  refine TW.skip ?_
  refine TQ.thenN (hY21 _ _ ?_)
  refine TW.seq fun Y23 hY23 => ?_
  refine TW.region ?_
  refine TL.p Pu.mv ?_
  refine TL.p Pu.mv ?_
  refine TL.call (M := []) rfl (enters Tryz.func71 rfl rfl) (List.Perm.refl _) rfl (fun w hw => by
      have q1 := OldB.of_blk (hw.holds (.blk bt 180 (trkL T O co U cu V cv Z C cc D cd B cb As ((wsL Y to un).getD k []).length cs)) (Pick.mem pk9))
      have q2 := OwnR.rdr (hw.holds (.own As ((wsL Y to un).getD k []).length cs 62 6 (fun j => stopL (stY (wsV Y ((wsL Y to un).getD k [])) j))) (Pick.mem pk9))
      have h9 := cHire_any (ca := cg) (n := ((wsL Y to un).getD k []).length) (st := stY (wsV Y ((wsL Y to un).getD k []))) hok h2 (h.ext (Chg.ext hw.chg)) (t.ext (Chg.ext hw.chg)) ⟨by omega, q2, hwb⟩ q1 (hG.ext (Chg.ext hw.chg)) (by have := trp_lens hz2; omega) (hE.sat hw Apart.nil)
      rw [show hirV Z T ((wsL Y to un).getD k []).length (stY (wsV Y ((wsL Y to un).getD k []))) E = hirW (wsV Y ((wsL Y to un).getD k [])) Z T E from rfl, ← hhe.out] at h9
      exact h9) ?_
  rintro ⟨Ah, ah⟩
  simp only [hirR]
  refine TL.p Pu.mv ?_
  refine TL.p Pu.ex ?_
  refine TL.p Pu.ex ?_
  refine TL.p Pu.ex ?_
  refine TL.p Pu.as ?_
  refine TL.p Pu.as ?_
  refine TL.p Pu.as ?_
  refine TL.nil ?_
  refine TQ.thenN (hY23 _ _ ?_)
  refine TW.seq fun Y24 hY24 => ?_
  refine TW.region ?_
  refine TL.p Pu.mv ?_
  refine TL.call (M := []) rfl (enters Tryz.func60 rfl rfl) (List.Perm.refl _) rfl (fun w hw => by
      have q1 := OldB.of_blk (hw.holds (.blk bt 180 (trkL T O co U cu V cv Z C cc D cd B cb As ((wsL Y to un).getD k []).length cs)) (Pick.mem pk9))
      have q2 := OwnR.rdr (hw.holds (.own As ((wsL Y to un).getD k []).length cs 62 6 (fun j => stopL (stY (wsV Y ((wsL Y to un).getD k [])) j))) (Pick.mem pk9))
      have h9 := cTolls_any (n := ((wsL Y to un).getD k []).length) (st := stY (wsV Y ((wsL Y to un).getD k []))) hok hz2 (h.ext (Chg.ext hw.chg)) (t.ext (Chg.ext hw.chg)) ⟨by omega, q2, hwb⟩ q1
      rw [← hie.out, ← hlo.out] at h9
      exact h9) ?_
  rintro ⟨At, at9⟩
  refine TL.p Pu.mv ?_
  refine TL.p Pu.ex ?_
  refine TL.p Pu.ex ?_
  refine TL.m (Mk.al ty_zr35) ?_
  intro b5
  refine TL.p Pu.as ?_
  first | refine TL.st ty_sz35 ?_ | refine TL.se ty_sz35 ?_
  refine TL.nil ?_
  refine TQ.thenN (hY24 _ _ ?_)
  refine TW.seq fun Y25 hY25 => ?_
  refine TW.join [(101, .bool (hh.2.2 && (!s.2.2.2 || decide (hh.2.1 + hi9 < s.2.2.1))))] ?_ (fun hJ1 => ?_)
  refine TQ.thenN (hY25 _ _ ?_)
  refine TW.cond rfl (fun hc5 => ?_) (fun hc5 => ?_)
  try simp only [decide_eq_true_eq, decide_eq_false_iff_not, Bool.not_eq_true', Bool.not_eq_false', Bool.and_eq_true, Bool.or_eq_true, Bool.and_eq_false_iff, Bool.or_eq_false_iff, Int.not_lt, Int.not_le] at hc5
  have hyes : (hh.2.2 && (!s.2.2.2 || decide (hh.2.1 + hi9 < s.2.2.1))) = true := by simpa using hc5
  rw [if_pos hyes] at hst1
  have hT : hh.2.2 = true := (Bool.and_eq_true_iff.1 hyes).1
  replace hst1 := hidT hst1
  refine TW.dw 10 ?_
  refine RK.tk Pu.mv ?_
  refine RK.tk Pu.mv ?_
  refine RK.tk Pu.mv ?_
  refine RK.tk (by first | exact Pu.fb ty_fa35_1 | exact Pu.fe ty_fa35_1) ?_
  refine RK.tk (Pu.ld ty_sc3) ?_
  refine RK.tk Pu.ad ?_
  refine RK.tk Pu.as ?_
  refine RK.tk Pu.as ?_
  refine RK.tk Pu.as ?_
  refine RK.tk Pu.as ?_
  refine RK.ch [] ?_ trivial
  refine WK.n ?_
  refine TL.nil ?_
  refine TQ.blkN ?_
  refine TQ.thenN (hY18 _ _ ?_)
  refine TW.region ?_
  refine TL.p Pu.ad ?_
  refine TL.p Pu.mv ?_
  refine TL.nil ?_
  refine TQ.thenN (hZ0 (k + 1) (by first | exact (fun (_ : hh.2.2 = true) => ((k, hh.1, hh.2.1 + hi9, true) : ChS)) hT | exact s) (by first | exact (fun (_ : hh.2.2 = true) => ((ia k, ic k, ((wsL Y to un).getD k []).length) : Option Addr × Nat × Nat)) hT | exact z) (by first | exact (fun (_ : hh.2.2 = true) => Ah) hT | exact Ag) (by first | exact (fun (_ : hh.2.2 = true) => ah) hT | exact ag) _ _ ?_ ?_ fs9 ?_)
  exact ⟨by omega, hst1.out.symm, by first | exact hsl.out | exact fun _ => ⟨rfl, rfl, rfl⟩⟩
  exact (by first | omega | (simp only []; omega) | (simp; omega))
  exact ks9
  try simp only [decide_eq_true_eq, decide_eq_false_iff_not, Bool.not_eq_true', Bool.not_eq_false', Bool.and_eq_true, Bool.or_eq_true, Bool.and_eq_false_iff, Bool.or_eq_false_iff, Int.not_lt, Int.not_le] at hc5
  have hno : ¬ (hh.2.2 && (!s.2.2.2 || decide (hh.2.1 + hi9 < s.2.2.1))) = true := by intro h9; rw [Bool.and_eq_true, Bool.or_eq_true, Bool.not_eq_true', decide_eq_true_eq] at h9; simp_all; omega
  rw [if_neg hno] at hst1
  replace hst1 := hidT hst1
  refine TW.skip ?_
  refine TQ.blkN ?_
  refine TQ.thenN (hY18 _ _ ?_)
  refine TW.region ?_
  refine TL.p Pu.ad ?_
  refine TL.p Pu.mv ?_
  refine TL.nil ?_
  refine TQ.thenN (hZ0 (k + 1) (by first | exact (fun (_ : hh.2.2 = true) => ((k, hh.1, hh.2.1 + hi9, true) : ChS)) hT | exact s) (by first | exact (fun (_ : hh.2.2 = true) => ((ia k, ic k, ((wsL Y to un).getD k []).length) : Option Addr × Nat × Nat)) hT | exact z) (by first | exact (fun (_ : hh.2.2 = true) => Ah) hT | exact Ag) (by first | exact (fun (_ : hh.2.2 = true) => ah) hT | exact ag) _ _ ?_ ?_ fs9 ?_)
  exact ⟨by omega, hst1.out.symm, by first | exact hsl.out | exact fun _ => ⟨rfl, rfl, rfl⟩⟩
  exact (by first | omega | (simp only []; omega) | (simp; omega))
  exact ks9
  refine TW.region ?_
  refine TL.p Pu.mv ?_
  refine TL.p Pu.mv ?_
  refine TL.guard (t := 90) rfl (fun hg1 => ?_) (fun hg1 => ?_)
  refine TL.gd Pu.mv ?_
  refine TL.gd Pu.no ?_
  refine TL.gd Pu.mv ?_
  refine TL.guard (t := 93) rfl (fun hg2 => ?_) (fun hg2 => ?_)
  refine TL.gs ?_
  refine TL.gs ?_
  refine TL.gs ?_
  refine TL.gs ?_
  refine TL.gs ?_
  refine TL.gs ?_
  refine TL.gd Pu.kt ?_
  refine TL.p Pu.kt ?_
  refine TL.nil ?_
  exact TQ.sub (by repeat (first | exact trivial | refine ⟨rfl, ?_⟩ | refine ⟨trivial, ?_⟩ | refine ⟨(by show some (Value.bool _) = some (Value.bool _); first | (simp [hg1, hg2]; done) | (refine congrArg (fun z => some (Value.bool z)) (Bool.eq_iff_iff.2 ?_); simp [hg1, hg2]; omega)), ?_⟩)) ks9 hJ1
  refine TL.gd Pu.mv ?_
  refine TL.gd (by first | exact Pu.fb ty_fa35_1 | exact Pu.fe ty_fa35_1) ?_
  refine TL.gd (Pu.ld ty_sc3) ?_
  refine TL.gd Pu.ad ?_
  refine TL.gd Pu.mv ?_
  refine TL.gd Pu.lt ?_
  refine TL.gd Pu.kf ?_
  refine TL.p Pu.kt ?_
  refine TL.nil ?_
  exact TQ.sub (by repeat (first | exact trivial | refine ⟨rfl, ?_⟩ | refine ⟨trivial, ?_⟩ | refine ⟨(by show some (Value.bool _) = some (Value.bool _); first | (simp [hg1, hg2]; done) | (refine congrArg (fun z => some (Value.bool z)) (Bool.eq_iff_iff.2 ?_); simp [hg1, hg2]; omega)), ?_⟩)) ks9 hJ1
  refine TL.gs ?_
  refine TL.gs ?_
  refine TL.gs ?_
  refine TL.gs ?_
  refine TL.gs ?_
  refine TL.gs ?_
  refine TL.gs ?_
  refine TL.gs ?_
  refine TL.gs ?_
  refine TL.gs ?_
  refine TL.p Pu.kf ?_
  refine TL.nil ?_
  exact TQ.sub (by repeat (first | exact trivial | refine ⟨rfl, ?_⟩ | refine ⟨trivial, ?_⟩ | refine ⟨(by show some (Value.bool _) = some (Value.bool _); first | (simp [hg1]; done) | (refine congrArg (fun z => some (Value.bool z)) (Bool.eq_iff_iff.2 ?_); simp [hg1]; omega)), ?_⟩)) ks9 hJ1
  try simp only [decide_eq_true_eq, decide_eq_false_iff_not, Bool.not_eq_true', Bool.not_eq_false', Bool.and_eq_true, Bool.or_eq_true, Bool.and_eq_false_iff, Bool.or_eq_false_iff, Int.not_lt, Int.not_le] at hc3
  obtain rfl : k = (wsL Y to un).length := by omega
  refine TW.exit ?_
  refine TQ.thenX ?_
  refine TQ.thenX ?_
  refine TQ.blkX ?_
  refine TQ.thenN (hY14 _ _ ?_)
  refine TW.seq fun Y26 hY26 => ?_
  refine TW.seq fun Y27 hY27 => ?_
  refine TW.region ?_
  refine TL.p Pu.mv ?_
  refine TL.p Pu.no ?_
  refine TL.nil ?_
  refine TQ.thenN (hY27 _ _ ?_)
  refine TW.cond rfl (fun hc6 => ?_) (fun hc6 => ?_)
  try simp only [decide_eq_true_eq, decide_eq_false_iff_not, Bool.not_eq_true', Bool.not_eq_false', Bool.and_eq_true, Bool.or_eq_true, Bool.and_eq_false_iff, Bool.or_eq_false_iff, Int.not_lt, Int.not_le] at hc6
  have hfd : s.2.2.2 = false := by simpa using hc6
  refine TW.seq fun Y28 hY28 => ?_
  refine TW.region ?_
  refine TL.p Pu.as ?_
  refine TL.p Pu.as ?_
  refine TL.p Pu.as ?_
  refine TL.p Pu.as ?_
  refine TL.nil ?_
  refine TQ.thenN (hY28 _ _ ?_)
  refine TW.ret ?_
  refine TQ.thenR ?_
  refine TQ.ret Tryz.results43 rfl ((.tmp rfl (.tmp rfl (.tmp rfl (.tmp rfl .nil))))) ?_
  exact fun w hw => chp_bad hw (by rw [hcc.out, show chpS Y Z T E to un = s from hs.out.symm, hfd]; rfl) (by decide)
  try simp only [decide_eq_true_eq, decide_eq_false_iff_not, Bool.not_eq_true', Bool.not_eq_false', Bool.and_eq_true, Bool.or_eq_true, Bool.and_eq_false_iff, Bool.or_eq_false_iff, Int.not_lt, Int.not_le] at hc6
  have hfd : s.2.2.2 = true := by simpa using hc6
  obtain ⟨e1, e2, e3⟩ := hsl.out hfd
  have hS : chpS Y Z T E to un = s := hs.out.symm
  have hlt : s.1 < (wsL Y to un).length := by have h9 := chpK_at (Y := Y) (Z := Z) (T := T) (E := E) (L := wsL Y to un) _ (by rw [← hs.out]; exact hfd); rw [← hs.out] at h9; exact h9
  have hC0 : chpC Y Z T E to un = 0 := by rw [hcc.out, hS, if_pos hfd]
  have hL0 : chpL Y Z T E to un = (wsL Y to un).getD s.1 [] := by unfold chpL; rw [if_pos hC0, hS]
  have hG0 : chpG Y Z T E to un = s.2.1 := by unfold chpG; rw [if_pos hC0, hS]
  have hN0 : chpN Y Z T E to un = s.2.2.1 := by unfold chpN; rw [if_pos hC0, hS]
  refine TW.skip ?_
  refine TQ.thenN (hY26 _ _ ?_)
  refine TW.seq fun Y29 hY29 => ?_
  refine TW.region ?_
  refine TL.p Pu.mv ?_
  refine TL.p Pu.mv ?_
  refine TL.p Pu.mv ?_
  refine TL.p Pu.as ?_
  refine TL.p Pu.as ?_
  refine TL.p Pu.as ?_
  refine TL.p Pu.as ?_
  refine TL.nil ?_
  refine TQ.thenN (hY29 _ _ ?_)
  refine TW.ret ?_
  refine TQ.ret Tryz.results43 rfl ((.tmp rfl (.tmp rfl (.tmp rfl (.tmp rfl .nil))))) ?_
  exact fun w hw => ⟨((z.1, z.2.1), Ag, ag), by unfold chpV; rw [hL0, hG0, hN0, hC0, ← e3]; rfl, by unfold chpF; rw [hL0, hG0, e1, e2]; exact sat_bunM (hw.sub (KSub.cons pk9 (KSub.cons pk9 KSub.nil))) (lks_mem hlt)⟩
end
end Go.Proofs.YtmonkjnfjgidbaaGreatDoor
namespace Go.Proofs.YtmonkjnfjgidbaaGreatDoor
set_option linter.all false
set_option linter.unusedVariables false
set_option linter.unusedSimpArgs false
open Go.RowKit
set_option maxRecDepth 100000 in
theorem neToll (x y : Operand) (v : TlX) (w : World) : (do eqGuard .neq 78 x y (.agg (tolL v).toArray) (.agg (tolL v).toArray); binOp .neq 78 (.agg (tolL v).toArray) (.agg (tolL v).toArray) : Sem Value).run Tryz.prog w = .ok (.bool false) w := by
  unfold tolL
  go_simp
set_option maxRecDepth 100000 in
theorem sameTolls_any {A B : Option Addr} {L : List TlX} {c1 c2 : Nat} {w : World} (hn : L.length ≤ 1000000) (hA : RdR w 4 A L.length (rowsT L)) (hB : RdR w 4 B L.length (rowsT L)) :
    Calls Tryz.prog 22 #[.slice A L.length c1, .slice B L.length c2] w (Ret w (.bool true)) := by
  unfold rowsT at hA hB
  refine K_enter (S := []) (K := []) Tryz.func22 rfl Tryz.ntmps22 rfl (Sat.start _) ?_
  refine TW.seq fun Y1 hY1 => ?_
  refine TW.region ?_
  refine TL.p Pu.as ?_
  refine TL.nil ?_
  refine TQ.thenN (hY1 _ _ ?_)
  refine TW.seq fun Y2 hY2 => ?_
  refine TW.seq fun Y3 hY3 => ?_
  refine TW.region ?_
  refine TL.p Pu.mv ?_
  refine TL.p (Pu.ln Tryz.underlying45) ?_
  refine TL.p Pu.mv ?_
  refine TL.p (Pu.ln Tryz.underlying45) ?_
  refine TL.p Pu.ne ?_
  refine TL.nil ?_
  refine TQ.thenN (hY3 _ _ ?_)
  refine TW.condF rfl ((by simp)) ?_
  refine TW.skip ?_
  refine TQ.thenN (hY2 _ _ ?_)
  refine TW.seq fun Y4 hY4 => ?_
  refine TW.seq fun Y5 hY5 => ?_
  refine TW.region ?_
  refine TL.p Pu.as ?_
  refine TL.nil ?_
  refine TQ.thenN (hY5 _ _ ?_)
  refine TW.block ?_
  refine TW.loop1 (fun (i : Nat) => [(5, .int .i64 (i : Int)), (0, .slice A L.length c1), (1, .slice B L.length c2)]) (fun i => []) (fun i => i ≤ L.length) (fun i => L.length - i) 0 fs9 ?_ ?_ ?_
  exact ks9
  exact Nat.zero_le _
  rintro i hi Z0 hZ0
  refine TW.seq fun Y6 hY6 => ?_
  refine TW.seq fun Y7 hY7 => ?_
  refine TW.region ?_
  refine TL.p Pu.mv ?_
  refine TL.p Pu.mv ?_
  refine TL.p (Pu.ln Tryz.underlying45) ?_
  refine TL.p Pu.lt ?_
  refine TL.nil ?_
  refine TQ.thenN (hY7 _ _ ?_)
  refine TW.cond rfl (fun hc1 => ?_) (fun hc1 => ?_)
  try simp only [decide_eq_true_eq, decide_eq_false_iff_not, Bool.not_eq_true', Bool.not_eq_false', Bool.and_eq_true, Bool.or_eq_true, Bool.and_eq_false_iff, Bool.or_eq_false_iff, Int.not_lt, Int.not_le] at hc1
  have hin : i < L.length := by omega
  refine TW.skip ?_
  refine TQ.thenN (hY6 _ _ ?_)
  refine TW.seq fun Y8 hY8 => ?_
  refine TW.block ?_
  refine TW.seq fun Y9 hY9 => ?_
  refine TW.dw 9 ?_
  refine RK.tk Pu.mv ?_
  refine RK.tk Pu.mv ?_
  refine RK.tk (Pu.el ty_et45) ?_
  refine RK.tk (Pu.lds ty_ag78) ?_
  refine RK.tk Pu.mv ?_
  refine RK.tk Pu.mv ?_
  refine RK.tk (Pu.el ty_et45) ?_
  refine RK.tk (Pu.lds ty_ag78) ?_
  refine RK.tk (Pu.bn rfl rfl (fun w => neToll _ _ (L.getD i (0, 0, 0, 0)) w)) ?_
  refine RK.ch [] ?_ trivial
  refine WK.n ?_
  refine TL.nil ?_
  refine TQ.thenN (hY9 _ _ ?_)
  refine TW.condF rfl (rfl) ?_
  refine TW.skip ?_
  refine TQ.blkN ?_
  refine TQ.thenN (hY8 _ _ ?_)
  refine TW.region ?_
  refine TL.p Pu.mv ?_
  refine TL.p Pu.ad ?_
  refine TL.p Pu.as ?_
  refine TL.nil ?_
  refine TQ.thenN (hZ0 (i + 1) _ _ ?_ ?_ fs9 ?_)
  exact (by omega)
  exact (by first | omega | (simp only []; omega) | (simp; omega))
  exact ks9
  try simp only [decide_eq_true_eq, decide_eq_false_iff_not, Bool.not_eq_true', Bool.not_eq_false', Bool.and_eq_true, Bool.or_eq_true, Bool.and_eq_false_iff, Bool.or_eq_false_iff, Int.not_lt, Int.not_le] at hc1
  have hin : i = L.length := by omega
  refine TW.exit ?_
  refine TQ.thenX ?_
  refine TQ.thenX ?_
  refine TQ.blkX ?_
  refine TQ.thenN (hY4 _ _ ?_)
  refine TW.seq fun Y10 hY10 => ?_
  refine TW.region ?_
  refine TL.p Pu.as ?_
  refine TL.nil ?_
  refine TQ.thenN (hY10 _ _ ?_)
  refine TW.ret ?_
  refine TQ.ret Tryz.results22 rfl ((.tmp rfl .nil)) ?_
  exact fun w hw => Ret.of hw
def sameN (n1 : Nat) (v1 : Nat → Int) (n2 : Nat) (v2 : Nat → Int) : Bool := decide (n1 = n2) && allB n1 (fun k => decide (v1 k = v2 k))
theorem sameN_self {n : Nat} {v : Nat → Int} : sameN n v n v = true := by
  unfold sameN
  rw [decide_eq_true rfl, Bool.true_and, allB_iff]
  exact fun _ _ => decide_eq_true rfl
set_option maxRecDepth 100000 in
theorem sameInts3_any {A B : Option Addr} {n1 n2 c1 c2 : Nat} {v1 v2 : Nat → Int} {w : World} (hn : n1 ≤ 1000000000) (hA : RdR w 1 A n1 (fun k => [.int .i64 (v1 k)])) (hB : RdR w 1 B n2 (fun k => [.int .i64 (v2 k)])) :
    Calls Tryz.prog 26 #[.slice A n1 c1, .slice B n2 c2] w (Ret w (.bool (sameN n1 v1 n2 v2))) := by
  refine K_enter (S := []) (K := []) Tryz.func26 rfl Tryz.ntmps26 rfl (Sat.start _) ?_
  refine TW.seq fun Y1 hY1 => ?_
  refine TW.region ?_
  refine TL.p Pu.as ?_
  refine TL.nil ?_
  refine TQ.thenN (hY1 _ _ ?_)
  refine TW.seq fun Y2 hY2 => ?_
  refine TW.seq fun Y3 hY3 => ?_
  refine TW.region ?_
  refine TL.p Pu.mv ?_
  refine TL.p (Pu.ln Tryz.underlying31) ?_
  refine TL.p Pu.mv ?_
  refine TL.p (Pu.ln Tryz.underlying31) ?_
  refine TL.p Pu.ne ?_
  refine TL.nil ?_
  refine TQ.thenN (hY3 _ _ ?_)
  refine TW.cond rfl (fun hc0 => ?_) (fun hc0 => ?_)
  try simp only [decide_eq_true_eq, decide_eq_false_iff_not, Bool.not_eq_true', Bool.not_eq_false', Bool.and_eq_true, Bool.or_eq_true, Bool.and_eq_false_iff, Bool.or_eq_false_iff, Int.not_lt, Int.not_le] at hc0
  refine TW.seq fun Y4 hY4 => ?_
  refine TW.region ?_
  refine TL.p Pu.as ?_
  refine TL.nil ?_
  refine TQ.thenN (hY4 _ _ ?_)
  refine TW.ret ?_
  refine TQ.thenR ?_
  refine TQ.ret Tryz.results26 rfl ((.tmp rfl .nil)) ?_
  exact fun w hw => ⟨ret_bool (by
    have : ¬ n1 = n2 := fun e => by subst e; simp at hc0
    simp [sameN, this]), Chg.ext hw.chg⟩
  try simp only [decide_eq_true_eq, decide_eq_false_iff_not, Bool.not_eq_true', Bool.not_eq_false', Bool.and_eq_true, Bool.or_eq_true, Bool.and_eq_false_iff, Bool.or_eq_false_iff, Int.not_lt, Int.not_le] at hc0
  have hnn : n1 = n2 := by
    have : ¬ ¬ ((n1 : Int) = (n2 : Int)) := by simpa using hc0
    omega
  refine TW.skip ?_
  refine TQ.thenN (hY2 _ _ ?_)
  refine TW.seq fun Y5 hY5 => ?_
  refine TW.seq fun Y6 hY6 => ?_
  refine TW.region ?_
  refine TL.p Pu.as ?_
  refine TL.nil ?_
  refine TQ.thenN (hY6 _ _ ?_)
  refine TW.block ?_
  refine TW.loop1 (fun (k : Nat) => [(5, .int .i64 (k : Int)), (0, .slice A n1 c1), (1, .slice B n2 c2)]) (fun k => []) (fun k => k ≤ n1 ∧ ∀ j, j < k → v1 j = v2 j) (fun k => n1 - k) 0 fs9 ?_ ?_ ?_
  exact ks9
  exact ⟨by omega, fun j hj => by omega⟩
  rintro k ⟨hk, hall⟩ Z0 hZ0
  refine TW.seq fun Y7 hY7 => ?_
  refine TW.seq fun Y8 hY8 => ?_
  refine TW.region ?_
  refine TL.p Pu.mv ?_
  refine TL.p Pu.mv ?_
  refine TL.p (Pu.ln Tryz.underlying31) ?_
  refine TL.p Pu.lt ?_
  refine TL.nil ?_
  refine TQ.thenN (hY8 _ _ ?_)
  refine TW.cond rfl (fun hc1 => ?_) (fun hc1 => ?_)
  try simp only [decide_eq_true_eq, decide_eq_false_iff_not, Bool.not_eq_true', Bool.not_eq_false', Bool.and_eq_true, Bool.or_eq_true, Bool.and_eq_false_iff, Bool.or_eq_false_iff, Int.not_lt, Int.not_le] at hc1
  refine TW.skip ?_
  refine TQ.thenN (hY7 _ _ ?_)
  refine TW.seq fun Y9 hY9 => ?_
  refine TW.block ?_
  refine TW.seq fun Y10 hY10 => ?_
  refine TW.dw 9 ?_
  refine RK.tk Pu.mv ?_
  refine RK.tk Pu.mv ?_
  refine RK.tk (Pu.el ty_et31) ?_
  refine RK.tk (Pu.ld ty_sc3) ?_
  refine RK.tk Pu.mv ?_
  refine RK.tk Pu.mv ?_
  refine RK.tk (Pu.el ty_et31) ?_
  refine RK.tk (Pu.ld ty_sc3) ?_
  refine RK.tk Pu.ne ?_
  refine RK.ch [] ?_ trivial
  refine WK.n ?_
  refine TL.nil ?_
  refine TQ.thenN (hY10 _ _ ?_)
  refine TW.cond rfl (fun hc2 => ?_) (fun hc2 => ?_)
  try simp only [decide_eq_true_eq, decide_eq_false_iff_not, Bool.not_eq_true', Bool.not_eq_false', Bool.and_eq_true, Bool.or_eq_true, Bool.and_eq_false_iff, Bool.or_eq_false_iff, Int.not_lt, Int.not_le] at hc2
  have hbad : ¬ v1 k = v2 k := by simpa using hc2
  refine TW.seq fun Y11 hY11 => ?_
  refine TW.region ?_
  refine TL.p Pu.as ?_
  refine TL.nil ?_
  refine TQ.thenN (hY11 _ _ ?_)
  refine TW.ret ?_
  refine TQ.blkR ?_
  refine TQ.thenR ?_
  refine TQ.thenR ?_
  refine TQ.blkR ?_
  refine TQ.thenR ?_
  refine TQ.ret Tryz.results26 rfl ((.tmp rfl .nil)) ?_
  exact fun w hw => ⟨ret_bool (by
    cases h : sameN n1 v1 n2 v2 with
    | false => rfl
    | true =>
      simp only [sameN, Bool.and_eq_true, allB_iff, decide_eq_true_eq] at h
      exact absurd (h.2 k (by omega)) hbad), Chg.ext hw.chg⟩
  try simp only [decide_eq_true_eq, decide_eq_false_iff_not, Bool.not_eq_true', Bool.not_eq_false', Bool.and_eq_true, Bool.or_eq_true, Bool.and_eq_false_iff, Bool.or_eq_false_iff, Int.not_lt, Int.not_le] at hc2
  have hgood : v1 k = v2 k := by simpa using hc2
  refine TW.skip ?_
  refine TQ.blkN ?_
  refine TQ.thenN (hY9 _ _ ?_)
  refine TW.region ?_
  refine TL.p Pu.mv ?_
  refine TL.p Pu.ad ?_
  refine TL.p Pu.as ?_
  refine TL.nil ?_
  refine TQ.thenN (hZ0 (k + 1) _ _ ?_ ?_ fs9 ?_)
  refine ⟨by omega, fun j hj => ?_⟩
  by_cases h : j = k
  subst h; exact hgood
  exact hall j (by omega)
  exact (by first | omega | (simp only []; omega) | (simp; omega))
  exact ks9
  try simp only [decide_eq_true_eq, decide_eq_false_iff_not, Bool.not_eq_true', Bool.not_eq_false', Bool.and_eq_true, Bool.or_eq_true, Bool.and_eq_false_iff, Bool.or_eq_false_iff, Int.not_lt, Int.not_le] at hc1
  refine TW.exit ?_
  refine TQ.thenX ?_
  refine TQ.thenX ?_
  refine TQ.blkX ?_
  refine TQ.thenN (hY5 _ _ ?_)
  refine TW.seq fun Y12 hY12 => ?_
  refine TW.region ?_
  refine TL.p Pu.as ?_
  refine TL.nil ?_
  refine TQ.thenN (hY12 _ _ ?_)
  refine TW.ret ?_
  refine TQ.ret Tryz.results26 rfl ((.tmp rfl .nil)) ?_
  exact fun w hw => ⟨ret_bool (by
    obtain rfl : k = n1 := by omega
    simp only [sameN, Bool.and_eq_true, allB_iff, decide_eq_true_eq]
    exact ⟨hnn, hall⟩), Chg.ext hw.chg⟩
theorem same3_true {A B : Option Addr} {n c1 c2 : Nat} {v : Nat → Int} {w : World} (hn : n ≤ 1000000000) (hA : RdR w 1 A n (fun k => [.int .i64 (v k)])) (hB : RdR w 1 B n (fun k => [.int .i64 (v k)])) :
    Calls Tryz.prog 26 #[.slice A n c1, .slice B n c2] w (Ret w (.bool true)) := by
  have h := sameInts3_any (c1 := c1) (c2 := c2) hn hA hB
  rwa [sameN_self] at h
section
variable {T : Trp} {O U V O' U' V' : Option Addr} {co cu cv co' cu' cv' : Nat} {w w0 : World} {S : List Nat} {K : List Fact}
end
end Go.Proofs.YtmonkjnfjgidbaaGreatDoor
namespace Go.Proofs.YtmonkjnfjgidbaaGreatDoor
set_option linter.all false
set_option linter.unusedVariables false
set_option linter.unusedSimpArgs false
open Go.RowKit
def Yt (Y : Wy) (a : Nat → Option Addr) (e : Nat → Nat) : Wy := { Y with x := fun k => lgA (Y.x k) (a k) (e k) }
section
variable {Y : Wy} {Z : Cus} {T : Trp} {a : Nat → Option Addr} {e : Nat → Nat}
end
section
variable {nw nl nc nd nb : Nat} {f : Nat → Nat → Int} {x : Nat → Leg} {g : Nat → Nat → Nat → Int} {c : Nat → (Nat → Int) × Bool} {d b : Nat → Nat → Int} {T : Trp} {w w0 : World} {S : List Nat} {K : List Fact}
end
section
variable {Y : Wy} {Z : Cus} {T : Trp} {W A L C D B O U V : Option Addr} {cw cl cn cc cd cb co cu cv : Nat} {w : World} {a : Nat → Option Addr} {e : Nat → Nat}
theorem tollBarred_tw (hL : LandIn w W Y.nw A Y.nl Y.f (fun k => lgA (Y.x k) (a k) (e k)) Y.g) (hn : Y.n ≤ 1000) (hR : RdR w 1 L Y.n (fun k => [.int .i64 (Y.ls k)])) (h : CustIn w C Z.nc D Z.nd B Z.nb Z.c Z.d Z.b) (t : TrpIn w T O U V) (hG : OldB w 0 barsL) :
    Calls Tryz.prog 18 #[.agg (landL W Y.nw cw A Y.nl cl).toArray, .agg (custL C Z.nc cc D Z.nd cd B Z.nb cb).toArray, .agg (troopL T.hd T.wo O T.no co U T.nu cu V T.nv cv).toArray, .int .i64 Y.start, .int .i64 Y.day, .agg #[.int .i64 Y.p0, .int .i64 Y.p1], .slice L Y.n cn] w (Ret w (.tuple #[.int .u8 (barA Y Z T).1, .int .i64 (barA Y Z T).2, .int .i64 (tolC Y Z T)])) :=
  tollBarred_any (Y := Yt Y a e) hL hn hR h t hG
theorem tollDue_tw (hL : LandIn w W Y.nw A Y.nl Y.f (fun k => lgA (Y.x k) (a k) (e k)) Y.g) (hn : Y.n ≤ 1000) (hR : RdR w 1 L Y.n (fun k => [.int .i64 (Y.ls k)])) (h : CustIn w C Z.nc D Z.nd B Z.nb Z.c Z.d Z.b) (t : TrpIn w T O U V) :
    CallsK Tryz.prog 20 #[.agg (landL W Y.nw cw A Y.nl cl).toArray, .agg (custL C Z.nc cc D Z.nd cd B Z.nb cb).toArray, .agg (troopL T.hd T.wo O T.no co U T.nu cu V T.nv cv).toArray, .int .i64 Y.start, .int .i64 Y.day, .agg #[.int .i64 Y.p0, .int .i64 Y.p1], .slice L Y.n cn] [] w (Option Addr × Nat) (dueV Y Z T) (dueK Y Z T) :=
  tollDue_any (Y := Yt Y a e) hL hn hR h t
theorem great_all {no nu nv : Nat} {nc nd nb nw nl : Nat} {x : Nat → Leg} (h : great7 nw nl x nc nd nb no nu nv = false) : (nw ≤ 1000 ∧ nl ≤ 1000 ∧ ∀ k, k < nl → (x k).n ≤ 1000) ∧ (nc ≤ 1000 ∧ nd ≤ 1000 ∧ nb ≤ 1000) ∧ no ≤ 1000 ∧ nu ≤ 1000 ∧ nv ≤ 1000 := by
  obtain ⟨h1, h2, h3, h4, h5, h6, h7, h8, h9⟩ := great_small h
  exact ⟨⟨by omega, by omega, fun k hk => by have := h3 k hk; omega⟩, ⟨by omega, by omega, by omega⟩, by omega, by omega, by omega⟩
end
end Go.Proofs.YtmonkjnfjgidbaaGreatDoor
namespace Go.Proofs.YtmonkjnfjgidbaaGreatDoor
set_option linter.all false
set_option linter.unusedVariables false
set_option linter.unusedSimpArgs false
open Go.RowKit
def gx (ns : List Int) (j : Nat) : Int := ns.getD j 0
def exX (k : Nat) : Leg := ⟨gx [(k : Int), (k : Int) + 1, 100000, 100000], none, 1, 1⟩
def exG : Nat → Int := gx [0, 0, 1000, 1000]
def exY : Wy := ⟨3, 2, fun _ _ => 0, exX, fun _ _ => exG, 20000, 25000, 0, 10, 2, fun k => (k : Int)⟩
def exC : Nat → (Nat → Int) × Bool
  | 0 => (gx [0, 1, 0, 12, 5, 0], false)
  | 1 => (gx [0, 2, 5, 100, 8, 0], true)
  | _ => (gx [1, 3, 0, 14, 0, 10], false)
def exD (_ : Nat) : Nat → Int := gx [2, 4, 13, 20]
def exZ : Cus := ⟨3, 1, 0, exC, exD, fun _ _ => 0⟩
def exP : Cus := ⟨3, 0, 0, exC, fun _ _ => 0, fun _ _ => 0⟩
def exT : Trp := ⟨10, 1000, 1, 0, 0, fun _ => 4, fun _ => 0, fun _ => 0⟩
def exE : Fes := ⟨2, fun k => (k : Int) + 1, fun k => 10 * (k : Int) + 20⟩
theorem eHold : holdA (checkC 3 2 (fun _ _ => 0) exX (fun _ _ => exG) 3 1 0 exC exD (fun _ _ => 0)) 2 0 12 (hb 0 12 exC 3) = 0 ∧ holdE (checkC 3 2 (fun _ _ => 0) exX (fun _ _ => exG) 3 1 0 exC exD (fun _ _ => 0)) 2 0 12 = 0 := by decide +kernel
theorem eBar : barA exY exZ exT = (2, 0) ∧ tolC exY exZ exT = 0 := by decide +kernel
theorem eDue : dueL exY exZ exT = [(0, 1, 50, 50), (1, 3, 0, 10)] ∧ dueLo exY exZ exT = 50 ∧ dueHi exY exZ exT = 60 := by decide +kernel
theorem eHir : hirL exY exP exT exE = [2] ∧ hirN exY exP exT exE = 30 ∧ hirC exY exP exT exE = 0 := by decide +kernel
theorem eDis : disL (checkC 3 2 (fun _ _ => 0) exX (fun _ _ => exG) 3 1 0 exC exD (fun _ _ => 0)) 3 exC = [(0, 1)] ∧ checkC 3 2 (fun _ _ => 0) exX (fun _ _ => exG) 3 1 0 exC exD (fun _ _ => 0) = 0 := by decide +kernel
end Go.Proofs.YtmonkjnfjgidbaaGreatDoor
namespace Go.Proofs.YtmonkjnfjgidbaaGreatDoor
set_option linter.all false
set_option linter.unusedVariables false
set_option linter.unusedSimpArgs false
open Go.RowKit
theorem span7_any (a b : Int) (w : World) : Calls Tryz.prog 31 #[.int .i64 a, .int .i64 b] w (Ret w (.agg #[.int .i64 a, .int .i64 b])) := by
  refine K_enter (S := []) (K := []) Tryz.func31 rfl Tryz.ntmps31 rfl (Sat.start _) ?_
  refine TW.seq fun Y1 hY1 => ?_
  refine TW.region ?_
  refine TL.m (Mk.al ty_zr35) ?_
  intro b1
  refine TL.nil ?_
  refine TQ.thenN (hY1 _ _ ?_)
  refine TW.seq fun Y2 hY2 => ?_
  refine TW.region ?_
  refine TL.p Pu.mv ?_
  refine TL.p Pu.mv ?_
  refine TL.p Pu.bd ?_
  first | refine TL.st ty_sz35 ?_ | refine TL.se ty_sz35 ?_
  refine TL.nil ?_
  refine TQ.thenN (hY2 _ _ ?_)
  refine TW.ret ?_
  refine TQ.ret Tryz.results31 rfl ((RV.cs ty_ag35 .nil)) ?_
  exact fun w hw => Ret.of hw
theorem speed_any (w : World) : Calls Tryz.prog 49 #[] w (Ret w (.agg #[.int .i64 20000, .int .i64 25000])) := by
  refine K_enter (S := []) (K := []) Tryz.func49 rfl Tryz.ntmps49 rfl (Sat.start _) ?_
  refine TW.seq fun Y1 hY1 => ?_
  refine TW.region ?_
  refine TL.m (Mk.al ty_zr35) ?_
  intro b1
  refine TL.nil ?_
  refine TQ.thenN (hY1 _ _ ?_)
  refine TW.seq fun Y2 hY2 => ?_
  refine TW.region ?_
  refine TL.cr rfl (enters Tryz.func31 rfl rfl) (fun w hw => by
      exact span7_any _ _ _) ?_
  first | refine TL.st ty_sz35 ?_ | refine TL.se ty_sz35 ?_
  refine TL.nil ?_
  refine TQ.thenN (hY2 _ _ ?_)
  refine TW.ret ?_
  refine TQ.ret Tryz.results49 rfl ((RV.cs ty_ag35 .nil)) ?_
  exact fun w hw => Ret.of hw
def exLf (x : Nat × Nat × Nat) : List Fact := [.own (some ⟨x.1, 0, none⟩) 3 3 136 9 (fun _ => wellL (fun _ => 0)), .own (some ⟨x.2.1, 0, none⟩) 2 2 122 5 (fun k => legL (lgA (exX k) (some ⟨x.2.2, 0, none⟩) 1)), .own (some ⟨x.2.2, 0, none⟩) 1 1 138 4 (fun _ => gateL exG)]
theorem exLand_in {w : World} {x : Nat × Nat × Nat} (h : (bun (exLf x)).holds w) : LandIn w (some ⟨x.1, 0, none⟩) exY.nw (some ⟨x.2.1, 0, none⟩) exY.nl exY.f (fun k => lgA (exY.x k) (some ⟨x.2.2, 0, none⟩) 1) exY.g :=
  ⟨by decide, by decide, OwnR.rdr (h.now _ (List.mem_cons_self ..)), OwnR.rdr (h.now _ (List.mem_cons_of_mem _ (List.mem_cons_self ..))), fun _ _ => by show 1 ≤ 1000; decide, fun _ _ => OwnR.rdr (h.now _ (List.mem_cons_of_mem _ (List.mem_cons_of_mem _ (List.mem_cons_self ..))))⟩
set_option maxRecDepth 100000 in
theorem exLand_any (w : World) : CallsK Tryz.prog 45 #[] [] w (Nat × Nat × Nat) (fun x => .agg (landL (some ⟨x.1, 0, none⟩) 3 3 (some ⟨x.2.1, 0, none⟩) 2 2).toArray) (fun x => [bun (exLf x)]) := by
  unfold landL
  refine K_enter (S := []) (K := []) Tryz.func45 rfl Tryz.ntmps45 rfl (Sat.start _) ?_
  refine TW.seq fun Y1 hY1 => ?_
  refine TW.region ?_
  refine TL.m (Mk.al ty_zr25) ?_
  intro b1
  refine TL.nil ?_
  refine TQ.thenN (hY1 _ _ ?_)
  refine TW.seq fun Y2 hY2 => ?_
  refine TW.region ?_
  refine TL.cr rfl (enters Tryz.func31 rfl rfl) (fun w hw => by
      exact span7_any _ _ _) ?_
  refine TL.p Pu.bd ?_
  refine TL.m Mk.bl ?_
  intro b2
  refine TL.p Pu.as ?_
  refine TL.nil ?_
  refine TQ.thenN (hY2 _ _ ?_)
  refine TW.seq fun Y3 hY3 => ?_
  refine TW.region ?_
  refine TL.cr rfl (enters Tryz.func31 rfl rfl) (fun w hw => by
      exact span7_any _ _ _) ?_
  refine TL.m (Mk.al ty_zr35) ?_
  intro b3
  first | refine TL.st ty_sz35 ?_ | refine TL.se ty_sz35 ?_
  refine TL.nil ?_
  refine TQ.thenN (hY3 _ _ ?_)
  refine TW.seq fun Y4 hY4 => ?_
  refine TW.expk [.blk b3 35 [.int .i64 100000, .int .i64 100000]] (fun (⟨b0, x7⟩ : Nat × Nat) => ([(0, .pointer (some ⟨b1, 0, none⟩))] : Fr)) (fun (⟨b0, x7⟩ : Nat × Nat) => [.blk b1 25 [.slice (some ⟨b0, 0, none⟩) 3 3, .slice (some ⟨x7, 0, none⟩) 2 2], .own (some ⟨b0, 0, none⟩) 3 3 136 9 (fun _ => wellL (fun _ => 0)), .blk x7 122 [.int .i64 0, .int .i64 1, .int .i64 100000, .int .i64 100000, .slice (some ⟨b2, 0, none⟩) 1 1, .int .i64 1, .int .i64 2, .int .i64 100000, .int .i64 100000, .slice (some ⟨b2, 0, none⟩) 1 1], .blk b2 138 [.int .i64 0, .int .i64 0, .int .i64 1000, .int .i64 1000]]) ?_ (fun hE => ?_)
  rintro ⟨b0, x7⟩
  refine TQ.thenN (hY4 _ _ ?_)
  refine TW.ret ?_
  refine TQ.ret Tryz.results45 rfl ((RV.cs ty_ag25 .nil)) ?_
  refine fun w hw => ⟨(b0, x7, b2), rfl, ?_⟩
  have h1 := hw.sub (L := exLf (b0, x7, b2)) (KSub.cons pk9 (KSub.ofBlk pk9 rfl (fun i hi => rfl) rfl rfl (KSub.ofBlk pk9 rfl (fun i hi => rfl) rfl rfl KSub.nil)))
  exact Sat.bun (K := []) (by rw [List.append_nil]; exact h1)
  refine RG.tk 1 rfl (Pu.lds ty_ag35) ?_
  refine RG.tk 2 rfl Pu.mv ?_
  refine RG.tk 3 rfl Pu.bd ?_
  refine RG.tk 4 rfl (Pu.lds ty_ag35) ?_
  refine RG.tk 5 rfl Pu.mv ?_
  refine RG.tk 6 rfl Pu.bd ?_
  refine RG.a2 0 7 rfl rfl (fun X0 hX0 => ?_) (fun X7 hX7 => ?_)
  refine TL.ms ty_et22 ty_zr136 ?_
  intro b0
  refine TL.nil ?_
  refine TQ.nxt (hX0 _ _ hl9 ?_)
  refine RG.a1 7 rfl (fun X7 hX7 => ?_)
  refine TL.m Mk.bl ?_
  intro x7
  refine TL.nil ?_
  refine TQ.nxt (hX7 _ _ hl9 ?_)
  refine RG.tk 8 rfl Pu.bd ?_
  refine RG.a1 9 rfl (fun X9 hX9 => ?_)
  first | refine TL.st ty_sz25 ?_ | refine TL.se ty_sz25 ?_
  refine TL.nil ?_
  refine TQ.nxt (hX9 _ _ hl9 ?_)
  exact RG.nil (TQ.sub fs9 kt9 (hE ⟨b0, x7⟩)) (by kernel_rfl)
  refine TL.m Mk.bl ?_
  intro x7
  refine TL.nil ?_
  refine TQ.nxt (hX7 _ _ hl9 ?_)
  refine RG.a1 0 rfl (fun X0 hX0 => ?_)
  refine TL.ms ty_et22 ty_zr136 ?_
  intro b0
  refine TL.nil ?_
  refine TQ.nxt (hX0 _ _ hl9 ?_)
  refine RG.tk 8 rfl Pu.bd ?_
  refine RG.a1 9 rfl (fun X9 hX9 => ?_)
  first | refine TL.st ty_sz25 ?_ | refine TL.se ty_sz25 ?_
  refine TL.nil ?_
  refine TQ.nxt (hX9 _ _ hl9 ?_)
  exact RG.nil (TQ.sub fs9 kt9 (hE ⟨b0, x7⟩)) (by kernel_rfl)
def exCf (x : Nat × Nat) : List Fact := [.own (some ⟨x.1, 0, none⟩) 3 3 71 7 (fun k => claimL (exC k)), .own (some ⟨x.2, 0, none⟩) 1 1 73 4 (fun k => feudL (exD k))]
theorem exCus_in {w : World} {x : Nat × Nat} (h : (bun (exCf x)).holds w) : CustIn w (some ⟨x.1, 0, none⟩) exZ.nc (some ⟨x.2, 0, none⟩) exZ.nd none exZ.nb exZ.c exZ.d exZ.b :=
  ⟨by decide, by decide, by decide, OwnR.rdr (h.now _ (List.mem_cons_self ..)), OwnR.rdr (h.now _ (List.mem_cons_of_mem _ (List.mem_cons_self ..))), ⟨Rd.nil, fun i hi => (by exact absurd hi (Nat.not_lt_zero _))⟩⟩
theorem exPea_in {w : World} {x : Nat × Nat} (h : (bun (exCf x)).holds w) : CustIn w (some ⟨x.1, 0, none⟩) exP.nc none exP.nd none exP.nb exP.c exP.d exP.b :=
  ⟨by decide, by decide, by decide, OwnR.rdr (h.now _ (List.mem_cons_self ..)), ⟨Rd.nil, fun i hi => (by exact absurd hi (Nat.not_lt_zero _))⟩, ⟨Rd.nil, fun i hi => (by exact absurd hi (Nat.not_lt_zero _))⟩⟩
set_option maxRecDepth 100000 in
theorem exCus_any (w : World) : CallsK Tryz.prog 46 #[] [] w (Nat × Nat) (fun x => .agg (custL (some ⟨x.1, 0, none⟩) 3 3 (some ⟨x.2, 0, none⟩) 1 1 none 0 0).toArray) (fun x => [bun (exCf x)]) := by
  unfold custL
  refine K_enter (S := []) (K := []) Tryz.func46 rfl Tryz.ntmps46 rfl (Sat.start _) ?_
  refine TW.seq fun Y1 hY1 => ?_
  refine TW.region ?_
  refine TL.m (Mk.al ty_zr30) ?_
  intro b1
  refine TL.nil ?_
  refine TQ.thenN (hY1 _ _ ?_)
  refine TW.seq fun Y2 hY2 => ?_
  refine TW.region ?_
  refine TL.p Pu.bd ?_
  refine TL.p Pu.bd ?_
  refine TL.p Pu.bd ?_
  refine TL.m Mk.bl ?_
  intro b2
  refine TL.p Pu.bd ?_
  refine TL.m Mk.bl ?_
  intro b3
  refine TL.p Pu.bd ?_
  first | refine TL.st ty_sz30 ?_ | refine TL.se ty_sz30 ?_
  refine TL.nil ?_
  refine TQ.thenN (hY2 _ _ ?_)
  refine TW.ret ?_
  refine TQ.ret Tryz.results46 rfl ((RV.cs ty_ag30 .nil)) ?_
  refine fun w hw => ⟨(b2, b3), rfl, ?_⟩
  have h1 := hw.sub (L := exCf (b2, b3)) (KSub.ofBlk pk9 rfl (fun i hi => rfl) rfl rfl (KSub.ofBlk pk9 rfl (fun i hi => rfl) rfl rfl KSub.nil))
  exact Sat.bun (K := []) (by rw [List.append_nil]; exact h1)
set_option maxRecDepth 100000 in
theorem exPea_any (w : World) : CallsK Tryz.prog 47 #[] [] w (Nat × Nat) (fun x => .agg (custL (some ⟨x.1, 0, none⟩) 3 3 none 0 0 none 0 0).toArray) (fun x => [bun (exCf x)]) := by
  have fC := fun (w' : World) => exCus_any w'
  unfold custL at fC ⊢
  refine K_enter (S := []) (K := []) Tryz.func47 rfl Tryz.ntmps47 rfl (Sat.start _) ?_
  refine TW.seq fun Y1 hY1 => ?_
  refine TW.region ?_
  refine TL.m (Mk.al ty_zr30) ?_
  intro b1
  refine TL.nil ?_
  refine TQ.thenN (hY1 _ _ ?_)
  refine TW.seq fun Y2 hY2 => ?_
  refine TW.region ?_
  refine TL.call (M := []) rfl (enters Tryz.func46 rfl rfl) (List.Perm.refl _) rfl (fun w hw => by
      exact fC _) ?_
  rintro ⟨bC, bD⟩
  refine TL.p Pu.fd ?_
  refine TL.p Pu.bd ?_
  first | refine TL.st ty_sz30 ?_ | refine TL.se ty_sz30 ?_
  refine TL.nil ?_
  refine TQ.thenN (hY2 _ _ ?_)
  refine TW.ret ?_
  refine TQ.ret Tryz.results47 rfl ((RV.cs ty_ag30 .nil)) ?_
  exact fun w hw => ⟨(bC, bD), rfl, hw.sub (KSub.cons pk9 KSub.nil)⟩
set_option maxRecDepth 100000 in
theorem exTrp_any {U : Option Addr} {nu cu : Nat} (w : World) : CallsK Tryz.prog 48 #[.slice U nu cu] [] w Nat (fun x => .agg (troopL 10 1000 (some ⟨x, 0, none⟩) 1 1 U nu cu none 0 0).toArray) (fun x => [.own (some ⟨x, 0, none⟩) 1 1 3 1 (fun _ => [.int .i64 4])]) := by
  unfold troopL
  refine K_enter (S := []) (K := []) Tryz.func48 rfl Tryz.ntmps48 rfl (Sat.start _) ?_
  refine TW.seq fun Y1 hY1 => ?_
  refine TW.region ?_
  refine TL.m (Mk.al ty_zr33) ?_
  intro b1
  refine TL.nil ?_
  refine TQ.thenN (hY1 _ _ ?_)
  refine TW.seq fun Y2 hY2 => ?_
  refine TW.region ?_
  refine TL.m Mk.bl ?_
  intro b2
  refine TL.p Pu.mv ?_
  refine TL.p Pu.bd ?_
  first | refine TL.st ty_sz33 ?_ | refine TL.se ty_sz33 ?_
  refine TL.nil ?_
  refine TQ.thenN (hY2 _ _ ?_)
  refine TW.ret ?_
  refine TQ.ret Tryz.results48 rfl ((RV.cs ty_ag33 .nil)) ?_
  exact fun w hw => ⟨b2, rfl, hw.sub (KSub.ofBlk pk9 rfl (fun i hi => rfl) rfl rfl KSub.nil)⟩
theorem exTrp_in {w : World} {b : Nat} (h : (Fact.own (some ⟨b, 0, none⟩) 1 1 3 1 (fun _ => [.int .i64 4])).holds w) : TrpIn w exT (some ⟨b, 0, none⟩) none none :=
  ⟨by decide, by decide, by decide, OwnR.rdr h, ⟨Rd.nil, fun i hi => (by exact absurd hi (Nat.not_lt_zero _))⟩, ⟨Rd.nil, fun i hi => (by exact absurd hi (Nat.not_lt_zero _))⟩⟩
end Go.Proofs.YtmonkjnfjgidbaaGreatDoor
namespace Go.Proofs.YtmonkjnfjgidbaaGreatDoor
set_option linter.all false
set_option linter.unusedVariables false
set_option linter.unusedSimpArgs false
open Go.RowKit
theorem CallsK.to {P : Program} {f : FuncId} {args : Array Value} {M : List Fact} {w : World} {X : Type} {val val2 : X → Value} {L L2 : X → List Fact} (h : CallsK P f args M w X val L) (hv : ∀ x, val x = val2 x) (hL : ∀ x, KSub (L x) (L2 x)) : CallsK P f args M w X val2 L2 :=
  h.mono fun _ _ ⟨x, e, hs⟩ => ⟨x, by rw [e, hv], hs.sub (hL x)⟩
section
variable {w : World} {x : Nat × Nat × Nat} {y : Nat × Nat} {b bl bf : Nat}
abbrev exLa (x : Nat × Nat × Nat) : Value := .agg (landL (some ⟨x.1, 0, none⟩) 3 3 (some ⟨x.2.1, 0, none⟩) 2 2).toArray
abbrev exCa (y : Nat × Nat) : Value := .agg (custL (some ⟨y.1, 0, none⟩) 3 3 (some ⟨y.2, 0, none⟩) 1 1 none 0 0).toArray
abbrev exPa (y : Nat × Nat) : Value := .agg (custL (some ⟨y.1, 0, none⟩) 3 3 none 0 0 none 0 0).toArray
abbrev exTa (b : Nat) : Value := .agg (troopL 10 1000 (some ⟨b, 0, none⟩) 1 1 none 0 0 none 0 0).toArray
abbrev exTo (b : Nat) : Fact := .own (some ⟨b, 0, none⟩) 1 1 3 1 (fun _ => [.int .i64 4])
theorem exLegs {E : TypeId} (h : Blk w bl E #[.int .i64 0, .int .i64 1]) : RdR w 1 (some ⟨bl, 0, none⟩) exY.n (fun k => [.int .i64 (exY.ls k)]) := RdR.blk (cs := [.int .i64 0, .int .i64 1]) (n := 2) (sz := 1) h rfl (fun _ _ => rfl)
set_option maxRecDepth 100000 in
theorem exHold (hL : (bun (exLf x)).holds w) (hC : (bun (exCf y)).holds w) : Calls Tryz.prog 36 #[exLa x, exCa y, .int .i64 0, .int .i64 12] w (Ret w (.tuple #[.int .i64 0, .int .i64 0])) := by
  have h := tollHolder_tw (x := exY.x) (a := fun _ => some ⟨x.2.2, 0, none⟩) (e := fun _ => 1) (cw := 3) (cl := 2) (cc := 3) (cd := 1) (cb := 0) 0 12 (exLand_in hL) (exCus_in hC)
  rw [show holdA (checkC exY.nw exY.nl exY.f exY.x exY.g exZ.nc exZ.nd exZ.nb exZ.c exZ.d exZ.b) exY.nl 0 12 (hb 0 12 exZ.c exZ.nc) = 0 from eHold.1, show holdE (checkC exY.nw exY.nl exY.f exY.x exY.g exZ.nc exZ.nd exZ.nb exZ.c exZ.d exZ.b) exY.nl 0 12 = 0 from eHold.2] at h
  exact h
set_option maxRecDepth 100000 in
theorem exBarr {E : TypeId} (hL : (bun (exLf x)).holds w) (hC : (bun (exCf y)).holds w) (hT : (exTo b).holds w) (hl : Blk w bl E #[.int .i64 0, .int .i64 1]) (hG : OldB w 0 barsL) : Calls Tryz.prog 18 #[exLa x, exCa y, exTa b, .int .i64 0, .int .i64 10, .agg #[.int .i64 20000, .int .i64 25000], .slice (some ⟨bl, 0, none⟩) 2 2] w (Ret w (.tuple #[.int .u8 2, .int .i64 0, .int .i64 0])) := by
  have h := tollBarred_tw (Y := exY) (Z := exZ) (T := exT) (a := fun _ => some ⟨x.2.2, 0, none⟩) (e := fun _ => 1) (cw := 3) (cl := 2) (cn := 2) (cc := 3) (cd := 1) (cb := 0) (co := 1) (cu := 0) (cv := 0) (exLand_in hL) (by decide) (exLegs hl) (exCus_in hC) (exTrp_in hT) hG
  rw [eBar.1, eBar.2] at h
  exact h
set_option maxRecDepth 100000 in
theorem exDues {E : TypeId} (hL : (bun (exLf x)).holds w) (hC : (bun (exCf y)).holds w) (hT : (exTo b).holds w) (hl : Blk w bl E #[.int .i64 0, .int .i64 1]) : CallsK Tryz.prog 20 #[exLa x, exCa y, exTa b, .int .i64 0, .int .i64 10, .agg #[.int .i64 20000, .int .i64 25000], .slice (some ⟨bl, 0, none⟩) 2 2] [] w (Option Addr × Nat) (fun z => .tuple #[.slice z.1 2 z.2, .agg #[.int .i64 50, .int .i64 60], .int .i64 0]) (fun z => [.own z.1 2 z.2 78 4 (rowsT [(0, 1, 50, 50), (1, 3, 0, 10)])]) := by
  have h := tollDue_tw (Y := exY) (Z := exZ) (T := exT) (a := fun _ => some ⟨x.2.2, 0, none⟩) (e := fun _ => 1) (cw := 3) (cl := 2) (cn := 2) (cc := 3) (cd := 1) (cb := 0) (co := 1) (cu := 0) (cv := 0) (exLand_in hL) (by decide) (exLegs hl) (exCus_in hC) (exTrp_in hT)
  refine h.to (fun z => ?_) (fun z => ?_)
  · unfold dueV
    rw [eDue.1, eDue.2.1, eDue.2.2, eBar.2]
    rfl
  · unfold dueK
    rw [eDue.1]
    exact KSub.refl _
theorem tollHire_tw {Y : Wy} {Z : Cus} {T : Trp} {E : Fes} {W A L C D B O U V G : Option Addr} {cw cl cn cc cd cb co cu cv cg : Nat} {a : Nat → Option Addr} {e : Nat → Nat} (hL : LandIn w W Y.nw A Y.nl Y.f (fun k => lgA (Y.x k) (a k) (e k)) Y.g) (hn : Y.n ≤ 1000) (hR : RdR w 1 L Y.n (fun k => [.int .i64 (Y.ls k)])) (h : CustIn w C Z.nc D Z.nd B Z.nb Z.c Z.d Z.b) (t : TrpIn w T O U V) (hG : OldB w 0 barsL) (hnf : E.nf ≤ 1000) (hE : RdR w 2 G E.nf (feeL E)) :
    CallsK Tryz.prog 41 #[.agg (landL W Y.nw cw A Y.nl cl).toArray, .agg (custL C Z.nc cc D Z.nd cd B Z.nb cb).toArray, .agg (troopL T.hd T.wo O T.no co U T.nu cu V T.nv cv).toArray, .slice G E.nf cg, .int .i64 Y.start, .int .i64 Y.day, .agg #[.int .i64 Y.p0, .int .i64 Y.p1], .slice L Y.n cn] [] w (Option Addr × Nat) (hirA Y Z T E) (hirF Y Z T E) :=
  tollHire_any (Y := Yt Y a e) hL hn hR h t hG hnf hE
set_option maxRecDepth 100000 in
theorem exHire {E E2 : TypeId} (hL : (bun (exLf x)).holds w) (hC : (bun (exCf y)).holds w) (hT : (exTo b).holds w) (hl : Blk w bl E #[.int .i64 0, .int .i64 1]) (hf : Blk w bf E2 #[.int .i64 1, .int .i64 20, .int .i64 2, .int .i64 30]) (hG : OldB w 0 barsL) : CallsK Tryz.prog 41 #[exLa x, exPa y, exTa b, .slice (some ⟨bf, 0, none⟩) 2 2, .int .i64 0, .int .i64 10, .agg #[.int .i64 20000, .int .i64 25000], .slice (some ⟨bl, 0, none⟩) 2 2] [] w (Option Addr × Nat) (fun z => .tuple #[.slice z.1 1 z.2, .int .i64 30, .int .i64 0]) (fun z => [.own z.1 1 z.2 3 1 (iL [2])]) := by
  have h := tollHire_tw (Y := exY) (Z := exP) (T := exT) (E := exE) (a := fun _ => some ⟨x.2.2, 0, none⟩) (e := fun _ => 1) (cw := 3) (cl := 2) (cn := 2) (cc := 3) (cd := 0) (cb := 0) (co := 1) (cu := 0) (cv := 0) (cg := 2) (exLand_in hL) (by decide) (exLegs hl) (exPea_in hC) (exTrp_in hT) hG (by decide) (RdR.blk (cs := [.int .i64 1, .int .i64 20, .int .i64 2, .int .i64 30]) (n := 2) (sz := 2) hf rfl (fun _ _ => rfl))
  refine h.to (fun z => ?_) (fun z => ?_)
  · unfold hirA
    rw [eHir.1, eHir.2.1, eHir.2.2]
    rfl
  · unfold hirF
    rw [eHir.1]
    exact KSub.refl _
set_option maxRecDepth 100000 in
theorem exDisp (hL : (bun (exLf x)).holds w) (hC : (bun (exCf y)).holds w) : CallsK Tryz.prog 37 #[exLa x, exCa y] [] w (Option Addr × Nat) (fun z => .tuple #[.slice z.1 1 z.2, .int .i64 0]) (fun z => [.own z.1 1 z.2 80 2 (rowsP [(0, 1)])]) := by
  have h := tollDisputes_tw (x := exY.x) (a := fun _ => some ⟨x.2.2, 0, none⟩) (e := fun _ => 1) (cw := 3) (cl := 2) (cc := 3) (cd := 1) (cb := 0) (exLand_in hL) (exCus_in hC) (by decide)
  have e1 : disL (checkC exY.nw exY.nl exY.f exY.x exY.g exZ.nc exZ.nd exZ.nb exZ.c exZ.d exZ.b) exZ.nc exZ.c = [(0, 1)] := eDis.1
  have e2 : checkC exY.nw exY.nl exY.f exY.x exY.g exZ.nc exZ.nd exZ.nb exZ.c exZ.d exZ.b = 0 := eDis.2
  refine h.to (fun z => ?_) (fun z => ?_)
  · rw [e1, e2]
    rfl
  · rw [e1]
    exact KSub.refl _
set_option maxRecDepth 100000 in
set_option maxHeartbeats 4000000 in
theorem alive_any (hG : OldB w 0 barsL) : Calls Tryz.prog 27 #[] w (Ret w (.bool true)) := by
  have fL := fun (w' : World) => exLand_any w'
  have fC := fun (w' : World) => exCus_any w'
  have fP := fun (w' : World) => exPea_any w'
  have fT := fun (w' : World) => exTrp_any (U := none) (nu := 0) (cu := 0) w'
  refine K_enter (S := []) (K := []) Tryz.func27 rfl Tryz.ntmps27 rfl (Sat.start _) ?_
  refine TW.seq fun Y1 hY1 => ?_
  refine TW.region ?_
  refine TL.p Pu.as ?_
  refine TL.nil ?_
  refine TQ.thenN (hY1 _ _ ?_)
  refine TW.seq fun Y2 hY2 => ?_
  refine TW.region ?_
  refine TL.call (M := []) rfl (enters Tryz.func45 rfl rfl) (List.Perm.refl _) rfl (fun w hw => by
      exact fL _) ?_
  rintro x1
  dsimp only [List.cons_append, List.nil_append]
  refine TL.call (M := []) rfl (enters Tryz.func46 rfl rfl) (List.Perm.refl _) rfl (fun w hw => by
      exact fC _) ?_
  rintro y1
  dsimp only [List.cons_append, List.nil_append]
  refine TL.cr rfl (enters Tryz.func36 rfl rfl) (fun w hw => by
      exact exHold (x := x1) (y := y1) (hw.holds _ (by simp)) (hw.holds _ (by simp))) ?_
  refine TL.p Pu.mv ?_
  refine TL.p Pu.ex ?_
  refine TL.p Pu.ex ?_
  refine TL.p Pu.as ?_
  refine TL.p Pu.as ?_
  refine TL.nil ?_
  refine TQ.thenN (hY2 _ _ ?_)
  refine TW.seq fun Y3 hY3 => ?_
  refine TW.region ?_
  refine TL.call (M := []) rfl (enters Tryz.func45 rfl rfl) (List.Perm.refl _) rfl (fun w hw => by
      exact fL _) ?_
  rintro x2
  dsimp only [List.cons_append, List.nil_append]
  refine TL.call (M := []) rfl (enters Tryz.func46 rfl rfl) (List.Perm.refl _) rfl (fun w hw => by
      exact fC _) ?_
  rintro y2
  dsimp only [List.cons_append, List.nil_append]
  refine TL.call (M := []) rfl (enters Tryz.func48 rfl rfl) (List.Perm.refl _) rfl (fun w hw => by
      exact fT _) ?_
  rintro z2
  dsimp only [List.cons_append, List.nil_append]
  refine TL.cr rfl (enters Tryz.func49 rfl rfl) (fun w hw => by
      exact speed_any _) ?_
  refine TL.m Mk.bl ?_
  intro b1
  refine TL.cr rfl (enters Tryz.func18 rfl rfl) (fun w hw => by
      exact exBarr (x := x2) (y := y2) (b := z2) (hw.holds _ (by simp)) (hw.holds _ (by simp)) (hw.holds _ (by simp)) (hw.holds _ (List.mem_cons_self ..)) (hG.ext (Chg.ext hw.chg))) ?_
  refine TL.p Pu.mv ?_
  refine TL.p Pu.ex ?_
  refine TL.p Pu.ex ?_
  refine TL.p Pu.ex ?_
  refine TL.p Pu.as ?_
  refine TL.p Pu.as ?_
  refine TL.p Pu.as ?_
  refine TL.nil ?_
  refine TQ.thenN (hY3 _ _ ?_)
  refine TW.seq fun Y4 hY4 => ?_
  refine TW.region ?_
  refine TL.call (M := []) rfl (enters Tryz.func45 rfl rfl) (List.Perm.refl _) rfl (fun w hw => by
      exact fL _) ?_
  rintro x3
  dsimp only [List.cons_append, List.nil_append]
  refine TL.call (M := []) rfl (enters Tryz.func46 rfl rfl) (List.Perm.refl _) rfl (fun w hw => by
      exact fC _) ?_
  rintro y3
  dsimp only [List.cons_append, List.nil_append]
  refine TL.call (M := []) rfl (enters Tryz.func48 rfl rfl) (List.Perm.refl _) rfl (fun w hw => by
      exact fT _) ?_
  rintro z3
  dsimp only [List.cons_append, List.nil_append]
  refine TL.cr rfl (enters Tryz.func49 rfl rfl) (fun w hw => by
      exact speed_any _) ?_
  refine TL.m Mk.bl ?_
  intro b2
  refine TL.call (M := []) rfl (enters Tryz.func20 rfl rfl) (List.Perm.refl _) rfl (fun w hw => by
      exact exDues (x := x3) (y := y3) (b := z3) (hw.holds _ (by simp)) (hw.holds _ (by simp)) (hw.holds _ (by simp)) (hw.holds _ (List.mem_cons_self ..))) ?_
  rintro ⟨P1, p1⟩
  dsimp only [List.cons_append, List.nil_append]
  refine TL.p Pu.mv ?_
  refine TL.p Pu.ex ?_
  refine TL.p Pu.ex ?_
  refine TL.p Pu.ex ?_
  refine TL.m (Mk.al ty_zr35) ?_
  intro b3
  refine TL.p Pu.as ?_
  first | refine TL.st ty_sz35 ?_ | refine TL.se ty_sz35 ?_
  refine TL.p Pu.as ?_
  refine TL.nil ?_
  refine TQ.thenN (hY4 _ _ ?_)
  refine TW.seq fun Y5 hY5 => ?_
  refine TW.region ?_
  refine TL.call (M := []) rfl (enters Tryz.func45 rfl rfl) (List.Perm.refl _) rfl (fun w hw => by
      exact fL _) ?_
  rintro x4
  dsimp only [List.cons_append, List.nil_append]
  refine TL.call (M := []) rfl (enters Tryz.func47 rfl rfl) (List.Perm.refl _) rfl (fun w hw => by
      exact fP _) ?_
  rintro y4
  dsimp only [List.cons_append, List.nil_append]
  refine TL.call (M := []) rfl (enters Tryz.func48 rfl rfl) (List.Perm.refl _) rfl (fun w hw => by
      exact fT _) ?_
  rintro z4
  dsimp only [List.cons_append, List.nil_append]
  refine TL.p Pu.bd ?_
  refine TL.p Pu.bd ?_
  refine TL.m Mk.bl ?_
  intro b4
  refine TL.cr rfl (enters Tryz.func49 rfl rfl) (fun w hw => by
      exact speed_any _) ?_
  refine TL.m Mk.bl ?_
  intro b5
  refine TL.call (M := []) rfl (enters Tryz.func41 rfl rfl) (List.Perm.refl _) rfl (fun w hw => by
      exact exHire (x := x4) (y := y4) (b := z4) (hw.holds _ (by simp)) (hw.holds _ (by simp)) (hw.holds _ (by simp)) (hw.holds _ (List.mem_cons_self ..)) (hw.holds _ (List.mem_cons_of_mem _ (List.mem_cons_self ..))) (hG.ext (Chg.ext hw.chg))) ?_
  rintro ⟨P2, p2⟩
  dsimp only [List.cons_append, List.nil_append]
  refine TL.p Pu.mv ?_
  refine TL.p Pu.ex ?_
  refine TL.p Pu.ex ?_
  refine TL.p Pu.ex ?_
  refine TL.p Pu.as ?_
  refine TL.p Pu.as ?_
  refine TL.p Pu.as ?_
  refine TL.nil ?_
  refine TQ.thenN (hY5 _ _ ?_)
  refine TW.seq fun Y6 hY6 => ?_
  refine TW.region ?_
  refine TL.call (M := []) rfl (enters Tryz.func45 rfl rfl) (List.Perm.refl _) rfl (fun w hw => by
      exact fL _) ?_
  rintro x5
  dsimp only [List.cons_append, List.nil_append]
  refine TL.call (M := []) rfl (enters Tryz.func46 rfl rfl) (List.Perm.refl _) rfl (fun w hw => by
      exact fC _) ?_
  rintro y5
  dsimp only [List.cons_append, List.nil_append]
  refine TL.call (M := []) rfl (enters Tryz.func37 rfl rfl) (List.Perm.refl _) rfl (fun w hw => by
      exact exDisp (x := x5) (y := y5) (hw.holds _ (by simp)) (hw.holds _ (by simp))) ?_
  rintro ⟨P3, p3⟩
  dsimp only [List.cons_append, List.nil_append]
  refine TL.p Pu.mv ?_
  refine TL.p Pu.ex ?_
  refine TL.p Pu.ex ?_
  refine TL.p Pu.as ?_
  refine TL.p Pu.as ?_
  refine TL.nil ?_
  refine TQ.thenN (hY6 _ _ ?_)
  refine TW.seq fun Y7 hY7 => ?_
  refine TW.dw 60 ?_
  refine RK.tk Pu.mv ?_
  refine RK.tk Pu.eq ?_
  refine RK.tk Pu.mv ?_
  refine RK.tk Pu.mv ?_
  refine RK.tk Pu.eq ?_
  refine RK.tk Pu.kt ?_
  refine RK.tk Pu.mv ?_
  refine RK.tk Pu.mv ?_
  refine RK.tk Pu.eq ?_
  refine RK.tk Pu.kt ?_
  refine RK.tk Pu.mv ?_
  refine RK.tk Pu.mv ?_
  refine RK.tk Pu.eq ?_
  refine RK.tk Pu.kt ?_
  refine RK.tk Pu.mv ?_
  refine RK.tk Pu.mv ?_
  refine RK.tk Pu.eq ?_
  refine RK.tk Pu.kt ?_
  refine RK.tk Pu.mv ?_
  refine RK.tk Pu.mv ?_
  refine RK.tk Pu.eq ?_
  refine RK.tk Pu.kt ?_
  refine RK.tk Pu.mv ?_
  refine RK.tk Pu.mv ?_
  refine RK.keep ?_
  refine RK.keep ?_
  refine RK.keep ?_
  refine RK.keep ?_
  refine RK.keep ?_
  refine RK.keep ?_
  refine RK.keep ?_
  refine RK.keep ?_
  refine RK.keep ?_
  refine RK.keep ?_
  refine RK.keep ?_
  refine RK.keep ?_
  refine RK.keep ?_
  refine RK.keep ?_
  refine RK.keep ?_
  refine RK.keep ?_
  refine RK.keep ?_
  refine RK.keep ?_
  refine RK.keep ?_
  refine RK.keep ?_
  refine RK.keep ?_
  refine RK.keep ?_
  refine RK.keep ?_
  refine RK.keep ?_
  refine RK.keep ?_
  refine RK.keep ?_
  refine RK.keep ?_
  refine RK.keep ?_
  refine RK.keep ?_
  refine RK.keep ?_
  refine RK.keep ?_
  refine RK.keep ?_
  refine RK.keep ?_
  refine RK.keep ?_
  refine RK.keep ?_
  refine RK.keep ?_
  refine RK.ch [false, true, false, true, false, false, true, true, true, false, true, true, true, true, true, true, true, true, true, true, true, true, false, false, true, true, true, true, true, true, true, true, false, false, true, true] ?_ trivial
  refine WK.cr rfl (enters Tryz.func31 rfl rfl) (fun w hw => by
      exact span7_any _ _ _) ?_
  refine WK.p Pu.bd ?_
  refine WK.cr rfl (enters Tryz.func31 rfl rfl) (fun w hw => by
      exact span7_any _ _ _) ?_
  refine WK.p Pu.bd ?_
  refine WK.gm Mk.bl ?_
  intro b6
  refine WK.cr rfl (enters Tryz.func22 rfl rfl) (fun w hw => by
      exact sameTolls_any (L := [(0, 1, 50, 50), (1, 3, 0, 10)]) (by decide) (OwnR.rdr (hw.holds (.own P1 2 p1 78 4 (rowsT [(0, 1, 50, 50), (1, 3, 0, 10)])) (by simp))) (RdR.blk (cs := [.int .i64 0, .int .i64 1, .int .i64 50, .int .i64 50, .int .i64 1, .int .i64 3, .int .i64 0, .int .i64 10]) (n := 2) (sz := 4) (hw.holds _ (List.mem_cons_self ..)) rfl (fun _ _ => rfl))) ?_
  refine WK.p Pu.kt ?_
  refine WK.p Pu.mv ?_
  refine WK.p (Pu.lds ty_ag35) ?_
  refine WK.cr rfl (enters Tryz.func31 rfl rfl) (fun w hw => by
      exact span7_any _ _ _) ?_
  refine WK.p (Pu.q2 ty_q2_35) ?_
  refine WK.lit (t := 93) (b' := true) rfl ((by simp)) ?_
  refine WK.p Pu.kt ?_
  refine WK.p Pu.mv ?_
  refine WK.p Pu.mv ?_
  refine WK.p Pu.eq ?_
  refine WK.lit (t := 97) (b' := true) rfl (rfl) ?_
  refine WK.p Pu.kt ?_
  refine WK.p Pu.mv ?_
  refine WK.p Pu.mv ?_
  refine WK.p Pu.eq ?_
  refine WK.lit (t := 101) (b' := true) rfl (rfl) ?_
  refine WK.p Pu.kt ?_
  refine WK.p Pu.mv ?_
  refine WK.p Pu.mv ?_
  refine WK.gm Mk.bl ?_
  intro b7
  refine WK.cr rfl (enters Tryz.func26 rfl rfl) (fun w hw => by
      exact same3_true (n := 1) (v := fun k => ([2] : List Int).getD k 0) (by decide) (OwnR.rdr (hw.holds (.own P2 1 p2 3 1 (iL [2])) (by simp))) (RdR.blk (cs := [.int .i64 2]) (n := 1) (sz := 1) (hw.holds _ (List.mem_cons_self ..)) rfl (fun _ _ => rfl))) ?_
  refine WK.p Pu.kt ?_
  refine WK.p Pu.mv ?_
  refine WK.p Pu.mv ?_
  refine WK.p Pu.eq ?_
  refine WK.lit (t := 110) (b' := true) rfl (rfl) ?_
  refine WK.p Pu.kt ?_
  refine WK.p Pu.mv ?_
  refine WK.p Pu.mv ?_
  refine WK.p Pu.bd ?_
  refine WK.gm Mk.bl ?_
  intro b8
  refine WK.cr rfl (enters Tryz.func62 rfl rfl) (fun w hw => by
      exact samePairs_any (n := 1) (v := fun k => ([(0, 1)] : List (Int × Int)).getD k (0, 0)) (by decide) (OwnR.rdr (hw.holds (.own P3 1 p3 80 2 (rowsP [(0, 1)])) (by simp))) (RdR.blk (cs := [.int .i64 0, .int .i64 1]) (n := 1) (sz := 2) (hw.holds _ (List.mem_cons_self ..)) rfl (fun _ _ => rfl))) ?_
  refine WK.p Pu.kt ?_
  refine WK.p Pu.as ?_
  refine WK.n ?_
  refine TL.nil ?_
  refine TQ.thenN (hY7 _ _ ?_)
  refine TW.ret ?_
  refine TQ.ret Tryz.results27 rfl ((.tmp rfl .nil)) ?_
  exact fun w hw => Ret.of hw
end
end Go.Proofs.YtmonkjnfjgidbaaGreatDoor
namespace Go.Proofs.YtmonkjnfjgidbaaGreatDoor
set_option linter.all false
set_option linter.unusedVariables false
set_option linter.unusedSimpArgs false
open Go.RowKit
section
variable {Y : Wy} {Z : Cus} {T : Trp} {W A L C D B O U V : Option Addr} {cw cl cn cc cd cb co cu cv : Nat} {w : World}
structure ArgIn (w : World) (Y : Wy) (Z : Cus) (T : Trp) (W A L C D B O U V : Option Addr) : Prop where
  hRW : RdR w 9 W Y.nw (fun k => wellL (Y.f k))
  hRA : RdR w 5 A Y.nl (fun k => legL (Y.x k))
  hRG : ∀ k, k < Y.nl → RdR w 4 (Y.x k).A (Y.x k).n (fun j => gateL (Y.g k j))
  hRC : RdR w 7 C Z.nc (fun k => claimL (Z.c k))
  hRD : RdR w 4 D Z.nd (fun k => feudL (Z.d k))
  hRB : RdR w 3 B Z.nb (fun k => borderL (Z.b k))
  hRO : RdR w 1 O T.no (fun k => [.int .i64 (T.o k)])
  hRU : RdR w 1 U T.nu (fun k => [.int .i64 (T.u k)])
  hRV : RdR w 1 V T.nv (fun k => [.int .i64 (T.v k)])
  hRL : RdR w 1 L Y.n (fun k => [.int .i64 (Y.ls k)])
theorem ArgIn.land (h : ArgIn w Y Z T W A L C D B O U V) (g : great7 Y.nw Y.nl Y.x Z.nc Z.nd Z.nb T.no T.nu T.nv = false) : LandIn w W Y.nw A Y.nl Y.f Y.x Y.g :=
  have q := great_all g
  ⟨q.1.1, q.1.2.1, h.hRW, h.hRA, q.1.2.2, h.hRG⟩
theorem ArgIn.cust (h : ArgIn w Y Z T W A L C D B O U V) (g : great7 Y.nw Y.nl Y.x Z.nc Z.nd Z.nb T.no T.nu T.nv = false) : CustIn w C Z.nc D Z.nd B Z.nb Z.c Z.d Z.b :=
  have q := great_all g
  ⟨q.2.1.1, q.2.1.2.1, q.2.1.2.2, h.hRC, h.hRD, h.hRB⟩
theorem ArgIn.trp (h : ArgIn w Y Z T W A L C D B O U V) (g : great7 Y.nw Y.nl Y.x Z.nc Z.nd Z.nb T.no T.nu T.nv = false) : TrpIn w T O U V :=
  have q := great_all g
  ⟨q.2.2.1, q.2.2.2.1, q.2.2.2.2, h.hRO, h.hRU, h.hRV⟩
end
end Go.Proofs.YtmonkjnfjgidbaaGreatDoor
namespace Go.Proofs.YtmonkjnfjgidbaaGreatDoor
set_option linter.all false
set_option linter.unusedVariables false
set_option linter.unusedSimpArgs false
open Go.RowKit
section
variable {c : Cx} {F : Fr} {K : List Fact} {d : Option Tmp} {ty xt yt : TypeId} {pos : String} {af : Array Edge} {g : Option (Nat × Bool)} {x y : Operand}
end
set_option maxRecDepth 100000 in
theorem rFees2_any {A : Option Addr} {ca : Nat} {E : Fes} {w : World} (hn : E.nf ≤ 9223372036854775807) (hR : RdR w 2 A E.nf (feeL E)) :
    Calls Tryz.prog 38 #[.slice A E.nf ca] w (Ret w (.bool (fesOk E))) := by
  unfold feeL at hR
  refine K_enter (S := []) (K := []) Tryz.func38 rfl Tryz.ntmps38 rfl (Sat.start _) ?_
  refine TW.seq fun Y1 hY1 => ?_
  refine TW.region ?_
  refine TL.p Pu.as ?_
  refine TL.nil ?_
  refine TQ.thenN (hY1 _ _ ?_)
  refine TW.seq fun Y2 hY2 => ?_
  refine TW.seq fun Y3 hY3 => ?_
  refine TW.region ?_
  refine TL.p Pu.as ?_
  refine TL.nil ?_
  refine TQ.thenN (hY3 _ _ ?_)
  refine TW.block ?_
  refine TW.loop1 (fun (k : Nat) => [(3, .int .i64 (k : Int)), (0, .slice A E.nf ca)]) (fun k => []) (fun k => k ≤ E.nf ∧ ∀ j, j < k → feeK E j = true) (fun k => E.nf - k) 0 fs9 ?_ ?_ ?_
  exact ks9
  exact ⟨Nat.zero_le _, fun j hj => by omega⟩
  rintro k ⟨hk, hall⟩ Z0 hZ0
  refine TW.seq fun Y4 hY4 => ?_
  refine TW.seq fun Y5 hY5 => ?_
  refine TW.region ?_
  refine TL.p Pu.mv ?_
  refine TL.p Pu.mv ?_
  refine TL.p (Pu.ln Tryz.underlying90) ?_
  refine TL.p Pu.lt ?_
  refine TL.nil ?_
  refine TQ.thenN (hY5 _ _ ?_)
  refine TW.cond rfl (fun hc0 => ?_) (fun hc0 => ?_)
  try simp only [decide_eq_true_eq, decide_eq_false_iff_not, Bool.not_eq_true', Bool.not_eq_false', Bool.and_eq_true, Bool.or_eq_true, Bool.and_eq_false_iff, Bool.or_eq_false_iff, Int.not_lt, Int.not_le] at hc0
  have hkn : k < E.nf := by omega
  have e1 : (0 < (k : Int)) = ¬ (k = 0) := by simp; omega
  refine TW.skip ?_
  refine TQ.thenN (hY4 _ _ ?_)
  refine TW.seq fun Y6 hY6 => ?_
  refine TW.block ?_
  refine TW.seq fun Y7 hY7 => ?_
  refine TW.join [(43, .bool (!feeK E k))] ?_ (fun hJ1 => ?_)
  refine TQ.thenN (hY7 _ _ ?_)
  refine TW.cond rfl (fun hc1 => ?_) (fun hc1 => ?_)
  try simp only [decide_eq_true_eq, decide_eq_false_iff_not, Bool.not_eq_true', Bool.not_eq_false', Bool.and_eq_true, Bool.or_eq_true, Bool.and_eq_false_iff, Bool.or_eq_false_iff, Int.not_lt, Int.not_le] at hc1
  have hg : feeK E k = false := by simpa using hc1
  refine TW.seq fun Y8 hY8 => ?_
  refine TW.region ?_
  refine TL.p Pu.as ?_
  refine TL.nil ?_
  refine TQ.thenN (hY8 _ _ ?_)
  refine TW.ret ?_
  refine TQ.blkR ?_
  refine TQ.thenR ?_
  refine TQ.thenR ?_
  refine TQ.blkR ?_
  refine TQ.thenR ?_
  refine TQ.ret Tryz.results38 rfl ((.tmp rfl .nil)) ?_
  exact fun w hw => ⟨ret_b (by
    cases h : fesOk E with
    | false => rfl
    | true => have := allB_iff.1 h k hkn; rw [hg] at this; cases this), Chg.ext hw.chg⟩
  try simp only [decide_eq_true_eq, decide_eq_false_iff_not, Bool.not_eq_true', Bool.not_eq_false', Bool.and_eq_true, Bool.or_eq_true, Bool.and_eq_false_iff, Bool.or_eq_false_iff, Int.not_lt, Int.not_le] at hc1
  have hg : feeK E k = true := by simpa using hc1
  refine TW.skip ?_
  refine TQ.blkN ?_
  refine TQ.thenN (hY6 _ _ ?_)
  refine TW.region ?_
  refine TL.p Pu.mv ?_
  refine TL.p Pu.ad ?_
  refine TL.p Pu.as ?_
  refine TL.nil ?_
  refine TQ.thenN (hZ0 (k + 1) _ _ ?_ ?_ fs9 ?_)
  exact ⟨by omega, fun j hj => (Nat.lt_succ_iff_lt_or_eq.1 hj).elim (hall j) (fun e => e ▸ hg)⟩
  exact (by first | omega | (simp only []; omega) | (simp; omega))
  exact ks9
  refine TW.dw 34 ?_
  refine RK.tk Pu.mv ?_
  refine RK.tk Pu.mv ?_
  refine RK.tk (Pu.el ty_et90) ?_
  refine RK.tk (by first | exact Pu.fb ty_fa95_0 | exact Pu.fe ty_fa95_0) ?_
  refine RK.tk (Pu.ld ty_sc3) ?_
  refine RK.keep ?_
  refine RK.keep ?_
  refine RK.keep ?_
  refine RK.keep ?_
  refine RK.keep ?_
  refine RK.keep ?_
  refine RK.keep ?_
  refine RK.keep ?_
  refine RK.keep ?_
  refine RK.keep ?_
  refine RK.keep ?_
  refine RK.keep ?_
  refine RK.keep ?_
  refine RK.keep ?_
  refine RK.keep ?_
  refine RK.keep ?_
  refine RK.keep ?_
  refine RK.keep ?_
  refine RK.keep ?_
  refine RK.keep ?_
  refine RK.keep ?_
  refine RK.keep ?_
  refine RK.keep ?_
  refine RK.keep ?_
  refine RK.keep ?_
  refine RK.keep ?_
  refine RK.keep ?_
  refine RK.keep ?_
  refine RK.keep ?_
  refine RK.ch [false, true, true, true, true, true, true, true, false, true, true, true, true, true, true, true, true, true, true, true, true, true, true, true, true, true, true, true, true] ?_ trivial
  refine WK.cr rfl (enters Tryz.func65 rfl rfl) (fun w hw => by
      exact within7_any _ _ _ _) ?_
  refine WK.p Pu.no ?_
  refine WK.p Pu.mv ?_
  refine WK.guard (t := 17) rfl (fun hg1 => ?_) (fun hg1 => ?_)
  try simp only [decide_eq_true_eq, decide_eq_false_iff_not, Bool.not_eq_true', Bool.not_eq_false', Int.natCast_pos] at hg1
  refine WK.ps ?_
  refine WK.ps ?_
  refine WK.ps ?_
  refine WK.ps ?_
  refine WK.ps ?_
  refine WK.gs ?_
  refine WK.ps ?_
  refine WK.p Pu.kt ?_
  refine WK.p Pu.mv ?_
  refine WK.ps ?_
  refine WK.ps ?_
  refine WK.ps ?_
  refine WK.ps ?_
  refine WK.ps ?_
  refine WK.ps ?_
  refine WK.ps ?_
  refine WK.ps ?_
  refine WK.ps ?_
  refine WK.ps ?_
  refine WK.ps ?_
  refine WK.ps ?_
  refine WK.ps ?_
  refine WK.ps ?_
  refine WK.ps ?_
  refine WK.ps ?_
  refine WK.p Pu.kt ?_
  refine WK.n ?_
  refine TL.nil ?_
  exact TQ.sub (by repeat (first | exact trivial | refine ⟨rfl, ?_⟩ | refine ⟨trivial, ?_⟩ | refine ⟨(by show some (Value.bool _) = some (Value.bool _); first | (simp [hg1, feeK]; done) | (refine congrArg (fun z => some (Value.bool z)) (Bool.eq_iff_iff.2 ?_); simp [hg1, feeK]; omega)), ?_⟩)) ks9 hJ1
  try simp only [decide_eq_true_eq, decide_eq_false_iff_not, Bool.not_eq_true', Bool.not_eq_false', Int.natCast_pos] at hg1
  refine WK.p Pu.mv ?_
  refine WK.p Pu.mv ?_
  refine WK.p (Pu.el ty_et90) ?_
  refine WK.p (by first | exact Pu.fb ty_fa95_1 | exact Pu.fe ty_fa95_1) ?_
  refine WK.p (Pu.ld ty_sc3) ?_
  refine WK.cr rfl (enters Tryz.func65 rfl rfl) (fun w hw => by
      exact within7_any _ _ _ _) ?_
  refine WK.p Pu.no ?_
  refine WK.p Pu.kf ?_
  refine WK.p Pu.mv ?_
  refine WK.guard (t := 26) rfl (fun hg2 => ?_) (fun hg2 => ?_)
  try simp only [decide_eq_true_eq, decide_eq_false_iff_not, Bool.not_eq_true', Bool.not_eq_false', Int.natCast_pos] at hg2
  refine WK.ps ?_
  refine WK.ps ?_
  refine WK.ps ?_
  refine WK.ps ?_
  refine WK.ps ?_
  refine WK.ps ?_
  refine WK.ps ?_
  refine WK.ps ?_
  refine WK.ps ?_
  refine WK.ps ?_
  refine WK.ps ?_
  refine WK.ps ?_
  refine WK.ps ?_
  refine WK.ps ?_
  refine WK.ps ?_
  refine WK.ps ?_
  refine WK.p Pu.kt ?_
  refine WK.n ?_
  refine TL.nil ?_
  exact TQ.sub (by repeat (first | exact trivial | refine ⟨rfl, ?_⟩ | refine ⟨trivial, ?_⟩ | refine ⟨(by show some (Value.bool _) = some (Value.bool _); first | (simp [hg1, hg2, feeK]; done) | (refine congrArg (fun z => some (Value.bool z)) (Bool.eq_iff_iff.2 ?_); simp [hg1, hg2, feeK]; omega)), ?_⟩)) ks9 hJ1
  try simp only [decide_eq_true_eq, decide_eq_false_iff_not, Bool.not_eq_true', Bool.not_eq_false', Int.natCast_pos] at hg2
  refine WK.p Pu.mv ?_
  refine WK.p Pu.gt ?_
  refine WK.p Pu.mv ?_
  refine WK.guard (t := 29) rfl (fun hg3 => ?_) (fun hg3 => ?_)
  try simp only [decide_eq_true_eq, decide_eq_false_iff_not, Bool.not_eq_true', Bool.not_eq_false', Int.natCast_pos] at hg3
  refine WK.p Pu.mv ?_
  refine WK.p Pu.mv ?_
  refine WK.p (Pu.el ty_et90) ?_
  refine WK.p (by first | exact Pu.fb ty_fa95_0 | exact Pu.fe ty_fa95_0) ?_
  refine WK.p (Pu.ld ty_sc3) ?_
  refine WK.p Pu.mv ?_
  refine WK.p Pu.mv ?_
  refine WK.p Pu.sb ?_
  refine WK.p (Pu.el (q := k - 1) ty_et90 (hk := by omega)) ?_
  refine WK.p (by first | exact Pu.fb ty_fa95_0 | exact Pu.fe ty_fa95_0) ?_
  refine WK.p (Pu.ld ty_sc3) ?_
  refine WK.p Pu.le ?_
  refine WK.p Pu.kt ?_
  refine WK.p Pu.kf ?_
  refine WK.n ?_
  refine TL.nil ?_
  exact TQ.sub (by repeat (first | exact trivial | refine ⟨rfl, ?_⟩ | refine ⟨trivial, ?_⟩ | refine ⟨(by show some (Value.bool _) = some (Value.bool _); first | (simp [hg1, hg2, hg3, feeK]; done) | (refine congrArg (fun z => some (Value.bool z)) (Bool.eq_iff_iff.2 ?_); simp [hg1, hg2, hg3, feeK]; omega)), ?_⟩)) ks9 hJ1
  try simp only [decide_eq_true_eq, decide_eq_false_iff_not, Bool.not_eq_true', Bool.not_eq_false', Int.natCast_pos] at hg3
  refine WK.ps ?_
  refine WK.ps ?_
  refine WK.ps ?_
  refine WK.ps ?_
  refine WK.ps ?_
  refine WK.ps ?_
  refine WK.ps ?_
  refine WK.ps ?_
  refine WK.ps ?_
  refine WK.ps ?_
  refine WK.ps ?_
  refine WK.ps ?_
  refine WK.p Pu.kf ?_
  refine WK.p Pu.kf ?_
  refine WK.n ?_
  refine TL.nil ?_
  exact TQ.sub (by repeat (first | exact trivial | refine ⟨rfl, ?_⟩ | refine ⟨trivial, ?_⟩ | refine ⟨(by show some (Value.bool _) = some (Value.bool _); first | (simp [hg1, hg2, hg3, feeK]; done) | (refine congrArg (fun z => some (Value.bool z)) (Bool.eq_iff_iff.2 ?_); simp [hg1, hg2, hg3, feeK]; omega)), ?_⟩)) ks9 hJ1
  try simp only [decide_eq_true_eq, decide_eq_false_iff_not, Bool.not_eq_true', Bool.not_eq_false', Bool.and_eq_true, Bool.or_eq_true, Bool.and_eq_false_iff, Bool.or_eq_false_iff, Int.not_lt, Int.not_le] at hc0
  have hkn : k = E.nf := by omega
  refine TW.exit ?_
  refine TQ.thenX ?_
  refine TQ.thenX ?_
  refine TQ.blkX ?_
  refine TQ.thenN (hY2 _ _ ?_)
  refine TW.seq fun Y9 hY9 => ?_
  refine TW.region ?_
  refine TL.p Pu.as ?_
  refine TL.nil ?_
  refine TQ.thenN (hY9 _ _ ?_)
  refine TW.ret ?_
  refine TQ.ret Tryz.results38 rfl ((.tmp rfl .nil)) ?_
  exact fun w hw => ⟨ret_b (by unfold fesOk; exact (allB_iff.2 fun j hj => hall j (by omega)).symm), Chg.ext hw.chg⟩
section
variable {Y : Wy} {Z : Cus} {T : Trp} {E : Fes} {W A L C D B O U V G : Option Addr} {cw cl cn cc cd cb co cu cv cg : Nat} {w : World}
end
end Go.Proofs.YtmonkjnfjgidbaaGreatDoor
namespace Go.Proofs.YtmonkjnfjgidbaaGreatDoor
set_option linter.all false
set_option linter.unusedVariables false
set_option linter.unusedSimpArgs false
open Go.RowKit
section
variable {leg day : Int} {c : Nat → (Nat → Int) × Bool}
end
section
variable {c : Nat → (Nat → Int) × Bool} {n : Nat}
end
theorem Pu.bv {c : Cx} {F : Fr} {K : List Fact} {o : Oper} {b b' : Bool} (h : Pu c F K o (.bool b)) (e : b = b') : Pu c F K o (.bool b') := e ▸ h
end Go.Proofs.YtmonkjnfjgidbaaGreatDoor
namespace Go.Proofs.YtmonkjnfjgidbaaGreatDoor
set_option linter.all false
set_option linter.unusedVariables false
set_option linter.unusedSimpArgs false
open Go.RowKit
theorem dueV_eq {Y : Wy} {Z : Cus} {T : Trp} : dueV Y Z T = fun y => .tuple #[.slice y.1 (dueL Y Z T).length y.2, .agg #[.int .i64 (dueLo Y Z T), .int .i64 (dueHi Y Z T)], .int .i64 (tolC Y Z T)] := rfl
theorem dueK_eq {Y : Wy} {Z : Cus} {T : Trp} : dueK Y Z T = fun y => [.own y.1 (dueL Y Z T).length y.2 78 4 (fun k => tolL ((dueL Y Z T).getD k (0, 0, 0, 0)))] := rfl
section
variable {Y : Wy} {Z : Cus} {T : Trp} {W A L C D B O U V : Option Addr} {cw cl cn cc cd cb co cu cv : Nat} {w : World}
end
end Go.Proofs.YtmonkjnfjgidbaaGreatDoor
namespace Go.Proofs.YtmonkjnfjgidbaaGreatDoor
set_option linter.all false
set_option linter.unusedVariables false
set_option linter.unusedSimpArgs false
open Go.RowKit
theorem Pu.iv {c : Cx} {F : Fr} {K : List Fact} {o : Oper} {a b : Int} {k : IntKind} (h : Pu c F K o (.int k a)) (e : a = b) : Pu c F K o (.int k b) := e ▸ h
section
variable {Y : Wy} {Z : Cus} {T : Trp} {W A L C D0 B O U V G : Option Addr} {cw cl cn cc cd cb co cu cv cg nb : Nat} {u : Nat → Int} {w : World}
end
end Go.Proofs.YtmonkjnfjgidbaaGreatDoor
