/-
  Part 12 of the proof of tollOrder_holds: declarations of several texts, in build order. No condition on a program.
-/
import Derived.Test.YtmonkjnfjgidbaaGreatDoorOr11
import Derived.Test.YtmonkjnfjgidbaaGreatDoorOr07
import Derived.Test.YtmonkjnfjgidbaaGreatDoorOr10
import Derived.Test.YtmonkjnfjgidbaaGreatDoorOr03
import Derived.ArgAppend
namespace Go.Proofs.YtmonkjnfjgidbaaGreatDoor
set_option linter.all false
set_option linter.unusedVariables false
set_option linter.unusedSimpArgs false
open Go.RowKit
theorem tri_up {v : Nat → Int} {n : Nat} (h : triOk v n = true) : ∀ i : Nat, i < n → (i : Int) ≤ v i ∧ v i ≤ 7
  | 0, hi => by
    have := allB_iff.1 h 0 hi
    unfold inB5 at this
    simp only [Bool.and_eq_true, decide_eq_true_eq] at this
    omega
  | i + 1, hi => by
    have h1 := tri_up h i (by omega)
    have := allB_iff.1 h (i + 1) hi
    unfold inB5 at this
    simp only [Bool.and_eq_true, Bool.or_eq_true, decide_eq_true_eq, Nat.add_sub_cancel] at this
    have h2 := this.2.resolve_left (by omega)
    omega
theorem tri_len {v : Nat → Int} {n : Nat} (h : triOk v n = true) : n ≤ 8 := by
  by_cases h0 : n = 0
  · omega
  · have h1 := tri_up h (n - 1) (by omega)
    omega
theorem trp_lens {T : Trp} (h : trpOk T = true) : T.no ≤ 8 ∧ T.nu ≤ 8 ∧ T.nv ≤ 8 := by
  unfold trpOk at h
  simp only [Bool.and_eq_true] at h
  exact ⟨tri_len h.1.1.2, tri_len h.1.2, tri_len h.2⟩
def hirW (Y : Wy) (Z : Cus) (T : Trp) (E : Fes) : List Int × Int × Bool := hirV Z T Y.n (stY Y) E
def hirC (Y : Wy) (Z : Cus) (T : Trp) (E : Fes) : Int := if rdyC Y Z T ≠ 0 then rdyC Y Z T else if fesOk E = false then 74 else if wkC Y ≠ 0 then wkC Y else if (hirW Y Z T E).2.2 = true then 0 else 75
def hirL (Y : Wy) (Z : Cus) (T : Trp) (E : Fes) : List Int := if hirC Y Z T E = 0 then (hirW Y Z T E).1 else []
def hirN (Y : Wy) (Z : Cus) (T : Trp) (E : Fes) : Int := if hirC Y Z T E = 0 then (hirW Y Z T E).2.1 else 0
def hirA (Y : Wy) (Z : Cus) (T : Trp) (E : Fes) (y : Option Addr × Nat) : Value := .tuple #[.slice y.1 (hirL Y Z T E).length y.2, .int .i64 (hirN Y Z T E), .int .i64 (hirC Y Z T E)]
def hirF (Y : Wy) (Z : Cus) (T : Trp) (E : Fes) (y : Option Addr × Nat) : List Fact := [.own y.1 (hirL Y Z T E).length y.2 3 1 (iL (hirL Y Z T E))]
section
variable {Y : Wy} {Z : Cus} {T : Trp} {E : Fes}
theorem hirC_rdy (h : rdyC Y Z T ≠ 0) : hirC Y Z T E = rdyC Y Z T := if_pos h
theorem hirC_fee (h : rdyC Y Z T = 0) (hE : fesOk E = false) : hirC Y Z T E = 74 := by unfold hirC; rw [if_neg (by omega), if_pos hE]
theorem hirC_wk (h : rdyC Y Z T = 0) (hE : fesOk E = true) (hw : wkC Y ≠ 0) : hirC Y Z T E = wkC Y := by unfold hirC; rw [if_neg (by omega), if_neg (by rw [hE]; simp), if_pos hw]
theorem hirC_no (h : rdyC Y Z T = 0) (hE : fesOk E = true) (hw : wkC Y = 0) (hf : (hirW Y Z T E).2.2 = false) : hirC Y Z T E = 75 := by unfold hirC; rw [if_neg (by omega), if_neg (by rw [hE]; simp), if_neg (by omega), if_neg (by rw [hf]; simp)]
theorem hirC_ok (h : rdyC Y Z T = 0) (hE : fesOk E = true) (hw : wkC Y = 0) (hf : (hirW Y Z T E).2.2 = true) : hirC Y Z T E = 0 := by unfold hirC; rw [if_neg (by omega), if_neg (by rw [hE]; simp), if_neg (by omega), if_pos hf]
theorem hir_bad {w w' : World} {K : List Fact} {e : Int} (hw : Sat [] w K w') (he : hirC Y Z T E = e) (h0 : e ≠ 0) : ∃ y, Ending.returned (retV [.slice none 0 0, .int .i64 0, .int .i64 e]) = .returned (hirA Y Z T E y) ∧ Sat [] w (hirF Y Z T E y) w' := by
  have h9 : hirC Y Z T E ≠ 0 := by rw [he]; exact h0
  have e1 : hirL Y Z T E = [] := if_neg h9
  have e2 : hirN Y Z T E = 0 := if_neg h9
  refine ⟨(none, 0), ?_, ?_⟩
  · unfold hirA
    rw [e1, e2, he]
    rfl
  · unfold hirF
    rw [e1]
    exact hw.sub (KSub.nilOwn KSub.nil)
theorem hir_good {w w' : World} {K : List Fact} {y0 : Option Addr × Nat} (hw : Sat [] w (.own y0.1 (hirW Y Z T E).1.length y0.2 3 1 (iL (hirW Y Z T E).1) :: K) w') (he : hirC Y Z T E = 0) : ∃ y, Ending.returned (retV [.slice y0.1 (hirW Y Z T E).1.length y0.2, .int .i64 (hirW Y Z T E).2.1, .int .i64 0]) = .returned (hirA Y Z T E y) ∧ Sat [] w (hirF Y Z T E y) w' := by
  have e1 : hirL Y Z T E = (hirW Y Z T E).1 := if_pos he
  have e2 : hirN Y Z T E = (hirW Y Z T E).2.1 := if_pos he
  refine ⟨y0, ?_, ?_⟩
  · unfold hirA
    rw [e1, e2, he]
    rfl
  · unfold hirF
    rw [e1]
    exact hw.sub (KSub.cons pk9 KSub.nil)
end
section
variable {Z : Cus} {T : Trp} {Y : Wy} {W A L C D B O U V G : Option Addr} {cw cl cn cc cd cb co cu cv cg : Nat} {E : Fes} {w : World}
set_option maxRecDepth 100000 in
set_option maxHeartbeats 1000000 in
theorem tollHire_any (hL : LandIn w W Y.nw A Y.nl Y.f Y.x Y.g) (hn : Y.n ≤ 1000) (hR : RdR w 1 L Y.n (fun k => [.int .i64 (Y.ls k)])) (h : CustIn w C Z.nc D Z.nd B Z.nb Z.c Z.d Z.b) (t : TrpIn w T O U V) (hG : OldB w 0 barsL) (hnf : E.nf ≤ 1000) (hE : RdR w 2 G E.nf (feeL E)) :
    CallsK Tryz.prog 41 #[.agg (landL W Y.nw cw A Y.nl cl).toArray, .agg (custL C Z.nc cc D Z.nd cd B Z.nb cb).toArray, .agg (troopL T.hd T.wo O T.no co U T.nu cu V T.nv cv).toArray, .slice G E.nf cg, .int .i64 Y.start, .int .i64 Y.day, .agg #[.int .i64 Y.p0, .int .i64 Y.p1], .slice L Y.n cn] [] w (Option Addr × Nat) (hirA Y Z T E) (hirF Y Z T E) := by
  have fR := fun (w' : World) (h1 : LandIn w' W Y.nw A Y.nl Y.f Y.x Y.g) (h2 : CustIn w' C Z.nc D Z.nd B Z.nb Z.c Z.d Z.b) (h3 : TrpIn w' T O U V) => cReady_any (cw := cw) (cl := cl) (cc := cc) (cd := cd) (cb := cb) (co := co) (cu := cu) (cv := cv) h1 h2 h3
  have fW := fun (w' : World) (h1 : LandIn w' W Y.nw A Y.nl Y.f Y.x Y.g) (h2 : RdR w' 1 L Y.n (fun k => [.int .i64 (Y.ls k)])) => cWalked_any (Z := Z) (T := T) (C := C) (D := D) (B := B) (O := O) (U := U) (V := V) (cw := cw) (cl := cl) (cc := cc) (cd := cd) (cb := cb) (co := co) (cu := cu) (cv := cv) (cn := cn) h1 hn h2
  unfold landL custL troopL at fR fW ⊢
  refine K_enter (S := []) (K := []) Tryz.func41 rfl Tryz.ntmps41 rfl (Sat.start _) ?_
  refine TW.seq fun Y1 hY1 => ?_
  refine TW.region ?_
  refine TL.m Mk.bx ?_
  intro b1
  refine TL.m Mk.bx ?_
  intro b2
  refine TL.m Mk.bx ?_
  intro b3
  refine TL.m Mk.bx ?_
  intro b4
  refine TL.p Pu.as ?_
  refine TL.p Pu.as ?_
  refine TL.p Pu.as ?_
  refine TL.nil ?_
  refine TQ.thenN (hY1 _ _ ?_)
  refine TW.seq fun Y2 hY2 => ?_
  refine TW.seq fun Y3 hY3 => ?_
  refine TW.region ?_
  refine TL.p (Pu.lds ty_ag25) ?_
  refine TL.p (Pu.lds ty_ag30) ?_
  refine TL.p (Pu.lds ty_ag33) ?_
  refine TL.cr rfl (enters Tryz.func55 rfl rfl) (fun w hw => by
      exact fR _ (hL.ext (Chg.ext hw.chg)) (h.ext (Chg.ext hw.chg)) (t.ext (Chg.ext hw.chg))) ?_
  refine TL.p Pu.as ?_
  refine TL.nil ?_
  refine TQ.thenN (hY3 _ _ ?_)
  refine TW.seq fun Y4 hY4 => ?_
  refine TW.region ?_
  refine TL.p Pu.mv ?_
  refine TL.p Pu.ne ?_
  refine TL.nil ?_
  refine TQ.thenN (hY4 _ _ ?_)
  refine TW.cond rfl (fun hc0 => ?_) (fun hc0 => ?_)
  try simp only [decide_eq_true_eq, decide_eq_false_iff_not, Bool.not_eq_true', Bool.not_eq_false', Bool.and_eq_true, Bool.or_eq_true, Bool.and_eq_false_iff, Bool.or_eq_false_iff, Int.not_lt, Int.not_le] at hc0
  have hne : rdyC Y Z T ≠ 0 := hc0
  refine TW.seq fun Y5 hY5 => ?_
  refine TW.region ?_
  refine TL.p Pu.mv ?_
  refine TL.p Pu.as ?_
  refine TL.p Pu.as ?_
  refine TL.p Pu.as ?_
  refine TL.nil ?_
  refine TQ.thenN (hY5 _ _ ?_)
  refine TW.ret ?_
  refine TQ.thenR ?_
  refine TQ.ret Tryz.results41 rfl ((.tmp rfl (.tmp rfl (.tmp rfl .nil)))) ?_
  exact fun w hw => hir_bad hw (hirC_rdy hne) hne
  try simp only [decide_eq_true_eq, decide_eq_false_iff_not, Bool.not_eq_true', Bool.not_eq_false', Bool.and_eq_true, Bool.or_eq_true, Bool.and_eq_false_iff, Bool.or_eq_false_iff, Int.not_lt, Int.not_le] at hc0
  have hz : rdyC Y Z T = 0 := by simpa using hc0
  obtain ⟨hz1, hz2⟩ := rdy_split hz
  have hok := chk_ok hz1
  refine TW.skip ?_
  refine TQ.thenN (hY2 _ _ ?_)
  refine TW.seq fun Y6 hY6 => ?_
  refine TW.seq fun Y7 hY7 => ?_
  refine TW.region ?_
  refine TL.p Pu.mv ?_
  refine TL.cr rfl (enters Tryz.func70 rfl rfl) (fun w hw => by
      exact cPriced_any (by omega) (hE.sat hw Apart.nil)) ?_
  refine TL.p Pu.no ?_
  refine TL.nil ?_
  refine TQ.thenN (hY7 _ _ ?_)
  refine TW.cond rfl (fun hc1 => ?_) (fun hc1 => ?_)
  try simp only [decide_eq_true_eq, decide_eq_false_iff_not, Bool.not_eq_true', Bool.not_eq_false', Bool.and_eq_true, Bool.or_eq_true, Bool.and_eq_false_iff, Bool.or_eq_false_iff, Int.not_lt, Int.not_le] at hc1
  have h2 : fesOk E = false := by simpa using hc1
  refine TW.seq fun Y8 hY8 => ?_
  refine TW.region ?_
  refine TL.p Pu.as ?_
  refine TL.p Pu.as ?_
  refine TL.p Pu.as ?_
  refine TL.nil ?_
  refine TQ.thenN (hY8 _ _ ?_)
  refine TW.ret ?_
  refine TQ.thenR ?_
  refine TQ.ret Tryz.results41 rfl ((.tmp rfl (.tmp rfl (.tmp rfl .nil)))) ?_
  exact fun w hw => hir_bad hw (hirC_fee hz h2) (by decide)
  try simp only [decide_eq_true_eq, decide_eq_false_iff_not, Bool.not_eq_true', Bool.not_eq_false', Bool.and_eq_true, Bool.or_eq_true, Bool.and_eq_false_iff, Bool.or_eq_false_iff, Int.not_lt, Int.not_le] at hc1
  have h2 : fesOk E = true := by simpa using hc1
  refine TW.skip ?_
  refine TQ.thenN (hY6 _ _ ?_)
  refine TW.seq fun Y9 hY9 => ?_
  refine TW.region ?_
  refine TL.p (Pu.lds ty_ag25) ?_
  refine TL.p (Pu.lds ty_ag30) ?_
  refine TL.p (Pu.lds ty_ag33) ?_
  refine TL.p Pu.mv ?_
  refine TL.p Pu.mv ?_
  refine TL.p (Pu.lds ty_ag35) ?_
  refine TL.p Pu.mv ?_
  refine TL.call (M := []) rfl (enters Tryz.func56 rfl rfl) (List.Perm.refl _) rfl (fun w hw => by
      exact fW _ (hL.ext (Chg.ext hw.chg)) (hR.sat hw Apart.nil)) ?_
  rintro ⟨⟨As, cs⟩, bt⟩
  refine TL.p Pu.mv ?_
  refine TL.p Pu.ex ?_
  refine TL.p Pu.ex ?_
  refine TL.p Pu.as ?_
  refine TL.p Pu.as ?_
  refine TL.nil ?_
  refine TQ.thenN (hY9 _ _ ?_)
  refine TW.seq fun Y10 hY10 => ?_
  refine TW.seq fun Y11 hY11 => ?_
  refine TW.region ?_
  refine TL.p Pu.mv ?_
  refine TL.p Pu.ne ?_
  refine TL.nil ?_
  refine TQ.thenN (hY11 _ _ ?_)
  refine TW.cond rfl (fun hc2 => ?_) (fun hc2 => ?_)
  try simp only [decide_eq_true_eq, decide_eq_false_iff_not, Bool.not_eq_true', Bool.not_eq_false', Bool.and_eq_true, Bool.or_eq_true, Bool.and_eq_false_iff, Bool.or_eq_false_iff, Int.not_lt, Int.not_le] at hc2
  have hne : wkC Y ≠ 0 := hc2
  refine TW.seq fun Y12 hY12 => ?_
  refine TW.region ?_
  refine TL.p Pu.mv ?_
  refine TL.p Pu.as ?_
  refine TL.p Pu.as ?_
  refine TL.p Pu.as ?_
  refine TL.nil ?_
  refine TQ.thenN (hY12 _ _ ?_)
  refine TW.ret ?_
  refine TQ.thenR ?_
  refine TQ.ret Tryz.results41 rfl ((.tmp rfl (.tmp rfl (.tmp rfl .nil)))) ?_
  exact fun w hw => hir_bad hw (hirC_wk hz h2 hne) hne
  try simp only [decide_eq_true_eq, decide_eq_false_iff_not, Bool.not_eq_true', Bool.not_eq_false', Bool.and_eq_true, Bool.or_eq_true, Bool.and_eq_false_iff, Bool.or_eq_false_iff, Int.not_lt, Int.not_le] at hc2
  have hwz : wkC Y = 0 := by simpa using hc2
  have hwn := wkN_n hwz
  have hwb := stY_bd hwz
  have hWe : hirV Z T (wkN Y) (stY Y) E = hirW Y Z T E := by unfold hirW; rw [hwn]
  refine TW.skip ?_
  refine TQ.thenN (hY10 _ _ ?_)
  refine TW.seq fun Y13 hY13 => ?_
  refine TW.region ?_
  refine TL.p Pu.mv ?_
  refine TL.p Pu.mv ?_
  refine TL.call (M := []) rfl (enters Tryz.func71 rfl rfl) (List.Perm.refl _) rfl (fun w hw => by
      have q1 := OldB.of_blk (hw.holds (.blk bt 180 (trkL T O co U cu V cv Z C cc D cd B cb As (wkN Y) cs)) (by simp))
      have q2 := OwnR.rdr (hw.holds (.own As (wkN Y) cs 62 6 (fun k => stopL (stY Y k))) (by simp))
      exact cHire_any hok h2 (h.ext (Chg.ext hw.chg)) (t.ext (Chg.ext hw.chg)) ⟨by rw [hwn]; exact hn, q2, fun k hk => hwb k (by rw [← hwn]; exact hk)⟩ q1 (hG.ext (Chg.ext hw.chg)) (by have := trp_lens hz2; omega) (hE.sat hw Apart.nil)) ?_
  rintro ⟨Ag, cg9⟩
  simp only [hWe, hirR]
  refine TL.p Pu.mv ?_
  refine TL.p Pu.ex ?_
  refine TL.p Pu.ex ?_
  refine TL.p Pu.ex ?_
  refine TL.p Pu.as ?_
  refine TL.p Pu.as ?_
  refine TL.p Pu.as ?_
  refine TL.nil ?_
  refine TQ.thenN (hY13 _ _ ?_)
  refine TW.seq fun Y14 hY14 => ?_
  refine TW.seq fun Y15 hY15 => ?_
  refine TW.region ?_
  refine TL.p Pu.mv ?_
  refine TL.p Pu.no ?_
  refine TL.nil ?_
  refine TQ.thenN (hY15 _ _ ?_)
  refine TW.cond rfl (fun hc3 => ?_) (fun hc3 => ?_)
  try simp only [decide_eq_true_eq, decide_eq_false_iff_not, Bool.not_eq_true', Bool.not_eq_false', Bool.and_eq_true, Bool.or_eq_true, Bool.and_eq_false_iff, Bool.or_eq_false_iff, Int.not_lt, Int.not_le] at hc3
  have hf : (hirW Y Z T E).2.2 = false := by simpa using hc3
  refine TW.seq fun Y16 hY16 => ?_
  refine TW.region ?_
  refine TL.p Pu.as ?_
  refine TL.p Pu.as ?_
  refine TL.p Pu.as ?_
  refine TL.nil ?_
  refine TQ.thenN (hY16 _ _ ?_)
  refine TW.ret ?_
  refine TQ.thenR ?_
  refine TQ.ret Tryz.results41 rfl ((.tmp rfl (.tmp rfl (.tmp rfl .nil)))) ?_
  exact fun w hw => hir_bad hw (hirC_no hz h2 hwz hf) (by decide)
  try simp only [decide_eq_true_eq, decide_eq_false_iff_not, Bool.not_eq_true', Bool.not_eq_false', Bool.and_eq_true, Bool.or_eq_true, Bool.and_eq_false_iff, Bool.or_eq_false_iff, Int.not_lt, Int.not_le] at hc3
  have hf : (hirW Y Z T E).2.2 = true := by simpa using hc3
  refine TW.skip ?_
  refine TQ.thenN (hY14 _ _ ?_)
  refine TW.seq fun Y17 hY17 => ?_
  refine TW.region ?_
  refine TL.p Pu.mv ?_
  refine TL.p Pu.mv ?_
  refine TL.p Pu.as ?_
  refine TL.p Pu.as ?_
  refine TL.p Pu.as ?_
  refine TL.nil ?_
  refine TQ.thenN (hY17 _ _ ?_)
  refine TW.ret ?_
  refine TQ.ret Tryz.results41 rfl ((.tmp rfl (.tmp rfl (.tmp rfl .nil)))) ?_
  exact fun w hw => by
    have q9 := hir_good (Y := Y) (Z := Z) (T := T) (E := E) (y0 := (Ag, cg9)) (K := []) (hw.sub (KSub.cons pk9 KSub.nil)) (hirC_ok hz h2 hwz hf)
    exact q9
end
end Go.Proofs.YtmonkjnfjgidbaaGreatDoor
namespace Go.Proofs.YtmonkjnfjgidbaaGreatDoor
set_option linter.all false
set_option linter.unusedVariables false
set_option linter.unusedSimpArgs false
open Go.RowKit
abbrev lgA (x : Leg) (a : Option Addr) (d : Nat) : Leg := ⟨x.u, a, x.n, d⟩
end Go.Proofs.YtmonkjnfjgidbaaGreatDoor
namespace Go.Proofs.YtmonkjnfjgidbaaGreatDoor
set_option linter.all false
set_option linter.unusedVariables false
set_option linter.unusedSimpArgs false
open Go.RowKit
section
variable {P : Program} {ops : Array Oper} {Q : Exit → Act → World → Prop} {md : Region.Mode} {S1 S : World → Prop} {s : Nat}
def wpUntil (P : Program) (md : Region.Mode) (ops : Array Oper) (Q : Exit → Act → World → Prop) (S1 S : World → Prop) (s : Nat) : Nat → Array Bool → Act → World → Prop
  | 0, l, a, w => Region.ready md ops l = [] ∧ Q .normal a w
  | n + 1, l, a, w => (Region.ready md ops l = [] → Q .normal a w) ∧ ∀ i ∈ Region.ready md ops l, wpOp P ops Q i (fun a' w' => S1 w' ∧ ((l.setIfInBounds i true).getD s true = false → S w') ∧ wpUntil P md ops Q S1 S s n (l.setIfInBounds i true) a' w') a w
theorem until_any : ∀ (n : Nat) (l : Array Bool) (a : Act) (w : World), wpUntil P md ops Q S1 S s n l a w → wpAnyH P md ops Q S1 n l a w
  | 0, _, _, _, h => h
  | n + 1, _, _, _, h => ⟨h.1, fun i hi => wpOp_mono (fun a' w' h' => ⟨h'.1, until_any n _ a' w' h'.2.2⟩) (h.2 i hi)⟩
theorem set_stays {l : Array Bool} {i : Nat} (h : l.getD s true = true) : (l.setIfInBounds i true).getD s true = true := by
  by_cases hi : i = s
  · subst hi
    by_cases hlt : i < l.size
    · simp [hlt]
    · simp [hlt]
  · rw [getD_set_ne true hi]; exact h
theorem until_of_any : ∀ (n : Nat) (l : Array Bool) (a : Act) (w : World), l.getD s true = true → wpAnyH P md ops Q S1 n l a w → wpUntil P md ops Q S1 S s n l a w
  | 0, _, _, _, _, h => h
  | n + 1, l, _, _, hs, h => ⟨h.1, fun i hi => wpOp_mono (fun a' w' h' => ⟨h'.1, fun h0 => (by rw [set_stays hs] at h0; cases h0), until_of_any n _ a' w' (set_stays hs) h'.2⟩) (h.2 i hi)⟩
theorem until_first {i : Nat} {oi : Oper} {v : Value} {T : World → Prop} (hi : ops[i]? = some oi) (hsel : ∀ (j : Nat) (o : Oper) cs b, ops[j]? = some o → o.op ≠ .select cs b)
    (hQ : ∀ c a w, Q (.panic c) (a.put oi.dst v) w → Q (.panic c) a w) (his : i ≠ s)
    (hT : (T = S ∧ ∃ os, ops[s]? = some os ∧ ∃ e ∈ os.after, Region.binds md e = true ∧ e.on = i) ∨ T = S1) :
    ∀ (n : Nat) (l : Array Bool) (a : Act) (w : World),
      (∀ j oj, ops[j]? = some oj → j ≠ i → l.getD j true = false → (∀ e ∈ oj.after, Region.binds md e = true → e.on ≠ i) → oi.apart ops oj = true) →
      i ∈ Region.ready md ops l → YieldsIf P ops T oi v a → l.getD s true = false → S1 w → S w →
      wpUntil P md ops Q S1 S s n (l.setIfInBounds i true) (a.put oi.dst v) w → wpUntil P md ops Q S1 S s (n + 1) l a w := by
  intro n
  have hTw : ∀ w, S1 w → S w → T w := fun w h1 h => by
    rcases hT with ⟨rfl, _⟩ | rfl
    · exact h
    · exact h1
  induction n with
  | zero =>
    intro l a w _ hr hy hs hS1 hS H
    refine ⟨fun h => (by rw [h] at hr; cases hr), fun j hj => ?_⟩
    by_cases hji : j = i
    · subst hji; exact hy.wpOp hi (hTw w hS1 hS) ⟨hS1, fun _ => hS, H⟩
    · have := ready_mono hj hji
      rw [H.1] at this
      cases this
  | succ n ih =>
    intro l a w hfree hr hy hs hS1 hS H
    refine ⟨fun h => (by rw [h] at hr; cases hr), fun j hj => ?_⟩
    by_cases hji : j = i
    · subst hji; exact hy.wpOp hi (hTw w hS1 hS) ⟨hS1, fun _ => hS, H⟩
    · have h1 := H.2 j (ready_mono hj hji)
      obtain ⟨hjun, oj, hoj, hall⟩ := mem_ready.1 hj
      have hiun := (mem_ready.1 hr).1
      have hnot : ∀ e ∈ oj.after, Region.binds md e = true → e.on ≠ i := fun e he hb heq => by
        have h2 := hall e he hb
        rw [heq] at h2
        rcases Nat.lt_or_ge i l.size with h' | h'
        · simp [h'] at hiun h2; rw [hiun] at h2; cases h2
        · simp [Array.getElem?_eq_none h'] at h2
      have h2 := wpOp_putIf hoj (hfree j oj hoj hji hjun hnot) (fun cs b => hsel i oi cs b hi) (fun cs b => hsel j oj cs b hoj) hQ hy h1
      have hfree' : ∀ k ok, ops[k]? = some ok → k ≠ i → (l.setIfInBounds j true).getD k true = false →
          (∀ e ∈ ok.after, Region.binds md e = true → e.on ≠ i) → oi.apart ops ok = true := fun k ok hk hki hun hno => by
        refine hfree k ok hk hki ?_ hno
        by_cases hjk : j = k
        · subst hjk; exact hjun
        · rw [getD_set_ne true hjk] at hun; exact hun
      have hcomm : (l.setIfInBounds i true).setIfInBounds j true = (l.setIfInBounds j true).setIfInBounds i true := Array.setIfInBounds_comm _ _ (fun e => hji e.symm)
      have hbit : ((l.setIfInBounds i true).setIfInBounds j true).getD s true = (l.setIfInBounds j true).getD s true := by rw [hcomm, getD_set_ne true his]
      refine wpOp_mono (fun a' w' h3 => ?_) h2
      obtain ⟨hy', hS1', hS', H'⟩ := h3
      rw [hbit] at hS'
      by_cases hjs : (l.setIfInBounds j true).getD s true = false
      · refine ⟨hS1', fun _ => hS' hjs, ih (l.setIfInBounds j true) a' w' hfree' (ready_mono hr (Ne.symm hji)) hy' hjs hS1' (hS' hjs) ?_⟩
        rw [← hcomm]
        exact H'
      · have hjs' : (l.setIfInBounds j true).getD s true = true := by simpa using hjs
        refine ⟨hS1', fun h => absurd h hjs, ?_⟩
        rcases hT with ⟨_, os, hos, e, he, hb, hei⟩ | rfl
        · exfalso
          have hsj : j = s := by
            by_cases hne : j = s
            · exact hne
            · rw [getD_set_ne true hne, hs] at hjs'; cases hjs'
          subst hsj
          rw [hoj] at hos
          cases hos
          exact hnot e he hb hei
        · refine until_of_any _ _ _ _ hjs' (wpAnyH_first hi hsel hQ n (l.setIfInBounds j true) a' w' hfree' (ready_mono hr (Ne.symm hji)) hy' hS1' ?_)
          have := until_any _ _ _ _ H'
          rw [hcomm] at this
          exact this
end
theorem wpOp_of_TL {c : Cx} {Q : Exit → Act → World → Prop} {F : Fr} {K : List Fact} {ops : Array Oper} {j : Nat} {o : Oper} {Z : Act → World → Prop} (ho : ops[j]? = some o) (h : TL c ops (nxt Z Q) [o] F K) {a : Act} {w : World} (hF : FS c.n c.D F a) (hK : Sat c.S c.w0 K w) : wpOp c.P ops Q j Z a w := by
  have h1 := h a w hF hK
  unfold wpList at h1
  unfold wpOp
  simp only [ho]
  split
  · rename_i hw
    rw [if_pos hw] at h1
    rcases h1 with h1 | ⟨hA, hL⟩
    · refine .inl ?_
      unfold Oper.wp at *
      generalize (execOp a.eval o).run c.P w = r at *
      cases r with
      | ok x w' =>
        cases x <;> simp only [Oper.upon] at h1 ⊢ <;> first
          | exact h1
          | exact Calls.mono h1 (fun e w'' he => by
              cases e with
              | returned v => exact he
              | panicked ch => exact he
              | outgrown => obtain ⟨x, y, z⟩ := he; exact ⟨x, y, z⟩)
          | exact Rows.mono h1 (fun _ _ he => he)
      | halt x w' => cases x <;> simp only [Oper.upon] at h1 ⊢ <;> exact h1
    · obtain ⟨x, y, z⟩ := hL
      exact .inr ⟨hA, x, y, z⟩
  · rename_i hw
    rw [if_neg hw] at h1
    exact h1
section
variable {c : Cx} {Q : Exit → Act → World → Prop} {F F' : Fr} {K K' K0 : List Fact} {ops : Array Oper} {listed : Array Bool} {fuel s : Nat}
def RU (c : Cx) (ops : Array Oper) (Q : Exit → Act → World → Prop) (K0 : List Fact) (s : Nat) (listed : Array Bool) (fuel : Nat) (F : Fr) (K : List Fact) : Prop :=
  ∀ a w, FS c.n c.D F a → Sat c.S c.w0 K w → wpUntil c.P .any ops Q (Sat c.S c.w0 []) (Sat c.S c.w0 K0) s fuel listed a w
def waitsB (ops : Array Oper) (s i : Nat) : Bool := match ops[s]? with
  | some o => o.after.any fun e => Region.binds .any e && e.on == i
  | none => false
theorem waits_spec {i : Nat} (h : waitsB ops s i = true) : ∃ os, ops[s]? = some os ∧ ∃ e ∈ os.after, Region.binds .any e = true ∧ e.on = i := by
  unfold waitsB at h
  split at h
  · rename_i o ho
    obtain ⟨e, he, h2⟩ := Array.any_eq_true'.1 h
    simp only [Bool.and_eq_true, beq_iff_eq] at h2
    exact ⟨o, ho, e, he, h2.1, h2.2⟩
  · cases h
theorem RU.tk (i : Nat) {op : Op} {ty : TypeId} {pos : String} {af : Array Edge} {g : Option (Nat × Bool)} {t : Nat} {v : Value} (ho : ops[i]? = some ⟨some t, op, ty, pos, af, g⟩) (hp : Pu c F K0 ⟨some t, op, ty, pos, af, g⟩ v) (h : RU c ops Q K0 s (listed.setIfInBounds i true) fuel ((t, v) :: F) K) (hh : HasL K K0 := by repeat (first | exact HasL.nil | refine HasL.cons pk9 ?_)) (hk : takeA ops listed i = true := by kernel_rfl) (hw : waitsB ops s i = true := by kernel_rfl) (hn : Nat.beq i s = false := by rfl) (hu : listed.getD s true = false := by kernel_rfl) (hg : gdB F ops g = some true := by rfl) (hd : Nat.blt t c.n = true := by rfl) (hpan : Pan Q := by (intro d _ _ _ _; cases d <;> exact Iff.rfl)) :
    RU c ops Q K0 s listed (fuel + 1) F K := fun a w hF hK => by
  simp only [takeA, Bool.and_eq_true] at hk
  have his : i ≠ s := fun e => by rw [beq_iff.2 e] at hn; cases hn
  exact until_first ho (Region.noSelect_spec hk.1.1) (fun ch a w h => (hpan _ v ch a w).1 h) his (.inl ⟨rfl, waits_spec hw⟩) fuel listed a w (Region.free_spec ho hk.1.2) (by simpa using hk.2) (.inl ⟨hF.wanted hg, fun w' hS => hp a w' hF hS⟩) hu (HasL.nil.has.sat hK) (hh.has.sat hK) (h _ w (hF.put hd v) hK)
theorem RU.a1 (i : Nat) {o : Oper} (ho : ops[i]? = some o) (h : ∀ Z : Act → World → Prop, (∀ F2 K2, HasL K2 K0 → RU c ops Q K0 s (listed.setIfInBounds i true) fuel F2 K2 → TQ c (fun _ => Z) .normal F2 K2) → TL c ops (nxt Z Q) [o] F K) (hr : Region.ready .any ops listed = [i] := by kernel_rfl) : RU c ops Q K0 s listed (fuel + 1) F K := fun a w hF hK => by
  refine ⟨fun h0 => (by rw [hr] at h0; cases h0), fun j hj => ?_⟩
  rw [hr, List.mem_singleton] at hj
  subst hj
  exact wpOp_of_TL ho (h (fun a' w' => Sat c.S c.w0 [] w' ∧ ((listed.setIfInBounds j true).getD s true = false → Sat c.S c.w0 K0 w') ∧ wpUntil c.P .any ops Q (Sat c.S c.w0 []) (Sat c.S c.w0 K0) s fuel (listed.setIfInBounds j true) a' w') (fun F2 K2 hh hg a' w' hF2 hK2 => ⟨HasL.nil.has.sat hK2, fun _ => hh.has.sat hK2, hg a' w' hF2 hK2⟩)) hF hK
theorem RU.st {o : Oper} (ho : ops[s]? = some o) (h : ∀ Z : Act → World → Prop, (∀ F2 K2, RG c ops Q [] [] (listed.setIfInBounds s true) fuel F2 K2 → TQ c (fun _ => Z) .normal F2 K2) → TL c ops (nxt Z Q) [o] F K) (hr : Region.ready .any ops listed = [s] := by kernel_rfl) (hu : (listed.setIfInBounds s true).getD s true = true := by kernel_rfl) : RU c ops Q K0 s listed (fuel + 1) F K := fun a w hF hK => by
  refine ⟨fun h0 => (by rw [hr] at h0; cases h0), fun j hj => ?_⟩
  rw [hr, List.mem_singleton] at hj
  subst hj
  exact wpOp_of_TL ho (h (fun a' w' => Sat c.S c.w0 [] w' ∧ ((listed.setIfInBounds j true).getD j true = false → Sat c.S c.w0 K0 w') ∧ wpUntil c.P .any ops Q (Sat c.S c.w0 []) (Sat c.S c.w0 K0) j fuel (listed.setIfInBounds j true) a' w') (fun F2 K2 hg a' w' hF2 hK2 => ⟨HasL.nil.has.sat hK2, fun h0 => (by rw [hu] at h0; cases h0), until_of_any _ _ _ _ hu (hg (fun p hp => by cases hp) a' w' hF2 hK2)⟩)) hF hK
end
end Go.Proofs.YtmonkjnfjgidbaaGreatDoor
namespace Go.Proofs.YtmonkjnfjgidbaaGreatDoor
set_option linter.all false
set_option linter.unusedVariables false
set_option linter.unusedSimpArgs false
open Go.RowKit
section
variable {c : Cx} {Q : Exit → Act → World → Prop} {F F' : Fr} {K K' K0 : List Fact} {ops : Array Oper} {listed : Array Bool} {fuel s : Nat}
def RUo (c : Cx) (ops : Array Oper) (Q : Exit → Act → World → Prop) (K0 : List Fact) (s : Nat) (listed : Array Bool) (fuel : Nat) (F : Fr) (K : List Fact) (i : Nat) (o : Oper) : Prop :=
  ∀ Z : Act → World → Prop, (∀ F2 K2, HasL K2 K0 → RU c ops Q K0 s (listed.setIfInBounds i true) fuel F2 K2 → TQ c (fun _ => Z) .normal F2 K2) → TL c ops (nxt Z Q) [o] F K
theorem RU.all {L : List Nat} (hr : Region.ready .any ops listed = L) (hL : L ≠ []) (h : ∀ j ∈ L, ∃ o, ops[j]? = some o ∧ RUo c ops Q K0 s listed fuel F K j o) : RU c ops Q K0 s listed (fuel + 1) F K := fun a w hF hK => by
  refine ⟨fun h0 => absurd (hr.symm.trans h0) hL, fun j hj => ?_⟩
  rw [hr] at hj
  obtain ⟨o, ho, h9⟩ := h j hj
  exact wpOp_of_TL ho (h9 (fun a' w' => Sat c.S c.w0 [] w' ∧ ((listed.setIfInBounds j true).getD s true = false → Sat c.S c.w0 K0 w') ∧ wpUntil c.P .any ops Q (Sat c.S c.w0 []) (Sat c.S c.w0 K0) s fuel (listed.setIfInBounds j true) a' w') (fun F2 K2 hh hg a' w' hF2 hK2 => ⟨HasL.nil.has.sat hK2, fun _ => hh.has.sat hK2, hg a' w' hF2 hK2⟩)) hF hK
theorem RU.a2 (i j : Nat) {o o' : Oper} (ho : ops[i]? = some o) (ho' : ops[j]? = some o') (h : RUo c ops Q K0 s listed fuel F K i o) (h' : RUo c ops Q K0 s listed fuel F K j o') (hr : Region.ready .any ops listed = [i, j] := by kernel_rfl) : RU c ops Q K0 s listed (fuel + 1) F K :=
  RU.all hr (by simp) fun k hk => by
    simp only [List.mem_cons, List.not_mem_nil, or_false] at hk
    rcases hk with rfl | rfl
    · exact ⟨o, ho, h⟩
    · exact ⟨o', ho', h'⟩
theorem RU.a3 (i j k : Nat) {o o' o'' : Oper} (ho : ops[i]? = some o) (ho' : ops[j]? = some o') (ho'' : ops[k]? = some o'') (h : RUo c ops Q K0 s listed fuel F K i o) (h' : RUo c ops Q K0 s listed fuel F K j o') (h'' : RUo c ops Q K0 s listed fuel F K k o'') (hr : Region.ready .any ops listed = [i, j, k] := by kernel_rfl) : RU c ops Q K0 s listed (fuel + 1) F K :=
  RU.all hr (by simp) fun k hk => by
    simp only [List.mem_cons, List.not_mem_nil, or_false] at hk
    rcases hk with rfl | rfl | rfl
    · exact ⟨o, ho, h⟩
    · exact ⟨o', ho', h'⟩
    · exact ⟨o'', ho'', h''⟩
end
section
variable {c : Cx} {Q : Exit → Act → World → Prop} {F F' : Fr} {K K' K0 : List Fact} {ops : Array Oper} {listed l2 : Array Bool} {fuel f2 : Nat}
def lstA (n : Nat) (L : List Nat) : Array Bool := L.foldl (fun l i => l.setIfInBounds i true) (Array.replicate n false)
theorem RG.later {X : Type} (n : Nat) (L : List Nat) (f2 : Nat) (Fj : X → Fr) (Kj : X → List Fact) (h1 : ∀ x, RG c ops Q K0 [] (lstA n L) f2 (Fj x) (Kj x)) (h2 : (∀ x, RG c ops Q K0 [] (lstA n L) f2 (Fj x) (Kj x)) → RG c ops Q K0 [] listed fuel F K) : RG c ops Q K0 [] listed fuel F K := h2 h1
end
section
variable {c : Cx} {Q : Exit → Act → World → Prop} {F : Fr} {K K0 : List Fact} {ops : Array Oper} {listed : Array Bool} {fuel : Nat}
end
section
variable {c : Cx} {Q : Exit → Act → World → Prop} {F F' : Fr} {K K' K0 : List Fact} {ops : Array Oper} {nf : Nat} {fl : List Fl} {bs : List Bool} {pend : List (Nat × Oper)} {ty : TypeId} {pos : String} {af : Array Edge}
end
end Go.Proofs.YtmonkjnfjgidbaaGreatDoor
namespace Go.Proofs.YtmonkjnfjgidbaaGreatDoor
set_option linter.all false
set_option linter.unusedVariables false
set_option linter.unusedSimpArgs false
open Go.RowKit
set_option maxRecDepth 100000 in
theorem neToll (x y : Operand) (v : TlX) (w : World) : (do eqGuard .neq 78 x y (.agg (tolL v).toArray) (.agg (tolL v).toArray); binOp .neq 78 (.agg (tolL v).toArray) (.agg (tolL v).toArray) : Sem Value).run Tryz.prog w = .ok (.bool false) w := by
  unfold tolL
  go_simp
set_option maxRecDepth 100000 in
theorem sameTolls_any {A B : Option Addr} {L : List TlX} {c1 c2 : Nat} {w : World} (hn : L.length ≤ 1000000) (hA : RdR w 4 A L.length (rowsT L)) (hB : RdR w 4 B L.length (rowsT L)) :
    Calls Tryz.prog 22 #[.slice A L.length c1, .slice B L.length c2] w (Ret w (.bool true)) := by
  unfold rowsT at hA hB
  refine K_enter (S := []) (K := []) Tryz.func22 rfl Tryz.ntmps22 rfl (Sat.start _) ?_
  refine TW.seq fun Y1 hY1 => ?_
  refine TW.region ?_
  refine TL.p Pu.as ?_
  refine TL.nil ?_
  refine TQ.thenN (hY1 _ _ ?_)
  refine TW.seq fun Y2 hY2 => ?_
  refine TW.seq fun Y3 hY3 => ?_
  refine TW.region ?_
  refine TL.p Pu.mv ?_
  refine TL.p (Pu.ln Tryz.underlying45) ?_
  refine TL.p Pu.mv ?_
  refine TL.p (Pu.ln Tryz.underlying45) ?_
  refine TL.p Pu.ne ?_
  refine TL.nil ?_
  refine TQ.thenN (hY3 _ _ ?_)
  refine TW.condF rfl ((by simp)) ?_
  refine TW.skip ?_
  refine TQ.thenN (hY2 _ _ ?_)
  refine TW.seq fun Y4 hY4 => ?_
  refine TW.seq fun Y5 hY5 => ?_
  refine TW.region ?_
  refine TL.p Pu.as ?_
  refine TL.nil ?_
  refine TQ.thenN (hY5 _ _ ?_)
  refine TW.block ?_
  refine TW.loop1 (fun (i : Nat) => [(5, .int .i64 (i : Int)), (0, .slice A L.length c1), (1, .slice B L.length c2)]) (fun i => []) (fun i => i ≤ L.length) (fun i => L.length - i) 0 fs9 ?_ ?_ ?_
  exact ks9
  exact Nat.zero_le _
  rintro i hi Z0 hZ0
  refine TW.seq fun Y6 hY6 => ?_
  refine TW.seq fun Y7 hY7 => ?_
  refine TW.region ?_
  refine TL.p Pu.mv ?_
  refine TL.p Pu.mv ?_
  refine TL.p (Pu.ln Tryz.underlying45) ?_
  refine TL.p Pu.lt ?_
  refine TL.nil ?_
  refine TQ.thenN (hY7 _ _ ?_)
  refine TW.cond rfl (fun hc1 => ?_) (fun hc1 => ?_)
  try simp only [decide_eq_true_eq, decide_eq_false_iff_not, Bool.not_eq_true', Bool.not_eq_false', Bool.and_eq_true, Bool.or_eq_true, Bool.and_eq_false_iff, Bool.or_eq_false_iff, Int.not_lt, Int.not_le] at hc1
  have hin : i < L.length := by omega
  refine TW.skip ?_
  refine TQ.thenN (hY6 _ _ ?_)
  refine TW.seq fun Y8 hY8 => ?_
  refine TW.block ?_
  refine TW.seq fun Y9 hY9 => ?_
  refine TW.dw 9 ?_
  refine RK.tk Pu.mv ?_
  refine RK.tk Pu.mv ?_
  refine RK.tk (Pu.el ty_et45) ?_
  refine RK.tk (Pu.lds ty_ag78) ?_
  refine RK.tk Pu.mv ?_
  refine RK.tk Pu.mv ?_
  refine RK.tk (Pu.el ty_et45) ?_
  refine RK.tk (Pu.lds ty_ag78) ?_
  refine RK.tk (Pu.bn rfl rfl (fun w => neToll _ _ (L.getD i (0, 0, 0, 0)) w)) ?_
  refine RK.ch [] ?_ trivial
  refine WK.n ?_
  refine TL.nil ?_
  refine TQ.thenN (hY9 _ _ ?_)
  refine TW.condF rfl (rfl) ?_
  refine TW.skip ?_
  refine TQ.blkN ?_
  refine TQ.thenN (hY8 _ _ ?_)
  refine TW.region ?_
  refine TL.p Pu.mv ?_
  refine TL.p Pu.ad ?_
  refine TL.p Pu.as ?_
  refine TL.nil ?_
  refine TQ.thenN (hZ0 (i + 1) _ _ ?_ ?_ fs9 ?_)
  exact (by omega)
  exact (by first | omega | (simp only []; omega) | (simp; omega))
  exact ks9
  try simp only [decide_eq_true_eq, decide_eq_false_iff_not, Bool.not_eq_true', Bool.not_eq_false', Bool.and_eq_true, Bool.or_eq_true, Bool.and_eq_false_iff, Bool.or_eq_false_iff, Int.not_lt, Int.not_le] at hc1
  have hin : i = L.length := by omega
  refine TW.exit ?_
  refine TQ.thenX ?_
  refine TQ.thenX ?_
  refine TQ.blkX ?_
  refine TQ.thenN (hY4 _ _ ?_)
  refine TW.seq fun Y10 hY10 => ?_
  refine TW.region ?_
  refine TL.p Pu.as ?_
  refine TL.nil ?_
  refine TQ.thenN (hY10 _ _ ?_)
  refine TW.ret ?_
  refine TQ.ret Tryz.results22 rfl ((.tmp rfl .nil)) ?_
  exact fun w hw => Ret.of hw
def sameN (n1 : Nat) (v1 : Nat → Int) (n2 : Nat) (v2 : Nat → Int) : Bool := decide (n1 = n2) && allB n1 (fun k => decide (v1 k = v2 k))
theorem sameN_self {n : Nat} {v : Nat → Int} : sameN n v n v = true := by
  unfold sameN
  rw [decide_eq_true rfl, Bool.true_and, allB_iff]
  exact fun _ _ => decide_eq_true rfl
set_option maxRecDepth 100000 in
theorem sameInts3_any {A B : Option Addr} {n1 n2 c1 c2 : Nat} {v1 v2 : Nat → Int} {w : World} (hn : n1 ≤ 1000000000) (hA : RdR w 1 A n1 (fun k => [.int .i64 (v1 k)])) (hB : RdR w 1 B n2 (fun k => [.int .i64 (v2 k)])) :
    Calls Tryz.prog 26 #[.slice A n1 c1, .slice B n2 c2] w (Ret w (.bool (sameN n1 v1 n2 v2))) := by
  refine K_enter (S := []) (K := []) Tryz.func26 rfl Tryz.ntmps26 rfl (Sat.start _) ?_
  refine TW.seq fun Y1 hY1 => ?_
  refine TW.region ?_
  refine TL.p Pu.as ?_
  refine TL.nil ?_
  refine TQ.thenN (hY1 _ _ ?_)
  refine TW.seq fun Y2 hY2 => ?_
  refine TW.seq fun Y3 hY3 => ?_
  refine TW.region ?_
  refine TL.p Pu.mv ?_
  refine TL.p (Pu.ln Tryz.underlying31) ?_
  refine TL.p Pu.mv ?_
  refine TL.p (Pu.ln Tryz.underlying31) ?_
  refine TL.p Pu.ne ?_
  refine TL.nil ?_
  refine TQ.thenN (hY3 _ _ ?_)
  refine TW.cond rfl (fun hc0 => ?_) (fun hc0 => ?_)
  try simp only [decide_eq_true_eq, decide_eq_false_iff_not, Bool.not_eq_true', Bool.not_eq_false', Bool.and_eq_true, Bool.or_eq_true, Bool.and_eq_false_iff, Bool.or_eq_false_iff, Int.not_lt, Int.not_le] at hc0
  refine TW.seq fun Y4 hY4 => ?_
  refine TW.region ?_
  refine TL.p Pu.as ?_
  refine TL.nil ?_
  refine TQ.thenN (hY4 _ _ ?_)
  refine TW.ret ?_
  refine TQ.thenR ?_
  refine TQ.ret Tryz.results26 rfl ((.tmp rfl .nil)) ?_
  exact fun w hw => ⟨ret_bool (by
    have : ¬ n1 = n2 := fun e => by subst e; simp at hc0
    simp [sameN, this]), Chg.ext hw.chg⟩
  try simp only [decide_eq_true_eq, decide_eq_false_iff_not, Bool.not_eq_true', Bool.not_eq_false', Bool.and_eq_true, Bool.or_eq_true, Bool.and_eq_false_iff, Bool.or_eq_false_iff, Int.not_lt, Int.not_le] at hc0
  have hnn : n1 = n2 := by
    have : ¬ ¬ ((n1 : Int) = (n2 : Int)) := by simpa using hc0
    omega
  refine TW.skip ?_
  refine TQ.thenN (hY2 _ _ ?_)
  refine TW.seq fun Y5 hY5 => ?_
  refine TW.seq fun Y6 hY6 => ?_
  refine TW.region ?_
  refine TL.p Pu.as ?_
  refine TL.nil ?_
  refine TQ.thenN (hY6 _ _ ?_)
  refine TW.block ?_
  refine TW.loop1 (fun (k : Nat) => [(5, .int .i64 (k : Int)), (0, .slice A n1 c1), (1, .slice B n2 c2)]) (fun k => []) (fun k => k ≤ n1 ∧ ∀ j, j < k → v1 j = v2 j) (fun k => n1 - k) 0 fs9 ?_ ?_ ?_
  exact ks9
  exact ⟨by omega, fun j hj => by omega⟩
  rintro k ⟨hk, hall⟩ Z0 hZ0
  refine TW.seq fun Y7 hY7 => ?_
  refine TW.seq fun Y8 hY8 => ?_
  refine TW.region ?_
  refine TL.p Pu.mv ?_
  refine TL.p Pu.mv ?_
  refine TL.p (Pu.ln Tryz.underlying31) ?_
  refine TL.p Pu.lt ?_
  refine TL.nil ?_
  refine TQ.thenN (hY8 _ _ ?_)
  refine TW.cond rfl (fun hc1 => ?_) (fun hc1 => ?_)
  try simp only [decide_eq_true_eq, decide_eq_false_iff_not, Bool.not_eq_true', Bool.not_eq_false', Bool.and_eq_true, Bool.or_eq_true, Bool.and_eq_false_iff, Bool.or_eq_false_iff, Int.not_lt, Int.not_le] at hc1
  refine TW.skip ?_
  refine TQ.thenN (hY7 _ _ ?_)
  refine TW.seq fun Y9 hY9 => ?_
  refine TW.block ?_
  refine TW.seq fun Y10 hY10 => ?_
  refine TW.dw 9 ?_
  refine RK.tk Pu.mv ?_
  refine RK.tk Pu.mv ?_
  refine RK.tk (Pu.el ty_et31) ?_
  refine RK.tk (Pu.ld ty_sc3) ?_
  refine RK.tk Pu.mv ?_
  refine RK.tk Pu.mv ?_
  refine RK.tk (Pu.el ty_et31) ?_
  refine RK.tk (Pu.ld ty_sc3) ?_
  refine RK.tk Pu.ne ?_
  refine RK.ch [] ?_ trivial
  refine WK.n ?_
  refine TL.nil ?_
  refine TQ.thenN (hY10 _ _ ?_)
  refine TW.cond rfl (fun hc2 => ?_) (fun hc2 => ?_)
  try simp only [decide_eq_true_eq, decide_eq_false_iff_not, Bool.not_eq_true', Bool.not_eq_false', Bool.and_eq_true, Bool.or_eq_true, Bool.and_eq_false_iff, Bool.or_eq_false_iff, Int.not_lt, Int.not_le] at hc2
  have hbad : ¬ v1 k = v2 k := by simpa using hc2
  refine TW.seq fun Y11 hY11 => ?_
  refine TW.region ?_
  refine TL.p Pu.as ?_
  refine TL.nil ?_
  refine TQ.thenN (hY11 _ _ ?_)
  refine TW.ret ?_
  refine TQ.blkR ?_
  refine TQ.thenR ?_
  refine TQ.thenR ?_
  refine TQ.blkR ?_
  refine TQ.thenR ?_
  refine TQ.ret Tryz.results26 rfl ((.tmp rfl .nil)) ?_
  exact fun w hw => ⟨ret_bool (by
    cases h : sameN n1 v1 n2 v2 with
    | false => rfl
    | true =>
      simp only [sameN, Bool.and_eq_true, allB_iff, decide_eq_true_eq] at h
      exact absurd (h.2 k (by omega)) hbad), Chg.ext hw.chg⟩
  try simp only [decide_eq_true_eq, decide_eq_false_iff_not, Bool.not_eq_true', Bool.not_eq_false', Bool.and_eq_true, Bool.or_eq_true, Bool.and_eq_false_iff, Bool.or_eq_false_iff, Int.not_lt, Int.not_le] at hc2
  have hgood : v1 k = v2 k := by simpa using hc2
  refine TW.skip ?_
  refine TQ.blkN ?_
  refine TQ.thenN (hY9 _ _ ?_)
  refine TW.region ?_
  refine TL.p Pu.mv ?_
  refine TL.p Pu.ad ?_
  refine TL.p Pu.as ?_
  refine TL.nil ?_
  refine TQ.thenN (hZ0 (k + 1) _ _ ?_ ?_ fs9 ?_)
  refine ⟨by omega, fun j hj => ?_⟩
  by_cases h : j = k
  subst h; exact hgood
  exact hall j (by omega)
  exact (by first | omega | (simp only []; omega) | (simp; omega))
  exact ks9
  try simp only [decide_eq_true_eq, decide_eq_false_iff_not, Bool.not_eq_true', Bool.not_eq_false', Bool.and_eq_true, Bool.or_eq_true, Bool.and_eq_false_iff, Bool.or_eq_false_iff, Int.not_lt, Int.not_le] at hc1
  refine TW.exit ?_
  refine TQ.thenX ?_
  refine TQ.thenX ?_
  refine TQ.blkX ?_
  refine TQ.thenN (hY5 _ _ ?_)
  refine TW.seq fun Y12 hY12 => ?_
  refine TW.region ?_
  refine TL.p Pu.as ?_
  refine TL.nil ?_
  refine TQ.thenN (hY12 _ _ ?_)
  refine TW.ret ?_
  refine TQ.ret Tryz.results26 rfl ((.tmp rfl .nil)) ?_
  exact fun w hw => ⟨ret_bool (by
    obtain rfl : k = n1 := by omega
    simp only [sameN, Bool.and_eq_true, allB_iff, decide_eq_true_eq]
    exact ⟨hnn, hall⟩), Chg.ext hw.chg⟩
theorem same3_true {A B : Option Addr} {n c1 c2 : Nat} {v : Nat → Int} {w : World} (hn : n ≤ 1000000000) (hA : RdR w 1 A n (fun k => [.int .i64 (v k)])) (hB : RdR w 1 B n (fun k => [.int .i64 (v k)])) :
    Calls Tryz.prog 26 #[.slice A n c1, .slice B n c2] w (Ret w (.bool true)) := by
  have h := sameInts3_any (c1 := c1) (c2 := c2) hn hA hB
  rwa [sameN_self] at h
section
variable {T : Trp} {O U V O' U' V' : Option Addr} {co cu cv co' cu' cv' : Nat} {w w0 : World} {S : List Nat} {K : List Fact}
end
end Go.Proofs.YtmonkjnfjgidbaaGreatDoor
namespace Go.Proofs.YtmonkjnfjgidbaaGreatDoor
set_option linter.all false
set_option linter.unusedVariables false
set_option linter.unusedSimpArgs false
open Go.RowKit
theorem WK.perm {c : Cx} {Q : Exit → Act → World → Prop} {F : Fr} {K K2 : List Fact} {ops : Array Oper} {nf : Nat} {fl : List Fl} {bs : List Bool} {pend : List (Nat × Oper)} (hp : K.Perm K2) (h : WK c ops Q nf fl bs pend F K2) : WK c ops Q nf fl bs pend F K :=
  fun W N a w h2 h0 hF hK hN hb => h W N a w h2 h0 hF (hK.perm hp) (fun b hb' => hN b ((hp.flatMap_right Fact.foot).mem_iff.2 hb')) hb
section
variable {W A C D B : Option Addr} {nw nl nc nd nb : Nat} {f : Nat → Nat → Int} {x : Nat → Leg} {g : Nat → Nat → Nat → Int} {c : Nat → (Nat → Int) × Bool} {d b : Nat → Nat → Int} {w w0 : World} {S : List Nat} {K : List Fact}
theorem great_small {no nu nv : Nat} (h : great7 nw nl x nc nd nb no nu nv = false) : nw ≤ 20 ∧ nl ≤ 40 ∧ (∀ k, k < nl → (x k).n ≤ 20) ∧ nc ≤ 40 ∧ nd ≤ 30 ∧ nb ≤ 30 ∧ no ≤ 12 ∧ nu ≤ 12 ∧ nv ≤ 12 := by
  unfold great7 great3 at h
  simp only [Bool.or_eq_false_iff, decide_eq_false_iff_not, Int.not_lt] at h
  obtain ⟨⟨⟨⟨⟨⟨⟨⟨h1, h2⟩, h3⟩, h4⟩, h5⟩, h6⟩, h7⟩, h8⟩, h9⟩ := h
  refine ⟨by omega, by omega, fun k hk => ?_, by omega, by omega, by omega, by omega, by omega, by omega⟩
  unfold anyB at h3
  rw [List.any_eq_false] at h3
  have := h3 k (List.mem_range.2 hk)
  simp only [decide_eq_true_eq] at this
  omega
def twC (nc nd nb : Nat) (c : Nat → (Nat → Int) × Bool) (d b : Nat → Nat → Int) (x : TCx) : List Fact :=
  [.own x.1.1 nc x.1.2 71 7 (fun i => claimL (c i)), .own x.2.1.1 nd x.2.1.2 73 4 (fun i => feudL (d i)), .own x.2.2.1 nb x.2.2.2 75 3 (fun i => borderL (b i))]
theorem OwnR.cap {A : Option Addr} {n cp : Nat} {E : TypeId} {sz : Nat} {r : Nat → List Value} (h : OwnR w A n cp E sz r) : n ≤ cp := by
  obtain ⟨A', c', e, h1, _⟩ := h.own.form
  cases e
  exact h1
variable {cw cl cc cd cb : Nat} {a : Nat → Option Addr} {e : Nat → Nat}
theorem tollHolder_tw (leg day : Int) (h : LandIn w W nw A nl f (fun k => lgA (x k) (a k) (e k)) g) (k : CustIn w C nc D nd B nb c d b) :
    Calls Tryz.prog 36 #[.agg (landL W nw cw A nl cl).toArray, .agg (custL C nc cc D nd cd B nb cb).toArray, .int .i64 leg, .int .i64 day] w (Ret w (.tuple #[.int .i64 (holdA (checkC nw nl f x g nc nd nb c d b) nl leg day (hb leg day c nc)), .int .i64 (holdE (checkC nw nl f x g nc nd nb c d b) nl leg day)])) := tollHolder_any (x := fun k => lgA (x k) (a k) (e k)) leg day h k
theorem tollDisputes_tw (h : LandIn w W nw A nl f (fun k => lgA (x k) (a k) (e k)) g) (k : CustIn w C nc D nd B nb c d b) (hcc : nc ≤ cc) :
    CallsK Tryz.prog 37 #[.agg (landL W nw cw A nl cl).toArray, .agg (custL C nc cc D nd cd B nb cb).toArray] [] w (Option Addr × Nat) (fun a => .tuple #[.slice a.1 (disL (checkC nw nl f x g nc nd nb c d b) nc c).length a.2, .int .i64 (checkC nw nl f x g nc nd nb c d b)]) (fun a => [.own a.1 (disL (checkC nw nl f x g nc nd nb c d b) nc c).length a.2 80 2 (rowsP (disL (checkC nw nl f x g nc nd nb c d b) nc c))]) := tollDisputes_any (x := fun k => lgA (x k) (a k) (e k)) h k hcc
theorem twinCustom_tw (k : CustIn w C nc D nd B nb c d b) : CallsK Tryz.prog 16 #[.agg (custL C nc cc D nd cd B nb cb).toArray] [] w TCx (fun x => .agg (custL x.1.1 nc x.1.2 x.2.1.1 nd x.2.1.2 x.2.2.1 nb x.2.2.2).toArray) (twC nc nd nb c d b) := twinCustom_any k
end
end Go.Proofs.YtmonkjnfjgidbaaGreatDoor
namespace Go.Proofs.YtmonkjnfjgidbaaGreatDoor
set_option linter.all false
set_option linter.unusedVariables false
set_option linter.unusedSimpArgs false
open Go.RowKit
def Yt (Y : Wy) (a : Nat → Option Addr) (e : Nat → Nat) : Wy := { Y with x := fun k => lgA (Y.x k) (a k) (e k) }
section
variable {Y : Wy} {Z : Cus} {T : Trp} {a : Nat → Option Addr} {e : Nat → Nat}
end
section
variable {nw nl nc nd nb : Nat} {f : Nat → Nat → Int} {x : Nat → Leg} {g : Nat → Nat → Nat → Int} {c : Nat → (Nat → Int) × Bool} {d b : Nat → Nat → Int} {T : Trp} {w w0 : World} {S : List Nat} {K : List Fact}
end
section
variable {Y : Wy} {Z : Cus} {T : Trp} {W A L C D B O U V : Option Addr} {cw cl cn cc cd cb co cu cv : Nat} {w : World} {a : Nat → Option Addr} {e : Nat → Nat}
theorem tollBarred_tw (hL : LandIn w W Y.nw A Y.nl Y.f (fun k => lgA (Y.x k) (a k) (e k)) Y.g) (hn : Y.n ≤ 1000) (hR : RdR w 1 L Y.n (fun k => [.int .i64 (Y.ls k)])) (h : CustIn w C Z.nc D Z.nd B Z.nb Z.c Z.d Z.b) (t : TrpIn w T O U V) (hG : OldB w 0 barsL) :
    Calls Tryz.prog 18 #[.agg (landL W Y.nw cw A Y.nl cl).toArray, .agg (custL C Z.nc cc D Z.nd cd B Z.nb cb).toArray, .agg (troopL T.hd T.wo O T.no co U T.nu cu V T.nv cv).toArray, .int .i64 Y.start, .int .i64 Y.day, .agg #[.int .i64 Y.p0, .int .i64 Y.p1], .slice L Y.n cn] w (Ret w (.tuple #[.int .u8 (barA Y Z T).1, .int .i64 (barA Y Z T).2, .int .i64 (tolC Y Z T)])) :=
  tollBarred_any (Y := Yt Y a e) hL hn hR h t hG
theorem tollDue_tw (hL : LandIn w W Y.nw A Y.nl Y.f (fun k => lgA (Y.x k) (a k) (e k)) Y.g) (hn : Y.n ≤ 1000) (hR : RdR w 1 L Y.n (fun k => [.int .i64 (Y.ls k)])) (h : CustIn w C Z.nc D Z.nd B Z.nb Z.c Z.d Z.b) (t : TrpIn w T O U V) :
    CallsK Tryz.prog 20 #[.agg (landL W Y.nw cw A Y.nl cl).toArray, .agg (custL C Z.nc cc D Z.nd cd B Z.nb cb).toArray, .agg (troopL T.hd T.wo O T.no co U T.nu cu V T.nv cv).toArray, .int .i64 Y.start, .int .i64 Y.day, .agg #[.int .i64 Y.p0, .int .i64 Y.p1], .slice L Y.n cn] [] w (Option Addr × Nat) (dueV Y Z T) (dueK Y Z T) :=
  tollDue_any (Y := Yt Y a e) hL hn hR h t
theorem great_all {no nu nv : Nat} {nc nd nb nw nl : Nat} {x : Nat → Leg} (h : great7 nw nl x nc nd nb no nu nv = false) : (nw ≤ 1000 ∧ nl ≤ 1000 ∧ ∀ k, k < nl → (x k).n ≤ 1000) ∧ (nc ≤ 1000 ∧ nd ≤ 1000 ∧ nb ≤ 1000) ∧ no ≤ 1000 ∧ nu ≤ 1000 ∧ nv ≤ 1000 := by
  obtain ⟨h1, h2, h3, h4, h5, h6, h7, h8, h9⟩ := great_small h
  exact ⟨⟨by omega, by omega, fun k hk => by have := h3 k hk; omega⟩, ⟨by omega, by omega, by omega⟩, by omega, by omega, by omega⟩
end
end Go.Proofs.YtmonkjnfjgidbaaGreatDoor
namespace Go.Proofs.YtmonkjnfjgidbaaGreatDoor
set_option linter.all false
set_option linter.unusedVariables false
set_option linter.unusedSimpArgs false
open Go.RowKit
def gx (ns : List Int) (j : Nat) : Int := ns.getD j 0
def exX (k : Nat) : Leg := ⟨gx [(k : Int), (k : Int) + 1, 100000, 100000], none, 1, 1⟩
def exG : Nat → Int := gx [0, 0, 1000, 1000]
def exY : Wy := ⟨3, 2, fun _ _ => 0, exX, fun _ _ => exG, 20000, 25000, 0, 10, 2, fun k => (k : Int)⟩
def exC : Nat → (Nat → Int) × Bool
  | 0 => (gx [0, 1, 0, 12, 5, 0], false)
  | 1 => (gx [0, 2, 5, 100, 8, 0], true)
  | _ => (gx [1, 3, 0, 14, 0, 10], false)
def exD (_ : Nat) : Nat → Int := gx [2, 4, 13, 20]
def exZ : Cus := ⟨3, 1, 0, exC, exD, fun _ _ => 0⟩
def exP : Cus := ⟨3, 0, 0, exC, fun _ _ => 0, fun _ _ => 0⟩
def exT : Trp := ⟨10, 1000, 1, 0, 0, fun _ => 4, fun _ => 0, fun _ => 0⟩
def exE : Fes := ⟨2, fun k => (k : Int) + 1, fun k => 10 * (k : Int) + 20⟩
theorem eHold : holdA (checkC 3 2 (fun _ _ => 0) exX (fun _ _ => exG) 3 1 0 exC exD (fun _ _ => 0)) 2 0 12 (hb 0 12 exC 3) = 0 ∧ holdE (checkC 3 2 (fun _ _ => 0) exX (fun _ _ => exG) 3 1 0 exC exD (fun _ _ => 0)) 2 0 12 = 0 := by decide +kernel
theorem eBar : barA exY exZ exT = (2, 0) ∧ tolC exY exZ exT = 0 := by decide +kernel
theorem eDue : dueL exY exZ exT = [(0, 1, 50, 50), (1, 3, 0, 10)] ∧ dueLo exY exZ exT = 50 ∧ dueHi exY exZ exT = 60 := by decide +kernel
theorem eHir : hirL exY exP exT exE = [2] ∧ hirN exY exP exT exE = 30 ∧ hirC exY exP exT exE = 0 := by decide +kernel
theorem eDis : disL (checkC 3 2 (fun _ _ => 0) exX (fun _ _ => exG) 3 1 0 exC exD (fun _ _ => 0)) 3 exC = [(0, 1)] ∧ checkC 3 2 (fun _ _ => 0) exX (fun _ _ => exG) 3 1 0 exC exD (fun _ _ => 0) = 0 := by decide +kernel
end Go.Proofs.YtmonkjnfjgidbaaGreatDoor
namespace Go.Proofs.YtmonkjnfjgidbaaGreatDoor
set_option linter.all false
set_option linter.unusedVariables false
set_option linter.unusedSimpArgs false
open Go.RowKit
theorem span7_any (a b : Int) (w : World) : Calls Tryz.prog 31 #[.int .i64 a, .int .i64 b] w (Ret w (.agg #[.int .i64 a, .int .i64 b])) := by
  refine K_enter (S := []) (K := []) Tryz.func31 rfl Tryz.ntmps31 rfl (Sat.start _) ?_
  refine TW.seq fun Y1 hY1 => ?_
  refine TW.region ?_
  refine TL.m (Mk.al ty_zr35) ?_
  intro b1
  refine TL.nil ?_
  refine TQ.thenN (hY1 _ _ ?_)
  refine TW.seq fun Y2 hY2 => ?_
  refine TW.region ?_
  refine TL.p Pu.mv ?_
  refine TL.p Pu.mv ?_
  refine TL.p Pu.bd ?_
  first | refine TL.st ty_sz35 ?_ | refine TL.se ty_sz35 ?_
  refine TL.nil ?_
  refine TQ.thenN (hY2 _ _ ?_)
  refine TW.ret ?_
  refine TQ.ret Tryz.results31 rfl ((RV.cs ty_ag35 .nil)) ?_
  exact fun w hw => Ret.of hw
theorem speed_any (w : World) : Calls Tryz.prog 49 #[] w (Ret w (.agg #[.int .i64 20000, .int .i64 25000])) := by
  refine K_enter (S := []) (K := []) Tryz.func49 rfl Tryz.ntmps49 rfl (Sat.start _) ?_
  refine TW.seq fun Y1 hY1 => ?_
  refine TW.region ?_
  refine TL.m (Mk.al ty_zr35) ?_
  intro b1
  refine TL.nil ?_
  refine TQ.thenN (hY1 _ _ ?_)
  refine TW.seq fun Y2 hY2 => ?_
  refine TW.region ?_
  refine TL.cr rfl (enters Tryz.func31 rfl rfl) (fun w hw => by
      exact span7_any _ _ _) ?_
  first | refine TL.st ty_sz35 ?_ | refine TL.se ty_sz35 ?_
  refine TL.nil ?_
  refine TQ.thenN (hY2 _ _ ?_)
  refine TW.ret ?_
  refine TQ.ret Tryz.results49 rfl ((RV.cs ty_ag35 .nil)) ?_
  exact fun w hw => Ret.of hw
def exLf (x : Nat × Nat × Nat) : List Fact := [.own (some ⟨x.1, 0, none⟩) 3 3 136 9 (fun _ => wellL (fun _ => 0)), .own (some ⟨x.2.1, 0, none⟩) 2 2 122 5 (fun k => legL (lgA (exX k) (some ⟨x.2.2, 0, none⟩) 1)), .own (some ⟨x.2.2, 0, none⟩) 1 1 138 4 (fun _ => gateL exG)]
theorem exLand_in {w : World} {x : Nat × Nat × Nat} (h : (bun (exLf x)).holds w) : LandIn w (some ⟨x.1, 0, none⟩) exY.nw (some ⟨x.2.1, 0, none⟩) exY.nl exY.f (fun k => lgA (exY.x k) (some ⟨x.2.2, 0, none⟩) 1) exY.g :=
  ⟨by decide, by decide, OwnR.rdr (h.now _ (List.mem_cons_self ..)), OwnR.rdr (h.now _ (List.mem_cons_of_mem _ (List.mem_cons_self ..))), fun _ _ => by show 1 ≤ 1000; decide, fun _ _ => OwnR.rdr (h.now _ (List.mem_cons_of_mem _ (List.mem_cons_of_mem _ (List.mem_cons_self ..))))⟩
set_option maxRecDepth 100000 in
theorem exLand_any (w : World) : CallsK Tryz.prog 45 #[] [] w (Nat × Nat × Nat) (fun x => .agg (landL (some ⟨x.1, 0, none⟩) 3 3 (some ⟨x.2.1, 0, none⟩) 2 2).toArray) (fun x => [bun (exLf x)]) := by
  unfold landL
  refine K_enter (S := []) (K := []) Tryz.func45 rfl Tryz.ntmps45 rfl (Sat.start _) ?_
  refine TW.seq fun Y1 hY1 => ?_
  refine TW.region ?_
  refine TL.m (Mk.al ty_zr25) ?_
  intro b1
  refine TL.nil ?_
  refine TQ.thenN (hY1 _ _ ?_)
  refine TW.seq fun Y2 hY2 => ?_
  refine TW.region ?_
  refine TL.cr rfl (enters Tryz.func31 rfl rfl) (fun w hw => by
      exact span7_any _ _ _) ?_
  refine TL.p Pu.bd ?_
  refine TL.m Mk.bl ?_
  intro b2
  refine TL.p Pu.as ?_
  refine TL.nil ?_
  refine TQ.thenN (hY2 _ _ ?_)
  refine TW.seq fun Y3 hY3 => ?_
  refine TW.region ?_
  refine TL.cr rfl (enters Tryz.func31 rfl rfl) (fun w hw => by
      exact span7_any _ _ _) ?_
  refine TL.m (Mk.al ty_zr35) ?_
  intro b3
  first | refine TL.st ty_sz35 ?_ | refine TL.se ty_sz35 ?_
  refine TL.nil ?_
  refine TQ.thenN (hY3 _ _ ?_)
  refine TW.seq fun Y4 hY4 => ?_
  refine TW.expk [.blk b3 35 [.int .i64 100000, .int .i64 100000]] (fun (⟨b0, x7⟩ : Nat × Nat) => ([(0, .pointer (some ⟨b1, 0, none⟩))] : Fr)) (fun (⟨b0, x7⟩ : Nat × Nat) => [.blk b1 25 [.slice (some ⟨b0, 0, none⟩) 3 3, .slice (some ⟨x7, 0, none⟩) 2 2], .own (some ⟨b0, 0, none⟩) 3 3 136 9 (fun _ => wellL (fun _ => 0)), .blk x7 122 [.int .i64 0, .int .i64 1, .int .i64 100000, .int .i64 100000, .slice (some ⟨b2, 0, none⟩) 1 1, .int .i64 1, .int .i64 2, .int .i64 100000, .int .i64 100000, .slice (some ⟨b2, 0, none⟩) 1 1], .blk b2 138 [.int .i64 0, .int .i64 0, .int .i64 1000, .int .i64 1000]]) ?_ (fun hE => ?_)
  rintro ⟨b0, x7⟩
  refine TQ.thenN (hY4 _ _ ?_)
  refine TW.ret ?_
  refine TQ.ret Tryz.results45 rfl ((RV.cs ty_ag25 .nil)) ?_
  refine fun w hw => ⟨(b0, x7, b2), rfl, ?_⟩
  have h1 := hw.sub (L := exLf (b0, x7, b2)) (KSub.cons pk9 (KSub.ofBlk pk9 rfl (fun i hi => rfl) rfl rfl (KSub.ofBlk pk9 rfl (fun i hi => rfl) rfl rfl KSub.nil)))
  exact Sat.bun (K := []) (by rw [List.append_nil]; exact h1)
  refine RG.tk 1 rfl (Pu.lds ty_ag35) ?_
  refine RG.tk 2 rfl Pu.mv ?_
  refine RG.tk 3 rfl Pu.bd ?_
  refine RG.tk 4 rfl (Pu.lds ty_ag35) ?_
  refine RG.tk 5 rfl Pu.mv ?_
  refine RG.tk 6 rfl Pu.bd ?_
  refine RG.a2 0 7 rfl rfl (fun X0 hX0 => ?_) (fun X7 hX7 => ?_)
  refine TL.ms ty_et22 ty_zr136 ?_
  intro b0
  refine TL.nil ?_
  refine TQ.nxt (hX0 _ _ hl9 ?_)
  refine RG.a1 7 rfl (fun X7 hX7 => ?_)
  refine TL.m Mk.bl ?_
  intro x7
  refine TL.nil ?_
  refine TQ.nxt (hX7 _ _ hl9 ?_)
  refine RG.tk 8 rfl Pu.bd ?_
  refine RG.a1 9 rfl (fun X9 hX9 => ?_)
  first | refine TL.st ty_sz25 ?_ | refine TL.se ty_sz25 ?_
  refine TL.nil ?_
  refine TQ.nxt (hX9 _ _ hl9 ?_)
  exact RG.nil (TQ.sub fs9 kt9 (hE ⟨b0, x7⟩)) (by kernel_rfl)
  refine TL.m Mk.bl ?_
  intro x7
  refine TL.nil ?_
  refine TQ.nxt (hX7 _ _ hl9 ?_)
  refine RG.a1 0 rfl (fun X0 hX0 => ?_)
  refine TL.ms ty_et22 ty_zr136 ?_
  intro b0
  refine TL.nil ?_
  refine TQ.nxt (hX0 _ _ hl9 ?_)
  refine RG.tk 8 rfl Pu.bd ?_
  refine RG.a1 9 rfl (fun X9 hX9 => ?_)
  first | refine TL.st ty_sz25 ?_ | refine TL.se ty_sz25 ?_
  refine TL.nil ?_
  refine TQ.nxt (hX9 _ _ hl9 ?_)
  exact RG.nil (TQ.sub fs9 kt9 (hE ⟨b0, x7⟩)) (by kernel_rfl)
def exCf (x : Nat × Nat) : List Fact := [.own (some ⟨x.1, 0, none⟩) 3 3 71 7 (fun k => claimL (exC k)), .own (some ⟨x.2, 0, none⟩) 1 1 73 4 (fun k => feudL (exD k))]
theorem exCus_in {w : World} {x : Nat × Nat} (h : (bun (exCf x)).holds w) : CustIn w (some ⟨x.1, 0, none⟩) exZ.nc (some ⟨x.2, 0, none⟩) exZ.nd none exZ.nb exZ.c exZ.d exZ.b :=
  ⟨by decide, by decide, by decide, OwnR.rdr (h.now _ (List.mem_cons_self ..)), OwnR.rdr (h.now _ (List.mem_cons_of_mem _ (List.mem_cons_self ..))), ⟨Rd.nil, fun i hi => (by exact absurd hi (Nat.not_lt_zero _))⟩⟩
theorem exPea_in {w : World} {x : Nat × Nat} (h : (bun (exCf x)).holds w) : CustIn w (some ⟨x.1, 0, none⟩) exP.nc none exP.nd none exP.nb exP.c exP.d exP.b :=
  ⟨by decide, by decide, by decide, OwnR.rdr (h.now _ (List.mem_cons_self ..)), ⟨Rd.nil, fun i hi => (by exact absurd hi (Nat.not_lt_zero _))⟩, ⟨Rd.nil, fun i hi => (by exact absurd hi (Nat.not_lt_zero _))⟩⟩
set_option maxRecDepth 100000 in
theorem exCus_any (w : World) : CallsK Tryz.prog 46 #[] [] w (Nat × Nat) (fun x => .agg (custL (some ⟨x.1, 0, none⟩) 3 3 (some ⟨x.2, 0, none⟩) 1 1 none 0 0).toArray) (fun x => [bun (exCf x)]) := by
  unfold custL
  refine K_enter (S := []) (K := []) Tryz.func46 rfl Tryz.ntmps46 rfl (Sat.start _) ?_
  refine TW.seq fun Y1 hY1 => ?_
  refine TW.region ?_
  refine TL.m (Mk.al ty_zr30) ?_
  intro b1
  refine TL.nil ?_
  refine TQ.thenN (hY1 _ _ ?_)
  refine TW.seq fun Y2 hY2 => ?_
  refine TW.region ?_
  refine TL.p Pu.bd ?_
  refine TL.p Pu.bd ?_
  refine TL.p Pu.bd ?_
  refine TL.m Mk.bl ?_
  intro b2
  refine TL.p Pu.bd ?_
  refine TL.m Mk.bl ?_
  intro b3
  refine TL.p Pu.bd ?_
  first | refine TL.st ty_sz30 ?_ | refine TL.se ty_sz30 ?_
  refine TL.nil ?_
  refine TQ.thenN (hY2 _ _ ?_)
  refine TW.ret ?_
  refine TQ.ret Tryz.results46 rfl ((RV.cs ty_ag30 .nil)) ?_
  refine fun w hw => ⟨(b2, b3), rfl, ?_⟩
  have h1 := hw.sub (L := exCf (b2, b3)) (KSub.ofBlk pk9 rfl (fun i hi => rfl) rfl rfl (KSub.ofBlk pk9 rfl (fun i hi => rfl) rfl rfl KSub.nil))
  exact Sat.bun (K := []) (by rw [List.append_nil]; exact h1)
set_option maxRecDepth 100000 in
theorem exPea_any (w : World) : CallsK Tryz.prog 47 #[] [] w (Nat × Nat) (fun x => .agg (custL (some ⟨x.1, 0, none⟩) 3 3 none 0 0 none 0 0).toArray) (fun x => [bun (exCf x)]) := by
  have fC := fun (w' : World) => exCus_any w'
  unfold custL at fC ⊢
  refine K_enter (S := []) (K := []) Tryz.func47 rfl Tryz.ntmps47 rfl (Sat.start _) ?_
  refine TW.seq fun Y1 hY1 => ?_
  refine TW.region ?_
  refine TL.m (Mk.al ty_zr30) ?_
  intro b1
  refine TL.nil ?_
  refine TQ.thenN (hY1 _ _ ?_)
  refine TW.seq fun Y2 hY2 => ?_
  refine TW.region ?_
  refine TL.call (M := []) rfl (enters Tryz.func46 rfl rfl) (List.Perm.refl _) rfl (fun w hw => by
      exact fC _) ?_
  rintro ⟨bC, bD⟩
  refine TL.p Pu.fd ?_
  refine TL.p Pu.bd ?_
  first | refine TL.st ty_sz30 ?_ | refine TL.se ty_sz30 ?_
  refine TL.nil ?_
  refine TQ.thenN (hY2 _ _ ?_)
  refine TW.ret ?_
  refine TQ.ret Tryz.results47 rfl ((RV.cs ty_ag30 .nil)) ?_
  exact fun w hw => ⟨(bC, bD), rfl, hw.sub (KSub.cons pk9 KSub.nil)⟩
set_option maxRecDepth 100000 in
theorem exTrp_any {U : Option Addr} {nu cu : Nat} (w : World) : CallsK Tryz.prog 48 #[.slice U nu cu] [] w Nat (fun x => .agg (troopL 10 1000 (some ⟨x, 0, none⟩) 1 1 U nu cu none 0 0).toArray) (fun x => [.own (some ⟨x, 0, none⟩) 1 1 3 1 (fun _ => [.int .i64 4])]) := by
  unfold troopL
  refine K_enter (S := []) (K := []) Tryz.func48 rfl Tryz.ntmps48 rfl (Sat.start _) ?_
  refine TW.seq fun Y1 hY1 => ?_
  refine TW.region ?_
  refine TL.m (Mk.al ty_zr33) ?_
  intro b1
  refine TL.nil ?_
  refine TQ.thenN (hY1 _ _ ?_)
  refine TW.seq fun Y2 hY2 => ?_
  refine TW.region ?_
  refine TL.m Mk.bl ?_
  intro b2
  refine TL.p Pu.mv ?_
  refine TL.p Pu.bd ?_
  first | refine TL.st ty_sz33 ?_ | refine TL.se ty_sz33 ?_
  refine TL.nil ?_
  refine TQ.thenN (hY2 _ _ ?_)
  refine TW.ret ?_
  refine TQ.ret Tryz.results48 rfl ((RV.cs ty_ag33 .nil)) ?_
  exact fun w hw => ⟨b2, rfl, hw.sub (KSub.ofBlk pk9 rfl (fun i hi => rfl) rfl rfl KSub.nil)⟩
theorem exTrp_in {w : World} {b : Nat} (h : (Fact.own (some ⟨b, 0, none⟩) 1 1 3 1 (fun _ => [.int .i64 4])).holds w) : TrpIn w exT (some ⟨b, 0, none⟩) none none :=
  ⟨by decide, by decide, by decide, OwnR.rdr h, ⟨Rd.nil, fun i hi => (by exact absurd hi (Nat.not_lt_zero _))⟩, ⟨Rd.nil, fun i hi => (by exact absurd hi (Nat.not_lt_zero _))⟩⟩
end Go.Proofs.YtmonkjnfjgidbaaGreatDoor
namespace Go.Proofs.YtmonkjnfjgidbaaGreatDoor
set_option linter.all false
set_option linter.unusedVariables false
set_option linter.unusedSimpArgs false
open Go.RowKit
theorem CallsK.to {P : Program} {f : FuncId} {args : Array Value} {M : List Fact} {w : World} {X : Type} {val val2 : X → Value} {L L2 : X → List Fact} (h : CallsK P f args M w X val L) (hv : ∀ x, val x = val2 x) (hL : ∀ x, KSub (L x) (L2 x)) : CallsK P f args M w X val2 L2 :=
  h.mono fun _ _ ⟨x, e, hs⟩ => ⟨x, by rw [e, hv], hs.sub (hL x)⟩
section
variable {w : World} {x : Nat × Nat × Nat} {y : Nat × Nat} {b bl bf : Nat}
abbrev exLa (x : Nat × Nat × Nat) : Value := .agg (landL (some ⟨x.1, 0, none⟩) 3 3 (some ⟨x.2.1, 0, none⟩) 2 2).toArray
abbrev exCa (y : Nat × Nat) : Value := .agg (custL (some ⟨y.1, 0, none⟩) 3 3 (some ⟨y.2, 0, none⟩) 1 1 none 0 0).toArray
abbrev exPa (y : Nat × Nat) : Value := .agg (custL (some ⟨y.1, 0, none⟩) 3 3 none 0 0 none 0 0).toArray
abbrev exTa (b : Nat) : Value := .agg (troopL 10 1000 (some ⟨b, 0, none⟩) 1 1 none 0 0 none 0 0).toArray
abbrev exTo (b : Nat) : Fact := .own (some ⟨b, 0, none⟩) 1 1 3 1 (fun _ => [.int .i64 4])
theorem exLegs {E : TypeId} (h : Blk w bl E #[.int .i64 0, .int .i64 1]) : RdR w 1 (some ⟨bl, 0, none⟩) exY.n (fun k => [.int .i64 (exY.ls k)]) := RdR.blk (cs := [.int .i64 0, .int .i64 1]) (n := 2) (sz := 1) h rfl (fun _ _ => rfl)
set_option maxRecDepth 100000 in
theorem exHold (hL : (bun (exLf x)).holds w) (hC : (bun (exCf y)).holds w) : Calls Tryz.prog 36 #[exLa x, exCa y, .int .i64 0, .int .i64 12] w (Ret w (.tuple #[.int .i64 0, .int .i64 0])) := by
  have h := tollHolder_tw (x := exY.x) (a := fun _ => some ⟨x.2.2, 0, none⟩) (e := fun _ => 1) (cw := 3) (cl := 2) (cc := 3) (cd := 1) (cb := 0) 0 12 (exLand_in hL) (exCus_in hC)
  rw [show holdA (checkC exY.nw exY.nl exY.f exY.x exY.g exZ.nc exZ.nd exZ.nb exZ.c exZ.d exZ.b) exY.nl 0 12 (hb 0 12 exZ.c exZ.nc) = 0 from eHold.1, show holdE (checkC exY.nw exY.nl exY.f exY.x exY.g exZ.nc exZ.nd exZ.nb exZ.c exZ.d exZ.b) exY.nl 0 12 = 0 from eHold.2] at h
  exact h
set_option maxRecDepth 100000 in
theorem exBarr {E : TypeId} (hL : (bun (exLf x)).holds w) (hC : (bun (exCf y)).holds w) (hT : (exTo b).holds w) (hl : Blk w bl E #[.int .i64 0, .int .i64 1]) (hG : OldB w 0 barsL) : Calls Tryz.prog 18 #[exLa x, exCa y, exTa b, .int .i64 0, .int .i64 10, .agg #[.int .i64 20000, .int .i64 25000], .slice (some ⟨bl, 0, none⟩) 2 2] w (Ret w (.tuple #[.int .u8 2, .int .i64 0, .int .i64 0])) := by
  have h := tollBarred_tw (Y := exY) (Z := exZ) (T := exT) (a := fun _ => some ⟨x.2.2, 0, none⟩) (e := fun _ => 1) (cw := 3) (cl := 2) (cn := 2) (cc := 3) (cd := 1) (cb := 0) (co := 1) (cu := 0) (cv := 0) (exLand_in hL) (by decide) (exLegs hl) (exCus_in hC) (exTrp_in hT) hG
  rw [eBar.1, eBar.2] at h
  exact h
set_option maxRecDepth 100000 in
theorem exDues {E : TypeId} (hL : (bun (exLf x)).holds w) (hC : (bun (exCf y)).holds w) (hT : (exTo b).holds w) (hl : Blk w bl E #[.int .i64 0, .int .i64 1]) : CallsK Tryz.prog 20 #[exLa x, exCa y, exTa b, .int .i64 0, .int .i64 10, .agg #[.int .i64 20000, .int .i64 25000], .slice (some ⟨bl, 0, none⟩) 2 2] [] w (Option Addr × Nat) (fun z => .tuple #[.slice z.1 2 z.2, .agg #[.int .i64 50, .int .i64 60], .int .i64 0]) (fun z => [.own z.1 2 z.2 78 4 (rowsT [(0, 1, 50, 50), (1, 3, 0, 10)])]) := by
  have h := tollDue_tw (Y := exY) (Z := exZ) (T := exT) (a := fun _ => some ⟨x.2.2, 0, none⟩) (e := fun _ => 1) (cw := 3) (cl := 2) (cn := 2) (cc := 3) (cd := 1) (cb := 0) (co := 1) (cu := 0) (cv := 0) (exLand_in hL) (by decide) (exLegs hl) (exCus_in hC) (exTrp_in hT)
  refine h.to (fun z => ?_) (fun z => ?_)
  · unfold dueV
    rw [eDue.1, eDue.2.1, eDue.2.2, eBar.2]
    rfl
  · unfold dueK
    rw [eDue.1]
    exact KSub.refl _
theorem tollHire_tw {Y : Wy} {Z : Cus} {T : Trp} {E : Fes} {W A L C D B O U V G : Option Addr} {cw cl cn cc cd cb co cu cv cg : Nat} {a : Nat → Option Addr} {e : Nat → Nat} (hL : LandIn w W Y.nw A Y.nl Y.f (fun k => lgA (Y.x k) (a k) (e k)) Y.g) (hn : Y.n ≤ 1000) (hR : RdR w 1 L Y.n (fun k => [.int .i64 (Y.ls k)])) (h : CustIn w C Z.nc D Z.nd B Z.nb Z.c Z.d Z.b) (t : TrpIn w T O U V) (hG : OldB w 0 barsL) (hnf : E.nf ≤ 1000) (hE : RdR w 2 G E.nf (feeL E)) :
    CallsK Tryz.prog 41 #[.agg (landL W Y.nw cw A Y.nl cl).toArray, .agg (custL C Z.nc cc D Z.nd cd B Z.nb cb).toArray, .agg (troopL T.hd T.wo O T.no co U T.nu cu V T.nv cv).toArray, .slice G E.nf cg, .int .i64 Y.start, .int .i64 Y.day, .agg #[.int .i64 Y.p0, .int .i64 Y.p1], .slice L Y.n cn] [] w (Option Addr × Nat) (hirA Y Z T E) (hirF Y Z T E) :=
  tollHire_any (Y := Yt Y a e) hL hn hR h t hG hnf hE
set_option maxRecDepth 100000 in
theorem exHire {E E2 : TypeId} (hL : (bun (exLf x)).holds w) (hC : (bun (exCf y)).holds w) (hT : (exTo b).holds w) (hl : Blk w bl E #[.int .i64 0, .int .i64 1]) (hf : Blk w bf E2 #[.int .i64 1, .int .i64 20, .int .i64 2, .int .i64 30]) (hG : OldB w 0 barsL) : CallsK Tryz.prog 41 #[exLa x, exPa y, exTa b, .slice (some ⟨bf, 0, none⟩) 2 2, .int .i64 0, .int .i64 10, .agg #[.int .i64 20000, .int .i64 25000], .slice (some ⟨bl, 0, none⟩) 2 2] [] w (Option Addr × Nat) (fun z => .tuple #[.slice z.1 1 z.2, .int .i64 30, .int .i64 0]) (fun z => [.own z.1 1 z.2 3 1 (iL [2])]) := by
  have h := tollHire_tw (Y := exY) (Z := exP) (T := exT) (E := exE) (a := fun _ => some ⟨x.2.2, 0, none⟩) (e := fun _ => 1) (cw := 3) (cl := 2) (cn := 2) (cc := 3) (cd := 0) (cb := 0) (co := 1) (cu := 0) (cv := 0) (cg := 2) (exLand_in hL) (by decide) (exLegs hl) (exPea_in hC) (exTrp_in hT) hG (by decide) (RdR.blk (cs := [.int .i64 1, .int .i64 20, .int .i64 2, .int .i64 30]) (n := 2) (sz := 2) hf rfl (fun _ _ => rfl))
  refine h.to (fun z => ?_) (fun z => ?_)
  · unfold hirA
    rw [eHir.1, eHir.2.1, eHir.2.2]
    rfl
  · unfold hirF
    rw [eHir.1]
    exact KSub.refl _
set_option maxRecDepth 100000 in
theorem exDisp (hL : (bun (exLf x)).holds w) (hC : (bun (exCf y)).holds w) : CallsK Tryz.prog 37 #[exLa x, exCa y] [] w (Option Addr × Nat) (fun z => .tuple #[.slice z.1 1 z.2, .int .i64 0]) (fun z => [.own z.1 1 z.2 80 2 (rowsP [(0, 1)])]) := by
  have h := tollDisputes_tw (x := exY.x) (a := fun _ => some ⟨x.2.2, 0, none⟩) (e := fun _ => 1) (cw := 3) (cl := 2) (cc := 3) (cd := 1) (cb := 0) (exLand_in hL) (exCus_in hC) (by decide)
  have e1 : disL (checkC exY.nw exY.nl exY.f exY.x exY.g exZ.nc exZ.nd exZ.nb exZ.c exZ.d exZ.b) exZ.nc exZ.c = [(0, 1)] := eDis.1
  have e2 : checkC exY.nw exY.nl exY.f exY.x exY.g exZ.nc exZ.nd exZ.nb exZ.c exZ.d exZ.b = 0 := eDis.2
  refine h.to (fun z => ?_) (fun z => ?_)
  · rw [e1, e2]
    rfl
  · rw [e1]
    exact KSub.refl _
set_option maxRecDepth 100000 in
set_option maxHeartbeats 4000000 in
theorem alive_any (hG : OldB w 0 barsL) : Calls Tryz.prog 27 #[] w (Ret w (.bool true)) := by
  have fL := fun (w' : World) => exLand_any w'
  have fC := fun (w' : World) => exCus_any w'
  have fP := fun (w' : World) => exPea_any w'
  have fT := fun (w' : World) => exTrp_any (U := none) (nu := 0) (cu := 0) w'
  refine K_enter (S := []) (K := []) Tryz.func27 rfl Tryz.ntmps27 rfl (Sat.start _) ?_
  refine TW.seq fun Y1 hY1 => ?_
  refine TW.region ?_
  refine TL.p Pu.as ?_
  refine TL.nil ?_
  refine TQ.thenN (hY1 _ _ ?_)
  refine TW.seq fun Y2 hY2 => ?_
  refine TW.region ?_
  refine TL.call (M := []) rfl (enters Tryz.func45 rfl rfl) (List.Perm.refl _) rfl (fun w hw => by
      exact fL _) ?_
  rintro x1
  dsimp only [List.cons_append, List.nil_append]
  refine TL.call (M := []) rfl (enters Tryz.func46 rfl rfl) (List.Perm.refl _) rfl (fun w hw => by
      exact fC _) ?_
  rintro y1
  dsimp only [List.cons_append, List.nil_append]
  refine TL.cr rfl (enters Tryz.func36 rfl rfl) (fun w hw => by
      exact exHold (x := x1) (y := y1) (hw.holds _ (by simp)) (hw.holds _ (by simp))) ?_
  refine TL.p Pu.mv ?_
  refine TL.p Pu.ex ?_
  refine TL.p Pu.ex ?_
  refine TL.p Pu.as ?_
  refine TL.p Pu.as ?_
  refine TL.nil ?_
  refine TQ.thenN (hY2 _ _ ?_)
  refine TW.seq fun Y3 hY3 => ?_
  refine TW.region ?_
  refine TL.call (M := []) rfl (enters Tryz.func45 rfl rfl) (List.Perm.refl _) rfl (fun w hw => by
      exact fL _) ?_
  rintro x2
  dsimp only [List.cons_append, List.nil_append]
  refine TL.call (M := []) rfl (enters Tryz.func46 rfl rfl) (List.Perm.refl _) rfl (fun w hw => by
      exact fC _) ?_
  rintro y2
  dsimp only [List.cons_append, List.nil_append]
  refine TL.call (M := []) rfl (enters Tryz.func48 rfl rfl) (List.Perm.refl _) rfl (fun w hw => by
      exact fT _) ?_
  rintro z2
  dsimp only [List.cons_append, List.nil_append]
  refine TL.cr rfl (enters Tryz.func49 rfl rfl) (fun w hw => by
      exact speed_any _) ?_
  refine TL.m Mk.bl ?_
  intro b1
  refine TL.cr rfl (enters Tryz.func18 rfl rfl) (fun w hw => by
      exact exBarr (x := x2) (y := y2) (b := z2) (hw.holds _ (by simp)) (hw.holds _ (by simp)) (hw.holds _ (by simp)) (hw.holds _ (List.mem_cons_self ..)) (hG.ext (Chg.ext hw.chg))) ?_
  refine TL.p Pu.mv ?_
  refine TL.p Pu.ex ?_
  refine TL.p Pu.ex ?_
  refine TL.p Pu.ex ?_
  refine TL.p Pu.as ?_
  refine TL.p Pu.as ?_
  refine TL.p Pu.as ?_
  refine TL.nil ?_
  refine TQ.thenN (hY3 _ _ ?_)
  refine TW.seq fun Y4 hY4 => ?_
  refine TW.region ?_
  refine TL.call (M := []) rfl (enters Tryz.func45 rfl rfl) (List.Perm.refl _) rfl (fun w hw => by
      exact fL _) ?_
  rintro x3
  dsimp only [List.cons_append, List.nil_append]
  refine TL.call (M := []) rfl (enters Tryz.func46 rfl rfl) (List.Perm.refl _) rfl (fun w hw => by
      exact fC _) ?_
  rintro y3
  dsimp only [List.cons_append, List.nil_append]
  refine TL.call (M := []) rfl (enters Tryz.func48 rfl rfl) (List.Perm.refl _) rfl (fun w hw => by
      exact fT _) ?_
  rintro z3
  dsimp only [List.cons_append, List.nil_append]
  refine TL.cr rfl (enters Tryz.func49 rfl rfl) (fun w hw => by
      exact speed_any _) ?_
  refine TL.m Mk.bl ?_
  intro b2
  refine TL.call (M := []) rfl (enters Tryz.func20 rfl rfl) (List.Perm.refl _) rfl (fun w hw => by
      exact exDues (x := x3) (y := y3) (b := z3) (hw.holds _ (by simp)) (hw.holds _ (by simp)) (hw.holds _ (by simp)) (hw.holds _ (List.mem_cons_self ..))) ?_
  rintro ⟨P1, p1⟩
  dsimp only [List.cons_append, List.nil_append]
  refine TL.p Pu.mv ?_
  refine TL.p Pu.ex ?_
  refine TL.p Pu.ex ?_
  refine TL.p Pu.ex ?_
  refine TL.m (Mk.al ty_zr35) ?_
  intro b3
  refine TL.p Pu.as ?_
  first | refine TL.st ty_sz35 ?_ | refine TL.se ty_sz35 ?_
  refine TL.p Pu.as ?_
  refine TL.nil ?_
  refine TQ.thenN (hY4 _ _ ?_)
  refine TW.seq fun Y5 hY5 => ?_
  refine TW.region ?_
  refine TL.call (M := []) rfl (enters Tryz.func45 rfl rfl) (List.Perm.refl _) rfl (fun w hw => by
      exact fL _) ?_
  rintro x4
  dsimp only [List.cons_append, List.nil_append]
  refine TL.call (M := []) rfl (enters Tryz.func47 rfl rfl) (List.Perm.refl _) rfl (fun w hw => by
      exact fP _) ?_
  rintro y4
  dsimp only [List.cons_append, List.nil_append]
  refine TL.call (M := []) rfl (enters Tryz.func48 rfl rfl) (List.Perm.refl _) rfl (fun w hw => by
      exact fT _) ?_
  rintro z4
  dsimp only [List.cons_append, List.nil_append]
  refine TL.p Pu.bd ?_
  refine TL.p Pu.bd ?_
  refine TL.m Mk.bl ?_
  intro b4
  refine TL.cr rfl (enters Tryz.func49 rfl rfl) (fun w hw => by
      exact speed_any _) ?_
  refine TL.m Mk.bl ?_
  intro b5
  refine TL.call (M := []) rfl (enters Tryz.func41 rfl rfl) (List.Perm.refl _) rfl (fun w hw => by
      exact exHire (x := x4) (y := y4) (b := z4) (hw.holds _ (by simp)) (hw.holds _ (by simp)) (hw.holds _ (by simp)) (hw.holds _ (List.mem_cons_self ..)) (hw.holds _ (List.mem_cons_of_mem _ (List.mem_cons_self ..))) (hG.ext (Chg.ext hw.chg))) ?_
  rintro ⟨P2, p2⟩
  dsimp only [List.cons_append, List.nil_append]
  refine TL.p Pu.mv ?_
  refine TL.p Pu.ex ?_
  refine TL.p Pu.ex ?_
  refine TL.p Pu.ex ?_
  refine TL.p Pu.as ?_
  refine TL.p Pu.as ?_
  refine TL.p Pu.as ?_
  refine TL.nil ?_
  refine TQ.thenN (hY5 _ _ ?_)
  refine TW.seq fun Y6 hY6 => ?_
  refine TW.region ?_
  refine TL.call (M := []) rfl (enters Tryz.func45 rfl rfl) (List.Perm.refl _) rfl (fun w hw => by
      exact fL _) ?_
  rintro x5
  dsimp only [List.cons_append, List.nil_append]
  refine TL.call (M := []) rfl (enters Tryz.func46 rfl rfl) (List.Perm.refl _) rfl (fun w hw => by
      exact fC _) ?_
  rintro y5
  dsimp only [List.cons_append, List.nil_append]
  refine TL.call (M := []) rfl (enters Tryz.func37 rfl rfl) (List.Perm.refl _) rfl (fun w hw => by
      exact exDisp (x := x5) (y := y5) (hw.holds _ (by simp)) (hw.holds _ (by simp))) ?_
  rintro ⟨P3, p3⟩
  dsimp only [List.cons_append, List.nil_append]
  refine TL.p Pu.mv ?_
  refine TL.p Pu.ex ?_
  refine TL.p Pu.ex ?_
  refine TL.p Pu.as ?_
  refine TL.p Pu.as ?_
  refine TL.nil ?_
  refine TQ.thenN (hY6 _ _ ?_)
  refine TW.seq fun Y7 hY7 => ?_
  refine TW.dw 60 ?_
  refine RK.tk Pu.mv ?_
  refine RK.tk Pu.eq ?_
  refine RK.tk Pu.mv ?_
  refine RK.tk Pu.mv ?_
  refine RK.tk Pu.eq ?_
  refine RK.tk Pu.kt ?_
  refine RK.tk Pu.mv ?_
  refine RK.tk Pu.mv ?_
  refine RK.tk Pu.eq ?_
  refine RK.tk Pu.kt ?_
  refine RK.tk Pu.mv ?_
  refine RK.tk Pu.mv ?_
  refine RK.tk Pu.eq ?_
  refine RK.tk Pu.kt ?_
  refine RK.tk Pu.mv ?_
  refine RK.tk Pu.mv ?_
  refine RK.tk Pu.eq ?_
  refine RK.tk Pu.kt ?_
  refine RK.tk Pu.mv ?_
  refine RK.tk Pu.mv ?_
  refine RK.tk Pu.eq ?_
  refine RK.tk Pu.kt ?_
  refine RK.tk Pu.mv ?_
  refine RK.tk Pu.mv ?_
  refine RK.keep ?_
  refine RK.keep ?_
  refine RK.keep ?_
  refine RK.keep ?_
  refine RK.keep ?_
  refine RK.keep ?_
  refine RK.keep ?_
  refine RK.keep ?_
  refine RK.keep ?_
  refine RK.keep ?_
  refine RK.keep ?_
  refine RK.keep ?_
  refine RK.keep ?_
  refine RK.keep ?_
  refine RK.keep ?_
  refine RK.keep ?_
  refine RK.keep ?_
  refine RK.keep ?_
  refine RK.keep ?_
  refine RK.keep ?_
  refine RK.keep ?_
  refine RK.keep ?_
  refine RK.keep ?_
  refine RK.keep ?_
  refine RK.keep ?_
  refine RK.keep ?_
  refine RK.keep ?_
  refine RK.keep ?_
  refine RK.keep ?_
  refine RK.keep ?_
  refine RK.keep ?_
  refine RK.keep ?_
  refine RK.keep ?_
  refine RK.keep ?_
  refine RK.keep ?_
  refine RK.keep ?_
  refine RK.ch [false, true, false, true, false, false, true, true, true, false, true, true, true, true, true, true, true, true, true, true, true, true, false, false, true, true, true, true, true, true, true, true, false, false, true, true] ?_ trivial
  refine WK.cr rfl (enters Tryz.func31 rfl rfl) (fun w hw => by
      exact span7_any _ _ _) ?_
  refine WK.p Pu.bd ?_
  refine WK.cr rfl (enters Tryz.func31 rfl rfl) (fun w hw => by
      exact span7_any _ _ _) ?_
  refine WK.p Pu.bd ?_
  refine WK.gm Mk.bl ?_
  intro b6
  refine WK.cr rfl (enters Tryz.func22 rfl rfl) (fun w hw => by
      exact sameTolls_any (L := [(0, 1, 50, 50), (1, 3, 0, 10)]) (by decide) (OwnR.rdr (hw.holds (.own P1 2 p1 78 4 (rowsT [(0, 1, 50, 50), (1, 3, 0, 10)])) (by simp))) (RdR.blk (cs := [.int .i64 0, .int .i64 1, .int .i64 50, .int .i64 50, .int .i64 1, .int .i64 3, .int .i64 0, .int .i64 10]) (n := 2) (sz := 4) (hw.holds _ (List.mem_cons_self ..)) rfl (fun _ _ => rfl))) ?_
  refine WK.p Pu.kt ?_
  refine WK.p Pu.mv ?_
  refine WK.p (Pu.lds ty_ag35) ?_
  refine WK.cr rfl (enters Tryz.func31 rfl rfl) (fun w hw => by
      exact span7_any _ _ _) ?_
  refine WK.p (Pu.q2 ty_q2_35) ?_
  refine WK.lit (t := 93) (b' := true) rfl ((by simp)) ?_
  refine WK.p Pu.kt ?_
  refine WK.p Pu.mv ?_
  refine WK.p Pu.mv ?_
  refine WK.p Pu.eq ?_
  refine WK.lit (t := 97) (b' := true) rfl (rfl) ?_
  refine WK.p Pu.kt ?_
  refine WK.p Pu.mv ?_
  refine WK.p Pu.mv ?_
  refine WK.p Pu.eq ?_
  refine WK.lit (t := 101) (b' := true) rfl (rfl) ?_
  refine WK.p Pu.kt ?_
  refine WK.p Pu.mv ?_
  refine WK.p Pu.mv ?_
  refine WK.gm Mk.bl ?_
  intro b7
  refine WK.cr rfl (enters Tryz.func26 rfl rfl) (fun w hw => by
      exact same3_true (n := 1) (v := fun k => ([2] : List Int).getD k 0) (by decide) (OwnR.rdr (hw.holds (.own P2 1 p2 3 1 (iL [2])) (by simp))) (RdR.blk (cs := [.int .i64 2]) (n := 1) (sz := 1) (hw.holds _ (List.mem_cons_self ..)) rfl (fun _ _ => rfl))) ?_
  refine WK.p Pu.kt ?_
  refine WK.p Pu.mv ?_
  refine WK.p Pu.mv ?_
  refine WK.p Pu.eq ?_
  refine WK.lit (t := 110) (b' := true) rfl (rfl) ?_
  refine WK.p Pu.kt ?_
  refine WK.p Pu.mv ?_
  refine WK.p Pu.mv ?_
  refine WK.p Pu.bd ?_
  refine WK.gm Mk.bl ?_
  intro b8
  refine WK.cr rfl (enters Tryz.func62 rfl rfl) (fun w hw => by
      exact samePairs_any (n := 1) (v := fun k => ([(0, 1)] : List (Int × Int)).getD k (0, 0)) (by decide) (OwnR.rdr (hw.holds (.own P3 1 p3 80 2 (rowsP [(0, 1)])) (by simp))) (RdR.blk (cs := [.int .i64 0, .int .i64 1]) (n := 1) (sz := 2) (hw.holds _ (List.mem_cons_self ..)) rfl (fun _ _ => rfl))) ?_
  refine WK.p Pu.kt ?_
  refine WK.p Pu.as ?_
  refine WK.n ?_
  refine TL.nil ?_
  refine TQ.thenN (hY7 _ _ ?_)
  refine TW.ret ?_
  refine TQ.ret Tryz.results27 rfl ((.tmp rfl .nil)) ?_
  exact fun w hw => Ret.of hw
end
end Go.Proofs.YtmonkjnfjgidbaaGreatDoor
namespace Go.Proofs.YtmonkjnfjgidbaaGreatDoor
set_option linter.all false
set_option linter.unusedVariables false
set_option linter.unusedSimpArgs false
open Go.RowKit
def U32n (n : Nat) (u : Nat → Int) : Prop := ∀ k, k < n → 0 ≤ u k ∧ u k ≤ 4294967295
def chsV (n : Nat) (u : Nat → Int) (i : Nat) : Int := if i < n then u i else 0
theorem chs_bd {n : Nat} {u : Nat → Int} (h : U32n n u) (i : Nat) : 0 ≤ chsV n u i ∧ chsV n u i ≤ 4294967295 := by
  unfold chsV
  split
  · next hi => exact h i hi
  · omega
theorem ret_u32 {a b : Int} (h : a = b) : Ending.returned (.int .u32 a) = .returned (.int .u32 b) := by rw [h]
set_option maxRecDepth 100000 in
theorem choose_any {A : Option Addr} {n cp : Nat} {u : Nat → Int} {w : World} (i : Nat) (hR : RdR w 1 A n (fun k => [.int .u32 (u k)])) :
    Calls Tryz.prog 30 #[.slice A n cp, .int .i64 (i : Int)] w (Ret w (.int .u32 (chsV n u i))) := by
  refine K_enter (S := []) (K := []) Tryz.func30 rfl Tryz.ntmps30 rfl (Sat.start _) ?_
  refine TW.seq fun Y1 hY1 => ?_
  refine TW.region ?_
  refine TL.p Pu.as ?_
  refine TL.nil ?_
  refine TQ.thenN (hY1 _ _ ?_)
  refine TW.seq fun Y2 hY2 => ?_
  refine TW.seq fun Y3 hY3 => ?_
  refine TW.region ?_
  refine TL.p Pu.mv ?_
  refine TL.p Pu.mv ?_
  refine TL.p (Pu.ln Tryz.underlying56) ?_
  refine TL.p Pu.lt ?_
  refine TL.nil ?_
  refine TQ.thenN (hY3 _ _ ?_)
  refine TW.cond rfl (fun hc0 => ?_) (fun hc0 => ?_)
  try simp only [decide_eq_true_eq, decide_eq_false_iff_not, Bool.not_eq_true', Bool.not_eq_false', Bool.and_eq_true, Bool.or_eq_true, Bool.and_eq_false_iff, Bool.or_eq_false_iff, Int.not_lt, Int.not_le] at hc0
  have hi : i < n := by omega
  refine TW.seq fun Y4 hY4 => ?_
  refine TW.region ?_
  refine TL.p Pu.mv ?_
  refine TL.p Pu.mv ?_
  refine TL.p (Pu.el ty_et56) ?_
  refine TL.p (Pu.ld ty_sc64) ?_
  refine TL.p Pu.as ?_
  refine TL.nil ?_
  refine TQ.thenN (hY4 _ _ ?_)
  refine TW.ret ?_
  refine TQ.thenR ?_
  refine TQ.ret Tryz.results30 rfl ((.tmp rfl .nil)) ?_
  exact fun w hw => ⟨ret_u32 (by unfold chsV; rw [if_pos hi]), Chg.ext hw.chg⟩
  try simp only [decide_eq_true_eq, decide_eq_false_iff_not, Bool.not_eq_true', Bool.not_eq_false', Bool.and_eq_true, Bool.or_eq_true, Bool.and_eq_false_iff, Bool.or_eq_false_iff, Int.not_lt, Int.not_le] at hc0
  have hi : ¬ i < n := by omega
  refine TW.skip ?_
  refine TQ.thenN (hY2 _ _ ?_)
  refine TW.seq fun Y5 hY5 => ?_
  refine TW.region ?_
  refine TL.p Pu.as ?_
  refine TL.nil ?_
  refine TQ.thenN (hY5 _ _ ?_)
  refine TW.ret ?_
  refine TQ.ret Tryz.results30 rfl ((.tmp rfl .nil)) ?_
  exact fun w hw => ⟨ret_u32 (by unfold chsV; rw [if_neg hi]), Chg.ext hw.chg⟩
def stpB (s : Nat → Int) : Bool := !(decide (s 2 < 0) || decide (s 3 < s 2) || decide (s 4 ≤ s 2) || decide (s 5 < s 4) || decide (100000 < s 5) || decide (s 5 ≤ s 3))
def gonB (Y : Wy) (Z : Cus) (T : Trp) : Bool := !(great7 Y.nw Y.nl Y.x Z.nc Z.nd Z.nb T.no T.nu T.nv || decide ((30 : Int) < (Y.n : Int)) || !decide (chkY Y Z = 0) || !trpOk T) && (decide (wkC Y = 0) && allB Y.n fun k => stpB (stY Y k))
def gonN (Y : Wy) (Z : Cus) (T : Trp) : Nat := if gonB Y Z T = true then Y.n else 0
structure Gon (Y : Wy) (Z : Cus) (T : Trp) : Prop where
  gr : great7 Y.nw Y.nl Y.x Z.nc Z.nd Z.nb T.no T.nu T.nv = false
  n30 : Y.n ≤ 30
  chk : chkY Y Z = 0
  trp : trpOk T = true
  wk : wkC Y = 0
  stp : ∀ k, k < Y.n → stpB (stY Y k) = true
theorem gon_of {Y : Wy} {Z : Cus} {T : Trp} (h : gonB Y Z T = true) : Gon Y Z T := by
  unfold gonB at h
  simp only [Bool.and_eq_true, Bool.not_eq_true', Bool.or_eq_false_iff, decide_eq_false_iff_not, Bool.not_eq_false', decide_eq_true_eq] at h
  obtain ⟨⟨⟨⟨h1, h2⟩, h3⟩, h4⟩, h5, h6⟩ := h
  exact ⟨h1, by omega, h3, h4, h5, fun k hk => allB_iff.1 h6 k hk⟩
theorem Gon.rdy {Y : Wy} {Z : Cus} {T : Trp} (h : Gon Y Z T) : rdyC Y Z T = 0 := rdy_ok h.chk h.trp
theorem Gon.tol {Y : Wy} {Z : Cus} {T : Trp} (h : Gon Y Z T) : tolC Y Z T = 0 := by rw [tol_wk h.rdy]; exact h.wk
theorem gon_no1 {Y : Wy} {Z : Cus} {T : Trp} (h : (great7 Y.nw Y.nl Y.x Z.nc Z.nd Z.nb T.no T.nu T.nv || decide ((30 : Int) < (Y.n : Int)) || !decide (chkY Y Z = 0) || !trpOk T) = true) : gonB Y Z T = false := by unfold gonB; rw [h]; rfl
theorem gon_no2 {Y : Wy} {Z : Cus} {T : Trp} (h : wkC Y ≠ 0) : gonB Y Z T = false := by unfold gonB; rw [decide_eq_false h, Bool.false_and, Bool.and_false]
theorem gon_no3 {Y : Wy} {Z : Cus} {T : Trp} {k : Nat} (hk : k < Y.n) (h : stpB (stY Y k) = false) : gonB Y Z T = false := by
  cases e : gonB Y Z T with
  | false => rfl
  | true => have := (gon_of e).stp k hk; rw [h] at this; cases this
theorem gon_yes {Y : Wy} {Z : Cus} {T : Trp} (h1 : (great7 Y.nw Y.nl Y.x Z.nc Z.nd Z.nb T.no T.nu T.nv || decide ((30 : Int) < (Y.n : Int)) || !decide (chkY Y Z = 0) || !trpOk T) = false) (h2 : wkC Y = 0) (h3 : ∀ k, k < Y.n → stpB (stY Y k) = true) : gonB Y Z T = true := by
  unfold gonB
  rw [h1, decide_eq_true h2]
  show (true && _) = true
  rw [Bool.true_and]
  exact allB_iff.2 h3
def gonV (Y : Wy) (Z : Cus) (T : Trp) (y : Option Addr × Nat) : Value := .tuple #[.slice y.1 (gonN Y Z T) y.2, .bool (gonB Y Z T)]
def gonK (Y : Wy) (Z : Cus) (T : Trp) (y : Option Addr × Nat) : List Fact := [.own y.1 (gonN Y Z T) y.2 62 6 (fun k => stopL (stY Y k))]
theorem gon_bad {Y : Wy} {Z : Cus} {T : Trp} {w w' : World} {K : List Fact} (hw : Sat [] w K w') (h : gonB Y Z T = false) : ∃ y, Ending.returned (retV [.slice none 0 0, .bool false]) = .returned (gonV Y Z T y) ∧ Sat [] w (gonK Y Z T y) w' := by
  have e : gonN Y Z T = 0 := by unfold gonN; rw [h]; rfl
  refine ⟨(none, 0), ?_, ?_⟩
  · unfold gonV; rw [e, h]; rfl
  · unfold gonK; rw [e]; exact hw.sub (KSub.nilOwn KSub.nil)
section
variable {Y : Wy} {Z : Cus} {T : Trp} {W A L C D B O U V : Option Addr} {cw cl cn cc cd cb co cu cv : Nat} {w : World}
structure ArgIn (w : World) (Y : Wy) (Z : Cus) (T : Trp) (W A L C D B O U V : Option Addr) : Prop where
  hRW : RdR w 9 W Y.nw (fun k => wellL (Y.f k))
  hRA : RdR w 5 A Y.nl (fun k => legL (Y.x k))
  hRG : ∀ k, k < Y.nl → RdR w 4 (Y.x k).A (Y.x k).n (fun j => gateL (Y.g k j))
  hRC : RdR w 7 C Z.nc (fun k => claimL (Z.c k))
  hRD : RdR w 4 D Z.nd (fun k => feudL (Z.d k))
  hRB : RdR w 3 B Z.nb (fun k => borderL (Z.b k))
  hRO : RdR w 1 O T.no (fun k => [.int .i64 (T.o k)])
  hRU : RdR w 1 U T.nu (fun k => [.int .i64 (T.u k)])
  hRV : RdR w 1 V T.nv (fun k => [.int .i64 (T.v k)])
  hRL : RdR w 1 L Y.n (fun k => [.int .i64 (Y.ls k)])
theorem ArgIn.land (h : ArgIn w Y Z T W A L C D B O U V) (g : great7 Y.nw Y.nl Y.x Z.nc Z.nd Z.nb T.no T.nu T.nv = false) : LandIn w W Y.nw A Y.nl Y.f Y.x Y.g :=
  have q := great_all g
  ⟨q.1.1, q.1.2.1, h.hRW, h.hRA, q.1.2.2, h.hRG⟩
theorem ArgIn.cust (h : ArgIn w Y Z T W A L C D B O U V) (g : great7 Y.nw Y.nl Y.x Z.nc Z.nd Z.nb T.no T.nu T.nv = false) : CustIn w C Z.nc D Z.nd B Z.nb Z.c Z.d Z.b :=
  have q := great_all g
  ⟨q.2.1.1, q.2.1.2.1, q.2.1.2.2, h.hRC, h.hRD, h.hRB⟩
theorem ArgIn.trp (h : ArgIn w Y Z T W A L C D B O U V) (g : great7 Y.nw Y.nl Y.x Z.nc Z.nd Z.nb T.no T.nu T.nv = false) : TrpIn w T O U V :=
  have q := great_all g
  ⟨q.2.2.1, q.2.2.2.1, q.2.2.2.2, h.hRO, h.hRU, h.hRV⟩
set_option maxRecDepth 100000 in
set_option maxHeartbeats 4000000 in
theorem going_any (a : ArgIn w Y Z T W A L C D B O U V) :
    CallsK Tryz.prog 28 #[.agg (landL W Y.nw cw A Y.nl cl).toArray, .agg (custL C Z.nc cc D Z.nd cd B Z.nb cb).toArray, .agg (troopL T.hd T.wo O T.no co U T.nu cu V T.nv cv).toArray, .int .i64 Y.start, .int .i64 Y.day, .agg #[.int .i64 Y.p0, .int .i64 Y.p1], .slice L Y.n cn] [] w (Option Addr × Nat) (gonV Y Z T) (gonK Y Z T) := by
  have hRA := a.hRA
  have hRL := a.hRL
  have fK := fun (w' : World) (h1 : LandIn w' W Y.nw A Y.nl Y.f Y.x Y.g) (h2 : CustIn w' C Z.nc D Z.nd B Z.nb Z.c Z.d Z.b) => refCheck_any (cw := cw) (cl := cl) (cc := cc) (cd := cd) (cb := cb) h1 h2
  have fT := fun (w' : World) (h3 : TrpIn w' T O U V) => rTroop_any (co := co) (cu := cu) (cv := cv) h3
  have fW := fun (w' : World) (h1 : LandIn w' W Y.nw A Y.nl Y.f Y.x Y.g) (hn : Y.n ≤ 1000) (h2 : RdR w' 1 L Y.n (fun k => [.int .i64 (Y.ls k)])) => cWalk_any (cw := cw) (cl := cl) (cn := cn) h1 hn h2
  unfold landL custL at fK
  unfold troopL at fT
  unfold landL at fW
  unfold landL custL troopL
  refine K_enter (S := []) (K := []) Tryz.func28 rfl Tryz.ntmps28 rfl (Sat.start _) ?_
  refine TW.seq fun Y1 hY1 => ?_
  refine TW.region ?_
  refine TL.m Mk.bx ?_
  intro b1
  refine TL.m Mk.bx ?_
  intro b2
  refine TL.m Mk.bx ?_
  intro b3
  refine TL.m Mk.bx ?_
  intro b4
  refine TL.p Pu.as ?_
  refine TL.p Pu.as ?_
  refine TL.nil ?_
  refine TQ.thenN (hY1 _ _ ?_)
  refine TW.seq fun Y2 hY2 => ?_
  refine TW.seq fun Y3 hY3 => ?_
  refine TW.join [(40, .bool (great7 Y.nw Y.nl Y.x Z.nc Z.nd Z.nb T.no T.nu T.nv || decide ((30 : Int) < (Y.n : Int)) || !decide (chkY Y Z = 0) || !trpOk T))] ?_ (fun hJ1 => ?_)
  refine TQ.thenN (hY3 _ _ ?_)
  refine TW.cond rfl (fun hc0 => ?_) (fun hc0 => ?_)
  try simp only [decide_eq_true_eq, decide_eq_false_iff_not, Bool.not_eq_true', Bool.not_eq_false', Bool.and_eq_true, Bool.or_eq_true, Bool.and_eq_false_iff, Bool.or_eq_false_iff, Int.not_lt, Int.not_le] at hc0
  have hbad := gon_no1 (Y := Y) (Z := Z) (T := T) (by simpa using hc0)
  refine TW.seq fun Y4 hY4 => ?_
  refine TW.region ?_
  refine TL.p Pu.as ?_
  refine TL.p Pu.as ?_
  refine TL.nil ?_
  refine TQ.thenN (hY4 _ _ ?_)
  refine TW.ret ?_
  refine TQ.thenR ?_
  refine TQ.ret Tryz.results28 rfl ((.tmp rfl (.tmp rfl .nil))) ?_
  exact fun w hw => gon_bad hw hbad
  try simp only [decide_eq_true_eq, decide_eq_false_iff_not, Bool.not_eq_true', Bool.not_eq_false', Bool.and_eq_true, Bool.or_eq_true, Bool.and_eq_false_iff, Bool.or_eq_false_iff, Int.not_lt, Int.not_le] at hc0
  have hg0 : (great7 Y.nw Y.nl Y.x Z.nc Z.nd Z.nb T.no T.nu T.nv || decide ((30 : Int) < (Y.n : Int)) || !decide (chkY Y Z = 0) || !trpOk T) = false := by simpa using hc0
  have hgr : great7 Y.nw Y.nl Y.x Z.nc Z.nd Z.nb T.no T.nu T.nv = false := by rw [Bool.or_eq_false_iff, Bool.or_eq_false_iff, Bool.or_eq_false_iff] at hg0; exact hg0.1.1.1
  have hnn : Y.n ≤ 1000 := by rw [Bool.or_eq_false_iff, Bool.or_eq_false_iff, Bool.or_eq_false_iff, decide_eq_false_iff_not] at hg0; have := hg0.1.1.2; omega
  refine TW.skip ?_
  refine TQ.thenN (hY2 _ _ ?_)
  refine TW.seq fun Y5 hY5 => ?_
  refine TW.region ?_
  refine TL.p (Pu.lds ty_ag25) ?_
  refine TL.p Pu.mv ?_
  refine TL.p Pu.mv ?_
  refine TL.p (Pu.lds ty_ag35) ?_
  refine TL.p Pu.mv ?_
  refine TL.call (M := []) rfl (enters Tryz.func63 rfl rfl) (List.Perm.refl _) rfl (fun w hw => by
      exact fW _ ((a.land hgr).ext (Chg.ext hw.chg)) hnn (hRL.sat hw Apart.nil)) ?_
  rintro ⟨⟨As, cs⟩, i9⟩
  simp only [wkR, wkL, List.cons_append, List.nil_append]
  refine TL.p Pu.mv ?_
  refine TL.p Pu.ex ?_
  refine TL.p Pu.ex ?_
  refine TL.p Pu.ex ?_
  refine TL.p Pu.as ?_
  refine TL.p Pu.as ?_
  refine TL.p Pu.as ?_
  refine TL.nil ?_
  refine TQ.thenN (hY5 _ _ ?_)
  refine TW.seq fun Y6 hY6 => ?_
  refine TW.seq fun Y7 hY7 => ?_
  refine TW.region ?_
  refine TL.p Pu.mv ?_
  refine TL.p Pu.ne ?_
  refine TL.nil ?_
  refine TQ.thenN (hY7 _ _ ?_)
  refine TW.cond rfl (fun hc1 => ?_) (fun hc1 => ?_)
  try simp only [decide_eq_true_eq, decide_eq_false_iff_not, Bool.not_eq_true', Bool.not_eq_false', Bool.and_eq_true, Bool.or_eq_true, Bool.and_eq_false_iff, Bool.or_eq_false_iff, Int.not_lt, Int.not_le] at hc1
  have hbad := gon_no2 (Y := Y) (Z := Z) (T := T) hc1
  refine TW.seq fun Y8 hY8 => ?_
  refine TW.region ?_
  refine TL.p Pu.as ?_
  refine TL.p Pu.as ?_
  refine TL.nil ?_
  refine TQ.thenN (hY8 _ _ ?_)
  refine TW.ret ?_
  refine TQ.thenR ?_
  refine TQ.ret Tryz.results28 rfl ((.tmp rfl (.tmp rfl .nil))) ?_
  exact fun w hw => gon_bad hw hbad
  try simp only [decide_eq_true_eq, decide_eq_false_iff_not, Bool.not_eq_true', Bool.not_eq_false', Bool.and_eq_true, Bool.or_eq_true, Bool.and_eq_false_iff, Bool.or_eq_false_iff, Int.not_lt, Int.not_le] at hc1
  have hwz : wkC Y = 0 := by simpa using hc1
  have hwn := wkN_n hwz
  rw [hwn]
  refine TW.skip ?_
  refine TQ.thenN (hY6 _ _ ?_)
  refine TW.seq fun Y9 hY9 => ?_
  refine TW.seq fun Y10 hY10 => ?_
  refine TW.region ?_
  refine TL.p Pu.mv ?_
  refine TL.p (Pu.ln Tryz.underlying58) ?_
  refine TL.p Pu.mv ?_
  refine TL.nil ?_
  refine TQ.thenN (hY10 _ _ ?_)
  refine TW.block ?_
  refine TW.loop1 (fun (i : Nat) => [(55, .int .i64 (i : Int)), (54, .int .i64 (Y.n : Int)), (53, .slice As Y.n cs), (16, .slice As Y.n cs)]) (fun i => [.own As Y.n cs 62 6 (fun k => stopL (stY Y k))]) (fun i => i ≤ Y.n ∧ ∀ j, j < i → stpB (stY Y j) = true) (fun i => Y.n - i) 0 fs9 ?_ ?_ ?_
  exact ks9
  exact ⟨Nat.zero_le _, fun j hj => by omega⟩
  rintro i ⟨hi, hall⟩ Z0 hZ0
  refine TW.seq fun Y11 hY11 => ?_
  refine TW.region ?_
  refine TL.p Pu.lt ?_
  refine TL.nil ?_
  refine TQ.thenN (hY11 _ _ ?_)
  refine TW.seq fun Y12 hY12 => ?_
  refine TW.cond rfl (fun hc2 => ?_) (fun hc2 => ?_)
  try simp only [decide_eq_true_eq, decide_eq_false_iff_not, Bool.not_eq_true', Bool.not_eq_false', Bool.and_eq_true, Bool.or_eq_true, Bool.and_eq_false_iff, Bool.or_eq_false_iff, Int.not_lt, Int.not_le] at hc2
  have hin : i < Y.n := by omega
  refine TW.skip ?_
  refine TQ.thenN (hY12 _ _ ?_)
  refine TW.seq fun Y13 hY13 => ?_
  refine TW.block ?_
  refine TW.seq fun Y14 hY14 => ?_
  refine TW.region ?_
  refine TL.p (Pu.el ty_et58) ?_
  refine TL.p (Pu.lds ty_ag62) ?_
  refine TL.m (Mk.al ty_zr62) ?_
  intro b5
  first | refine TL.st ty_sz62 ?_ | refine TL.se ty_sz62 ?_
  refine TL.nil ?_
  refine TQ.thenN (hY14 _ _ ?_)
  refine TW.seq fun Y15 hY15 => ?_
  refine TW.join [(104, .bool (!stpB (stY Y i)))] ?_ (fun hJ2 => ?_)
  refine TQ.thenN (hY15 _ _ ?_)
  refine TW.cond rfl (fun hc3 => ?_) (fun hc3 => ?_)
  try simp only [decide_eq_true_eq, decide_eq_false_iff_not, Bool.not_eq_true', Bool.not_eq_false', Bool.and_eq_true, Bool.or_eq_true, Bool.and_eq_false_iff, Bool.or_eq_false_iff, Int.not_lt, Int.not_le] at hc3
  have hbad := gon_no3 (Y := Y) (Z := Z) (T := T) hin (by simpa using hc3)
  refine TW.seq fun Y16 hY16 => ?_
  refine TW.region ?_
  refine TL.p Pu.as ?_
  refine TL.p Pu.as ?_
  refine TL.nil ?_
  refine TQ.thenN (hY16 _ _ ?_)
  refine TW.ret ?_
  refine TQ.blkR ?_
  refine TQ.thenR ?_
  refine TQ.thenR ?_
  refine TQ.blkR ?_
  refine TQ.thenR ?_
  refine TQ.ret Tryz.results28 rfl ((.tmp rfl (.tmp rfl .nil))) ?_
  exact fun w hw => gon_bad hw hbad
  try simp only [decide_eq_true_eq, decide_eq_false_iff_not, Bool.not_eq_true', Bool.not_eq_false', Bool.and_eq_true, Bool.or_eq_true, Bool.and_eq_false_iff, Bool.or_eq_false_iff, Int.not_lt, Int.not_le] at hc3
  have hst : stpB (stY Y i) = true := by simpa using hc3
  refine TW.skip ?_
  refine TQ.blkN ?_
  refine TQ.thenN (hY13 _ _ ?_)
  refine TW.region ?_
  refine TL.p Pu.ad ?_
  refine TL.p Pu.mv ?_
  refine TL.nil ?_
  refine TQ.thenN (hZ0 (i + 1) _ _ ?_ ?_ fs9 ?_)
  exact ⟨by omega, fun j hj => (Nat.lt_succ_iff_lt_or_eq.1 hj).elim (hall j) (fun e => by rw [e]; exact hst)⟩
  exact (by first | omega | (simp only []; omega) | (simp; omega))
  exact ks9
  refine TW.region ?_
  refine TL.p (by first | exact Pu.fb ty_fa62_2 | exact Pu.fe ty_fa62_2) ?_
  refine TL.p (by first | exact Pu.fb ty_fa35_0 | exact Pu.fe ty_fa35_0) ?_
  refine TL.p (Pu.ld ty_sc3) ?_
  refine TL.p Pu.lt ?_
  refine TL.p Pu.mv ?_
  refine TL.guard (t := 63) rfl (fun hg1 => ?_) (fun hg1 => ?_)
  try simp only [decide_eq_true_eq, decide_eq_false_iff_not, Bool.not_eq_true', Bool.not_eq_false', Int.natCast_pos] at hg1
  refine TL.gs ?_
  refine TL.gs ?_
  refine TL.gs ?_
  refine TL.gs ?_
  refine TL.gs ?_
  refine TL.gs ?_
  refine TL.gs ?_
  refine TL.p Pu.kt ?_
  refine TL.p Pu.mv ?_
  refine TL.gs ?_
  refine TL.gs ?_
  refine TL.gs ?_
  refine TL.gs ?_
  refine TL.gs ?_
  refine TL.gs ?_
  refine TL.gs ?_
  refine TL.p Pu.kt ?_
  refine TL.p Pu.mv ?_
  refine TL.gs ?_
  refine TL.gs ?_
  refine TL.gs ?_
  refine TL.gs ?_
  refine TL.gs ?_
  refine TL.gs ?_
  refine TL.gs ?_
  refine TL.p Pu.kt ?_
  refine TL.p Pu.mv ?_
  refine TL.gs ?_
  refine TL.gs ?_
  refine TL.gs ?_
  refine TL.gs ?_
  refine TL.p Pu.kt ?_
  refine TL.p Pu.mv ?_
  refine TL.gs ?_
  refine TL.gs ?_
  refine TL.gs ?_
  refine TL.gs ?_
  refine TL.gs ?_
  refine TL.gs ?_
  refine TL.gs ?_
  refine TL.p Pu.kt ?_
  refine TL.nil ?_
  exact TQ.sub (by repeat (first | exact trivial | refine ⟨rfl, ?_⟩ | refine ⟨trivial, ?_⟩ | refine ⟨(by show some (Value.bool _) = some (Value.bool _); first | (simp [hg1, stpB]; done) | (refine congrArg (fun z => some (Value.bool z)) (Bool.eq_iff_iff.2 ?_); simp [hg1, stpB]; omega)), ?_⟩)) ks9 hJ2
  try simp only [decide_eq_true_eq, decide_eq_false_iff_not, Bool.not_eq_true', Bool.not_eq_false', Int.natCast_pos] at hg1
  refine TL.gd (by first | exact Pu.fb ty_fa62_2 | exact Pu.fe ty_fa62_2) ?_
  refine TL.gd (by first | exact Pu.fb ty_fa35_0 | exact Pu.fe ty_fa35_0) ?_
  refine TL.gd (Pu.ld ty_sc3) ?_
  refine TL.gd (by first | exact Pu.fb ty_fa62_2 | exact Pu.fe ty_fa62_2) ?_
  refine TL.gd (by first | exact Pu.fb ty_fa35_1 | exact Pu.fe ty_fa35_1) ?_
  refine TL.gd (Pu.ld ty_sc3) ?_
  refine TL.gd Pu.gt ?_
  refine TL.p Pu.kf ?_
  refine TL.p Pu.mv ?_
  refine TL.guard (t := 72) rfl (fun hg2 => ?_) (fun hg2 => ?_)
  try simp only [decide_eq_true_eq, decide_eq_false_iff_not, Bool.not_eq_true', Bool.not_eq_false', Int.natCast_pos] at hg2
  refine TL.gs ?_
  refine TL.gs ?_
  refine TL.gs ?_
  refine TL.gs ?_
  refine TL.gs ?_
  refine TL.gs ?_
  refine TL.gs ?_
  refine TL.p Pu.kt ?_
  refine TL.p Pu.mv ?_
  refine TL.gs ?_
  refine TL.gs ?_
  refine TL.gs ?_
  refine TL.gs ?_
  refine TL.gs ?_
  refine TL.gs ?_
  refine TL.gs ?_
  refine TL.p Pu.kt ?_
  refine TL.p Pu.mv ?_
  refine TL.gs ?_
  refine TL.gs ?_
  refine TL.gs ?_
  refine TL.gs ?_
  refine TL.p Pu.kt ?_
  refine TL.p Pu.mv ?_
  refine TL.gs ?_
  refine TL.gs ?_
  refine TL.gs ?_
  refine TL.gs ?_
  refine TL.gs ?_
  refine TL.gs ?_
  refine TL.gs ?_
  refine TL.p Pu.kt ?_
  refine TL.nil ?_
  exact TQ.sub (by repeat (first | exact trivial | refine ⟨rfl, ?_⟩ | refine ⟨trivial, ?_⟩ | refine ⟨(by show some (Value.bool _) = some (Value.bool _); first | (simp [hg1, hg2, stpB]; done) | (refine congrArg (fun z => some (Value.bool z)) (Bool.eq_iff_iff.2 ?_); simp [hg1, hg2, stpB]; omega)), ?_⟩)) ks9 hJ2
  try simp only [decide_eq_true_eq, decide_eq_false_iff_not, Bool.not_eq_true', Bool.not_eq_false', Int.natCast_pos] at hg2
  refine TL.gd (by first | exact Pu.fb ty_fa62_3 | exact Pu.fe ty_fa62_3) ?_
  refine TL.gd (by first | exact Pu.fb ty_fa35_0 | exact Pu.fe ty_fa35_0) ?_
  refine TL.gd (Pu.ld ty_sc3) ?_
  refine TL.gd (by first | exact Pu.fb ty_fa62_2 | exact Pu.fe ty_fa62_2) ?_
  refine TL.gd (by first | exact Pu.fb ty_fa35_0 | exact Pu.fe ty_fa35_0) ?_
  refine TL.gd (Pu.ld ty_sc3) ?_
  refine TL.gd Pu.le ?_
  refine TL.p Pu.kf ?_
  refine TL.p Pu.mv ?_
  refine TL.guard (t := 81) rfl (fun hg3 => ?_) (fun hg3 => ?_)
  try simp only [decide_eq_true_eq, decide_eq_false_iff_not, Bool.not_eq_true', Bool.not_eq_false', Int.natCast_pos] at hg3
  refine TL.gs ?_
  refine TL.gs ?_
  refine TL.gs ?_
  refine TL.gs ?_
  refine TL.gs ?_
  refine TL.gs ?_
  refine TL.gs ?_
  refine TL.p Pu.kt ?_
  refine TL.p Pu.mv ?_
  refine TL.gs ?_
  refine TL.gs ?_
  refine TL.gs ?_
  refine TL.gs ?_
  refine TL.p Pu.kt ?_
  refine TL.p Pu.mv ?_
  refine TL.gs ?_
  refine TL.gs ?_
  refine TL.gs ?_
  refine TL.gs ?_
  refine TL.gs ?_
  refine TL.gs ?_
  refine TL.gs ?_
  refine TL.p Pu.kt ?_
  refine TL.nil ?_
  exact TQ.sub (by repeat (first | exact trivial | refine ⟨rfl, ?_⟩ | refine ⟨trivial, ?_⟩ | refine ⟨(by show some (Value.bool _) = some (Value.bool _); first | (simp [hg1, hg2, hg3, stpB]; done) | (refine congrArg (fun z => some (Value.bool z)) (Bool.eq_iff_iff.2 ?_); simp [hg1, hg2, hg3, stpB]; omega)), ?_⟩)) ks9 hJ2
  try simp only [decide_eq_true_eq, decide_eq_false_iff_not, Bool.not_eq_true', Bool.not_eq_false', Int.natCast_pos] at hg3
  refine TL.gd (by first | exact Pu.fb ty_fa62_3 | exact Pu.fe ty_fa62_3) ?_
  refine TL.gd (by first | exact Pu.fb ty_fa35_0 | exact Pu.fe ty_fa35_0) ?_
  refine TL.gd (Pu.ld ty_sc3) ?_
  refine TL.gd (by first | exact Pu.fb ty_fa62_3 | exact Pu.fe ty_fa62_3) ?_
  refine TL.gd (by first | exact Pu.fb ty_fa35_1 | exact Pu.fe ty_fa35_1) ?_
  refine TL.gd (Pu.ld ty_sc3) ?_
  refine TL.gd Pu.gt ?_
  refine TL.p Pu.kf ?_
  refine TL.p Pu.mv ?_
  refine TL.guard (t := 90) rfl (fun hg4 => ?_) (fun hg4 => ?_)
  try simp only [decide_eq_true_eq, decide_eq_false_iff_not, Bool.not_eq_true', Bool.not_eq_false', Int.natCast_pos] at hg4
  refine TL.gs ?_
  refine TL.gs ?_
  refine TL.gs ?_
  refine TL.gs ?_
  refine TL.p Pu.kt ?_
  refine TL.p Pu.mv ?_
  refine TL.gs ?_
  refine TL.gs ?_
  refine TL.gs ?_
  refine TL.gs ?_
  refine TL.gs ?_
  refine TL.gs ?_
  refine TL.gs ?_
  refine TL.p Pu.kt ?_
  refine TL.nil ?_
  exact TQ.sub (by repeat (first | exact trivial | refine ⟨rfl, ?_⟩ | refine ⟨trivial, ?_⟩ | refine ⟨(by show some (Value.bool _) = some (Value.bool _); first | (simp [hg1, hg2, hg3, hg4, stpB]; done) | (refine congrArg (fun z => some (Value.bool z)) (Bool.eq_iff_iff.2 ?_); simp [hg1, hg2, hg3, hg4, stpB]; omega)), ?_⟩)) ks9 hJ2
  try simp only [decide_eq_true_eq, decide_eq_false_iff_not, Bool.not_eq_true', Bool.not_eq_false', Int.natCast_pos] at hg4
  refine TL.gd (by first | exact Pu.fb ty_fa62_3 | exact Pu.fe ty_fa62_3) ?_
  refine TL.gd (by first | exact Pu.fb ty_fa35_1 | exact Pu.fe ty_fa35_1) ?_
  refine TL.gd (Pu.ld ty_sc3) ?_
  refine TL.gd Pu.gt ?_
  refine TL.p Pu.kf ?_
  refine TL.p Pu.mv ?_
  refine TL.guard (t := 96) rfl (fun hg5 => ?_) (fun hg5 => ?_)
  try simp only [decide_eq_true_eq, decide_eq_false_iff_not, Bool.not_eq_true', Bool.not_eq_false', Int.natCast_pos] at hg5
  refine TL.gs ?_
  refine TL.gs ?_
  refine TL.gs ?_
  refine TL.gs ?_
  refine TL.gs ?_
  refine TL.gs ?_
  refine TL.gs ?_
  refine TL.p Pu.kt ?_
  refine TL.nil ?_
  exact TQ.sub (by repeat (first | exact trivial | refine ⟨rfl, ?_⟩ | refine ⟨trivial, ?_⟩ | refine ⟨(by show some (Value.bool _) = some (Value.bool _); first | (simp [hg1, hg2, hg3, hg4, hg5, stpB]; done) | (refine congrArg (fun z => some (Value.bool z)) (Bool.eq_iff_iff.2 ?_); simp [hg1, hg2, hg3, hg4, hg5, stpB]; omega)), ?_⟩)) ks9 hJ2
  try simp only [decide_eq_true_eq, decide_eq_false_iff_not, Bool.not_eq_true', Bool.not_eq_false', Int.natCast_pos] at hg5
  refine TL.gd (by first | exact Pu.fb ty_fa62_3 | exact Pu.fe ty_fa62_3) ?_
  refine TL.gd (by first | exact Pu.fb ty_fa35_1 | exact Pu.fe ty_fa35_1) ?_
  refine TL.gd (Pu.ld ty_sc3) ?_
  refine TL.gd (by first | exact Pu.fb ty_fa62_2 | exact Pu.fe ty_fa62_2) ?_
  refine TL.gd (by first | exact Pu.fb ty_fa35_1 | exact Pu.fe ty_fa35_1) ?_
  refine TL.gd (Pu.ld ty_sc3) ?_
  refine TL.gd Pu.le ?_
  refine TL.p Pu.kf ?_
  refine TL.nil ?_
  exact TQ.sub (by repeat (first | exact trivial | refine ⟨rfl, ?_⟩ | refine ⟨trivial, ?_⟩ | refine ⟨(by show some (Value.bool _) = some (Value.bool _); first | (simp [hg1, hg2, hg3, hg4, hg5, stpB]; done) | (refine congrArg (fun z => some (Value.bool z)) (Bool.eq_iff_iff.2 ?_); simp [hg1, hg2, hg3, hg4, hg5, stpB]; omega)), ?_⟩)) ks9 hJ2
  try simp only [decide_eq_true_eq, decide_eq_false_iff_not, Bool.not_eq_true', Bool.not_eq_false', Bool.and_eq_true, Bool.or_eq_true, Bool.and_eq_false_iff, Bool.or_eq_false_iff, Int.not_lt, Int.not_le] at hc2
  obtain rfl : i = Y.n := by omega
  refine TW.exit ?_
  refine TQ.thenX ?_
  refine TQ.thenX ?_
  refine TQ.blkX ?_
  refine TQ.thenN (hY9 _ _ ?_)
  refine TW.seq fun Y17 hY17 => ?_
  refine TW.region ?_
  refine TL.p Pu.mv ?_
  refine TL.p Pu.as ?_
  refine TL.p Pu.as ?_
  refine TL.nil ?_
  refine TQ.thenN (hY17 _ _ ?_)
  refine TW.ret ?_
  refine TQ.ret Tryz.results28 rfl ((.tmp rfl (.tmp rfl .nil))) ?_
  have hyes := gon_yes (Y := Y) (Z := Z) (T := T) hg0 hwz hall
  have e : gonN Y Z T = Y.n := if_pos hyes
  exact fun w hw => ⟨(As, cs), by unfold gonV; rw [e, hyes]; rfl, by unfold gonK; rw [e]; exact hw.sub (KSub.cons pk9 KSub.nil)⟩
  refine TW.region ?_
  refine TL.p (Pu.lds ty_ag25) ?_
  refine TL.p (Pu.lds ty_ag30) ?_
  refine TL.p (Pu.lds ty_ag33) ?_
  refine TL.cr rfl (enters Tryz.func14 rfl rfl) (fun w hw => by
      exact great7_any (hRA.sat hw Apart.nil)) ?_
  refine TL.p Pu.mv ?_
  refine TL.guard (t := 25) rfl (fun hg6 => ?_) (fun hg6 => ?_)
  try simp only [decide_eq_true_eq, decide_eq_false_iff_not, Bool.not_eq_true', Bool.not_eq_false', Int.natCast_pos] at hg6
  refine TL.gs ?_
  refine TL.gs ?_
  refine TL.gs ?_
  refine TL.p Pu.kt ?_
  refine TL.p Pu.mv ?_
  refine TL.gs ?_
  refine TL.gs ?_
  refine TL.gs ?_
  refine TL.gs ?_
  refine TL.p Pu.kt ?_
  refine TL.p Pu.mv ?_
  refine TL.gs ?_
  refine TL.gs ?_
  refine TL.gs ?_
  refine TL.p Pu.kt ?_
  refine TL.nil ?_
  exact TQ.sub (by repeat (first | exact trivial | refine ⟨rfl, ?_⟩ | refine ⟨trivial, ?_⟩ | refine ⟨(by show some (Value.bool _) = some (Value.bool _); first | (simp [hg6, chkY]; done) | (refine congrArg (fun z => some (Value.bool z)) (Bool.eq_iff_iff.2 ?_); simp [hg6, chkY]; omega)), ?_⟩)) ks9 hJ1
  try simp only [decide_eq_true_eq, decide_eq_false_iff_not, Bool.not_eq_true', Bool.not_eq_false', Int.natCast_pos] at hg6
  refine TL.gd Pu.mv ?_
  refine TL.gd (Pu.ln Tryz.underlying31) ?_
  refine TL.gd Pu.gt ?_
  refine TL.p Pu.kf ?_
  refine TL.p Pu.mv ?_
  refine TL.guard (t := 30) rfl (fun hg7 => ?_) (fun hg7 => ?_)
  try simp only [decide_eq_true_eq, decide_eq_false_iff_not, Bool.not_eq_true', Bool.not_eq_false', Int.natCast_pos] at hg7
  refine TL.gs ?_
  refine TL.gs ?_
  refine TL.gs ?_
  refine TL.gs ?_
  refine TL.p Pu.kt ?_
  refine TL.p Pu.mv ?_
  refine TL.gs ?_
  refine TL.gs ?_
  refine TL.gs ?_
  refine TL.p Pu.kt ?_
  refine TL.nil ?_
  exact TQ.sub (by repeat (first | exact trivial | refine ⟨rfl, ?_⟩ | refine ⟨trivial, ?_⟩ | refine ⟨(by show some (Value.bool _) = some (Value.bool _); first | (simp [hg6, hg7, chkY]; done) | (refine congrArg (fun z => some (Value.bool z)) (Bool.eq_iff_iff.2 ?_); simp [hg6, hg7, chkY]; omega)), ?_⟩)) ks9 hJ1
  try simp only [decide_eq_true_eq, decide_eq_false_iff_not, Bool.not_eq_true', Bool.not_eq_false', Int.natCast_pos] at hg7
  refine TL.gd (Pu.lds ty_ag25) ?_
  refine TL.gd (Pu.lds ty_ag30) ?_
  refine TL.cr rfl (enters Tryz.func35 rfl rfl) (fun w hw => by
      exact fK _ ((a.land hg6).ext (Chg.ext hw.chg)) ((a.cust hg6).ext (Chg.ext hw.chg))) ?_
  refine TL.gd Pu.ne ?_
  refine TL.p Pu.kf ?_
  refine TL.p Pu.mv ?_
  refine TL.guard (t := 36) rfl (fun hg8 => ?_) (fun hg8 => ?_)
  try simp only [decide_eq_true_eq, decide_eq_false_iff_not, Bool.not_eq_true', Bool.not_eq_false', Int.natCast_pos] at hg8
  refine TL.gs ?_
  refine TL.gs ?_
  refine TL.gs ?_
  refine TL.p Pu.kt ?_
  refine TL.nil ?_
  exact TQ.sub (by repeat (first | exact trivial | refine ⟨rfl, ?_⟩ | refine ⟨trivial, ?_⟩ | refine ⟨(by show some (Value.bool _) = some (Value.bool _); first | (simp [hg6, hg7, hg8, chkY]; done) | (refine congrArg (fun z => some (Value.bool z)) (Bool.eq_iff_iff.2 ?_); simp [hg6, hg7, hg8, chkY]; omega)), ?_⟩)) ks9 hJ1
  try simp only [decide_eq_true_eq, decide_eq_false_iff_not, Bool.not_eq_true', Bool.not_eq_false', Int.natCast_pos] at hg8
  refine TL.gd (Pu.lds ty_ag33) ?_
  refine TL.cr rfl (enters Tryz.func51 rfl rfl) (fun w hw => by
      exact fT _ ((a.trp hg6).ext (Chg.ext hw.chg))) ?_
  refine TL.gd Pu.no ?_
  refine TL.p Pu.kf ?_
  refine TL.nil ?_
  exact TQ.sub (by repeat (first | exact trivial | refine ⟨rfl, ?_⟩ | refine ⟨trivial, ?_⟩ | refine ⟨(by show some (Value.bool _) = some (Value.bool _); first | (simp [hg6, hg7, hg8, chkY]; done) | (refine congrArg (fun z => some (Value.bool z)) (Bool.eq_iff_iff.2 ?_); simp [hg6, hg7, hg8, chkY]; omega)), ?_⟩)) ks9 hJ1
end
end Go.Proofs.YtmonkjnfjgidbaaGreatDoor
namespace Go.Proofs.YtmonkjnfjgidbaaGreatDoor
set_option linter.all false
set_option linter.unusedVariables false
set_option linter.unusedSimpArgs false
section
variable {Z : Cus} {lo : Int} {k : Nat}
end
section
variable {Z : Cus} {T : Trp} {leg d t : Int}
end
section
variable {Z : Cus} {T : Trp} {s : Nat → Int}
end
theorem barA_ok {Y : Wy} {Z : Cus} {T : Trp} (h : tolC Y Z T = 0) : barA Y Z T = barD Z T Y.n (stY Y) := if_pos h
end Go.Proofs.YtmonkjnfjgidbaaGreatDoor
namespace Go.Proofs.YtmonkjnfjgidbaaGreatDoor
set_option linter.all false
set_option linter.unusedVariables false
set_option linter.unusedSimpArgs false
open Go.RowKit
theorem choose_x {A : Option Addr} {n cp : Nat} {u : Nat → Int} {w : World} (x : Int) (h0 : 0 ≤ x) (hR : RdR w 1 A n (fun k => [.int .u32 (u k)])) :
    Calls Tryz.prog 30 #[.slice A n cp, .int .i64 x] w (Ret w (.int .u32 (chsV n u x.toNat))) := by
  have h := choose_any (cp := cp) x.toNat hR
  rwa [Int.toNat_of_nonneg h0] at h
section
variable {Y : Wy} {Z : Cus} {T : Trp} {W A L C D B O U V G : Option Addr} {cw cl cn cc cd cb co cu cv nb cg : Nat} {u : Nat → Int} {w : World}
end
end Go.Proofs.YtmonkjnfjgidbaaGreatDoor
namespace Go.Proofs.YtmonkjnfjgidbaaGreatDoor
set_option linter.all false
set_option linter.unusedVariables false
set_option linter.unusedSimpArgs false
open Go.RowKit
theorem mn0_at {v : Nat → Int} {j : Nat} : ∀ k, j < k → mn0 v k ≤ v j
  | 0, h => by omega
  | 1, h => by obtain rfl : j = 0 := by omega
               rw [mn_first]; omega
  | k + 2, h => by
    rw [mn_next (by omega)]
    by_cases e : j = k + 1
    · subst e; omega
    · have := mn0_at (v := v) (j := j) (k + 1) (by omega)
      omega
theorem mx0_at {v : Nat → Int} {j : Nat} : ∀ k, j < k → v j ≤ mx0 v k
  | 0, h => by omega
  | k + 1, h => by
    simp only [mx0]
    by_cases e : j = k
    · subst e; omega
    · have := mx0_at (v := v) (j := j) k (by omega)
      omega
section
variable {Z : Cus} {T : Trp} {s : Nat → Int} {d : Int}
end
section
variable {Z : Cus} {T : Trp} {st : Nat → Nat → Int} {d : Nat → Int}
end
end Go.Proofs.YtmonkjnfjgidbaaGreatDoor
namespace Go.Proofs.YtmonkjnfjgidbaaGreatDoor
set_option linter.all false
set_option linter.unusedVariables false
set_option linter.unusedSimpArgs false
open Go.RowKit
def ltF (x y : (Nat → Int) × Bool) : Prop := x.1 2 < y.1 2 ∨ (x.1 2 = y.1 2 ∧ x.1 1 < y.1 1)
theorem lexB_iff {x y : (Nat → Int) × Bool} : lexB x y = true ↔ ltF x y := by
  unfold lexB ltF
  simp only [Bool.or_eq_true, Bool.and_eq_true, decide_eq_true_eq]
section
variable {leg day : Int} {c : Nat → (Nat → Int) × Bool}
theorem hb_hits : ∀ n, 0 ≤ hb leg day c n → hitB leg day (c (hb leg day c n).toNat) = true
  | 0, h => by simp [hb] at h
  | n + 1, h => by
    simp only [hb] at h ⊢
    split
    · next e => rw [if_pos e] at h; rw [Bool.and_eq_true] at e; rw [Int.toNat_natCast]; exact e.1
    · next e => rw [if_neg e] at h; exact hb_hits n h
theorem hb_first : ∀ n i, i < n → hitB leg day (c i) = true → 0 ≤ hb leg day c n ∧ ¬ ltF (c i) (c (hb leg day c n).toNat) ∧ ((i : Int) < hb leg day c n → ltF (c (hb leg day c n).toNat) (c i))
  | 0, i, h, _ => by omega
  | n + 1, i, h, hh => by
    simp only [hb]
    split
    · next e =>
      rw [Bool.and_eq_true] at e
      rw [Int.toNat_natCast]
      refine ⟨Int.natCast_nonneg n, ?_⟩
      by_cases hi : i = n
      · subst hi
        refine ⟨by unfold ltF; omega, fun h9 => by omega⟩
      · obtain ⟨h1, h2, h3⟩ := hb_first n i (by omega) hh
        have e2 := e.2
        unfold olderB at e2
        rw [Bool.or_eq_true, decide_eq_true_eq] at e2
        have e3 := lexB_iff.1 (e2.resolve_left (by omega))
        unfold ltF at h2 h3 e3 ⊢
        constructor
        · omega
        · intro _; omega
    · next e =>
      by_cases hi : i = n
      · subst hi
        rw [Bool.and_eq_true] at e
        have e2 : ¬ olderB (c i) (hb leg day c i) c = true := fun h9 => e ⟨hh, h9⟩
        unfold olderB at e2
        rw [Bool.or_eq_true, decide_eq_true_eq, lexB_iff] at e2
        have hb9 := hb_bd (leg := leg) (day := day) (c := c) i
        refine ⟨by omega, fun h9 => e2 (.inr h9), fun h9 => by omega⟩
      · exact hb_first n i (by omega) hh
end
section
variable {c : Nat → (Nat → Int) × Bool} {n : Nat}
end
end Go.Proofs.YtmonkjnfjgidbaaGreatDoor
