/-
  Part 13 of the proof of tollBarred_holds: declarations of several texts, in build order. No condition on a program.
-/
import Derived.Test.YtmonkjnfjgidbaaGreatDoorBa12
namespace Go.Proofs.YtmonkjnfjgidbaaGreatDoor
set_option linter.all false
set_option linter.unusedVariables false
set_option linter.unusedSimpArgs false
open Go.RowKit
theorem ex_succ {n : Nat} {p : Nat → Bool} : exB (n + 1) p = (exB n p || p n) := by
  unfold exB
  rw [allB_succ]
  cases allB n (fun k => !p k) <;> cases p n <;> rfl
def cloP (Z : Cus) (leg day : Int) (k : Nat) : Bool := decide (Z.b k 0 = leg) && inB5 (Z.b k 1) (Z.b k 2) day
theorem clo_ex {Z : Cus} {leg day : Int} : exB Z.nb (cloP Z leg day) = closZ Z leg day := rfl
def foeV (d : Nat → Int) (tr : Int) : Int := if d 1 = tr then d 0 else if d 0 = tr then d 1 else -1
def hatP (Z : Cus) (T : Trp) (tr day : Int) (k : Nat) : Bool := inB5 (Z.d k 2) (Z.d k 3) day && (hasB T.o T.no (foeV (Z.d k) tr) || hasB T.u T.nu (foeV (Z.d k) tr))
theorem foe_iff {d : Nat → Int} {tr who : Int} (h : 0 ≤ who) : who = foeV d tr ↔ d 0 = who ∧ d 1 = tr ∨ d 0 = tr ∧ d 1 = who := by
  unfold foeV
  split
  · omega
  · split <;> omega
theorem trp_nn {T : Trp} (h : trpOk T = true) : (∀ k, k < T.no → 0 ≤ T.o k ∧ T.o k ≤ 7) ∧ (∀ k, k < T.nu → 0 ≤ T.u k ∧ T.u k ≤ 7) ∧ ∀ k, k < T.nv → 0 ≤ T.v k ∧ T.v k ≤ 7 := by
  unfold trpOk at h
  simp only [Bool.and_eq_true] at h
  have key : ∀ {v : Nat → Int} {n : Nat}, triOk v n = true → ∀ k, k < n → 0 ≤ v k ∧ v k ≤ 7 := fun h k hk => by
    have := tri_up h k hk; omega
  exact ⟨key h.1.1.2, key h.1.2, key h.2⟩
theorem hat_law {Z : Cus} {T : Trp} {leg day : Int} (ht : trpOk T = true) (hol : 0 ≤ holZ Z leg day) : exB Z.nd (hatP Z T ((hclO Z leg day).1 1) day) = hatZ Z T leg day := by
  obtain ⟨ho, hu, _⟩ := trp_nn ht
  have e : (hclO Z leg day).1 1 = (hclZ Z leg day).1 1 := by unfold hclO; rw [if_pos hol]
  rw [e]
  unfold hatZ
  rw [decide_eq_true hol, Bool.true_and, Bool.eq_iff_iff, exB_iff, exB_iff]
  constructor
  · rintro ⟨k, hk, h⟩
    unfold hatP at h
    rw [Bool.and_eq_true, Bool.or_eq_true, has_iff, has_iff] at h
    obtain ⟨h1, h2⟩ := h
    have fin : ∀ {i : Nat}, i < T.no + T.nu → peoA T i = foeV (Z.d k) ((hclZ Z leg day).1 1) → 0 ≤ peoA T i → ∃ i, i < T.no + T.nu ∧ feuZ Z (peoA T i) ((hclZ Z leg day).1 1) day = true := fun {i} hi e h0 => by
      refine ⟨i, hi, ?_⟩
      unfold feuZ
      rw [exB_iff]
      refine ⟨k, hk, ?_⟩
      unfold feuR
      have := (foe_iff (d := Z.d k) (tr := (hclZ Z leg day).1 1) h0).1 e
      rw [h1]
      simp only [Bool.true_and, Bool.or_eq_true, Bool.and_eq_true, decide_eq_true_eq]
      exact this
    rcases h2 with ⟨i, hi, e2⟩ | ⟨i, hi, e2⟩
    · have e3 : peoA T i = T.o i := by unfold peoA; rw [if_pos hi]
      exact fin (i := i) (by omega) (by rw [e3, e2]) (by rw [e3]; exact (ho i hi).1)
    · have e3 : peoA T (T.no + i) = T.u i := by unfold peoA; rw [if_neg (by omega), show T.no + i - T.no = i by omega]
      exact fin (i := T.no + i) (by omega) (by rw [e3, e2]) (by rw [e3]; exact (hu i hi).1)
  · rintro ⟨i, hi, h⟩
    unfold feuZ at h
    rw [exB_iff] at h
    obtain ⟨k, hk, h⟩ := h
    refine ⟨k, hk, ?_⟩
    unfold feuR at h
    simp only [Bool.or_eq_true, Bool.and_eq_true, decide_eq_true_eq] at h
    have h0 : 0 ≤ peoA T i := by
      unfold peoA
      split
      · next hlt => exact (ho i hlt).1
      · exact (hu (i - T.no) (by omega)).1
    have h2 := (foe_iff (d := Z.d k) (tr := (hclZ Z leg day).1 1) h0).2 h.2
    unfold hatP
    rw [Bool.and_eq_true, Bool.or_eq_true, has_iff, has_iff]
    refine ⟨h.1, ?_⟩
    unfold peoA at h2
    by_cases hlt : i < T.no
    · rw [if_pos hlt] at h2; exact .inl ⟨i, hlt, h2⟩
    · rw [if_neg hlt] at h2; exact .inr ⟨i - T.no, by omega, h2⟩
theorem hat_none {Z : Cus} {T : Trp} {leg day : Int} (h : ¬ 0 ≤ holZ Z leg day) : hatZ Z T leg day = false ∧ losZ Z T leg day = false := by
  unfold hatZ losZ
  rw [decide_eq_false h]
  exact ⟨rfl, rfl⟩
theorem los_some {Z : Cus} {T : Trp} {leg day : Int} (h : 0 ≤ holZ Z leg day) : ((hclO Z leg day).2 && !hasB T.u T.nu ((hclO Z leg day).1 1)) = losZ Z T leg day := by
  unfold losZ hclO
  rw [if_pos h, decide_eq_true h]
  rfl
def brkV (Z : Cus) (T : Trp) (leg day : Int) : List Value := [.bool false, .bool (closZ Z leg day), .bool (hatZ Z T leg day), .bool (losZ Z T leg day)]
section
variable {Z : Cus} {T : Trp} {C D B O U V : Option Addr} {cc cd cb co cu cv : Nat} {w : World}
set_option maxRecDepth 100000 in
set_option maxHeartbeats 2000000 in
theorem lBroken_any (leg day : Int) (htr : trpOk T = true) (h : CustIn w C Z.nc D Z.nd B Z.nb Z.c Z.d Z.b) (t : TrpIn w T O U V) :
    Calls Tryz.prog 32 #[.agg (custL C Z.nc cc D Z.nd cd B Z.nb cb).toArray, .agg (troopL T.hd T.wo O T.no co U T.nu cu V T.nv cv).toArray, .int .i64 leg, .int .i64 day] w (Ret w (.agg (brkV Z T leg day).toArray)) := by
  have hRD := h.hD
  have hRB := h.hB
  have h2 := h.hnd
  have h3 := h.hnb
  have hRO := t.hO
  have hRU := t.hU
  have hno := t.hno
  have hnu := t.hnu
  have fH := fun (w' : World) (h' : CustIn w' C Z.nc D Z.nd B Z.nb Z.c Z.d Z.b) => lHost_any (cc := cc) (cd := cd) (cb := cb) leg day h'
  unfold custL at fH
  unfold custL troopL
  refine K_enter (S := []) (K := []) Tryz.func32 rfl Tryz.ntmps32 rfl (Sat.start _) ?_
  refine TW.seq fun Y1 hY1 => ?_
  refine TW.region ?_
  refine TL.m Mk.bx ?_
  intro b1
  refine TL.m Mk.bx ?_
  intro b2
  refine TL.m (Mk.al ty_zr67) ?_
  intro b3
  refine TL.nil ?_
  refine TQ.thenN (hY1 _ _ ?_)
  refine TW.seq fun Y2 hY2 => ?_
  refine TW.region ?_
  refine TL.m (Mk.al ty_zr67) ?_
  intro b4
  refine TL.nil ?_
  refine TQ.thenN (hY2 _ _ ?_)
  refine TW.seq fun Y3 hY3 => ?_
  refine TW.seq fun Y4 hY4 => ?_
  refine TW.region ?_
  refine TL.p (by first | exact Pu.fb ty_fa30_2 | exact Pu.fe ty_fa30_2) ?_
  refine TL.p (Pu.ld ty_sc28) ?_
  refine TL.p (Pu.ln Tryz.underlying28) ?_
  refine TL.p Pu.mv ?_
  refine TL.nil ?_
  refine TQ.thenN (hY4 _ _ ?_)
  refine TW.block ?_
  refine TW.loop1 (fun (k : Nat) => [(20, .int .i64 (k : Int)), (19, .int .i64 (Z.nb : Int)), (18, .slice B Z.nb cb), (2, .int .i64 leg), (3, .int .i64 day), (4, .pointer (some ⟨b1, 0, none⟩)), (5, .pointer (some ⟨b2, 0, none⟩)), (8, .pointer (some ⟨b3, 0, none⟩)), (9, .pointer (some ⟨b4, 0, none⟩))]) (fun k => [.blk b4 67 [.bool false, .bool (exB k (cloP Z leg day)), .bool false, .bool false], .blk b3 67 [.bool false, .bool false, .bool false, .bool false], .blk b1 30 [.slice C Z.nc cc, .slice D Z.nd cd, .slice B Z.nb cb], .blk b2 33 [.int .i64 T.hd, .int .i64 T.wo, .slice O T.no co, .slice U T.nu cu, .slice V T.nv cv]]) (fun k => k ≤ Z.nb) (fun k => Z.nb - k) 0 fs9 ?_ ?_ ?_
  exact ks9
  exact Nat.zero_le _
  rintro k hk Z0 hZ0
  refine TW.seq fun Y5 hY5 => ?_
  refine TW.region ?_
  refine TL.p Pu.lt ?_
  refine TL.nil ?_
  refine TQ.thenN (hY5 _ _ ?_)
  refine TW.seq fun Y6 hY6 => ?_
  refine TW.cond rfl (fun hc0 => ?_) (fun hc0 => ?_)
  try simp only [decide_eq_true_eq, decide_eq_false_iff_not, Bool.not_eq_true', Bool.not_eq_false', Bool.and_eq_true, Bool.or_eq_true, Bool.and_eq_false_iff, Bool.or_eq_false_iff, Int.not_lt, Int.not_le] at hc0
  have hkn : k < Z.nb := by omega
  refine TW.skip ?_
  refine TQ.thenN (hY6 _ _ ?_)
  refine TW.seq fun Y7 hY7 => ?_
  refine TW.block ?_
  refine TW.seq fun Y8 hY8 => ?_
  refine TW.region ?_
  refine TL.p (Pu.el ty_et28) ?_
  refine TL.p (Pu.lds ty_ag75) ?_
  refine TL.m (Mk.al ty_zr75) ?_
  intro b5
  first | refine TL.st ty_sz75 ?_ | refine TL.se ty_sz75 ?_
  refine TL.nil ?_
  refine TQ.thenN (hY8 _ _ ?_)
  refine TW.region ?_
  refine TL.p (Pu.ec (q := 1) ty_ar67) ?_
  refine TL.mid 20 [(43, .bool (exB k (cloP Z leg day) || cloP Z leg day k))] ?_ (fun hM1 => ?_)
  simp only [List.toList_toArray, List.drop_succ_cons, List.drop_zero]
  refine TL.p (Pu.ec (q := 1) ty_ar67) ?_
  first | refine TL.st ty_sz4 ?_ | refine TL.se ty_sz4 ?_
  refine TL.nil ?_
  refine TQ.blkN ?_
  refine TQ.thenN (hY7 _ _ ?_)
  refine TW.region ?_
  refine TL.p Pu.ad ?_
  refine TL.p Pu.mv ?_
  refine TL.nil ?_
  refine TQ.thenN (hZ0 (k + 1) _ _ ?_ ?_ fs9 ?_)
  exact (by omega)
  exact (by first | omega | (simp only []; omega) | (simp; omega))
  exact KSub.blkE pk9 (by rw [ex_succ]) ks9
  refine TL.p (Pu.ld ty_sc4) ?_
  refine TL.p Pu.mv ?_
  refine TL.guard (t := 26) rfl (fun hg1 => ?_) (fun hg1 => ?_)
  try simp only [decide_eq_true_eq, decide_eq_false_iff_not, Bool.not_eq_true', Bool.not_eq_false', Int.natCast_pos] at hg1
  refine TL.gs ?_
  refine TL.gs ?_
  refine TL.gs ?_
  refine TL.gs ?_
  refine TL.gs ?_
  refine TL.gs ?_
  refine TL.gs ?_
  refine TL.gs ?_
  refine TL.gs ?_
  refine TL.gs ?_
  refine TL.gs ?_
  refine TL.gs ?_
  refine TL.gs ?_
  refine TL.gs ?_
  refine TL.gs ?_
  refine TL.gs ?_
  refine TL.p Pu.kt ?_
  exact TL.sub (by repeat (first | exact trivial | refine ⟨rfl, ?_⟩ | refine ⟨trivial, ?_⟩ | refine ⟨(by show some (Value.bool _) = some (Value.bool _); first | (simp [hg1, cloP, inB5]; done) | (refine congrArg (fun z => some (Value.bool z)) (Bool.eq_iff_iff.2 ?_); simp [hg1, cloP, inB5]; omega)), ?_⟩)) ks9 hM1
  try simp only [decide_eq_true_eq, decide_eq_false_iff_not, Bool.not_eq_true', Bool.not_eq_false', Int.natCast_pos] at hg1
  refine TL.gd (by first | exact Pu.fb ty_fa75_0 | exact Pu.fe ty_fa75_0) ?_
  refine TL.gd (Pu.ld ty_sc3) ?_
  refine TL.gd Pu.mv ?_
  refine TL.gd Pu.eq ?_
  refine TL.gd Pu.mv ?_
  refine TL.guard (t := 31) rfl (fun hg2 => ?_) (fun hg2 => ?_)
  try simp only [decide_eq_true_eq, decide_eq_false_iff_not, Bool.not_eq_true', Bool.not_eq_false', Int.natCast_pos] at hg2
  refine TL.gd Pu.mv ?_
  refine TL.gd (by first | exact Pu.fb ty_fa75_1 | exact Pu.fe ty_fa75_1) ?_
  refine TL.gd (Pu.ld ty_sc3) ?_
  refine TL.gd Pu.ge ?_
  refine TL.gd Pu.kt ?_
  refine TL.gd Pu.mv ?_
  refine TL.guard (t := 37) rfl (fun hg3 => ?_) (fun hg3 => ?_)
  try simp only [decide_eq_true_eq, decide_eq_false_iff_not, Bool.not_eq_true', Bool.not_eq_false', Int.natCast_pos] at hg3
  refine TL.gd Pu.mv ?_
  refine TL.gd (by first | exact Pu.fb ty_fa75_2 | exact Pu.fe ty_fa75_2) ?_
  refine TL.gd (Pu.ld ty_sc3) ?_
  refine TL.gd Pu.le ?_
  refine TL.gd Pu.kt ?_
  refine TL.p Pu.kf ?_
  exact TL.sub (by repeat (first | exact trivial | refine ⟨rfl, ?_⟩ | refine ⟨trivial, ?_⟩ | refine ⟨(by show some (Value.bool _) = some (Value.bool _); first | (simp [hg1, hg2, hg3, cloP, inB5]; done) | (refine congrArg (fun z => some (Value.bool z)) (Bool.eq_iff_iff.2 ?_); simp [hg1, hg2, hg3, cloP, inB5]; omega)), ?_⟩)) ks9 hM1
  try simp only [decide_eq_true_eq, decide_eq_false_iff_not, Bool.not_eq_true', Bool.not_eq_false', Int.natCast_pos] at hg3
  refine TL.gs ?_
  refine TL.gs ?_
  refine TL.gs ?_
  refine TL.gs ?_
  refine TL.gd Pu.kf ?_
  refine TL.p Pu.kf ?_
  exact TL.sub (by repeat (first | exact trivial | refine ⟨rfl, ?_⟩ | refine ⟨trivial, ?_⟩ | refine ⟨(by show some (Value.bool _) = some (Value.bool _); first | (simp [hg1, hg2, hg3, cloP, inB5]; done) | (refine congrArg (fun z => some (Value.bool z)) (Bool.eq_iff_iff.2 ?_); simp [hg1, hg2, hg3, cloP, inB5]; omega)), ?_⟩)) ks9 hM1
  try simp only [decide_eq_true_eq, decide_eq_false_iff_not, Bool.not_eq_true', Bool.not_eq_false', Int.natCast_pos] at hg2
  refine TL.gs ?_
  refine TL.gs ?_
  refine TL.gs ?_
  refine TL.gs ?_
  refine TL.gd Pu.kf ?_
  refine TL.gd Pu.mv ?_
  refine TL.gs ?_
  refine TL.gs ?_
  refine TL.gs ?_
  refine TL.gs ?_
  refine TL.gd Pu.kf ?_
  refine TL.p Pu.kf ?_
  exact TL.sub (by repeat (first | exact trivial | refine ⟨rfl, ?_⟩ | refine ⟨trivial, ?_⟩ | refine ⟨(by show some (Value.bool _) = some (Value.bool _); first | (simp [hg1, hg2, cloP, inB5]; done) | (refine congrArg (fun z => some (Value.bool z)) (Bool.eq_iff_iff.2 ?_); simp [hg1, hg2, cloP, inB5]; omega)), ?_⟩)) ks9 hM1
  try simp only [decide_eq_true_eq, decide_eq_false_iff_not, Bool.not_eq_true', Bool.not_eq_false', Bool.and_eq_true, Bool.or_eq_true, Bool.and_eq_false_iff, Bool.or_eq_false_iff, Int.not_lt, Int.not_le] at hc0
  obtain rfl : k = Z.nb := by omega
  simp only [clo_ex]
  refine TW.exit ?_
  refine TQ.thenX ?_
  refine TQ.thenX ?_
  refine TQ.blkX ?_
  refine TQ.thenN (hY3 _ _ ?_)
  refine TW.seq fun Y9 hY9 => ?_
  refine TW.region ?_
  refine TL.p (Pu.lds ty_ag30) ?_
  refine TL.p Pu.mv ?_
  refine TL.p Pu.mv ?_
  refine TL.cr rfl (enters Tryz.func34 rfl rfl) (fun w hw => by
      exact fH _ (h.ext (Chg.ext hw.chg))) ?_
  refine TL.p Pu.mv ?_
  refine TL.p Pu.ex ?_
  refine TL.p Pu.ex ?_
  refine TL.m (Mk.al ty_zr71) ?_
  intro b6
  first | refine TL.st ty_sz71 ?_ | refine TL.se ty_sz71 ?_
  refine TL.p Pu.as ?_
  refine TL.nil ?_
  refine TQ.thenN (hY9 _ _ ?_)
  refine TW.seq fun Y10 hY10 => ?_
  refine TW.seq fun Y11 hY11 => ?_
  refine TW.region ?_
  refine TL.p Pu.mv ?_
  refine TL.p Pu.no ?_
  refine TL.nil ?_
  refine TQ.thenN (hY11 _ _ ?_)
  refine TW.cond rfl (fun hc1 => ?_) (fun hc1 => ?_)
  try simp only [decide_eq_true_eq, decide_eq_false_iff_not, Bool.not_eq_true', Bool.not_eq_false', Bool.and_eq_true, Bool.or_eq_true, Bool.and_eq_false_iff, Bool.or_eq_false_iff, Int.not_lt, Int.not_le] at hc1
  have hh : ¬ 0 ≤ holZ Z leg day := by omega
  refine TW.seq fun Y12 hY12 => ?_
  refine TW.region ?_
  refine TL.p (Pu.lds ty_ag67) ?_
  first | refine TL.st ty_sz67 ?_ | refine TL.se ty_sz67 ?_
  refine TL.nil ?_
  refine TQ.thenN (hY12 _ _ ?_)
  refine TW.ret ?_
  refine TQ.thenR ?_
  refine TQ.ret Tryz.results32 rfl ((RV.cs ty_ag67 .nil)) ?_
  exact fun w hw => ⟨by unfold brkV; rw [(hat_none hh).1, (hat_none hh).2]; rfl, Chg.ext hw.chg⟩
  try simp only [decide_eq_true_eq, decide_eq_false_iff_not, Bool.not_eq_true', Bool.not_eq_false', Bool.and_eq_true, Bool.or_eq_true, Bool.and_eq_false_iff, Bool.or_eq_false_iff, Int.not_lt, Int.not_le] at hc1
  have hh : 0 ≤ holZ Z leg day := by omega
  obtain ⟨y, hy⟩ : ∃ y, y = hclO Z leg day := ⟨_, rfl⟩
  have hat9 := hidT (hat_law (Z := Z) (T := T) (leg := leg) (day := day) htr hh)
  have los9 := hidT (los_some (Z := Z) (T := T) (leg := leg) (day := day) hh)
  rw [← hy] at hat9 los9 ⊢
  clear hy
  refine TW.skip ?_
  refine TQ.thenN (hY10 _ _ ?_)
  refine TW.seq fun Y13 hY13 => ?_
  refine TW.seq fun Y14 hY14 => ?_
  refine TW.region ?_
  refine TL.p (by first | exact Pu.fb ty_fa30_1 | exact Pu.fe ty_fa30_1) ?_
  refine TL.p (Pu.ld ty_sc27) ?_
  refine TL.p (Pu.ln Tryz.underlying27) ?_
  refine TL.p Pu.mv ?_
  refine TL.nil ?_
  refine TQ.thenN (hY14 _ _ ?_)
  refine TW.block ?_
  refine TW.loop1 (fun (k : Nat) => [(59, .int .i64 (k : Int)), (58, .int .i64 (Z.nd : Int)), (57, .slice D Z.nd cd), (2, .int .i64 leg), (3, .int .i64 day), (4, .pointer (some ⟨b1, 0, none⟩)), (5, .pointer (some ⟨b2, 0, none⟩)), (8, .pointer (some ⟨b3, 0, none⟩)), (9, .pointer (some ⟨b4, 0, none⟩)), (12, .pointer (some ⟨b6, 0, none⟩))]) (fun k => [.blk b4 67 [.bool false, .bool (closZ Z leg day), .bool (exB k (hatP Z T (y.1 1) day)), .bool false], .blk b6 71 (claimL y), .blk b3 67 [.bool false, .bool false, .bool false, .bool false], .blk b1 30 [.slice C Z.nc cc, .slice D Z.nd cd, .slice B Z.nb cb], .blk b2 33 [.int .i64 T.hd, .int .i64 T.wo, .slice O T.no co, .slice U T.nu cu, .slice V T.nv cv]]) (fun k => k ≤ Z.nd) (fun k => Z.nd - k) 0 fs9 ?_ ?_ ?_
  exact ks9
  exact Nat.zero_le _
  rintro k hk Z1 hZ1
  refine TW.seq fun Y15 hY15 => ?_
  refine TW.region ?_
  refine TL.p Pu.lt ?_
  refine TL.nil ?_
  refine TQ.thenN (hY15 _ _ ?_)
  refine TW.seq fun Y16 hY16 => ?_
  refine TW.cond rfl (fun hc2 => ?_) (fun hc2 => ?_)
  try simp only [decide_eq_true_eq, decide_eq_false_iff_not, Bool.not_eq_true', Bool.not_eq_false', Bool.and_eq_true, Bool.or_eq_true, Bool.and_eq_false_iff, Bool.or_eq_false_iff, Int.not_lt, Int.not_le] at hc2
  have hkn : k < Z.nd := by omega
  refine TW.skip ?_
  refine TQ.thenN (hY16 _ _ ?_)
  refine TW.seq fun Y17 hY17 => ?_
  refine TW.block ?_
  refine TW.seq fun Y18 hY18 => ?_
  refine TW.region ?_
  refine TL.p (Pu.el ty_et27) ?_
  refine TL.p (Pu.lds ty_ag73) ?_
  refine TL.m (Mk.al ty_zr73) ?_
  intro b7
  first | refine TL.st ty_sz73 ?_ | refine TL.se ty_sz73 ?_
  refine TL.nil ?_
  refine TQ.thenN (hY18 _ _ ?_)
  refine TW.seq fun Y19 hY19 => ?_
  refine TW.join [(72, .bool (inB5 (Z.d k 2) (Z.d k 3) day))] ?_ (fun hJ1 => ?_)
  refine TQ.thenN (hY19 _ _ ?_)
  refine TW.cond rfl (fun hc3 => ?_) (fun hc3 => ?_)
  try simp only [decide_eq_true_eq, decide_eq_false_iff_not, Bool.not_eq_true', Bool.not_eq_false', Bool.and_eq_true, Bool.or_eq_true, Bool.and_eq_false_iff, Bool.or_eq_false_iff, Int.not_lt, Int.not_le] at hc3
  have hin := hidT (show inB5 (Z.d k 2) (Z.d k 3) day = true by first | exact hc3 | (simpa using hc3))
  refine TW.seq fun Y20 hY20 => ?_
  refine TW.region ?_
  refine TL.p Pu.as ?_
  refine TL.nil ?_
  refine TQ.thenN (hY20 _ _ ?_)
  refine TW.seq fun Y21 hY21 => ?_
  refine TW.seq fun Y22 hY22 => ?_
  refine TW.region ?_
  refine TL.p (by first | exact Pu.fb ty_fa73_0 | exact Pu.fe ty_fa73_0) ?_
  refine TL.p (Pu.ld ty_sc3) ?_
  refine TL.p (by first | exact Pu.fb ty_fa71_1 | exact Pu.fe ty_fa71_1) ?_
  refine TL.p (Pu.ld ty_sc3) ?_
  refine TL.p Pu.eq ?_
  refine TL.nil ?_
  refine TQ.thenN (hY22 _ _ ?_)
  refine TW.cond rfl (fun hc4 => ?_) (fun hc4 => ?_)
  try simp only [decide_eq_true_eq, decide_eq_false_iff_not, Bool.not_eq_true', Bool.not_eq_false', Bool.and_eq_true, Bool.or_eq_true, Bool.and_eq_false_iff, Bool.or_eq_false_iff, Int.not_lt, Int.not_le] at hc4
  refine TW.region ?_
  refine TL.p (by first | exact Pu.fb ty_fa73_1 | exact Pu.fe ty_fa73_1) ?_
  refine TL.p (Pu.ld ty_sc3) ?_
  refine TL.p Pu.as ?_
  refine TL.nil ?_
  refine TQ.thenN (hY21 _ _ ?_)
  refine TW.seq fun Y23 hY23 => ?_
  refine TW.seq fun Y24 hY24 => ?_
  refine TW.region ?_
  refine TL.p (by first | exact Pu.fb ty_fa73_1 | exact Pu.fe ty_fa73_1) ?_
  refine TL.p (Pu.ld ty_sc3) ?_
  refine TL.p (by first | exact Pu.fb ty_fa71_1 | exact Pu.fe ty_fa71_1) ?_
  refine TL.p (Pu.ld ty_sc3) ?_
  refine TL.p Pu.eq ?_
  refine TL.nil ?_
  refine TQ.thenN (hY24 _ _ ?_)
  refine TW.cond rfl (fun hc5 => ?_) (fun hc5 => ?_)
  try simp only [decide_eq_true_eq, decide_eq_false_iff_not, Bool.not_eq_true', Bool.not_eq_false', Bool.and_eq_true, Bool.or_eq_true, Bool.and_eq_false_iff, Bool.or_eq_false_iff, Int.not_lt, Int.not_le] at hc5
  have hst := hidT (show (exB k (hatP Z T (y.1 1) day) || (hasB T.o T.no (Z.d k 0) || hasB T.u T.nu (Z.d k 0))) = exB (k + 1) (hatP Z T (y.1 1) day) by
    rw [ex_succ]
    show _ = (exB k (hatP Z T (y.1 1) day) || (inB5 (Z.d k 2) (Z.d k 3) day && (hasB T.o T.no (foeV (Z.d k) (y.1 1)) || hasB T.u T.nu (foeV (Z.d k) (y.1 1)))))
    rw [hin.out, Bool.true_and, show foeV (Z.d k) (y.1 1) = Z.d k 0 by unfold foeV; rw [if_pos hc5]])
  refine TW.region ?_
  refine TL.p (by first | exact Pu.fb ty_fa73_0 | exact Pu.fe ty_fa73_0) ?_
  refine TL.p (Pu.ld ty_sc3) ?_
  refine TL.p Pu.as ?_
  refine TL.nil ?_
  refine TQ.thenN (hY23 _ _ ?_)
  refine TW.region ?_
  refine TL.p (Pu.ec (q := 2) ty_ar67) ?_
  refine TL.mid 14 [(100, .bool (exB (k + 1) (hatP Z T (y.1 1) day)))] ?_ (fun hM2 => ?_)
  simp only [List.toList_toArray, List.drop_succ_cons, List.drop_zero]
  refine TL.p (Pu.ec (q := 2) ty_ar67) ?_
  first | refine TL.st ty_sz4 ?_ | refine TL.se ty_sz4 ?_
  refine TL.nil ?_
  refine TQ.blkN ?_
  refine TQ.thenN (hY17 _ _ ?_)
  refine TW.region ?_
  refine TL.p Pu.ad ?_
  refine TL.p Pu.mv ?_
  refine TL.nil ?_
  refine TQ.thenN (hZ1 (k + 1) _ _ ?_ ?_ fs9 ?_)
  exact (by omega)
  exact (by first | omega | (simp only []; omega) | (simp; omega))
  first
    | exact KSub.blkE pk9 (congrArg (fun z => [Value.bool false, .bool (closZ Z leg day), .bool z, .bool false]) hsn.out) ks9
    | exact ks9
  refine TL.p (Pu.ld ty_sc4) ?_
  refine TL.p Pu.mv ?_
  refine TL.guard (t := 89) rfl (fun hg4 => ?_) (fun hg4 => ?_)
  try simp only [decide_eq_true_eq, decide_eq_false_iff_not, Bool.not_eq_true', Bool.not_eq_false', Int.natCast_pos] at hg4
  refine TL.gs ?_
  refine TL.gs ?_
  refine TL.gs ?_
  refine TL.gs ?_
  refine TL.p Pu.kt ?_
  refine TL.p Pu.mv ?_
  refine TL.gs ?_
  refine TL.gs ?_
  refine TL.gs ?_
  refine TL.gs ?_
  refine TL.p Pu.kt ?_
  exact TL.sub (by repeat (first | exact trivial | refine ⟨rfl, ?_⟩ | refine ⟨trivial, ?_⟩ | refine ⟨(by show some (Value.bool _) = some (Value.bool _); first | (simp [hg4, ←hst.out]; done) | (refine congrArg (fun z => some (Value.bool z)) (Bool.eq_iff_iff.2 ?_); simp [hg4, ←hst.out]; omega)), ?_⟩)) ks9 hM2
  try simp only [decide_eq_true_eq, decide_eq_false_iff_not, Bool.not_eq_true', Bool.not_eq_false', Int.natCast_pos] at hg4
  refine TL.gd (by first | exact Pu.fb ty_fa33_2 | exact Pu.fe ty_fa33_2) ?_
  refine TL.gd (Pu.ld ty_sc31) ?_
  refine TL.gd Pu.mv ?_
  refine TL.cr rfl (enters Tryz.func33 rfl rfl) (fun w hw => by
      first | exact lHas_any (v := T.o) (by omega) (hRO.sat hw Apart.nil) | exact lHas_any (v := T.u) (by omega) (hRU.sat hw Apart.nil)) ?_
  refine TL.p Pu.kf ?_
  refine TL.p Pu.mv ?_
  refine TL.guard (t := 95) rfl (fun hg5 => ?_) (fun hg5 => ?_)
  try simp only [decide_eq_true_eq, decide_eq_false_iff_not, Bool.not_eq_true', Bool.not_eq_false', Int.natCast_pos] at hg5
  refine TL.gs ?_
  refine TL.gs ?_
  refine TL.gs ?_
  refine TL.gs ?_
  refine TL.p Pu.kt ?_
  exact TL.sub (by repeat (first | exact trivial | refine ⟨rfl, ?_⟩ | refine ⟨trivial, ?_⟩ | refine ⟨(by show some (Value.bool _) = some (Value.bool _); first | (simp [hg4, hg5, ←hst.out]; done) | (refine congrArg (fun z => some (Value.bool z)) (Bool.eq_iff_iff.2 ?_); simp [hg4, hg5, ←hst.out]; omega)), ?_⟩)) ks9 hM2
  try simp only [decide_eq_true_eq, decide_eq_false_iff_not, Bool.not_eq_true', Bool.not_eq_false', Int.natCast_pos] at hg5
  refine TL.gd (by first | exact Pu.fb ty_fa33_3 | exact Pu.fe ty_fa33_3) ?_
  refine TL.gd (Pu.ld ty_sc31) ?_
  refine TL.gd Pu.mv ?_
  refine TL.cr rfl (enters Tryz.func33 rfl rfl) (fun w hw => by
      first | exact lHas_any (v := T.o) (by omega) (hRO.sat hw Apart.nil) | exact lHas_any (v := T.u) (by omega) (hRU.sat hw Apart.nil)) ?_
  refine TL.p Pu.kf ?_
  exact TL.sub (by repeat (first | exact trivial | refine ⟨rfl, ?_⟩ | refine ⟨trivial, ?_⟩ | refine ⟨(by show some (Value.bool _) = some (Value.bool _); first | (simp [hg4, hg5, ←hst.out]; done) | (refine congrArg (fun z => some (Value.bool z)) (Bool.eq_iff_iff.2 ?_); simp [hg4, hg5, ←hst.out]; omega)), ?_⟩)) ks9 hM2
  try simp only [decide_eq_true_eq, decide_eq_false_iff_not, Bool.not_eq_true', Bool.not_eq_false', Bool.and_eq_true, Bool.or_eq_true, Bool.and_eq_false_iff, Bool.or_eq_false_iff, Int.not_lt, Int.not_le] at hc5
  have hst := hidT (show (exB k (hatP Z T (y.1 1) day) || (hasB T.o T.no (if Z.d k 0 = y.1 1 then Z.d k 1 else -1) || hasB T.u T.nu (if Z.d k 0 = y.1 1 then Z.d k 1 else -1))) = exB (k + 1) (hatP Z T (y.1 1) day) by
    rw [ex_succ]
    show _ = (exB k (hatP Z T (y.1 1) day) || (inB5 (Z.d k 2) (Z.d k 3) day && (hasB T.o T.no (foeV (Z.d k) (y.1 1)) || hasB T.u T.nu (foeV (Z.d k) (y.1 1)))))
    rw [hin.out, Bool.true_and, show foeV (Z.d k) (y.1 1) = (if Z.d k 0 = y.1 1 then Z.d k 1 else -1) by unfold foeV; rw [if_neg hc5]])
  first
    | rw [if_pos hc4] at hst
    | rw [if_neg hc4] at hst
  refine TW.skip ?_
  refine TQ.thenN (hY23 _ _ ?_)
  refine TW.region ?_
  refine TL.p (Pu.ec (q := 2) ty_ar67) ?_
  refine TL.mid 14 [(100, .bool (exB (k + 1) (hatP Z T (y.1 1) day)))] ?_ (fun hM3 => ?_)
  simp only [List.toList_toArray, List.drop_succ_cons, List.drop_zero]
  refine TL.p (Pu.ec (q := 2) ty_ar67) ?_
  first | refine TL.st ty_sz4 ?_ | refine TL.se ty_sz4 ?_
  refine TL.nil ?_
  refine TQ.blkN ?_
  refine TQ.thenN (hY17 _ _ ?_)
  refine TW.region ?_
  refine TL.p Pu.ad ?_
  refine TL.p Pu.mv ?_
  refine TL.nil ?_
  refine TQ.thenN (hZ1 (k + 1) _ _ ?_ ?_ fs9 ?_)
  exact (by omega)
  exact (by first | omega | (simp only []; omega) | (simp; omega))
  first
    | exact KSub.blkE pk9 (congrArg (fun z => [Value.bool false, .bool (closZ Z leg day), .bool z, .bool false]) hsn.out) ks9
    | exact ks9
  refine TL.p (Pu.ld ty_sc4) ?_
  refine TL.p Pu.mv ?_
  refine TL.guard (t := 89) rfl (fun hg6 => ?_) (fun hg6 => ?_)
  try simp only [decide_eq_true_eq, decide_eq_false_iff_not, Bool.not_eq_true', Bool.not_eq_false', Int.natCast_pos] at hg6
  refine TL.gs ?_
  refine TL.gs ?_
  refine TL.gs ?_
  refine TL.gs ?_
  refine TL.p Pu.kt ?_
  refine TL.p Pu.mv ?_
  refine TL.gs ?_
  refine TL.gs ?_
  refine TL.gs ?_
  refine TL.gs ?_
  refine TL.p Pu.kt ?_
  exact TL.sub (by repeat (first | exact trivial | refine ⟨rfl, ?_⟩ | refine ⟨trivial, ?_⟩ | refine ⟨(by show some (Value.bool _) = some (Value.bool _); first | (simp [hg6, ←hst.out]; done) | (refine congrArg (fun z => some (Value.bool z)) (Bool.eq_iff_iff.2 ?_); simp [hg6, ←hst.out]; omega)), ?_⟩)) ks9 hM3
  try simp only [decide_eq_true_eq, decide_eq_false_iff_not, Bool.not_eq_true', Bool.not_eq_false', Int.natCast_pos] at hg6
  refine TL.gd (by first | exact Pu.fb ty_fa33_2 | exact Pu.fe ty_fa33_2) ?_
  refine TL.gd (Pu.ld ty_sc31) ?_
  refine TL.gd Pu.mv ?_
  refine TL.cr rfl (enters Tryz.func33 rfl rfl) (fun w hw => by
      first | exact lHas_any (v := T.o) (by omega) (hRO.sat hw Apart.nil) | exact lHas_any (v := T.u) (by omega) (hRU.sat hw Apart.nil)) ?_
  refine TL.p Pu.kf ?_
  refine TL.p Pu.mv ?_
  refine TL.guard (t := 95) rfl (fun hg7 => ?_) (fun hg7 => ?_)
  try simp only [decide_eq_true_eq, decide_eq_false_iff_not, Bool.not_eq_true', Bool.not_eq_false', Int.natCast_pos] at hg7
  refine TL.gs ?_
  refine TL.gs ?_
  refine TL.gs ?_
  refine TL.gs ?_
  refine TL.p Pu.kt ?_
  exact TL.sub (by repeat (first | exact trivial | refine ⟨rfl, ?_⟩ | refine ⟨trivial, ?_⟩ | refine ⟨(by show some (Value.bool _) = some (Value.bool _); first | (simp [hg6, hg7, ←hst.out]; done) | (refine congrArg (fun z => some (Value.bool z)) (Bool.eq_iff_iff.2 ?_); simp [hg6, hg7, ←hst.out]; omega)), ?_⟩)) ks9 hM3
  try simp only [decide_eq_true_eq, decide_eq_false_iff_not, Bool.not_eq_true', Bool.not_eq_false', Int.natCast_pos] at hg7
  refine TL.gd (by first | exact Pu.fb ty_fa33_3 | exact Pu.fe ty_fa33_3) ?_
  refine TL.gd (Pu.ld ty_sc31) ?_
  refine TL.gd Pu.mv ?_
  refine TL.cr rfl (enters Tryz.func33 rfl rfl) (fun w hw => by
      first | exact lHas_any (v := T.o) (by omega) (hRO.sat hw Apart.nil) | exact lHas_any (v := T.u) (by omega) (hRU.sat hw Apart.nil)) ?_
  refine TL.p Pu.kf ?_
  exact TL.sub (by repeat (first | exact trivial | refine ⟨rfl, ?_⟩ | refine ⟨trivial, ?_⟩ | refine ⟨(by show some (Value.bool _) = some (Value.bool _); first | (simp [hg6, hg7, ←hst.out]; done) | (refine congrArg (fun z => some (Value.bool z)) (Bool.eq_iff_iff.2 ?_); simp [hg6, hg7, ←hst.out]; omega)), ?_⟩)) ks9 hM3
  try simp only [decide_eq_true_eq, decide_eq_false_iff_not, Bool.not_eq_true', Bool.not_eq_false', Bool.and_eq_true, Bool.or_eq_true, Bool.and_eq_false_iff, Bool.or_eq_false_iff, Int.not_lt, Int.not_le] at hc4
  refine TW.skip ?_
  refine TQ.thenN (hY21 _ _ ?_)
  refine TW.seq fun Y25 hY25 => ?_
  refine TW.seq fun Y26 hY26 => ?_
  refine TW.region ?_
  refine TL.p (by first | exact Pu.fb ty_fa73_1 | exact Pu.fe ty_fa73_1) ?_
  refine TL.p (Pu.ld ty_sc3) ?_
  refine TL.p (by first | exact Pu.fb ty_fa71_1 | exact Pu.fe ty_fa71_1) ?_
  refine TL.p (Pu.ld ty_sc3) ?_
  refine TL.p Pu.eq ?_
  refine TL.nil ?_
  refine TQ.thenN (hY26 _ _ ?_)
  refine TW.cond rfl (fun hc5 => ?_) (fun hc5 => ?_)
  try simp only [decide_eq_true_eq, decide_eq_false_iff_not, Bool.not_eq_true', Bool.not_eq_false', Bool.and_eq_true, Bool.or_eq_true, Bool.and_eq_false_iff, Bool.or_eq_false_iff, Int.not_lt, Int.not_le] at hc5
  have hst := hidT (show (exB k (hatP Z T (y.1 1) day) || (hasB T.o T.no (Z.d k 0) || hasB T.u T.nu (Z.d k 0))) = exB (k + 1) (hatP Z T (y.1 1) day) by
    rw [ex_succ]
    show _ = (exB k (hatP Z T (y.1 1) day) || (inB5 (Z.d k 2) (Z.d k 3) day && (hasB T.o T.no (foeV (Z.d k) (y.1 1)) || hasB T.u T.nu (foeV (Z.d k) (y.1 1)))))
    rw [hin.out, Bool.true_and, show foeV (Z.d k) (y.1 1) = Z.d k 0 by unfold foeV; rw [if_pos hc5]])
  refine TW.region ?_
  refine TL.p (by first | exact Pu.fb ty_fa73_0 | exact Pu.fe ty_fa73_0) ?_
  refine TL.p (Pu.ld ty_sc3) ?_
  refine TL.p Pu.as ?_
  refine TL.nil ?_
  refine TQ.thenN (hY25 _ _ ?_)
  refine TW.region ?_
  refine TL.p (Pu.ec (q := 2) ty_ar67) ?_
  refine TL.mid 14 [(100, .bool (exB (k + 1) (hatP Z T (y.1 1) day)))] ?_ (fun hM4 => ?_)
  simp only [List.toList_toArray, List.drop_succ_cons, List.drop_zero]
  refine TL.p (Pu.ec (q := 2) ty_ar67) ?_
  first | refine TL.st ty_sz4 ?_ | refine TL.se ty_sz4 ?_
  refine TL.nil ?_
  refine TQ.blkN ?_
  refine TQ.thenN (hY17 _ _ ?_)
  refine TW.region ?_
  refine TL.p Pu.ad ?_
  refine TL.p Pu.mv ?_
  refine TL.nil ?_
  refine TQ.thenN (hZ1 (k + 1) _ _ ?_ ?_ fs9 ?_)
  exact (by omega)
  exact (by first | omega | (simp only []; omega) | (simp; omega))
  first
    | exact KSub.blkE pk9 (congrArg (fun z => [Value.bool false, .bool (closZ Z leg day), .bool z, .bool false]) hsn.out) ks9
    | exact ks9
  refine TL.p (Pu.ld ty_sc4) ?_
  refine TL.p Pu.mv ?_
  refine TL.guard (t := 89) rfl (fun hg8 => ?_) (fun hg8 => ?_)
  try simp only [decide_eq_true_eq, decide_eq_false_iff_not, Bool.not_eq_true', Bool.not_eq_false', Int.natCast_pos] at hg8
  refine TL.gs ?_
  refine TL.gs ?_
  refine TL.gs ?_
  refine TL.gs ?_
  refine TL.p Pu.kt ?_
  refine TL.p Pu.mv ?_
  refine TL.gs ?_
  refine TL.gs ?_
  refine TL.gs ?_
  refine TL.gs ?_
  refine TL.p Pu.kt ?_
  exact TL.sub (by repeat (first | exact trivial | refine ⟨rfl, ?_⟩ | refine ⟨trivial, ?_⟩ | refine ⟨(by show some (Value.bool _) = some (Value.bool _); first | (simp [hg8, ←hst.out]; done) | (refine congrArg (fun z => some (Value.bool z)) (Bool.eq_iff_iff.2 ?_); simp [hg8, ←hst.out]; omega)), ?_⟩)) ks9 hM4
  try simp only [decide_eq_true_eq, decide_eq_false_iff_not, Bool.not_eq_true', Bool.not_eq_false', Int.natCast_pos] at hg8
  refine TL.gd (by first | exact Pu.fb ty_fa33_2 | exact Pu.fe ty_fa33_2) ?_
  refine TL.gd (Pu.ld ty_sc31) ?_
  refine TL.gd Pu.mv ?_
  refine TL.cr rfl (enters Tryz.func33 rfl rfl) (fun w hw => by
      first | exact lHas_any (v := T.o) (by omega) (hRO.sat hw Apart.nil) | exact lHas_any (v := T.u) (by omega) (hRU.sat hw Apart.nil)) ?_
  refine TL.p Pu.kf ?_
  refine TL.p Pu.mv ?_
  refine TL.guard (t := 95) rfl (fun hg9 => ?_) (fun hg9 => ?_)
  try simp only [decide_eq_true_eq, decide_eq_false_iff_not, Bool.not_eq_true', Bool.not_eq_false', Int.natCast_pos] at hg9
  refine TL.gs ?_
  refine TL.gs ?_
  refine TL.gs ?_
  refine TL.gs ?_
  refine TL.p Pu.kt ?_
  exact TL.sub (by repeat (first | exact trivial | refine ⟨rfl, ?_⟩ | refine ⟨trivial, ?_⟩ | refine ⟨(by show some (Value.bool _) = some (Value.bool _); first | (simp [hg8, hg9, ←hst.out]; done) | (refine congrArg (fun z => some (Value.bool z)) (Bool.eq_iff_iff.2 ?_); simp [hg8, hg9, ←hst.out]; omega)), ?_⟩)) ks9 hM4
  try simp only [decide_eq_true_eq, decide_eq_false_iff_not, Bool.not_eq_true', Bool.not_eq_false', Int.natCast_pos] at hg9
  refine TL.gd (by first | exact Pu.fb ty_fa33_3 | exact Pu.fe ty_fa33_3) ?_
  refine TL.gd (Pu.ld ty_sc31) ?_
  refine TL.gd Pu.mv ?_
  refine TL.cr rfl (enters Tryz.func33 rfl rfl) (fun w hw => by
      first | exact lHas_any (v := T.o) (by omega) (hRO.sat hw Apart.nil) | exact lHas_any (v := T.u) (by omega) (hRU.sat hw Apart.nil)) ?_
  refine TL.p Pu.kf ?_
  exact TL.sub (by repeat (first | exact trivial | refine ⟨rfl, ?_⟩ | refine ⟨trivial, ?_⟩ | refine ⟨(by show some (Value.bool _) = some (Value.bool _); first | (simp [hg8, hg9, ←hst.out]; done) | (refine congrArg (fun z => some (Value.bool z)) (Bool.eq_iff_iff.2 ?_); simp [hg8, hg9, ←hst.out]; omega)), ?_⟩)) ks9 hM4
  try simp only [decide_eq_true_eq, decide_eq_false_iff_not, Bool.not_eq_true', Bool.not_eq_false', Bool.and_eq_true, Bool.or_eq_true, Bool.and_eq_false_iff, Bool.or_eq_false_iff, Int.not_lt, Int.not_le] at hc5
  have hst := hidT (show (exB k (hatP Z T (y.1 1) day) || (hasB T.o T.no (if Z.d k 0 = y.1 1 then Z.d k 1 else -1) || hasB T.u T.nu (if Z.d k 0 = y.1 1 then Z.d k 1 else -1))) = exB (k + 1) (hatP Z T (y.1 1) day) by
    rw [ex_succ]
    show _ = (exB k (hatP Z T (y.1 1) day) || (inB5 (Z.d k 2) (Z.d k 3) day && (hasB T.o T.no (foeV (Z.d k) (y.1 1)) || hasB T.u T.nu (foeV (Z.d k) (y.1 1)))))
    rw [hin.out, Bool.true_and, show foeV (Z.d k) (y.1 1) = (if Z.d k 0 = y.1 1 then Z.d k 1 else -1) by unfold foeV; rw [if_neg hc5]])
  first
    | rw [if_pos hc4] at hst
    | rw [if_neg hc4] at hst
  refine TW.skip ?_
  refine TQ.thenN (hY25 _ _ ?_)
  refine TW.region ?_
  refine TL.p (Pu.ec (q := 2) ty_ar67) ?_
  refine TL.mid 14 [(100, .bool (exB (k + 1) (hatP Z T (y.1 1) day)))] ?_ (fun hM5 => ?_)
  simp only [List.toList_toArray, List.drop_succ_cons, List.drop_zero]
  refine TL.p (Pu.ec (q := 2) ty_ar67) ?_
  first | refine TL.st ty_sz4 ?_ | refine TL.se ty_sz4 ?_
  refine TL.nil ?_
  refine TQ.blkN ?_
  refine TQ.thenN (hY17 _ _ ?_)
  refine TW.region ?_
  refine TL.p Pu.ad ?_
  refine TL.p Pu.mv ?_
  refine TL.nil ?_
  refine TQ.thenN (hZ1 (k + 1) _ _ ?_ ?_ fs9 ?_)
  exact (by omega)
  exact (by first | omega | (simp only []; omega) | (simp; omega))
  first
    | exact KSub.blkE pk9 (congrArg (fun z => [Value.bool false, .bool (closZ Z leg day), .bool z, .bool false]) hsn.out) ks9
    | exact ks9
  refine TL.p (Pu.ld ty_sc4) ?_
  refine TL.p Pu.mv ?_
  refine TL.guard (t := 89) rfl (fun hg10 => ?_) (fun hg10 => ?_)
  try simp only [decide_eq_true_eq, decide_eq_false_iff_not, Bool.not_eq_true', Bool.not_eq_false', Int.natCast_pos] at hg10
  refine TL.gs ?_
  refine TL.gs ?_
  refine TL.gs ?_
  refine TL.gs ?_
  refine TL.p Pu.kt ?_
  refine TL.p Pu.mv ?_
  refine TL.gs ?_
  refine TL.gs ?_
  refine TL.gs ?_
  refine TL.gs ?_
  refine TL.p Pu.kt ?_
  exact TL.sub (by repeat (first | exact trivial | refine ⟨rfl, ?_⟩ | refine ⟨trivial, ?_⟩ | refine ⟨(by show some (Value.bool _) = some (Value.bool _); first | (simp [hg10, ←hst.out]; done) | (refine congrArg (fun z => some (Value.bool z)) (Bool.eq_iff_iff.2 ?_); simp [hg10, ←hst.out]; omega)), ?_⟩)) ks9 hM5
  try simp only [decide_eq_true_eq, decide_eq_false_iff_not, Bool.not_eq_true', Bool.not_eq_false', Int.natCast_pos] at hg10
  refine TL.gd (by first | exact Pu.fb ty_fa33_2 | exact Pu.fe ty_fa33_2) ?_
  refine TL.gd (Pu.ld ty_sc31) ?_
  refine TL.gd Pu.mv ?_
  refine TL.cr rfl (enters Tryz.func33 rfl rfl) (fun w hw => by
      first | exact lHas_any (v := T.o) (by omega) (hRO.sat hw Apart.nil) | exact lHas_any (v := T.u) (by omega) (hRU.sat hw Apart.nil)) ?_
  refine TL.p Pu.kf ?_
  refine TL.p Pu.mv ?_
  refine TL.guard (t := 95) rfl (fun hg11 => ?_) (fun hg11 => ?_)
  try simp only [decide_eq_true_eq, decide_eq_false_iff_not, Bool.not_eq_true', Bool.not_eq_false', Int.natCast_pos] at hg11
  refine TL.gs ?_
  refine TL.gs ?_
  refine TL.gs ?_
  refine TL.gs ?_
  refine TL.p Pu.kt ?_
  exact TL.sub (by repeat (first | exact trivial | refine ⟨rfl, ?_⟩ | refine ⟨trivial, ?_⟩ | refine ⟨(by show some (Value.bool _) = some (Value.bool _); first | (simp [hg10, hg11, ←hst.out]; done) | (refine congrArg (fun z => some (Value.bool z)) (Bool.eq_iff_iff.2 ?_); simp [hg10, hg11, ←hst.out]; omega)), ?_⟩)) ks9 hM5
  try simp only [decide_eq_true_eq, decide_eq_false_iff_not, Bool.not_eq_true', Bool.not_eq_false', Int.natCast_pos] at hg11
  refine TL.gd (by first | exact Pu.fb ty_fa33_3 | exact Pu.fe ty_fa33_3) ?_
  refine TL.gd (Pu.ld ty_sc31) ?_
  refine TL.gd Pu.mv ?_
  refine TL.cr rfl (enters Tryz.func33 rfl rfl) (fun w hw => by
      first | exact lHas_any (v := T.o) (by omega) (hRO.sat hw Apart.nil) | exact lHas_any (v := T.u) (by omega) (hRU.sat hw Apart.nil)) ?_
  refine TL.p Pu.kf ?_
  exact TL.sub (by repeat (first | exact trivial | refine ⟨rfl, ?_⟩ | refine ⟨trivial, ?_⟩ | refine ⟨(by show some (Value.bool _) = some (Value.bool _); first | (simp [hg10, hg11, ←hst.out]; done) | (refine congrArg (fun z => some (Value.bool z)) (Bool.eq_iff_iff.2 ?_); simp [hg10, hg11, ←hst.out]; omega)), ?_⟩)) ks9 hM5
  try simp only [decide_eq_true_eq, decide_eq_false_iff_not, Bool.not_eq_true', Bool.not_eq_false', Bool.and_eq_true, Bool.or_eq_true, Bool.and_eq_false_iff, Bool.or_eq_false_iff, Int.not_lt, Int.not_le] at hc3
  have hsn := hidT (show exB k (hatP Z T (y.1 1) day) = exB (k + 1) (hatP Z T (y.1 1) day) by
    have hin : inB5 (Z.d k 2) (Z.d k 3) day = false := by first | exact hc3 | (simpa using hc3)
    rw [ex_succ]
    unfold hatP
    rw [hin, Bool.false_and, Bool.or_false])
  refine TW.skip ?_
  refine TQ.blkN ?_
  refine TQ.thenN (hY17 _ _ ?_)
  refine TW.region ?_
  refine TL.p Pu.ad ?_
  refine TL.p Pu.mv ?_
  refine TL.nil ?_
  refine TQ.thenN (hZ1 (k + 1) _ _ ?_ ?_ fs9 ?_)
  exact (by omega)
  exact (by first | omega | (simp only []; omega) | (simp; omega))
  first
    | exact KSub.blkE pk9 (congrArg (fun z => [Value.bool false, .bool (closZ Z leg day), .bool z, .bool false]) hsn.out) ks9
    | exact ks9
  refine TW.region ?_
  refine TL.p Pu.mv ?_
  refine TL.p (by first | exact Pu.fb ty_fa73_2 | exact Pu.fe ty_fa73_2) ?_
  refine TL.p (Pu.ld ty_sc3) ?_
  refine TL.p Pu.ge ?_
  refine TL.p Pu.mv ?_
  refine TL.guard (t := 67) rfl (fun hg12 => ?_) (fun hg12 => ?_)
  try simp only [decide_eq_true_eq, decide_eq_false_iff_not, Bool.not_eq_true', Bool.not_eq_false', Int.natCast_pos] at hg12
  refine TL.gd Pu.mv ?_
  refine TL.gd (by first | exact Pu.fb ty_fa73_3 | exact Pu.fe ty_fa73_3) ?_
  refine TL.gd (Pu.ld ty_sc3) ?_
  refine TL.gd Pu.le ?_
  refine TL.p Pu.kt ?_
  refine TL.nil ?_
  exact TQ.sub (by repeat (first | exact trivial | refine ⟨rfl, ?_⟩ | refine ⟨trivial, ?_⟩ | refine ⟨(by show some (Value.bool _) = some (Value.bool _); first | (simp [hg12, inB5]; done) | (refine congrArg (fun z => some (Value.bool z)) (Bool.eq_iff_iff.2 ?_); simp [hg12, inB5]; omega)), ?_⟩)) ks9 hJ1
  try simp only [decide_eq_true_eq, decide_eq_false_iff_not, Bool.not_eq_true', Bool.not_eq_false', Int.natCast_pos] at hg12
  refine TL.gs ?_
  refine TL.gs ?_
  refine TL.gs ?_
  refine TL.gs ?_
  refine TL.p Pu.kf ?_
  refine TL.nil ?_
  exact TQ.sub (by repeat (first | exact trivial | refine ⟨rfl, ?_⟩ | refine ⟨trivial, ?_⟩ | refine ⟨(by show some (Value.bool _) = some (Value.bool _); first | (simp [hg12, inB5]; done) | (refine congrArg (fun z => some (Value.bool z)) (Bool.eq_iff_iff.2 ?_); simp [hg12, inB5]; omega)), ?_⟩)) ks9 hJ1
  try simp only [decide_eq_true_eq, decide_eq_false_iff_not, Bool.not_eq_true', Bool.not_eq_false', Bool.and_eq_true, Bool.or_eq_true, Bool.and_eq_false_iff, Bool.or_eq_false_iff, Int.not_lt, Int.not_le] at hc2
  obtain rfl : k = Z.nd := by omega
  refine TW.exit ?_
  refine TQ.thenX ?_
  refine TQ.thenX ?_
  refine TQ.blkX ?_
  refine TQ.thenN (hY13 _ _ ?_)
  refine TW.seq fun Y27 hY27 => ?_
  refine TW.region ?_
  refine TL.p (by first | exact Pu.fb ty_fa71_6 | exact Pu.fe ty_fa71_6) ?_
  refine TL.p (Pu.ld ty_sc4) ?_
  refine TL.mid 10 [(112, .bool (y.2 && !hasB T.u T.nu (y.1 1)))] ?_ (fun hM6 => ?_)
  simp only [List.toList_toArray, List.drop_succ_cons, List.drop_zero]
  refine TL.p (Pu.ec (q := 3) ty_ar67) ?_
  first | refine TL.st ty_sz4 ?_ | refine TL.se ty_sz4 ?_
  refine TL.nil ?_
  refine TQ.thenN (hY27 _ _ ?_)
  refine TW.seq fun Y28 hY28 => ?_
  refine TW.region ?_
  refine TL.p (Pu.lds ty_ag67) ?_
  first | refine TL.st ty_sz67 ?_ | refine TL.se ty_sz67 ?_
  refine TL.nil ?_
  refine TQ.thenN (hY28 _ _ ?_)
  refine TW.ret ?_
  refine TQ.ret Tryz.results32 rfl ((RV.cs ty_ag67 .nil)) ?_
  exact fun w hw => ⟨by unfold brkV; rw [← hat9.out, ← los9.out]; rfl, Chg.ext hw.chg⟩
  refine TL.p Pu.mv ?_
  refine TL.guard (t := 105) rfl (fun hg13 => ?_) (fun hg13 => ?_)
  try simp only [decide_eq_true_eq, decide_eq_false_iff_not, Bool.not_eq_true', Bool.not_eq_false', Int.natCast_pos] at hg13
  refine TL.gd (by first | exact Pu.fb ty_fa33_3 | exact Pu.fe ty_fa33_3) ?_
  refine TL.gd (Pu.ld ty_sc31) ?_
  refine TL.gd (by first | exact Pu.fb ty_fa71_1 | exact Pu.fe ty_fa71_1) ?_
  refine TL.gd (Pu.ld ty_sc3) ?_
  refine TL.cr rfl (enters Tryz.func33 rfl rfl) (fun w hw => by
      first | exact lHas_any (v := T.o) (by omega) (hRO.sat hw Apart.nil) | exact lHas_any (v := T.u) (by omega) (hRU.sat hw Apart.nil)) ?_
  refine TL.gd Pu.no ?_
  refine TL.p Pu.kt ?_
  exact TL.sub (by repeat (first | exact trivial | refine ⟨rfl, ?_⟩ | refine ⟨trivial, ?_⟩ | refine ⟨(by show some (Value.bool _) = some (Value.bool _); first | (simp [hg13]; done) | (refine congrArg (fun z => some (Value.bool z)) (Bool.eq_iff_iff.2 ?_); simp [hg13]; omega)), ?_⟩)) ks9 hM6
  try simp only [decide_eq_true_eq, decide_eq_false_iff_not, Bool.not_eq_true', Bool.not_eq_false', Int.natCast_pos] at hg13
  refine TL.gs ?_
  refine TL.gs ?_
  refine TL.gs ?_
  refine TL.gs ?_
  refine TL.gs ?_
  refine TL.gs ?_
  refine TL.p Pu.kf ?_
  exact TL.sub (by repeat (first | exact trivial | refine ⟨rfl, ?_⟩ | refine ⟨trivial, ?_⟩ | refine ⟨(by show some (Value.bool _) = some (Value.bool _); first | (simp [hg13]; done) | (refine congrArg (fun z => some (Value.bool z)) (Bool.eq_iff_iff.2 ?_); simp [hg13]; omega)), ?_⟩)) ks9 hM6
end
end Go.Proofs.YtmonkjnfjgidbaaGreatDoor
namespace Go.Proofs.YtmonkjnfjgidbaaGreatDoor
set_option linter.all false
set_option linter.unusedVariables false
set_option linter.unusedSimpArgs false
open Go.RowKit
def stpB (s : Nat → Int) : Bool := !(decide (s 2 < 0) || decide (s 3 < s 2) || decide (s 4 ≤ s 2) || decide (s 5 < s 4) || decide (100000 < s 5) || decide (s 5 ≤ s 3))
theorem stp_bd {s : Nat → Int} (h : stpB s = true) : 0 ≤ s 2 ∧ s 2 ≤ s 3 ∧ s 2 < s 4 ∧ s 4 ≤ s 5 ∧ s 5 ≤ 100000 ∧ s 3 < s 5 := by
  unfold stpB at h
  rw [Bool.not_eq_true'] at h
  simp only [Bool.or_eq_false_iff, decide_eq_false_iff_not] at h
  omega
def gonB (Y : Wy) (Z : Cus) (T : Trp) : Bool := !(great7 Y.nw Y.nl Y.x Z.nc Z.nd Z.nb T.no T.nu T.nv || decide ((30 : Int) < (Y.n : Int)) || !decide (chkY Y Z = 0) || !trpOk T) && (decide (wkC Y = 0) && allB Y.n fun k => stpB (stY Y k))
def gonN (Y : Wy) (Z : Cus) (T : Trp) : Nat := if gonB Y Z T = true then Y.n else 0
structure Gon (Y : Wy) (Z : Cus) (T : Trp) : Prop where
  gr : great7 Y.nw Y.nl Y.x Z.nc Z.nd Z.nb T.no T.nu T.nv = false
  n30 : Y.n ≤ 30
  chk : chkY Y Z = 0
  trp : trpOk T = true
  wk : wkC Y = 0
  stp : ∀ k, k < Y.n → stpB (stY Y k) = true
theorem gon_of {Y : Wy} {Z : Cus} {T : Trp} (h : gonB Y Z T = true) : Gon Y Z T := by
  unfold gonB at h
  simp only [Bool.and_eq_true, Bool.not_eq_true', Bool.or_eq_false_iff, decide_eq_false_iff_not, Bool.not_eq_false', decide_eq_true_eq] at h
  obtain ⟨⟨⟨⟨h1, h2⟩, h3⟩, h4⟩, h5, h6⟩ := h
  exact ⟨h1, by omega, h3, h4, h5, fun k hk => allB_iff.1 h6 k hk⟩
theorem Gon.rdy {Y : Wy} {Z : Cus} {T : Trp} (h : Gon Y Z T) : rdyC Y Z T = 0 := rdy_ok h.chk h.trp
theorem Gon.tol {Y : Wy} {Z : Cus} {T : Trp} (h : Gon Y Z T) : tolC Y Z T = 0 := by rw [tol_wk h.rdy]; exact h.wk
theorem gon_no1 {Y : Wy} {Z : Cus} {T : Trp} (h : (great7 Y.nw Y.nl Y.x Z.nc Z.nd Z.nb T.no T.nu T.nv || decide ((30 : Int) < (Y.n : Int)) || !decide (chkY Y Z = 0) || !trpOk T) = true) : gonB Y Z T = false := by unfold gonB; rw [h]; rfl
theorem gon_no2 {Y : Wy} {Z : Cus} {T : Trp} (h : wkC Y ≠ 0) : gonB Y Z T = false := by unfold gonB; rw [decide_eq_false h, Bool.false_and, Bool.and_false]
theorem gon_no3 {Y : Wy} {Z : Cus} {T : Trp} {k : Nat} (hk : k < Y.n) (h : stpB (stY Y k) = false) : gonB Y Z T = false := by
  cases e : gonB Y Z T with
  | false => rfl
  | true => have := (gon_of e).stp k hk; rw [h] at this; cases this
theorem gon_yes {Y : Wy} {Z : Cus} {T : Trp} (h1 : (great7 Y.nw Y.nl Y.x Z.nc Z.nd Z.nb T.no T.nu T.nv || decide ((30 : Int) < (Y.n : Int)) || !decide (chkY Y Z = 0) || !trpOk T) = false) (h2 : wkC Y = 0) (h3 : ∀ k, k < Y.n → stpB (stY Y k) = true) : gonB Y Z T = true := by
  unfold gonB
  rw [h1, decide_eq_true h2]
  show (true && _) = true
  rw [Bool.true_and]
  exact allB_iff.2 h3
def gonV (Y : Wy) (Z : Cus) (T : Trp) (y : Option Addr × Nat) : Value := .tuple #[.slice y.1 (gonN Y Z T) y.2, .bool (gonB Y Z T)]
def gonK (Y : Wy) (Z : Cus) (T : Trp) (y : Option Addr × Nat) : List Fact := [.own y.1 (gonN Y Z T) y.2 62 6 (fun k => stopL (stY Y k))]
theorem gon_bad {Y : Wy} {Z : Cus} {T : Trp} {w w' : World} {K : List Fact} (hw : Sat [] w K w') (h : gonB Y Z T = false) : ∃ y, Ending.returned (retV [.slice none 0 0, .bool false]) = .returned (gonV Y Z T y) ∧ Sat [] w (gonK Y Z T y) w' := by
  have e : gonN Y Z T = 0 := by unfold gonN; rw [h]; rfl
  refine ⟨(none, 0), ?_, ?_⟩
  · unfold gonV; rw [e, h]; rfl
  · unfold gonK; rw [e]; exact hw.sub (KSub.nilOwn KSub.nil)
section
variable {Y : Wy} {Z : Cus} {T : Trp} {W A L C D B O U V : Option Addr} {cw cl cn cc cd cb co cu cv : Nat} {w : World}
structure ArgIn (w : World) (Y : Wy) (Z : Cus) (T : Trp) (W A L C D B O U V : Option Addr) : Prop where
  hRW : RdR w 9 W Y.nw (fun k => wellL (Y.f k))
  hRA : RdR w 5 A Y.nl (fun k => legL (Y.x k))
  hRG : ∀ k, k < Y.nl → RdR w 4 (Y.x k).A (Y.x k).n (fun j => gateL (Y.g k j))
  hRC : RdR w 7 C Z.nc (fun k => claimL (Z.c k))
  hRD : RdR w 4 D Z.nd (fun k => feudL (Z.d k))
  hRB : RdR w 3 B Z.nb (fun k => borderL (Z.b k))
  hRO : RdR w 1 O T.no (fun k => [.int .i64 (T.o k)])
  hRU : RdR w 1 U T.nu (fun k => [.int .i64 (T.u k)])
  hRV : RdR w 1 V T.nv (fun k => [.int .i64 (T.v k)])
  hRL : RdR w 1 L Y.n (fun k => [.int .i64 (Y.ls k)])
theorem ArgIn.land (h : ArgIn w Y Z T W A L C D B O U V) (g : great7 Y.nw Y.nl Y.x Z.nc Z.nd Z.nb T.no T.nu T.nv = false) : LandIn w W Y.nw A Y.nl Y.f Y.x Y.g :=
  have q := great_all g
  ⟨q.1.1, q.1.2.1, h.hRW, h.hRA, q.1.2.2, h.hRG⟩
theorem ArgIn.cust (h : ArgIn w Y Z T W A L C D B O U V) (g : great7 Y.nw Y.nl Y.x Z.nc Z.nd Z.nb T.no T.nu T.nv = false) : CustIn w C Z.nc D Z.nd B Z.nb Z.c Z.d Z.b :=
  have q := great_all g
  ⟨q.2.1.1, q.2.1.2.1, q.2.1.2.2, h.hRC, h.hRD, h.hRB⟩
theorem ArgIn.trp (h : ArgIn w Y Z T W A L C D B O U V) (g : great7 Y.nw Y.nl Y.x Z.nc Z.nd Z.nb T.no T.nu T.nv = false) : TrpIn w T O U V :=
  have q := great_all g
  ⟨q.2.2.1, q.2.2.2.1, q.2.2.2.2, h.hRO, h.hRU, h.hRV⟩
set_option maxRecDepth 100000 in
set_option maxHeartbeats 4000000 in
theorem going_any (a : ArgIn w Y Z T W A L C D B O U V) :
    CallsK Tryz.prog 28 #[.agg (landL W Y.nw cw A Y.nl cl).toArray, .agg (custL C Z.nc cc D Z.nd cd B Z.nb cb).toArray, .agg (troopL T.hd T.wo O T.no co U T.nu cu V T.nv cv).toArray, .int .i64 Y.start, .int .i64 Y.day, .agg #[.int .i64 Y.p0, .int .i64 Y.p1], .slice L Y.n cn] [] w (Option Addr × Nat) (gonV Y Z T) (gonK Y Z T) := by
  have hRA := a.hRA
  have hRL := a.hRL
  have fK := fun (w' : World) (h1 : LandIn w' W Y.nw A Y.nl Y.f Y.x Y.g) (h2 : CustIn w' C Z.nc D Z.nd B Z.nb Z.c Z.d Z.b) => refCheck_any (cw := cw) (cl := cl) (cc := cc) (cd := cd) (cb := cb) h1 h2
  have fT := fun (w' : World) (h3 : TrpIn w' T O U V) => rTroop_any (co := co) (cu := cu) (cv := cv) h3
  have fW := fun (w' : World) (h1 : LandIn w' W Y.nw A Y.nl Y.f Y.x Y.g) (hn : Y.n ≤ 1000) (h2 : RdR w' 1 L Y.n (fun k => [.int .i64 (Y.ls k)])) => cWalk_any (cw := cw) (cl := cl) (cn := cn) h1 hn h2
  unfold landL custL at fK
  unfold troopL at fT
  unfold landL at fW
  unfold landL custL troopL
  refine K_enter (S := []) (K := []) Tryz.func28 rfl Tryz.ntmps28 rfl (Sat.start _) ?_
  refine TW.seq fun Y1 hY1 => ?_
  refine TW.region ?_
  refine TL.m Mk.bx ?_
  intro b1
  refine TL.m Mk.bx ?_
  intro b2
  refine TL.m Mk.bx ?_
  intro b3
  refine TL.m Mk.bx ?_
  intro b4
  refine TL.p Pu.as ?_
  refine TL.p Pu.as ?_
  refine TL.nil ?_
  refine TQ.thenN (hY1 _ _ ?_)
  refine TW.seq fun Y2 hY2 => ?_
  refine TW.seq fun Y3 hY3 => ?_
  refine TW.join [(40, .bool (great7 Y.nw Y.nl Y.x Z.nc Z.nd Z.nb T.no T.nu T.nv || decide ((30 : Int) < (Y.n : Int)) || !decide (chkY Y Z = 0) || !trpOk T))] ?_ (fun hJ1 => ?_)
  refine TQ.thenN (hY3 _ _ ?_)
  refine TW.cond rfl (fun hc0 => ?_) (fun hc0 => ?_)
  try simp only [decide_eq_true_eq, decide_eq_false_iff_not, Bool.not_eq_true', Bool.not_eq_false', Bool.and_eq_true, Bool.or_eq_true, Bool.and_eq_false_iff, Bool.or_eq_false_iff, Int.not_lt, Int.not_le] at hc0
  have hbad := gon_no1 (Y := Y) (Z := Z) (T := T) (by simpa using hc0)
  refine TW.seq fun Y4 hY4 => ?_
  refine TW.region ?_
  refine TL.p Pu.as ?_
  refine TL.p Pu.as ?_
  refine TL.nil ?_
  refine TQ.thenN (hY4 _ _ ?_)
  refine TW.ret ?_
  refine TQ.thenR ?_
  refine TQ.ret Tryz.results28 rfl ((.tmp rfl (.tmp rfl .nil))) ?_
  exact fun w hw => gon_bad hw hbad
  try simp only [decide_eq_true_eq, decide_eq_false_iff_not, Bool.not_eq_true', Bool.not_eq_false', Bool.and_eq_true, Bool.or_eq_true, Bool.and_eq_false_iff, Bool.or_eq_false_iff, Int.not_lt, Int.not_le] at hc0
  have hg0 : (great7 Y.nw Y.nl Y.x Z.nc Z.nd Z.nb T.no T.nu T.nv || decide ((30 : Int) < (Y.n : Int)) || !decide (chkY Y Z = 0) || !trpOk T) = false := by simpa using hc0
  have hgr : great7 Y.nw Y.nl Y.x Z.nc Z.nd Z.nb T.no T.nu T.nv = false := by rw [Bool.or_eq_false_iff, Bool.or_eq_false_iff, Bool.or_eq_false_iff] at hg0; exact hg0.1.1.1
  have hnn : Y.n ≤ 1000 := by rw [Bool.or_eq_false_iff, Bool.or_eq_false_iff, Bool.or_eq_false_iff, decide_eq_false_iff_not] at hg0; have := hg0.1.1.2; omega
  refine TW.skip ?_
  refine TQ.thenN (hY2 _ _ ?_)
  refine TW.seq fun Y5 hY5 => ?_
  refine TW.region ?_
  refine TL.p (Pu.lds ty_ag25) ?_
  refine TL.p Pu.mv ?_
  refine TL.p Pu.mv ?_
  refine TL.p (Pu.lds ty_ag35) ?_
  refine TL.p Pu.mv ?_
  refine TL.call (M := []) rfl (enters Tryz.func63 rfl rfl) (List.Perm.refl _) rfl (fun w hw => by
      exact fW _ ((a.land hgr).ext (Chg.ext hw.chg)) hnn (hRL.sat hw Apart.nil)) ?_
  rintro ⟨⟨As, cs⟩, i9⟩
  simp only [wkR, wkL, List.cons_append, List.nil_append]
  refine TL.p Pu.mv ?_
  refine TL.p Pu.ex ?_
  refine TL.p Pu.ex ?_
  refine TL.p Pu.ex ?_
  refine TL.p Pu.as ?_
  refine TL.p Pu.as ?_
  refine TL.p Pu.as ?_
  refine TL.nil ?_
  refine TQ.thenN (hY5 _ _ ?_)
  refine TW.seq fun Y6 hY6 => ?_
  refine TW.seq fun Y7 hY7 => ?_
  refine TW.region ?_
  refine TL.p Pu.mv ?_
  refine TL.p Pu.ne ?_
  refine TL.nil ?_
  refine TQ.thenN (hY7 _ _ ?_)
  refine TW.cond rfl (fun hc1 => ?_) (fun hc1 => ?_)
  try simp only [decide_eq_true_eq, decide_eq_false_iff_not, Bool.not_eq_true', Bool.not_eq_false', Bool.and_eq_true, Bool.or_eq_true, Bool.and_eq_false_iff, Bool.or_eq_false_iff, Int.not_lt, Int.not_le] at hc1
  have hbad := gon_no2 (Y := Y) (Z := Z) (T := T) hc1
  refine TW.seq fun Y8 hY8 => ?_
  refine TW.region ?_
  refine TL.p Pu.as ?_
  refine TL.p Pu.as ?_
  refine TL.nil ?_
  refine TQ.thenN (hY8 _ _ ?_)
  refine TW.ret ?_
  refine TQ.thenR ?_
  refine TQ.ret Tryz.results28 rfl ((.tmp rfl (.tmp rfl .nil))) ?_
  exact fun w hw => gon_bad hw hbad
  try simp only [decide_eq_true_eq, decide_eq_false_iff_not, Bool.not_eq_true', Bool.not_eq_false', Bool.and_eq_true, Bool.or_eq_true, Bool.and_eq_false_iff, Bool.or_eq_false_iff, Int.not_lt, Int.not_le] at hc1
  have hwz : wkC Y = 0 := by simpa using hc1
  have hwn := wkN_n hwz
  rw [hwn]
  refine TW.skip ?_
  refine TQ.thenN (hY6 _ _ ?_)
  refine TW.seq fun Y9 hY9 => ?_
  refine TW.seq fun Y10 hY10 => ?_
  refine TW.region ?_
  refine TL.p Pu.mv ?_
  refine TL.p (Pu.ln Tryz.underlying58) ?_
  refine TL.p Pu.mv ?_
  refine TL.nil ?_
  refine TQ.thenN (hY10 _ _ ?_)
  refine TW.block ?_
  refine TW.loop1 (fun (i : Nat) => [(55, .int .i64 (i : Int)), (54, .int .i64 (Y.n : Int)), (53, .slice As Y.n cs), (16, .slice As Y.n cs)]) (fun i => [.own As Y.n cs 62 6 (fun k => stopL (stY Y k))]) (fun i => i ≤ Y.n ∧ ∀ j, j < i → stpB (stY Y j) = true) (fun i => Y.n - i) 0 fs9 ?_ ?_ ?_
  exact ks9
  exact ⟨Nat.zero_le _, fun j hj => by omega⟩
  rintro i ⟨hi, hall⟩ Z0 hZ0
  refine TW.seq fun Y11 hY11 => ?_
  refine TW.region ?_
  refine TL.p Pu.lt ?_
  refine TL.nil ?_
  refine TQ.thenN (hY11 _ _ ?_)
  refine TW.seq fun Y12 hY12 => ?_
  refine TW.cond rfl (fun hc2 => ?_) (fun hc2 => ?_)
  try simp only [decide_eq_true_eq, decide_eq_false_iff_not, Bool.not_eq_true', Bool.not_eq_false', Bool.and_eq_true, Bool.or_eq_true, Bool.and_eq_false_iff, Bool.or_eq_false_iff, Int.not_lt, Int.not_le] at hc2
  have hin : i < Y.n := by omega
  refine TW.skip ?_
  refine TQ.thenN (hY12 _ _ ?_)
  refine TW.seq fun Y13 hY13 => ?_
  refine TW.block ?_
  refine TW.seq fun Y14 hY14 => ?_
  refine TW.region ?_
  refine TL.p (Pu.el ty_et58) ?_
  refine TL.p (Pu.lds ty_ag62) ?_
  refine TL.m (Mk.al ty_zr62) ?_
  intro b5
  first | refine TL.st ty_sz62 ?_ | refine TL.se ty_sz62 ?_
  refine TL.nil ?_
  refine TQ.thenN (hY14 _ _ ?_)
  refine TW.seq fun Y15 hY15 => ?_
  refine TW.join [(104, .bool (!stpB (stY Y i)))] ?_ (fun hJ2 => ?_)
  refine TQ.thenN (hY15 _ _ ?_)
  refine TW.cond rfl (fun hc3 => ?_) (fun hc3 => ?_)
  try simp only [decide_eq_true_eq, decide_eq_false_iff_not, Bool.not_eq_true', Bool.not_eq_false', Bool.and_eq_true, Bool.or_eq_true, Bool.and_eq_false_iff, Bool.or_eq_false_iff, Int.not_lt, Int.not_le] at hc3
  have hbad := gon_no3 (Y := Y) (Z := Z) (T := T) hin (by simpa using hc3)
  refine TW.seq fun Y16 hY16 => ?_
  refine TW.region ?_
  refine TL.p Pu.as ?_
  refine TL.p Pu.as ?_
  refine TL.nil ?_
  refine TQ.thenN (hY16 _ _ ?_)
  refine TW.ret ?_
  refine TQ.blkR ?_
  refine TQ.thenR ?_
  refine TQ.thenR ?_
  refine TQ.blkR ?_
  refine TQ.thenR ?_
  refine TQ.ret Tryz.results28 rfl ((.tmp rfl (.tmp rfl .nil))) ?_
  exact fun w hw => gon_bad hw hbad
  try simp only [decide_eq_true_eq, decide_eq_false_iff_not, Bool.not_eq_true', Bool.not_eq_false', Bool.and_eq_true, Bool.or_eq_true, Bool.and_eq_false_iff, Bool.or_eq_false_iff, Int.not_lt, Int.not_le] at hc3
  have hst : stpB (stY Y i) = true := by simpa using hc3
  refine TW.skip ?_
  refine TQ.blkN ?_
  refine TQ.thenN (hY13 _ _ ?_)
  refine TW.region ?_
  refine TL.p Pu.ad ?_
  refine TL.p Pu.mv ?_
  refine TL.nil ?_
  refine TQ.thenN (hZ0 (i + 1) _ _ ?_ ?_ fs9 ?_)
  exact ⟨by omega, fun j hj => (Nat.lt_succ_iff_lt_or_eq.1 hj).elim (hall j) (fun e => by rw [e]; exact hst)⟩
  exact (by first | omega | (simp only []; omega) | (simp; omega))
  exact ks9
  refine TW.region ?_
  refine TL.p (by first | exact Pu.fb ty_fa62_2 | exact Pu.fe ty_fa62_2) ?_
  refine TL.p (by first | exact Pu.fb ty_fa35_0 | exact Pu.fe ty_fa35_0) ?_
  refine TL.p (Pu.ld ty_sc3) ?_
  refine TL.p Pu.lt ?_
  refine TL.p Pu.mv ?_
  refine TL.guard (t := 63) rfl (fun hg1 => ?_) (fun hg1 => ?_)
  try simp only [decide_eq_true_eq, decide_eq_false_iff_not, Bool.not_eq_true', Bool.not_eq_false', Int.natCast_pos] at hg1
  refine TL.gs ?_
  refine TL.gs ?_
  refine TL.gs ?_
  refine TL.gs ?_
  refine TL.gs ?_
  refine TL.gs ?_
  refine TL.gs ?_
  refine TL.p Pu.kt ?_
  refine TL.p Pu.mv ?_
  refine TL.gs ?_
  refine TL.gs ?_
  refine TL.gs ?_
  refine TL.gs ?_
  refine TL.gs ?_
  refine TL.gs ?_
  refine TL.gs ?_
  refine TL.p Pu.kt ?_
  refine TL.p Pu.mv ?_
  refine TL.gs ?_
  refine TL.gs ?_
  refine TL.gs ?_
  refine TL.gs ?_
  refine TL.gs ?_
  refine TL.gs ?_
  refine TL.gs ?_
  refine TL.p Pu.kt ?_
  refine TL.p Pu.mv ?_
  refine TL.gs ?_
  refine TL.gs ?_
  refine TL.gs ?_
  refine TL.gs ?_
  refine TL.p Pu.kt ?_
  refine TL.p Pu.mv ?_
  refine TL.gs ?_
  refine TL.gs ?_
  refine TL.gs ?_
  refine TL.gs ?_
  refine TL.gs ?_
  refine TL.gs ?_
  refine TL.gs ?_
  refine TL.p Pu.kt ?_
  refine TL.nil ?_
  exact TQ.sub (by repeat (first | exact trivial | refine ⟨rfl, ?_⟩ | refine ⟨trivial, ?_⟩ | refine ⟨(by show some (Value.bool _) = some (Value.bool _); first | (simp [hg1, stpB]; done) | (refine congrArg (fun z => some (Value.bool z)) (Bool.eq_iff_iff.2 ?_); simp [hg1, stpB]; omega)), ?_⟩)) ks9 hJ2
  try simp only [decide_eq_true_eq, decide_eq_false_iff_not, Bool.not_eq_true', Bool.not_eq_false', Int.natCast_pos] at hg1
  refine TL.gd (by first | exact Pu.fb ty_fa62_2 | exact Pu.fe ty_fa62_2) ?_
  refine TL.gd (by first | exact Pu.fb ty_fa35_0 | exact Pu.fe ty_fa35_0) ?_
  refine TL.gd (Pu.ld ty_sc3) ?_
  refine TL.gd (by first | exact Pu.fb ty_fa62_2 | exact Pu.fe ty_fa62_2) ?_
  refine TL.gd (by first | exact Pu.fb ty_fa35_1 | exact Pu.fe ty_fa35_1) ?_
  refine TL.gd (Pu.ld ty_sc3) ?_
  refine TL.gd Pu.gt ?_
  refine TL.p Pu.kf ?_
  refine TL.p Pu.mv ?_
  refine TL.guard (t := 72) rfl (fun hg2 => ?_) (fun hg2 => ?_)
  try simp only [decide_eq_true_eq, decide_eq_false_iff_not, Bool.not_eq_true', Bool.not_eq_false', Int.natCast_pos] at hg2
  refine TL.gs ?_
  refine TL.gs ?_
  refine TL.gs ?_
  refine TL.gs ?_
  refine TL.gs ?_
  refine TL.gs ?_
  refine TL.gs ?_
  refine TL.p Pu.kt ?_
  refine TL.p Pu.mv ?_
  refine TL.gs ?_
  refine TL.gs ?_
  refine TL.gs ?_
  refine TL.gs ?_
  refine TL.gs ?_
  refine TL.gs ?_
  refine TL.gs ?_
  refine TL.p Pu.kt ?_
  refine TL.p Pu.mv ?_
  refine TL.gs ?_
  refine TL.gs ?_
  refine TL.gs ?_
  refine TL.gs ?_
  refine TL.p Pu.kt ?_
  refine TL.p Pu.mv ?_
  refine TL.gs ?_
  refine TL.gs ?_
  refine TL.gs ?_
  refine TL.gs ?_
  refine TL.gs ?_
  refine TL.gs ?_
  refine TL.gs ?_
  refine TL.p Pu.kt ?_
  refine TL.nil ?_
  exact TQ.sub (by repeat (first | exact trivial | refine ⟨rfl, ?_⟩ | refine ⟨trivial, ?_⟩ | refine ⟨(by show some (Value.bool _) = some (Value.bool _); first | (simp [hg1, hg2, stpB]; done) | (refine congrArg (fun z => some (Value.bool z)) (Bool.eq_iff_iff.2 ?_); simp [hg1, hg2, stpB]; omega)), ?_⟩)) ks9 hJ2
  try simp only [decide_eq_true_eq, decide_eq_false_iff_not, Bool.not_eq_true', Bool.not_eq_false', Int.natCast_pos] at hg2
  refine TL.gd (by first | exact Pu.fb ty_fa62_3 | exact Pu.fe ty_fa62_3) ?_
  refine TL.gd (by first | exact Pu.fb ty_fa35_0 | exact Pu.fe ty_fa35_0) ?_
  refine TL.gd (Pu.ld ty_sc3) ?_
  refine TL.gd (by first | exact Pu.fb ty_fa62_2 | exact Pu.fe ty_fa62_2) ?_
  refine TL.gd (by first | exact Pu.fb ty_fa35_0 | exact Pu.fe ty_fa35_0) ?_
  refine TL.gd (Pu.ld ty_sc3) ?_
  refine TL.gd Pu.le ?_
  refine TL.p Pu.kf ?_
  refine TL.p Pu.mv ?_
  refine TL.guard (t := 81) rfl (fun hg3 => ?_) (fun hg3 => ?_)
  try simp only [decide_eq_true_eq, decide_eq_false_iff_not, Bool.not_eq_true', Bool.not_eq_false', Int.natCast_pos] at hg3
  refine TL.gs ?_
  refine TL.gs ?_
  refine TL.gs ?_
  refine TL.gs ?_
  refine TL.gs ?_
  refine TL.gs ?_
  refine TL.gs ?_
  refine TL.p Pu.kt ?_
  refine TL.p Pu.mv ?_
  refine TL.gs ?_
  refine TL.gs ?_
  refine TL.gs ?_
  refine TL.gs ?_
  refine TL.p Pu.kt ?_
  refine TL.p Pu.mv ?_
  refine TL.gs ?_
  refine TL.gs ?_
  refine TL.gs ?_
  refine TL.gs ?_
  refine TL.gs ?_
  refine TL.gs ?_
  refine TL.gs ?_
  refine TL.p Pu.kt ?_
  refine TL.nil ?_
  exact TQ.sub (by repeat (first | exact trivial | refine ⟨rfl, ?_⟩ | refine ⟨trivial, ?_⟩ | refine ⟨(by show some (Value.bool _) = some (Value.bool _); first | (simp [hg1, hg2, hg3, stpB]; done) | (refine congrArg (fun z => some (Value.bool z)) (Bool.eq_iff_iff.2 ?_); simp [hg1, hg2, hg3, stpB]; omega)), ?_⟩)) ks9 hJ2
  try simp only [decide_eq_true_eq, decide_eq_false_iff_not, Bool.not_eq_true', Bool.not_eq_false', Int.natCast_pos] at hg3
  refine TL.gd (by first | exact Pu.fb ty_fa62_3 | exact Pu.fe ty_fa62_3) ?_
  refine TL.gd (by first | exact Pu.fb ty_fa35_0 | exact Pu.fe ty_fa35_0) ?_
  refine TL.gd (Pu.ld ty_sc3) ?_
  refine TL.gd (by first | exact Pu.fb ty_fa62_3 | exact Pu.fe ty_fa62_3) ?_
  refine TL.gd (by first | exact Pu.fb ty_fa35_1 | exact Pu.fe ty_fa35_1) ?_
  refine TL.gd (Pu.ld ty_sc3) ?_
  refine TL.gd Pu.gt ?_
  refine TL.p Pu.kf ?_
  refine TL.p Pu.mv ?_
  refine TL.guard (t := 90) rfl (fun hg4 => ?_) (fun hg4 => ?_)
  try simp only [decide_eq_true_eq, decide_eq_false_iff_not, Bool.not_eq_true', Bool.not_eq_false', Int.natCast_pos] at hg4
  refine TL.gs ?_
  refine TL.gs ?_
  refine TL.gs ?_
  refine TL.gs ?_
  refine TL.p Pu.kt ?_
  refine TL.p Pu.mv ?_
  refine TL.gs ?_
  refine TL.gs ?_
  refine TL.gs ?_
  refine TL.gs ?_
  refine TL.gs ?_
  refine TL.gs ?_
  refine TL.gs ?_
  refine TL.p Pu.kt ?_
  refine TL.nil ?_
  exact TQ.sub (by repeat (first | exact trivial | refine ⟨rfl, ?_⟩ | refine ⟨trivial, ?_⟩ | refine ⟨(by show some (Value.bool _) = some (Value.bool _); first | (simp [hg1, hg2, hg3, hg4, stpB]; done) | (refine congrArg (fun z => some (Value.bool z)) (Bool.eq_iff_iff.2 ?_); simp [hg1, hg2, hg3, hg4, stpB]; omega)), ?_⟩)) ks9 hJ2
  try simp only [decide_eq_true_eq, decide_eq_false_iff_not, Bool.not_eq_true', Bool.not_eq_false', Int.natCast_pos] at hg4
  refine TL.gd (by first | exact Pu.fb ty_fa62_3 | exact Pu.fe ty_fa62_3) ?_
  refine TL.gd (by first | exact Pu.fb ty_fa35_1 | exact Pu.fe ty_fa35_1) ?_
  refine TL.gd (Pu.ld ty_sc3) ?_
  refine TL.gd Pu.gt ?_
  refine TL.p Pu.kf ?_
  refine TL.p Pu.mv ?_
  refine TL.guard (t := 96) rfl (fun hg5 => ?_) (fun hg5 => ?_)
  try simp only [decide_eq_true_eq, decide_eq_false_iff_not, Bool.not_eq_true', Bool.not_eq_false', Int.natCast_pos] at hg5
  refine TL.gs ?_
  refine TL.gs ?_
  refine TL.gs ?_
  refine TL.gs ?_
  refine TL.gs ?_
  refine TL.gs ?_
  refine TL.gs ?_
  refine TL.p Pu.kt ?_
  refine TL.nil ?_
  exact TQ.sub (by repeat (first | exact trivial | refine ⟨rfl, ?_⟩ | refine ⟨trivial, ?_⟩ | refine ⟨(by show some (Value.bool _) = some (Value.bool _); first | (simp [hg1, hg2, hg3, hg4, hg5, stpB]; done) | (refine congrArg (fun z => some (Value.bool z)) (Bool.eq_iff_iff.2 ?_); simp [hg1, hg2, hg3, hg4, hg5, stpB]; omega)), ?_⟩)) ks9 hJ2
  try simp only [decide_eq_true_eq, decide_eq_false_iff_not, Bool.not_eq_true', Bool.not_eq_false', Int.natCast_pos] at hg5
  refine TL.gd (by first | exact Pu.fb ty_fa62_3 | exact Pu.fe ty_fa62_3) ?_
  refine TL.gd (by first | exact Pu.fb ty_fa35_1 | exact Pu.fe ty_fa35_1) ?_
  refine TL.gd (Pu.ld ty_sc3) ?_
  refine TL.gd (by first | exact Pu.fb ty_fa62_2 | exact Pu.fe ty_fa62_2) ?_
  refine TL.gd (by first | exact Pu.fb ty_fa35_1 | exact Pu.fe ty_fa35_1) ?_
  refine TL.gd (Pu.ld ty_sc3) ?_
  refine TL.gd Pu.le ?_
  refine TL.p Pu.kf ?_
  refine TL.nil ?_
  exact TQ.sub (by repeat (first | exact trivial | refine ⟨rfl, ?_⟩ | refine ⟨trivial, ?_⟩ | refine ⟨(by show some (Value.bool _) = some (Value.bool _); first | (simp [hg1, hg2, hg3, hg4, hg5, stpB]; done) | (refine congrArg (fun z => some (Value.bool z)) (Bool.eq_iff_iff.2 ?_); simp [hg1, hg2, hg3, hg4, hg5, stpB]; omega)), ?_⟩)) ks9 hJ2
  try simp only [decide_eq_true_eq, decide_eq_false_iff_not, Bool.not_eq_true', Bool.not_eq_false', Bool.and_eq_true, Bool.or_eq_true, Bool.and_eq_false_iff, Bool.or_eq_false_iff, Int.not_lt, Int.not_le] at hc2
  obtain rfl : i = Y.n := by omega
  refine TW.exit ?_
  refine TQ.thenX ?_
  refine TQ.thenX ?_
  refine TQ.blkX ?_
  refine TQ.thenN (hY9 _ _ ?_)
  refine TW.seq fun Y17 hY17 => ?_
  refine TW.region ?_
  refine TL.p Pu.mv ?_
  refine TL.p Pu.as ?_
  refine TL.p Pu.as ?_
  refine TL.nil ?_
  refine TQ.thenN (hY17 _ _ ?_)
  refine TW.ret ?_
  refine TQ.ret Tryz.results28 rfl ((.tmp rfl (.tmp rfl .nil))) ?_
  have hyes := gon_yes (Y := Y) (Z := Z) (T := T) hg0 hwz hall
  have e : gonN Y Z T = Y.n := if_pos hyes
  exact fun w hw => ⟨(As, cs), by unfold gonV; rw [e, hyes]; rfl, by unfold gonK; rw [e]; exact hw.sub (KSub.cons pk9 KSub.nil)⟩
  refine TW.region ?_
  refine TL.p (Pu.lds ty_ag25) ?_
  refine TL.p (Pu.lds ty_ag30) ?_
  refine TL.p (Pu.lds ty_ag33) ?_
  refine TL.cr rfl (enters Tryz.func14 rfl rfl) (fun w hw => by
      exact great7_any (hRA.sat hw Apart.nil)) ?_
  refine TL.p Pu.mv ?_
  refine TL.guard (t := 25) rfl (fun hg6 => ?_) (fun hg6 => ?_)
  try simp only [decide_eq_true_eq, decide_eq_false_iff_not, Bool.not_eq_true', Bool.not_eq_false', Int.natCast_pos] at hg6
  refine TL.gs ?_
  refine TL.gs ?_
  refine TL.gs ?_
  refine TL.p Pu.kt ?_
  refine TL.p Pu.mv ?_
  refine TL.gs ?_
  refine TL.gs ?_
  refine TL.gs ?_
  refine TL.gs ?_
  refine TL.p Pu.kt ?_
  refine TL.p Pu.mv ?_
  refine TL.gs ?_
  refine TL.gs ?_
  refine TL.gs ?_
  refine TL.p Pu.kt ?_
  refine TL.nil ?_
  exact TQ.sub (by repeat (first | exact trivial | refine ⟨rfl, ?_⟩ | refine ⟨trivial, ?_⟩ | refine ⟨(by show some (Value.bool _) = some (Value.bool _); first | (simp [hg6, chkY]; done) | (refine congrArg (fun z => some (Value.bool z)) (Bool.eq_iff_iff.2 ?_); simp [hg6, chkY]; omega)), ?_⟩)) ks9 hJ1
  try simp only [decide_eq_true_eq, decide_eq_false_iff_not, Bool.not_eq_true', Bool.not_eq_false', Int.natCast_pos] at hg6
  refine TL.gd Pu.mv ?_
  refine TL.gd (Pu.ln Tryz.underlying31) ?_
  refine TL.gd Pu.gt ?_
  refine TL.p Pu.kf ?_
  refine TL.p Pu.mv ?_
  refine TL.guard (t := 30) rfl (fun hg7 => ?_) (fun hg7 => ?_)
  try simp only [decide_eq_true_eq, decide_eq_false_iff_not, Bool.not_eq_true', Bool.not_eq_false', Int.natCast_pos] at hg7
  refine TL.gs ?_
  refine TL.gs ?_
  refine TL.gs ?_
  refine TL.gs ?_
  refine TL.p Pu.kt ?_
  refine TL.p Pu.mv ?_
  refine TL.gs ?_
  refine TL.gs ?_
  refine TL.gs ?_
  refine TL.p Pu.kt ?_
  refine TL.nil ?_
  exact TQ.sub (by repeat (first | exact trivial | refine ⟨rfl, ?_⟩ | refine ⟨trivial, ?_⟩ | refine ⟨(by show some (Value.bool _) = some (Value.bool _); first | (simp [hg6, hg7, chkY]; done) | (refine congrArg (fun z => some (Value.bool z)) (Bool.eq_iff_iff.2 ?_); simp [hg6, hg7, chkY]; omega)), ?_⟩)) ks9 hJ1
  try simp only [decide_eq_true_eq, decide_eq_false_iff_not, Bool.not_eq_true', Bool.not_eq_false', Int.natCast_pos] at hg7
  refine TL.gd (Pu.lds ty_ag25) ?_
  refine TL.gd (Pu.lds ty_ag30) ?_
  refine TL.cr rfl (enters Tryz.func35 rfl rfl) (fun w hw => by
      exact fK _ ((a.land hg6).ext (Chg.ext hw.chg)) ((a.cust hg6).ext (Chg.ext hw.chg))) ?_
  refine TL.gd Pu.ne ?_
  refine TL.p Pu.kf ?_
  refine TL.p Pu.mv ?_
  refine TL.guard (t := 36) rfl (fun hg8 => ?_) (fun hg8 => ?_)
  try simp only [decide_eq_true_eq, decide_eq_false_iff_not, Bool.not_eq_true', Bool.not_eq_false', Int.natCast_pos] at hg8
  refine TL.gs ?_
  refine TL.gs ?_
  refine TL.gs ?_
  refine TL.p Pu.kt ?_
  refine TL.nil ?_
  exact TQ.sub (by repeat (first | exact trivial | refine ⟨rfl, ?_⟩ | refine ⟨trivial, ?_⟩ | refine ⟨(by show some (Value.bool _) = some (Value.bool _); first | (simp [hg6, hg7, hg8, chkY]; done) | (refine congrArg (fun z => some (Value.bool z)) (Bool.eq_iff_iff.2 ?_); simp [hg6, hg7, hg8, chkY]; omega)), ?_⟩)) ks9 hJ1
  try simp only [decide_eq_true_eq, decide_eq_false_iff_not, Bool.not_eq_true', Bool.not_eq_false', Int.natCast_pos] at hg8
  refine TL.gd (Pu.lds ty_ag33) ?_
  refine TL.cr rfl (enters Tryz.func51 rfl rfl) (fun w hw => by
      exact fT _ ((a.trp hg6).ext (Chg.ext hw.chg))) ?_
  refine TL.gd Pu.no ?_
  refine TL.p Pu.kf ?_
  refine TL.nil ?_
  exact TQ.sub (by repeat (first | exact trivial | refine ⟨rfl, ?_⟩ | refine ⟨trivial, ?_⟩ | refine ⟨(by show some (Value.bool _) = some (Value.bool _); first | (simp [hg6, hg7, hg8, chkY]; done) | (refine congrArg (fun z => some (Value.bool z)) (Bool.eq_iff_iff.2 ?_); simp [hg6, hg7, hg8, chkY]; omega)), ?_⟩)) ks9 hJ1
end
end Go.Proofs.YtmonkjnfjgidbaaGreatDoor
namespace Go.Proofs.YtmonkjnfjgidbaaGreatDoor
set_option linter.all false
set_option linter.unusedVariables false
set_option linter.unusedSimpArgs false
section
variable {Z : Cus} {lo : Int} {k : Nat}
end
section
variable {Z : Cus} {T : Trp} {leg d t : Int}
end
section
variable {Z : Cus} {T : Trp} {s : Nat → Int}
theorem why_some (h : 0 < whyD Z T s) : (∃ t, t ∈ tuD Z (s 2) (s 5 - 1) ∧ whyZ Z T (s 0) t = whyD Z T s) ∧ ∀ t, t ∈ tuD Z (s 2) (s 5 - 1) → 0 < whyZ Z T (s 0) t → whyD Z T s ≤ whyZ Z T (s 0) t := by
  unfold whyD at h ⊢
  rcases wr_spec (f := fun t => whyZ Z T (s 0) t) (fun t => (whyZ_bd).1) (tuD Z (s 2) (s 5 - 1)) 0 (by omega) with ⟨q, _⟩ | ⟨_, q1, _, q2⟩
  · omega
  · exact ⟨q1.resolve_left (by omega), q2⟩
theorem whyD_bd : 0 ≤ whyD Z T s ∧ whyD Z T s ≤ 3 := by
  by_cases h : 0 < whyD Z T s
  · obtain ⟨t, _, e⟩ := (why_some h).1
    have := whyZ_bd (Z := Z) (T := T) (leg := s 0) (day := t)
    omega
  · unfold whyD at h ⊢
    rcases wr_spec (f := fun t => whyZ Z T (s 0) t) (fun t => (whyZ_bd).1) (tuD Z (s 2) (s 5 - 1)) 0 (by omega) with ⟨q, _⟩ | ⟨q, _⟩ <;> omega
end
theorem br_spec {f : Nat → Int} : ∀ n, (∃ k, k < n ∧ 0 < f k ∧ (∀ j, j < k → ¬ 0 < f j) ∧ brF f n = (f k, (k : Int))) ∨ ((∀ j, j < n → ¬ 0 < f j) ∧ brF f n = (0, 0))
  | 0 => .inr ⟨fun j hj => by omega, rfl⟩
  | n + 1 => by
    rcases br_spec (f := f) n with ⟨k, hk, h1, h2, e⟩ | ⟨h, _⟩
    · exact .inl ⟨k, by omega, h1, h2, brF_yes h1 h2 (n + 1) (by omega)⟩
    · by_cases hn : 0 < f n
      · exact .inl ⟨n, by omega, hn, h, brF_yes hn h (n + 1) (by omega)⟩
      · have h9 : ∀ j, j < n + 1 → ¬ 0 < f j := fun j hj => by
          by_cases e : j = n
          · subst e; exact hn
          · exact h j (by omega)
        exact .inr ⟨h9, brF_no (n + 1) h9⟩
theorem bar_cases {Z : Cus} {T : Trp} {n : Nat} {st : Nat → Nat → Int} : (∃ k, k < n ∧ 0 < whyD Z T (st k) ∧ (∀ j, j < k → ¬ 0 < whyD Z T (st j)) ∧ barD Z T n st = (whyD Z T (st k), (k : Int))) ∨ ((∀ j, j < n → ¬ 0 < whyD Z T (st j)) ∧ barD Z T n st = (0, 0)) := br_spec n
theorem bar_bd {Z : Cus} {T : Trp} {n : Nat} {st : Nat → Nat → Int} : 0 ≤ (barD Z T n st).1 ∧ (barD Z T n st).1 ≤ 3 ∧ 0 ≤ (barD Z T n st).2 ∧ ((barD Z T n st).1 = 0 → (barD Z T n st).2 = 0) := by
  rcases bar_cases (Z := Z) (T := T) (n := n) (st := st) with ⟨k, hk, h1, _, e⟩ | ⟨_, e⟩
  · have := whyD_bd (Z := Z) (T := T) (s := st k)
    rw [e]
    simp only
    exact ⟨by omega, by omega, by omega, fun h => by omega⟩
  · rw [e]; decide
theorem barA_ok {Y : Wy} {Z : Cus} {T : Trp} (h : tolC Y Z T = 0) : barA Y Z T = barD Z T Y.n (stY Y) := if_pos h
end Go.Proofs.YtmonkjnfjgidbaaGreatDoor
namespace Go.Proofs.YtmonkjnfjgidbaaGreatDoor
set_option linter.all false
set_option linter.unusedVariables false
set_option linter.unusedSimpArgs false
open Go.RowKit
def brN (Z : Cus) (T : Trp) (leg day : Int) : Nat → Bool
  | 0 => false
  | 1 => closZ Z leg day
  | 2 => hatZ Z T leg day
  | _ => losZ Z T leg day
section
variable {Z : Cus} {T : Trp} {leg d : Int}
theorem brN_why (h : 0 < whyZ Z T leg d) : brN Z T leg d (whyZ Z T leg d).toNat = true := by
  unfold whyZ whyV at h ⊢
  split
  · next h1 => exact h1
  · next h1 =>
    split
    · next h2 => exact h2
    · next h2 =>
      split
      · next h3 => exact h3
      · next h3 =>
        rw [if_neg h1, if_neg h2, if_neg h3] at h
        omega
theorem brN_less {q : Nat} (h : brN Z T leg d q = true) (h3 : q ≤ 3) : 0 < whyZ Z T leg d ∧ whyZ Z T leg d ≤ q := by
  have hq : q = 0 ∨ q = 1 ∨ q = 2 ∨ q = 3 := by omega
  unfold whyZ whyV
  rcases hq with rfl | rfl | rfl | rfl
  · cases h
  · have h : closZ Z leg d = true := h
    rw [if_pos h]; decide
  · have h : hatZ Z T leg d = true := h
    rw [h]
    split
    · decide
    · rw [if_pos rfl]; decide
  · have h : losZ Z T leg d = true := h
    rw [h]
    split
    · decide
    · split
      · decide
      · rw [if_pos rfl]; decide
theorem tu_of {lo hi t : Int} (h : t ∈ rulZ Z lo) (h1 : lo ≤ t) (h2 : t ≤ hi) : t ∈ tuD Z lo hi := by
  unfold tuD
  rw [tu_mem]
  refine ⟨inB_iff.2 ⟨h1, h2⟩, ?_⟩
  obtain ⟨j, hj, e⟩ := mem_at h
  exact ⟨j, hj, e⟩
theorem tu_to {lo hi t : Int} (h : t ∈ tuD Z lo hi) : t ∈ rulZ Z lo ∧ lo ≤ t ∧ t ≤ hi := by
  unfold tuD at h
  rw [tu_mem] at h
  obtain ⟨h1, j, hj, e⟩ := h
  have := inB_iff.1 h1
  exact ⟨by rw [← e]; exact mem_getD hj, this.1, this.2⟩
end
theorem r3_end {Z : Cus} {lo : Int} {L : List Int} (h : L = r3L Z lo Z.nb) : L = rulZ Z lo := h
section
variable {Y : Wy} {Z : Cus} {T : Trp} {W A L C D B O U V : Option Addr} {cw cl cn cc cd cb co cu cv : Nat} {w : World}
set_option maxRecDepth 100000 in
set_option maxHeartbeats 8000000 in
theorem lawBarred_any (a : ArgIn w Y Z T W A L C D B O U V) (hG : OldB w 0 barsL) :
    Calls Tryz.prog 5 #[.agg (landL W Y.nw cw A Y.nl cl).toArray, .agg (custL C Z.nc cc D Z.nd cd B Z.nb cb).toArray, .agg (troopL T.hd T.wo O T.no co U T.nu cu V T.nv cv).toArray, .int .i64 Y.start, .int .i64 Y.day, .agg #[.int .i64 Y.p0, .int .i64 Y.p1], .slice L Y.n cn] w (Ret w (.bool true)) := by
  have fG := fun (w' : World) (a' : ArgIn w' Y Z T W A L C D B O U V) => going_any (cw := cw) (cl := cl) (cn := cn) (cc := cc) (cd := cd) (cb := cb) (co := co) (cu := cu) (cv := cv) a'
  have fB := fun (w' : World) (h1 : LandIn w' W Y.nw A Y.nl Y.f Y.x Y.g) (hn : Y.n ≤ 1000) (h2 : RdR w' 1 L Y.n (fun k => [.int .i64 (Y.ls k)])) (h3 : CustIn w' C Z.nc D Z.nd B Z.nb Z.c Z.d Z.b) (h4 : TrpIn w' T O U V) (h5 : OldB w' 0 barsL) => tollBarred_any (cw := cw) (cl := cl) (cn := cn) (cc := cc) (cd := cd) (cb := cb) (co := co) (cu := cu) (cv := cv) h1 hn h2 h3 h4 h5
  have fK := fun (w' : World) (leg day : Int) (htr : trpOk T = true) (h3 : CustIn w' C Z.nc D Z.nd B Z.nb Z.c Z.d Z.b) (h4 : TrpIn w' T O U V) => lBroken_any (cc := cc) (cd := cd) (cb := cb) (co := co) (cu := cu) (cv := cv) leg day htr h3 h4
  have aE : ∀ {w'}, Below w.heap.size w w' → ArgIn w' Y Z T W A L C D B O U V := fun hb => ⟨a.hRW.chg (Chg.of_ext hb) Apart.nil, a.hRA.chg (Chg.of_ext hb) Apart.nil, fun k hk => (a.hRG k hk).chg (Chg.of_ext hb) Apart.nil, a.hRC.chg (Chg.of_ext hb) Apart.nil, a.hRD.chg (Chg.of_ext hb) Apart.nil, a.hRB.chg (Chg.of_ext hb) Apart.nil, a.hRO.chg (Chg.of_ext hb) Apart.nil, a.hRU.chg (Chg.of_ext hb) Apart.nil, a.hRV.chg (Chg.of_ext hb) Apart.nil, a.hRL.chg (Chg.of_ext hb) Apart.nil⟩
  have hRC := a.hRC
  have hRD := a.hRD
  have hRB := a.hRB
  unfold landL custL troopL at fG fB
  unfold custL troopL at fK
  unfold landL custL troopL
  refine K_enter (S := []) (K := []) Tryz.func5 rfl Tryz.ntmps5 rfl (Sat.start _) ?_
  refine TW.seq fun Y1 hY1 => ?_
  refine TW.region ?_
  refine TL.m Mk.bx ?_
  intro b1
  refine TL.m Mk.bx ?_
  intro b2
  refine TL.m Mk.bx ?_
  intro b3
  refine TL.m Mk.bx ?_
  intro b4
  refine TL.p Pu.as ?_
  refine TL.nil ?_
  refine TQ.thenN (hY1 _ _ ?_)
  refine TW.seq fun Y2 hY2 => ?_
  refine TW.region ?_
  refine TL.cr rfl (enters Tryz.func27 rfl rfl) (fun w hw => by
      exact alive_any (hG.ext (Chg.ext hw.chg))) ?_
  refine TL.p Pu.as ?_
  refine TL.nil ?_
  refine TQ.thenN (hY2 _ _ ?_)
  refine TW.seq fun Y3 hY3 => ?_
  refine TW.region ?_
  refine TL.p (Pu.lds ty_ag25) ?_
  refine TL.p (Pu.lds ty_ag30) ?_
  refine TL.p (Pu.lds ty_ag33) ?_
  refine TL.p Pu.mv ?_
  refine TL.p Pu.mv ?_
  refine TL.p (Pu.lds ty_ag35) ?_
  refine TL.p Pu.mv ?_
  refine TL.call (M := []) rfl (enters Tryz.func28 rfl rfl) (List.Perm.refl _) rfl (fun w hw => by
      exact fG _ (aE (Chg.ext hw.chg))) ?_
  rintro ⟨As, cs⟩
  simp only [gonV, gonK, List.cons_append, List.nil_append]
  refine TL.p Pu.mv ?_
  refine TL.p Pu.ex ?_
  refine TL.p Pu.ex ?_
  refine TL.p Pu.as ?_
  refine TL.p Pu.as ?_
  refine TL.nil ?_
  refine TQ.thenN (hY3 _ _ ?_)
  refine TW.seq fun Y4 hY4 => ?_
  refine TW.seq fun Y5 hY5 => ?_
  refine TW.join [(51, .bool (!gonB Y Z T))] ?_ (fun hJ1 => ?_)
  refine TQ.thenN (hY5 _ _ ?_)
  refine TW.cond rfl (fun hc0 => ?_) (fun hc0 => ?_)
  try simp only [decide_eq_true_eq, decide_eq_false_iff_not, Bool.not_eq_true', Bool.not_eq_false', Bool.and_eq_true, Bool.or_eq_true, Bool.and_eq_false_iff, Bool.or_eq_false_iff, Int.not_lt, Int.not_le] at hc0
  refine TW.seq fun Y6 hY6 => ?_
  refine TW.region ?_
  refine TL.p Pu.mv ?_
  refine TL.p Pu.as ?_
  refine TL.nil ?_
  refine TQ.thenN (hY6 _ _ ?_)
  refine TW.ret ?_
  refine TQ.thenR ?_
  refine TQ.ret Tryz.results5 rfl ((.tmp rfl .nil)) ?_
  exact fun w hw => Ret.of hw
  try simp only [decide_eq_true_eq, decide_eq_false_iff_not, Bool.not_eq_true', Bool.not_eq_false', Bool.and_eq_true, Bool.or_eq_true, Bool.and_eq_false_iff, Bool.or_eq_false_iff, Int.not_lt, Int.not_le] at hc0
  have hgo : gonB Y Z T = true := by simpa using hc0
  have g := gon_of hgo
  have hgn : gonN Y Z T = Y.n := if_pos hgo
  rw [hgn]
  have hn1 : Y.n ≤ 1000 := by have := g.n30; omega
  have htr := g.trp
  have hok := chk_ok g.chk
  have hnc9 := hok.nc
  have hnd9 := hok.nd
  have hnb9 := hok.nb
  have hb9 := barA_ok (Y := Y) (Z := Z) (T := T) g.tol
  have hbb := bar_bd (Z := Z) (T := T) (n := Y.n) (st := stY Y)
  have hbc := bar_cases (Z := Z) (T := T) (n := Y.n) (st := stY Y)
  rw [← hb9] at hbb hbc
  clear hb9
  have hto := hidT g.tol
  obtain ⟨r, hr⟩ : ∃ r, r = barA Y Z T := ⟨_, rfl⟩
  rw [← hr] at hbb hbc
  replace hr := hidT hr
  refine TW.skip ?_
  refine TQ.thenN (hY4 _ _ ?_)
  refine TW.seq fun Y7 hY7 => ?_
  refine TW.region ?_
  refine TL.p (Pu.lds ty_ag25) ?_
  refine TL.p (Pu.lds ty_ag30) ?_
  refine TL.p (Pu.lds ty_ag33) ?_
  refine TL.p Pu.mv ?_
  refine TL.p Pu.mv ?_
  refine TL.p (Pu.lds ty_ag35) ?_
  refine TL.p Pu.mv ?_
  refine TL.cr rfl (enters Tryz.func18 rfl rfl) (fun w hw => by
      have h9 := fB _ ((a.land g.gr).ext (Chg.ext hw.chg)) hn1 (a.hRL.sat hw Apart.nil) ((a.cust g.gr).ext (Chg.ext hw.chg)) ((a.trp g.gr).ext (Chg.ext hw.chg)) (hG.ext (Chg.ext hw.chg))
      rw [← hr.out, hto.out] at h9
      exact h9) ?_
  refine TL.p Pu.mv ?_
  refine TL.p Pu.ex ?_
  refine TL.p Pu.ex ?_
  refine TL.p Pu.ex ?_
  refine TL.p Pu.as ?_
  refine TL.p Pu.as ?_
  refine TL.p Pu.as ?_
  refine TL.nil ?_
  refine TQ.thenN (hY7 _ _ ?_)
  refine TW.seq fun Y8 hY8 => ?_
  refine TW.seq fun Y9 hY9 => ?_
  refine TW.join [(70, .bool false)] ?_ (fun hJ2 => ?_)
  refine TQ.thenN (hY9 _ _ ?_)
  refine TW.condF rfl (rfl) ?_
  refine TW.skip ?_
  refine TQ.thenN (hY8 _ _ ?_)
  refine TW.seq fun Y10 hY10 => ?_
  refine TW.seq fun Y11 hY11 => ?_
  refine TW.region ?_
  refine TL.p Pu.mv ?_
  refine TL.p Pu.eq ?_
  refine TL.nil ?_
  refine TQ.thenN (hY11 _ _ ?_)
  refine TW.cond rfl (fun hc2 => ?_) (fun hc2 => ?_)
  try simp only [decide_eq_true_eq, decide_eq_false_iff_not, Bool.not_eq_true', Bool.not_eq_false', Bool.and_eq_true, Bool.or_eq_true, Bool.and_eq_false_iff, Bool.or_eq_false_iff, Int.not_lt, Int.not_le] at hc2
  refine TW.seq fun Y12 hY12 => ?_
  refine TW.region ?_
  refine TL.p Pu.mv ?_
  refine TL.p Pu.as ?_
  refine TL.nil ?_
  refine TQ.thenN (hY12 _ _ ?_)
  refine TW.ret ?_
  refine TQ.thenR ?_
  refine TQ.ret Tryz.results5 rfl ((.tmp rfl .nil)) ?_
  exact fun w hw => Ret.of hw
  try simp only [decide_eq_true_eq, decide_eq_false_iff_not, Bool.not_eq_true', Bool.not_eq_false', Bool.and_eq_true, Bool.or_eq_true, Bool.and_eq_false_iff, Bool.or_eq_false_iff, Int.not_lt, Int.not_le] at hc2
  have hbk : ∃ k, k < Y.n ∧ 0 < whyD Z T (stY Y k) ∧ r.1 = whyD Z T (stY Y k) ∧ r.2 = (k : Int) := by
    rcases hbc with ⟨k, hk, h1, _, e⟩ | ⟨_, e⟩
    exact ⟨k, hk, h1, by rw [e], by rw [e]⟩
    rw [e] at hc2; exact absurd rfl hc2
  clear hbc
  obtain ⟨k0, hk0, hw0, hr1, hr2⟩ := hbk
  have hs := stp_bd (g.stp k0 hk0)
  obtain ⟨⟨t0, ht0, hwt⟩, hwl⟩ := why_some hw0
  rw [← hr1] at hwt hwl
  clear hr1 hw0
  replace hwt := hidT hwt
  obtain ⟨ht1, ht2, ht3⟩ := tu_to ht0
  clear ht0
  obtain ⟨s, hs9⟩ : ∃ s, s = stY Y k0 := ⟨_, rfl⟩
  rw [← hs9] at hs hwt hwl ht1 ht2 ht3
  replace hs9 := hidT hs9
  have hrr : 1 ≤ r.1 ∧ r.1 ≤ 3 := by omega
  refine TW.skip ?_
  refine TQ.thenN (hY10 _ _ ?_)
  refine TW.seq fun Y13 hY13 => ?_
  refine TW.seq fun Y14 hY14 => ?_
  refine TW.join [(81, .bool false)] ?_ (fun hJ3 => ?_)
  refine TQ.thenN (hY14 _ _ ?_)
  refine TW.condF rfl (rfl) ?_
  refine TW.skip ?_
  refine TQ.thenN (hY13 _ _ ?_)
  refine TW.seq fun Y15 hY15 => ?_
  refine TW.region ?_
  refine TL.p Pu.mv ?_
  refine TL.p Pu.mv ?_
  refine TL.p (Pu.el (q := k0) ty_et58 (hk := by omega)) ?_
  refine TL.p (Pu.lds ty_ag62) ?_
  refine TL.m (Mk.al ty_zr62) ?_
  intro b5
  first | refine TL.st ty_sz62 ?_ | refine TL.se ty_sz62 ?_
  refine TL.nil ?_
  refine TQ.thenN (hY15 _ _ ?_)
  rw [← hs9.out]
  refine TW.seq fun Y16 hY16 => ?_
  refine TW.region ?_
  refine TL.p (by first | exact Pu.fb ty_fa62_2 | exact Pu.fe ty_fa62_2) ?_
  refine TL.p (by first | exact Pu.fb ty_fa35_0 | exact Pu.fe ty_fa35_0) ?_
  refine TL.p (Pu.ld ty_sc3) ?_
  refine TL.m Mk.bl ?_
  intro b6
  refine TL.p Pu.as ?_
  refine TL.nil ?_
  refine TQ.thenN (hY16 _ _ ?_)
  refine TW.seq fun Y17 hY17 => ?_
  refine TW.seq fun Y18 hY18 => ?_
  refine TW.region ?_
  refine TL.p (by first | exact Pu.fb ty_fa30_0 | exact Pu.fe ty_fa30_0) ?_
  refine TL.p (Pu.ld ty_sc26) ?_
  refine TL.p (Pu.ln Tryz.underlying26) ?_
  refine TL.p Pu.mv ?_
  refine TL.nil ?_
  refine TQ.thenN (hY18 _ _ ?_)
  refine TW.block ?_
  refine TW.loop5 (fun (k : Nat) (Ad : Option Addr) (ca : Nat) (N : List Int) (m : Nat) => [(93, .int .i64 (k : Int)), (92, .int .i64 (Z.nc : Int)), (91, .slice C Z.nc cc), (22, .slice Ad m ca), (21, .pointer (some ⟨b5, 0, none⟩)), (15, .bool true), (18, .int .u8 r.1), (8, .pointer (some ⟨b2, 0, none⟩)), (9, .pointer (some ⟨b3, 0, none⟩))]) (fun k Ad ca N m => [.own Ad m ca 3 1 (iL N), .blk b5 62 (stopL s), .blk b2 30 [.slice C Z.nc cc, .slice D Z.nd cd, .slice B Z.nb cb], .blk b3 33 [.int .i64 T.hd, .int .i64 T.wo, .slice O T.no co, .slice U T.nu cu, .slice V T.nv cv]]) (fun k Ad ca N m => k ≤ Z.nc ∧ N = r1L Z (s 2) k ∧ m = N.length) (fun k Ad ca N m => Z.nc - k) 0 _ _ (r1L Z (s 2) 0) 1 fs9 ?_ ?_ ?_
  exact KSub.ofBlk pk9 rfl (fun _ _ => rfl) rfl rfl ks9
  exact ⟨Nat.zero_le _, rfl, rfl⟩
  rintro k Ad ca N m ⟨hk, hL, hm⟩ Z0 hZ0
  refine TW.seq fun Y19 hY19 => ?_
  refine TW.region ?_
  refine TL.p Pu.lt ?_
  refine TL.nil ?_
  refine TQ.thenN (hY19 _ _ ?_)
  refine TW.seq fun Y20 hY20 => ?_
  refine TW.cond rfl (fun hc4 => ?_) (fun hc4 => ?_)
  try simp only [decide_eq_true_eq, decide_eq_false_iff_not, Bool.not_eq_true', Bool.not_eq_false', Bool.and_eq_true, Bool.or_eq_true, Bool.and_eq_false_iff, Bool.or_eq_false_iff, Int.not_lt, Int.not_le] at hc4
  have hkn : k < Z.nc := by omega
  have hbd := hok.c k hkn
  have hmb : m ≤ 10000 := by rw [hm, hL, r1_len]; have := hok.nc; omega
  refine TW.skip ?_
  refine TQ.thenN (hY20 _ _ ?_)
  refine TW.seq fun Y21 hY21 => ?_
  refine TW.block ?_
  refine TW.seq fun Y22 hY22 => ?_
  refine TW.region ?_
  refine TL.p (Pu.el ty_et26) ?_
  refine TL.p (Pu.lds ty_ag71) ?_
  refine TL.m (Mk.al ty_zr71) ?_
  intro b7
  first | refine TL.st ty_sz71 ?_ | refine TL.se ty_sz71 ?_
  refine TL.nil ?_
  refine TQ.thenN (hY22 _ _ ?_)
  refine TW.region ?_
  refine TL.p Pu.mv ?_
  refine TL.p (by first | exact Pu.fb ty_fa71_2 | exact Pu.fe ty_fa71_2) ?_
  refine TL.p (Pu.ld ty_sc3) ?_
  refine TL.p (by first | exact Pu.fb ty_fa71_3 | exact Pu.fe ty_fa71_3) ?_
  refine TL.p (Pu.ld ty_sc3) ?_
  refine TL.p Pu.ad ?_
  refine TL.m Mk.bl ?_
  intro b8
  refine TL.obn (b := b8) (n := 2) (sz := 1) (r := iL [(Z.c k).1 2, (Z.c k).1 3 + 1]) pk9 rfl (fun _ _ => rfl) ?_
  first | refine TL.a0 ty_et31 ?_ | refine TL.ap ty_et31 ?_
  intro A9 c9
  refine TL.p Pu.as ?_
  refine TL.nil ?_
  refine TQ.blkN ?_
  refine TQ.thenN (hY21 _ _ ?_)
  refine TW.region ?_
  refine TL.p Pu.ad ?_
  refine TL.p Pu.mv ?_
  refine TL.nil ?_
  refine TQ.thenN (hZ0 (k + 1) _ _ (r1L Z (s 2) (k + 1)) _ _ _ ?_ ?_ fs9 ?_)
  exact ⟨by omega, rfl, by rw [hm, hL, r1_len, r1_len]; omega⟩
  exact (by first | omega | (simp only []; omega) | (simp; omega))
  exact KSub.own Pick.hd (iL_app2 hm (by rw [r1_s, hL]; rfl) rfl rfl) ks9
  try simp only [decide_eq_true_eq, decide_eq_false_iff_not, Bool.not_eq_true', Bool.not_eq_false', Bool.and_eq_true, Bool.or_eq_true, Bool.and_eq_false_iff, Bool.or_eq_false_iff, Int.not_lt, Int.not_le] at hc4
  obtain rfl : k = Z.nc := by omega
  refine TW.exit ?_
  refine TQ.thenX ?_
  refine TQ.thenX ?_
  refine TQ.blkX ?_
  refine TQ.thenN (hY17 _ _ ?_)
  refine TW.seq fun Y23 hY23 => ?_
  refine TW.seq fun Y24 hY24 => ?_
  refine TW.region ?_
  refine TL.p (by first | exact Pu.fb ty_fa30_1 | exact Pu.fe ty_fa30_1) ?_
  refine TL.p (Pu.ld ty_sc27) ?_
  refine TL.p (Pu.ln Tryz.underlying27) ?_
  refine TL.p Pu.mv ?_
  refine TL.nil ?_
  refine TQ.thenN (hY24 _ _ ?_)
  refine TW.block ?_
  refine TW.loop5 (fun (k : Nat) (Ad : Option Addr) (ca : Nat) (N : List Int) (m : Nat) => [(109, .int .i64 (k : Int)), (108, .int .i64 (Z.nd : Int)), (107, .slice D Z.nd cd), (22, .slice Ad m ca), (21, .pointer (some ⟨b5, 0, none⟩)), (15, .bool true), (18, .int .u8 r.1), (8, .pointer (some ⟨b2, 0, none⟩)), (9, .pointer (some ⟨b3, 0, none⟩))]) (fun k Ad ca N m => [.own Ad m ca 3 1 (iL N), .blk b5 62 (stopL s), .blk b2 30 [.slice C Z.nc cc, .slice D Z.nd cd, .slice B Z.nb cb], .blk b3 33 [.int .i64 T.hd, .int .i64 T.wo, .slice O T.no co, .slice U T.nu cu, .slice V T.nv cv]]) (fun k Ad ca N m => k ≤ Z.nd ∧ N = r2L Z (s 2) k ∧ m = N.length) (fun k Ad ca N m => Z.nd - k) 0 _ _ N m fs9 ?_ ?_ ?_
  exact ks9
  exact ⟨Nat.zero_le _, by rw [hL, r2_0], hm⟩
  rintro k Ad ca N m ⟨hk, hL, hm⟩ Z1 hZ1
  refine TW.seq fun Y25 hY25 => ?_
  refine TW.region ?_
  refine TL.p Pu.lt ?_
  refine TL.nil ?_
  refine TQ.thenN (hY25 _ _ ?_)
  refine TW.seq fun Y26 hY26 => ?_
  refine TW.cond rfl (fun hc5 => ?_) (fun hc5 => ?_)
  try simp only [decide_eq_true_eq, decide_eq_false_iff_not, Bool.not_eq_true', Bool.not_eq_false', Bool.and_eq_true, Bool.or_eq_true, Bool.and_eq_false_iff, Bool.or_eq_false_iff, Int.not_lt, Int.not_le] at hc5
  have hkn : k < Z.nd := by omega
  have hbd := hok.d k hkn
  have hmb : m ≤ 10000 := by rw [hm, hL, r2_len]; have := hok.nc; have := hok.nd; omega
  refine TW.skip ?_
  refine TQ.thenN (hY26 _ _ ?_)
  refine TW.seq fun Y27 hY27 => ?_
  refine TW.block ?_
  refine TW.seq fun Y28 hY28 => ?_
  refine TW.region ?_
  refine TL.p (Pu.el ty_et27) ?_
  refine TL.p (Pu.lds ty_ag73) ?_
  refine TL.m (Mk.al ty_zr73) ?_
  intro b10
  first | refine TL.st ty_sz73 ?_ | refine TL.se ty_sz73 ?_
  refine TL.nil ?_
  refine TQ.thenN (hY28 _ _ ?_)
  refine TW.region ?_
  refine TL.p Pu.mv ?_
  refine TL.p (by first | exact Pu.fb ty_fa73_2 | exact Pu.fe ty_fa73_2) ?_
  refine TL.p (Pu.ld ty_sc3) ?_
  refine TL.p (by first | exact Pu.fb ty_fa73_3 | exact Pu.fe ty_fa73_3) ?_
  refine TL.p (Pu.ld ty_sc3) ?_
  refine TL.p Pu.ad ?_
  refine TL.m Mk.bl ?_
  intro b11
  refine TL.obn (b := b11) (n := 2) (sz := 1) (r := iL [Z.d k 2, Z.d k 3 + 1]) pk9 rfl (fun _ _ => rfl) ?_
  first | refine TL.a0 ty_et31 ?_ | refine TL.ap ty_et31 ?_
  intro A12 c12
  refine TL.p Pu.as ?_
  refine TL.nil ?_
  refine TQ.blkN ?_
  refine TQ.thenN (hY27 _ _ ?_)
  refine TW.region ?_
  refine TL.p Pu.ad ?_
  refine TL.p Pu.mv ?_
  refine TL.nil ?_
  refine TQ.thenN (hZ1 (k + 1) _ _ (r2L Z (s 2) (k + 1)) _ _ _ ?_ ?_ fs9 ?_)
  exact ⟨by omega, rfl, by rw [hm, hL, r2_len, r2_len]; omega⟩
  exact (by first | omega | (simp only []; omega) | (simp; omega))
  exact KSub.own Pick.hd (iL_app2 hm (by rw [r2_s, hL]; rfl) rfl rfl) ks9
  try simp only [decide_eq_true_eq, decide_eq_false_iff_not, Bool.not_eq_true', Bool.not_eq_false', Bool.and_eq_true, Bool.or_eq_true, Bool.and_eq_false_iff, Bool.or_eq_false_iff, Int.not_lt, Int.not_le] at hc5
  obtain rfl : k = Z.nd := by omega
  refine TW.exit ?_
  refine TQ.thenX ?_
  refine TQ.thenX ?_
  refine TQ.blkX ?_
  refine TQ.thenN (hY23 _ _ ?_)
  refine TW.seq fun Y29 hY29 => ?_
  refine TW.seq fun Y30 hY30 => ?_
  refine TW.region ?_
  refine TL.p (by first | exact Pu.fb ty_fa30_2 | exact Pu.fe ty_fa30_2) ?_
  refine TL.p (Pu.ld ty_sc28) ?_
  refine TL.p (Pu.ln Tryz.underlying28) ?_
  refine TL.p Pu.mv ?_
  refine TL.nil ?_
  refine TQ.thenN (hY30 _ _ ?_)
  refine TW.block ?_
  refine TW.loop5 (fun (k : Nat) (Ad : Option Addr) (ca : Nat) (N : List Int) (m : Nat) => [(125, .int .i64 (k : Int)), (124, .int .i64 (Z.nb : Int)), (123, .slice B Z.nb cb), (22, .slice Ad m ca), (21, .pointer (some ⟨b5, 0, none⟩)), (15, .bool true), (18, .int .u8 r.1), (8, .pointer (some ⟨b2, 0, none⟩)), (9, .pointer (some ⟨b3, 0, none⟩))]) (fun k Ad ca N m => [.own Ad m ca 3 1 (iL N), .blk b5 62 (stopL s), .blk b2 30 [.slice C Z.nc cc, .slice D Z.nd cd, .slice B Z.nb cb], .blk b3 33 [.int .i64 T.hd, .int .i64 T.wo, .slice O T.no co, .slice U T.nu cu, .slice V T.nv cv]]) (fun k Ad ca N m => k ≤ Z.nb ∧ N = r3L Z (s 2) k ∧ m = N.length) (fun k Ad ca N m => Z.nb - k) 0 _ _ N m fs9 ?_ ?_ ?_
  exact ks9
  exact ⟨Nat.zero_le _, by rw [hL, r3_0], hm⟩
  rintro k Ad ca N m ⟨hk, hL, hm⟩ Z2 hZ2
  refine TW.seq fun Y31 hY31 => ?_
  refine TW.region ?_
  refine TL.p Pu.lt ?_
  refine TL.nil ?_
  refine TQ.thenN (hY31 _ _ ?_)
  refine TW.seq fun Y32 hY32 => ?_
  refine TW.cond rfl (fun hc6 => ?_) (fun hc6 => ?_)
  try simp only [decide_eq_true_eq, decide_eq_false_iff_not, Bool.not_eq_true', Bool.not_eq_false', Bool.and_eq_true, Bool.or_eq_true, Bool.and_eq_false_iff, Bool.or_eq_false_iff, Int.not_lt, Int.not_le] at hc6
  have hkn : k < Z.nb := by omega
  have hbd := hok.b k hkn
  have hmb : m ≤ 10000 := by rw [hm, hL, r3_len]; have := hok.nc; have := hok.nd; have := hok.nb; omega
  refine TW.skip ?_
  refine TQ.thenN (hY32 _ _ ?_)
  refine TW.seq fun Y33 hY33 => ?_
  refine TW.block ?_
  refine TW.seq fun Y34 hY34 => ?_
  refine TW.region ?_
  refine TL.p (Pu.el ty_et28) ?_
  refine TL.p (Pu.lds ty_ag75) ?_
  refine TL.m (Mk.al ty_zr75) ?_
  intro b13
  first | refine TL.st ty_sz75 ?_ | refine TL.se ty_sz75 ?_
  refine TL.nil ?_
  refine TQ.thenN (hY34 _ _ ?_)
  refine TW.region ?_
  refine TL.p Pu.mv ?_
  refine TL.p (by first | exact Pu.fb ty_fa75_1 | exact Pu.fe ty_fa75_1) ?_
  refine TL.p (Pu.ld ty_sc3) ?_
  refine TL.p (by first | exact Pu.fb ty_fa75_2 | exact Pu.fe ty_fa75_2) ?_
  refine TL.p (Pu.ld ty_sc3) ?_
  refine TL.p Pu.ad ?_
  refine TL.m Mk.bl ?_
  intro b14
  refine TL.obn (b := b14) (n := 2) (sz := 1) (r := iL [Z.b k 1, Z.b k 2 + 1]) pk9 rfl (fun _ _ => rfl) ?_
  first | refine TL.a0 ty_et31 ?_ | refine TL.ap ty_et31 ?_
  intro A15 c15
  refine TL.p Pu.as ?_
  refine TL.nil ?_
  refine TQ.blkN ?_
  refine TQ.thenN (hY33 _ _ ?_)
  refine TW.region ?_
  refine TL.p Pu.ad ?_
  refine TL.p Pu.mv ?_
  refine TL.nil ?_
  refine TQ.thenN (hZ2 (k + 1) _ _ (r3L Z (s 2) (k + 1)) _ _ _ ?_ ?_ fs9 ?_)
  exact ⟨by omega, rfl, by rw [hm, hL, r3_len, r3_len]; omega⟩
  exact (by first | omega | (simp only []; omega) | (simp; omega))
  exact KSub.own Pick.hd (iL_app2 hm (by rw [r3_s, hL]; rfl) rfl rfl) ks9
  try simp only [decide_eq_true_eq, decide_eq_false_iff_not, Bool.not_eq_true', Bool.not_eq_false', Bool.and_eq_true, Bool.or_eq_true, Bool.and_eq_false_iff, Bool.or_eq_false_iff, Int.not_lt, Int.not_le] at hc6
  obtain rfl : k = Z.nb := by omega
  have hLZ := hidT (r3_end hL)
  have hmb : m ≤ 10000 := by rw [hm, hL, r3_len]; have := hok.nc; have := hok.nd; have := hok.nb; omega
  have ht4 : t0 ∈ N := by rw [hLZ.out]; exact ht1
  obtain ⟨j0, hj0, ej0⟩ := mem_at ht4
  replace ej0 := hidT ej0
  clear hL ht1 ht4
  refine TW.exit ?_
  refine TQ.thenX ?_
  refine TQ.thenX ?_
  refine TQ.blkX ?_
  refine TQ.thenN (hY29 _ _ ?_)
  refine TW.seq fun Y35 hY35 => ?_
  refine TW.region ?_
  refine TL.p Pu.as ?_
  refine TL.nil ?_
  refine TQ.thenN (hY35 _ _ ?_)
  refine TW.seq fun Y36 hY36 => ?_
  refine TW.seq fun Y37 hY37 => ?_
  refine TW.region ?_
  refine TL.p Pu.mv ?_
  refine TL.p (Pu.ln Tryz.underlying31) ?_
  refine TL.p Pu.mv ?_
  refine TL.nil ?_
  refine TQ.thenN (hY37 _ _ ?_)
  refine TW.block ?_
  refine TW.loop2 (fun (k : Nat) (fo : Bool) => [(140, .int .i64 (k : Int)), (139, .int .i64 (m : Int)), (138, .slice Ad m ca), (29, .bool fo), (21, .pointer (some ⟨b5, 0, none⟩)), (15, .bool true), (18, .int .u8 r.1), (8, .pointer (some ⟨b2, 0, none⟩)), (9, .pointer (some ⟨b3, 0, none⟩))]) (fun k fo => [.own Ad m ca 3 1 (iL N), .blk b5 62 (stopL s), .blk b2 30 [.slice C Z.nc cc, .slice D Z.nd cd, .slice B Z.nb cb], .blk b3 33 [.int .i64 T.hd, .int .i64 T.wo, .slice O T.no co, .slice U T.nu cu, .slice V T.nv cv]]) (fun k fo => k ≤ m ∧ (j0 < k → fo = true)) (fun k fo => m - k) 0 false fs9 ?_ ?_ ?_
  exact ks9
  exact ⟨Nat.zero_le _, fun h => by omega⟩
  rintro k fo ⟨hk, hfo⟩ Z3 hZ3
  replace hfo := hidT hfo
  refine TW.seq fun Y38 hY38 => ?_
  refine TW.region ?_
  refine TL.p Pu.lt ?_
  refine TL.nil ?_
  refine TQ.thenN (hY38 _ _ ?_)
  refine TW.seq fun Y39 hY39 => ?_
  refine TW.cond rfl (fun hc7 => ?_) (fun hc7 => ?_)
  try simp only [decide_eq_true_eq, decide_eq_false_iff_not, Bool.not_eq_true', Bool.not_eq_false', Bool.and_eq_true, Bool.or_eq_true, Bool.and_eq_false_iff, Bool.or_eq_false_iff, Int.not_lt, Int.not_le] at hc7
  have hkm : k < m := by omega
  have hin9 : N.getD k 0 ∈ rulZ Z (s 2) := by rw [← hLZ.out]; exact mem_getD (by omega)
  have hdj : j0 = k → N.getD k 0 = t0 := fun e => by rw [← e]; exact ej0.out
  refine TW.skip ?_
  refine TQ.thenN (hY39 _ _ ?_)
  refine TW.seq fun Y40 hY40 => ?_
  refine TW.block ?_
  refine TW.seq fun Y41 hY41 => ?_
  refine TW.region ?_
  refine TL.p (Pu.el ty_et31) ?_
  refine TL.p (Pu.ld ty_sc3) ?_
  refine TL.p Pu.as ?_
  refine TL.nil ?_
  refine TQ.thenN (hY41 _ _ ?_)
  refine TW.seq fun Y42 hY42 => ?_
  refine TW.seq fun Y43 hY43 => ?_
  refine TW.join [(155, .bool (decide (N.getD k 0 < s 2) || decide (s 5 ≤ N.getD k 0)))] ?_ (fun hJ4 => ?_)
  refine TQ.thenN (hY43 _ _ ?_)
  refine TW.cond rfl (fun hc8 => ?_) (fun hc8 => ?_)
  try simp only [decide_eq_true_eq, decide_eq_false_iff_not, Bool.not_eq_true', Bool.not_eq_false', Bool.and_eq_true, Bool.or_eq_true, Bool.and_eq_false_iff, Bool.or_eq_false_iff, Int.not_lt, Int.not_le] at hc8
  have hout : j0 ≠ k := fun e => by
    have h1 := hdj e
    omega
  refine TW.exit ?_
  refine TQ.thenX ?_
  refine TQ.blkX ?_
  refine TQ.thenN (hY40 _ _ ?_)
  refine TW.region ?_
  refine TL.p Pu.ad ?_
  refine TL.p Pu.mv ?_
  refine TL.nil ?_
  refine TQ.thenN (hZ3 (k + 1) _ _ _ ?_ ?_ fs9 ?_)
  first
    | exact ⟨by omega, fun h9 => by rw [Bool.or_eq_true]; by_cases e : j0 = k; exact .inr (hgot e); exact .inl (hfo.out (by omega))⟩
    | exact ⟨by omega, fun h9 => hfo.out (by omega)⟩
  exact (by first | omega | (simp only []; omega) | (simp; omega))
  exact ks9
  try simp only [decide_eq_true_eq, decide_eq_false_iff_not, Bool.not_eq_true', Bool.not_eq_false', Bool.and_eq_true, Bool.or_eq_true, Bool.and_eq_false_iff, Bool.or_eq_false_iff, Int.not_lt, Int.not_le] at hc8
  have hdr : s 2 ≤ N.getD k 0 ∧ N.getD k 0 < s 5 := by omega
  have hles : ∀ q : Nat, (q : Int) < r.1 → brN Z T (s 0) (N.getD k 0) q = false := fun q hq => by
    cases e : brN Z T (s 0) (N.getD k 0) q with
    | false => rfl
    | true =>
      obtain ⟨h1, h2⟩ := brN_less e (by omega)
      have := hwl (N.getD k 0) (tu_of hin9 hdr.1 (by omega)) h1
      omega
  have hgot : j0 = k → brN Z T (s 0) (N.getD k 0) r.1.toNat = true := fun e => by
    have h1 := hwt.out
    rw [← hdj e] at h1
    have h2 := brN_why (Z := Z) (T := T) (leg := s 0) (d := N.getD k 0) (by omega)
    rwa [h1] at h2
  refine TW.skip ?_
  refine TQ.thenN (hY42 _ _ ?_)
  refine TW.seq fun Y44 hY44 => ?_
  refine TW.region ?_
  refine TL.p (Pu.lds ty_ag30) ?_
  refine TL.p (Pu.lds ty_ag33) ?_
  refine TL.p (by first | exact Pu.fb ty_fa62_0 | exact Pu.fe ty_fa62_0) ?_
  refine TL.p (Pu.ld ty_sc3) ?_
  refine TL.p Pu.mv ?_
  refine TL.cr rfl (enters Tryz.func32 rfl rfl) (fun w hw => by
      exact fK _ _ _ htr ((a.cust g.gr).ext (Chg.ext hw.chg)) ((a.trp g.gr).ext (Chg.ext hw.chg))) ?_
  refine TL.m (Mk.al ty_zr67) ?_
  intro b16
  first | refine TL.st ty_sz67 ?_ | refine TL.se ty_sz67 ?_
  refine TL.nil ?_
  refine TQ.thenN (hY44 _ _ ?_)
  refine TW.subK (KSub.ofBlk (b := b16) (n := 4) (sz := 1) (r := fun i => [.bool (brN Z T (s 0) (N.getD k 0) i)]) pk9 rfl (fun _ _ => rfl) rfl rfl (KSub.refl _)) ?_
  refine TW.seq fun Y45 hY45 => ?_
  refine TW.join [(29, .bool (fo || brN Z T (s 0) (N.getD k 0) r.1.toNat))] ?_ (fun hJ5 => ?_)
  refine TQ.thenN (hY45 _ _ ?_)
  refine TW.seq fun Y46 hY46 => ?_
  refine TW.region ?_
  refine TL.p Pu.mv ?_
  refine TL.p (Pu.cv (v := .int .i64 r.1) rfl (fun w => by go_simp; rw [IntWalk.i64_in r.1 (by omega)])) ?_
  refine TL.p Pu.mv ?_
  refine TL.nil ?_
  refine TQ.thenN (hY46 _ _ ?_)
  refine TW.block ?_
  refine TW.loop1 (fun (q : Nat) => [(170, .int .i64 (q : Int)), (169, .int .i64 r.1), (32, .pointer (some ⟨b16, 0, none⟩)), (29, .bool (fo || brN Z T (s 0) (N.getD k 0) r.1.toNat)), (140, .int .i64 (k : Int)), (139, .int .i64 (m : Int)), (138, .slice Ad m ca), (21, .pointer (some ⟨b5, 0, none⟩)), (15, .bool true), (18, .int .u8 r.1), (8, .pointer (some ⟨b2, 0, none⟩)), (9, .pointer (some ⟨b3, 0, none⟩))]) (fun q => [.own (some ⟨b16, 0, none⟩) 4 4 67 1 (fun i => [.bool (brN Z T (s 0) (N.getD k 0) i)]), .own Ad m ca 3 1 (iL N), .blk b5 62 (stopL s), .blk b2 30 [.slice C Z.nc cc, .slice D Z.nd cd, .slice B Z.nb cb], .blk b3 33 [.int .i64 T.hd, .int .i64 T.wo, .slice O T.no co, .slice U T.nu cu, .slice V T.nv cv]]) (fun q => (q : Int) ≤ r.1) (fun q => (r.1 - q).toNat) 0 fs9 ?_ ?_ ?_
  exact ks9
  exact (by omega)
  rintro q hq Z4 hZ4
  refine TW.seq fun Y47 hY47 => ?_
  refine TW.region ?_
  refine TL.p Pu.lt ?_
  refine TL.nil ?_
  refine TQ.thenN (hY47 _ _ ?_)
  refine TW.seq fun Y48 hY48 => ?_
  refine TW.cond rfl (fun hc9 => ?_) (fun hc9 => ?_)
  try simp only [decide_eq_true_eq, decide_eq_false_iff_not, Bool.not_eq_true', Bool.not_eq_false', Bool.and_eq_true, Bool.or_eq_true, Bool.and_eq_false_iff, Bool.or_eq_false_iff, Int.not_lt, Int.not_le] at hc9
  refine TW.skip ?_
  refine TQ.thenN (hY48 _ _ ?_)
  refine TW.seq fun Y49 hY49 => ?_
  refine TW.block ?_
  refine TW.seq fun Y50 hY50 => ?_
  refine TW.region ?_
  refine TL.p Pu.mv ?_
  refine TL.p Pu.as ?_
  refine TL.nil ?_
  refine TQ.thenN (hY50 _ _ ?_)
  refine TW.seq fun Y51 hY51 => ?_
  refine TW.region ?_
  refine TL.p Pu.mv ?_
  refine TL.p (Pu.ea (q := q) ty_ar67) ?_
  refine TL.p (Pu.ld ty_sc4) ?_
  refine TL.nil ?_
  refine TQ.thenN (hY51 _ _ ?_)
  refine TW.condF rfl (hles q (by omega)) ?_
  refine TW.skip ?_
  refine TQ.blkN ?_
  refine TQ.thenN (hY49 _ _ ?_)
  refine TW.region ?_
  refine TL.p Pu.ad ?_
  refine TL.p Pu.mv ?_
  refine TL.nil ?_
  refine TQ.thenN (hZ4 (q + 1) _ _ ?_ ?_ fs9 ?_)
  exact (by omega)
  exact (by first | omega | (simp only []; omega) | (simp; omega))
  exact ks9
  try simp only [decide_eq_true_eq, decide_eq_false_iff_not, Bool.not_eq_true', Bool.not_eq_false', Bool.and_eq_true, Bool.or_eq_true, Bool.and_eq_false_iff, Bool.or_eq_false_iff, Int.not_lt, Int.not_le] at hc9
  refine TW.exit ?_
  refine TQ.thenX ?_
  refine TQ.thenX ?_
  refine TQ.blkX ?_
  refine TQ.blkN ?_
  refine TQ.thenN (hY40 _ _ ?_)
  refine TW.region ?_
  refine TL.p Pu.ad ?_
  refine TL.p Pu.mv ?_
  refine TL.nil ?_
  refine TQ.thenN (hZ3 (k + 1) _ _ _ ?_ ?_ fs9 ?_)
  first
    | exact ⟨by omega, fun h9 => by rw [Bool.or_eq_true]; by_cases e : j0 = k; exact .inr (hgot e); exact .inl (hfo.out (by omega))⟩
    | exact ⟨by omega, fun h9 => hfo.out (by omega)⟩
  exact (by first | omega | (simp only []; omega) | (simp; omega))
  exact ks9
  refine TW.region ?_
  refine TL.p Pu.mv ?_
  refine TL.p Pu.mv ?_
  refine TL.guard (t := 163) rfl (fun hg1 => ?_) (fun hg1 => ?_)
  try simp only [decide_eq_true_eq, decide_eq_false_iff_not, Bool.not_eq_true', Bool.not_eq_false', Int.natCast_pos] at hg1
  refine TL.gs ?_
  refine TL.gs ?_
  refine TL.gs ?_
  refine TL.p Pu.kt ?_
  refine TL.p Pu.as ?_
  refine TL.nil ?_
  exact TQ.sub (by repeat (first | exact trivial | refine ⟨rfl, ?_⟩ | refine ⟨trivial, ?_⟩ | refine ⟨(by show some (Value.bool _) = some (Value.bool _); first | (simp [hg1]; done) | (refine congrArg (fun z => some (Value.bool z)) (Bool.eq_iff_iff.2 ?_); simp [hg1]; omega)), ?_⟩)) ks9 hJ5
  try simp only [decide_eq_true_eq, decide_eq_false_iff_not, Bool.not_eq_true', Bool.not_eq_false', Int.natCast_pos] at hg1
  refine TL.gd Pu.mv ?_
  refine TL.gd (Pu.ea (q := r.1.toNat) ty_ar67 (hk := rfl)) ?_
  refine TL.gd (Pu.ld ty_sc4) ?_
  refine TL.p Pu.kf ?_
  refine TL.p Pu.as ?_
  refine TL.nil ?_
  exact TQ.sub (by repeat (first | exact trivial | refine ⟨rfl, ?_⟩ | refine ⟨trivial, ?_⟩ | refine ⟨(by show some (Value.bool _) = some (Value.bool _); first | (simp [hg1]; done) | (refine congrArg (fun z => some (Value.bool z)) (Bool.eq_iff_iff.2 ?_); simp [hg1]; omega)), ?_⟩)) ks9 hJ5
  refine TW.region ?_
  refine TL.p Pu.mv ?_
  refine TL.p (by first | exact Pu.fb ty_fa62_2 | exact Pu.fe ty_fa62_2) ?_
  refine TL.p (by first | exact Pu.fb ty_fa35_0 | exact Pu.fe ty_fa35_0) ?_
  refine TL.p (Pu.ld ty_sc3) ?_
  refine TL.p Pu.lt ?_
  refine TL.p Pu.mv ?_
  refine TL.guard (t := 149) rfl (fun hg2 => ?_) (fun hg2 => ?_)
  try simp only [decide_eq_true_eq, decide_eq_false_iff_not, Bool.not_eq_true', Bool.not_eq_false', Int.natCast_pos] at hg2
  refine TL.gs ?_
  refine TL.gs ?_
  refine TL.gs ?_
  refine TL.gs ?_
  refine TL.gs ?_
  refine TL.p Pu.kt ?_
  refine TL.nil ?_
  exact TQ.sub (by repeat (first | exact trivial | refine ⟨rfl, ?_⟩ | refine ⟨trivial, ?_⟩ | refine ⟨(by show some (Value.bool _) = some (Value.bool _); first | (simp [hg2, -List.getD_eq_getElem?_getD]; done) | (refine congrArg (fun z => some (Value.bool z)) (Bool.eq_iff_iff.2 ?_); simp [hg2, -List.getD_eq_getElem?_getD]; omega)), ?_⟩)) ks9 hJ4
  try simp only [decide_eq_true_eq, decide_eq_false_iff_not, Bool.not_eq_true', Bool.not_eq_false', Int.natCast_pos] at hg2
  refine TL.gd Pu.mv ?_
  refine TL.gd (by first | exact Pu.fb ty_fa62_3 | exact Pu.fe ty_fa62_3) ?_
  refine TL.gd (by first | exact Pu.fb ty_fa35_1 | exact Pu.fe ty_fa35_1) ?_
  refine TL.gd (Pu.ld ty_sc3) ?_
  refine TL.gd Pu.ge ?_
  refine TL.p Pu.kf ?_
  refine TL.nil ?_
  exact TQ.sub (by repeat (first | exact trivial | refine ⟨rfl, ?_⟩ | refine ⟨trivial, ?_⟩ | refine ⟨(by show some (Value.bool _) = some (Value.bool _); first | (simp [hg2, -List.getD_eq_getElem?_getD]; done) | (refine congrArg (fun z => some (Value.bool z)) (Bool.eq_iff_iff.2 ?_); simp [hg2, -List.getD_eq_getElem?_getD]; omega)), ?_⟩)) ks9 hJ4
  try simp only [decide_eq_true_eq, decide_eq_false_iff_not, Bool.not_eq_true', Bool.not_eq_false', Bool.and_eq_true, Bool.or_eq_true, Bool.and_eq_false_iff, Bool.or_eq_false_iff, Int.not_lt, Int.not_le] at hc7
  obtain rfl : k = m := by omega
  have hfin := hfo.out (by omega)
  refine TW.exit ?_
  refine TQ.thenX ?_
  refine TQ.thenX ?_
  refine TQ.blkX ?_
  refine TQ.thenN (hY36 _ _ ?_)
  refine TW.seq fun Y52 hY52 => ?_
  refine TW.region ?_
  refine TL.p Pu.mv ?_
  refine TL.p Pu.mv ?_
  refine TL.lit (t := 179) (b' := true) rfl (rfl) ?_
  refine TL.gd Pu.mv ?_
  refine TL.p Pu.kt ?_
  refine TL.p Pu.as ?_
  refine TL.nil ?_
  refine TQ.thenN (hY52 _ _ ?_)
  refine TW.ret ?_
  refine TQ.ret Tryz.results5 rfl ((.tmp rfl .nil)) ?_
  exact fun w hw => ⟨ret_b hfin, Chg.ext hw.chg⟩
  refine TW.region ?_
  refine TL.p Pu.mv ?_
  refine TL.p Pu.lt ?_
  refine TL.p Pu.mv ?_
  refine TL.guard (t := 76) rfl (fun hg3 => ?_) (fun hg3 => ?_)
  try simp only [decide_eq_true_eq, decide_eq_false_iff_not, Bool.not_eq_true', Bool.not_eq_false', Int.natCast_pos] at hg3
  refine TL.gs ?_
  refine TL.gs ?_
  refine TL.gs ?_
  refine TL.gs ?_
  refine TL.p Pu.kt ?_
  refine TL.nil ?_
  exact TQ.sub (by repeat (first | exact trivial | refine ⟨rfl, ?_⟩ | refine ⟨trivial, ?_⟩ | refine ⟨(by show some (Value.bool _) = some (Value.bool _); first | (simp [hg3]; done) | (refine congrArg (fun z => some (Value.bool z)) (Bool.eq_iff_iff.2 ?_); simp [hg3]; omega)), ?_⟩)) ks9 hJ3
  try simp only [decide_eq_true_eq, decide_eq_false_iff_not, Bool.not_eq_true', Bool.not_eq_false', Int.natCast_pos] at hg3
  refine TL.gd Pu.mv ?_
  refine TL.gd Pu.mv ?_
  refine TL.gd (Pu.ln Tryz.underlying58) ?_
  refine TL.gd Pu.ge ?_
  refine TL.p Pu.kf ?_
  refine TL.nil ?_
  exact TQ.sub (by repeat (first | exact trivial | refine ⟨rfl, ?_⟩ | refine ⟨trivial, ?_⟩ | refine ⟨(by show some (Value.bool _) = some (Value.bool _); first | (simp [hg3]; done) | (refine congrArg (fun z => some (Value.bool z)) (Bool.eq_iff_iff.2 ?_); simp [hg3]; omega)), ?_⟩)) ks9 hJ3
  refine TW.region ?_
  refine TL.p Pu.mv ?_
  refine TL.p Pu.ne ?_
  refine TL.lit (t := 66) (b' := false) rfl ((by simp)) ?_
  refine TL.p Pu.mv ?_
  refine TL.gd Pu.mv ?_
  refine TL.gd Pu.gt ?_
  refine TL.lit (t := 69) (b' := false) rfl ((decide_eq_false (by omega))) ?_
  refine TL.p Pu.kf ?_
  refine TL.nil ?_
  exact TQ.sub (by repeat (first | exact trivial | refine ⟨rfl, ?_⟩ | refine ⟨trivial, ?_⟩ | refine ⟨(by show some (Value.bool _) = some (Value.bool _); first | (simp []; done) | (refine congrArg (fun z => some (Value.bool z)) (Bool.eq_iff_iff.2 ?_); simp []; omega)), ?_⟩)) ks9 hJ2
  refine TW.region ?_
  refine TL.p Pu.mv ?_
  refine TL.p Pu.no ?_
  refine TL.p Pu.mv ?_
  refine TL.guard (t := 48) rfl (fun hg4 => ?_) (fun hg4 => ?_)
  try simp only [decide_eq_true_eq, decide_eq_false_iff_not, Bool.not_eq_true', Bool.not_eq_false', Int.natCast_pos] at hg4
  refine TL.gs ?_
  refine TL.gs ?_
  refine TL.p Pu.kt ?_
  refine TL.nil ?_
  exact TQ.sub (by repeat (first | exact trivial | refine ⟨rfl, ?_⟩ | refine ⟨trivial, ?_⟩ | refine ⟨(by show some (Value.bool _) = some (Value.bool _); first | (simp [hg4]; done) | (refine congrArg (fun z => some (Value.bool z)) (Bool.eq_iff_iff.2 ?_); simp [hg4]; omega)), ?_⟩)) ks9 hJ1
  try simp only [decide_eq_true_eq, decide_eq_false_iff_not, Bool.not_eq_true', Bool.not_eq_false', Int.natCast_pos] at hg4
  refine TL.gd Pu.mv ?_
  refine TL.gd Pu.no ?_
  refine TL.p Pu.kf ?_
  refine TL.nil ?_
  exact TQ.sub (by repeat (first | exact trivial | refine ⟨rfl, ?_⟩ | refine ⟨trivial, ?_⟩ | refine ⟨(by show some (Value.bool _) = some (Value.bool _); first | (simp [hg4]; done) | (refine congrArg (fun z => some (Value.bool z)) (Bool.eq_iff_iff.2 ?_); simp [hg4]; omega)), ?_⟩)) ks9 hJ1
end
end Go.Proofs.YtmonkjnfjgidbaaGreatDoor
