/-
  Part 8 of the proof of loadExamples_holds: declarations of several texts, in build order. No condition on a program.
-/
import Derived.Test.YtjephihlkjpohaaGreatDoorExam07
import Derived.Test.YtjephihlkjpohaaGreatDoorExam06
import Derived.Test.YtjephihlkjpohaaGreatDoorExam05
namespace Go.Proofs.YtjephihlkjpohaaGreatDoor
set_option linter.all false
set_option linter.unusedVariables false
set_option linter.unusedSimpArgs false
open Go.RowKit
def wL (r : Nat → Int) (L : List Int) : Int := wS r (fun k => L.getD k 0) L.length
def InxL (L : List Int) (nr : Nat) : Prop := ∀ x ∈ L, 0 ≤ x ∧ x < nr
theorem InxL.inx {L : List Int} {nr : Nat} (h : InxL L nr) : Inx (fun k => L.getD k 0) L.length nr := fun k hk => h _ (mem_getD hk)
theorem mem_mvd {S C M : List Int} {x : Int} : x ∈ mvd S C M ↔ x ∈ S ∧ x ∉ M ∨ x ∈ C ∧ x ∈ M := by
  unfold mvd
  rw [mem_srt, List.mem_append, List.mem_filter, List.mem_filter]
  simp
theorem InxL.mvd {S C M : List Int} {nr : Nat} (h : InxL S nr) (k : InxL C nr) : InxL (mvd S C M) nr := fun x hx => by
  rcases mem_mvd.1 hx with h1 | h1
  · exact h x h1.1
  · exact k x h1.1
theorem mvd_len {S C M : List Int} : (mvd S C M).length ≤ S.length + C.length := by
  unfold mvd
  rw [srt_len, List.length_append]
  have h4 := List.length_filter_le (fun x => !M.contains x) S
  have h5 := List.length_filter_le (fun x => M.contains x) C
  omega
def mvOk (r0 r1 : Nat → Int) (b : Int) (L0 L1 M : List Int) : Bool := decide (balV (wL r0 (mvd L0 L1 M)) (wL r1 (mvd L0 L1 M)) (wL r0 (mvd L1 L0 M)) (wL r1 (mvd L1 L0 M)) b = 2)
theorem lt2 {P : Nat → Prop} (h0 : P 0) (h1 : P 1) : ∀ j, j < 2 → P j := fun j hj => by
  have : j = 0 ∨ j = 1 := by omega
  rcases this with rfl | rfl
  · exact h0
  · exact h1
theorem movedBal_any {w : World} {nr cr : Nat} {a : Nat → Option Addr} {l c : Nat → Nat} {Ar : Option Addr} {r0 r1 : Nat → Int} {L0 L1 M : List Int} {x : MVx} {b : Int} (hr : RestOk r0 r1 nr) (hb : 0 ≤ b ∧ b ≤ 1000000000000) (h0 : L0.length + L1.length ≤ 1000) (i0 : InxL L0 nr) (i1 : InxL L1 nr)
    (hR : RdR w 2 Ar nr (fun q => spL (r0 q) (r1 q))) (hL0 : RdR w 1 x.1.1 (mvd L0 L1 M).length (iL (mvd L0 L1 M))) (hL1 : RdR w 1 x.2.1 (mvd L1 L0 M).length (iL (mvd L1 L0 M))) :
    Calls Tryz.prog 68 #[.agg (mvT a l c L0 L1 M x ++ [Value.slice Ar nr cr]).toArray, .int .i64 b] w (Ret w (.int .u8 (balV (wL r0 (mvd L0 L1 M)) (wL r1 (mvd L0 L1 M)) (wL r0 (mvd L1 L0 M)) (wL r1 (mvd L1 L0 M)) b))) := by
  have m0 := mvd_len (S := L0) (C := L1) (M := M)
  have m1 := mvd_len (S := L1) (C := L0) (M := M)
  exact balance_any (a := fun j => if j = 0 then x.1.1 else if j = 1 then x.2.1 else a 2) (l := fun j => if j = 0 then (mvd L0 L1 M).length else if j = 1 then (mvd L1 L0 M).length else l 2) (c := fun j => if j = 0 then x.1.2 else if j = 1 then x.2.2 else c 2)
    (v := fun j => if j = 0 then fun k => (mvd L0 L1 M).getD k 0 else fun k => (mvd L1 L0 M).getD k 0) hr hb
    (lt2 (P := fun j => (if j = 0 then (mvd L0 L1 M).length else if j = 1 then (mvd L1 L0 M).length else l 2) ≤ 1000) (by show (mvd L0 L1 M).length ≤ 1000; omega) (by show (mvd L1 L0 M).length ≤ 1000; omega))
    (lt2 (P := fun j => Inx (if j = 0 then fun k => (mvd L0 L1 M).getD k 0 else fun k => (mvd L1 L0 M).getD k 0) (if j = 0 then (mvd L0 L1 M).length else if j = 1 then (mvd L1 L0 M).length else l 2) nr) (i0.mvd i1).inx (i1.mvd i0).inx) hR
    (lt2 (P := fun j => RdR w 1 (if j = 0 then x.1.1 else if j = 1 then x.2.1 else a 2) (if j = 0 then (mvd L0 L1 M).length else if j = 1 then (mvd L1 L0 M).length else l 2) (fun k => [.int .i64 ((if j = 0 then fun k => (mvd L0 L1 M).getD k 0 else fun k => (mvd L1 L0 M).getD k 0) k)])) hL0 hL1)
theorem KSub.valI {K K' L : List Fact} {b : Nat} {E : TypeId} {k : IntKind} {i j : Int} (hp : Pick K (.blk b E [.int k i]) K') (e : i = j) (h : KSub K' L) : KSub K (.blk b E [.int k j] :: L) := by
  subst e; exact .cons hp h
theorem concat2_any {w : World} {A0 A1 : Option Addr} {n0 n1 c0 c1 b E : Nat} {L0 L1 : List Int} (h0 : n0 = L0.length) (h1 : n1 = L1.length) (h2 : n0 + n1 ≤ 1000000) (hb : Blk w b E #[.slice A0 n0 c0, .slice A1 n1 c1]) (hR0 : RdR w 1 A0 n0 (iL L0)) (hR1 : RdR w 1 A1 n1 (iL L1)) :
    CallsK Tryz.prog 94 #[.slice (some ⟨b, 0, none⟩) 2 2] [] w (Option Addr × Nat) (fun x => .slice x.1 (L0 ++ L1).length x.2) (fun x => [.own x.1 (L0 ++ L1).length x.2 3 1 (iL (L0 ++ L1))]) := by
  subst h0 h1
  have e : tot (fun i => if i = 0 then L0.length else L1.length) 2 = (L0 ++ L1).length := by simp [tot]
  refine (concat_any (a := fun i => if i = 0 then A0 else A1) (l := fun i => if i = 0 then L0.length else L1.length) (c := fun i => if i = 0 then c0 else c1) (v := fun i => if i = 0 then fun k => L0.getD k 0 else fun k => L1.getD k 0) (by decide) (by rw [e, List.length_append]; omega)
    (RdR.blk (cs := [.slice A0 L0.length c0, .slice A1 L1.length c1]) hb rfl (fun i hi => rfl)) (lt2 (P := fun i => RdR w 1 (if i = 0 then A0 else A1) (if i = 0 then L0.length else L1.length) (fun k => [.int .i64 ((if i = 0 then fun k => L0.getD k 0 else fun k => L1.getD k 0) k)])) hR0 hR1)).mono ?_
  rintro e' w' ⟨x, rfl, hs⟩
  refine ⟨x, by rw [e], ?_⟩
  rw [e] at hs
  refine hs.sub (KSub.own Pick.hd (fun i hi => ?_) KSub.nil)
  rw [← iL_cat rfl]
  simp only [catN, catR, tot, iL, Nat.zero_add, Nat.not_lt_zero, if_false, if_true, Nat.sub_zero]
  by_cases h : i < L0.length
  · rw [if_pos h, if_pos h]
  · rw [if_neg h, if_neg h]; rfl
def setJ (bT bB bS bF : Nat) (tl : List Value) (b : Int) (s : List Int × Nat) (r : Option Addr × Nat) : List Fact :=
  [.blk bF 3 [.int .i64 (s.2 : Int)], .blk bS 24 [.slice r.1 s.1.length r.2], .own r.1 s.1.length r.2 3 1 (iL s.1), .blk bT 112 tl, .blk bB 3 [.int .i64 b]]
def sidesL (L0 L1 : List Int) : List Int := srt (L0 ++ L1)
def bestS (r0 r1 : Nat → Int) (b : Int) (L0 L1 : List Int) (q : Nat) : List Int × Nat := setRun (sidesL L0 L1) (mvOk r0 r1 b L0 L1) q
def bestE (r0 r1 : Nat → Int) (b : Int) (L0 L1 : List Int) : List Int × Nat := bestS r0 r1 b L0 L1 (2 ^ (L0.length + L1.length))
def bestC (r0 r1 : Nat → Int) (b : Int) (L0 L1 : List Int) : Int := if (bestE r0 r1 b L0 L1).2 ≤ L0.length + L1.length then 0 else 52
theorem sides_len {L0 L1 : List Int} : (sidesL L0 L1).length = L0.length + L1.length := by unfold sidesL; rw [srt_len, List.length_append]
theorem bestS_step {r0 r1 : Nat → Int} {b : Int} {L0 L1 : List Int} {q n : Nat} (hn : n = L0.length + L1.length) : bestS r0 r1 b L0 L1 (q + 1) = setStep (mvOk r0 r1 b L0 L1) (bestS r0 r1 b L0 L1 q) (sel (sidesL L0 L1) q n) := by
  subst hn
  unfold bestS
  rw [← sides_len]
  rfl
set_option maxRecDepth 100000 in
set_option maxHeartbeats 4000000 in
theorem settle_any {W : World} {nr cr : Nat} {a : Nat → Option Addr} {l c : Nat → Nat} {Ar : Option Addr} {r0 r1 : Nat → Int} {L0 L1 : List Int} {b : Int} (h0 : l 0 = L0.length) (h1 : l 1 = L1.length) (hl : l 0 + l 1 ≤ 30) (hr : RestOk r0 r1 nr) (hb : 0 ≤ b ∧ b ≤ 1000000000000) (i0 : InxL L0 nr) (i1 : InxL L1 nr)
    (hR : RdR W 2 Ar nr (fun q => spL (r0 q) (r1 q))) (hL0 : RdR W 1 (a 0) (l 0) (iL L0)) (hL1 : RdR W 1 (a 1) (l 1) (iL L1)) :
    TryK Tryz.prog 52 #[.agg (tiedL a l c Ar nr cr).toArray, .int .i64 b] [] (Option Addr × Nat) (fun x => .slice x.1 (bestE r0 r1 b L0 L1).1.length x.2) (fun x => [.own x.1 (bestE r0 r1 b L0 L1).1.length x.2 3 1 (iL (bestE r0 r1 b L0 L1).1)]) errs (bestC r0 r1 b L0 L1) W := by
  replace h0 : l 0 ≤ L0.length ∧ L0.length ≤ l 0 := ⟨Nat.le_of_eq h0, Nat.le_of_eq h0.symm⟩
  replace h1 : l 1 ≤ L1.length ∧ L1.length ≤ l 1 := ⟨Nat.le_of_eq h1, Nat.le_of_eq h1.symm⟩
  have hlen : (L0 ++ L1).length ≤ 30 ∧ (L0 ++ L1).length ≤ L0.length + L1.length ∧ L0.length + L1.length ≤ (L0 ++ L1).length := by rw [List.length_append]; omega
  unfold TryK tiedL
  refine K_enterM (S := []) (K := []) Tryz.func52 rfl Tryz.ntmps52 rfl (Sat.start _) ?_
  refine TW.seqD fun Y1 hY1 => ?_
  refine TW.region ?_
  refine TL.m Mk.bx ?_
  intro b1
  refine TL.m Mk.bx ?_
  intro b2
  refine TL.p Pu.as ?_
  refine TL.nil ?_
  refine TQ.thenN (hY1 _ _ _ ?_)
  refine TW.seqD fun Y2 hY2 => ?_
  refine TW.region ?_
  refine TL.p (by first | exact Pu.fb ty_fa112_0 | exact Pu.fe ty_fa112_0) ?_
  refine TL.p (by first | exact Pu.fb ty_fa36_0 | exact Pu.fe ty_fa36_0) ?_
  refine TL.p (Pu.ld ty_sc24) ?_
  refine TL.p (by first | exact Pu.fb ty_fa112_0 | exact Pu.fe ty_fa112_0) ?_
  refine TL.p (by first | exact Pu.fb ty_fa36_1 | exact Pu.fe ty_fa36_1) ?_
  refine TL.p (Pu.ld ty_sc24) ?_
  refine TL.m Mk.bl ?_
  intro b3
  refine TL.call (M := []) rfl (enters Tryz.func94 rfl rfl) (List.Perm.refl _) rfl (fun w hw => by
      exact concat2_any (Nat.le_antisymm h0.1 h0.2) (Nat.le_antisymm h1.1 h1.2) (by omega) (hw.holds (.blk b3 24 [.slice (a 0) (l 0) (c 0), .slice (a 1) (l 1) (c 1)]) (by simp)) (hL0.sat hw Apart.nil) (hL1.sat hw Apart.nil)) ?_
  rintro ⟨A4, c4⟩
  obtain ⟨n, hn⟩ : ∃ n, n = (L0 ++ L1).length := ⟨_, rfl⟩
  refine TL.p Pu.as ?_
  refine TL.nil ?_
  refine TQ.thenN (hY2 _ _ _ ?_)
  refine TW.seqD fun Y3 hY3 => ?_
  refine TW.region ?_
  refine TL.p Pu.mv ?_
  refine TL.call rfl (enters Tryz.func54 rfl rfl) (List.Perm.refl _) rfl (fun w hw => by
      exact sortI_any rfl (by omega) (hw.holds (.own A4 (L0 ++ L1).length c4 3 1 (iL (L0 ++ L1))) (List.mem_cons_self ..))) ?_
  intro _
  refine TL.nil ?_
  refine TQ.thenN (hY3 _ _ _ ?_)
  refine TW.seqD fun Y4 hY4 => ?_
  refine TW.region ?_
  refine TL.m (Mk.al ty_zr24) ?_
  intro b4
  refine TL.nil ?_
  refine TQ.thenN (hY4 _ _ _ ?_)
  refine TW.seqD fun Y5 hY5 => ?_
  refine TW.region ?_
  refine TL.p Pu.mv ?_
  refine TL.p (Pu.ln Tryz.underlying24) ?_
  refine TL.p Pu.ad ?_
  refine TL.m (Mk.al ty_zr3) ?_
  intro b5
  first | refine TL.st ty_sz3 ?_ | refine TL.se ty_sz3 ?_
  refine TL.nil ?_
  refine TQ.thenN (hY5 _ _ _ ?_)
  refine TW.seqD fun Y6 hY6 => ?_
  refine TW.seqD fun Y7 hY7 => ?_
  refine TW.region ?_
  refine TL.p Pu.mv ?_
  refine TL.call (M := []) rfl (enters Tryz.func95 rfl rfl) (List.Perm.refl _) rfl (fun w hw => by
      exact sets_any) ?_
  rintro bL
  refine TL.nil ?_
  refine TQ.thenN (hY7 _ _ _ ?_)
  refine TW.block ?_
  refine TW.range (fun (q : Nat) (r : Option Addr × Nat) => setJ b1 b2 b4 b5 [.slice (a 0) (l 0) (c 0), .slice (a 1) (l 1) (c 1), .slice (a 2) (l 2) (c 2), .slice Ar nr cr] b (bestS r0 r1 b L0 L1 q) r) (fun x : Empty => x.elim) (fun x => x.elim) ((none, 0)) (sets1_iter (A := A4) (n := (L0 ++ L1).length) (cp := c4) (b := bL) (L := sidesL L0 L1) (srt_len _).symm hlen.1) ?_ ?_ ?_ ?_ (eg := enters Tryz.func131 rfl rfl)
  · unfold setsM setJ
    refine KSub.cons (by repeat (first | exact Pick.hd | apply Pick.tl)) (KSub.cons (by repeat (first | exact Pick.hd | apply Pick.tl)) (KSub.valI (by repeat (first | exact Pick.hd | apply Pick.tl)) ?_ (KSub.cons (by repeat (first | exact Pick.hd | apply Pick.tl)) (KSub.nilOwn (KSub.cons (by repeat (first | exact Pick.hd | apply Pick.tl)) (KSub.cons (by repeat (first | exact Pick.hd | apply Pick.tl)) KSub.nil))))))
    show (((L0 ++ L1).length : Nat) : Int) + 1 = (((sidesL L0 L1).length + 1 : Nat) : Int)
    rw [sides_len]
    omega
  · rintro lR DR oR oR1 oR2 q ⟨B, cb⟩ ⟨A7, c7⟩ hq ZR0 hZR0
    simp only [setsY, setsM, setJ, List.cons_append, List.nil_append]
    generalize hS : bestS r0 r1 b L0 L1 q = s at *
    have hsl := sel_len (L := sidesL L0 L1) (b := q) (L0 ++ L1).length
    have hsb : s.2 ≤ (L0 ++ L1).length + 1 ∧ s.1.length ≤ (L0 ++ L1).length := by
      have := setRun_le (L := sidesL L0 L1) (ok := mvOk r0 r1 b L0 L1) q
      rw [sides_len] at this
      rw [← hS]
      unfold bestS
      omega
    have hstep := bestS_step (r0 := r0) (r1 := r1) (b := b) (q := q) (show (L0 ++ L1).length = L0.length + L1.length by omega)
    rw [hS] at hstep
    generalize hM : sel (sidesL L0 L1) q (L0 ++ L1).length = M at *
    refine TWi.region ?_
    refine TL.p Pu.as ?_
    refine TL.nil ?_
    refine TQ.thenN (hZR0 _ _ _ Pick.hd ?_)
    refine TWi.block ?_
    refine TWi.seq fun Y8 hY8 => ?_
    refine TWi.join [(40, .bool (decide ((M.length : Int) < (s.2 : Int)) || (decide ((M.length : Int) = (s.2 : Int)) && decide (cmpI M s.1 < 0))))] ?_ (fun hJ1 => ?_)
    · refine TQ.thenN (hY8 _ _ ?_)
      refine TWi.cond rfl (fun hc0 => ?_) (fun hc0 => ?_)
      · try simp only [decide_eq_true_eq, decide_eq_false_iff_not, Bool.not_eq_true', Bool.not_eq_false', Bool.and_eq_true, Bool.or_eq_true, Bool.and_eq_false_iff, Bool.or_eq_false_iff, Int.not_lt, Int.not_le] at hc0
        have hbetter : M.length < s.2 ∨ M.length = s.2 ∧ cmpI M s.1 < 0 := by
          rcases hc0 with h | ⟨h, h'⟩
          · exact .inl (by omega)
          · exact .inr ⟨by omega, h'⟩
        refine TWi.seq fun Y9 hY9 => ?_
        refine TWi.dw 6 ?_
        refine RK.tk (Pu.lds ty_ag112) ?_
        refine RK.tk Pu.mv ?_
        refine RK.keep ?_
        refine RK.tk (Pu.ld ty_sc3) ?_
        refine RK.keep ?_
        refine RK.keep ?_
        refine RK.ch [false, false, true] ?_ trivial
        refine WK.call rfl (enters Tryz.func53 rfl rfl) rfl (fun w hw => by
            exact moved_any (a := a) (l := l) (c := c) (M := M) (Nat.le_antisymm h0.1 h0.2) (Nat.le_antisymm h1.1 h1.2) rfl (by omega) (by omega) (by omega) (hL0.sat hw Apart.nil) (hL1.sat hw Apart.nil) (OwnR.rdr (hw.holds (.own B M.length cb 3 1 (iL M)) (by simp)))) ?_
        rintro ⟨⟨A8, c8⟩, ⟨A9, c9⟩⟩
        refine WK.cr rfl (enters Tryz.func68 rfl rfl) (fun w hw => by
            exact movedBal_any (a := a) (l := l) (c := c) (M := M) (x := ((A8, c8), (A9, c9))) hr hb (by omega) i0 i1 (hR.sat hw Apart.nil) (OwnR.rdr (hw.holds (.own A8 (mvd L0 L1 M).length c8 3 1 (iL (mvd L0 L1 M))) (by simp [mvK]))) (OwnR.rdr (hw.holds (.own A9 (mvd L1 L0 M).length c9 3 1 (iL (mvd L1 L0 M))) (by simp [mvK])))) ?_
        refine WK.p Pu.eq ?_
        refine WK.n ?_
        refine TL.nil ?_
        refine TQ.thenN (hY9 _ _ ?_)
        refine TWi.cond rfl (fun hc1 => ?_) (fun hc1 => ?_)
        · try simp only [decide_eq_true_eq, decide_eq_false_iff_not, Bool.not_eq_true', Bool.not_eq_false', Bool.and_eq_true, Bool.or_eq_true, Bool.and_eq_false_iff, Bool.or_eq_false_iff, Int.not_lt, Int.not_le] at hc1
          have hst : bestS r0 r1 b L0 L1 (q + 1) = (M, M.length) := by rw [hstep]; unfold setStep; rw [if_pos ⟨hbetter, by unfold mvOk; exact decide_eq_true hc1⟩]
          obtain ⟨r', hr'⟩ : ∃ y : Option Addr × Nat, y = (B, cb) := ⟨_, rfl⟩
          refine TWi.region ?_
          refine TL.p Pu.mv ?_
          refine TL.p Pu.mv ?_
          refine TL.p (Pu.ln Tryz.underlying24) ?_
          first | refine TL.st ty_sz24 ?_ | refine TL.se ty_sz24 ?_
          first | refine TL.st ty_sz3 ?_ | refine TL.se ty_sz3 ?_
          refine TL.nil ?_
          refine TQ.blkN ?_
          refine TQ.rbN (r') ?_
          simp only [setsM, setJ, hst, hr', mvK, List.cons_append, List.nil_append]
          repeat (first | exact KSub.nil | refine KSub.cons (by repeat (first | exact Pick.hd | apply Pick.tl)) ?_)
        · try simp only [decide_eq_true_eq, decide_eq_false_iff_not, Bool.not_eq_true', Bool.not_eq_false', Bool.and_eq_true, Bool.or_eq_true, Bool.and_eq_false_iff, Bool.or_eq_false_iff, Int.not_lt, Int.not_le] at hc1
          have hst : bestS r0 r1 b L0 L1 (q + 1) = s := by rw [hstep]; unfold setStep; rw [if_neg (fun h => by have := h.2; unfold mvOk at this; exact hc1 (of_decide_eq_true this))]
          obtain ⟨r', hr'⟩ : ∃ y : Option Addr × Nat, y = (A7, c7) := ⟨_, rfl⟩
          refine TWi.skip ?_
          refine TQ.blkN ?_
          refine TQ.rbN (r') ?_
          simp only [setsM, setJ, hst, hr', mvK, List.cons_append, List.nil_append]
          repeat (first | exact KSub.nil | refine KSub.cons (by repeat (first | exact Pick.hd | apply Pick.tl)) ?_)
      · try simp only [decide_eq_true_eq, decide_eq_false_iff_not, Bool.not_eq_true', Bool.not_eq_false', Bool.and_eq_true, Bool.or_eq_true, Bool.and_eq_false_iff, Bool.or_eq_false_iff, Int.not_lt, Int.not_le] at hc0
        have hnot : ¬ ((M.length < s.2 ∨ M.length = s.2 ∧ cmpI M s.1 < 0) ∧ mvOk r0 r1 b L0 L1 M = true) := by
          rintro ⟨h | ⟨h, h'⟩, _⟩
          · have := hc0.1; omega
          · rcases hc0.2 with h8 | h8
            · omega
            · omega
        obtain ⟨r', hr'⟩ : ∃ y : Option Addr × Nat, y = (A7, c7) := ⟨_, rfl⟩
        have hst : bestS r0 r1 b L0 L1 (q + 1) = s := by rw [hstep]; unfold setStep; rw [if_neg hnot]
        refine TWi.skip ?_
        refine TQ.blkN ?_
        refine TQ.rbN (r') ?_
        simp only [setsM, setJ, hst, hr', mvK, List.cons_append, List.nil_append]
        repeat (first | exact KSub.nil | refine KSub.cons (by repeat (first | exact Pick.hd | apply Pick.tl)) ?_)
    refine TWi.region ?_
    refine TL.p Pu.mv ?_
    refine TL.p (Pu.ln Tryz.underlying24) ?_
    refine TL.p (Pu.ld ty_sc3) ?_
    refine TL.p Pu.lt ?_
    refine TL.p Pu.mv ?_
    refine TL.guard (t := 29) rfl (fun hg1 => ?_) (fun hg1 => ?_)
    · refine TL.gs ?_
      refine TL.gs ?_
      refine TL.gs ?_
      refine TL.gs ?_
      refine TL.gs ?_
      refine TL.gs ?_
      refine TL.gs ?_
      refine TL.gs ?_
      refine TL.gs ?_
      refine TL.gs ?_
      refine TL.p Pu.kt ?_
      refine TL.nil ?_
      exact TQ.sub (by repeat (first | exact trivial | refine ⟨rfl, ?_⟩ | refine ⟨trivial, ?_⟩ | refine ⟨(by show some (Value.bool _) = some (Value.bool _); simp [hg1, -Int.ofNat_lt, -Int.ofNat_le]), ?_⟩)) (by repeat (first | exact KSub.nil | refine KSub.cons (by repeat (first | exact Pick.hd | apply Pick.tl)) ?_ | exact KSub.refl _ | refine KSub.drop ?_)) hJ1
    · refine TL.gd Pu.mv ?_
      refine TL.gd (Pu.ln Tryz.underlying24) ?_
      refine TL.gd (Pu.ld ty_sc3) ?_
      refine TL.gd Pu.eq ?_
      refine TL.gd Pu.mv ?_
      refine TL.guard (t := 34) rfl (fun hg2 => ?_) (fun hg2 => ?_)
      · refine TL.gd Pu.mv ?_
        refine TL.gd (Pu.ld ty_sc24) ?_
        refine TL.cr rfl (enters Tryz.func96 rfl rfl) (fun w hw => by
            exact compareI_any (L := M) (M := s.1) rfl rfl (by omega) (by omega) (OwnR.rdr (hw.holds (.own B M.length cb 3 1 (iL M)) (by simp))) (OwnR.rdr (hw.holds (.own A7 s.1.length c7 3 1 (iL s.1)) (by simp)))) ?_
        refine TL.gd Pu.lt ?_
        refine TL.gd Pu.kt ?_
        refine TL.p Pu.kf ?_
        refine TL.nil ?_
        exact TQ.sub (by repeat (first | exact trivial | refine ⟨rfl, ?_⟩ | refine ⟨trivial, ?_⟩ | refine ⟨(by show some (Value.bool _) = some (Value.bool _); simp [hg1, hg2, -Int.ofNat_lt, -Int.ofNat_le]), ?_⟩)) (by repeat (first | exact KSub.nil | refine KSub.cons (by repeat (first | exact Pick.hd | apply Pick.tl)) ?_ | exact KSub.refl _ | refine KSub.drop ?_)) hJ1
      · refine TL.gs ?_
        refine TL.gs ?_
        refine TL.gs ?_
        refine TL.gs ?_
        refine TL.gd Pu.kf ?_
        refine TL.p Pu.kf ?_
        refine TL.nil ?_
        exact TQ.sub (by repeat (first | exact trivial | refine ⟨rfl, ?_⟩ | refine ⟨trivial, ?_⟩ | refine ⟨(by show some (Value.bool _) = some (Value.bool _); simp [hg1, hg2, -Int.ofNat_lt, -Int.ofNat_le]), ?_⟩)) (by repeat (first | exact KSub.nil | refine KSub.cons (by repeat (first | exact Pick.hd | apply Pick.tl)) ?_ | exact KSub.refl _ | refine KSub.drop ?_)) hJ1
  · rintro DR ⟨A7, c7⟩
    simp only [setsM, setJ, List.cons_append, List.nil_append]
    generalize hS : bestS r0 r1 b L0 L1 (2 ^ (L0 ++ L1).length) = s at *
    have hE : bestE r0 r1 b L0 L1 = s := by unfold bestE; rw [show L0.length + L1.length = (L0 ++ L1).length by omega]; exact hS
    have hcode : bestC r0 r1 b L0 L1 = if decide ((s.2 : Int) ≤ ((L0 ++ L1).length : Int)) = true then 0 else 52 := by
      unfold bestC
      rw [hE]
      by_cases h : s.2 ≤ L0.length + L1.length
      · rw [if_pos h, if_pos (decide_eq_true (by omega))]
      · rw [if_neg h, if_neg (by rw [decide_eq_true_eq]; omega)]
    refine TQ.blkN ?_
    refine TQ.thenN (hY6 _ _ _ ?_)
    refine TW.seqD fun Y10 hY10 => ?_
    refine TW.region ?_
    refine TL.p (Pu.ld ty_sc3) ?_
    refine TL.p Pu.mv ?_
    refine TL.p (Pu.ln Tryz.underlying24) ?_
    refine TL.p Pu.le ?_
    refine TL.ct rfl (enters Tryz.func76 rfl rfl) (fun w hw => by
        exact need_any _ _ _ (by decide)) (fun hp1 => ?_) (fun hp1 => ?_)
    rotate_left
    · refine TQ.thenP ?_
      refine TQ.panM (by repeat (first | exact Pick.hd | apply Pick.tl)) ?_
      exact fun w hw => .inr ⟨by rw [hcode]; exact hp1, by rw [hcode], hw.sub KSub.nil⟩
    refine TL.nil ?_
    refine TQ.thenN (hY10 _ _ _ ?_)
    refine TW.seqD fun Y11 hY11 => ?_
    refine TW.region ?_
    refine TL.p (Pu.ld ty_sc24) ?_
    refine TL.p Pu.as ?_
    refine TL.nil ?_
    refine TQ.thenN (hY11 _ _ _ ?_)
    refine TW.ret ?_
    refine TQ.retM Tryz.results52 (by repeat (first | exact Pick.hd | apply Pick.tl)) ((.tmp rfl .nil)) ?_
    exact fun w hw => .inl ⟨by rw [hcode]; exact hp1, (A7, c7), by rw [hE]; rfl, by rw [hE]; exact hw.sub (by repeat (first | exact KSub.nil | refine KSub.cons (by repeat (first | exact Pick.hd | apply Pick.tl)) ?_))⟩
  · intro _ x; exact x.elim
end Go.Proofs.YtjephihlkjpohaaGreatDoor
namespace Go.Proofs.YtjephihlkjpohaaGreatDoor
set_option linter.all false
set_option linter.unusedVariables false
set_option linter.unusedSimpArgs false
open Go.RowKit
section
variable {w : World} {A : Option Addr} {np cp : Nat} {pk : Nat → Nat → Int} {a : Nat → Option Addr} {l c : Nat → Nat} {v : Nat → Nat → Int}
def askedV (np : Nat) (pk : Nat → Nat → Int) (l : Nat → Nat) (v : Nat → Nat → Int) (b : Int) : Int := if check1 np pk l v = 0 then (if inB5 0 1000000000 b then 0 else 2) else check1 np pk l v
def balF (pk : Nat → Nat → Int) (l : Nat → Nat) (v : Nat → Nat → Int) (b : Int) : Int := balV (wlo pk (v 0) (l 0)) (whi pk (v 0) (l 0)) (wlo pk (v 1) (l 1)) (whi pk (v 1) (l 1)) b
def balR (np : Nat) (pk : Nat → Nat → Int) (l : Nat → Nat) (v : Nat → Nat → Int) (b : Int) : Int := if askedV np pk l v b = 0 then balF pk l v b else 0
end
set_option maxRecDepth 100000 in
set_option maxHeartbeats 400000 in
theorem balance1_any {W0 w : World} {A : Option Addr} {np cp bp bt bb x : Nat} {pk : Nat → Nat → Int} {a : Nat → Option Addr} {l c : Nat → Nat} {v : Nat → Nat → Int} {b : Int}
    (hL : Lay1 W0 A np pk a l v) (hb : Below W0.heap.size W0 w) (hS : ∀ b ∈ [x], W0.heap.size ≤ b)
    (h1 : OldB w bp [.slice A np cp]) (h2 : OldB w bt (tieL a l c)) (h3 : OldB w bb [.int .i64 b]) (n1 : bp ∉ [x]) (n2 : bt ∉ [x]) (n3 : bb ∉ [x])
    (hM : Sat [x] w [.blk x 5 [.int .u8 0]] w) :
    Doing Tryz.prog 67 #[.pointer (some ⟨bp, 0, none⟩), .pointer (some ⟨bt, 0, none⟩), .pointer (some ⟨bb, 0, none⟩), .pointer (some ⟨x, 0, none⟩)] [.blk x 5 [.int .u8 0]] Unit
      (fun _ => if askedV np pk l v b = 0 then [.blk x 5 [.int .u8 (balF pk l v b)]] else [.blk x 5 [.int .u8 0]]) (askedV np pk l v b) w := by
  have hnp := hL.hnp
  have ap1 := apart_of n1
  have ap2 := apart_of n2
  have ap3 := apart_of n3
  have hL1 := hL.ext hb
  refine K_enter (args := [.pointer (some ⟨bp, 0, none⟩), .pointer (some ⟨bt, 0, none⟩), .pointer (some ⟨bb, 0, none⟩), .pointer (some ⟨x, 0, none⟩)]) (S := [x]) (K := [.blk x 5 [.int .u8 0]]) Tryz.func67 rfl Tryz.ntmps67 rfl hM ?_
  refine TW.seq fun Y1 hY1 => ?_
  refine TW.region ?_
  refine TL.p (by first | exact (Pu.ld ty_sc22) | exact (Pu.ldo ty_sc22)) ?_
  refine TL.p (by first | exact (Pu.lds ty_ag36) | exact (Pu.ldso ty_ag36)) ?_
  refine TL.m Mk.bl ?_
  intro b1
  refine TL.ct rfl (enters Tryz.func47 rfl rfl) (fun w hw => by
      have hLw := (hL.ext (old_below hb hw hS)).lay (c := c) (b := b1) (E := 36) (hw.holds (.blk b1 36 (tieL a l c)) (by simp [tieL]))
      exact hLw.check) (fun hp1 => ?_) (fun hp1 => ?_)
  rotate_left
  · have hp1' : check1 np pk l v ≠ 0 := hp1
    have hcode : askedV np pk l v b = check1 np pk l v := if_neg hp1'
    refine TQ.thenP ?_
    refine TQ.pan rfl ?_
    exact fun w hw => Doing.no () (by first | exact hp2 | exact hp1) hcode (fun h => if_neg h) hw (by repeat (first | exact KSub.nil | refine KSub.cons (by repeat (first | exact Pick.hd | apply Pick.tl)) ?_))
  refine TL.nil ?_
  refine TQ.thenN (hY1 _ _ ?_)
  refine TW.seq fun Y2 hY2 => ?_
  refine TW.region ?_
  refine TL.p (by first | exact (Pu.ld ty_sc3) | exact (Pu.ldo ty_sc3)) ?_
  refine TL.ct rfl (enters Tryz.func48 rfl rfl) (fun w hw => by
      exact bounded_any _ _) (fun hp2 => ?_) (fun hp2 => ?_)
  rotate_left
  · have hp1' : check1 np pk l v = 0 := hp1
    have hcode : askedV np pk l v b = (if inB5 0 1000000000 b then 0 else 2) := if_pos hp1'
    refine TQ.thenP ?_
    refine TQ.pan rfl ?_
    exact fun w hw => Doing.no () (by first | exact hp2 | exact hp1) hcode (fun h => if_neg h) hw (by repeat (first | exact KSub.nil | refine KSub.cons (by repeat (first | exact Pick.hd | apply Pick.tl)) ?_))
  refine TL.nil ?_
  refine TQ.thenN (hY2 _ _ ?_)
  refine TW.dw 6 ?_
  refine RK.tk (by first | exact (Pu.lds ty_ag36) | exact (Pu.ldso ty_ag36)) ?_
  refine RK.tk (by first | exact (Pu.ld ty_sc22) | exact (Pu.ldo ty_sc22)) ?_
  refine RK.keep ?_
  refine RK.keep ?_
  refine RK.tk (by first | exact (Pu.ld ty_sc3) | exact (Pu.ldo ty_sc3)) ?_
  refine RK.keep ?_
  refine RK.ch [false, true, false] ?_ trivial
  refine WK.call rfl (enters Tryz.func51 rfl rfl) rfl (fun w hw => by
      have hLw := hL.ext (old_below hb hw hS)
      exact rests_any hLw.hG hnp (check1_ok hp1).2.1 hLw.hR) ?_
  rintro ⟨Ar, cr⟩
  refine WK.p Pu.bd ?_
  refine WK.cr rfl (enters Tryz.func68 rfl rfl) (fun w hw => by
      have hLw := hL.ext (old_below hb hw hS)
      obtain ⟨k1, k2, k3, k4⟩ := check1_ok hp1
      rw [tot3] at k4
      have hRr := OwnR.rdr (hw.holds (.own Ar np cr 43 2 (fun q => spL (rl (pk q)) (rh (pk q)))) (by simp))
      have hbb := need_yes (by decide) hp2
      have hl2 : ∀ j, j < 2 → l j ≤ 1000 := fun j hj => by
        have : j = 0 ∨ j = 1 := by omega
        rcases this with rfl | rfl <;> omega
      simp only [inB5, Bool.and_eq_true, decide_eq_true_eq] at hbb
      exact balance_any (a := a) (l := l) (c := c) (Ar := Ar) (cr := cr) (RestOk.of_packs k2) (by omega) hl2 (fun j hj => k3 j (by omega)) hRr (fun j hj => hLw.hI j (by omega))) ?_
  refine WK.n ?_
  first | refine TL.st ty_sz5 ?_ | refine TL.se ty_sz5 ?_
  refine TL.nil ?_
  refine TQ.end Tryz.results67 rfl (.nil) ?_
  exact fun w hw => Doing.yes () (by unfold askedV; rw [if_pos (show check1 np pk l v = 0 from hp1)]; exact hp2) (fun h => if_pos h) hw (by repeat (first | exact KSub.nil | refine KSub.cons (by repeat (first | exact Pick.hd | apply Pick.tl)) ?_))
set_option maxRecDepth 100000 in
set_option maxHeartbeats 1000000 in
theorem loadBalance_any {w : World} {A : Option Addr} {np cp : Nat} {pk : Nat → Nat → Int} {a : Nat → Option Addr} {l c : Nat → Nat} {v : Nat → Nat → Int} {b : Int} (hL : Lay1 w A np pk a l v) :
    Calls Tryz.prog 28 #[.slice A np cp, .agg (tieL a l c).toArray, .int .i64 b] w (Ret w (.tuple #[.int .u8 (balR np pk l v b), .int .i64 (askedV np pk l v b)])) := by
  refine K_enter (S := []) (K := []) Tryz.func28 rfl Tryz.ntmps28 rfl (Sat.start _) ?_
  refine TW.seq fun Y1 hY1 => ?_
  refine TW.region ?_
  refine TL.m Mk.bx ?_
  intro b1
  refine TL.m Mk.bx ?_
  intro b2
  refine TL.m Mk.bx ?_
  intro b3
  refine TL.m (Mk.al ty_zr5) ?_
  intro b4
  refine TL.p Pu.as ?_
  refine TL.nil ?_
  refine TQ.thenN (hY1 _ _ ?_)
  refine TW.seq fun Y2 hY2 => ?_
  refine TW.region ?_
  refine TL.p Pu.fn ?_
  refine TL.call rfl (enters Tryz.func45 rfl rfl) (M := [.blk b4 5 [.int .u8 0]]) (List.Perm.refl _) rfl (fun w hw => by
      have hB1 : Blk w b1 22 #[.slice A np cp] := hw.holds (.blk b1 22 [.slice A np cp]) (by simp)
      have hB2 : Blk w b2 36 (tieL a l c).toArray := hw.holds (.blk b2 36 (tieL a l c)) (by simp [tieL])
      have hB3 : Blk w b3 3 #[.int .i64 b] := hw.holds (.blk b3 3 [.int .i64 b]) (by simp)
      have hnd := hw.nd
      simp [feet, Fact.foot] at hnd
      obtain ⟨hself, hge⟩ := feet_new (M := [.blk b4 5 [.int .u8 0]]) hw (List.Perm.refl _)
      have hbel := Chg.ext hw.chg
      have m1 : b1 ∉ [b4] := by simp; omega
      have m2 : b2 ∉ [b4] := by simp; omega
      have m3 : b3 ∉ [b4] := by simp; omega
      have ht := trying_any (M := [.blk b4 5 [.int .u8 0]]) (code := askedV np pk l v b) (fs := []) (cs := [.pointer (some ⟨b1, 0, none⟩), .pointer (some ⟨b2, 0, none⟩), .pointer (some ⟨b3, 0, none⟩), .pointer (some ⟨b4, 0, none⟩)]) (enters Tryz.func67 rfl rfl) hself fun w' hw' =>
        balance1_any (c := c) (cp := cp) hL (old_below hbel hw' hge) hge ((OldB.of_blk (cs := [_]) hB1).sat hw' m1) ((OldB.of_blk hB2).sat hw' m2) ((OldB.of_blk (cs := [_]) hB3).sat hw' m3) m1 m2 m3 hw'.self
      refine Calls.mono (R' := fun e w' => ∃ x : Unit, e = .returned (.int .i64 (askedV np pk l v b)) ∧ Sat (feet [.blk b4 5 [.int .u8 0]]) w [.blk b4 5 [.int .u8 (balR np pk l v b)]] w') ht ?_
      rintro e w' ⟨x, he, hs⟩
      refine ⟨(), he, ?_⟩
      unfold balR
      by_cases h0 : askedV np pk l v b = 0
      · replace hs : Sat _ w (if askedV np pk l v b = 0 then _ else _) w' := hs
        rw [if_pos h0] at hs
        rw [if_pos h0]
        exact hs
      · replace hs : Sat _ w (if askedV np pk l v b = 0 then _ else _) w' := hs
        rw [if_neg h0] at hs
        rw [if_neg h0]
        exact hs) ?_
  rintro ⟨⟩
  refine TL.p Pu.as ?_
  refine TL.nil ?_
  refine TQ.thenN (hY2 _ _ ?_)
  refine TW.seq fun Y3 hY3 => ?_
  refine TW.region ?_
  refine TL.p (Pu.ld ty_sc5) ?_
  refine TL.p Pu.mv ?_
  first | refine TL.st ty_sz5 ?_ | refine TL.se ty_sz5 ?_
  refine TL.p Pu.as ?_
  refine TL.nil ?_
  refine TQ.thenN (hY3 _ _ ?_)
  refine TW.ret ?_
  refine TQ.ret Tryz.results28 rfl ((RV.c1 ty_sc5 (.tmp rfl .nil))) ?_
  exact fun w hw => Ret.of hw
end Go.Proofs.YtjephihlkjpohaaGreatDoor
namespace Go.Proofs.YtjephihlkjpohaaGreatDoor
set_option linter.all false
set_option linter.unusedVariables false
set_option linter.unusedSimpArgs false
open Go.RowKit
section
variable {np : Nat} {pk : Nat → Nat → Int} {l : Nat → Nat} {v : Nat → Nat → Int} {b : Int}
def lft (l : Nat → Nat) (v : Nat → Nat → Int) : List Int := toI (v 0) (l 0)
def rgt (l : Nat → Nat) (v : Nat → Nat → Int) : List Int := toI (v 1) (l 1)
def settB (pk : Nat → Nat → Int) (l : Nat → Nat) (v : Nat → Nat → Int) (b : Int) : List Int × Nat := bestE (fun q => rl (pk q)) (fun q => rh (pk q)) b (lft l v) (rgt l v)
def settD (pk : Nat → Nat → Int) (l : Nat → Nat) (v : Nat → Nat → Int) (b : Int) : Int := bestC (fun q => rl (pk q)) (fun q => rh (pk q)) b (lft l v) (rgt l v)
def settC (np : Nat) (pk : Nat → Nat → Int) (l : Nat → Nat) (v : Nat → Nat → Int) (b : Int) : Int := if askedV np pk l v b = 0 then settD pk l v b else askedV np pk l v b
def settL (np : Nat) (pk : Nat → Nat → Int) (l : Nat → Nat) (v : Nat → Nat → Int) (b : Int) : List Int := if settC np pk l v b = 0 then (settB pk l v b).1 else []
theorem inxL_toI {u : Nat → Int} {n N : Nat} (h : Inx u n N) : InxL (toI u n) N := fun x hx => by
  unfold toI at hx
  obtain ⟨k, hk, rfl⟩ := List.mem_map.1 hx
  exact h k (List.mem_range.1 hk)
end
def settF (x : Nat) (np : Nat) (pk : Nat → Nat → Int) (l : Nat → Nat) (v : Nat → Nat → Int) (b : Int) (y : Option Addr × Nat) : List Fact := [.blk x 24 [.slice y.1 (settL np pk l v b).length y.2], .own y.1 (settL np pk l v b).length y.2 3 1 (iL (settL np pk l v b))]
theorem settF_no {M K : List Fact} {x np : Nat} {pk : Nat → Nat → Int} {l : Nat → Nat} {v : Nat → Nat → Int} {b : Int} {w w' : World} {code : Int} (hc : code ≠ 0) (e : settC np pk l v b = code) (hs : Sat (feet M) w K w') (hK : KSub K [.blk x 24 [.slice none 0 0]]) :
    ∃ y : Option Addr × Nat, Sat (feet M) w (settF x np pk l v b y) w' ∧ Ending.panicked (errs code) = if settC np pk l v b = 0 then .returned (.tuple #[]) else .panicked (errs (settC np pk l v b)) := by
  subst e
  refine ⟨(none, 0), ?_, by rw [if_neg hc]⟩
  unfold settF settL
  rw [if_neg hc]
  exact (hs.sub hK).sub (KSub.cons Pick.hd (KSub.nilOwn KSub.nil))
set_option maxRecDepth 100000 in
set_option maxHeartbeats 1000000 in
theorem settle1_any {W0 w : World} {A : Option Addr} {np cp bp bt bb x : Nat} {pk : Nat → Nat → Int} {a : Nat → Option Addr} {l c : Nat → Nat} {v : Nat → Nat → Int} {b : Int}
    (hL : Lay1 W0 A np pk a l v) (hb : Below W0.heap.size W0 w) (hS : ∀ b ∈ [x], W0.heap.size ≤ b)
    (h1 : OldB w bp [.slice A np cp]) (h2 : OldB w bt (tieL a l c)) (h3 : OldB w bb [.int .i64 b]) (n1 : bp ∉ [x]) (n2 : bt ∉ [x]) (n3 : bb ∉ [x])
    (hM : Sat [x] w [.blk x 24 [.slice none 0 0]] w) :
    Doing Tryz.prog 59 #[.pointer (some ⟨bp, 0, none⟩), .pointer (some ⟨bt, 0, none⟩), .pointer (some ⟨bb, 0, none⟩), .pointer (some ⟨x, 0, none⟩)] [.blk x 24 [.slice none 0 0]] (Option Addr × Nat)
      (settF x np pk l v b) (settC np pk l v b) w := by
  have hnp := hL.hnp
  have ap1 := apart_of n1
  have ap2 := apart_of n2
  have ap3 := apart_of n3
  have hL1 := hL.ext hb
  refine K_enter (args := [.pointer (some ⟨bp, 0, none⟩), .pointer (some ⟨bt, 0, none⟩), .pointer (some ⟨bb, 0, none⟩), .pointer (some ⟨x, 0, none⟩)]) (S := [x]) (K := [.blk x 24 [.slice none 0 0]]) Tryz.func59 rfl Tryz.ntmps59 rfl hM ?_
  refine TW.seq fun Y1 hY1 => ?_
  refine TW.region ?_
  refine TL.p (by first | exact (Pu.ld ty_sc22) | exact (Pu.ldo ty_sc22)) ?_
  refine TL.p (by first | exact (Pu.lds ty_ag36) | exact (Pu.ldso ty_ag36)) ?_
  refine TL.m Mk.bl ?_
  intro b1
  refine TL.ct rfl (enters Tryz.func47 rfl rfl) (fun w hw => by
      have hLw := (hL.ext (old_below hb hw hS)).lay (c := c) (b := b1) (E := 36) (hw.holds (.blk b1 36 (tieL a l c)) (by simp [tieL]))
      exact hLw.check) (fun hp1 => ?_) (fun hp1 => ?_)
  rotate_left
  · have hp1' : check1 np pk l v ≠ 0 := hp1
    have hask : askedV np pk l v b = check1 np pk l v := if_neg hp1'
    have hcode : settC np pk l v b = check1 np pk l v := by unfold settC; rw [hask, if_neg hp1']
    refine TQ.thenP ?_
    refine TQ.pan rfl ?_
    exact fun w hw => settF_no (by first | exact hp3 | exact hp2 | exact hp1) hcode hw (by repeat (first | exact KSub.nil | refine KSub.cons (by repeat (first | exact Pick.hd | apply Pick.tl)) ?_))
  refine TL.nil ?_
  refine TQ.thenN (hY1 _ _ ?_)
  refine TW.seq fun Y2 hY2 => ?_
  refine TW.region ?_
  refine TL.p (by first | exact (Pu.ld ty_sc3) | exact (Pu.ldo ty_sc3)) ?_
  refine TL.ct rfl (enters Tryz.func48 rfl rfl) (fun w hw => by
      exact bounded_any _ _) (fun hp2 => ?_) (fun hp2 => ?_)
  rotate_left
  · have hp1' : check1 np pk l v = 0 := hp1
    have hask : askedV np pk l v b = (if inB5 0 1000000000 b then 0 else 2) := if_pos hp1'
    have hcode : settC np pk l v b = (if inB5 0 1000000000 b then 0 else 2) := by unfold settC; rw [hask, if_neg hp2]
    refine TQ.thenP ?_
    refine TQ.pan rfl ?_
    exact fun w hw => settF_no (by first | exact hp3 | exact hp2 | exact hp1) hcode hw (by repeat (first | exact KSub.nil | refine KSub.cons (by repeat (first | exact Pick.hd | apply Pick.tl)) ?_))
  refine TL.nil ?_
  refine TQ.thenN (hY2 _ _ ?_)
  refine TW.ex0k [] ?_
  refine RG.tk 0 rfl (by first | exact (Pu.lds ty_ag36) | exact (Pu.ldso ty_ag36)) ?_
  refine RG.tk 1 rfl (by first | exact (Pu.ld ty_sc22) | exact (Pu.ldo ty_sc22)) ?_
  refine RG.tk 4 rfl (by first | exact (Pu.ld ty_sc3) | exact (Pu.ldo ty_sc3)) ?_
  refine RG.a1 2 rfl (fun X2 hX2 => ?_)
  refine TL.call (M := []) rfl (enters Tryz.func51 rfl rfl) (List.Perm.refl _) rfl (fun w hw => by
      have hLw := hL.ext (old_below hb hw hS)
      exact rests_any hLw.hG hnp (check1_ok hp1).2.1 hLw.hR) ?_
  rintro ⟨Ar, cr⟩
  refine TL.nil ?_
  refine TQ.nxt (hX2 _ _ (by repeat (first | exact HasL.nil | refine HasL.cons (by repeat (first | exact Pick.hd | apply Pick.tl)) ?_)) ?_)
  refine RG.tk 3 rfl Pu.bd ?_
  refine RG.a1 5 rfl (fun X5 hX5 => ?_)
  refine TL.ctk rfl (enters Tryz.func52 rfl rfl) (M := []) (List.Perm.refl _) (fun w hw => by
      have hLw := hL.ext (old_below hb hw hS)
      obtain ⟨k1, k2, k3, k4⟩ := check1_ok hp1
      rw [tot3] at k4
      have hRr := OwnR.rdr (hw.holds (.own Ar np cr 43 2 (fun q => spL (rl (pk q)) (rh (pk q)))) (by simp))
      have hbb := need_yes (by decide) hp2
      simp only [inB5, Bool.and_eq_true, decide_eq_true_eq] at hbb
      have t0 := (hLw.hI 0 (by omega)).toI
      have t1 := (hLw.hI 1 (by omega)).toI
      rw [toI_len] at t0 t1
      exact settle_any (a := a) (l := l) (c := c) (Ar := Ar) (cr := cr) (L0 := lft l v) (L1 := rgt l v) toI_len.symm toI_len.symm (by omega) (RestOk.of_packs k2) (by omega) (inxL_toI (k3 0 (by omega))) (inxL_toI (k3 1 (by omega))) hRr t0 t1) ?_ (fun hp3 => ?_)
  rotate_left
  · have hask : askedV np pk l v b = 0 := by unfold askedV; rw [if_pos (show check1 np pk l v = 0 from hp1)]; exact hp2
    have hcode : settC np pk l v b = settD pk l v b := by unfold settC; rw [if_pos hask]
    refine TQ.nxtP ?_
    refine TQ.pan rfl ?_
    exact fun w hw => settF_no (by first | exact hp3 | exact hp2 | exact hp1) hcode hw (by repeat (first | exact KSub.nil | refine KSub.cons (by repeat (first | exact Pick.hd | apply Pick.tl)) ?_))
  rintro ⟨As, cs⟩ hp3
  refine TL.nil ?_
  refine TQ.nxt (hX5 _ _ (by repeat (first | exact HasL.nil | refine HasL.cons (by repeat (first | exact Pick.hd | apply Pick.tl)) ?_)) ?_)
  refine RG.a1 6 rfl (fun X6 hX6 => ?_)
  first | refine TL.st ty_sz24 ?_ | refine TL.se ty_sz24 ?_
  refine TL.nil ?_
  refine TQ.nxt (hX6 _ _ (by repeat (first | exact HasL.nil | refine HasL.cons (by repeat (first | exact Pick.hd | apply Pick.tl)) ?_)) ?_)
  refine RG.nil ?_ (by kernel_rfl)
  refine TQ.end Tryz.results59 rfl (.nil) ?_
  have hask : askedV np pk l v b = 0 := by unfold askedV; rw [if_pos (show check1 np pk l v = 0 from hp1)]; exact hp2
  have hcode : settC np pk l v b = 0 := by unfold settC; rw [if_pos hask]; exact hp3
  have hlist : settL np pk l v b = (settB pk l v b).1 := if_pos hcode
  exact fun w hw => ⟨(As, cs), by
    unfold settF
    rw [hlist]
    exact hw.sub (by repeat (first | exact KSub.nil | refine KSub.cons (by repeat (first | exact Pick.hd | apply Pick.tl)) ?_)), by rw [if_pos hcode]; rfl⟩
set_option maxRecDepth 100000 in
set_option maxHeartbeats 1000000 in
theorem loadSettle_any {w : World} {A : Option Addr} {np cp : Nat} {pk : Nat → Nat → Int} {a : Nat → Option Addr} {l c : Nat → Nat} {v : Nat → Nat → Int} {b : Int} (hL : Lay1 w A np pk a l v) :
    CallsK Tryz.prog 19 #[.slice A np cp, .agg (tieL a l c).toArray, .int .i64 b] [] w (Option Addr × Nat) (fun y => .tuple #[.slice y.1 (settL np pk l v b).length y.2, .int .i64 (settC np pk l v b)]) (fun y => [.own y.1 (settL np pk l v b).length y.2 3 1 (iL (settL np pk l v b))]) := by
  refine K_enter (S := []) (K := []) Tryz.func19 rfl Tryz.ntmps19 rfl (Sat.start _) ?_
  refine TW.seq fun Y1 hY1 => ?_
  refine TW.region ?_
  refine TL.m Mk.bx ?_
  intro b1
  refine TL.m Mk.bx ?_
  intro b2
  refine TL.m Mk.bx ?_
  intro b3
  refine TL.m (Mk.al ty_zr24) ?_
  intro b4
  refine TL.p Pu.as ?_
  refine TL.nil ?_
  refine TQ.thenN (hY1 _ _ ?_)
  refine TW.seq fun Y2 hY2 => ?_
  refine TW.region ?_
  refine TL.p Pu.fn ?_
  refine TL.call rfl (enters Tryz.func45 rfl rfl) (M := [.blk b4 24 [.slice none 0 0]]) (List.Perm.refl _) rfl (fun w hw => by
      have hB1 : Blk w b1 22 #[.slice A np cp] := hw.holds (.blk b1 22 [.slice A np cp]) (by simp)
      have hB2 : Blk w b2 36 (tieL a l c).toArray := hw.holds (.blk b2 36 (tieL a l c)) (by simp [tieL])
      have hB3 : Blk w b3 3 #[.int .i64 b] := hw.holds (.blk b3 3 [.int .i64 b]) (by simp)
      have hnd := hw.nd
      simp [feet, Fact.foot] at hnd
      obtain ⟨hself, hge⟩ := feet_new (M := [.blk b4 24 [.slice none 0 0]]) hw (List.Perm.refl _)
      have hbel := Chg.ext hw.chg
      have m1 : b1 ∉ [b4] := by simp; omega
      have m2 : b2 ∉ [b4] := by simp; omega
      have m3 : b3 ∉ [b4] := by simp; omega
      exact trying_any (M := [.blk b4 24 [.slice none 0 0]]) (code := settC np pk l v b) (fs := []) (cs := [.pointer (some ⟨b1, 0, none⟩), .pointer (some ⟨b2, 0, none⟩), .pointer (some ⟨b3, 0, none⟩), .pointer (some ⟨b4, 0, none⟩)]) (enters Tryz.func59 rfl rfl) hself fun w' hw' =>
        settle1_any (c := c) (cp := cp) hL (old_below hbel hw' hge) hge ((OldB.of_blk (cs := [_]) hB1).sat hw' m1) ((OldB.of_blk hB2).sat hw' m2) ((OldB.of_blk (cs := [_]) hB3).sat hw' m3) m1 m2 m3 hw'.self) ?_
  rintro ⟨As, cs⟩
  simp only [settF, List.cons_append, List.nil_append]
  refine TL.p Pu.as ?_
  refine TL.nil ?_
  refine TQ.thenN (hY2 _ _ ?_)
  refine TW.seq fun Y3 hY3 => ?_
  refine TW.region ?_
  refine TL.p (Pu.ld ty_sc24) ?_
  refine TL.p Pu.mv ?_
  first | refine TL.st ty_sz24 ?_ | refine TL.se ty_sz24 ?_
  refine TL.p Pu.as ?_
  refine TL.nil ?_
  refine TQ.thenN (hY3 _ _ ?_)
  refine TW.ret ?_
  refine TQ.ret Tryz.results19 rfl ((RV.c1 ty_sc24 (.tmp rfl .nil))) ?_
  exact fun w hw => ⟨(As, cs), rfl, hw.sub (by repeat (first | exact KSub.nil | refine KSub.cons (by repeat (first | exact Pick.hd | apply Pick.tl)) ?_))⟩
end Go.Proofs.YtjephihlkjpohaaGreatDoor
namespace Go.Proofs.YtjephihlkjpohaaGreatDoor
set_option linter.all false
set_option linter.unusedVariables false
set_option linter.unusedSimpArgs false
open Go.RowKit
def ownsT (X : Nat → Option Addr) (T : Nat → List Int) (D : Nat → Nat) : Nat → List Fact
  | 0 => []
  | s + 1 => .own (X s) (T s).length (D s) 3 1 (iL (T s)) :: ownsT X T D s
def ownsTX (X : Nat → Option Addr) (T : Nat → List Int) (D : Nat → Nat) (s : Nat) : Nat → List Fact
  | 0 => []
  | n + 1 => if n = s then ownsT X T D n else .own (X n) (T n).length (D n) 3 1 (iL (T n)) :: ownsTX X T D s n
def tieX (X : Nat → Option Addr) (T : Nat → List Int) (D : Nat → Nat) (i : Nat) : List Value := [.slice (X (3 * i)) (T (3 * i)).length (D (3 * i)), .slice (X (3 * i + 1)) (T (3 * i + 1)).length (D (3 * i + 1)), .slice (X (3 * i + 2)) (T (3 * i + 2)).length (D (3 * i + 2))]
section
variable {X X2 : Nat → Option Addr} {T T2 : Nat → List Int} {D D2 : Nat → Nat} {s : Nat}
theorem ownsT_congr : ∀ {n : Nat}, (∀ i, i < n → X i = X2 i ∧ T i = T2 i ∧ D i = D2 i) → ownsT X T D n = ownsT X2 T2 D2 n
  | 0, _ => rfl
  | n + 1, h => by
    obtain ⟨h1, h2, h3⟩ := h n (by omega)
    simp only [ownsT, h1, h2, h3, ownsT_congr (n := n) fun i hi => h i (by omega)]
theorem ownsT_perm : ∀ {n : Nat}, s < n → (ownsT X T D n).Perm (.own (X s) (T s).length (D s) 3 1 (iL (T s)) :: ownsTX X T D s n)
  | n + 1, h => by
    by_cases hs : n = s
    · subst hs
      simp only [ownsT, ownsTX, if_true]
      exact List.Perm.refl _
    · simp only [ownsT, ownsTX, if_neg hs]
      exact ((ownsT_perm (n := n) (by omega)).cons _).trans (List.Perm.swap _ _ _)
theorem ownsT_mem {n : Nat} (h : s < n) : Fact.own (X s) (T s).length (D s) 3 1 (iL (T s)) ∈ ownsT X T D n := (ownsT_perm h).mem_iff.2 (by simp)
theorem ownsT_put {k2 : Nat} {A : Option Addr} {c2 : Nat} {L : List Int} {r : Nat → List Value} (hk : k2 = L.length) (hr : ∀ i, i < k2 → r i = iL L i) : ∀ {n : Nat}, s < n → KSub (.own A k2 c2 3 1 r :: ownsTX X T D s n) (ownsT (updN X s A) (updN T s L) (updN D s c2) n)
  | n + 1, hs => by
    by_cases hn : n = s
    · subst hn
      have e1 : updN X n A n = A := if_pos rfl
      have e2 : updN T n L n = L := if_pos rfl
      have e3 : updN D n c2 n = c2 := if_pos rfl
      simp only [ownsTX, ownsT, if_true, e1, e2, e3, ← hk]
      refine KSub.own Pick.hd hr ?_
      rw [ownsT_congr (X := X) (T := T) (D := D) (X2 := updN X n A) (T2 := updN T n L) (D2 := updN D n c2) fun i hi => ⟨(if_neg (by omega)).symm, (if_neg (by omega)).symm, (if_neg (by omega)).symm⟩]
      exact KSub.refl _
    · have e1 : updN X s A n = X n := if_neg hn
      have e2 : updN T s L n = T n := if_neg hn
      have e3 : updN D s c2 n = D n := if_neg hn
      simp only [ownsTX, ownsT, if_neg hn, e1, e2, e3]
      exact KSub.cons (Pick.tl Pick.hd) (ownsT_put hk hr (by omega))
end
theorem ownsT_next {X : Nat → Option Addr} {T : Nat → List Int} {D : Nat → Nat} {n k2 c2 : Nat} {A : Option Addr} {L : List Int} {r : Nat → List Value} (hk : k2 = L.length) (hr : ∀ i, i < k2 → r i = iL L i) : KSub (.own A k2 c2 3 1 r :: ownsT X T D n) (ownsT (updN X n A) (updN T n L) (updN D n c2) (n + 1)) := by
  have e1 : updN X n A n = A := if_pos rfl
  have e2 : updN T n L n = L := if_pos rfl
  have e3 : updN D n c2 n = c2 := if_pos rfl
  simp only [ownsT, e1, e2, e3, ← hk]
  refine KSub.own Pick.hd hr ?_
  rw [ownsT_congr (X := X) (T := T) (D := D) (X2 := updN X n A) (T2 := updN T n L) (D2 := updN D n c2) fun i hi => ⟨(if_neg (by omega)).symm, (if_neg (by omega)).symm, (if_neg (by omega)).symm⟩]
  exact KSub.refl _
structure ArrT (P : Program) (t E : TypeId) (n sz : Nat) : Prop where
  ht : P.underlying t = some (.array n E)
  hs : ∀ w, (sizeOf E).run P w = .ok sz w
theorem Pu.ea {c : Cx} {F : Fr} {K : List Fact} {d : Option Tmp} {t E ty : TypeId} {pos : String} {af : Array Edge} {g : Option (Nat × Bool)} {x y : Operand} {b n sz q : Nat} {kk : IntKind} {i : Int} (hT : ArrT c.P t E n sz) (hx : ev F x = some (.pointer (some ⟨b, 0, none⟩)) := by rfl) (hy : ev F y = some (.int kk i) := by rfl) (hk : i.toNat = q := by first | exact Int.toNat_natCast _ | rfl) (h0 : 0 ≤ i := by omega) (h1 : i < n := by omega) :
    Pu c F K ⟨d, .indexAddr t x y, ty, pos, af, g⟩ (.pointer (elA (some ⟨b, 0, none⟩) q sz 0)) := fun a w hF _ => by
  simp [execOp, hF.evl hx, hF.evl hy, Instr.indexAt, asIntOf, run_underlying hT.ht, Instr.sureAddr, h0, h1, hT.hs, elA, hk]
theorem arr3 : ArrT Tryz.prog 64 24 3 1 := ⟨Tryz.underlying64, fun w => by kernel_rfl⟩
end Go.Proofs.YtjephihlkjpohaaGreatDoor
namespace Go.Proofs.YtjephihlkjpohaaGreatDoor
set_option linter.all false
set_option linter.unusedVariables false
set_option linter.unusedSimpArgs false
open Go.RowKit
def T0 (l : Nat → Nat → Nat) (v : Nat → Nat → Nat → Int) (s : Nat) : List Int := toI (v (s / 3) (s % 3)) (l (s / 3) (s % 3))
theorem T0_at {l : Nat → Nat → Nat} {v : Nat → Nat → Nat → Int} {i k : Nat} (hk : k < 3) : T0 l v (3 * i + k) = toI (v i k) (l i k) := by
  unfold T0
  rw [show (3 * i + k) / 3 = i by omega, show (3 * i + k) % 3 = k by omega]
def takeT (F : List Int) (T : Nat → List Int) (s : Nat) : List Int := (T s).filter fun x => !F.contains x
def cnt3 (T : Nat → List Int) (i : Nat) : Nat := (T (3 * i)).length + (T (3 * i + 1)).length + (T (3 * i + 2)).length
def takeZ (F : List Int) (T : Nat → List Int) : Nat → Int
  | 0 => F.length
  | i + 1 => takeZ F T i - ((cnt3 T i : Int) - cnt3 (takeT F T) i)
def takeC (np : Nat) (F : List Int) (T : Nat → List Int) (m : Nat) : Int := if (allB F.length (riseP (fun k => F.getD k 0) np) && decide (takeZ F T m = 0)) = true then 0 else 54
theorem takeT_len {F : List Int} {T : Nat → List Int} {s : Nat} : (takeT F T s).length ≤ (T s).length := List.length_filter_le _ _
theorem takeZ_bd {F : List Int} {T : Nat → List Int} {m : Nat} (hT : ∀ i, i < m → cnt3 T i ≤ 1000) : ∀ i, i ≤ m → takeZ F T i ≤ F.length ∧ (F.length : Int) - 1000 * i ≤ takeZ F T i
  | 0, _ => by simp [takeZ]
  | i + 1, h => by
    have h1 := takeZ_bd (F := F) hT i (by omega)
    have h2 := hT i (by omega)
    have a := takeT_len (F := F) (T := T) (s := 3 * i)
    have b := takeT_len (F := F) (T := T) (s := 3 * i + 1)
    have c := takeT_len (F := F) (T := T) (s := 3 * i + 2)
    simp only [takeZ, cnt3] at *
    omega
theorem Sat.apart {S : List Nat} {w0 w : World} {K K' : List Fact} {φ ψ : Fact} (hs : Sat S w0 K w) (hp : Pick K φ K') (hq : ψ ∈ K') : ∀ b ∈ φ.foot, b ∉ ψ.foot := fun b hb hc => by
  have h1 := (hs.perm hp.perm).nd
  rw [feet_cons] at h1
  exact (List.nodup_append.1 h1).2.2 b hb b (List.mem_flatMap.2 ⟨ψ, hq, hc⟩) rfl
theorem take1_any {w : World} {bx m cm : Nat} {B : Option Addr} {M : List Int} (x : Int) (hm : m = M.length) (h1 : m ≤ 1000000) (hb : OldB w bx [.slice B m cm]) (hM : RdR w 1 B m (iL M)) :
    Calls Tryz.prog 90 #[.int .i64 x, .pointer (some ⟨bx, 0, none⟩)] w (Ret w (.bool (M.contains x))) := by
  refine K_enter (S := []) (K := []) Tryz.func90 rfl Tryz.ntmps90 rfl (Sat.start _) ?_
  refine TW.seq fun Y1 hY1 => ?_
  refine TW.region ?_
  refine TL.p Pu.as ?_
  refine TL.nil ?_
  refine TQ.thenN (hY1 _ _ ?_)
  refine TW.seq fun Y2 hY2 => ?_
  refine TW.region ?_
  refine TL.p (by first | exact (Pu.ld ty_sc24) | exact (Pu.ldo ty_sc24)) ?_
  refine TL.p Pu.mv ?_
  refine TL.cr rfl (enters Tryz.func91 rfl rfl) (fun w hw => by
      exact hasI_any x hm h1 (hM.sat hw Apart.nil)) ?_
  refine TL.p Pu.as ?_
  refine TL.nil ?_
  refine TQ.thenN (hY2 _ _ ?_)
  refine TW.ret ?_
  refine TQ.ret Tryz.results90 rfl ((.tmp rfl .nil)) ?_
  exact fun w hw => Ret.of hw
def arrR (X : Nat → Option Addr) (T : Nat → List Int) (D : Nat → Nat) (a : Nat → Option Addr) (l c : Nat → Nat) (s k j : Nat) : List Value := if j < k then [.slice (X (s + j)) (T (s + j)).length (D (s + j))] else [.slice (a j) (l j) (c j)]
theorem arrR_here {X : Nat → Option Addr} {T : Nat → List Int} {D : Nat → Nat} {a : Nat → Option Addr} {l c : Nat → Nat} {s k : Nat} : arrR X T D a l c s k k = [.slice (a k) (l k) (c k)] := if_neg (by omega)
theorem tieX_congr {X X2 : Nat → Option Addr} {T T2 : Nat → List Int} {D D2 : Nat → Nat} {i : Nat} (h : ∀ s, s < 3 * i + 3 → X s = X2 s ∧ T s = T2 s ∧ D s = D2 s) : tieX X T D i = tieX X2 T2 D2 i := by
  obtain ⟨a1, a2, a3⟩ := h (3 * i) (by omega)
  obtain ⟨b1, b2, b3⟩ := h (3 * i + 1) (by omega)
  obtain ⟨c1, c2, c3⟩ := h (3 * i + 2) (by omega)
  simp only [tieX, a1, a2, a3, b1, b2, b3, c1, c2, c3]
abbrev TKx := (Option Addr × Nat) × (Nat → Option Addr) × (Nat → Nat)
def tiesX (m : Nat) (T : Nat → List Int) (x : TKx) : List Fact := .own x.1.1 m x.1.2 36 3 (tieX x.2.1 T x.2.2) :: ownsT x.2.1 T x.2.2 (3 * m)
set_option maxRecDepth 100000 in
set_option maxHeartbeats 4000000 in
theorem take_any {W : World} {AT Af : Option Addr} {m cT nf cf np : Nat} {a : Nat → Nat → Option Addr} {l c : Nat → Nat → Nat} {v : Nat → Nat → Nat → Int} {F : List Int} (hm : m ≤ 1000) (hnf : nf = F.length) (hf : nf ≤ 1000) (hnp : np ≤ 1000000000) (hl : ∀ i, i < m → tot (l i) 3 ≤ 1000)
    (hT : RdR W 3 AT m (fun i => tieL (a i) (l i) (c i))) (hI : ∀ i, i < m → ∀ j, j < 3 → RdR W 1 (a i j) (l i j) (fun k => [.int .i64 (v i j k)])) (hF : RdR W 1 Af nf (iL F)) :
    TryK Tryz.prog 49 #[.slice AT m cT, .slice Af nf cf, .int .i64 (np : Int)] [] TKx (fun x => .slice x.1.1 m x.1.2) (tiesX m (takeT F (T0 l v))) errs (takeC np F (T0 l v) m) W := by
  unfold TryK
  have hc3 : ∀ i, cnt3 (T0 l v) i = tot (l i) 3 := fun i => by
    unfold cnt3
    have e0 : T0 l v (3 * i) = toI (v i 0) (l i 0) := T0_at (k := 0) (by omega)
    rw [tot3, e0, T0_at (by omega), T0_at (by omega), toI_len, toI_len, toI_len]
  have hzb := takeZ_bd (F := F) (T := T0 l v) (m := m) fun i hi => by rw [hc3]; exact hl i hi
  generalize hTt : takeT F (T0 l v) = Tt at *
  have hTl : ∀ s, (Tt s).length ≤ (T0 l v s).length := fun s => by rw [← hTt]; exact takeT_len
  replace hnf : nf ≤ F.length ∧ F.length ≤ nf := ⟨Nat.le_of_eq hnf, Nat.le_of_eq hnf.symm⟩
  have hC1 : ∀ {e : Int}, (if (allB nf (riseP (fun k => F.getD k 0) np)) = true then (0 : Int) else e) ≠ 0 → takeC np F (T0 l v) m = 54 := fun h => by
    unfold takeC
    rw [show F.length = nf by omega, (need_no h).1]
    rfl
  have hC2 : ∀ {e z : Int}, (if decide (z = 0) = true then (0 : Int) else e) ≠ 0 → z = takeZ F (T0 l v) m → takeC np F (T0 l v) m = 54 := fun h h2 => by
    unfold takeC
    rw [← h2, (need_no h).1, Bool.and_false]
    rfl
  refine K_enter (S := []) (K := []) Tryz.func49 rfl Tryz.ntmps49 rfl (Sat.start _) ?_
  refine TW.seq fun Y1 hY1 => ?_
  refine TW.region ?_
  refine TL.m Mk.bx ?_
  intro b1
  refine TL.p Pu.as ?_
  refine TL.nil ?_
  refine TQ.thenN (hY1 _ _ ?_)
  refine TW.seq fun Y2 hY2 => ?_
  refine TW.region ?_
  refine TL.p (Pu.ld ty_sc24) ?_
  refine TL.p Pu.mv ?_
  refine TL.cr rfl (enters Tryz.func88 rfl rfl) (fun w hw => by
      exact rising_any (v := fun k => F.getD k 0) (by omega) (hF.sat hw Apart.nil) (by omega) (by omega)) ?_
  refine TL.ct rfl (enters Tryz.func76 rfl rfl) (fun w hw => by
      exact need_any _ _ _ (by decide)) (fun hp1 => ?_) (fun hp1 => ?_)
  rotate_left
  · refine TQ.thenP ?_
    refine TQ.pan rfl ?_
    exact fun w hw => .inr ⟨by first | (rw [hC2 hp2 hz]; decide) | (rw [hC1 hp1]; decide), by first | (rw [hC2 hp2 hz, (need_no hp2).2]) | (rw [hC1 hp1, (need_no hp1).2]), hw.sub KSub.nil⟩
  refine TL.nil ?_
  refine TQ.thenN (hY2 _ _ ?_)
  refine TW.seq fun Y3 hY3 => ?_
  refine TW.region ?_
  refine TL.p (Pu.ld ty_sc24) ?_
  refine TL.p (Pu.ln Tryz.underlying24) ?_
  refine TL.p Pu.as ?_
  refine TL.nil ?_
  refine TQ.thenN (hY3 _ _ ?_)
  refine TW.seq fun Y4 hY4 => ?_
  refine TW.region ?_
  refine TL.p Pu.as ?_
  refine TL.nil ?_
  refine TQ.thenN (hY4 _ _ ?_)
  refine TW.seq fun Y5 hY5 => ?_
  refine TW.seq fun Y6 hY6 => ?_
  refine TW.region ?_
  refine TL.p Pu.mv ?_
  refine TL.p (Pu.ln Tryz.underlying23) ?_
  refine TL.p Pu.mv ?_
  refine TL.nil ?_
  refine TQ.thenN (hY6 _ _ ?_)
  refine TW.block ?_
  refine TW.loop6 (fun (i : Nat) (z : Int) (An : Option Addr) (cn : Nat) (X : Nat → Option Addr) (D : Nat → Nat) => [(22, .int .i64 (i : Int)), (21, .int .i64 (m : Int)), (20, .slice AT m cT), (7, .int .i64 z), (8, .slice An i cn), (4, .pointer (some ⟨b1, 0, none⟩))]) (fun i z An cn X D => .own An i cn 36 3 (tieX X Tt D) :: .blk b1 24 [.slice Af nf cf] :: ownsT X Tt D (3 * i)) (fun i z An cn X D => i ≤ m ∧ z = takeZ F (T0 l v) i) (fun i z An cn X D => m - i) 0 _ none 0 (fun _ => none) (fun _ => 0) (by repeat (first | exact trivial | refine ⟨rfl, ?_⟩ | refine ⟨trivial, ?_⟩)) ?_ ?_ ?_
  · exact KSub.nilOwn (KSub.cons Pick.hd KSub.nil)
  · exact ⟨Nat.zero_le _, by simp only [takeZ]; omega⟩
  rintro i z An cn X D ⟨hi, hz⟩ Z0 hZ0
  have hzi := hzb i hi
  refine TW.seq fun Y7 hY7 => ?_
  refine TW.region ?_
  refine TL.p Pu.lt ?_
  refine TL.nil ?_
  refine TQ.thenN (hY7 _ _ ?_)
  refine TW.seq fun Y8 hY8 => ?_
  refine TW.cond rfl (fun hc0 => ?_) (fun hc0 => ?_)
  · try simp only [decide_eq_true_eq, decide_eq_false_iff_not, Bool.not_eq_true', Bool.not_eq_false', Bool.and_eq_true, Bool.or_eq_true, Bool.and_eq_false_iff, Bool.or_eq_false_iff, Int.not_lt, Int.not_le] at hc0
    have him : i < m := by omega
    have hli := hl i him
    refine TW.skip ?_
    refine TQ.thenN (hY8 _ _ ?_)
    refine TW.seq fun Y9 hY9 => ?_
    refine TW.block ?_
    refine TW.seq fun Y10 hY10 => ?_
    refine TW.region ?_
    refine TL.p (Pu.el ty_et23) ?_
    refine TL.p (Pu.lds ty_ag36) ?_
    refine TL.m (Mk.al ty_zr36) ?_
    intro b2
    first | refine TL.st ty_sz36 ?_ | refine TL.se ty_sz36 ?_
    refine TL.nil ?_
    refine TQ.thenN (hY10 _ _ ?_)
    refine TW.seq fun Y11 hY11 => ?_
    refine TW.region ?_
    refine TL.p (Pu.lds ty_ag36) ?_
    refine TL.cr rfl (enters Tryz.func85 rfl rfl) (fun w hw => by
        exact lists_any _ _ _ _) ?_
    refine TL.m (Mk.al ty_zr64) ?_
    intro b3
    first | refine TL.st ty_sz64 ?_ | refine TL.se ty_sz64 ?_
    refine TL.nil ?_
    refine TQ.thenN (hY11 _ _ ?_)
    refine TW.seq fun Y12 hY12 => ?_
    refine TW.seq fun Y13 hY13 => ?_
    refine TW.region ?_
    refine TL.p Pu.mv ?_
    refine TL.nil ?_
    refine TQ.thenN (hY13 _ _ ?_)
    refine TW.block ?_
    refine TW.loop3 (fun (k : Nat) (X : Nat → Option Addr) (D : Nat → Nat) => [(28, .int .i64 (k : Int)), (11, .pointer (some ⟨b3, 0, none⟩)), (10, .pointer (some ⟨b2, 0, none⟩)), (22, .int .i64 (i : Int)), (21, .int .i64 (m : Int)), (20, .slice AT m cT), (7, .int .i64 z), (8, .slice An i cn), (4, .pointer (some ⟨b1, 0, none⟩))]) (fun k X D => .own (some ⟨b3, 0, none⟩) 3 3 64 1 (arrR X Tt D (a i) (l i) (c i) (3 * i) k) :: .blk b2 36 (tieL (a i) (l i) (c i)) :: .own An i cn 36 3 (tieX X Tt D) :: .blk b1 24 [.slice Af nf cf] :: ownsT X Tt D (3 * i + k)) (fun k X D => k ≤ 3) (fun k X D => 3 - k) 0 X D (by repeat (first | exact trivial | refine ⟨rfl, ?_⟩ | refine ⟨trivial, ?_⟩)) ?_ ?_ ?_
    · refine KSub.ofBlk (by repeat (first | exact Pick.hd | apply Pick.tl)) rfl (fun j hj => ?_) rfl rfl (KSub.cons (by repeat (first | exact Pick.hd | apply Pick.tl)) (KSub.cons (by repeat (first | exact Pick.hd | apply Pick.tl)) (KSub.cons (by repeat (first | exact Pick.hd | apply Pick.tl)) (KSub.refl _))))
      unfold arrR
      rw [if_neg (by omega)]
      rfl
    · exact Nat.zero_le _
    rintro k X D hk Z1 hZ1
    refine TW.seq fun Y14 hY14 => ?_
    refine TW.region ?_
    refine TL.p Pu.lt ?_
    refine TL.nil ?_
    refine TQ.thenN (hY14 _ _ ?_)
    refine TW.seq fun Y15 hY15 => ?_
    refine TW.cond rfl (fun hc1 => ?_) (fun hc1 => ?_)
    · try simp only [decide_eq_true_eq, decide_eq_false_iff_not, Bool.not_eq_true', Bool.not_eq_false', Bool.and_eq_true, Bool.or_eq_true, Bool.and_eq_false_iff, Bool.or_eq_false_iff, Int.not_lt, Int.not_le] at hc1
      have hk3 : k < 3 := by omega
      have hIk := (hI i him k hk3).toI
      have hTk : (toI (v i k) (l i k)).filter (fun x => !F.contains x) = Tt (3 * i + k) := by rw [← hTt]; unfold takeT; rw [T0_at hk3]
      have hlk : l i k ≤ 1000 := by
        rw [tot3] at hli
        have : k = 0 ∨ k = 1 ∨ k = 2 := by omega
        rcases this with rfl | rfl | rfl <;> omega
      rw [toI_len] at hIk
      refine TW.skip ?_
      refine TQ.thenN (hY15 _ _ ?_)
      refine TW.seq fun Y16 hY16 => ?_
      refine TW.block ?_
      refine TW.seq fun Y17 hY17 => ?_
      refine TW.region ?_
      refine TL.p Pu.mv ?_
      refine TL.p Pu.as ?_
      refine TL.nil ?_
      refine TQ.thenN (hY17 _ _ ?_)
      refine TW.region ?_
      refine TL.p Pu.mv ?_
      refine TL.p Pu.mv ?_
      refine TL.p (Pu.ea (q := k) arr3) ?_
      refine TL.p (Pu.ld ty_sc24 (hq := Cells.own (m := 1) (by repeat (first | exact Pick.hd | apply Pick.tl)) (by omega) (by rw [arrR_here]; exact SubL.take SubL.nil))) ?_
      refine TL.call (M := []) rfl (enters Tryz.func80 rfl rfl) (List.Perm.refl _) rfl (fun w hw => by
          exact cloneI_any (v := fun q => (toI (v i k) (l i k)).getD q 0) (by omega) (hIk.sat hw Apart.nil)) ?_
      rintro ⟨A4, c4⟩
      refine TL.p Pu.fn ?_
      refine TL.call rfl (enters Tryz.func89 rfl rfl) (List.Perm.refl _) rfl (fun w hw => by
          have hO : OwnR w A4 (l i k) c4 3 1 (iL (toI (v i k) (l i k))) := hw.holds (.own A4 (l i k) c4 3 1 (fun q => [.int .i64 ((toI (v i k) (l i k)).getD q 0)])) (List.mem_cons_self ..)
          have hge := hw.ge
          have hB : OldB w b1 [.slice Af nf cf] := OldB.of_blk (hw.holds (.blk b1 24 [.slice Af nf cf]) (by simp))
          have hdis := hw.apart (φ := .own A4 (l i k) c4 3 1 (fun q => [.int .i64 ((toI (v i k) (l i k)).getD q 0)])) (ψ := .blk b1 24 [.slice Af nf cf]) Pick.hd (by simp)
          refine deleteI_any (fs := []) (cs := [.pointer (some ⟨b1, 0, none⟩)]) (p := fun x => F.contains x) toI_len.symm (by omega) (enters Tryz.func90 rfl rfl) hO fun x w' hc => ?_
          have hfe : feet [Fact.own A4 (l i k) c4 3 1 (iL (toI (v i k) (l i k)))] = (Fact.own A4 (l i k) c4 3 1 (fun q => [.int .i64 ((toI (v i k) (l i k)).getD q 0)])).foot := by simp [feet]; rfl
          have hap : ∀ b ∈ feet [Fact.own A4 (l i k) c4 3 1 (iL (toI (v i k) (l i k)))], W.heap.size ≤ b := fun b hb9 => by
            rcases hge b (by rw [hfe] at hb9; exact List.mem_append_left _ hb9) with h | h
            · cases h
            · exact h
          exact take1_any x (by omega) (by omega) (hB.chg hc (fun h => by rw [hfe] at h; exact hdis b1 h (by simp [Fact.foot]))) ((hF.sat hw Apart.nil).chg0 hc (hF.apart hap))) ?_
      intro _
      refine TL.p (Pu.ea (q := k) arr3) ?_
      refine TL.se ty_sz24 ?_ (hput := by rw [arrR_here]; exact PutL.put PutL.nil)
      refine TL.nil ?_
      refine TQ.blkN ?_
      refine TQ.thenN (hY16 _ _ ?_)
      refine TW.region ?_
      refine TL.p Pu.ad ?_
      refine TL.p Pu.mv ?_
      refine TL.nil ?_
      refine TQ.thenN (hZ1 (k + 1) (updN X (3 * i + k) A4) (updN D (3 * i + k) c4) _ _ ?_ ?_ (by repeat (first | exact trivial | refine ⟨rfl, ?_⟩ | refine ⟨trivial, ?_⟩)) ?_)
      · exact (by omega)
      · exact (by first | omega | (simp only []; omega) | (simp; omega))
      · have eX : updN X (3 * i + k) A4 (3 * i + k) = A4 := if_pos rfl
        have eD : updN D (3 * i + k) c4 (3 * i + k) = c4 := if_pos rfl
        have eT : updN Tt (3 * i + k) (Tt (3 * i + k)) = Tt := by funext s; unfold updN; split <;> simp_all
        have hn := ownsT_next (X := X) (T := Tt) (D := D) (n := 3 * i + k) (A := A4) (c2 := c4) (L := Tt (3 * i + k)) (k2 := ((toI (v i k) (l i k)).filter fun x => !F.contains x).length) (r := iL ((toI (v i k) (l i k)).filter fun x => !F.contains x)) (by rw [hTk]) (fun q _ => by rw [hTk])
        rw [eT] at hn
        refine KSub.own (by repeat (first | exact Pick.hd | apply Pick.tl)) (fun j hj => ?_) (KSub.cons (by repeat (first | exact Pick.hd | apply Pick.tl)) (KSub.own (by repeat (first | exact Pick.hd | apply Pick.tl)) (fun q hq => ?_) (KSub.cons (by repeat (first | exact Pick.hd | apply Pick.tl)) hn)))
        · unfold updR
          by_cases hjk : j = k
          · subst hjk
            rw [if_pos rfl]
            unfold arrR
            rw [if_pos (by omega), eX, eD, hTk]
          · rw [if_neg hjk]
            unfold arrR updN
            by_cases h9 : j < k
            · rw [if_pos h9, if_pos (by omega), if_neg (by omega), if_neg (by omega)]
            · rw [if_neg h9, if_neg (by omega)]
        · exact tieX_congr fun s hs => ⟨(if_neg (by omega)).symm, rfl, (if_neg (by omega)).symm⟩
    · try simp only [decide_eq_true_eq, decide_eq_false_iff_not, Bool.not_eq_true', Bool.not_eq_false', Bool.and_eq_true, Bool.or_eq_true, Bool.and_eq_false_iff, Bool.or_eq_false_iff, Int.not_lt, Int.not_le] at hc1
      obtain rfl : k = 3 := by omega
      have hcn : tot (fun j => (Tt (3 * i + j)).length) 3 = cnt3 Tt i := by rw [tot3]; rfl
      have hcl : cnt3 Tt i ≤ 1000 := by
        have h1 := hTl (3 * i)
        have h2 := hTl (3 * i + 1)
        have h3 := hTl (3 * i + 2)
        have h4 := hc3 i
        unfold cnt3 at *
        omega
      refine TW.exit ?_
      refine TQ.thenX ?_
      refine TQ.thenX ?_
      refine TQ.blkX ?_
      refine TQ.thenN (hY12 _ _ ?_)
      refine TW.seq fun Y18 hY18 => ?_
      refine TW.region ?_
      refine TL.subK (KSub.own (s := fun j => [.slice (X (3 * i + j)) (Tt (3 * i + j)).length (D (3 * i + j))]) Pick.hd (fun j hj => if_pos hj) (KSub.refl _)) ?_
      refine TL.p (Pu.ea (q := 0) arr3) ?_
      refine TL.p (Pu.ld ty_sc24) ?_
      refine TL.p (Pu.ea (q := 1) arr3) ?_
      refine TL.p (Pu.ld ty_sc24) ?_
      refine TL.p (Pu.ea (q := 2) arr3) ?_
      refine TL.p (Pu.ld ty_sc24) ?_
      refine TL.p Pu.bd ?_
      refine TL.m (Mk.al ty_zr36) ?_
      intro b4
      first | refine TL.st ty_sz36 ?_ | refine TL.se ty_sz36 ?_
      refine TL.nil ?_
      refine TQ.thenN (hY18 _ _ ?_)
      refine TW.seq fun Y19 hY19 => ?_
      refine TW.dw 10 ?_
      refine RK.tk Pu.mv ?_
      refine RK.tk (Pu.lds ty_ag36) ?_
      refine RK.keep ?_
      refine RK.keep ?_
      refine RK.tk (Pu.lds ty_ag36) ?_
      refine RK.keep ?_
      refine RK.keep ?_
      refine RK.keep ?_
      refine RK.keep ?_
      refine RK.keep ?_
      refine RK.ch [false, true, false, true, true, true, true] ?_ trivial
      refine WK.call rfl (enters Tryz.func72 rfl rfl) rfl (fun w hw => by
          exact all_any (a := a i) (l := l i) (c := c i) (v := v i) (by omega) (fun j hj => (hI i him j hj).sat hw Apart.nil)) ?_
      rintro ⟨Ab, cb⟩
      refine WK.p (Pu.ln Tryz.underlying24) ?_
      refine WK.call rfl (enters Tryz.func72 rfl rfl) rfl (fun w hw => by
          exact all_any (a := fun j => X (3 * i + j)) (l := fun j => (Tt (3 * i + j)).length) (c := fun j => D (3 * i + j)) (v := fun j q => (Tt (3 * i + j)).getD q 0) (by rw [hcn]; omega) (fun j hj => OwnR.rdr (hw.holds (.own (X (3 * i + j)) (Tt (3 * i + j)).length (D (3 * i + j)) 3 1 (iL (Tt (3 * i + j)))) (by have hm9 := ownsT_mem (X := X) (T := Tt) (D := D) (n := 3 * i + 3) (show 3 * i + j < 3 * i + 3 by omega); simp only [List.mem_cons, List.mem_append]; simp [hm9])))) ?_
      rintro ⟨Ac, cc⟩
      refine WK.p (Pu.ln Tryz.underlying24) ?_
      refine WK.p (Pu.sb (h := by rw [hcn]; omega)) ?_
      refine WK.p (Pu.sb (h := by rw [hcn]; omega)) ?_
      refine WK.p Pu.as ?_
      refine WK.n ?_
      refine TL.nil ?_
      refine TQ.thenN (hY19 _ _ ?_)
      refine TW.region ?_
      refine TL.p Pu.mv ?_
      refine TL.p (Pu.lds ty_ag36) ?_
      refine TL.m Mk.bl ?_
      intro b5
      first | refine TL.a0 ty_et23 ?_ | refine TL.ap ty_et23 ?_
      intro A6 c6
      refine TL.p Pu.as ?_
      refine TL.nil ?_
      refine TQ.blkN ?_
      refine TQ.thenN (hY9 _ _ ?_)
      refine TW.region ?_
      refine TL.p Pu.ad ?_
      refine TL.p Pu.mv ?_
      refine TL.nil ?_
      refine TQ.thenN (hZ0 (i + 1) _ _ _ X D _ _ ?_ ?_ (by repeat (first | exact trivial | refine ⟨rfl, ?_⟩ | refine ⟨trivial, ?_⟩)) ?_)
      · exact ⟨by omega, by rw [hz, hcn]; simp only [takeZ]; rw [hc3, ← hTt]⟩
      · exact (by first | omega | (simp only []; omega) | (simp; omega))
      · refine KSub.own Pick.hd (fun q hq => ?_) (KSub.cons (by repeat (first | exact Pick.hd | apply Pick.tl)) ?_)
        · unfold catR
          by_cases h9 : q < i
          · rw [if_pos h9]
          · obtain rfl : q = i := by omega
            rw [if_neg h9]
            rfl
        · repeat (first | exact KSub.refl _ | refine KSub.drop ?_)
  · try simp only [decide_eq_true_eq, decide_eq_false_iff_not, Bool.not_eq_true', Bool.not_eq_false', Bool.and_eq_true, Bool.or_eq_true, Bool.and_eq_false_iff, Bool.or_eq_false_iff, Int.not_lt, Int.not_le] at hc0
    obtain rfl : m = i := by omega
    refine TW.exit ?_
    refine TQ.thenX ?_
    refine TQ.thenX ?_
    refine TQ.blkX ?_
    refine TQ.thenN (hY5 _ _ ?_)
    refine TW.seq fun Y20 hY20 => ?_
    refine TW.region ?_
    refine TL.p Pu.mv ?_
    refine TL.p Pu.eq ?_
    refine TL.ct rfl (enters Tryz.func76 rfl rfl) (fun w hw => by
        exact need_any _ _ _ (by decide)) (fun hp2 => ?_) (fun hp2 => ?_)
    rotate_left
    · refine TQ.thenP ?_
      refine TQ.pan rfl ?_
      exact fun w hw => .inr ⟨by first | (rw [hC2 hp2 hz]; decide) | (rw [hC1 hp1]; decide), by first | (rw [hC2 hp2 hz, (need_no hp2).2]) | (rw [hC1 hp1, (need_no hp1).2]), hw.sub KSub.nil⟩
    refine TL.nil ?_
    refine TQ.thenN (hY20 _ _ ?_)
    refine TW.seq fun Y21 hY21 => ?_
    refine TW.region ?_
    refine TL.p Pu.mv ?_
    refine TL.p Pu.as ?_
    refine TL.nil ?_
    refine TQ.thenN (hY21 _ _ ?_)
    refine TW.ret ?_
    refine TQ.ret Tryz.results49 rfl ((.tmp rfl .nil)) ?_
    exact fun w hw => .inl ⟨by
      unfold takeC
      rw [show F.length = nf by omega, need_yes (by decide) hp1, ← hz, need_yes (by decide) hp2]
      rfl, ((An, cn), X, D), rfl, hw.sub (by unfold tiesX; exact KSub.cons Pick.hd (KSub.drop (KSub.refl _)))⟩
end Go.Proofs.YtjephihlkjpohaaGreatDoor
namespace Go.Proofs.YtjephihlkjpohaaGreatDoor
set_option linter.all false
set_option linter.unusedVariables false
set_option linter.unusedSimpArgs false
open Go.RowKit
theorem indexTied_any {g : FuncId} {fs cs : List Value} {A : Option Addr} {n cp : Nat} {v : Nat → Nat → Value} {p : Nat → Bool} {M : Nat → List Fact} {w : World} (hen : Enters Tryz.prog g) (hn : n ≤ 9223372036854775807)
    (hR : RdR w 3 A n (fun k => [v k 0, v k 1, v k 2])) (hA : 0 < n → Apart (feet (M 0)) A) (hM : Sat (feet (M 0)) w (M 0) w) (hfe : ∀ k, feet (M k) = feet (M 0))
    (hg : ∀ k, k < n → (∀ j, j < k → p j = false) → ∀ w', Sat (feet (M 0)) w (M k) w' → CallsK Tryz.prog g (fs ++ [Value.agg #[v k 0, v k 1, v k 2]] ++ cs).toArray (M k) w' Unit (fun _ => .bool (p k)) (fun _ => M (k + 1))) :
    CallsK Tryz.prog 154 #[.slice A n cp, .func (.func g) fs.toArray cs.toArray] (M 0) w (Fst p n) (fun x => .int .i64 (if x.1 < n then (x.1 : Int) else -1)) (fun x => M (aft n x.1)) := by
  refine K_enter (S := feet (M 0)) (K := M 0) Tryz.func154 rfl Tryz.ntmps154 rfl hM ?_
  refine TW.seq fun Y1 hY1 => ?_
  refine TW.region ?_
  refine TL.p Pu.as ?_
  refine TL.nil ?_
  refine TQ.thenN (hY1 _ _ ?_)
  refine TW.seq fun Y2 hY2 => ?_
  refine TW.seq fun Y3 hY3 => ?_
  refine TW.region ?_
  refine TL.p Pu.mv ?_
  refine TL.p (Pu.ln Tryz.underlying23) ?_
  refine TL.p Pu.mv ?_
  refine TL.nil ?_
  refine TQ.thenN (hY3 _ _ ?_)
  refine TW.block ?_
  refine TW.loop1 (fun (k : Nat) => [(8, .int .i64 (k : Int)), (7, .int .i64 (n : Int)), (0, .slice A n cp), (1, .func (.func g) fs.toArray cs.toArray)]) (fun k => M k) (fun k => k ≤ n ∧ ∀ j, j < k → p j = false) (fun k => n - k) 0 (by repeat (first | exact trivial | refine ⟨rfl, ?_⟩ | refine ⟨trivial, ?_⟩)) ?_ ?_ ?_
  · exact KSub.refl _
  · exact ⟨by omega, fun j hj => by omega⟩
  rintro k ⟨hk, hall⟩ Z0 hZ0
  refine TW.seq fun Y4 hY4 => ?_
  refine TW.region ?_
  refine TL.p Pu.lt ?_
  refine TL.nil ?_
  refine TQ.thenN (hY4 _ _ ?_)
  refine TW.seq fun Y5 hY5 => ?_
  refine TW.cond rfl (fun hc0 => ?_) (fun hc0 => ?_)
  · try simp only [decide_eq_true_eq, decide_eq_false_iff_not, Bool.not_eq_true', Bool.not_eq_false', Bool.and_eq_true, Bool.or_eq_true, Bool.and_eq_false_iff, Bool.or_eq_false_iff, Int.not_lt, Int.not_le] at hc0
    have hkn : k < n := by omega
    have hA := hA (by omega)
    refine TW.skip ?_
    refine TQ.thenN (hY5 _ _ ?_)
    refine TW.seq fun Y6 hY6 => ?_
    refine TW.block ?_
    refine TW.seq fun Y7 hY7 => ?_
    refine TW.region ?_
    refine TL.p Pu.mv ?_
    refine TL.p Pu.as ?_
    refine TL.nil ?_
    refine TQ.thenN (hY7 _ _ ?_)
    refine TW.seq fun Y8 hY8 => ?_
    refine TW.region ?_
    refine TL.p Pu.mv ?_
    refine TL.p Pu.mv ?_
    refine TL.p Pu.mv ?_
    refine TL.p (Pu.el ty_et23) ?_
    refine TL.p (Pu.lds ty_ag36) ?_
    refine TL.cvk rfl rfl hen (by rw [List.append_nil]) (fun w hw => by
        exact hg k (by omega) hall w hw) ?_
    intro _
    refine TL.nil ?_
    refine TQ.thenN (hY8 _ _ ?_)
    refine TW.cond rfl (fun hc1 => ?_) (fun hc1 => ?_)
    · try simp only [decide_eq_true_eq, decide_eq_false_iff_not, Bool.not_eq_true', Bool.not_eq_false', Bool.and_eq_true, Bool.or_eq_true, Bool.and_eq_false_iff, Bool.or_eq_false_iff, Int.not_lt, Int.not_le] at hc1
      refine TW.seq fun Y9 hY9 => ?_
      refine TW.region ?_
      refine TL.p Pu.mv ?_
      refine TL.p Pu.as ?_
      refine TL.nil ?_
      refine TQ.thenN (hY9 _ _ ?_)
      refine TW.ret ?_
      refine TQ.blkR ?_
      refine TQ.thenR ?_
      refine TQ.thenR ?_
      refine TQ.blkR ?_
      refine TQ.thenR ?_
      refine TQ.ret Tryz.results154 rfl ((.tmp rfl .nil)) ?_
      exact fun w hw => ⟨⟨k, by omega, hall, fun _ => hc1⟩, by simp [hkn]; rfl, by simpa [aft, hkn] using hw⟩
    · try simp only [decide_eq_true_eq, decide_eq_false_iff_not, Bool.not_eq_true', Bool.not_eq_false', Bool.and_eq_true, Bool.or_eq_true, Bool.and_eq_false_iff, Bool.or_eq_false_iff, Int.not_lt, Int.not_le] at hc1
      refine TW.skip ?_
      refine TQ.blkN ?_
      refine TQ.thenN (hY6 _ _ ?_)
      refine TW.region ?_
      refine TL.p Pu.ad ?_
      refine TL.p Pu.mv ?_
      refine TL.nil ?_
      refine TQ.thenN (hZ0 (k + 1) _ _ ?_ ?_ (by repeat (first | exact trivial | refine ⟨rfl, ?_⟩ | refine ⟨trivial, ?_⟩)) ?_)
      · refine ⟨by omega, fun j hj => ?_⟩
        by_cases h : j = k
        · subst h; exact hc1
        · exact hall j (by omega)
      · exact (by first | omega | (simp only []; omega) | (simp; omega))
      · rw [List.append_nil]; exact KSub.refl _
  · try simp only [decide_eq_true_eq, decide_eq_false_iff_not, Bool.not_eq_true', Bool.not_eq_false', Bool.and_eq_true, Bool.or_eq_true, Bool.and_eq_false_iff, Bool.or_eq_false_iff, Int.not_lt, Int.not_le] at hc0
    have hkn : k = n := by omega
    refine TW.exit ?_
    refine TQ.thenX ?_
    refine TQ.thenX ?_
    refine TQ.blkX ?_
    refine TQ.thenN (hY2 _ _ ?_)
    refine TW.seq fun Y10 hY10 => ?_
    refine TW.region ?_
    refine TL.p Pu.as ?_
    refine TL.nil ?_
    refine TQ.thenN (hY10 _ _ ?_)
    refine TW.ret ?_
    refine TQ.ret Tryz.results154 rfl ((.tmp rfl .nil)) ?_
    exact fun w hw => ⟨⟨k, by omega, hall, fun h => by omega⟩, by simp [hkn]; rfl, by simpa [aft, hkn] using hw⟩
theorem hasTied_st {g : FuncId} {fs cs : List Value} {A : Option Addr} {n cp : Nat} {v : Nat → Nat → Value} {p : Nat → Bool} {M : Nat → List Fact} {w : World} (hen : Enters Tryz.prog g) (hn : n ≤ 9223372036854775807)
    (hR : RdR w 3 A n (fun k => [v k 0, v k 1, v k 2])) (hA : 0 < n → Apart (feet (M 0)) A) (hM : Sat (feet (M 0)) w (M 0) w) (hfe : ∀ k, feet (M k) = feet (M 0))
    (hg : ∀ k, k < n → (∀ j, j < k → p j = false) → ∀ w', Sat (feet (M 0)) w (M k) w' → CallsK Tryz.prog g (fs ++ [Value.agg #[v k 0, v k 1, v k 2]] ++ cs).toArray (M k) w' Unit (fun _ => .bool (p k)) (fun _ => M (k + 1))) :
    CallsK Tryz.prog 128 #[.slice A n cp, .func (.func g) fs.toArray cs.toArray] (M 0) w (Fst p n) (fun x => .bool (decide (x.1 < n))) (fun x => M (aft n x.1)) := by
  refine K_enter (S := feet (M 0)) (K := M 0) Tryz.func128 rfl Tryz.ntmps128 rfl hM ?_
  refine TW.seq fun Y1 hY1 => ?_
  refine TW.region ?_
  refine TL.p Pu.as ?_
  refine TL.nil ?_
  refine TQ.thenN (hY1 _ _ ?_)
  refine TW.seq fun Y2 hY2 => ?_
  refine TW.region ?_
  refine TL.p Pu.mv ?_
  refine TL.p Pu.mv ?_
  refine TL.call rfl (enters Tryz.func154 rfl rfl) (by rw [List.append_nil]) rfl (fun w hw => by
      exact indexTied_any hen hn (hR.sat0 hw hA) hA hw.self hfe (fun k hk hp w' hw' => hg k hk hp w' (hw'.from hw.chg fun _ hb => .inl hb))) ?_
  intro x
  refine TL.p Pu.ge ?_
  refine TL.p Pu.as ?_
  refine TL.nil ?_
  refine TQ.thenN (hY2 _ _ ?_)
  refine TW.ret ?_
  refine TQ.ret Tryz.results128 rfl ((.tmp rfl .nil)) ?_
  exact fun w hw => ⟨x, by by_cases h : x.1 < n <;> simp [retV, h], by simpa using hw⟩
theorem hasTied_any {g : FuncId} {fs cs : List Value} {A : Option Addr} {n cp : Nat} {v : Nat → Nat → Value} {p : Nat → Bool} {w : World} (hen : Enters Tryz.prog g) (hn : n ≤ 9223372036854775807)
    (hR : RdR w 3 A n (fun k => [v k 0, v k 1, v k 2])) (hg : ∀ k, k < n → ∀ w', Below w.heap.size w w' → Calls Tryz.prog g (fs ++ [Value.agg #[v k 0, v k 1, v k 2]] ++ cs).toArray w' (Ret w' (.bool (p k)))) :
    Calls Tryz.prog 128 #[.slice A n cp, .func (.func g) fs.toArray cs.toArray] w (Ret w (.bool (anyB n p))) :=
  CallsK.retOf (hasTied_st (M := fun _ => []) hen hn hR (fun _ => Apart.nil) (Sat.start w) (fun _ => rfl) fun k hk _ w' hw' => CallsK.ret (hg k hk w' (Chg.ext hw'.chg))) fun x => by rw [x.any]; rfl
theorem everyTied1_any {g : FuncId} {fs cs : List Value} {b : Nat} {u : Nat → Value} {p : Bool} {w : World} (hen : Enters Tryz.prog g) (hb : OldB w b [.func (.func g) fs.toArray cs.toArray])
    (hg : ∀ w', Below w.heap.size w w' → Calls Tryz.prog g (fs ++ [Value.agg #[u 0, u 1, u 2]] ++ cs).toArray w' (Ret w' (.bool p))) :
    Calls Tryz.prog 129 #[Value.agg #[u 0, u 1, u 2], .pointer (some ⟨b, 0, none⟩)] w (Ret w (.bool (!p))) := by
  refine K_enter (S := []) (K := []) Tryz.func129 rfl Tryz.ntmps129 rfl (Sat.start _) ?_
  refine TW.seq fun Y1 hY1 => ?_
  refine TW.region ?_
  refine TL.m Mk.bx ?_
  intro b1
  refine TL.p Pu.as ?_
  refine TL.nil ?_
  refine TQ.thenN (hY1 _ _ ?_)
  refine TW.seq fun Y2 hY2 => ?_
  refine TW.region ?_
  refine TL.p (by first | exact (Pu.ld ty_sc157) | exact (Pu.ldo ty_sc157)) ?_
  refine TL.p (by first | exact (Pu.lds ty_ag36) | exact (Pu.ldso ty_ag36)) ?_
  refine TL.cv rfl rfl hen (fun w hw => by
      exact hg _ (Chg.ext hw.chg)) ?_
  refine TL.p Pu.no ?_
  refine TL.p Pu.as ?_
  refine TL.nil ?_
  refine TQ.thenN (hY2 _ _ ?_)
  refine TW.ret ?_
  refine TQ.ret Tryz.results129 rfl ((.tmp rfl .nil)) ?_
  exact fun w hw => Ret.of hw
theorem everyTied_any {g : FuncId} {fs cs : List Value} {A : Option Addr} {n cp : Nat} {v : Nat → Nat → Value} {p : Nat → Bool} {w : World} (hen : Enters Tryz.prog g) (hn : n ≤ 9223372036854775807)
    (hR : RdR w 3 A n (fun k => [v k 0, v k 1, v k 2])) (hg : ∀ k, k < n → ∀ w', Below w.heap.size w w' → Calls Tryz.prog g (fs ++ [Value.agg #[v k 0, v k 1, v k 2]] ++ cs).toArray w' (Ret w' (.bool (p k)))) :
    Calls Tryz.prog 92 #[.slice A n cp, .func (.func g) fs.toArray cs.toArray] w (Ret w (.bool (allB n p))) := by
  refine K_enter (S := []) (K := []) Tryz.func92 rfl Tryz.ntmps92 rfl (Sat.start _) ?_
  refine TW.seq fun Y1 hY1 => ?_
  refine TW.region ?_
  refine TL.m Mk.bx ?_
  intro b1
  refine TL.p Pu.as ?_
  refine TL.nil ?_
  refine TQ.thenN (hY1 _ _ ?_)
  refine TW.seq fun Y2 hY2 => ?_
  refine TW.region ?_
  refine TL.p Pu.mv ?_
  refine TL.p Pu.fn ?_
  refine TL.cr rfl (enters Tryz.func128 rfl rfl) (fun w hw => by
      have h1 := OldB.of_blk (hw.holds (.blk b1 157 [.func (.func g) fs.toArray cs.toArray]) (by simp))
      exact hasTied_any (fs := []) (v := v) (p := fun k => !p k) (enters Tryz.func129 rfl rfl) hn (hR.sat hw Apart.nil) fun k hk w' hb => everyTied1_any hen (h1.ext hb) fun w'' hb' => hg k hk w'' (((Chg.ext hw.chg).trans (hb.mono (Chg.ext hw.chg).size)).trans (hb'.mono (Nat.le_trans (Chg.ext hw.chg).size hb.size)))) ?_
  refine TL.p Pu.no ?_
  refine TL.p Pu.as ?_
  refine TL.nil ?_
  refine TQ.thenN (hY2 _ _ ?_)
  refine TW.ret ?_
  refine TQ.ret Tryz.results92 rfl ((.tmp rfl .nil)) ?_
  exact fun w hw => ⟨ret_bool (by rw [not_anyB]; simp), Chg.ext hw.chg⟩
def flatT (T : Nat → List Int) : Nat → List Int
  | 0 => []
  | s + 1 => flatT T s ++ T s
def putL (x : Nat → Int) : List Value := [.int .i64 (x 0), .int .i64 (x 1), .int .u8 (x 2)]
def putS (x : Nat → Int) : Nat := 3 * (x 1).toNat + (x 2).toNat
def putT (T : Nat → List Int) (P : Nat → Nat → Int) : Nat → Nat → List Int
  | 0 => T
  | k + 1 => updN (putT T P k) (putS (P k)) (srt (putT T P k (putS (P k)) ++ [P k 0]))
def usedP (m : Nat) (T : Nat → List Int) (P : Nat → Nat → Int) (k : Nat) : List Int := flatT T (3 * m) ++ toI (fun q => P q 0) k
def okPut (n m : Nat) (T : Nat → List Int) (P : Nat → Nat → Int) (k : Nat) : Bool := inB5 0 ((n : Int) - 1) (P k 0) && !decide (P k 0 ∈ usedP m T P k) && inB5 0 ((m : Int) - 1) (P k 1) && decide (P k 2 ≤ 2)
def putC (n m : Nat) (T : Nat → List Int) (P : Nat → Nat → Int) (np : Nat) : Int := if (allB np (okPut n m T P) && allB m fun i => decide (cnt3 (putT T P np) i ≤ 10)) = true then 0 else 54
theorem putT_len {T : Nat → List Int} {P : Nat → Nat → Int} {s : Nat} : ∀ k, (putT T P k s).length ≤ (T s).length + k
  | 0 => Nat.le_refl _
  | k + 1 => by
    have h := putT_len (T := T) (P := P) (s := s) k
    simp only [putT, updN]
    split
    · rename_i e
      rw [srt_len, List.length_append, ← e]
      simp only [List.length_cons, List.length_nil]
      omega
    · omega
theorem mark_mem (xs : List Int) (x : Int) : (mlook x (markAll xs)).getD (.bool false) = .bool (decide (x ∈ xs)) := by
  have key : ∀ (ys : List Int) (m : List (Int × Value)), (∀ y u, mlook y m = some u → u = .bool true) → ∀ y u, mlook y (ys.foldl (fun m x => mput x (.bool true) m) m) = some u → u = .bool true := by
    intro ys
    induction ys with
    | nil => intro m h; exact h
    | cons z zs ih =>
      intro m h
      rw [List.foldl_cons]
      refine ih _ fun y u hy => ?_
      rw [mlook_mput] at hy
      split at hy
      · injection hy with hy; exact hy.symm
      · exact h y u hy
  have h1 := mark_look x xs []
  have h2 := key xs [] (fun y u h => by simp [mlook] at h) x
  change (mlook x (markAll xs)).isSome = _ at h1
  change ∀ u, mlook x (markAll xs) = some u → _ at h2
  simp only [mlook, Option.isSome_none, Bool.or_false] at h1
  cases h : mlook x (markAll xs) with
  | none => rw [h] at h1; simp only [Option.isSome_none] at h1; rw [← h1]; rfl
  | some u => rw [h] at h1; simp only [Option.isSome_some] at h1; rw [← h1, h2 u h]; rfl
theorem all3_any {w : World} {A0 A1 A2 : Option Addr} {n0 n1 n2 c0 c1 c2 : Nat} {L0 L1 L2 : List Int} (h0 : n0 = L0.length) (h1 : n1 = L1.length) (h2 : n2 = L2.length) (ht : n0 + n1 + n2 ≤ 1000000) (hR0 : RdR w 1 A0 n0 (iL L0)) (hR1 : RdR w 1 A1 n1 (iL L1)) (hR2 : RdR w 1 A2 n2 (iL L2)) :
    CallsK Tryz.prog 72 #[.agg #[.slice A0 n0 c0, .slice A1 n1 c1, .slice A2 n2 c2]] [] w (Option Addr × Nat) (fun x => .slice x.1 (L0 ++ L1 ++ L2).length x.2) (fun x => [.own x.1 (L0 ++ L1 ++ L2).length x.2 3 1 (iL (L0 ++ L1 ++ L2))]) := by
  subst h0 h1 h2
  have e : tot (fun j => if j = 0 then L0.length else if j = 1 then L1.length else L2.length) 3 = (L0 ++ L1 ++ L2).length := by simp [tot]; omega
  refine (all_any (a := fun j => if j = 0 then A0 else if j = 1 then A1 else A2) (l := fun j => if j = 0 then L0.length else if j = 1 then L1.length else L2.length) (c := fun j => if j = 0 then c0 else if j = 1 then c1 else c2) (v := fun j => if j = 0 then fun k => L0.getD k 0 else if j = 1 then fun k => L1.getD k 0 else fun k => L2.getD k 0) (by rw [e, List.length_append, List.length_append]; omega)
    (fun j hj => ?_)).mono ?_
  · have : j = 0 ∨ j = 1 ∨ j = 2 := by omega
    rcases this with rfl | rfl | rfl
    · exact hR0
    · exact hR1
    · exact hR2
  rintro e' w' ⟨x, rfl, hs⟩
  refine ⟨x, by rw [e], ?_⟩
  rw [e] at hs
  refine hs.sub (KSub.own Pick.hd (fun i hi => ?_) KSub.nil)
  rw [cat3, ← iL_cat rfl, List.length_append]
  simp only [catR]
  have h10 : ¬ (1 : Nat) = 0 := by decide
  have h20 : ¬ (2 : Nat) = 0 := by decide
  have h21 : ¬ (2 : Nat) = 1 := by decide
  simp only [if_true, if_neg h10, if_neg h20, if_neg h21]
  by_cases h : i < L0.length + L1.length
  · rw [if_pos h, if_pos h, ← iL_cat rfl]
    simp only [catR]
    by_cases h9 : i < L0.length
    · rw [if_pos h9, if_pos h9]; rfl
    · rw [if_neg h9, if_neg h9]; rfl
  · rw [if_neg h, if_neg h]; rfl
theorem put1_any {w : World} {A0 A1 A2 : Option Addr} {n0 n1 n2 c0 c1 c2 : Nat} {L0 L1 L2 : List Int} (h0 : n0 = L0.length) (h1 : n1 = L1.length) (h2 : n2 = L2.length) (ht : n0 + n1 + n2 ≤ 1000000) (hR0 : RdR w 1 A0 n0 (iL L0)) (hR1 : RdR w 1 A1 n1 (iL L1)) (hR2 : RdR w 1 A2 n2 (iL L2)) :
    Calls Tryz.prog 93 #[.agg #[.slice A0 n0 c0, .slice A1 n1 c1, .slice A2 n2 c2]] w (Ret w (.bool (decide (n0 + n1 + n2 ≤ 10)))) := by
  refine K_enter (S := []) (K := []) Tryz.func93 rfl Tryz.ntmps93 rfl (Sat.start _) ?_
  refine TW.seq fun Y1 hY1 => ?_
  refine TW.region ?_
  refine TL.m Mk.bx ?_
  intro b1
  refine TL.p Pu.as ?_
  refine TL.nil ?_
  refine TQ.thenN (hY1 _ _ ?_)
  refine TW.seq fun Y2 hY2 => ?_
  refine TW.region ?_
  refine TL.p (Pu.lds ty_ag36) ?_
  refine TL.call (M := []) rfl (enters Tryz.func72 rfl rfl) (List.Perm.refl _) rfl (fun w hw => by
      exact all3_any h0 h1 h2 ht (hR0.sat hw Apart.nil) (hR1.sat hw Apart.nil) (hR2.sat hw Apart.nil)) ?_
  rintro ⟨Ac, cc⟩
  refine TL.p (Pu.ln Tryz.underlying24) ?_
  refine TL.p Pu.le ?_
  refine TL.p Pu.as ?_
  refine TL.nil ?_
  refine TQ.thenN (hY2 _ _ ?_)
  refine TW.ret ?_
  refine TQ.ret Tryz.results93 rfl ((.tmp rfl .nil)) ?_
  exact fun w hw => ⟨ret_bool (by
    have e : (L0 ++ L1 ++ L2).length = n0 + n1 + n2 := by rw [List.length_append, List.length_append]; omega
    rw [e]
    rw [decide_eq_decide]
    omega), Chg.ext hw.chg⟩
theorem index_ptr3 {An : Option Addr} (q p : Nat) (hp : p < 3) (w : World) : (Instr.index 155 (.agg #[.pointer (elA An q 3 0), .pointer (elA An q 3 1), .pointer (elA An q 3 2)]) (.int .u8 (p : Int))).run Tryz.prog w = .ok (.pointer (elA An q 3 p)) w := by
  have : p = 0 ∨ p = 1 ∨ p = 2 := by omega
  rcases this with rfl | rfl | rfl <;> simp [Instr.index, asIntOf, run_underlying Tryz.underlying155, part, Tryz.isAgg154, Tryz.sizeOf154]
theorem subl_tie {X : Nat → Option Addr} {T : Nat → List Int} {D : Nat → Nat} {q p : Nat} (hp : p < 3) : SubL (tieX X T D q) p 1 [.slice (X (3 * q + p)) (T (3 * q + p)).length (D (3 * q + p))] := by
  have : p = 0 ∨ p = 1 ∨ p = 2 := by omega
  rcases this with rfl | rfl | rfl
  · exact SubL.take SubL.nil
  · exact SubL.drop (SubL.take SubL.nil)
  · exact SubL.drop (SubL.drop (SubL.take SubL.nil))
theorem subl_tie0 {X : Nat → Option Addr} {T : Nat → List Int} {D : Nat → Nat} {q p : Nat} (hp : p < 3) : SubL (tieX X T D q) p 0 [] := by
  have : p = 0 ∨ p = 1 ∨ p = 2 := by omega
  rcases this with rfl | rfl | rfl
  · exact SubL.nil
  · exact SubL.drop SubL.nil
  · exact SubL.drop (SubL.drop SubL.nil)
theorem putl_tie {X : Nat → Option Addr} {T : Nat → List Int} {D : Nat → Nat} {q p : Nat} {v : Value} (hp : p < 3) : PutL (tieX X T D q) p [v] ((tieX X T D q).set p v) := by
  have : p = 0 ∨ p = 1 ∨ p = 2 := by omega
  rcases this with rfl | rfl | rfl
  · exact PutL.put PutL.nil
  · exact PutL.pass (PutL.put PutL.nil)
  · exact PutL.pass (PutL.pass (PutL.put PutL.nil))
theorem tieX_upd {X : Nat → Option Addr} {T : Nat → List Int} {D : Nat → Nat} {q p n2 c2 : Nat} {A : Option Addr} {L : List Int} (hp : p < 3) (hn : n2 = L.length) (i : Nat) : updR (tieX X T D) q ((tieX X T D q).set p (.slice A n2 c2)) i = tieX (updN X (3 * q + p) A) (updN T (3 * q + p) L) (updN D (3 * q + p) c2) i := by
  subst hn
  unfold updR
  by_cases hi : i = q
  · subst hi
    rw [if_pos rfl]
    have : p = 0 ∨ p = 1 ∨ p = 2 := by omega
    rcases this with rfl | rfl | rfl <;> simp [tieX, updN]
  · rw [if_neg hi]
    unfold tieX updN
    rw [if_neg (by omega), if_neg (by omega), if_neg (by omega), if_neg (by omega), if_neg (by omega), if_neg (by omega), if_neg (by omega), if_neg (by omega), if_neg (by omega)]
theorem tieX_len {X : Nat → Option Addr} {T T2 : Nat → List Int} {D : Nat → Nat} (h : ∀ s, (T s).length = (T2 s).length) (i : Nat) : tieX X T D i = tieX X T2 D i := by
  unfold tieX
  rw [h, h, h]
end Go.Proofs.YtjephihlkjpohaaGreatDoor
