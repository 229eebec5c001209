/-
  Part 13 of the proof of loadSettled_holds: declarations of several texts, in build order. No condition on a program.
-/
import Derived.Test.YtjephihlkjpohaaGreatDoorSett12
import Derived.Test.YtjephihlkjpohaaGreatDoorSett07
import Derived.Test.YtjephihlkjpohaaGreatDoorSett06
import Derived.Test.YtjephihlkjpohaaGreatDoorSett02
import Derived.ProofKit
import Derived.Deep.Slices
import Derived.Carry
namespace Go.Proofs.YtjephihlkjpohaaGreatDoor
set_option linter.all false
set_option linter.unusedVariables false
set_option linter.unusedSimpArgs false
open Go.RowKit
theorem filter_next {L : List Int} {k : Nat} {p : Int → Bool} (h : k < L.length) (hp : p (L.getD k 0) = true) : (L.take (k + 1)).filter p = (L.take k).filter p ++ [L.getD k 0] := by
  rw [take_succ h, List.filter_append, List.filter_cons, if_pos hp]
  rfl
theorem filter_skip {L : List Int} {k : Nat} {p : Int → Bool} (h : k < L.length) (hp : p (L.getD k 0) = false) : (L.take (k + 1)).filter p = (L.take k).filter p := by
  rw [take_succ h, List.filter_append, List.filter_cons, if_neg (by rw [hp]; decide)]
  simp
theorem filter_take_le {L : List Int} {k : Nat} {p : Int → Bool} : ((L.take k).filter p).length ≤ k := by
  have h1 := List.length_filter_le p (L.take k)
  rw [List.length_take] at h1
  omega
abbrev MV3 := (Option Addr × Nat) × (Option Addr × Nat) × (Option Addr × Nat)
def mv3T (L0 L1 : List Int) (n2 : Nat) (M : List Int) (x : MV3) : List Value := [.slice x.1.1 (mvd L0 L1 M).length x.1.2, .slice x.2.1.1 (mvd L1 L0 M).length x.2.1.2, .slice x.2.2.1 n2 x.2.2.2]
def mv3K (L0 L1 : List Int) (n2 : Nat) (v2 : Nat → Int) (M : List Int) (x : MV3) : List Fact := [.own x.1.1 (mvd L0 L1 M).length x.1.2 3 1 (iL (mvd L0 L1 M)), .own x.2.1.1 (mvd L1 L0 M).length x.2.1.2 3 1 (iL (mvd L1 L0 M)), .own x.2.2.1 n2 x.2.2.2 3 1 (fun k => [.int .i64 (v2 k)])]
set_option maxRecDepth 100000 in
set_option maxHeartbeats 4000000 in
theorem refMoved_any {W : World} {m cm n2 : Nat} {a : Nat → Option Addr} {l c : Nat → Nat} {B : Option Addr} {L0 L1 M : List Int} {v2 : Nat → Int} (h0 : l 0 = L0.length) (h1 : l 1 = L1.length) (h2 : l 2 = n2) (hm : m = M.length) (hb0 : l 0 ≤ 1000) (hb1 : l 1 ≤ 1000) (hb2 : l 2 ≤ 1000) (hb3 : m ≤ 1000)
    (hL0 : RdR W 1 (a 0) (l 0) (iL L0)) (hL1 : RdR W 1 (a 1) (l 1) (iL L1)) (hL2 : RdR W 1 (a 2) (l 2) (fun k => [.int .i64 (v2 k)])) (hM : RdR W 1 B m (iL M)) :
    CallsK Tryz.prog 29 #[.agg (tieL a l c).toArray, .slice B m cm] [] W MV3 (fun x => .agg (mv3T L0 L1 n2 M x).toArray) (mv3K L0 L1 n2 v2 M) := by
  subst h2
  generalize hn0 : l 0 = n0 at *
  generalize hn1 : l 1 = n1 at *
  generalize hn2 : l 2 = n2 at *
  have eT : tieL a l c = [.slice (a 0) n0 (c 0), .slice (a 1) n1 (c 1), .slice (a 2) n2 (c 2)] := by unfold tieL; rw [hn0, hn1, hn2]
  rw [eT]
  clear eT hn0 hn1 hn2
  replace h0 : n0 ≤ L0.length ∧ L0.length ≤ n0 := by omega
  replace h1 : n1 ≤ L1.length ∧ L1.length ≤ n1 := by omega
  refine K_enter (S := []) (K := []) Tryz.func29 rfl Tryz.ntmps29 rfl (Sat.start _) ?_
  refine TW.seq fun Y1 hY1 => ?_
  refine TW.region ?_
  refine TL.m Mk.bx ?_
  intro b1
  refine TL.m (Mk.al ty_zr36) ?_
  intro b2
  refine TL.nil ?_
  refine TQ.thenN (hY1 _ _ ?_)
  refine TW.seq fun Y2 hY2 => ?_
  refine TW.region ?_
  refine TL.m Mk.bl ?_
  intro b3
  refine TL.p (by first | exact Pu.fb ty_fa36_2 | exact Pu.fe ty_fa36_2) ?_
  refine TL.p (Pu.ld ty_sc24) ?_
  refine TL.subK (KSub.ofBlk (n := 0) (sz := 1) (r := fun _ => []) Pick.hd rfl (fun _ h => by omega) rfl rfl (KSub.cons Pick.hd (KSub.cons (Pick.hd) KSub.nil))) ?_
  first | refine TL.a0 ty_et24 ?_ | refine TL.ap ty_et24 ?_
  intro A4 c4
  refine TL.p Pu.bd ?_
  refine TL.m (Mk.al ty_zr36) ?_
  intro b5
  first | refine TL.st ty_sz36 ?_ | refine TL.se ty_sz36 ?_
  refine TL.nil ?_
  refine TQ.thenN (hY2 _ _ ?_)
  refine TW.seq fun Y3 hY3 => ?_
  refine TW.seq fun Y4 hY4 => ?_
  refine TW.region ?_
  refine TL.p Pu.as ?_
  refine TL.nil ?_
  refine TQ.thenN (hY4 _ _ ?_)
  refine TW.block ?_
  refine TW.loop9 (fun (k : Nat) (G0 : Option Addr) (t : Nat) (c0 : Nat) (T : List Int) (G1 : Option Addr) (u : Nat) (c1 : Nat) (U : List Int) => [(6, .int .i64 (k : Int)), (1, .slice B m cm), (2, .pointer (some ⟨b1, 0, none⟩)), (4, .pointer (some ⟨b2, 0, none⟩)), (5, .pointer (some ⟨b5, 0, none⟩))]) (fun k G0 t c0 T G1 u c1 U => [.own G0 t c0 3 1 (iL T), .own G1 u c1 3 1 (iL U), .blk b5 36 [.slice G0 t c0, .slice G1 u c1, .slice A4 n2 c4], .own A4 n2 c4 3 1 (fun k => [.int .i64 (v2 k)]), .blk b1 36 [.slice (a 0) n0 (c 0), .slice (a 1) n1 (c 1), .slice (a 2) n2 (c 2)], .blk b2 36 [.slice none 0 0, .slice none 0 0, .slice none 0 0]]) (fun k G0 t c0 T G1 u c1 U => k ≤ n0 ∧ t = T.length ∧ u = U.length ∧ T = (L0.take k).filter (fun x => !M.contains x) ∧ U = (L0.take k).filter (fun x => M.contains x)) (fun k G0 t c0 T G1 u c1 U => n0 - k) 0 none 0 0 [] none 0 0 [] (by repeat (first | exact trivial | refine ⟨rfl, ?_⟩ | refine ⟨trivial, ?_⟩)) ?_ ?_ ?_
  · exact KSub.nilOwn (KSub.nilOwn (by repeat (first | exact KSub.nil | refine KSub.cons (by repeat (first | exact Pick.hd | apply Pick.tl)) ?_)))
  · exact ⟨Nat.zero_le _, rfl, rfl, by simp, by simp⟩
  rintro k G0 t c0 T G1 u c1 U ⟨hk, ht, hu, hT, hU⟩ Z0 hZ0
  have htl : t ≤ k := by rw [ht, hT]; exact filter_take_le
  have hul : u ≤ k := by rw [hu, hU]; exact filter_take_le
  refine TW.seq fun Y5 hY5 => ?_
  refine TW.seq fun Y6 hY6 => ?_
  refine TW.region ?_
  refine TL.p Pu.mv ?_
  refine TL.p (by first | exact Pu.fb ty_fa36_0 | exact Pu.fe ty_fa36_0) ?_
  refine TL.p (Pu.ld ty_sc24) ?_
  refine TL.p (Pu.ln Tryz.underlying24) ?_
  refine TL.p Pu.lt ?_
  refine TL.nil ?_
  refine TQ.thenN (hY6 _ _ ?_)
  refine TW.cond rfl (fun hc0 => ?_) (fun hc0 => ?_)
  · try simp only [decide_eq_true_eq, decide_eq_false_iff_not, Bool.not_eq_true', Bool.not_eq_false', Bool.and_eq_true, Bool.or_eq_true, Bool.and_eq_false_iff, Bool.or_eq_false_iff, Int.not_lt, Int.not_le] at hc0
    have hkn : k < n0 := by omega
    refine TW.skip ?_
    refine TQ.thenN (hY5 _ _ ?_)
    refine TW.seq fun Y7 hY7 => ?_
    refine TW.block ?_
    refine TW.seq fun Y8 hY8 => ?_
    refine TW.region ?_
    refine TL.p Pu.mv ?_
    refine TL.p (by first | exact Pu.fb ty_fa36_0 | exact Pu.fe ty_fa36_0) ?_
    refine TL.p (Pu.ld ty_sc24) ?_
    refine TL.p Pu.mv ?_
    refine TL.p (Pu.el ty_et24) ?_
    refine TL.p (Pu.ld ty_sc3) ?_
    refine TL.cr rfl (enters Tryz.func69 rfl rfl) (fun w hw => by
        exact refHas_any _ hm (by omega) (hM.sat hw Apart.nil)) ?_
    refine TL.nil ?_
    refine TQ.thenN (hY8 _ _ ?_)
    refine TW.cond rfl (fun hc1 => ?_) (fun hc1 => ?_)
    · try simp only [decide_eq_true_eq, decide_eq_false_iff_not, Bool.not_eq_true', Bool.not_eq_false', Bool.and_eq_true, Bool.or_eq_true, Bool.and_eq_false_iff, Bool.or_eq_false_iff, Int.not_lt, Int.not_le] at hc1
      obtain ⟨T', hT'⟩ : ∃ y, y = T := ⟨_, rfl⟩
      obtain ⟨U', hU'⟩ : ∃ y, y = U ++ [L0.getD k 0] := ⟨_, rfl⟩
      have s1 : t = T'.length := by rw [hT', ← ht]
      have s2 : u + 1 = U'.length := by rw [hU', List.length_append, ← hu]; rfl
      have s3 : T' = (L0.take (k + 1)).filter (fun x => !M.contains x) := by rw [hT', hT, filter_skip (by omega) (by rw [hc1]; rfl)]
      have s4 : U' = (L0.take (k + 1)).filter (fun x => M.contains x) := by rw [hU', hU, filter_next (by omega) hc1]
      refine TW.dw 8 ?_
      refine RK.tk (by first | exact Pu.fb ty_fa36_1 | exact Pu.fe ty_fa36_1) ?_
      refine RK.tk (Pu.ld ty_sc24) ?_
      refine RK.tk (by first | exact Pu.fb ty_fa36_0 | exact Pu.fe ty_fa36_0) ?_
      refine RK.tk (Pu.ld ty_sc24) ?_
      refine RK.tk Pu.mv ?_
      refine RK.tk (Pu.el ty_et24) ?_
      refine RK.tk (Pu.ld ty_sc3) ?_
      refine RK.keep ?_
      refine RK.ch [false] ?_ trivial
      refine WK.m Mk.bl ?_
      intro b6
      refine WK.n ?_
      first | refine TL.a0 ty_et24 ?_ | refine TL.ap ty_et24 ?_
      intro A7 c7
      let Z0 := G0
      let z0 := t
      let e0 := c0
      let Z1 := A7
      let z1 := u + 1
      let e1 := c7
      refine TL.p (by first | exact Pu.fb ty_fa36_1 | exact Pu.fe ty_fa36_1) ?_
      first | refine TL.st ty_sz24 ?_ | refine TL.se ty_sz24 ?_
      refine TL.nil ?_
      refine TQ.blkN ?_
      refine TQ.thenN (hY7 _ _ ?_)
      refine TW.region ?_
      refine TL.p Pu.mv ?_
      refine TL.p Pu.ad ?_
      refine TL.p Pu.as ?_
      refine TL.nil ?_
      refine TQ.thenN (hZ0 (k + 1) Z0 z0 e0 T' Z1 z1 e1 U' _ _ ?_ ?_ (by repeat (first | exact trivial | refine ⟨rfl, ?_⟩ | refine ⟨trivial, ?_⟩)) ?_)
      · exact ⟨by omega, s1, s2, s3, s4⟩
      · exact (by first | omega | (simp only []; omega) | (simp; omega))
      · first
          | exact KSub.own (by repeat (first | exact Pick.hd | apply Pick.tl)) (fun i _ => by rw [hT']) (KSub.own (by repeat (first | exact Pick.hd | apply Pick.tl)) (iL_app hu hU' rfl) (by repeat (first | exact KSub.nil | refine KSub.cons (by repeat (first | exact Pick.hd | apply Pick.tl)) ?_)))
          | exact KSub.own (by repeat (first | exact Pick.hd | apply Pick.tl)) (iL_app ht hT' rfl) (KSub.own (by repeat (first | exact Pick.hd | apply Pick.tl)) (fun i _ => by rw [hU']) (by repeat (first | exact KSub.nil | refine KSub.cons (by repeat (first | exact Pick.hd | apply Pick.tl)) ?_)))
    · try simp only [decide_eq_true_eq, decide_eq_false_iff_not, Bool.not_eq_true', Bool.not_eq_false', Bool.and_eq_true, Bool.or_eq_true, Bool.and_eq_false_iff, Bool.or_eq_false_iff, Int.not_lt, Int.not_le] at hc1
      obtain ⟨T', hT'⟩ : ∃ y, y = T ++ [L0.getD k 0] := ⟨_, rfl⟩
      obtain ⟨U', hU'⟩ : ∃ y, y = U := ⟨_, rfl⟩
      have s1 : t + 1 = T'.length := by rw [hT', List.length_append, ← ht]; rfl
      have s2 : u = U'.length := by rw [hU', ← hu]
      have s3 : T' = (L0.take (k + 1)).filter (fun x => !M.contains x) := by rw [hT', hT, filter_next (by omega) (by rw [hc1]; rfl)]
      have s4 : U' = (L0.take (k + 1)).filter (fun x => M.contains x) := by rw [hU', hU, filter_skip (by omega) hc1]
      refine TW.dw 8 ?_
      refine RK.tk (by first | exact Pu.fb ty_fa36_0 | exact Pu.fe ty_fa36_0) ?_
      refine RK.tk (Pu.ld ty_sc24) ?_
      refine RK.tk (by first | exact Pu.fb ty_fa36_0 | exact Pu.fe ty_fa36_0) ?_
      refine RK.tk (Pu.ld ty_sc24) ?_
      refine RK.tk Pu.mv ?_
      refine RK.tk (Pu.el ty_et24) ?_
      refine RK.tk (Pu.ld ty_sc3) ?_
      refine RK.keep ?_
      refine RK.ch [false] ?_ trivial
      refine WK.m Mk.bl ?_
      intro b8
      refine WK.n ?_
      first | refine TL.a0 ty_et24 ?_ | refine TL.ap ty_et24 ?_
      intro A9 c9
      let Z0 := A9
      let z0 := t + 1
      let e0 := c9
      let Z1 := G1
      let z1 := u
      let e1 := c1
      refine TL.p (by first | exact Pu.fb ty_fa36_0 | exact Pu.fe ty_fa36_0) ?_
      first | refine TL.st ty_sz24 ?_ | refine TL.se ty_sz24 ?_
      refine TL.nil ?_
      refine TQ.blkN ?_
      refine TQ.thenN (hY7 _ _ ?_)
      refine TW.region ?_
      refine TL.p Pu.mv ?_
      refine TL.p Pu.ad ?_
      refine TL.p Pu.as ?_
      refine TL.nil ?_
      refine TQ.thenN (hZ0 (k + 1) Z0 z0 e0 T' Z1 z1 e1 U' _ _ ?_ ?_ (by repeat (first | exact trivial | refine ⟨rfl, ?_⟩ | refine ⟨trivial, ?_⟩)) ?_)
      · exact ⟨by omega, s1, s2, s3, s4⟩
      · exact (by first | omega | (simp only []; omega) | (simp; omega))
      · first
          | exact KSub.own (by repeat (first | exact Pick.hd | apply Pick.tl)) (fun i _ => by rw [hT']) (KSub.own (by repeat (first | exact Pick.hd | apply Pick.tl)) (iL_app hu hU' rfl) (by repeat (first | exact KSub.nil | refine KSub.cons (by repeat (first | exact Pick.hd | apply Pick.tl)) ?_)))
          | exact KSub.own (by repeat (first | exact Pick.hd | apply Pick.tl)) (iL_app ht hT' rfl) (KSub.own (by repeat (first | exact Pick.hd | apply Pick.tl)) (fun i _ => by rw [hU']) (by repeat (first | exact KSub.nil | refine KSub.cons (by repeat (first | exact Pick.hd | apply Pick.tl)) ?_)))
  · try simp only [decide_eq_true_eq, decide_eq_false_iff_not, Bool.not_eq_true', Bool.not_eq_false', Bool.and_eq_true, Bool.or_eq_true, Bool.and_eq_false_iff, Bool.or_eq_false_iff, Int.not_lt, Int.not_le] at hc0
    obtain rfl : n0 = k := by omega
    have eL : L0.take n0 = L0 := List.take_of_length_le (by omega)
    rw [eL] at hT hU
    refine TW.exit ?_
    refine TQ.thenX ?_
    refine TQ.thenX ?_
    refine TQ.blkX ?_
    refine TQ.thenN (hY3 _ _ ?_)
    refine TW.seq fun Y9 hY9 => ?_
    refine TW.seq fun Y10 hY10 => ?_
    refine TW.region ?_
    refine TL.p Pu.as ?_
    refine TL.nil ?_
    refine TQ.thenN (hY10 _ _ ?_)
    refine TW.block ?_
    refine TW.loop9 (fun (k : Nat) (G0 : Option Addr) (t : Nat) (c0 : Nat) (T : List Int) (G1 : Option Addr) (u : Nat) (c1 : Nat) (U : List Int) => [(7, .int .i64 (k : Int)), (1, .slice B m cm), (2, .pointer (some ⟨b1, 0, none⟩)), (4, .pointer (some ⟨b2, 0, none⟩)), (5, .pointer (some ⟨b5, 0, none⟩))]) (fun k G0 t c0 T G1 u c1 U => [.own G0 t c0 3 1 (iL T), .own G1 u c1 3 1 (iL U), .blk b5 36 [.slice G0 t c0, .slice G1 u c1, .slice A4 n2 c4], .own A4 n2 c4 3 1 (fun k => [.int .i64 (v2 k)]), .blk b1 36 [.slice (a 0) n0 (c 0), .slice (a 1) n1 (c 1), .slice (a 2) n2 (c 2)], .blk b2 36 [.slice none 0 0, .slice none 0 0, .slice none 0 0]]) (fun k G0 t c0 T G1 u c1 U => k ≤ n1 ∧ t = T.length ∧ u = U.length ∧ T = L0.filter (fun x => !M.contains x) ++ (L1.take k).filter (fun x => M.contains x) ∧ U = L0.filter (fun x => M.contains x) ++ (L1.take k).filter (fun x => !M.contains x)) (fun k G0 t c0 T G1 u c1 U => n1 - k) 0 G0 t c0 T G1 u c1 U (by repeat (first | exact trivial | refine ⟨rfl, ?_⟩ | refine ⟨trivial, ?_⟩)) ?_ ?_ ?_
    · exact (by repeat (first | exact KSub.nil | refine KSub.cons (by repeat (first | exact Pick.hd | apply Pick.tl)) ?_))
    · exact ⟨Nat.zero_le _, ht, hu, by rw [hT]; simp, by rw [hU]; simp⟩
    rintro k G0 t c0 T G1 u c1 U ⟨hk, ht, hu, hT, hU⟩ Z1 hZ1
    have htl : t ≤ 2000 := by
      have h4 := List.length_filter_le (fun x => !M.contains x) L0
      have h5 := filter_take_le (L := L1) (k := k) (p := fun x => M.contains x)
      rw [ht, hT, List.length_append]; omega
    have hul : u ≤ 2000 := by
      have h4 := List.length_filter_le (fun x => M.contains x) L0
      have h5 := filter_take_le (L := L1) (k := k) (p := fun x => !M.contains x)
      rw [hu, hU, List.length_append]; omega
    refine TW.seq fun Y11 hY11 => ?_
    refine TW.seq fun Y12 hY12 => ?_
    refine TW.region ?_
    refine TL.p Pu.mv ?_
    refine TL.p (by first | exact Pu.fb ty_fa36_1 | exact Pu.fe ty_fa36_1) ?_
    refine TL.p (Pu.ld ty_sc24) ?_
    refine TL.p (Pu.ln Tryz.underlying24) ?_
    refine TL.p Pu.lt ?_
    refine TL.nil ?_
    refine TQ.thenN (hY12 _ _ ?_)
    refine TW.cond rfl (fun hc2 => ?_) (fun hc2 => ?_)
    · try simp only [decide_eq_true_eq, decide_eq_false_iff_not, Bool.not_eq_true', Bool.not_eq_false', Bool.and_eq_true, Bool.or_eq_true, Bool.and_eq_false_iff, Bool.or_eq_false_iff, Int.not_lt, Int.not_le] at hc2
      have hkn : k < n1 := by omega
      refine TW.skip ?_
      refine TQ.thenN (hY11 _ _ ?_)
      refine TW.seq fun Y13 hY13 => ?_
      refine TW.block ?_
      refine TW.seq fun Y14 hY14 => ?_
      refine TW.region ?_
      refine TL.p Pu.mv ?_
      refine TL.p (by first | exact Pu.fb ty_fa36_1 | exact Pu.fe ty_fa36_1) ?_
      refine TL.p (Pu.ld ty_sc24) ?_
      refine TL.p Pu.mv ?_
      refine TL.p (Pu.el ty_et24) ?_
      refine TL.p (Pu.ld ty_sc3) ?_
      refine TL.cr rfl (enters Tryz.func69 rfl rfl) (fun w hw => by
          exact refHas_any _ hm (by omega) (hM.sat hw Apart.nil)) ?_
      refine TL.nil ?_
      refine TQ.thenN (hY14 _ _ ?_)
      refine TW.cond rfl (fun hc3 => ?_) (fun hc3 => ?_)
      · try simp only [decide_eq_true_eq, decide_eq_false_iff_not, Bool.not_eq_true', Bool.not_eq_false', Bool.and_eq_true, Bool.or_eq_true, Bool.and_eq_false_iff, Bool.or_eq_false_iff, Int.not_lt, Int.not_le] at hc3
        obtain ⟨T', hT'⟩ : ∃ y, y = T ++ [L1.getD k 0] := ⟨_, rfl⟩
        obtain ⟨U', hU'⟩ : ∃ y, y = U := ⟨_, rfl⟩
        have s1 : t + 1 = T'.length := by rw [hT', List.length_append, ← ht]; rfl
        have s2 : u = U'.length := by rw [hU', ← hu]
        have s3 : T' = L0.filter (fun x => !M.contains x) ++ (L1.take (k + 1)).filter (fun x => M.contains x) := by rw [hT', hT, filter_next (by omega) hc3, List.append_assoc]
        have s4 : U' = L0.filter (fun x => M.contains x) ++ (L1.take (k + 1)).filter (fun x => !M.contains x) := by rw [hU', hU, filter_skip (by omega) (by rw [hc3]; rfl)]
        refine TW.dw 8 ?_
        refine RK.tk (by first | exact Pu.fb ty_fa36_0 | exact Pu.fe ty_fa36_0) ?_
        refine RK.tk (Pu.ld ty_sc24) ?_
        refine RK.tk (by first | exact Pu.fb ty_fa36_1 | exact Pu.fe ty_fa36_1) ?_
        refine RK.tk (Pu.ld ty_sc24) ?_
        refine RK.tk Pu.mv ?_
        refine RK.tk (Pu.el ty_et24) ?_
        refine RK.tk (Pu.ld ty_sc3) ?_
        refine RK.keep ?_
        refine RK.ch [false] ?_ trivial
        refine WK.m Mk.bl ?_
        intro b10
        refine WK.n ?_
        first | refine TL.a0 ty_et24 ?_ | refine TL.ap ty_et24 ?_
        intro A11 c11
        let Z0 := A11
        let z0 := t + 1
        let e0 := c11
        let Z1 := G1
        let z1 := u
        let e1 := c1
        refine TL.p (by first | exact Pu.fb ty_fa36_0 | exact Pu.fe ty_fa36_0) ?_
        first | refine TL.st ty_sz24 ?_ | refine TL.se ty_sz24 ?_
        refine TL.nil ?_
        refine TQ.blkN ?_
        refine TQ.thenN (hY13 _ _ ?_)
        refine TW.region ?_
        refine TL.p Pu.mv ?_
        refine TL.p Pu.ad ?_
        refine TL.p Pu.as ?_
        refine TL.nil ?_
        refine TQ.thenN (hZ1 (k + 1) Z0 z0 e0 T' Z1 z1 e1 U' _ _ ?_ ?_ (by repeat (first | exact trivial | refine ⟨rfl, ?_⟩ | refine ⟨trivial, ?_⟩)) ?_)
        · exact ⟨by omega, s1, s2, s3, s4⟩
        · exact (by first | omega | (simp only []; omega) | (simp; omega))
        · first
            | exact KSub.own (by repeat (first | exact Pick.hd | apply Pick.tl)) (fun i _ => by rw [hT']) (KSub.own (by repeat (first | exact Pick.hd | apply Pick.tl)) (iL_app hu hU' rfl) (by repeat (first | exact KSub.nil | refine KSub.cons (by repeat (first | exact Pick.hd | apply Pick.tl)) ?_)))
            | exact KSub.own (by repeat (first | exact Pick.hd | apply Pick.tl)) (iL_app ht hT' rfl) (KSub.own (by repeat (first | exact Pick.hd | apply Pick.tl)) (fun i _ => by rw [hU']) (by repeat (first | exact KSub.nil | refine KSub.cons (by repeat (first | exact Pick.hd | apply Pick.tl)) ?_)))
      · try simp only [decide_eq_true_eq, decide_eq_false_iff_not, Bool.not_eq_true', Bool.not_eq_false', Bool.and_eq_true, Bool.or_eq_true, Bool.and_eq_false_iff, Bool.or_eq_false_iff, Int.not_lt, Int.not_le] at hc3
        obtain ⟨T', hT'⟩ : ∃ y, y = T := ⟨_, rfl⟩
        obtain ⟨U', hU'⟩ : ∃ y, y = U ++ [L1.getD k 0] := ⟨_, rfl⟩
        have s1 : t = T'.length := by rw [hT', ← ht]
        have s2 : u + 1 = U'.length := by rw [hU', List.length_append, ← hu]; rfl
        have s3 : T' = L0.filter (fun x => !M.contains x) ++ (L1.take (k + 1)).filter (fun x => M.contains x) := by rw [hT', hT, filter_skip (by omega) hc3]
        have s4 : U' = L0.filter (fun x => M.contains x) ++ (L1.take (k + 1)).filter (fun x => !M.contains x) := by rw [hU', hU, filter_next (by omega) (by rw [hc3]; rfl), List.append_assoc]
        refine TW.dw 8 ?_
        refine RK.tk (by first | exact Pu.fb ty_fa36_1 | exact Pu.fe ty_fa36_1) ?_
        refine RK.tk (Pu.ld ty_sc24) ?_
        refine RK.tk (by first | exact Pu.fb ty_fa36_1 | exact Pu.fe ty_fa36_1) ?_
        refine RK.tk (Pu.ld ty_sc24) ?_
        refine RK.tk Pu.mv ?_
        refine RK.tk (Pu.el ty_et24) ?_
        refine RK.tk (Pu.ld ty_sc3) ?_
        refine RK.keep ?_
        refine RK.ch [false] ?_ trivial
        refine WK.m Mk.bl ?_
        intro b12
        refine WK.n ?_
        first | refine TL.a0 ty_et24 ?_ | refine TL.ap ty_et24 ?_
        intro A13 c13
        let Z0 := G0
        let z0 := t
        let e0 := c0
        let Z1 := A13
        let z1 := u + 1
        let e1 := c13
        refine TL.p (by first | exact Pu.fb ty_fa36_1 | exact Pu.fe ty_fa36_1) ?_
        first | refine TL.st ty_sz24 ?_ | refine TL.se ty_sz24 ?_
        refine TL.nil ?_
        refine TQ.blkN ?_
        refine TQ.thenN (hY13 _ _ ?_)
        refine TW.region ?_
        refine TL.p Pu.mv ?_
        refine TL.p Pu.ad ?_
        refine TL.p Pu.as ?_
        refine TL.nil ?_
        refine TQ.thenN (hZ1 (k + 1) Z0 z0 e0 T' Z1 z1 e1 U' _ _ ?_ ?_ (by repeat (first | exact trivial | refine ⟨rfl, ?_⟩ | refine ⟨trivial, ?_⟩)) ?_)
        · exact ⟨by omega, s1, s2, s3, s4⟩
        · exact (by first | omega | (simp only []; omega) | (simp; omega))
        · first
            | exact KSub.own (by repeat (first | exact Pick.hd | apply Pick.tl)) (fun i _ => by rw [hT']) (KSub.own (by repeat (first | exact Pick.hd | apply Pick.tl)) (iL_app hu hU' rfl) (by repeat (first | exact KSub.nil | refine KSub.cons (by repeat (first | exact Pick.hd | apply Pick.tl)) ?_)))
            | exact KSub.own (by repeat (first | exact Pick.hd | apply Pick.tl)) (iL_app ht hT' rfl) (KSub.own (by repeat (first | exact Pick.hd | apply Pick.tl)) (fun i _ => by rw [hU']) (by repeat (first | exact KSub.nil | refine KSub.cons (by repeat (first | exact Pick.hd | apply Pick.tl)) ?_)))
    · try simp only [decide_eq_true_eq, decide_eq_false_iff_not, Bool.not_eq_true', Bool.not_eq_false', Bool.and_eq_true, Bool.or_eq_true, Bool.and_eq_false_iff, Bool.or_eq_false_iff, Int.not_lt, Int.not_le] at hc2
      obtain rfl : n1 = k := by omega
      have eL : L1.take n1 = L1 := List.take_of_length_le (by omega)
      rw [eL] at hT hU
      have e1 : srt T = mvd L0 L1 M := by rw [hT]; rfl
      have e2 : srt U = mvd L1 L0 M := by rw [hU]; unfold mvd; exact srt_congr List.perm_append_comm
      have e3 : t = (mvd L0 L1 M).length := by rw [← e1, srt_len, ht]
      have e4 : u = (mvd L1 L0 M).length := by rw [← e2, srt_len, hu]
      refine TW.exit ?_
      refine TQ.thenX ?_
      refine TQ.thenX ?_
      refine TQ.blkX ?_
      refine TQ.thenN (hY9 _ _ ?_)
      refine TW.seq fun Y15 hY15 => ?_
      refine TW.expk [.own A4 n2 c4 3 1 (fun k => [.int .i64 (v2 k)]), .blk b1 36 [.slice (a 0) n0 (c 0), .slice (a 1) n1 (c 1), .slice (a 2) n2 (c 2)], .blk b2 36 [.slice none 0 0, .slice none 0 0, .slice none 0 0]] (fun (_ : Unit) => ([(5, .pointer (some ⟨b5, 0, none⟩)), (4, .pointer (some ⟨b2, 0, none⟩))] : Fr)) (fun (_ : Unit) => [.own G0 t c0 3 1 (iL (srt T)), .own G1 u c1 3 1 (iL (srt U)), .blk b5 36 [.slice G0 t c0, .slice G1 u c1, .slice A4 n2 c4], .own A4 n2 c4 3 1 (fun k => [.int .i64 (v2 k)]), .blk b2 36 [.slice none 0 0, .slice none 0 0, .slice none 0 0]]) ?_ (fun hE => ?_)
      · rintro ⟨⟩
        refine TQ.thenN (hY15 _ _ ?_)
        refine TW.seq fun Y16 hY16 => ?_
        refine TW.region ?_
        refine TL.p (Pu.lds ty_ag36) ?_
        first | refine TL.st ty_sz36 ?_ | refine TL.se ty_sz36 ?_
        refine TL.nil ?_
        refine TQ.thenN (hY16 _ _ ?_)
        refine TW.ret ?_
        refine TQ.ret Tryz.results29 rfl ((RV.cs ty_ag36 .nil)) ?_
        exact fun w hw => ⟨((G0, c0), (G1, c1), (A4, c4)), by unfold mv3T; rw [← e3, ← e4]; rfl, by
          unfold mv3K
          rw [← e1, ← e2, srt_len, srt_len, ← ht, ← hu]
          exact hw.sub (by repeat (first | exact KSub.nil | refine KSub.cons (by repeat (first | exact Pick.hd | apply Pick.tl)) ?_))⟩
      refine RG.tk 0 rfl (by first | exact Pu.fb ty_fa36_0 | exact Pu.fe ty_fa36_0) ?_
      refine RG.tk 3 rfl (by first | exact Pu.fb ty_fa36_1 | exact Pu.fe ty_fa36_1) ?_
      refine RG.a2 1 4 rfl rfl (fun X1 hX1 => ?_) (fun X4 hX4 => ?_)
      · refine TL.p (Pu.ld ty_sc24) ?_
        refine TL.nil ?_
        refine TQ.nxt (hX1 _ _ (by repeat (first | exact HasL.nil | refine HasL.cons (by repeat (first | exact Pick.hd | apply Pick.tl)) ?_)) ?_)
        refine RG.a2 2 4 rfl rfl (fun X2 hX2 => ?_) (fun X4 hX4 => ?_)
        · refine TL.call rfl (enters Tryz.func58 rfl rfl) (M := [.own G0 t c0 3 1 (iL T)]) (Pick.perm (by repeat (first | exact Pick.hd | apply Pick.tl))) rfl (fun w hw => by
              exact refSorted_any ht (by omega) (hw.holds (.own G0 t c0 3 1 (iL T)) (by simp))) ?_
          intro _
          refine TL.nil ?_
          refine TQ.nxt (hX2 _ _ (by repeat (first | exact HasL.nil | refine HasL.cons (by repeat (first | exact Pick.hd | apply Pick.tl)) ?_)) ?_)
          refine RG.a1 4 rfl (fun X4 hX4 => ?_)
          refine TL.p (Pu.ld ty_sc24) ?_
          refine TL.nil ?_
          refine TQ.nxt (hX4 _ _ (by repeat (first | exact HasL.nil | refine HasL.cons (by repeat (first | exact Pick.hd | apply Pick.tl)) ?_)) ?_)
          refine RG.tk 6 rfl (by first | exact Pu.fb ty_fa36_0 | exact Pu.fe ty_fa36_0) ?_
          refine RG.a1 5 rfl (fun X5 hX5 => ?_)
          refine TL.call rfl (enters Tryz.func58 rfl rfl) (M := [.own G1 u c1 3 1 (iL U)]) (Pick.perm (by repeat (first | exact Pick.hd | apply Pick.tl))) rfl (fun w hw => by
              exact refSorted_any hu (by omega) (hw.holds (.own G1 u c1 3 1 (iL U)) (by simp))) ?_
          intro _
          refine TL.nil ?_
          refine TQ.nxt (hX5 _ _ (by repeat (first | exact HasL.nil | refine HasL.cons (by repeat (first | exact Pick.hd | apply Pick.tl)) ?_)) ?_)
          refine RG.a1 7 rfl (fun X7 hX7 => ?_)
          first | refine TL.st ty_sz24 ?_ | refine TL.se ty_sz24 ?_
          refine TL.nil ?_
          refine TQ.nxt (hX7 _ _ (by repeat (first | exact HasL.nil | refine HasL.cons (by repeat (first | exact Pick.hd | apply Pick.tl)) ?_)) ?_)
          refine RG.tk 8 rfl (by first | exact Pu.fb ty_fa36_1 | exact Pu.fe ty_fa36_1) ?_
          refine RG.a1 9 rfl (fun X9 hX9 => ?_)
          first | refine TL.st ty_sz24 ?_ | refine TL.se ty_sz24 ?_
          refine TL.nil ?_
          refine TQ.nxt (hX9 _ _ (by repeat (first | exact HasL.nil | refine HasL.cons (by repeat (first | exact Pick.hd | apply Pick.tl)) ?_)) ?_)
          exact RG.nil (TQ.sub (by repeat (first | exact trivial | refine ⟨rfl, ?_⟩ | refine ⟨trivial, ?_⟩)) (by repeat (first | exact KSub.nil | refine KSub.cons (by repeat (first | exact Pick.hd | apply Pick.tl)) ?_ | exact KSub.refl _ | refine KSub.drop ?_)) (hE ⟨⟩)) (by kernel_rfl)
        · refine TL.p (Pu.ld ty_sc24) ?_
          refine TL.nil ?_
          refine TQ.nxt (hX4 _ _ (by repeat (first | exact HasL.nil | refine HasL.cons (by repeat (first | exact Pick.hd | apply Pick.tl)) ?_)) ?_)
          refine RG.a1 2 rfl (fun X2 hX2 => ?_)
          refine TL.call rfl (enters Tryz.func58 rfl rfl) (M := [.own G0 t c0 3 1 (iL T)]) (Pick.perm (by repeat (first | exact Pick.hd | apply Pick.tl))) rfl (fun w hw => by
              exact refSorted_any ht (by omega) (hw.holds (.own G0 t c0 3 1 (iL T)) (by simp))) ?_
          intro _
          refine TL.nil ?_
          refine TQ.nxt (hX2 _ _ (by repeat (first | exact HasL.nil | refine HasL.cons (by repeat (first | exact Pick.hd | apply Pick.tl)) ?_)) ?_)
          refine RG.tk 6 rfl (by first | exact Pu.fb ty_fa36_0 | exact Pu.fe ty_fa36_0) ?_
          refine RG.a1 5 rfl (fun X5 hX5 => ?_)
          refine TL.call rfl (enters Tryz.func58 rfl rfl) (M := [.own G1 u c1 3 1 (iL U)]) (Pick.perm (by repeat (first | exact Pick.hd | apply Pick.tl))) rfl (fun w hw => by
              exact refSorted_any hu (by omega) (hw.holds (.own G1 u c1 3 1 (iL U)) (by simp))) ?_
          intro _
          refine TL.nil ?_
          refine TQ.nxt (hX5 _ _ (by repeat (first | exact HasL.nil | refine HasL.cons (by repeat (first | exact Pick.hd | apply Pick.tl)) ?_)) ?_)
          refine RG.a1 7 rfl (fun X7 hX7 => ?_)
          first | refine TL.st ty_sz24 ?_ | refine TL.se ty_sz24 ?_
          refine TL.nil ?_
          refine TQ.nxt (hX7 _ _ (by repeat (first | exact HasL.nil | refine HasL.cons (by repeat (first | exact Pick.hd | apply Pick.tl)) ?_)) ?_)
          refine RG.tk 8 rfl (by first | exact Pu.fb ty_fa36_1 | exact Pu.fe ty_fa36_1) ?_
          refine RG.a1 9 rfl (fun X9 hX9 => ?_)
          first | refine TL.st ty_sz24 ?_ | refine TL.se ty_sz24 ?_
          refine TL.nil ?_
          refine TQ.nxt (hX9 _ _ (by repeat (first | exact HasL.nil | refine HasL.cons (by repeat (first | exact Pick.hd | apply Pick.tl)) ?_)) ?_)
          exact RG.nil (TQ.sub (by repeat (first | exact trivial | refine ⟨rfl, ?_⟩ | refine ⟨trivial, ?_⟩)) (by repeat (first | exact KSub.nil | refine KSub.cons (by repeat (first | exact Pick.hd | apply Pick.tl)) ?_ | exact KSub.refl _ | refine KSub.drop ?_)) (hE ⟨⟩)) (by kernel_rfl)
      · refine TL.p (Pu.ld ty_sc24) ?_
        refine TL.nil ?_
        refine TQ.nxt (hX4 _ _ (by repeat (first | exact HasL.nil | refine HasL.cons (by repeat (first | exact Pick.hd | apply Pick.tl)) ?_)) ?_)
        refine RG.a1 1 rfl (fun X1 hX1 => ?_)
        refine TL.p (Pu.ld ty_sc24) ?_
        refine TL.nil ?_
        refine TQ.nxt (hX1 _ _ (by repeat (first | exact HasL.nil | refine HasL.cons (by repeat (first | exact Pick.hd | apply Pick.tl)) ?_)) ?_)
        refine RG.a1 2 rfl (fun X2 hX2 => ?_)
        refine TL.call rfl (enters Tryz.func58 rfl rfl) (M := [.own G0 t c0 3 1 (iL T)]) (Pick.perm (by repeat (first | exact Pick.hd | apply Pick.tl))) rfl (fun w hw => by
            exact refSorted_any ht (by omega) (hw.holds (.own G0 t c0 3 1 (iL T)) (by simp))) ?_
        intro _
        refine TL.nil ?_
        refine TQ.nxt (hX2 _ _ (by repeat (first | exact HasL.nil | refine HasL.cons (by repeat (first | exact Pick.hd | apply Pick.tl)) ?_)) ?_)
        refine RG.tk 6 rfl (by first | exact Pu.fb ty_fa36_0 | exact Pu.fe ty_fa36_0) ?_
        refine RG.a1 5 rfl (fun X5 hX5 => ?_)
        refine TL.call rfl (enters Tryz.func58 rfl rfl) (M := [.own G1 u c1 3 1 (iL U)]) (Pick.perm (by repeat (first | exact Pick.hd | apply Pick.tl))) rfl (fun w hw => by
            exact refSorted_any hu (by omega) (hw.holds (.own G1 u c1 3 1 (iL U)) (by simp))) ?_
        intro _
        refine TL.nil ?_
        refine TQ.nxt (hX5 _ _ (by repeat (first | exact HasL.nil | refine HasL.cons (by repeat (first | exact Pick.hd | apply Pick.tl)) ?_)) ?_)
        refine RG.a1 7 rfl (fun X7 hX7 => ?_)
        first | refine TL.st ty_sz24 ?_ | refine TL.se ty_sz24 ?_
        refine TL.nil ?_
        refine TQ.nxt (hX7 _ _ (by repeat (first | exact HasL.nil | refine HasL.cons (by repeat (first | exact Pick.hd | apply Pick.tl)) ?_)) ?_)
        refine RG.tk 8 rfl (by first | exact Pu.fb ty_fa36_1 | exact Pu.fe ty_fa36_1) ?_
        refine RG.a1 9 rfl (fun X9 hX9 => ?_)
        first | refine TL.st ty_sz24 ?_ | refine TL.se ty_sz24 ?_
        refine TL.nil ?_
        refine TQ.nxt (hX9 _ _ (by repeat (first | exact HasL.nil | refine HasL.cons (by repeat (first | exact Pick.hd | apply Pick.tl)) ?_)) ?_)
        exact RG.nil (TQ.sub (by repeat (first | exact trivial | refine ⟨rfl, ?_⟩ | refine ⟨trivial, ?_⟩)) (by repeat (first | exact KSub.nil | refine KSub.cons (by repeat (first | exact Pick.hd | apply Pick.tl)) ?_ | exact KSub.refl _ | refine KSub.drop ?_)) (hE ⟨⟩)) (by kernel_rfl)
end Go.Proofs.YtjephihlkjpohaaGreatDoor
namespace Go.Proofs.YtjephihlkjpohaaGreatDoor
set_option linter.all false
set_option linter.unusedVariables false
set_option linter.unusedSimpArgs false
open Go.RowKit
section
variable {c : Cx} {Q : Exit → Act → World → Prop} {F : Fr} {K K' : List Fact} {d : Option Tmp} {ty : TypeId} {pos : String} {af : Array Edge} {g : Option (Nat × Bool)} {x y : Operand} {xt yt : TypeId}
theorem Pu.srU {b i : Nat} (hx : ev F x = some (.int .u16 (b : Int)) := by rfl) (hy : ev F y = some (.int .i64 (i : Int)) := by rfl) (hi : i ≤ 16 := by omega) : Pu c F K ⟨d, .binOp .shr xt x y yt, ty, pos, af, g⟩ (.int .u16 ((b / 2 ^ i : Nat) : Int)) := Pu.bin hx hy fun w => by
  have h : Min.min i 16 = i := by omega
  go_simp
theorem bits_andU {m : Nat} (hm : m ≤ 65535) : bits .and .u16 (m : Int) 1 = ((m % 2 : Nat) : Int) := by
  have h1 : (BitVec.ofInt 16 (m : Int) &&& BitVec.ofInt 16 1).toNat = m % 2 := by
    rw [BitVec.toNat_and, BitVec.toNat_ofInt, BitVec.toNat_ofInt]
    have e1 : ((m : Int) % (2 ^ 16 : Nat)).toNat = m := by omega
    have e2 : ((1 : Int) % (2 ^ 16 : Nat)).toNat = 1 := by decide
    rw [e1, e2, Nat.and_one_is_mod]
  have h2 : bits .and .u16 (m : Int) 1 = IntKind.u16.wrap ((BitVec.ofInt 16 (m : Int) &&& BitVec.ofInt 16 1).toNat : Int) := rfl
  rw [h2, h1]
  have h3 : m % 2 = 0 ∨ m % 2 = 1 := by omega
  rcases h3 with h | h <;> rw [h] <;> rfl
theorem Pu.anU {m : Nat} (hx : ev F x = some (.int .u16 (m : Int)) := by rfl) (hy : ev F y = some (.int .u16 1) := by rfl) (hm : m ≤ 65535 := by omega) : Pu c F K ⟨d, .binOp .and xt x y yt, ty, pos, af, g⟩ (.int .u16 ((m % 2 : Nat) : Int)) := Pu.bin hx hy fun w => by
  have h := bits_andU hm
  go_simp
end
theorem anyB_succ {n : Nat} {p : Nat → Bool} : anyB (n + 1) p = (anyB n p || p n) := by simp [anyB, List.range_succ]
def othP (i k : Nat) (S T : List Int) : Prop := Asc T ∧ (∀ x ∈ T, x ∈ S) ∧ ((T.length ≤ i ∧ ∀ x ∈ T, x < i) ∨ (T.length ≤ i + 1 ∧ (∀ x ∈ T, x < (i : Int) + 1) ∧ ∃ k', k' < k ∧ S.getD k' 0 = i))
theorem othP.start {S : List Int} : othP 0 0 S [] := ⟨List.Pairwise.nil, (fun _ h => by cases h), .inl ⟨Nat.le_refl _, fun _ h => by cases h⟩⟩
theorem othP.next {i k : Nat} {S T : List Int} (h : othP i k S T) : othP (i + 1) 0 S T := by
  obtain ⟨h1, h2, h3 | h3⟩ := h
  · exact ⟨h1, h2, .inl ⟨by omega, fun x hx => by have := h3.2 x hx; omega⟩⟩
  · exact ⟨h1, h2, .inl ⟨h3.1, fun x hx => by have := h3.2.1 x hx; omega⟩⟩
theorem othP.skip {i k : Nat} {S T : List Int} (h : othP i k S T) : othP i (k + 1) S T := by
  obtain ⟨h1, h2, h3 | ⟨h3, h4, k', h5, h6⟩⟩ := h
  · exact ⟨h1, h2, .inl h3⟩
  · exact ⟨h1, h2, .inr ⟨h3, h4, k', by omega, h6⟩⟩
theorem nodup_getD {S : List Int} (h : S.Nodup) {i j : Nat} (hi : i < S.length) (hj : j < S.length) (e : S.getD i 0 = S.getD j 0) : i = j := by
  have e1 : S.getD i 0 = S[i] := by simp [List.getD_eq_getElem?_getD, hi]
  have e2 : S.getD j 0 = S[j] := by simp [List.getD_eq_getElem?_getD, hj]
  rw [e1, e2] at e
  exact (List.getElem_inj h).1 e
theorem othP.take {i k : Nat} {S T : List Int} (h : othP i k S T) (hS : S.Nodup) (hk : k < S.length) (e : S.getD k 0 = i) : othP i (k + 1) S (T ++ [(i : Int)]) := by
  obtain ⟨h1, h2, h3 | ⟨h3, h4, k', h5, h6⟩⟩ := h
  · refine ⟨List.pairwise_append.2 ⟨h1, List.pairwise_singleton _ _, fun x hx y hy => ?_⟩, fun x hx => ?_, .inr ⟨by rw [List.length_append]; simp; omega, fun x hx => ?_, k, by omega, e⟩⟩
    · obtain rfl := List.mem_singleton.1 hy
      exact h3.2 x hx
    · rcases List.mem_append.1 hx with hx | hx
      · exact h2 x hx
      · obtain rfl := List.mem_singleton.1 hx
        rw [← e]; exact mem_getD hk
    · rcases List.mem_append.1 hx with hx | hx
      · have := h3.2 x hx; omega
      · obtain rfl := List.mem_singleton.1 hx
        omega
  · have := nodup_getD hS (by omega) hk (h6.trans e.symm)
    omega
theorem othP.len {i k : Nat} {S T : List Int} (h : othP i k S T) : T.length ≤ i + 1 := by
  obtain ⟨h1, h2, h3 | h3⟩ := h
  · omega
  · exact h3.1
def mv3A (x : MV3) : Nat → Option Addr := fun j => if j = 0 then x.1.1 else if j = 1 then x.2.1.1 else x.2.2.1
def mv3C (x : MV3) : Nat → Nat := fun j => if j = 0 then x.1.2 else if j = 1 then x.2.1.2 else x.2.2.2
theorem lay1_moved {w : World} {A : Option Addr} {np : Nat} {pk : Nat → Nat → Int} {a : Nat → Option Addr} {l : Nat → Nat} {v : Nat → Nat → Int} {M : List Int} {x : MV3} (h : Lay1 w A np pk a l v) (hx : ∀ φ ∈ mv3K (lft l v) (rgt l v) (l 2) (v 2) M x, φ.holds w) :
    Lay1 w A np pk (mv3A x) (mvl l v M) (mvv l v M) := by
  refine ⟨h.hG, h.hnp, h.hR, fun j hj => ?_, by rw [mvl_tot]; exact h.hL⟩
  rcases (show j = 0 ∨ j = 1 ∨ j = 2 by omega) with rfl | rfl | rfl
  · exact OwnR.rdr (hx (.own x.1.1 (mvd (lft l v) (rgt l v) M).length x.1.2 3 1 (iL (mvd (lft l v) (rgt l v) M))) (by simp [mv3K]))
  · exact OwnR.rdr (hx (.own x.2.1.1 (mvd (rgt l v) (lft l v) M).length x.2.1.2 3 1 (iL (mvd (rgt l v) (lft l v) M))) (by simp [mv3K]))
  · exact OwnR.rdr (hx (.own x.2.2.1 (l 2) x.2.2.2 3 1 (fun k => [.int .i64 (v 2 k)])) (by simp [mv3K]))
theorem tie_moved {l : Nat → Nat} {v : Nat → Nat → Int} {M : List Int} {x : MV3} : tieL (mv3A x) (mvl l v M) (mv3C x) = mv3T (lft l v) (rgt l v) (l 2) M x := rfl
theorem bal3_any {w : World} {A : Option Addr} {np cp : Nat} {pk : Nat → Nat → Int} {a : Nat → Option Addr} {l : Nat → Nat} {v : Nat → Nat → Int} {M : List Int} {x : MV3} {b : Int} (h : Lay1 w A np pk a l v) (hc : check1 np pk l v = 0) (hb : 0 ≤ b ∧ b ≤ 1000000000)
    (hx : ∀ φ ∈ mv3K (lft l v) (rgt l v) (l 2) (v 2) M x, φ.holds w) :
    Calls Tryz.prog 28 #[.slice A np cp, .agg (mv3T (lft l v) (rgt l v) (l 2) M x).toArray, .int .i64 b] w (Ret w (.tuple #[.int .u8 (balR np pk (mvl l v M) (mvv l v M) b), .int .i64 0])) := by
  have h9 := loadBalance_any (cp := cp) (c := mv3C x) (b := b) (lay1_moved h hx)
  rw [asked_moved hc hb, tie_moved] at h9
  exact h9
theorem mov3_any {w : World} {A B : Option Addr} {np m cm : Nat} {pk : Nat → Nat → Int} {a : Nat → Option Addr} {l c : Nat → Nat} {v : Nat → Nat → Int} {M : List Int} (h : Lay1 w A np pk a l v) (hm : m = M.length) (hm1 : m ≤ 1000) (hM : RdR w 1 B m (iL M)) :
    CallsK Tryz.prog 29 #[.agg (tieL a l c).toArray, .slice B m cm] [] w MV3 (fun x => .agg (mv3T (lft l v) (rgt l v) (l 2) M x).toArray) (mv3K (lft l v) (rgt l v) (l 2) (v 2) M) := by
  have hl := h.hL
  rw [tot3] at hl
  have t0 := (h.hI 0 (by omega)).toI
  have t1 := (h.hI 1 (by omega)).toI
  rw [toI_len] at t0 t1
  exact refMoved_any (a := a) (l := l) (c := c) toI_len.symm toI_len.symm rfl hm (by omega) (by omega) (by omega) hm1 t0 t1 (h.hI 2 (by omega)) hM
theorem sides_rows {l : Nat → Nat} {v : Nat → Nat → Int} {i : Nat} (h : i < l 0 + l 1) : catR (l 0) (fun k => [.int .i64 (v 0 k)]) (fun k => [.int .i64 (v 1 k)]) i = iL (lft l v ++ rgt l v) i := by
  simp only [catR, iL]
  rw [getD_app]
  have e0 : (lft l v).length = l 0 := toI_len
  rw [e0]
  by_cases h1 : i < l 0
  · rw [if_pos h1, if_pos h1]
    show _ = [Value.int .i64 ((toI (v 0) (l 0)).getD i 0)]
    rw [toI_get h1]
  · rw [if_neg h1, if_neg h1]
    show _ = [Value.int .i64 ((toI (v 1) (l 1)).getD (i - l 0) 0)]
    rw [toI_get (by omega)]
theorem first_lt {k : Nat} {M T : List Int} (hl : M.length = T.length) (hk : k < M.length) (he : ∀ j, j < k → M.getD j 0 = T.getD j 0) (hne : M.getD k 0 ≠ T.getD k 0) (hc : ¬ cmpI T M < 0) : M.getD k 0 < T.getD k 0 := by
  rcases Int.lt_or_gt_of_ne hne with h | h
  · exact h
  · exact (hc (cmpI_first (fun j hj => (he j hj).symm) (by omega) hk h)).elim
end Go.Proofs.YtjephihlkjpohaaGreatDoor
namespace Go.Proofs.YtjephihlkjpohaaGreatDoor
set_option linter.all false
set_option linter.unusedVariables false
set_option linter.unusedSimpArgs false
open Go.RowKit
theorem great_no {np m : Nat} {l : Nat → Nat → Nat} (h : greatB np m l = false) : np ≤ 40 ∧ m ≤ 12 ∧ ∀ i, i < m → tot (l i) 3 ≤ 48 := by
  simp only [greatB, Bool.or_eq_false_iff, decide_eq_false_iff_not, anyB_false] at h
  refine ⟨by omega, by omega, fun i hi => ?_⟩
  have := h.2 i hi
  simp only [bigT, Bool.or_eq_false_iff, decide_eq_false_iff_not] at this
  rw [tot3]
  omega
end Go.Proofs.YtjephihlkjpohaaGreatDoor
namespace Go.Proofs.YtjephihlkjpohaaGreatDoor
set_option linter.all false
set_option linter.unusedVariables false
set_option linter.unusedSimpArgs false
open Go.RowKit
set_option maxRecDepth 100000 in
set_option maxHeartbeats 4000000 in
theorem lawSettled_any {w : World} {A : Option Addr} {np cp s : Nat} {pk : Nat → Nat → Int} {a : Nat → Option Addr} {l c : Nat → Nat} {v : Nat → Nat → Int} {b : Int}
    (hG : None0 w) (hR : RdR w 11 A np (fun k => packL (pk k))) (hI : ∀ j, j < 3 → RdR w 1 (a j) (l j) (fun k => [.int .i64 (v j k)])) (hs : s ≤ 65535) :
    Calls Tryz.prog 5 #[.slice A np cp, .agg (tieL a l c).toArray, .int .i64 b, .int .u16 (s : Int)] w (Ret w (.bool true)) := by
  unfold tieL
  refine K_enter (S := []) (K := []) Tryz.func5 rfl Tryz.ntmps5 rfl (Sat.start _) ?_
  refine TW.seq fun Y1 hY1 => ?_
  refine TW.region ?_
  refine TL.m Mk.bx ?_
  intro b1
  refine TL.p Pu.as ?_
  refine TL.nil ?_
  refine TQ.thenN (hY1 _ _ ?_)
  refine TW.seq fun Y2 hY2 => ?_
  refine TW.region ?_
  refine TL.cr rfl (enters Tryz.func21 rfl rfl) (fun w hw => by
      exact alive_any _ (hG.sat hw (by simp))) ?_
  refine TL.p Pu.as ?_
  refine TL.nil ?_
  refine TQ.thenN (hY2 _ _ ?_)
  refine TW.seq fun Y3 hY3 => ?_
  refine TW.seq fun Y4 hY4 => ?_
  refine TW.region ?_
  refine TL.p Pu.mv ?_
  refine TL.p (Pu.lds ty_ag36) ?_
  refine TL.m Mk.bl ?_
  intro b2
  refine TL.cr rfl (enters Tryz.func13 rfl rfl) (fun w hw => by
      exact great_any (m := 1) (a := fun _ => a) (l := fun _ => l) (c := fun _ => c) (RdR.blk (n := 1) (cs := tieL a l c) (E := 36) (hw.holds (.blk b2 36 (tieL a l c)) (by simp [tieL])) rfl (fun i _ => rfl))) ?_
  refine TL.p Pu.mv ?_
  refine TL.guard (t := 32) rfl (fun hg1 => ?_) (fun hg1 => ?_)
  · try simp only [decide_eq_true_eq, decide_eq_false_iff_not, Bool.not_eq_true', Bool.not_eq_false', Int.natCast_pos] at hg1
    refine TL.gs ?_
    refine TL.gs ?_
    refine TL.gs ?_
    refine TL.gs ?_
    refine TL.gs ?_
    refine TL.p Pu.kt ?_
    refine TL.p Pu.mv ?_
    refine TL.gs ?_
    refine TL.gs ?_
    refine TL.p Pu.kt ?_
    refine TL.p Pu.mv ?_
    refine TL.gs ?_
    refine TL.gs ?_
    refine TL.p Pu.kt ?_
    refine TL.p Pu.mv ?_
    refine TL.gs ?_
    refine TL.gs ?_
    refine TL.p Pu.kt ?_
    refine TL.nil ?_
    refine TQ.thenN (hY4 _ _ ?_)
    refine TW.condT rfl rfl ?_
    refine TW.seq fun Y5 hY5 => ?_
    refine TW.region ?_
    refine TL.p Pu.mv ?_
    refine TL.p Pu.as ?_
    refine TL.nil ?_
    refine TQ.thenN (hY5 _ _ ?_)
    refine TW.ret ?_
    refine TQ.thenR ?_
    refine TQ.ret Tryz.results5 rfl ((.tmp rfl .nil)) ?_
    refine fun w hw => ⟨?_, Chg.ext hw.chg⟩
    refine congrArg (fun b => Ending.returned (Value.bool b)) ?_
    first
      | rfl
      | (simp [z3]; done)
      | exact decide_eq_true hlt
      | (simp; omega)
  · try simp only [decide_eq_true_eq, decide_eq_false_iff_not, Bool.not_eq_true', Bool.not_eq_false', Int.natCast_pos] at hg1
    have hno : greatB np 1 (fun _ => l) = false := hg1
    obtain ⟨hnp40, hm12, hl48⟩ := great_no hno
    have hl48 := hl48 0 (by omega)
    have hL : Lay1 w A np pk a l v := ⟨hG, by omega, hR, hI, by omega⟩
    refine TL.gd Pu.mv ?_
    refine TL.gd (Pu.lds ty_ag36) ?_
    refine TL.gm Mk.bl ?_
    intro b3
    refine TL.cr rfl (enters Tryz.func27 rfl rfl) (fun w hw => by
        exact refCheck1_any (E := 36) (c := c) (hL.ext (Chg.ext hw.chg)) (hw.holds (.blk b3 36 (tieL a l c)) (by simp [tieL]))) ?_
    refine TL.gd Pu.ne ?_
    refine TL.p Pu.kf ?_
    refine TL.p Pu.mv ?_
    refine TL.guard (t := 39) rfl (fun hg2 => ?_) (fun hg2 => ?_)
    · try simp only [decide_eq_true_eq, decide_eq_false_iff_not, Bool.not_eq_true', Bool.not_eq_false', Int.natCast_pos] at hg2
      refine TL.gs ?_
      refine TL.gs ?_
      refine TL.p Pu.kt ?_
      refine TL.p Pu.mv ?_
      refine TL.gs ?_
      refine TL.gs ?_
      refine TL.p Pu.kt ?_
      refine TL.p Pu.mv ?_
      refine TL.gs ?_
      refine TL.gs ?_
      refine TL.p Pu.kt ?_
      refine TL.nil ?_
      refine TQ.thenN (hY4 _ _ ?_)
      refine TW.condT rfl rfl ?_
      refine TW.seq fun Y6 hY6 => ?_
      refine TW.region ?_
      refine TL.p Pu.mv ?_
      refine TL.p Pu.as ?_
      refine TL.nil ?_
      refine TQ.thenN (hY6 _ _ ?_)
      refine TW.ret ?_
      refine TQ.thenR ?_
      refine TQ.ret Tryz.results5 rfl ((.tmp rfl .nil)) ?_
      refine fun w hw => ⟨?_, Chg.ext hw.chg⟩
      refine congrArg (fun b => Ending.returned (Value.bool b)) ?_
      first
        | rfl
        | (simp [z3]; done)
        | exact decide_eq_true hlt
        | (simp; omega)
    · try simp only [decide_eq_true_eq, decide_eq_false_iff_not, Bool.not_eq_true', Bool.not_eq_false', Int.natCast_pos] at hg2
      refine TL.gd Pu.mv ?_
      refine TL.gd Pu.lt ?_
      refine TL.p Pu.kf ?_
      refine TL.p Pu.mv ?_
      refine TL.guard (t := 43) rfl (fun hg3 => ?_) (fun hg3 => ?_)
      · try simp only [decide_eq_true_eq, decide_eq_false_iff_not, Bool.not_eq_true', Bool.not_eq_false', Int.natCast_pos] at hg3
        refine TL.gs ?_
        refine TL.gs ?_
        refine TL.p Pu.kt ?_
        refine TL.p Pu.mv ?_
        refine TL.gs ?_
        refine TL.gs ?_
        refine TL.p Pu.kt ?_
        refine TL.nil ?_
        refine TQ.thenN (hY4 _ _ ?_)
        refine TW.condT rfl rfl ?_
        refine TW.seq fun Y7 hY7 => ?_
        refine TW.region ?_
        refine TL.p Pu.mv ?_
        refine TL.p Pu.as ?_
        refine TL.nil ?_
        refine TQ.thenN (hY7 _ _ ?_)
        refine TW.ret ?_
        refine TQ.thenR ?_
        refine TQ.ret Tryz.results5 rfl ((.tmp rfl .nil)) ?_
        refine fun w hw => ⟨?_, Chg.ext hw.chg⟩
        refine congrArg (fun b => Ending.returned (Value.bool b)) ?_
        first
          | rfl
          | (simp [z3]; done)
          | exact decide_eq_true hlt
          | (simp; omega)
      · try simp only [decide_eq_true_eq, decide_eq_false_iff_not, Bool.not_eq_true', Bool.not_eq_false', Int.natCast_pos] at hg3
        refine TL.gd Pu.mv ?_
        refine TL.gd Pu.gt ?_
        refine TL.p Pu.kf ?_
        refine TL.p Pu.mv ?_
        refine TL.guard (t := 47) rfl (fun hg4 => ?_) (fun hg4 => ?_)
        · try simp only [decide_eq_true_eq, decide_eq_false_iff_not, Bool.not_eq_true', Bool.not_eq_false', Int.natCast_pos] at hg4
          refine TL.gs ?_
          refine TL.gs ?_
          refine TL.p Pu.kt ?_
          refine TL.nil ?_
          refine TQ.thenN (hY4 _ _ ?_)
          refine TW.condT rfl rfl ?_
          refine TW.seq fun Y8 hY8 => ?_
          refine TW.region ?_
          refine TL.p Pu.mv ?_
          refine TL.p Pu.as ?_
          refine TL.nil ?_
          refine TQ.thenN (hY8 _ _ ?_)
          refine TW.ret ?_
          refine TQ.thenR ?_
          refine TQ.ret Tryz.results5 rfl ((.tmp rfl .nil)) ?_
          refine fun w hw => ⟨?_, Chg.ext hw.chg⟩
          refine congrArg (fun b => Ending.returned (Value.bool b)) ?_
          first
            | rfl
            | (simp [z3]; done)
            | exact decide_eq_true hlt
            | (simp; omega)
        · try simp only [decide_eq_true_eq, decide_eq_false_iff_not, Bool.not_eq_true', Bool.not_eq_false', Int.natCast_pos] at hg4
          refine TL.gd Pu.mv ?_
          refine TL.gd Pu.no ?_
          refine TL.p Pu.kf ?_
          refine TL.nil ?_
          refine TQ.thenN (hY4 _ _ ?_)
          refine TW.condF rfl rfl ?_
          refine TW.skip ?_
          refine TQ.thenN (hY3 _ _ ?_)
          refine TW.seq fun Y9 hY9 => ?_
          refine TW.region ?_
          have hc : check1 np pk l v = 0 := by simpa using hg2
          have hb : 0 ≤ b ∧ b ≤ 1000000000 := by omega
          have hcases := sett_cases hc hb
          have hbm := fun M => bal_moved (M := M) hc hb
          have hnd := sides_nodup hc
          have hl3 := (check1_iff.1 hc).2.2.1
          rw [tot3] at hl3
          have hI0 := hI 0 (by omega)
          have hI1 := hI 1 (by omega)
          refine TL.p Pu.mv ?_
          refine TL.p (Pu.lds ty_ag36) ?_
          refine TL.p Pu.mv ?_
          refine TL.call (M := []) rfl (enters Tryz.func19 rfl rfl) (List.Perm.refl _) rfl (fun w hw => by
              exact loadSettle_any (hL.sat hw)) ?_
          rintro ⟨As, cs⟩
          have hsl : (lft l v ++ rgt l v).length = l 0 + l 1 := by rw [List.length_append]; exact congr (congrArg _ toI_len) toI_len
          generalize hM : settL np pk l v b = M at *
          generalize hCo : settC np pk l v b = code at *
          have hMl : M.length ≤ 10 := by
            rcases hcases with ⟨_, h, _⟩ | ⟨_, _, _, h, _⟩
            · rw [h]; decide
            · exact h
          refine TL.p Pu.mv ?_
          refine TL.p Pu.ex ?_
          refine TL.p Pu.ex ?_
          refine TL.p Pu.as ?_
          refine TL.p Pu.as ?_
          refine TL.nil ?_
          refine TQ.thenN (hY9 _ _ ?_)
          refine TW.seq fun Y10 hY10 => ?_
          refine TW.ex0k [.blk b1 36 [.slice (a 0) (l 0) (c 0), .slice (a 1) (l 1) (c 1), .slice (a 2) (l 2) (c 2)]] ?_
          refine RG.tk 1 rfl (by first | exact Pu.fb ty_fa36_0 | exact Pu.fe ty_fa36_0) ?_
          refine RG.tk 2 rfl (Pu.ld ty_sc24) ?_
          refine RG.tk 4 rfl (by first | exact Pu.fb ty_fa36_1 | exact Pu.fe ty_fa36_1) ?_
          refine RG.tk 5 rfl (Pu.ld ty_sc24) ?_
          refine RG.a1 0 rfl (fun X0 hX0 => ?_)
          refine TL.m Mk.bl ?_
          intro b4
          refine TL.nil ?_
          refine TQ.nxt (hX0 _ _ (by repeat (first | exact HasL.nil | refine HasL.cons (by repeat (first | exact Pick.hd | apply Pick.tl)) ?_)) ?_)
          refine RG.a1 3 rfl (fun X3 hX3 => ?_)
          refine TL.ob (b := b4) (sz := 1) (r := fun _ => []) (by repeat (first | exact Pick.hd | apply Pick.tl)) rfl ?_
          first | refine TL.a0 ty_et24 ?_ | refine TL.ap ty_et24 ?_
          intro A5 c5
          refine TL.nil ?_
          refine TQ.nxt (hX3 _ _ (by repeat (first | exact HasL.nil | refine HasL.cons (by repeat (first | exact Pick.hd | apply Pick.tl)) ?_)) ?_)
          refine RG.a1 6 rfl (fun X6 hX6 => ?_)
          first | refine TL.a0 ty_et24 ?_ | refine TL.ap ty_et24 ?_
          intro A6 c6
          refine TL.nil ?_
          refine TQ.nxt (hX6 _ _ (by repeat (first | exact HasL.nil | refine HasL.cons (by repeat (first | exact Pick.hd | apply Pick.tl)) ?_)) ?_)
          refine RG.tk 7 rfl Pu.as ?_
          refine RG.nil ?_ (by kernel_rfl)
          refine TQ.thenN (hY10 _ _ ?_)
          refine TW.seq fun Y11 hY11 => ?_
          refine TW.region ?_
          refine TL.subK (KSub.own (s := iL (lft l v ++ rgt l v)) (by repeat (first | exact Pick.hd | apply Pick.tl)) (fun i hi => sides_rows hi) (KSub.refl _)) ?_
          obtain ⟨n, hn⟩ : ∃ n, n = l 0 + l 1 := ⟨_, rfl⟩
          rw [← hn]
          rw [← hn] at hsl
          generalize hS : lft l v ++ rgt l v = S at *
          refine TL.p Pu.as ?_
          refine TL.nil ?_
          refine TQ.thenN (hY11 _ _ ?_)
          refine TW.seq fun Y12 hY12 => ?_
          refine TW.seq fun Y13 hY13 => ?_
          refine TW.region ?_
          refine TL.p Pu.mv ?_
          refine TL.p (Pu.ln Tryz.underlying22) ?_
          refine TL.p Pu.mv ?_
          refine TL.nil ?_
          refine TQ.thenN (hY13 _ _ ?_)
          refine TW.block ?_
          refine TW.loop5 (fun (i : Nat) (B : Option Addr) (cb : Nat) (t : Nat) (T : List Int) => [(68, .int .i64 (i : Int)), (67, .int .i64 (np : Int)), (13, .slice B t cb), (12, .slice A6 n c6), (10, .slice As M.length cs), (11, .int .i64 code), (9, .bool true), (0, .slice A np cp), (5, .pointer (some ⟨b1, 0, none⟩)), (2, .int .i64 b), (3, .int .u16 (s : Int))]) (fun i B cb t T => [.own B t cb 3 1 (iL T), .own A6 n c6 3 1 (iL S), .own As M.length cs 3 1 (iL M), .blk b1 36 [.slice (a 0) (l 0) (c 0), .slice (a 1) (l 1) (c 1), .slice (a 2) (l 2) (c 2)]]) (fun i B cb t T => i ≤ np ∧ t = T.length ∧ othP i 0 S T) (fun i B cb t T => np - i) 0 none 0 0 [] (by repeat (first | exact trivial | refine ⟨rfl, ?_⟩ | refine ⟨trivial, ?_⟩)) ?_ ?_ ?_
          · exact KSub.nilOwn (by repeat (first | exact KSub.nil | refine KSub.cons (by repeat (first | exact Pick.hd | apply Pick.tl)) ?_))
          · exact ⟨Nat.zero_le _, rfl, othP.start⟩
          rintro i B cb t T ⟨hi, ht, hoth⟩ Z0 hZ0
          refine TW.seq fun Y14 hY14 => ?_
          refine TW.region ?_
          refine TL.p Pu.lt ?_
          refine TL.nil ?_
          refine TQ.thenN (hY14 _ _ ?_)
          refine TW.seq fun Y15 hY15 => ?_
          refine TW.cond rfl (fun hc1 => ?_) (fun hc1 => ?_)
          · try simp only [decide_eq_true_eq, decide_eq_false_iff_not, Bool.not_eq_true', Bool.not_eq_false', Bool.and_eq_true, Bool.or_eq_true, Bool.and_eq_false_iff, Bool.or_eq_false_iff, Int.not_lt, Int.not_le] at hc1
            have hin : i < np := by omega
            refine TW.skip ?_
            refine TQ.thenN (hY15 _ _ ?_)
            refine TW.seq fun Y16 hY16 => ?_
            refine TW.block ?_
            refine TW.seq fun Y17 hY17 => ?_
            refine TW.region ?_
            refine TL.p Pu.mv ?_
            refine TL.p Pu.as ?_
            refine TL.nil ?_
            refine TQ.thenN (hY17 _ _ ?_)
            refine TW.seq fun Y18 hY18 => ?_
            refine TW.region ?_
            refine TL.p Pu.mv ?_
            refine TL.p (Pu.ln Tryz.underlying24) ?_
            refine TL.p Pu.mv ?_
            refine TL.nil ?_
            refine TQ.thenN (hY18 _ _ ?_)
            refine TW.block ?_
            refine TW.loop5 (fun (k : Nat) (B : Option Addr) (cb : Nat) (t : Nat) (T : List Int) => [(73, .int .i64 (k : Int)), (72, .int .i64 (n : Int)), (71, .slice A6 n c6), (14, .int .i64 (i : Int)), (68, .int .i64 (i : Int)), (67, .int .i64 (np : Int)), (13, .slice B t cb), (12, .slice A6 n c6), (10, .slice As M.length cs), (11, .int .i64 code), (9, .bool true), (0, .slice A np cp), (5, .pointer (some ⟨b1, 0, none⟩)), (2, .int .i64 b), (3, .int .u16 (s : Int))]) (fun k B cb t T => [.own B t cb 3 1 (iL T), .own A6 n c6 3 1 (iL S), .own As M.length cs 3 1 (iL M), .blk b1 36 [.slice (a 0) (l 0) (c 0), .slice (a 1) (l 1) (c 1), .slice (a 2) (l 2) (c 2)]]) (fun k B cb t T => k ≤ n ∧ t = T.length ∧ othP i k S T) (fun k B cb t T => n - k) 0 B cb t T (by repeat (first | exact trivial | refine ⟨rfl, ?_⟩ | refine ⟨trivial, ?_⟩)) ?_ ?_ ?_
            · exact (by repeat (first | exact KSub.nil | refine KSub.cons (by repeat (first | exact Pick.hd | apply Pick.tl)) ?_))
            · exact ⟨Nat.zero_le _, ht, hoth⟩
            rintro k B cb t T ⟨hk, ht, hoth⟩ Z1 hZ1
            have hTl := hoth.len
            refine TW.seq fun Y19 hY19 => ?_
            refine TW.region ?_
            refine TL.p Pu.lt ?_
            refine TL.nil ?_
            refine TQ.thenN (hY19 _ _ ?_)
            refine TW.seq fun Y20 hY20 => ?_
            refine TW.cond rfl (fun hc2 => ?_) (fun hc2 => ?_)
            · try simp only [decide_eq_true_eq, decide_eq_false_iff_not, Bool.not_eq_true', Bool.not_eq_false', Bool.and_eq_true, Bool.or_eq_true, Bool.and_eq_false_iff, Bool.or_eq_false_iff, Int.not_lt, Int.not_le] at hc2
              have hkn : k < n := by omega
              refine TW.skip ?_
              refine TQ.thenN (hY20 _ _ ?_)
              refine TW.seq fun Y21 hY21 => ?_
              refine TW.block ?_
              refine TW.seq fun Y22 hY22 => ?_
              refine TW.region ?_
              refine TL.p Pu.mv ?_
              refine TL.p (Pu.el ty_et24) ?_
              refine TL.p (Pu.ld ty_sc3) ?_
              refine TL.p Pu.as ?_
              refine TL.p Pu.as ?_
              refine TL.nil ?_
              refine TQ.thenN (hY22 _ _ ?_)
              refine TW.seq fun Y23 hY23 => ?_
              refine TW.join [(87, .bool (decide (S.getD k 0 = (i : Int)) && decide (((s / 2 ^ k % 2 : Nat) : Int) = 1)))] ?_ (fun hJ1 => ?_)
              · refine TQ.thenN (hY23 _ _ ?_)
                refine TW.cond rfl (fun hc3 => ?_) (fun hc3 => ?_)
                · try simp only [decide_eq_true_eq, decide_eq_false_iff_not, Bool.not_eq_true', Bool.not_eq_false', Bool.and_eq_true, Bool.or_eq_true, Bool.and_eq_false_iff, Bool.or_eq_false_iff, Int.not_lt, Int.not_le] at hc3
                  obtain ⟨T', hT'⟩ : ∃ y, y = T ++ [(i : Int)] := ⟨_, rfl⟩
                  have s1 : t + 1 = T'.length := by rw [hT', List.length_append, ← ht]; rfl
                  have s2 : othP i (k + 1) S T' := by rw [hT']; exact hoth.take hnd (by omega) hc3.1
                  refine TW.region ?_
                  refine TL.p Pu.mv ?_
                  refine TL.p Pu.mv ?_
                  refine TL.m Mk.bl ?_
                  intro b7
                  first | refine TL.a0 ty_et24 ?_ | refine TL.ap ty_et24 ?_
                  intro A8 c8
                  refine TL.p Pu.as ?_
                  refine TL.nil ?_
                  refine TQ.blkN ?_
                  refine TQ.thenN (hY21 _ _ ?_)
                  refine TW.region ?_
                  refine TL.p Pu.ad ?_
                  refine TL.p Pu.mv ?_
                  refine TL.nil ?_
                  refine TQ.thenN (hZ1 (k + 1) _ _ _ T' _ _ ?_ ?_ (by repeat (first | exact trivial | refine ⟨rfl, ?_⟩ | refine ⟨trivial, ?_⟩)) ?_)
                  · exact ⟨by omega, s1, s2⟩
                  · exact (by first | omega | (simp only []; omega) | (simp; omega))
                  · first
                      | exact KSub.own Pick.hd (iL_app ht hT' rfl) (by repeat (first | exact KSub.nil | refine KSub.cons (by repeat (first | exact Pick.hd | apply Pick.tl)) ?_))
                      | exact KSub.own Pick.hd (fun i _ => by rw [hT']) (by repeat (first | exact KSub.nil | refine KSub.cons (by repeat (first | exact Pick.hd | apply Pick.tl)) ?_))
                · try simp only [decide_eq_true_eq, decide_eq_false_iff_not, Bool.not_eq_true', Bool.not_eq_false', Bool.and_eq_true, Bool.or_eq_true, Bool.and_eq_false_iff, Bool.or_eq_false_iff, Int.not_lt, Int.not_le] at hc3
                  obtain ⟨T', hT'⟩ : ∃ y, y = T := ⟨_, rfl⟩
                  have s1 : t = T'.length := by rw [hT', ← ht]
                  have s2 : othP i (k + 1) S T' := by rw [hT']; exact hoth.skip
                  refine TW.skip ?_
                  refine TQ.blkN ?_
                  refine TQ.thenN (hY21 _ _ ?_)
                  refine TW.region ?_
                  refine TL.p Pu.ad ?_
                  refine TL.p Pu.mv ?_
                  refine TL.nil ?_
                  refine TQ.thenN (hZ1 (k + 1) _ _ _ T' _ _ ?_ ?_ (by repeat (first | exact trivial | refine ⟨rfl, ?_⟩ | refine ⟨trivial, ?_⟩)) ?_)
                  · exact ⟨by omega, s1, s2⟩
                  · exact (by first | omega | (simp only []; omega) | (simp; omega))
                  · first
                      | exact KSub.own Pick.hd (iL_app ht hT' rfl) (by repeat (first | exact KSub.nil | refine KSub.cons (by repeat (first | exact Pick.hd | apply Pick.tl)) ?_))
                      | exact KSub.own Pick.hd (fun i _ => by rw [hT']) (by repeat (first | exact KSub.nil | refine KSub.cons (by repeat (first | exact Pick.hd | apply Pick.tl)) ?_))
              refine TW.region ?_
              refine TL.p Pu.mv ?_
              refine TL.p Pu.mv ?_
              refine TL.p Pu.eq ?_
              refine TL.p Pu.mv ?_
              refine TL.guard (t := 81) rfl (fun hg5 => ?_) (fun hg5 => ?_)
              · try simp only [decide_eq_true_eq, decide_eq_false_iff_not, Bool.not_eq_true', Bool.not_eq_false', Int.natCast_pos] at hg5
                refine TL.gd Pu.mv ?_
                refine TL.gd Pu.mv ?_
                refine TL.gd Pu.srU ?_
                refine TL.gd (Pu.anU (hm := by have := Nat.div_le_self s (2 ^ k); omega)) ?_
                refine TL.gd Pu.eq ?_
                refine TL.p Pu.kt ?_
                refine TL.nil ?_
                exact TQ.sub (by repeat (first | exact trivial | refine ⟨rfl, ?_⟩ | refine ⟨trivial, ?_⟩ | refine ⟨(by show some (Value.bool _) = some (Value.bool _); simp [hg5, -List.getD_eq_getElem?_getD]), ?_⟩)) (by repeat (first | exact KSub.nil | refine KSub.cons (by repeat (first | exact Pick.hd | apply Pick.tl)) ?_)) hJ1
              · try simp only [decide_eq_true_eq, decide_eq_false_iff_not, Bool.not_eq_true', Bool.not_eq_false', Int.natCast_pos] at hg5
                refine TL.gs ?_
                refine TL.gs ?_
                refine TL.gs ?_
                refine TL.gs ?_
                refine TL.gs ?_
                refine TL.p Pu.kf ?_
                refine TL.nil ?_
                exact TQ.sub (by repeat (first | exact trivial | refine ⟨rfl, ?_⟩ | refine ⟨trivial, ?_⟩ | refine ⟨(by show some (Value.bool _) = some (Value.bool _); simp [hg5, -List.getD_eq_getElem?_getD]), ?_⟩)) (by repeat (first | exact KSub.nil | refine KSub.cons (by repeat (first | exact Pick.hd | apply Pick.tl)) ?_)) hJ1
            · try simp only [decide_eq_true_eq, decide_eq_false_iff_not, Bool.not_eq_true', Bool.not_eq_false', Bool.and_eq_true, Bool.or_eq_true, Bool.and_eq_false_iff, Bool.or_eq_false_iff, Int.not_lt, Int.not_le] at hc2
              obtain rfl : k = n := by omega
              have hnext := hoth.next
              refine TW.exit ?_
              refine TQ.thenX ?_
              refine TQ.thenX ?_
              refine TQ.blkX ?_
              refine TQ.blkN ?_
              refine TQ.thenN (hY16 _ _ ?_)
              refine TW.region ?_
              refine TL.p Pu.ad ?_
              refine TL.p Pu.mv ?_
              refine TL.nil ?_
              refine TQ.thenN (hZ0 (i + 1) _ _ _ T _ _ ?_ ?_ (by repeat (first | exact trivial | refine ⟨rfl, ?_⟩ | refine ⟨trivial, ?_⟩)) ?_)
              · exact ⟨by omega, ht, hnext⟩
              · exact (by first | omega | (simp only []; omega) | (simp; omega))
              · exact (by repeat (first | exact KSub.nil | refine KSub.cons (by repeat (first | exact Pick.hd | apply Pick.tl)) ?_))
          · try simp only [decide_eq_true_eq, decide_eq_false_iff_not, Bool.not_eq_true', Bool.not_eq_false', Bool.and_eq_true, Bool.or_eq_true, Bool.and_eq_false_iff, Bool.or_eq_false_iff, Int.not_lt, Int.not_le] at hc1
            obtain rfl : np = i := by omega
            have hTl := hoth.len
            refine TW.exit ?_
            refine TQ.thenX ?_
            refine TQ.thenX ?_
            refine TQ.blkX ?_
            refine TQ.thenN (hY12 _ _ ?_)
            refine TW.seq fun Y24 hY24 => ?_
            refine TW.region ?_
            refine TL.p Pu.mv ?_
            refine TL.p (Pu.lds ty_ag36) ?_
            refine TL.p Pu.mv ?_
            refine TL.call (M := []) rfl (enters Tryz.func29 rfl rfl) (List.Perm.refl _) rfl (fun w hw => by
                exact mov3_any (hL.sat hw) ht (by omega) (OwnR.rdr (hw.holds (.own B t cb 3 1 (iL T)) (by simp)))) ?_
            rintro mx
            refine TL.p Pu.mv ?_
            refine TL.cr rfl (enters Tryz.func28 rfl rfl) (fun w hw => by
                exact bal3_any (hL.sat hw) hc hb fun φ hφ => hw.holds φ (List.mem_append_left _ hφ)) ?_
            refine TL.p Pu.mv ?_
            refine TL.p Pu.ex ?_
            refine TL.p Pu.ex ?_
            refine TL.p Pu.as ?_
            refine TL.p Pu.as ?_
            refine TL.nil ?_
            refine TQ.thenN (hY24 _ _ ?_)
            refine TW.seq fun Y25 hY25 => ?_
            refine TW.seq fun Y26 hY26 => ?_
            refine TW.region ?_
            refine TL.p Pu.mv ?_
            refine TL.p Pu.ne ?_
            refine TL.nil ?_
            refine TQ.thenN (hY26 _ _ ?_)
            refine TW.condF rfl ((by first | rfl | simp)) ?_
            refine TW.skip ?_
            refine TQ.thenN (hY25 _ _ ?_)
            refine TW.seq fun Y27 hY27 => ?_
            refine TW.seq fun Y28 hY28 => ?_
            refine TW.region ?_
            have hbT := hbm T
            generalize hbal : balR np pk (mvl l v T) (mvv l v T) b = e at *
            refine TL.p Pu.mv ?_
            refine TL.p Pu.ne ?_
            refine TL.nil ?_
            refine TQ.thenN (hY28 _ _ ?_)
            refine TW.cond rfl (fun hc5 => ?_) (fun hc5 => ?_)
            · try simp only [decide_eq_true_eq, decide_eq_false_iff_not, Bool.not_eq_true', Bool.not_eq_false', Bool.and_eq_true, Bool.or_eq_true, Bool.and_eq_false_iff, Bool.or_eq_false_iff, Int.not_lt, Int.not_le] at hc5
              obtain ⟨z1, z2, z3⟩ : code = 52 ∧ M = [] ∧ e ≠ 2 := by
                rcases hcases with ⟨h1, h2, h3⟩ | ⟨h1, _⟩
                · exact ⟨h1, h2, fun he => by have := hbT.1 he; rw [h3 T hoth.1 hoth.2.1] at this; cases this⟩
                · exact absurd h1 (by simpa using hc5)
              refine TW.seq fun Y29 hY29 => ?_
              refine TW.region ?_
              refine TL.p Pu.mv ?_
              refine TL.p Pu.mv ?_
              refine TL.lit (t := 108) (b' := true) rfl (rfl) ?_
              refine TL.gd Pu.mv ?_
              refine TL.gd Pu.eq ?_
              refine TL.p Pu.kt ?_
              refine TL.p Pu.mv ?_
              refine TL.lit (t := 112) (b' := true) rfl ((by simp [z1])) ?_
              refine TL.gd Pu.mv ?_
              refine TL.gd (Pu.ln Tryz.underlying24) ?_
              refine TL.gd Pu.eq ?_
              refine TL.p Pu.kt ?_
              refine TL.p Pu.mv ?_
              refine TL.lit (t := 117) (b' := true) rfl ((by simp [z2])) ?_
              refine TL.gd Pu.mv ?_
              refine TL.gd Pu.ne ?_
              refine TL.p Pu.kt ?_
              refine TL.p Pu.as ?_
              refine TL.nil ?_
              refine TQ.thenN (hY29 _ _ ?_)
              refine TW.ret ?_
              refine TQ.thenR ?_
              refine TQ.ret Tryz.results5 rfl ((.tmp rfl .nil)) ?_
              refine fun w hw => ⟨?_, Chg.ext hw.chg⟩
              refine congrArg (fun b => Ending.returned (Value.bool b)) ?_
              first
                | rfl
                | (simp [z3]; done)
                | exact decide_eq_true hlt
                | (simp; omega)
            · try simp only [decide_eq_true_eq, decide_eq_false_iff_not, Bool.not_eq_true', Bool.not_eq_false', Bool.and_eq_true, Bool.or_eq_true, Bool.and_eq_false_iff, Bool.or_eq_false_iff, Int.not_lt, Int.not_le] at hc5
              obtain ⟨y1, y2, y3, y4⟩ : Asc M ∧ (∀ x ∈ M, x ∈ S) ∧ mvB pk l v b M = true ∧ ∀ T, Asc T → (∀ x ∈ T, x ∈ S) → mvB pk l v b T = true → M.length < T.length ∨ M.length = T.length ∧ ¬ cmpI T M < 0 := by
                rcases hcases with ⟨h1, h2, h3⟩ | ⟨_, h2, h3, _, h4, h5⟩
                · exfalso; omega
                · exact ⟨h2, h3, h4, h5⟩
              refine TW.skip ?_
              refine TQ.thenN (hY27 _ _ ?_)
              refine TW.seq fun Y30 hY30 => ?_
              refine TW.seq fun Y31 hY31 => ?_
              refine TW.region ?_
              refine TL.p Pu.mv ?_
              refine TL.p (Pu.ln Tryz.underlying24) ?_
              refine TL.p Pu.mv ?_
              refine TL.nil ?_
              refine TQ.thenN (hY31 _ _ ?_)
              refine TW.block ?_
              refine TW.loop1 (fun (k : Nat) => [(123, .int .i64 (k : Int)), (122, .int .i64 (M.length : Int)), (121, .slice As M.length cs), (13, .slice B t cb), (12, .slice A6 n c6), (10, .slice As M.length cs), (9, .bool true), (0, .slice A np cp), (5, .pointer (some ⟨b1, 0, none⟩)), (2, .int .i64 b), (17, .int .u8 e)]) (fun k => [.own B t cb 3 1 (iL T), .own A6 n c6 3 1 (iL S), .own As M.length cs 3 1 (iL M), .blk b1 36 [.slice (a 0) (l 0) (c 0), .slice (a 1) (l 1) (c 1), .slice (a 2) (l 2) (c 2)]]) (fun k => k ≤ M.length) (fun k => M.length - k) 0 (by repeat (first | exact trivial | refine ⟨rfl, ?_⟩ | refine ⟨trivial, ?_⟩)) ?_ ?_ ?_
              · exact (by repeat (first | exact KSub.nil | refine KSub.cons (by repeat (first | exact Pick.hd | apply Pick.tl)) ?_))
              · exact Nat.zero_le _
              rintro k hkM Z2 hZ2
              refine TW.seq fun Y32 hY32 => ?_
              refine TW.region ?_
              refine TL.p Pu.lt ?_
              refine TL.nil ?_
              refine TQ.thenN (hY32 _ _ ?_)
              refine TW.seq fun Y33 hY33 => ?_
              refine TW.cond rfl (fun hc6 => ?_) (fun hc6 => ?_)
              · try simp only [decide_eq_true_eq, decide_eq_false_iff_not, Bool.not_eq_true', Bool.not_eq_false', Bool.and_eq_true, Bool.or_eq_true, Bool.and_eq_false_iff, Bool.or_eq_false_iff, Int.not_lt, Int.not_le] at hc6
                have hkM' : k < M.length := by omega
                have hasc : 0 < k → M.getD (k - 1) 0 < M.getD k 0 := fun h => asc_getD y1 (by omega) hkM'
                have hmem : M.getD k 0 ∈ S := y2 _ (mem_getD hkM')
                refine TW.skip ?_
                refine TQ.thenN (hY33 _ _ ?_)
                refine TW.seq fun Y34 hY34 => ?_
                refine TW.block ?_
                refine TW.seq fun Y35 hY35 => ?_
                refine TW.region ?_
                refine TL.p Pu.mv ?_
                refine TL.p (Pu.el ty_et24) ?_
                refine TL.p (Pu.ld ty_sc3) ?_
                refine TL.p Pu.as ?_
                refine TL.p Pu.as ?_
                refine TL.nil ?_
                refine TQ.thenN (hY35 _ _ ?_)
                refine TW.seq fun Y36 hY36 => ?_
                refine TW.region ?_
                refine TL.p Pu.as ?_
                refine TL.nil ?_
                refine TQ.thenN (hY36 _ _ ?_)
                refine TW.seq fun Y37 hY37 => ?_
                refine TW.seq fun Y38 hY38 => ?_
                refine TW.region ?_
                refine TL.p Pu.mv ?_
                refine TL.p (Pu.ln Tryz.underlying24) ?_
                refine TL.p Pu.mv ?_
                refine TL.nil ?_
                refine TQ.thenN (hY38 _ _ ?_)
                refine TW.block ?_
                refine TW.loop1 (fun (q : Nat) => [(130, .int .i64 (q : Int)), (129, .int .i64 (n : Int)), (128, .slice A6 n c6), (21, .bool (anyB q fun j => decide (S.getD j 0 = M.getD k 0))), (19, .int .i64 (k : Int)), (20, .int .i64 (M.getD k 0)), (123, .int .i64 (k : Int)), (122, .int .i64 (M.length : Int)), (121, .slice As M.length cs), (13, .slice B t cb), (12, .slice A6 n c6), (10, .slice As M.length cs), (9, .bool true), (0, .slice A np cp), (5, .pointer (some ⟨b1, 0, none⟩)), (2, .int .i64 b), (17, .int .u8 e)]) (fun q => [.own B t cb 3 1 (iL T), .own A6 n c6 3 1 (iL S), .own As M.length cs 3 1 (iL M), .blk b1 36 [.slice (a 0) (l 0) (c 0), .slice (a 1) (l 1) (c 1), .slice (a 2) (l 2) (c 2)]]) (fun q => q ≤ n) (fun q => n - q) 0 (by repeat (first | exact trivial | refine ⟨rfl, ?_⟩ | refine ⟨trivial, ?_⟩)) ?_ ?_ ?_
                · exact (by repeat (first | exact KSub.nil | refine KSub.cons (by repeat (first | exact Pick.hd | apply Pick.tl)) ?_))
                · exact Nat.zero_le _
                rintro q hq Z3 hZ3
                refine TW.seq fun Y39 hY39 => ?_
                refine TW.region ?_
                refine TL.p Pu.lt ?_
                refine TL.nil ?_
                refine TQ.thenN (hY39 _ _ ?_)
                refine TW.seq fun Y40 hY40 => ?_
                refine TW.cond rfl (fun hc7 => ?_) (fun hc7 => ?_)
                · try simp only [decide_eq_true_eq, decide_eq_false_iff_not, Bool.not_eq_true', Bool.not_eq_false', Bool.and_eq_true, Bool.or_eq_true, Bool.and_eq_false_iff, Bool.or_eq_false_iff, Int.not_lt, Int.not_le] at hc7
                  have hqn : q < n := by omega
                  refine TW.skip ?_
                  refine TQ.thenN (hY40 _ _ ?_)
                  refine TW.seq fun Y41 hY41 => ?_
                  refine TW.block ?_
                  refine TW.seq fun Y42 hY42 => ?_
                  refine TW.region ?_
                  refine TL.p (Pu.el ty_et24) ?_
                  refine TL.p (Pu.ld ty_sc3) ?_
                  refine TL.p Pu.as ?_
                  refine TL.nil ?_
                  refine TQ.thenN (hY42 _ _ ?_)
                  refine TW.join [(21, .bool (anyB (q + 1) fun j => decide (S.getD j 0 = M.getD k 0)))] ?_ (fun hJ2 => ?_)
                  · refine TQ.blkN ?_
                    refine TQ.thenN (hY41 _ _ ?_)
                    refine TW.region ?_
                    refine TL.p Pu.ad ?_
                    refine TL.p Pu.mv ?_
                    refine TL.nil ?_
                    refine TQ.thenN (hZ3 (q + 1) _ _ ?_ ?_ (by repeat (first | exact trivial | refine ⟨rfl, ?_⟩ | refine ⟨trivial, ?_⟩)) ?_)
                    · exact (by omega)
                    · exact (by first | omega | (simp only []; omega) | (simp; omega))
                    · exact (by repeat (first | exact KSub.nil | refine KSub.cons (by repeat (first | exact Pick.hd | apply Pick.tl)) ?_))
                  refine TW.region ?_
                  refine TL.p Pu.mv ?_
                  refine TL.p Pu.mv ?_
                  refine TL.guard (t := 135) rfl (fun hg6 => ?_) (fun hg6 => ?_)
                  · try simp only [decide_eq_true_eq, decide_eq_false_iff_not, Bool.not_eq_true', Bool.not_eq_false', Int.natCast_pos] at hg6
                    refine TL.gs ?_
                    refine TL.gs ?_
                    refine TL.gs ?_
                    refine TL.p Pu.kt ?_
                    refine TL.p Pu.as ?_
                    refine TL.nil ?_
                    exact TQ.sub (by repeat (first | exact trivial | refine ⟨rfl, ?_⟩ | refine ⟨trivial, ?_⟩ | refine ⟨(by show some (Value.bool _) = some (Value.bool _); simp [hg6, anyB_succ, -List.getD_eq_getElem?_getD]), ?_⟩)) (by repeat (first | exact KSub.nil | refine KSub.cons (by repeat (first | exact Pick.hd | apply Pick.tl)) ?_)) hJ2
                  · try simp only [decide_eq_true_eq, decide_eq_false_iff_not, Bool.not_eq_true', Bool.not_eq_false', Int.natCast_pos] at hg6
                    refine TL.gd Pu.mv ?_
                    refine TL.gd Pu.mv ?_
                    refine TL.gd Pu.eq ?_
                    refine TL.p Pu.kf ?_
                    refine TL.p Pu.as ?_
                    refine TL.nil ?_
                    exact TQ.sub (by repeat (first | exact trivial | refine ⟨rfl, ?_⟩ | refine ⟨trivial, ?_⟩ | refine ⟨(by show some (Value.bool _) = some (Value.bool _); simp [hg6, anyB_succ, -List.getD_eq_getElem?_getD]), ?_⟩)) (by repeat (first | exact KSub.nil | refine KSub.cons (by repeat (first | exact Pick.hd | apply Pick.tl)) ?_)) hJ2
                · try simp only [decide_eq_true_eq, decide_eq_false_iff_not, Bool.not_eq_true', Bool.not_eq_false', Bool.and_eq_true, Bool.or_eq_true, Bool.and_eq_false_iff, Bool.or_eq_false_iff, Int.not_lt, Int.not_le] at hc7
                  obtain rfl : q = n := by omega
                  have hfound : anyB q (fun j => decide (S.getD j 0 = M.getD k 0)) = true := by
                    obtain ⟨j, hj, ej⟩ := List.getElem_of_mem hmem
                    exact anyB_iff.2 ⟨j, by omega, by rw [← ej]; simp [List.getD_eq_getElem?_getD, hj]⟩
                  refine TW.exit ?_
                  refine TQ.thenX ?_
                  refine TQ.thenX ?_
                  refine TQ.blkX ?_
                  refine TQ.thenN (hY37 _ _ ?_)
                  refine TW.seq fun Y43 hY43 => ?_
                  refine TW.region ?_
                  refine TL.p Pu.mv ?_
                  refine TL.lit (t := 141) (b' := true) rfl (hfound) ?_
                  refine TL.p Pu.no ?_
                  refine TL.p Pu.mv ?_
                  refine TL.gd Pu.mv ?_
                  refine TL.gd Pu.gt ?_
                  refine TL.gd Pu.mv ?_
                  refine TL.guard (t := 146) rfl (fun hg7 => ?_) (fun hg7 => ?_)
                  · try simp only [decide_eq_true_eq, decide_eq_false_iff_not, Bool.not_eq_true', Bool.not_eq_false', Int.natCast_pos] at hg7
                    refine TL.gd Pu.mv ?_
                    refine TL.gd Pu.mv ?_
                    refine TL.gd Pu.mv ?_
                    refine TL.gd Pu.sb ?_
                    refine TL.gd (Pu.el (q := k - 1) ty_et24 (hk := by omega)) ?_
                    refine TL.gd (Pu.ld ty_sc3) ?_
                    refine TL.gd Pu.le ?_
                    refine TL.lit (t := 153) (b' := false) rfl ((decide_eq_false (by have := hasc (by omega); omega))) ?_
                    refine TL.gd Pu.kt ?_
                    refine TL.p Pu.kf ?_
                    refine TL.nil ?_
                    refine TQ.thenN (hY43 _ _ ?_)
                    refine TW.condF rfl rfl ?_
                    refine TW.skip ?_
                    refine TQ.blkN ?_
                    refine TQ.thenN (hY34 _ _ ?_)
                    refine TW.region ?_
                    refine TL.p Pu.ad ?_
                    refine TL.p Pu.mv ?_
                    refine TL.nil ?_
                    refine TQ.thenN (hZ2 (k + 1) _ _ ?_ ?_ (by repeat (first | exact trivial | refine ⟨rfl, ?_⟩ | refine ⟨trivial, ?_⟩)) ?_)
                    · exact (by omega)
                    · exact (by first | omega | (simp only []; omega) | (simp; omega))
                    · exact (by repeat (first | exact KSub.nil | refine KSub.cons (by repeat (first | exact Pick.hd | apply Pick.tl)) ?_))
                  · try simp only [decide_eq_true_eq, decide_eq_false_iff_not, Bool.not_eq_true', Bool.not_eq_false', Int.natCast_pos] at hg7
                    refine TL.gs ?_
                    refine TL.gs ?_
                    refine TL.gs ?_
                    refine TL.gs ?_
                    refine TL.gs ?_
                    refine TL.gs ?_
                    refine TL.gs ?_
                    refine TL.gd Pu.kf ?_
                    refine TL.p Pu.kf ?_
                    refine TL.nil ?_
                    refine TQ.thenN (hY43 _ _ ?_)
                    refine TW.condF rfl rfl ?_
                    refine TW.skip ?_
                    refine TQ.blkN ?_
                    refine TQ.thenN (hY34 _ _ ?_)
                    refine TW.region ?_
                    refine TL.p Pu.ad ?_
                    refine TL.p Pu.mv ?_
                    refine TL.nil ?_
                    refine TQ.thenN (hZ2 (k + 1) _ _ ?_ ?_ (by repeat (first | exact trivial | refine ⟨rfl, ?_⟩ | refine ⟨trivial, ?_⟩)) ?_)
                    · exact (by omega)
                    · exact (by first | omega | (simp only []; omega) | (simp; omega))
                    · exact (by repeat (first | exact KSub.nil | refine KSub.cons (by repeat (first | exact Pick.hd | apply Pick.tl)) ?_))
              · try simp only [decide_eq_true_eq, decide_eq_false_iff_not, Bool.not_eq_true', Bool.not_eq_false', Bool.and_eq_true, Bool.or_eq_true, Bool.and_eq_false_iff, Bool.or_eq_false_iff, Int.not_lt, Int.not_le] at hc6
                refine TW.exit ?_
                refine TQ.thenX ?_
                refine TQ.thenX ?_
                refine TQ.blkX ?_
                refine TQ.thenN (hY30 _ _ ?_)
                refine TW.seq fun Y44 hY44 => ?_
                refine TW.seq fun Y45 hY45 => ?_
                refine TW.region ?_
                refine TL.p Pu.mv ?_
                refine TL.p (Pu.lds ty_ag36) ?_
                refine TL.p Pu.mv ?_
                refine TL.call (M := []) rfl (enters Tryz.func29 rfl rfl) (List.Perm.refl _) rfl (fun w hw => by
                    exact mov3_any (hL.sat hw) rfl (by omega) (OwnR.rdr (hw.holds (.own As M.length cs 3 1 (iL M)) (by simp)))) ?_
                rintro my
                refine TL.p Pu.mv ?_
                refine TL.cr rfl (enters Tryz.func28 rfl rfl) (fun w hw => by
                    have h9 := bal3_any (cp := cp) (hL.sat hw) hc hb (x := my) (M := M) fun φ hφ => hw.holds φ (List.mem_append_left _ hφ)
                    rw [(hbm M).2 y3] at h9
                    exact h9) ?_
                refine TL.p Pu.mv ?_
                refine TL.p Pu.ex ?_
                refine TL.p Pu.ex ?_
                refine TL.p Pu.as ?_
                refine TL.p Pu.as ?_
                refine TL.nil ?_
                refine TQ.thenN (hY45 _ _ ?_)
                refine TW.seq fun Y46 hY46 => ?_
                refine TW.region ?_
                refine TL.p Pu.mv ?_
                refine TL.p Pu.ne ?_
                refine TL.p Pu.mv ?_
                refine TL.lit (t := 168) (b' := false) rfl (rfl) ?_
                refine TL.gd Pu.mv ?_
                refine TL.gd Pu.ne ?_
                refine TL.p Pu.kf ?_
                refine TL.lit (t := 171) (b' := false) rfl (rfl) ?_
                refine TL.nil ?_
                refine TQ.thenN (hY46 _ _ ?_)
                refine TW.condF rfl rfl ?_
                refine TW.skip ?_
                refine TQ.thenN (hY44 _ _ ?_)
                refine TW.seq fun Y47 hY47 => ?_
                refine TW.seq fun Y48 hY48 => ?_
                refine TW.region ?_
                refine TL.p Pu.mv ?_
                refine TL.p Pu.ne ?_
                refine TL.p Pu.mv ?_
                refine TL.guard (t := 174) rfl (fun hg8 => ?_) (fun hg8 => ?_)
                · try simp only [decide_eq_true_eq, decide_eq_false_iff_not, Bool.not_eq_true', Bool.not_eq_false', Int.natCast_pos] at hg8
                  refine TL.gs ?_
                  refine TL.gs ?_
                  refine TL.gs ?_
                  refine TL.gs ?_
                  refine TL.gs ?_
                  refine TL.p Pu.kt ?_
                  refine TL.nil ?_
                  refine TQ.thenN (hY48 _ _ ?_)
                  refine TW.condT rfl rfl ?_
                  refine TW.seq fun Y49 hY49 => ?_
                  refine TW.region ?_
                  refine TL.p Pu.mv ?_
                  refine TL.p Pu.as ?_
                  refine TL.nil ?_
                  refine TQ.thenN (hY49 _ _ ?_)
                  refine TW.ret ?_
                  refine TQ.thenR ?_
                  refine TQ.ret Tryz.results5 rfl ((.tmp rfl .nil)) ?_
                  refine fun w hw => ⟨?_, Chg.ext hw.chg⟩
                  refine congrArg (fun b => Ending.returned (Value.bool b)) ?_
                  first
                    | rfl
                    | (simp [z3]; done)
                    | exact decide_eq_true hlt
                    | (simp; omega)
                · try simp only [decide_eq_true_eq, decide_eq_false_iff_not, Bool.not_eq_true', Bool.not_eq_false', Int.natCast_pos] at hg8
                  refine TL.gd Pu.mv ?_
                  refine TL.gd (Pu.ln Tryz.underlying24) ?_
                  refine TL.gd Pu.mv ?_
                  refine TL.gd (Pu.ln Tryz.underlying24) ?_
                  refine TL.gd Pu.gt ?_
                  refine TL.p Pu.kf ?_
                  refine TL.nil ?_
                  refine TQ.thenN (hY48 _ _ ?_)
                  refine TW.cond rfl (fun hc10 => ?_) (fun hc10 => ?_)
                  · try simp only [decide_eq_true_eq, decide_eq_false_iff_not, Bool.not_eq_true', Bool.not_eq_false', Bool.and_eq_true, Bool.or_eq_true, Bool.and_eq_false_iff, Bool.or_eq_false_iff, Int.not_lt, Int.not_le] at hc10
                    refine TW.seq fun Y50 hY50 => ?_
                    refine TW.region ?_
                    refine TL.p Pu.mv ?_
                    refine TL.p Pu.as ?_
                    refine TL.nil ?_
                    refine TQ.thenN (hY50 _ _ ?_)
                    refine TW.ret ?_
                    refine TQ.thenR ?_
                    refine TQ.ret Tryz.results5 rfl ((.tmp rfl .nil)) ?_
                    refine fun w hw => ⟨?_, Chg.ext hw.chg⟩
                    refine congrArg (fun b => Ending.returned (Value.bool b)) ?_
                    first
                      | rfl
                      | (simp [z3]; done)
                      | exact decide_eq_true hlt
                      | (simp; omega)
                  · try simp only [decide_eq_true_eq, decide_eq_false_iff_not, Bool.not_eq_true', Bool.not_eq_false', Bool.and_eq_true, Bool.or_eq_true, Bool.and_eq_false_iff, Bool.or_eq_false_iff, Int.not_lt, Int.not_le] at hc10
                    refine TW.skip ?_
                    refine TQ.thenN (hY47 _ _ ?_)
                    refine TW.seq fun Y51 hY51 => ?_
                    refine TW.seq fun Y52 hY52 => ?_
                    refine TW.region ?_
                    have he2 : e = 2 := by first | (simpa using hg9) | (simpa using hg8) | (simpa using hg10) | omega
                    obtain ⟨x1, x2⟩ : M.length = T.length ∧ ¬ cmpI T M < 0 := by
                      rcases y4 T hoth.1 hoth.2.1 (hbT.1 he2) with h | h
                      · omega
                      · exact h
                    refine TL.p Pu.mv ?_
                    refine TL.p (Pu.ln Tryz.underlying24) ?_
                    refine TL.p Pu.mv ?_
                    refine TL.p (Pu.ln Tryz.underlying24) ?_
                    refine TL.p Pu.lt ?_
                    refine TL.nil ?_
                    refine TQ.thenN (hY52 _ _ ?_)
                    refine TW.condF rfl ((by simp; omega)) ?_
                    refine TW.skip ?_
                    refine TQ.thenN (hY51 _ _ ?_)
                    refine TW.seq fun Y53 hY53 => ?_
                    refine TW.seq fun Y54 hY54 => ?_
                    refine TW.region ?_
                    refine TL.p Pu.mv ?_
                    refine TL.p (Pu.ln Tryz.underlying24) ?_
                    refine TL.p Pu.mv ?_
                    refine TL.nil ?_
                    refine TQ.thenN (hY54 _ _ ?_)
                    refine TW.block ?_
                    refine TW.loop1 (fun (k : Nat) => [(189, .int .i64 (k : Int)), (188, .int .i64 (M.length : Int)), (13, .slice B t cb), (10, .slice As M.length cs), (9, .bool true)]) (fun k => [.own B t cb 3 1 (iL T), .own As M.length cs 3 1 (iL M)]) (fun k => k ≤ M.length ∧ ∀ j, j < k → M.getD j 0 = T.getD j 0) (fun k => M.length - k) 0 (by repeat (first | exact trivial | refine ⟨rfl, ?_⟩ | refine ⟨trivial, ?_⟩)) ?_ ?_ ?_
                    · exact (by repeat (first | exact KSub.nil | refine KSub.cons (by repeat (first | exact Pick.hd | apply Pick.tl)) ?_))
                    · exact ⟨Nat.zero_le _, fun j hj => by omega⟩
                    rintro k ⟨hkM, hall⟩ Z4 hZ4
                    refine TW.seq fun Y55 hY55 => ?_
                    refine TW.region ?_
                    refine TL.p Pu.lt ?_
                    refine TL.nil ?_
                    refine TQ.thenN (hY55 _ _ ?_)
                    refine TW.seq fun Y56 hY56 => ?_
                    refine TW.cond rfl (fun hc12 => ?_) (fun hc12 => ?_)
                    · try simp only [decide_eq_true_eq, decide_eq_false_iff_not, Bool.not_eq_true', Bool.not_eq_false', Bool.and_eq_true, Bool.or_eq_true, Bool.and_eq_false_iff, Bool.or_eq_false_iff, Int.not_lt, Int.not_le] at hc12
                      have hkM' : k < M.length := by omega
                      refine TW.skip ?_
                      refine TQ.thenN (hY56 _ _ ?_)
                      refine TW.seq fun Y57 hY57 => ?_
                      refine TW.block ?_
                      refine TW.seq fun Y58 hY58 => ?_
                      refine TW.region ?_
                      refine TL.p Pu.mv ?_
                      refine TL.p Pu.as ?_
                      refine TL.nil ?_
                      refine TQ.thenN (hY58 _ _ ?_)
                      refine TW.seq fun Y59 hY59 => ?_
                      refine TW.dw 9 ?_
                      refine RK.tk Pu.mv ?_
                      refine RK.tk Pu.mv ?_
                      refine RK.tk (Pu.el ty_et24) ?_
                      refine RK.tk (Pu.ld ty_sc3) ?_
                      refine RK.tk Pu.mv ?_
                      refine RK.tk Pu.mv ?_
                      refine RK.tk (Pu.el ty_et24) ?_
                      refine RK.tk (Pu.ld ty_sc3) ?_
                      refine RK.tk Pu.ne ?_
                      refine RK.ch [] ?_ trivial
                      refine WK.n ?_
                      refine TL.nil ?_
                      refine TQ.thenN (hY59 _ _ ?_)
                      refine TW.cond rfl (fun hc13 => ?_) (fun hc13 => ?_)
                      · try simp only [decide_eq_true_eq, decide_eq_false_iff_not, Bool.not_eq_true', Bool.not_eq_false', Bool.and_eq_true, Bool.or_eq_true, Bool.and_eq_false_iff, Bool.or_eq_false_iff, Int.not_lt, Int.not_le] at hc13
                        have hlt := first_lt x1 hkM' hall hc13 x2
                        refine TW.seq fun Y60 hY60 => ?_
                        refine TW.dw 13 ?_
                        refine RK.tk Pu.mv ?_
                        refine RK.tk Pu.mv ?_
                        refine RK.tk Pu.mv ?_
                        refine RK.tk Pu.mv ?_
                        refine RK.tk (Pu.el ty_et24) ?_
                        refine RK.tk (Pu.ld ty_sc3) ?_
                        refine RK.tk Pu.mv ?_
                        refine RK.tk Pu.mv ?_
                        refine RK.tk (Pu.el ty_et24) ?_
                        refine RK.tk (Pu.ld ty_sc3) ?_
                        refine RK.tk Pu.lt ?_
                        refine RK.tk Pu.kt ?_
                        refine RK.tk Pu.as ?_
                        refine RK.ch [] ?_ trivial
                        refine WK.n ?_
                        refine TL.nil ?_
                        refine TQ.thenN (hY60 _ _ ?_)
                        refine TW.ret ?_
                        refine TQ.blkR ?_
                        refine TQ.thenR ?_
                        refine TQ.thenR ?_
                        refine TQ.blkR ?_
                        refine TQ.thenR ?_
                        refine TQ.ret Tryz.results5 rfl ((.tmp rfl .nil)) ?_
                        refine fun w hw => ⟨?_, Chg.ext hw.chg⟩
                        refine congrArg (fun b => Ending.returned (Value.bool b)) ?_
                        first
                          | rfl
                          | (simp [z3]; done)
                          | exact decide_eq_true hlt
                          | (simp; omega)
                      · try simp only [decide_eq_true_eq, decide_eq_false_iff_not, Bool.not_eq_true', Bool.not_eq_false', Bool.and_eq_true, Bool.or_eq_true, Bool.and_eq_false_iff, Bool.or_eq_false_iff, Int.not_lt, Int.not_le] at hc13
                        refine TW.skip ?_
                        refine TQ.blkN ?_
                        refine TQ.thenN (hY57 _ _ ?_)
                        refine TW.region ?_
                        refine TL.p Pu.ad ?_
                        refine TL.p Pu.mv ?_
                        refine TL.nil ?_
                        refine TQ.thenN (hZ4 (k + 1) _ _ ?_ ?_ (by repeat (first | exact trivial | refine ⟨rfl, ?_⟩ | refine ⟨trivial, ?_⟩)) ?_)
                        · refine ⟨by omega, fun j hj => ?_⟩
                          by_cases h : j = k
                          · subst h; exact hc13
                          · exact hall j (by omega)
                        · exact (by first | omega | (simp only []; omega) | (simp; omega))
                        · exact (by repeat (first | exact KSub.nil | refine KSub.cons (by repeat (first | exact Pick.hd | apply Pick.tl)) ?_))
                    · try simp only [decide_eq_true_eq, decide_eq_false_iff_not, Bool.not_eq_true', Bool.not_eq_false', Bool.and_eq_true, Bool.or_eq_true, Bool.and_eq_false_iff, Bool.or_eq_false_iff, Int.not_lt, Int.not_le] at hc12
                      refine TW.exit ?_
                      refine TQ.thenX ?_
                      refine TQ.thenX ?_
                      refine TQ.blkX ?_
                      refine TQ.thenN (hY53 _ _ ?_)
                      refine TW.seq fun Y61 hY61 => ?_
                      refine TW.region ?_
                      refine TL.p Pu.mv ?_
                      refine TL.p Pu.as ?_
                      refine TL.nil ?_
                      refine TQ.thenN (hY61 _ _ ?_)
                      refine TW.ret ?_
                      refine TQ.ret Tryz.results5 rfl ((.tmp rfl .nil)) ?_
                      refine fun w hw => ⟨?_, Chg.ext hw.chg⟩
                      refine congrArg (fun b => Ending.returned (Value.bool b)) ?_
                      first
                        | rfl
                        | (simp [z3]; done)
                        | exact decide_eq_true hlt
                        | (simp; omega)
end Go.Proofs.YtjephihlkjpohaaGreatDoor
namespace Go.Proofs.YtjephihlkjpohaaGreatDoor
set_option linter.all false
set_option linter.unusedVariables false
set_option linter.unusedSimpArgs false
open Go.ChangeShapes Go.WideShapes Go.RowKit Go.Deep
section
variable {H : Type} {enc : TypeId × Value → H} {P : Program} {w : World} {base : Nat} {spare : Nat → Bool} {held : Bool}
def kindsL (P : Program) (g : TypeId → Option (List IntKind)) : List Field → Nat → Option (List IntKind)
  | [], _ => some []
  | f :: fs, off => match g f.type with
    | some a => if f.offset = off ∧ a.length = P.cellsOf f.type then match kindsL P g fs (off + a.length) with
      | some b => some (a ++ b)
      | none => none
      else none
    | none => none
def kindsF (P : Program) : Nat → TypeId → Option (List IntKind)
  | 0, _ => none
  | d + 1, t => match P.underlying t with
    | some (.int k) => some [k]
    | some (.struct fs) => match kindsL P (kindsF P d) fs.toList 0 with
      | some a => if a.length = P.cellsOf t then some a else none
      | none => none
    | _ => none
def ints (ks : List IntKind) (ns : List Int) : List Value := List.zipWith Value.int ks ns
theorem ints_append {a b : List IntKind} {x y : List Int} (h : x.length = a.length) : ints (a ++ b) (x ++ y) = ints a x ++ ints b y := by
  unfold ints; rw [List.zipWith_append h.symm]
theorem ints_length {a : List IntKind} {x : List Int} (h : x.length = a.length) : (ints a x).length = a.length := by simp [ints, h]
theorem kindsL_spec {g : TypeId → Option (List IntKind)} (hg : ∀ t ks, g t = some ks → ∀ fuel cs x, DataW.trod enc P w base spare held fuel t cs = some x → ∃ ns : List Int, cs = ints ks ns ∧ ns.length = ks.length) :
    ∀ (fs : List Field) (off : Nat) (ks : List IntKind) (cs : List Value), kindsL P g fs off = some ks → cs.length = off + ks.length →
      (∀ f ∈ fs, ∃ n x, DataW.trod enc P w base spare held n f.type ((cs.drop f.offset).take (P.cellsOf f.type)) = some x) → ∃ ns : List Int, cs.drop off = ints ks ns ∧ ns.length = ks.length
  | [], off, ks, cs, h, hl, _ => by cases h; exact ⟨[], by simp at hl; simp [ints, hl], rfl⟩
  | f :: fs, off, ks, cs, h, hl, hf => by
    simp only [kindsL] at h
    cases h1 : g f.type with
    | none => rw [h1] at h; cases h
    | some a =>
      rw [h1] at h
      simp only at h
      split at h
      · rename_i h2
        obtain ⟨h2, h3⟩ := h2
        cases h4 : kindsL P g fs (off + a.length) with
        | none => rw [h4] at h; cases h
        | some b =>
          rw [h4] at h
          cases h
          obtain ⟨n, x, hx⟩ := hf f (by simp)
          rw [h2, ← h3] at hx
          obtain ⟨ns, e1, e2⟩ := hg _ _ h1 _ _ _ hx
          obtain ⟨ms, e3, e4⟩ := kindsL_spec hg fs (off + a.length) b cs h4 (by rw [hl]; simp; omega) (fun f' hf' => hf f' (by simp [hf']))
          refine ⟨ns ++ ms, ?_, by simp [e2, e4]⟩
          rw [ints_append e2, ← e1, ← e3, ← List.drop_drop, List.take_append_drop]
      · cases h
theorem kindsF_spec : ∀ (d : Nat) (t : TypeId) (ks : List IntKind), kindsF P d t = some ks → ∀ fuel cs x, DataW.trod enc P w base spare held fuel t cs = some x → ∃ ns : List Int, cs = ints ks ns ∧ ns.length = ks.length
  | 0, _, _, h, _, _, _, _ => by cases h
  | d + 1, t, ks, h, fuel, cs, x, hx => by
    simp only [kindsF] at h
    cases hu : P.underlying t with
    | none => rw [hu] at h; cases h
    | some desc =>
      rw [hu] at h
      match desc, hu, h with
      | .int k, hu, h =>
        injection h with h
        subst h
        obtain ⟨n, rfl, _, _⟩ := DataW.trod_int hu hx
        exact ⟨[n], rfl, rfl⟩
      | .struct fs, hu, h =>
        simp only at h
        cases h1 : kindsL P (kindsF P d) fs.toList 0 with
        | none => rw [h1] at h; cases h
        | some a =>
          rw [h1] at h
          simp only at h
          split at h
          · rename_i h2
            cases h
            obtain ⟨xs, n, _, _, hlen, hxl, hf⟩ := DataW.trod_struct hu hx
            obtain ⟨ns, e1, e2⟩ := kindsL_spec (kindsF_spec d) fs.toList 0 _ cs h1 (by omega) (fun f hf' => by
              obtain ⟨i, hi, rfl⟩ := List.getElem_of_mem hf'
              have hi' : i < fs.size := by simpa using hi
              have := hf i fs[i] (by simp [hi'])
              rw [List.getElem?_eq_getElem (by omega)] at this
              exact ⟨n, _, this⟩)
            exact ⟨ns, by simpa using e1, e2⟩
          · cases h
theorem open_flat_slice {t e : TypeId} {fuel : Nat} {cs : List Value} {x : DataW H × List MemPlace} (d : Nat) {ks : List IntKind} (ht : P.underlying t = some (.slice e)) (hk : kindsF P d e = some ks) (hC : P.cellsOf e = ks.length) (h0 : Nat.blt 0 ks.length = true) (h : DataW.trod enc P w base spare held fuel t cs = some x) :
    ∃ (A : Option Addr) (len cap : Nat) (g : Nat → List Int), cs = [.slice A len cap] ∧ (∀ i, i < len → (g i).length = ks.length) ∧ RdR w ks.length A len (fun i => ints ks (g i)) ∧ (A = none → len = 0 ∧ cap = 0) ∧ len ≤ cap ∧ cap ≤ maxLen := by
  have h0 : 0 < ks.length := Nat.le_of_ble_eq_true h0
  rcases open_slice ht h with ⟨rfl, rfl⟩ | ⟨a, len, cap, m, n, D, Pl, rfl, hb, hl, hm, hmm, _, hi⟩
  · exact ⟨none, 0, 0, fun _ => [], rfl, fun i hi => by omega, ⟨Rd.nil, fun i hi => by omega⟩, fun _ => ⟨rfl, rfl⟩, Nat.le_refl _, Nat.zero_le _⟩
  · have hlm : len ≤ m := by rw [hmm]; split <;> omega
    have key : ∀ i, i < len → ∃ ns : List Int, ns.length = ks.length ∧ ∀ j, j < ks.length → w.cell? (a.add (i * ks.length + j)) = (ints ks ns)[j]? := fun i hil => by
      obtain ⟨cs', hc, hx⟩ := hi i (by omega)
      obtain ⟨_, hcl, hat⟩ := World.cells?_some hc
      obtain ⟨ns, rfl, e2⟩ := kindsF_spec d e ks hk _ _ _ hx
      refine ⟨ns, e2, fun j hj => ?_⟩
      have := hat j (by rw [hC]; exact hj)
      rw [hC] at this
      rw [← this, ← add_add]
    refine ⟨some a, len, cap, fun i => if hi : i < len then (key i hi).choose else [], rfl, fun i hi => ?_, ⟨fun hn => ?_, fun i hi => ?_⟩, fun h => (by cases h), hl, hm⟩
    · simp only [hi, dite_true]; exact (key i hi).choose_spec.1
    · have h1 := (key 0 hn).choose_spec.2 0 h0
      have hsome : (ints ks (key 0 hn).choose)[0]? = some ((ints ks (key 0 hn).choose)[0]'(by rw [ints_length (key 0 hn).choose_spec.1]; exact h0)) := List.getElem?_eq_getElem _
      rw [hsome] at h1
      have hadd : a.add (0 * ks.length + 0) = a := by simp [Addr.add]
      rw [hadd] at h1
      have hsp : a.spot = none := by
        unfold World.cell? at h1
        split at h1
        · cases hs : a.spot with
          | none => rfl
          | some s => simp [hs] at h1
        · cases h1
      have hlt : a.block < w.heap.size := World.block_lt_of_cell? w a h1
      obtain ⟨b, o, s⟩ := a
      simp only at hsp
      subst hsp
      refine ⟨b, o, rfl, hlt, fun i j hi hj => ?_⟩
      have h2 := (key i hi).choose_spec.2 j hj
      rw [add_plain] at h2
      rw [show o + i * ks.length + j = o + (i * ks.length + j) by omega, h2]
      simp only [rowF, hi, dite_true]
      have hl2 : j < (ints ks (key i hi).choose).length := by rw [ints_length (key i hi).choose_spec.1]; exact hj
      rw [List.getElem?_eq_getElem hl2]
      simp [List.getD_eq_getElem?_getD, List.getElem?_eq_getElem hl2]
    · simp only [hi, dite_true]
      exact ints_length (key i hi).choose_spec.1
theorem open_rows {r : Reach} {b0 : Nat} {t e : TypeId} {v : Value} {dd : DataW H} {p : List MemPlace} (d : Nat) (ks : List IntKind) (ht : P.underlying t = some (.slice e)) (hk : kindsF P d e = some ks) (hC : P.cellsOf e = ks.length) (h0 : Nat.blt 0 ks.length = true) (hv : Value.okWide P w r b0 t v) (h : DataW.Trod enc P w base spare held t v dd p) :
    ∃ (A : Option Addr) (len cap : Nat) (g : Nat → List Int), v = .slice A len cap ∧ (∀ i, i < len → (g i).length = ks.length) ∧ RdR w ks.length A len (fun i => ints ks (g i)) ∧ (A = none → len = 0 ∧ cap = 0) ∧ len ≤ cap ∧ cap ≤ maxLen := by
  obtain ⟨a, n, c, rfl⟩ := okWide_slice ht hv
  obtain ⟨fuel, h⟩ := h
  obtain ⟨A, len, cap, g, e, h1⟩ := open_flat_slice d ht hk hC h0 h
  simp only [Value.cells, List.cons.injEq, Value.slice.injEq, and_true] at e
  obtain ⟨rfl, rfl, rfl⟩ := e
  exact ⟨_, _, _, g, rfl, h1⟩
def gi (ns : List Int) (j : Nat) : Int := ns.getD j 0
def rowK : List IntKind → (Nat → Int) → List Value
  | [], _ => []
  | k :: ks, f => .int k (f 0) :: rowK ks fun j => f (j + 1)
theorem ints_rowK : ∀ (ks : List IntKind) (ns : List Int), ns.length = ks.length → ints ks ns = rowK ks (gi ns)
  | [], [], _ => rfl
  | k :: ks, n :: ns, h => by
    show Value.int k n :: ints ks ns = _
    rw [ints_rowK ks ns (by simpa using h)]
    rfl
theorem RdR.rowK {sz n : Nat} {A : Option Addr} {ks : List IntKind} {g : Nat → List Int} (h : RdR w sz A n (fun i => ints ks (g i))) (hl : ∀ i, i < n → (g i).length = ks.length) : RdR w sz A n (fun i => rowK ks (gi (g i))) :=
  ⟨h.rd.congr fun i j hi hj => by simp only [rowF, ints_rowK ks (g i) (hl i hi)], fun i hi => by rw [← ints_rowK ks (g i) (hl i hi)]; exact h.len i hi⟩
theorem trodAll_stays (hl : laidOutB P = true) {W W' : World} (hb : Below W.heap.size W W') {sp' : Nat → Bool} : ∀ {ts : List TypeId} {vs : List Value} {ds : List (DataW H)} {ps : List MemPlace}, ts.all (fun t => P.readableRec t && decide (t < P.types.size)) = true →
    DataW.TrodAll enc P W 0 (fun _ => true) true ts vs ds ps → (∀ p ∈ ps, p.block < W.heap.size) → (∀ p ∈ ps, sp' p.block = true) → DataW.TrodAll enc P W' 0 sp' true ts vs ds ps
  | [], [], [], ps, _, h, _, _ => h
  | t :: ts, v :: vs, d :: ds, ps, ht, h, hlt, hs => by
    simp only [List.all_cons, Bool.and_eq_true, decide_eq_true_eq] at ht
    obtain ⟨p, q, h1, h2, rfl⟩ := h
    exact ⟨p, q, WideElems.Trod_stays hl ht.1.1 ht.1.2 h1 (fun x hx => hb.same (hlt x (by simp [hx]))) (fun x hx => hs x (by simp [hx])), trodAll_stays hl hb ht.2 h2 (fun x hx => hlt x (by simp [hx])) (fun x hx => hs x (by simp [hx])), rfl⟩
theorem law_post {f : Func} {s : ChangeSpec} {apart fresh handsOn again : Bool} {W W' : World} {args : Array Value} {ds : List (DataW H)} {p : List MemPlace} {tb : TypeId} (hl : laidOutB P = true) (hvars : s.vars = [])
    (hW : DataW.Whole enc P f.params.toList s.vars apart W args.toList ds [] p) (hA : DataW.TrodAll enc P W 0 (fun _ => true) true f.params.toList args.toList ds p)
    (ht : f.params.toList.all (fun t => P.readableRec t && decide (t < P.types.size)) = true) (hrt : f.resultTypes = #[tb]) (htb : P.underlying tb = some .bool) (hfn : s.fn H ds = { results := [.lit (.bool true)], args := ds }) (hb : Below W.heap.size W W') :
    s.post enc P f apart fresh handsOn again W args (.bool true) W' := by
  have hlt : ∀ q ∈ p, q.block < W.heap.size := fun q hq => hW.lt q hq
  have hold : ∀ q ∈ p, (fun b => decide (b < W.heap.size)) q.block = true := fun q hq => by simpa using hW.lt q hq
  have hres : ∀ (b : Nat) (sp : Nat → Bool) (hd : Bool), DataW.TrodAll enc P W' b sp hd f.resultTypes.toList ((Value.bool true).resultList f.resultTypes.size) (s.fn H (ds ++ [])).results [] := fun b sp hd => by
    rw [List.append_nil, hfn, hrt]
    exact ⟨[], [], shut_bool htb true, rfl, rfl⟩
  have hargs : ∀ sp : Nat → Bool, (∀ q ∈ p, sp q.block = true) → DataW.TrodAll enc P W' 0 sp true f.params.toList args.toList (s.fn H (ds ++ [])).args p := fun sp hs => by
    rw [List.append_nil, hfn]
    exact trodAll_stays hl hb ht hA (fun q hq => hW.lt q hq) hs
  have hv : ∀ sp : Nat → Bool, DataW.TrodVars enc P W' sp s.vars (s.fn H (ds ++ [])).vars [] := fun sp => by
    rw [List.append_nil, hfn, hvars]; exact rfl
  have hok : ∀ (j : Nat) (t : TypeId) (r : Value), f.resultTypes[j]? = some t → ((Value.bool true).resultList f.resultTypes.size)[j]? = some r → Value.okWide P W' .any 0 t r := ok_one (by rw [hrt]) rfl (okWide_bool_mk htb true)
  refine ⟨ds, [], p, [], p, [], hW, hres _ _ _, hargs _ hold, hv _, World.keptBut_mono (fun q hq => ⟨hq, by simpa using hq⟩) (hb.frame (· ∈ p)), fun _ => ?_⟩
  obtain ⟨_, _, _, _, _, hz, hn⟩ := hW
  refine ⟨hok, _, _, ([] ++ p) ++ [], ⟨[] ++ p, [], trodAll_append (hargs _ (fun _ _ => rfl)) (hres _ _ _), hv _, rfl, ?_, ?_⟩, ?_⟩
  · intro b off hp
    have hin : MemPlace.cell b off ∈ p := by simpa using hp
    rw [hb.frozen (hlt _ hin)]
    exact hz b off hin
  · intro ha
    have := hn ha
    simpa using this
  · intro q hq _
    simpa using hq
end
end Go.Proofs.YtjephihlkjpohaaGreatDoor
namespace Go.Proofs.YtjephihlkjpohaaGreatDoor
set_option linter.all false
set_option linter.unusedVariables false
set_option linter.unusedSimpArgs false
open Go.ChangeShapes Go.WideShapes Go.RowKit Go.Deep
section
variable {H : Type} {enc : TypeId × Value → H} {P : Program} {w : World} {base : Nat} {spare : Nat → Bool} {held : Bool}
theorem trod_fields {t : TypeId} {fs : Array Field} {fuel : Nat} {cs : List Value} {x : DataW H × List MemPlace} (ht : P.underlying t = some (.struct fs)) (h : DataW.trod enc P w base spare held fuel t cs = some x) :
    cs.length = P.cellsOf t ∧ ∀ (i : Nat) (f : Field), fs[i]? = some f → ∃ n y, DataW.trod enc P w base spare held n f.type ((cs.drop f.offset).take (P.cellsOf f.type)) = some y := by
  obtain ⟨xs, n, _, _, hlen, hxl, hf⟩ := DataW.trod_struct ht h
  refine ⟨hlen, fun i f hi => ?_⟩
  have h1 := hf i f hi
  have hi' : i < fs.size := (Array.getElem?_eq_some_iff.1 hi).1
  rw [List.getElem?_eq_getElem (by omega)] at h1
  exact ⟨n, _, h1⟩
theorem open_ints_in {t e : TypeId} {k : IntKind} {fuel : Nat} {cs : List Value} {x : DataW H × List MemPlace} (ht : P.underlying t = some (.slice e)) (he : P.underlying e = some (.int k)) (hC : P.cellsOf e = 1) (h : DataW.trod enc P w base spare held fuel t cs = some x) :
    ∃ (A : Option Addr) (len cap : Nat) (v : Nat → Int), cs = [.slice A len cap] ∧ RdR w 1 A len (fun q => [.int k (v q)]) ∧ (A = none → len = 0 ∧ cap = 0) ∧ len ≤ cap ∧ cap ≤ maxLen := by
  obtain ⟨A, len, cap, g, rfl, hg, hR, h1, h2, h3⟩ := open_flat_slice (ks := [k]) 1 ht (by simp only [kindsF, he]) hC rfl h
  refine ⟨A, len, cap, fun q => gi (g q) 0, rfl, ⟨hR.rd.congr fun i j hi hj => ?_, fun i hi => rfl⟩, h1, h2, h3⟩
  show (ints [k] (g i)).getD j undef = _
  rw [ints_rowK [k] (g i) (hg i hi)]
  rfl
end
end Go.Proofs.YtjephihlkjpohaaGreatDoor
