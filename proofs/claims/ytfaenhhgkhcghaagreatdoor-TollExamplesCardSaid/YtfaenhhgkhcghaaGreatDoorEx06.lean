/-
  Part 6 of the proof of tollExamples_holds: declarations of several texts, in build order. No condition on a program.
-/
import Derived.Test.YtfaenhhgkhcghaaGreatDoorEx05
import Derived.Test.YtfaenhhgkhcghaaGreatDoorEx03
namespace Go.Proofs.YtfaenhhgkhcghaaGreatDoor
set_option linter.all false
set_option linter.unusedVariables false
set_option linter.unusedSimpArgs false
open Go.RowKit
def disB (x y : (Nat → Int) × Bool) : Bool := decide (x.1 0 = y.1 0) && !decide (x.1 1 = y.1 1) && decide (x.1 2 ≤ y.1 3) && decide (y.1 2 ≤ x.1 3)
def innP (c : Nat → (Nat → Int) × Bool) (i : Nat) : Nat → List (Int × Int)
 | 0 => []
 | q + 1 => if disB (c i) (c (i + 1 + q)) = true then innP c i q ++ [((i : Int), (i : Int) + 1 + q)] else innP c i q
def outP (c : Nat → (Nat → Int) × Bool) (n : Nat) : Nat → List (Int × Int)
 | 0 => []
 | i + 1 => outP c n i ++ innP c i (n - (i + 1))
theorem innP_len {c : Nat → (Nat → Int) × Bool} {i : Nat} : ∀ q, (innP c i q).length ≤ q
 | 0 => Nat.le_refl _
 | q + 1 => by
  have := innP_len (c := c) (i := i) q
  simp only [innP]
  split
  · simp; omega
  · omega
theorem outP_len {c : Nat → (Nat → Int) × Bool} {n : Nat} : ∀ i, (outP c n i).length ≤ i * n
 | 0 => Nat.zero_le _
 | i + 1 => by
  have h1 := outP_len (c := c) (n := n) i
  have h2 := innP_len (c := c) (i := i) (n - (i + 1))
  simp only [outP, List.length_append, Nat.add_mul]
  omega
theorem pairs_bd {c : Nat → (Nat → Int) × Bool} {n i q : Nat} (hn : n ≤ 1000) (hi : i ≤ n) (hq : q ≤ n) : (outP c n i ++ innP c i q).length ≤ 1001000 := by
 have h1 := outP_len (c := c) (n := n) i
 have h2 := innP_len (c := c) (i := i) q
 have h3 : i * n ≤ 1000 * 1000 := Nat.mul_le_mul (by omega) hn
 rw [List.length_append]
 omega
def rowsP (L : List (Int × Int)) : Nat → List Value := fun k => prL (L.getD k (0, 0))
theorem rowsP_app {L L' : List (Int × Int)} {m : Nat} {p : Int × Int} {s : Nat → List Value} (hm : m = L.length) (hL : L' = L ++ [p]) (hs : s 0 = prL p) : ∀ i, i < m + 1 → catR m (rowsP L) s i = rowsP L' i := fun i hi => by
  subst hL
  simp only [catR, rowsP]
  by_cases h : i < m
  · rw [if_pos h, List.getD_eq_getElem?_getD, List.getD_eq_getElem?_getD, List.getElem?_append_left (by omega)]
  · obtain rfl : i = m := by omega
    rw [if_neg h, Nat.sub_self, hs, List.getD_eq_getElem?_getD, List.getElem?_append_right (by omega), hm, Nat.sub_self]
    rfl
def disL (e : Int) (nc : Nat) (c : Nat → (Nat → Int) × Bool) : List (Int × Int) := if e = 0 then outP c nc nc else []
theorem dis_bad {w w' : World} {K : List Fact} {e : Int} {nc : Nat} {c : Nat → (Nat → Int) × Bool} (he : e ≠ 0) (hw : Sat [] w K w') :
   ∃ x : Option Addr × Nat, Ending.returned (retV [.slice none 0 0, .int .i64 e]) = .returned (.tuple #[.slice x.1 (disL e nc c).length x.2, .int .i64 e]) ∧ Sat [] w [.own x.1 (disL e nc c).length x.2 100 2 (rowsP (disL e nc c))] w' := by
 refine ⟨(none, 0), ?_, ?_⟩
 · unfold disL
   rw [if_neg he]
   rfl
 · unfold disL
   rw [if_neg he]
   exact hw.sub (KSub.nilOwn KSub.nil)
section
variable {W A C D B : Option Addr} {nw cw nl cl nc cc nd cd nb cb : Nat} {f : Nat → Nat → Int} {x : Nat → Leg} {g : Nat → Nat → Nat → Int} {c : Nat → (Nat → Int) × Bool} {d b : Nat → Nat → Int} {w : World}
set_option maxRecDepth 100000 in
set_option maxHeartbeats 1000000 in
theorem tollDisputes_any (h : LandIn w W nw A nl f x g) (k : CustIn w C nc D nd B nb c d b) (hcc : nc ≤ cc) :
  CallsK Tryz.prog 21 #[.agg (landL W nw cw A nl cl).toArray, .agg (custL C nc cc D nd cd B nb cb).toArray] [] w (Option Addr × Nat) (fun a => .tuple #[.slice a.1 (disL (checkC nw nl f x g nc nd nb c d b) nc c).length a.2, .int .i64 (checkC nw nl f x g nc nd nb c d b)]) (fun a => [.own a.1 (disL (checkC nw nl f x g nc nd nb c d b) nc c).length a.2 100 2 (rowsP (disL (checkC nw nl f x g nc nd nb c d b) nc c))]) := by
 have hRC := k.hC
 have hnc := k.hnc
 have hL (i q : Nat) (hi : i ≤ nc) (hq : q ≤ nc) := pairs_bd (c := c) hnc hi hq
 unfold landL custL
 refine K_enter (S := []) (K := []) Tryz.func21 rfl Tryz.ntmps21 rfl (Sat.start _) ?_
 refine TW.seq fun Y1 hY1 => TW.region ?_
 refine TL.m Mk.bx ?_
 intro b1
 refine TL.m Mk.bx ?_
 intro b2
 refine TL.p Pu.as ?_
 refine TL.p Pu.as ?_
 refine TL.nil (TQ.thenN (hY1 _ _ ?_))
 refine TW.seq fun Y2 hY2 => ?_
 refine TW.seq fun Y3 hY3 => TW.region ?_
 refine TL.p (Pu.lds ty_ag25) ?_
 refine TL.p (Pu.lds ty_ag30) ?_
 refine TL.cr rfl (enters Tryz.func23 rfl rfl) (fun w hw => by
   exact tollCheck_any (h.ext (Chg.ext hw.chg)) (k.ext (Chg.ext hw.chg))) ?_
 refine TL.p Pu.as ?_
 refine TL.nil (TQ.thenN (hY3 _ _ ?_))
 refine TW.seq fun Y4 hY4 => TW.region ?_
 refine TL.p Pu.mv ?_
 refine TL.p Pu.ne ?_
 refine TL.nil (TQ.thenN (hY4 _ _ ?_))
 refine TW.cond rfl (fun hc0 => ?_) (fun hc0 => ?_)
 try simp only [zcb9] at hc0
 have he : checkC nw nl f x g nc nd nb c d b ≠ 0 := by simpa using hc0
 refine TW.seq fun Y5 hY5 => TW.region ?_
 refine TL.p Pu.mv ?_
 refine TL.p Pu.as ?_
 refine TL.p Pu.as ?_
 refine TL.nil (TQ.thenN (hY5 _ _ ?_))
 refine TW.ret ?_
 refine TQ.thenR ?_
 refine TQ.ret Tryz.results21 rfl ((.tmp rfl (.tmp rfl .nil))) ?_
 exact fun w hw => dis_bad he hw
 try simp only [zcb9] at hc0
 have he : checkC nw nl f x g nc nd nb c d b = 0 := by simpa using hc0
 refine TW.skip ?_
 refine TQ.thenN (hY2 _ _ ?_)
 refine TW.seq fun Y6 hY6 => TW.region ?_
 refine TL.p Pu.as ?_
 refine TL.nil (TQ.thenN (hY6 _ _ ?_))
 refine TW.seq fun Y7 hY7 => ?_
 refine TW.seq fun Y8 hY8 => TW.region ?_
 refine TL.p (by first | exact Pu.fb ty_fa30_0 | exact Pu.fe ty_fa30_0) ?_
 refine TL.p (Pu.ld ty_sc26) ?_
 refine TL.p (Pu.ln Tryz.underlying26) ?_
 refine TL.p Pu.mv ?_
 refine TL.nil (TQ.thenN (hY8 _ _ ?_))
 refine TW.block ?_
 refine TW.loop5 (fun (i : Nat) (E : Option Addr) (cp : Nat) (L : List (Int × Int)) (m : Nat) => [(21, .int .i64 (i : Int)), (20, .int .i64 (nc : Int)), (19, .slice C nc cc), (7, .slice E m cp), (3, .pointer (some ⟨b2, 0, none⟩))]) (fun i E cp L m => [.own E m cp 100 2 (rowsP L), .blk b2 30 [.slice C nc cc, .slice D nd cd, .slice B nb cb]]) (fun i E cp L m => i ≤ nc ∧ L = outP c nc i ∧ m = L.length) (fun i E cp L m => nc - i) 0 none 0 [] 0 fs9 ?_ ?_ ?_
 exact KSub.nilOwn ks9
 exact ⟨Nat.zero_le _, rfl, rfl⟩
 rintro i E cp L m ⟨hi, hL1, hm1⟩ Z0 hZ0
 refine TW.seq fun Y9 hY9 => TW.region ?_
 refine TL.p Pu.lt ?_
 refine TL.nil (TQ.thenN (hY9 _ _ ?_))
 refine TW.seq fun Y10 hY10 => ?_
 refine TW.cond rfl (fun hc1 => ?_) (fun hc1 => ?_)
 try simp only [zcb9] at hc1
 have hin : i < nc := by omega
 have hT := hRC.tail hcc (by omega : i + 1 ≤ nc)
 refine TW.skip ?_
 refine TQ.thenN (hY10 _ _ ?_)
 refine TW.seq fun Y11 hY11 => ?_
 refine TW.block ?_
 refine TW.seq fun Y12 hY12 => TW.region ?_
 refine TL.p Pu.mv ?_
 refine TL.p (Pu.el ty_et26) ?_
 refine TL.p (Pu.lds ty_ag70) ?_
 refine TL.m (Mk.al ty_zr70) ?_
 intro b3
 refine TL.p Pu.as ?_
 first | refine TL.st ty_sz70 ?_ | refine TL.se ty_sz70 ?_
 refine TL.nil (TQ.thenN (hY12 _ _ ?_))
 refine TW.seq fun Y13 hY13 => TW.region ?_
 refine TL.p (by first | exact Pu.fb ty_fa30_0 | exact Pu.fe ty_fa30_0) ?_
 refine TL.p (Pu.ld ty_sc26) ?_
 refine TL.p Pu.mv ?_
 refine TL.p Pu.ad ?_
 refine TL.p (Pu.sf ty_et26) ?_
 refine TL.p (Pu.ln Tryz.underlying26) ?_
 refine TL.p Pu.mv ?_
 refine TL.nil (TQ.thenN (hY13 _ _ ?_))
 refine TW.block ?_
 refine TW.loop5 (fun (q : Nat) (E : Option Addr) (cp : Nat) (L : List (Int × Int)) (m : Nat) => [(32, .int .i64 (q : Int)), (31, .int .i64 ((nc - (i + 1) : Nat) : Int)), (30, .slice (slA C cc 7 (i + 1)) (nc - (i + 1)) (cc - (i + 1))), (9, .pointer (some ⟨b3, 0, none⟩)), (8, .int .i64 (i : Int)), (21, .int .i64 (i : Int)), (20, .int .i64 (nc : Int)), (19, .slice C nc cc), (7, .slice E m cp), (3, .pointer (some ⟨b2, 0, none⟩))]) (fun q E cp L m => [.own E m cp 100 2 (rowsP L), .blk b3 70 (claimL (c i)), .blk b2 30 [.slice C nc cc, .slice D nd cd, .slice B nb cb]]) (fun q E cp L m => q ≤ nc - (i + 1) ∧ L = outP c nc i ++ innP c i q ∧ m = L.length) (fun q E cp L m => nc - (i + 1) - q) 0 _ _ L m fs9 ?_ ?_ ?_
 exact ks9
 exact ⟨Nat.zero_le _, by rw [hL1]; simp [innP], hm1⟩
 rintro q E cp L m ⟨hq, hL2, hm2⟩ Z1 hZ1
 refine TW.seq fun Y14 hY14 => TW.region ?_
 refine TL.p Pu.lt ?_
 refine TL.nil (TQ.thenN (hY14 _ _ ?_))
 refine TW.seq fun Y15 hY15 => ?_
 refine TW.cond rfl (fun hc2 => ?_) (fun hc2 => ?_)
 try simp only [zcb9] at hc2
 have hqn : q < nc - (i + 1) := by omega
 have hmb : m ≤ 1001000 := by rw [hm2, hL2]; exact hL i q hi (by omega)
 refine TW.skip ?_
 refine TQ.thenN (hY15 _ _ ?_)
 refine TW.seq fun Y16 hY16 => ?_
 refine TW.block ?_
 refine TW.seq fun Y17 hY17 => TW.region ?_
 refine TL.p Pu.mv ?_
 refine TL.p (Pu.el ty_et26) ?_
 refine TL.p (Pu.lds ty_ag70) ?_
 refine TL.m (Mk.al ty_zr70) ?_
 intro b4
 refine TL.p Pu.as ?_
 first | refine TL.st ty_sz70 ?_ | refine TL.se ty_sz70 ?_
 refine TL.nil (TQ.thenN (hY17 _ _ ?_))
 refine TW.seq fun Y18 hY18 => ?_
 refine TW.join [(62, .bool (disB (c i) (c (i + 1 + q))))] ?_ (fun hJ1 => ?_)
 refine TQ.thenN (hY18 _ _ ?_)
 refine TW.cond rfl (fun hc3 => ?_) (fun hc3 => ?_)
 try simp only [zcb9] at hc3
 obtain ⟨L', hL'⟩ : ∃ y, y = L ++ [((i : Int), (i : Int) + 1 + q)] := ⟨_, rfl⟩
 have hstep : L' = outP c nc i ++ innP c i (q + 1) := by rw [hL', hL2]; simp only [innP]; rw [if_pos hc3, List.append_assoc]
 have hlen : m + 1 = L'.length := by rw [hL', List.length_append, ← hm2]; rfl
 refine TW.region ?_
 refine TL.p Pu.mv ?_
 refine TL.p Pu.mv ?_
 refine TL.p Pu.mv ?_
 refine TL.p Pu.ad ?_
 refine TL.p Pu.mv ?_
 refine TL.p Pu.ad ?_
 refine TL.p Pu.bd ?_
 refine TL.m Mk.bl ?_
 intro b5
 first | refine TL.a0 ty_et62 ?_ | refine TL.ap ty_et62 ?_
 intro A6 c6
 refine TL.p Pu.as ?_
 refine TL.nil ?_
 refine TQ.blkN ?_
 refine TQ.thenN (hY16 _ _ ?_)
 refine TW.region ?_
 refine TL.p Pu.ad ?_
 refine TL.p Pu.mv ?_
 refine TL.nil ?_
 refine TQ.thenN (hZ1 (q + 1) _ _ L' _ _ _ ?_ ?_ fs9 ?_)
 exact ⟨by omega, hstep, hlen⟩
 exact zom9
 first
  | exact KSub.own Pick.hd (rowsP_app hm2 hL' rfl) ks9
  | exact KSub.own pk9 (fun i _ => by rw [hL']) ks9
 try simp only [zcb9] at hc3
 obtain ⟨L', hL'⟩ : ∃ y, y = L := ⟨_, rfl⟩
 have hstep : L' = outP c nc i ++ innP c i (q + 1) := by rw [hL', hL2]; simp only [innP]; rw [if_neg (by simp [hc3])]
 have hlen : m = L'.length := by rw [hL', ← hm2]
 refine TW.skip ?_
 refine TQ.blkN ?_
 refine TQ.thenN (hY16 _ _ ?_)
 refine TW.region ?_
 refine TL.p Pu.ad ?_
 refine TL.p Pu.mv ?_
 refine TL.nil ?_
 refine TQ.thenN (hZ1 (q + 1) _ _ L' _ _ _ ?_ ?_ fs9 ?_)
 exact ⟨by omega, hstep, hlen⟩
 exact zom9
 first
  | exact KSub.own Pick.hd (rowsP_app hm2 hL' rfl) ks9
  | exact KSub.own pk9 (fun i _ => by rw [hL']) ks9
 refine TW.region ?_
 refine TL.p (by first | exact Pu.fb ty_fa70_0 | exact Pu.fe ty_fa70_0) ?_
 refine TL.p (Pu.ld ty_sc3) ?_
 refine TL.p (by first | exact Pu.fb ty_fa70_0 | exact Pu.fe ty_fa70_0) ?_
 refine TL.p (Pu.ld ty_sc3) ?_
 refine TL.p Pu.eq ?_
 refine TL.p Pu.mv ?_
 refine TL.guard (t := 42) rfl (fun hg1 => ?_) (fun hg1 => ?_)
 refine TL.gd (by first | exact Pu.fb ty_fa70_1 | exact Pu.fe ty_fa70_1) ?_
 refine TL.gd (Pu.ld ty_sc3) ?_
 refine TL.gd (by first | exact Pu.fb ty_fa70_1 | exact Pu.fe ty_fa70_1) ?_
 refine TL.gd (Pu.ld ty_sc3) ?_
 refine TL.gd Pu.ne ?_
 refine TL.p Pu.kt ?_
 refine TL.p Pu.mv ?_
 refine TL.guard (t := 49) rfl (fun hg2 => ?_) (fun hg2 => ?_)
 refine TL.gd (by first | exact Pu.fb ty_fa70_2 | exact Pu.fe ty_fa70_2) ?_
 refine TL.gd (Pu.ld ty_sc3) ?_
 refine TL.gd (by first | exact Pu.fb ty_fa70_3 | exact Pu.fe ty_fa70_3) ?_
 refine TL.gd (Pu.ld ty_sc3) ?_
 refine TL.gd Pu.le ?_
 refine TL.p Pu.kt ?_
 refine TL.p Pu.mv ?_
 refine TL.guard (t := 56) rfl (fun hg3 => ?_) (fun hg3 => ?_)
 refine TL.gd (by first | exact Pu.fb ty_fa70_2 | exact Pu.fe ty_fa70_2) ?_
 refine TL.gd (Pu.ld ty_sc3) ?_
 refine TL.gd (by first | exact Pu.fb ty_fa70_3 | exact Pu.fe ty_fa70_3) ?_
 refine TL.gd (Pu.ld ty_sc3) ?_
 refine TL.gd Pu.le ?_
 refine TL.p Pu.kt ?_
 refine TL.nil ?_
 exact TQ.sub (by repeat (first | exact trivial | refine ⟨rfl, ?_⟩ | refine ⟨trivial, ?_⟩ | refine ⟨(by show some (Value.bool _) = some (Value.bool _); first | (simp [hg1, hg2, hg3, disB]; done) | (refine congrArg (fun z => some (Value.bool z)) (Bool.eq_iff_iff.2 ?_); simp [hg1, hg2, hg3, disB]; omega)), ?_⟩)) ks9 hJ1
 refine TL.gs ?_
 refine TL.gs ?_
 refine TL.gs ?_
 refine TL.gs ?_
 refine TL.gs ?_
 refine TL.p Pu.kf ?_
 refine TL.nil ?_
 exact TQ.sub (by repeat (first | exact trivial | refine ⟨rfl, ?_⟩ | refine ⟨trivial, ?_⟩ | refine ⟨(by show some (Value.bool _) = some (Value.bool _); first | (simp [hg1, hg2, hg3, disB]; done) | (refine congrArg (fun z => some (Value.bool z)) (Bool.eq_iff_iff.2 ?_); simp [hg1, hg2, hg3, disB]; omega)), ?_⟩)) ks9 hJ1
 refine TL.gs ?_
 refine TL.gs ?_
 refine TL.gs ?_
 refine TL.gs ?_
 refine TL.gs ?_
 refine TL.p Pu.kf ?_
 refine TL.p Pu.mv ?_
 refine TL.gs ?_
 refine TL.gs ?_
 refine TL.gs ?_
 refine TL.gs ?_
 refine TL.gs ?_
 refine TL.p Pu.kf ?_
 refine TL.nil ?_
 exact TQ.sub (by repeat (first | exact trivial | refine ⟨rfl, ?_⟩ | refine ⟨trivial, ?_⟩ | refine ⟨(by show some (Value.bool _) = some (Value.bool _); first | (simp [hg1, hg2, disB]; done) | (refine congrArg (fun z => some (Value.bool z)) (Bool.eq_iff_iff.2 ?_); simp [hg1, hg2, disB]; omega)), ?_⟩)) ks9 hJ1
 refine TL.gs ?_
 refine TL.gs ?_
 refine TL.gs ?_
 refine TL.gs ?_
 refine TL.gs ?_
 refine TL.p Pu.kf ?_
 refine TL.p Pu.mv ?_
 refine TL.gs ?_
 refine TL.gs ?_
 refine TL.gs ?_
 refine TL.gs ?_
 refine TL.gs ?_
 refine TL.p Pu.kf ?_
 refine TL.p Pu.mv ?_
 refine TL.gs ?_
 refine TL.gs ?_
 refine TL.gs ?_
 refine TL.gs ?_
 refine TL.gs ?_
 refine TL.p Pu.kf ?_
 refine TL.nil ?_
 exact TQ.sub (by repeat (first | exact trivial | refine ⟨rfl, ?_⟩ | refine ⟨trivial, ?_⟩ | refine ⟨(by show some (Value.bool _) = some (Value.bool _); first | (simp [hg1, disB]; done) | (refine congrArg (fun z => some (Value.bool z)) (Bool.eq_iff_iff.2 ?_); simp [hg1, disB]; omega)), ?_⟩)) ks9 hJ1
 try simp only [zcb9] at hc2
 obtain rfl : q = nc - (i + 1) := by omega
 refine TW.exit ?_
 refine TQ.thenX ?_
 refine TQ.thenX ?_
 refine TQ.blkX ?_
 refine TQ.blkN ?_
 refine TQ.thenN (hY11 _ _ ?_)
 refine TW.region ?_
 refine TL.p Pu.ad ?_
 refine TL.p Pu.mv ?_
 refine TL.nil ?_
 refine TQ.thenN (hZ0 (i + 1) _ _ L m _ _ ?_ ?_ fs9 ?_)
 exact ⟨by omega, hL2, hm2⟩
 exact zom9
 exact ks9
 try simp only [zcb9] at hc1
 obtain rfl : i = nc := by omega
 refine TW.exit ?_
 refine TQ.thenX ?_
 refine TQ.thenX ?_
 refine TQ.blkX ?_
 refine TQ.thenN (hY7 _ _ ?_)
 refine TW.seq fun Y19 hY19 => TW.region ?_
 refine TL.p Pu.mv ?_
 refine TL.p Pu.as ?_
 refine TL.p Pu.as ?_
 refine TL.nil (TQ.thenN (hY19 _ _ ?_))
 refine TW.ret ?_
 refine TQ.ret Tryz.results21 rfl ((.tmp rfl (.tmp rfl .nil))) ?_
 exact fun w hw => ⟨(E, cp), by rw [hm1, hL1, he]; rfl, by
  have h9 := hw.sub (KSub.cons Pick.hd KSub.nil)
  rw [hm1, hL1] at h9
  rw [he]
  exact h9⟩
end
end Go.Proofs.YtfaenhhgkhcghaaGreatDoor
namespace Go.Proofs.YtfaenhhgkhcghaaGreatDoor
set_option linter.all false
set_option linter.unusedVariables false
set_option linter.unusedSimpArgs false
open Go.RowKit
def troopL (hd wo : Int) (O : Option Addr) (no co : Nat) (U : Option Addr) (nu cu : Nat) (V : Option Addr) (nv cv : Nat) : List Value := [.int .i64 hd, .int .i64 wo, .slice O no co, .slice U nu cu, .slice V nv cv]
end Go.Proofs.YtfaenhhgkhcghaaGreatDoor
namespace Go.Proofs.YtfaenhhgkhcghaaGreatDoor
set_option linter.all false
set_option linter.unusedVariables false
set_option linter.unusedSimpArgs false
open Go.RowKit
structure Cus where
 nc : Nat
 nd : Nat
 nb : Nat
 c : Nat → (Nat → Int) × Bool
 d : Nat → Nat → Int
 b : Nat → Nat → Int
structure Trp where
 hd : Int
 wo : Int
 no : Nat
 nu : Nat
 nv : Nat
 o : Nat → Int
 u : Nat → Int
 v : Nat → Int
structure TrpIn (w : World) (T : Trp) (O U V : Option Addr) : Prop where
 hno : T.no ≤ 1000
 hnu : T.nu ≤ 1000
 hnv : T.nv ≤ 1000
 hO : RdR w 1 O T.no (fun k => [.int .i64 (T.o k)])
 hU : RdR w 1 U T.nu (fun k => [.int .i64 (T.u k)])
 hV : RdR w 1 V T.nv (fun k => [.int .i64 (T.v k)])
theorem TrpIn.ext {w w' : World} {T : Trp} {O U V : Option Addr} (h : TrpIn w T O U V) (hb : Below w.heap.size w w') : TrpIn w' T O U V :=
 ⟨h.hno, h.hnu, h.hnv, h.hO.chg (Chg.of_ext hb) Apart.nil, h.hU.chg (Chg.of_ext hb) Apart.nil, h.hV.chg (Chg.of_ext hb) Apart.nil⟩
def trpOk (T : Trp) : Bool := inB5 1 1000 T.hd && inB5 0 1000000000000 T.wo && triOk T.o T.no && triOk T.u T.nu && triOk T.v T.nv
theorem iL_app2 {L L' : List Int} {m : Nat} {x y : Int} {s : Nat → List Value} (hm : m = L.length) (hL : L' = L ++ [x, y]) (h0 : s 0 = [.int .i64 x]) (h1 : s 1 = [.int .i64 y]) : ∀ i, i < m + 2 → catR m (iL L) s i = iL L' i := fun i hi => by
  subst hL
  simp only [catR, iL]
  rw [getD_app]
  by_cases h : i < m
  · rw [if_pos h, if_pos (by omega)]
  · rw [if_neg h, if_neg (by omega), ← hm]
    have : i - m = 0 ∨ i - m = 1 := by omega
    rcases this with e | e <;> rw [e]
    · rw [h0]; rfl
    · rw [h1]; rfl
end Go.Proofs.YtfaenhhgkhcghaaGreatDoor
namespace Go.Proofs.YtfaenhhgkhcghaaGreatDoor
set_option linter.all false
set_option linter.unusedVariables false
set_option linter.unusedSimpArgs false
open Go.RowKit
structure CusOk (Z : Cus) : Prop where
 nc : Z.nc ≤ 30
 nd : Z.nd ≤ 20
 nb : Z.nb ≤ 20
 c : ∀ k, k < Z.nc → 0 ≤ (Z.c k).1 1 ∧ (Z.c k).1 1 ≤ 7 ∧ 0 ≤ (Z.c k).1 2 ∧ (Z.c k).1 2 ≤ (Z.c k).1 3 ∧ (Z.c k).1 3 ≤ 100000 ∧ 0 ≤ (Z.c k).1 4 ∧ (Z.c k).1 4 ≤ 1000000 ∧ 0 ≤ (Z.c k).1 5 ∧ (Z.c k).1 5 ≤ 1000
 d : ∀ k, k < Z.nd → 0 ≤ Z.d k 0 ∧ Z.d k 0 ≤ 7 ∧ 0 ≤ Z.d k 1 ∧ Z.d k 1 ≤ 7 ∧ 0 ≤ Z.d k 2 ∧ Z.d k 2 ≤ Z.d k 3 ∧ Z.d k 3 ≤ 100000
 b : ∀ k, k < Z.nb → 0 ≤ Z.b k 1 ∧ Z.b k 1 ≤ Z.b k 2 ∧ Z.b k 2 ≤ 100000
theorem cusOk_of {nl : Nat} {Z : Cus} (h : custC nl Z.nc Z.nd Z.nb Z.c Z.d Z.b = 0) : CusOk Z := by
 unfold custC at h
 split at h
 · cases h
 · next h1 =>
   split at h
   · cases h
   · next h2 =>
     split at h
     · cases h
     · next h3 =>
       rw [Bool.not_eq_false, Bool.and_eq_true] at h1 h2 h3
       simp only [Bool.not_eq_true', decide_eq_false_iff_not] at h1 h2 h3
       refine ⟨by omega, by omega, by omega, fun k hk => ?_, fun k hk => ?_, fun k hk => ?_⟩
       · have := allB_iff.1 h1.1 k hk
         unfold claimOk dayOk inB5 at this
         simp only [Bool.and_eq_true, decide_eq_true_eq] at this
         omega
       · have := allB_iff.1 h2.1 k hk
         unfold feudOk dayOk inB5 at this
         simp only [Bool.and_eq_true, decide_eq_true_eq] at this
         omega
       · have := allB_iff.1 h3.1 k hk
         unfold borderOk dayOk inB5 at this
         simp only [Bool.and_eq_true, decide_eq_true_eq] at this
         omega
def rulZ (Z : Cus) (lo : Int) : List Int := rulL lo Z.nc Z.nd Z.nb Z.c Z.d Z.b
def tuD (Z : Cus) (lo hi : Int) : List Int := tuK lo hi (fun k => (rulZ Z lo).getD k 0) (rulZ Z lo).length
theorem rulZ_len {Z : Cus} {lo : Int} (h1 : Z.nc ≤ 1000) (h2 : Z.nd ≤ 1000) (h3 : Z.nb ≤ 1000) : (rulZ Z lo).length ≤ 6001 := by
 unfold rulZ
 rw [rul_len]
 omega
section
variable {Z : Cus} {C D B : Option Addr} {cc cd cb : Nat} {w : World}
def feuZ (Z : Cus) (a b day : Int) : Bool := exB Z.nd fun k => feuR a b day (Z.d k)
theorem ex_no {n : Nat} {p : Nat → Bool} (h : ∀ j, j < n → p j = false) : exB n p = false := by
 rw [Bool.eq_false_iff]
 intro hh
 obtain ⟨j, hj, e⟩ := exB_iff.1 hh
 rw [h j hj] at e
 cases e
theorem ex_yes {n k : Nat} {p : Nat → Bool} (hk : k < n) (e : p k = true) : exB n p = true := exB_iff.2 ⟨k, hk, e⟩
end
end Go.Proofs.YtfaenhhgkhcghaaGreatDoor
namespace Go.Proofs.YtfaenhhgkhcghaaGreatDoor
set_option linter.all false
set_option linter.unusedVariables false
set_option linter.unusedSimpArgs false
open Go.RowKit
def closZ (Z : Cus) (leg day : Int) : Bool := exB Z.nb fun k => decide (Z.b k 0 = leg) && inB5 (Z.b k 1) (Z.b k 2) day
def holZ (Z : Cus) (leg day : Int) : Int := hb leg day Z.c Z.nc
def hclZ (Z : Cus) (leg day : Int) : (Nat → Int) × Bool := Z.c (holZ Z leg day).toNat
def peoA (T : Trp) (i : Nat) : Int := if i < T.no then T.o i else T.u (i - T.no)
def hatZ (Z : Cus) (T : Trp) (leg day : Int) : Bool := decide (0 ≤ holZ Z leg day) && exB (T.no + T.nu) fun i => feuZ Z (peoA T i) ((hclZ Z leg day).1 1) day
def losZ (Z : Cus) (T : Trp) (leg day : Int) : Bool := decide (0 ≤ holZ Z leg day) && ((hclZ Z leg day).2 && !hasB T.u T.nu ((hclZ Z leg day).1 1))
def whyZ (Z : Cus) (T : Trp) (leg day : Int) : Int := whyV (closZ Z leg day) (hatZ Z T leg day) (losZ Z T leg day)
def whoZ (Z : Cus) (leg day : Int) : Int := if 0 ≤ holZ Z leg day then (hclZ Z leg day).1 1 else -1
def payZ (Z : Cus) (T : Trp) (leg day : Int) : Int :=
 if 0 ≤ holZ Z leg day then (if hasB T.v T.nv ((hclZ Z leg day).1 1) = true then 0 else (hclZ Z leg day).1 4 * T.hd + ((hclZ Z leg day).1 5 * T.wo + 999) / 1000) else 0
theorem hol_bd {Z : Cus} {leg day : Int} : -1 ≤ holZ Z leg day ∧ holZ Z leg day < Z.nc := hb_bd _
theorem ret_u8 {a b : Int} (h : a = b) : Ending.returned (.int .u8 a) = .returned (.int .u8 b) := by rw [h]
section
variable {Z : Cus} {T : Trp} {C D B O U V : Option Addr} {cc cd cb co cu cv : Nat} {w : World}
end
end Go.Proofs.YtfaenhhgkhcghaaGreatDoor
namespace Go.Proofs.YtfaenhhgkhcghaaGreatDoor
set_option linter.all false
set_option linter.unusedVariables false
set_option linter.unusedSimpArgs false
open Go.RowKit
def stopL (s : Nat → Int) : List Value := [.int .i64 (s 0), .int .i64 (s 1), .int .i64 (s 2), .int .i64 (s 3), .int .i64 (s 4), .int .i64 (s 5)]
structure StpIn (w : World) (n : Nat) (st : Nat → Nat → Int) (S : Option Addr) : Prop where
 hn : n ≤ 1000
 hR : RdR w 6 S n (fun k => stopL (st k))
 bd : ∀ k, k < n → 0 ≤ st k 2 ∧ st k 2 ≤ st k 3 ∧ st k 3 < st k 5 ∧ st k 5 ≤ 100001
theorem StpIn.ext {w w' : World} {n : Nat} {st : Nat → Nat → Int} {S : Option Addr} (h : StpIn w n st S) (hb : Below w.heap.size w w') : StpIn w' n st S := ⟨h.hn, h.hR.chg (Chg.of_ext hb) Apart.nil, h.bd⟩
def brF (f : Nat → Int) : Nat → Int × Int
 | 0 => (0, 0)
 | k + 1 => if 0 < (brF f k).1 then brF f k else if 0 < f k then (f k, (k : Int)) else (0, 0)
theorem brF_no {f : Nat → Int} : ∀ k, (∀ j, j < k → ¬ 0 < f j) → brF f k = (0, 0)
 | 0, _ => rfl
 | k + 1, h => by
  simp only [brF]
  rw [brF_no k fun j hj => h j (by omega), if_neg (by simp), if_neg (h k (by omega))]
theorem brF_yes {f : Nat → Int} {k : Nat} (hk : 0 < f k) (h0 : ∀ j, j < k → ¬ 0 < f j) : ∀ n, k < n → brF f n = (f k, (k : Int))
 | 0, h => by omega
 | n + 1, h => by
  simp only [brF]
  by_cases e : k = n
  · subst e
    rw [brF_no k h0, if_neg (by simp), if_pos hk]
  · rw [brF_yes hk h0 n (by omega), if_pos hk]
def whyD (Z : Cus) (T : Trp) (s : Nat → Int) : Int := wrK (fun t => whyZ Z T (s 0) t) (tuD Z (s 2) (s 5 - 1)) 0
def barD (Z : Cus) (T : Trp) (n : Nat) (st : Nat → Nat → Int) : Int × Int := brF (fun i => whyD Z T (st i)) n
theorem whyZ_bd {Z : Cus} {T : Trp} {leg day : Int} : 0 ≤ whyZ Z T leg day ∧ whyZ Z T leg day ≤ 3 := whyV_bd
theorem drop_get {L : List Int} {k : Nat} (h : k < L.length) : L.drop k = L.getD k 0 :: L.drop (k + 1) := by
 rw [List.drop_eq_getElem_cons h, List.getD_eq_getElem?_getD, List.getElem?_eq_getElem h]
 rfl
theorem ret_u8i {a b a' b' : Int} (h1 : a = a') (h2 : b = b') : Ending.returned (.tuple #[.int .u8 a, .int .i64 b]) = .returned (.tuple #[.int .u8 a', .int .i64 b']) := by rw [h1, h2]
section
variable {Z : Cus} {T : Trp} {C D B O U V S : Option Addr} {cc cd cb co cu cv n cs : Nat} {st : Nat → Nat → Int} {w : World}
end
end Go.Proofs.YtfaenhhgkhcghaaGreatDoor
namespace Go.Proofs.YtfaenhhgkhcghaaGreatDoor
set_option linter.all false
set_option linter.unusedVariables false
set_option linter.unusedSimpArgs false
open Go.RowKit
def mn0 (v : Nat → Int) : Nat → Int
 | 0 => 0
 | k + 1 => mnF v k
def mx0 (v : Nat → Int) : Nat → Int
 | 0 => 0
 | k + 1 => max (mx0 v k) (v k)
theorem mn_first {v : Nat → Int} : mn0 v 1 = min (v 0) (v 0) := by simp only [mn0, mnF]; omega
theorem mn_next {v : Nat → Int} {k : Nat} (h : 0 < k) : mn0 v (k + 1) = min (mn0 v k) (v k) := by
 cases k with
 | zero => omega
 | succ k => rfl
theorem mn0_bd {v : Nat → Int} {b : Int} (h0 : 0 ≤ b) (hv : ∀ j, 0 ≤ v j ∧ v j ≤ b) : ∀ k, 0 ≤ mn0 v k ∧ mn0 v k ≤ b
 | 0 => by simp only [mn0]; omega
 | 1 => by have := hv 0; rw [mn_first]; omega
 | k + 2 => by
  have := mn0_bd h0 hv (k + 1)
  have := hv (k + 1)
  rw [mn_next (by omega)]
  omega
theorem mx0_bd {v : Nat → Int} {b : Int} (h0 : 0 ≤ b) (hv : ∀ j, 0 ≤ v j ∧ v j ≤ b) : ∀ k, 0 ≤ mx0 v k ∧ mx0 v k ≤ b
 | 0 => by simp only [mx0]; omega
 | k + 1 => by
  have := mx0_bd h0 hv k
  have := hv k
  simp only [mx0]
  omega
def dLo (f : Int → Int) (L : List Int) : Int := mn0 (fun j => f (L.getD j 0)) L.length
def dHi (f : Int → Int) (L : List Int) : Int := mx0 (fun j => f (L.getD j 0)) L.length
def onT (Z : Cus) (T : Trp) (leg q t : Int) : Int := if whoZ Z leg t = q then payZ Z T leg t else 0
def sumLo (Z : Cus) (T : Trp) (s : Nat → Int) : Int := dLo (payZ Z T (s 0)) (tuD Z (s 2) (s 3))
def sumHi (Z : Cus) (T : Trp) (s : Nat → Int) : Int := dHi (payZ Z T (s 0)) (tuD Z (s 2) (s 3))
def trbLo (Z : Cus) (T : Trp) (s : Nat → Int) (q : Nat) : Int := dLo (onT Z T (s 0) q) (tuD Z (s 2) (s 3))
def trbHi (Z : Cus) (T : Trp) (s : Nat → Int) (q : Nat) : Int := dHi (onT Z T (s 0) q) (tuD Z (s 2) (s 3))
abbrev TlX := Int × Int × Int × Int
def tolL (x : TlX) : List Value := [.int .i64 x.1, .int .i64 x.2.1, .int .i64 x.2.2.1, .int .i64 x.2.2.2]
def rowsT (L : List TlX) : Nat → List Value := fun k => tolL (L.getD k (0, 0, 0, 0))
def tolI (i : Int) (lo hi : Nat → Int) : Nat → List TlX
 | 0 => []
 | q + 1 => if 0 < hi q then tolI i lo hi q ++ [(i, (q : Int), lo q, hi q)] else tolI i lo hi q
def tolA (Z : Cus) (T : Trp) (st : Nat → Nat → Int) : Nat → List TlX
 | 0 => []
 | i + 1 => tolA Z T st i ++ tolI (i : Int) (trbLo Z T (st i)) (trbHi Z T (st i)) 8
def allLo (Z : Cus) (T : Trp) (st : Nat → Nat → Int) : Nat → Int
 | 0 => 0
 | i + 1 => allLo Z T st i + sumLo Z T (st i)
def allHi (Z : Cus) (T : Trp) (st : Nat → Nat → Int) : Nat → Int
 | 0 => 0
 | i + 1 => allHi Z T st i + sumHi Z T (st i)
theorem tolI_len {i : Int} {lo hi : Nat → Int} : ∀ q, (tolI i lo hi q).length ≤ q
 | 0 => Nat.le_refl _
 | q + 1 => by
  have := tolI_len (i := i) (lo := lo) (hi := hi) q
  simp only [tolI]
  split
  · simp only [List.length_append, List.length_cons, List.length_nil]; omega
  · omega
theorem tolA_len {Z : Cus} {T : Trp} {st : Nat → Nat → Int} : ∀ i, (tolA Z T st i).length ≤ 8 * i
 | 0 => Nat.le_refl _
 | i + 1 => by
  have := tolA_len (Z := Z) (T := T) (st := st) i
  have := tolI_len (i := (i : Int)) (lo := trbLo Z T (st i)) (hi := trbHi Z T (st i)) 8
  simp only [tolA, List.length_append]
  omega
theorem rowsT_app {L L' : List TlX} {m : Nat} {p : TlX} {s : Nat → List Value} (hm : m = L.length) (hL : L' = L ++ [p]) (hs : s 0 = tolL p) : ∀ i, i < m + 1 → catR m (rowsT L) s i = rowsT L' i := fun i hi => by
  subst hL
  simp only [catR, rowsT]
  by_cases h : i < m
  · rw [if_pos h, List.getD_eq_getElem?_getD, List.getD_eq_getElem?_getD, List.getElem?_append_left (by omega)]
  · obtain rfl : i = m := by omega
    rw [if_neg h, Nat.sub_self, hs, List.getD_eq_getElem?_getD, List.getElem?_append_right (by omega), hm, Nat.sub_self]
    rfl
theorem KSub.blkE {K K' L : List Fact} {b : Nat} {E : TypeId} {cs cs' : List Value} (hp : Pick K (.blk b E cs) K') (e : cs = cs') (h : KSub K' L) : KSub K (.blk b E cs' :: L) := by
 subst e; exact .cons hp h
theorem payZ_bd {Z : Cus} {T : Trp} {leg t : Int} (hok : CusOk Z) (ht : trpOk T = true) : 0 ≤ payZ Z T leg t ∧ payZ Z T leg t ≤ 2000000000000 := by
 unfold trpOk inB5 at ht
 simp only [Bool.and_eq_true, decide_eq_true_eq] at ht
 obtain ⟨⟨⟨⟨⟨h10, h11⟩, h12, h13⟩, _⟩, _⟩, _⟩ := ht
 unfold payZ
 split
 · split
   · omega
   · next hh _ =>
     have hol := hol_bd (Z := Z) (leg := leg) (day := t)
     have hbd := hok.c (holZ Z leg t).toNat (by omega)
     unfold hclZ
     have q1 : 0 ≤ (Z.c (holZ Z leg t).toNat).1 4 * T.hd ∧ (Z.c (holZ Z leg t).toNat).1 4 * T.hd ≤ 1000000 * 1000 := ⟨Int.mul_nonneg (by omega) (by omega), Int.mul_le_mul (by omega) h11 (by omega) (by omega)⟩
     have q2 : 0 ≤ (Z.c (holZ Z leg t).toNat).1 5 * T.wo ∧ (Z.c (holZ Z leg t).toNat).1 5 * T.wo ≤ 1000 * 1000000000000 := ⟨Int.mul_nonneg (by omega) (by omega), Int.mul_le_mul (by omega) h13 (by omega) (by omega)⟩
     omega
 · omega
theorem onT_bd {Z : Cus} {T : Trp} {leg q t : Int} (hok : CusOk Z) (ht : trpOk T = true) : 0 ≤ onT Z T leg q t ∧ onT Z T leg q t ≤ 2000000000000 := by
 have := payZ_bd (leg := leg) (t := t) hok ht
 unfold onT
 split <;> omega
theorem sum_bd {Z : Cus} {T : Trp} {s : Nat → Int} (hok : CusOk Z) (ht : trpOk T = true) : 0 ≤ sumLo Z T s ∧ sumLo Z T s ≤ 2000000000000 ∧ 0 ≤ sumHi Z T s ∧ sumHi Z T s ≤ 2000000000000 := by
 have a := mn0_bd (v := fun j => payZ Z T (s 0) ((tuD Z (s 2) (s 3)).getD j 0)) (by omega) (fun j => payZ_bd hok ht) (tuD Z (s 2) (s 3)).length
 have b := mx0_bd (v := fun j => payZ Z T (s 0) ((tuD Z (s 2) (s 3)).getD j 0)) (by omega) (fun j => payZ_bd hok ht) (tuD Z (s 2) (s 3)).length
 unfold sumLo sumHi dLo dHi
 omega
theorem all_bd {Z : Cus} {T : Trp} {st : Nat → Nat → Int} (hok : CusOk Z) (ht : trpOk T = true) : ∀ i : Nat, 0 ≤ allLo Z T st i ∧ allLo Z T st i ≤ 2000000000000 * i ∧ 0 ≤ allHi Z T st i ∧ allHi Z T st i ≤ 2000000000000 * i
 | 0 => by simp [allLo, allHi]
 | i + 1 => by
  have := all_bd (st := st) hok ht i
  have := sum_bd (s := st i) hok ht
  simp only [allLo, allHi]
  omega
section
variable {Z : Cus} {T : Trp} {C D B O U V S : Option Addr} {cc cd cb co cu cv n cs : Nat} {st : Nat → Nat → Int} {w : World}
end
end Go.Proofs.YtfaenhhgkhcghaaGreatDoor
namespace Go.Proofs.YtfaenhhgkhcghaaGreatDoor
set_option linter.all false
set_option linter.unusedVariables false
set_option linter.unusedSimpArgs false
open Go.RowKit
structure Wy where
 nw : Nat
 nl : Nat
 f : Nat → Nat → Int
 x : Nat → Leg
 g : Nat → Nat → Nat → Int
 p0 : Int
 p1 : Int
 start : Int
 day : Int
 n : Nat
 ls : Nat → Int
def uY (Y : Wy) : Nat → Nat → Int := fun k => (Y.x k).u
def nY (Y : Wy) : Nat → Nat := fun k => (Y.x k).n
def wlY (Y : Wy) (k : Nat) : Int := wlV Y.nl (uY Y) Y.ls Y.start k
def atBY (Y : Wy) (k : Nat) : Int := atB (uY Y) (nY Y) Y.g Y.p1 Y.ls Y.day k
def atSY (Y : Wy) (k : Nat) : Int := atS (uY Y) (nY Y) Y.g Y.p0 Y.ls Y.day k
def lvBY (Y : Wy) (k : Nat) : Int := lvB (uY Y) (nY Y) Y.g Y.p1 (Y.ls k).toNat (atBY Y k)
def lvSY (Y : Wy) (k : Nat) : Int := lvS (uY Y) (nY Y) Y.g Y.p0 (Y.ls k).toNat (atSY Y k)
def stY (Y : Wy) (k : Nat) : Nat → Int
 | 0 => Y.ls k
 | 1 => wlY Y (k + 1)
 | 2 => lvBY Y k
 | 3 => lvSY Y k
 | 4 => atBY Y (k + 1)
 | _ => atSY Y (k + 1)
def okY (Y : Wy) : Int := askC Y.nw Y.nl Y.f Y.x Y.g Y.p0 Y.p1
def begY (Y : Wy) : Bool := inB5 0 ((Y.nw : Int) - 1) Y.start && inB5 0 100000 Y.day
def lostY (Y : Wy) : Bool := exB Y.n fun k => decide (wlY Y (k + 1) < 0)
def lateY (Y : Wy) : Bool := exB Y.n fun k => decide (100000 < atSY Y (k + 1))
def wkC (Y : Wy) : Int := if okY Y ≠ 0 then okY Y else if begY Y = false then 2 else if 24 < Y.n then 4 else if lostY Y = true then 8 else if lateY Y = true then 34 else 0
def wkN (Y : Wy) : Nat := if wkC Y = 0 then Y.n else 0
theorem wkC_ask {Y : Wy} (h : okY Y ≠ 0) : wkC Y = okY Y := by unfold wkC; rw [if_pos h]
theorem wkC_beg {Y : Wy} (h : okY Y = 0) (h1 : begY Y = false) : wkC Y = 2 := by unfold wkC; rw [if_neg (by omega), if_pos h1]
theorem wkC_many {Y : Wy} (h : okY Y = 0) (h1 : begY Y = true) (h2 : 24 < Y.n) : wkC Y = 4 := by unfold wkC; rw [if_neg (by omega), if_neg (by rw [h1]; simp), if_pos h2]
theorem wkC_lost {Y : Wy} (h : okY Y = 0) (h1 : begY Y = true) (h2 : ¬ 24 < Y.n) (h3 : lostY Y = true) : wkC Y = 8 := by unfold wkC; rw [if_neg (by omega), if_neg (by rw [h1]; simp), if_neg h2, if_pos h3]
theorem wkC_late {Y : Wy} (h : okY Y = 0) (h1 : begY Y = true) (h2 : ¬ 24 < Y.n) (h3 : lostY Y = false) (h4 : lateY Y = true) : wkC Y = 34 := by unfold wkC; rw [if_neg (by omega), if_neg (by rw [h1]; simp), if_neg h2, if_neg (by rw [h3]; simp), if_pos h4]
theorem wkC_ok {Y : Wy} (h : okY Y = 0) (h1 : begY Y = true) (h2 : ¬ 24 < Y.n) (h3 : lostY Y = false) (h4 : lateY Y = false) : wkC Y = 0 := by unfold wkC; rw [if_neg (by omega), if_neg (by rw [h1]; simp), if_neg h2, if_neg (by rw [h3]; simp), if_neg (by rw [h4]; simp)]
theorem wkN_0 {Y : Wy} (h : wkC Y ≠ 0) : wkN Y = 0 := if_neg h
theorem wkN_n {Y : Wy} (h : wkC Y = 0) : wkN Y = Y.n := if_pos h
theorem inB_iff {lo hi a : Int} : inB5 lo hi a = true ↔ lo ≤ a ∧ a ≤ hi := by
 unfold inB5
 simp only [Bool.and_eq_true, decide_eq_true_eq]
theorem wlY_s (Y : Wy) (k : Nat) : wlY Y (k + 1) = endV Y.nl (uY Y) (Y.ls k) (wlY Y k) := rfl
structure WyOk (Y : Wy) : Prop where
 h0 : 1 ≤ Y.p0
 h1 : Y.p0 ≤ Y.p1
 h2 : Y.p1 ≤ 100000
 leg : ∀ k, k < Y.nl → LegIn (Y.x k).u (Y.x k).n (Y.g k)
 ends : ∀ k, k < Y.nl → 0 ≤ (Y.x k).u 0 ∧ 0 ≤ (Y.x k).u 1
theorem wyOk_of {Y : Wy} (h : okY Y = 0) : WyOk Y := by
 unfold okY askC at h
 split at h
 · next hl =>
   split at h
   · next hp =>
     unfold ordB5 at hp
     simp only [Bool.and_eq_true, decide_eq_true_eq] at hp
     unfold landOk at hl
     simp only [Bool.and_eq_true] at hl
     refine ⟨by omega, by omega, by omega, fun k hk => legIn_of (allB_iff.1 hl.2 k hk), fun k hk => ?_⟩
     have := allB_iff.1 hl.2 k hk
     unfold legOk legHead inB5 at this
     simp only [Bool.and_eq_true, decide_eq_true_eq] at this
     omega
   · cases h
 · cases h
theorem lost_no {Y : Wy} (h : ∀ j, j < Y.n → 0 ≤ wlY Y (j + 1)) : lostY Y = false := ex_no fun j hj => decide_eq_false (by have := h j hj; omega)
theorem lost_yes {Y : Wy} {k : Nat} (hk : k < Y.n) (h : wlY Y (k + 1) < 0) : lostY Y = true := ex_yes (p := fun k => decide (wlY Y (k + 1) < 0)) hk (decide_eq_true h)
theorem late_no {Y : Wy} (h : ∀ j, j < Y.n → atSY Y (j + 1) ≤ 100000) : lateY Y = false := ex_no fun j hj => decide_eq_false (by have := h j hj; omega)
theorem late_yes {Y : Wy} {k : Nat} (hk : k < Y.n) (h : 100000 < atSY Y (k + 1)) : lateY Y = true := ex_yes (p := fun k => decide (100000 < atSY Y (k + 1))) hk (decide_eq_true h)
theorem ls_ok {Y : Wy} {k : Nat} (h : 0 ≤ wlY Y (k + 1)) : 0 ≤ Y.ls k ∧ Y.ls k < Y.nl := endV_ok (u := uY Y) (well := wlY Y k) h
theorem at_ok {Y : Wy} (ho : WyOk Y) (hb : begY Y = true) (hl : ∀ j, j < Y.n → 0 ≤ wlY Y (j + 1)) {k : Nat} (hk : k ≤ Y.n) : 0 ≤ atBY Y k ∧ atBY Y k ≤ atSY Y k ∧ atSY Y k ≤ 100001 := by
 unfold begY at hb
 rw [Bool.and_eq_true, inB_iff, inB_iff] at hb
 exact at_in (u := uY Y) (gn := nY Y) (g := Y.g) (ls := Y.ls) ho.h0 ho.h1 hb.2 k fun j hj => by
  have := ls_ok (hl j (by omega))
  exact ho.leg _ (by omega)
def wkR (Y : Wy) (y : (Option Addr × Nat) × Int) : Value := .tuple #[.slice y.1.1 (wkN Y) y.1.2, .int .i64 y.2, .int .i64 (wkC Y)]
def wkL (Y : Wy) (y : (Option Addr × Nat) × Int) : List Fact := [.own y.1.1 (wkN Y) y.1.2 160 6 (fun k => stopL (stY Y k))]
theorem wk_bad {Y : Wy} {w w' : World} {K : List Fact} {a e : Int} (hw : Sat [] w K w') (he : wkC Y = e) (h0 : e ≠ 0) : ∃ y, Ending.returned (retV [.slice none 0 0, .int .i64 a, .int .i64 e]) = .returned (wkR Y y) ∧ Sat [] w (wkL Y y) w' := by
 refine ⟨((none, 0), a), ?_, ?_⟩
 · unfold wkR
   rw [wkN_0 (by rw [he]; exact h0), he]
   rfl
 · unfold wkL
   rw [wkN_0 (by rw [he]; exact h0)]
   exact hw.sub (KSub.nilOwn KSub.nil)
section
variable {Y : Wy} {W A L : Option Addr} {cw cl cn : Nat} {w : World}
theorem stp_row {i : Nat} {r : Nat → List Value} {s : Nat → List Value} (h : s 0 = r i) : ∀ j, j < i + 1 → catR i r s j = r j := fun j hj => by
  unfold catR
  split
  · rfl
  · obtain rfl : j = i := by omega
    rw [Nat.sub_self, h]
end
end Go.Proofs.YtfaenhhgkhcghaaGreatDoor
namespace Go.Proofs.YtfaenhhgkhcghaaGreatDoor
set_option linter.all false
set_option linter.unusedVariables false
set_option linter.unusedSimpArgs false
open Go.RowKit
def two (a b : Int) : Nat → Int
 | 0 => a
 | _ => b
def tri (a b c : Int) : Nat → Int
 | 0 => a
 | 1 => b
 | _ => c
theorem two_bd {a b lo hi : Int} (ha : lo ≤ a ∧ a ≤ hi) (hb : lo ≤ b ∧ b ≤ hi) (i : Nat) : lo ≤ two a b i ∧ two a b i ≤ hi := by
 cases i <;> assumption
theorem two_row {x y : Int} : ∀ i, i < 1 + 1 → catR 1 (fun _ => [Value.int .i64 x]) (fun _ => [Value.int .i64 y]) i = [Value.int .i64 (two x y i)] := fun i hi => by
 have : i = 0 ∨ i = 1 := by omega
 rcases this with rfl | rfl <;> rfl
theorem tri_row {x y z : Int} : ∀ i, i < 2 + 1 → catR 2 (fun i => [Value.int .i64 (two x y i)]) (fun _ => [Value.int .i64 z]) i = [Value.int .i64 (tri x y z i)] := fun i hi => by
 have : i = 0 ∨ i = 1 ∨ i = 2 := by omega
 rcases this with rfl | rfl | rfl <;> rfl
theorem self1 {S : List Nat} {w0 w : World} {K : List Fact} {φ : Fact} (h : Sat S w0 (φ :: K) w) : Sat (feet [φ]) w [φ] w := (h.sub (KSub.cons Pick.hd KSub.nil)).self
section
variable {w : World}
set_option maxRecDepth 100000 in
theorem first1_any {b : Nat} (x : Int) (hM : Sat (feet [.blk b 3 [.int .i64 x]]) w [.blk b 3 [.int .i64 x]] w) :
  CallsK Tryz.prog 118 #[.slice (some ⟨b, 0, none⟩) 1 1] [.blk b 3 [.int .i64 x]] w Unit (fun _ => .int .i64 (min x 100001)) (fun _ => []) := by
 refine K_enter (S := feet _) (K := [.blk b 3 [.int .i64 x]]) Tryz.func118 rfl Tryz.ntmps118 rfl hM ?_
 refine TW.seq fun Y1 hY1 => TW.region ?_
 refine TL.p Pu.as ?_
 refine TL.nil (TQ.thenN (hY1 _ _ ?_))
 refine TW.seq fun Y2 hY2 => TW.region ?_
 refine TL.p Pu.mv ?_
 refine TL.m Mk.bl ?_
 intro b1
 refine TL.obn (b := b) (n := 1) (sz := 1) (r := fun _ => [.int .i64 x]) pk9 rfl (fun _ _ => rfl) ?_
 first | refine TL.a0 ty_et31 ?_ | refine TL.ap ty_et31 ?_
 intro A2 c2
 refine TL.subK (KSub.own Pick.hd two_row KSub.nil) ?_
 refine TL.cr rfl (enters Tryz.func125 rfl rfl) (fun w hw => by
   exact slMin_any (n := 2) (v := two x 100001) (by omega) (by omega) (OwnR.rdr (hw.holds (.own A2 2 c2 3 1 (fun i => [.int .i64 (two x 100001 i)])) (by simp)))) ?_
 refine TL.p Pu.as ?_
 refine TL.nil (TQ.thenN (hY2 _ _ ?_))
 refine TW.ret ?_
 refine TQ.ret Tryz.results118 rfl ((.tmp rfl .nil)) ?_
 exact fun w hw => ⟨(), rfl, hw.sub KSub.nil⟩
set_option maxRecDepth 100000 in
theorem first2_any {b : Nat} (x y : Int) (hM : Sat (feet [.blk b 3 [.int .i64 x, .int .i64 y]]) w [.blk b 3 [.int .i64 x, .int .i64 y]] w) :
  CallsK Tryz.prog 118 #[.slice (some ⟨b, 0, none⟩) 2 2] [.blk b 3 [.int .i64 x, .int .i64 y]] w Unit (fun _ => .int .i64 (min (min x y) 100001)) (fun _ => []) := by
 refine K_enter (S := feet _) (K := [.blk b 3 [.int .i64 x, .int .i64 y]]) Tryz.func118 rfl Tryz.ntmps118 rfl hM ?_
 refine TW.seq fun Y1 hY1 => TW.region ?_
 refine TL.p Pu.as ?_
 refine TL.nil (TQ.thenN (hY1 _ _ ?_))
 refine TW.seq fun Y2 hY2 => TW.region ?_
 refine TL.p Pu.mv ?_
 refine TL.m Mk.bl ?_
 intro b1
 refine TL.obn (b := b) (n := 2) (sz := 1) (r := fun i => [.int .i64 (two x y i)]) pk9 rfl (fun _ _ => rfl) ?_
 first | refine TL.a0 ty_et31 ?_ | refine TL.ap ty_et31 ?_
 intro A2 c2
 refine TL.subK (KSub.own Pick.hd tri_row KSub.nil) ?_
 refine TL.cr rfl (enters Tryz.func125 rfl rfl) (fun w hw => by
   exact slMin_any (n := 3) (v := tri x y 100001) (by omega) (by omega) (OwnR.rdr (hw.holds (.own A2 3 c2 3 1 (fun i => [.int .i64 (tri x y 100001 i)])) (by simp)))) ?_
 refine TL.p Pu.as ?_
 refine TL.nil (TQ.thenN (hY2 _ _ ?_))
 refine TW.ret ?_
 refine TQ.ret Tryz.results118 rfl ((.tmp rfl .nil)) ?_
 exact fun w hw => ⟨(), rfl, hw.sub KSub.nil⟩
end
def dy2 (u : Nat → Int) (p0 p1 : Int) : Nat → Int := two (dyB u p1) (dyS u p0)
def lv2 (u : Nat → Int) (g : Nat → Nat → Int) (p0 p1 a b : Int) (k i : Nat) : Int := two (lvF g 0 3 a (dyB u p1) k) (lvF g 1 2 b (dyS u p0) k) i
theorem lv2_le {u : Nat → Int} {g : Nat → Nat → Int} {p0 p1 a b : Int} {k i : Nat} : lv2 u g p0 p1 a b k i ≤ 100001 := by
 unfold lv2
 cases i <;> exact lv_le _
theorem lv2_yes {u : Nat → Int} {g : Nat → Nat → Int} {p0 p1 a b : Int} {k i : Nat} (h : max (two a b i) (two (g k 0) (g k 1) i) + dy2 u p0 p1 i - 1 ≤ two (g k 3) (g k 2) i) : lv2 u g p0 p1 a b (k + 1) i = min (lv2 u g p0 p1 a b k i) (max (two a b i) (two (g k 0) (g k 1) i)) := by
 unfold lv2 dy2 at *
 cases i with
 | zero => simp only [two, lvF, thruB, decide_eq_true_eq] at h ⊢; exact if_pos h
 | succ i => simp only [two, lvF, thruB, decide_eq_true_eq] at h ⊢; exact if_pos h
theorem lv2_no {u : Nat → Int} {g : Nat → Nat → Int} {p0 p1 a b : Int} {k i : Nat} (h : ¬ max (two a b i) (two (g k 0) (g k 1) i) + dy2 u p0 p1 i - 1 ≤ two (g k 3) (g k 2) i) : lv2 u g p0 p1 a b (k + 1) i = lv2 u g p0 p1 a b k i := by
 unfold lv2 dy2 at *
 cases i with
 | zero => simp only [two, lvF, thruB, decide_eq_true_eq] at h ⊢; exact if_neg h
 | succ i => simp only [two, lvF, thruB, decide_eq_true_eq] at h ⊢; exact if_neg h
def mid2 (u : Nat → Int) (g : Nat → Nat → Int) (p0 p1 a b : Int) (k i : Nat) : Nat → Int := fun j => if j < i then lv2 u g p0 p1 a b (k + 1) j else lv2 u g p0 p1 a b k j
def rowV (v : Nat → Int) : Nat → List Value := fun i => [.int .i64 (v i)]
theorem mid_keep {u : Nat → Int} {g : Nat → Nat → Int} {p0 p1 a b : Int} {k i : Nat} (h : lv2 u g p0 p1 a b (k + 1) i = lv2 u g p0 p1 a b k i) : ∀ j, j < 2 → rowV (mid2 u g p0 p1 a b k i) j = rowV (mid2 u g p0 p1 a b k (i + 1)) j := fun j _ => by
 simp only [rowV, mid2]
 by_cases e : j = i
 · subst e; rw [if_neg (by omega), if_pos (by omega), h]
 · by_cases l : j < i
   · rw [if_pos l, if_pos (by omega)]
   · rw [if_neg l, if_neg (by omega)]
theorem mid_upd {u : Nat → Int} {g : Nat → Nat → Int} {p0 p1 a b d : Int} {k i : Nat} (h : lv2 u g p0 p1 a b (k + 1) i = min (lv2 u g p0 p1 a b k i) d) (hl : lv2 u g p0 p1 a b k i ≤ 100001) :
   ∀ j, j < 2 → updR (rowV (mid2 u g p0 p1 a b k i)) i [.int .i64 (min (min (mid2 u g p0 p1 a b k i i) d) 100001)] j = rowV (mid2 u g p0 p1 a b k (i + 1)) j := fun j _ => by
 simp only [rowV, mid2, updR]
 by_cases e : j = i
 · subst e
   rw [if_pos rfl, if_neg (by omega), if_pos (by omega), h]
   have : min (min (lv2 u g p0 p1 a b k j) d) 100001 = min (lv2 u g p0 p1 a b k j) d := by omega
   rw [this]
 · rw [if_neg e]
   by_cases l : j < i
   · rw [if_pos l, if_pos (by omega)]
   · rw [if_neg l, if_neg (by omega)]
section
variable {W A : Option Addr} {nw cw nl cl : Nat} {f : Nat → Nat → Int} {x : Nat → Leg} {g : Nat → Nat → Nat → Int} {p0 p1 : Int} {w : World}
set_option maxRecDepth 100000 in
set_option maxHeartbeats 4000000 in
theorem cLeave_any (k : Nat) (a b : Int) (hk : k < nl) (h : LandIn w W nw A nl f x g) (h0 : 1 ≤ p0) (h1 : p0 ≤ p1) (h2 : p1 ≤ 100000) (hL : LegIn (x k).u (x k).n (g k)) (ha : 0 ≤ a ∧ a ≤ 100001) (hb : 0 ≤ b ∧ b ≤ 100001) :
  Calls Tryz.prog 103 #[.agg (carL W nw cw A nl cl p0 p1).toArray, .int .i64 (k : Int), .agg #[.int .i64 a, .int .i64 b]] w (Ret w (.agg #[.int .i64 (lvF (g k) 0 3 a (dyB (x k).u p1) (x k).n), .int .i64 (lvF (g k) 1 2 b (dyS (x k).u p0) (x k).n)])) := by
 have hRA := h.hA
 have hnl := h.hnl
 have hng := h.hn k hk
 have hRG := h.hG k hk
 have hd := dy_bd h0 h1 hL.l0 hL.l1 hL.l2
 unfold carL
 refine K_enter (S := []) (K := []) Tryz.func103 rfl Tryz.ntmps103 rfl (Sat.start _) ?_
 refine TW.seq fun Y1 hY1 => TW.region ?_
 refine TL.m Mk.bx ?_
 intro b1
 refine TL.m Mk.bx ?_
 intro b2
 refine TL.m (Mk.al ty_zr152) ?_
 intro b3
 refine TL.nil (TQ.thenN (hY1 _ _ ?_))
 refine TW.seq fun Y2 hY2 => TW.region ?_
 refine TL.p (Pu.lds ty_ag140) ?_
 refine TL.p Pu.mv ?_
 refine TL.cr rfl (enters Tryz.func117 rfl rfl) (fun w hw => by
   exact cDays_any k hk hnl h0 h1 h2 hL.l0 hL.l1 hL.l2 (hRA.sat hw Apart.nil)) ?_
 refine TL.m (Mk.al ty_zr152) ?_
 intro b4
 first | refine TL.st ty_sz152 ?_ | refine TL.se ty_sz152 ?_
 refine TL.nil (TQ.thenN (hY2 _ _ ?_))
 refine TW.seq fun Y3 hY3 => TW.region ?_
 refine TL.p Pu.bd ?_
 refine TL.m (Mk.al ty_zr152) ?_
 intro b5
 first | refine TL.st ty_sz152 ?_ | refine TL.se ty_sz152 ?_
 refine TL.nil (TQ.thenN (hY3 _ _ ?_))
 refine TW.seq fun Y4 hY4 => ?_
 refine TW.seq fun Y5 hY5 => TW.region ?_
 refine TL.p (by first | exact Pu.fb ty_fa140_0 | exact Pu.fe ty_fa140_0) ?_
 refine TL.p (by first | exact Pu.fb ty_fa25_1 | exact Pu.fe ty_fa25_1) ?_
 refine TL.p (Pu.ld ty_sc23) ?_
 refine TL.p Pu.mv ?_
 refine TL.p (Pu.el ty_et23) ?_
 refine TL.p (by first | exact Pu.fb ty_fa107_3 | exact Pu.fe ty_fa107_3) ?_
 refine TL.p (Pu.ld ty_sc105) ?_
 refine TL.p (Pu.ln Tryz.underlying105) ?_
 refine TL.p Pu.mv ?_
 refine TL.nil (TQ.thenN (hY5 _ _ ?_))
 refine TW.block ?_
 refine TW.loop1 (fun (j : Nat) => [(27, .int .i64 (j : Int)), (26, .int .i64 ((x k).n : Int)), (25, .slice (x k).A (x k).n (x k).c), (8, .pointer (some ⟨b5, 0, none⟩)), (7, .pointer (some ⟨b4, 0, none⟩)), (6, .pointer (some ⟨b3, 0, none⟩)), (5, .pointer (some ⟨b2, 0, none⟩))]) (fun j => [.own (some ⟨b5, 0, none⟩) 2 2 152 1 (rowV (lv2 (x k).u (g k) p0 p1 a b j)), .own (some ⟨b4, 0, none⟩) 2 2 152 1 (rowV (dy2 (x k).u p0 p1)), .own (some ⟨b2, 0, none⟩) 2 2 152 1 (rowV (two a b)), .blk b3 152 [.int .i64 0, .int .i64 0]]) (fun j => j ≤ (x k).n) (fun j => (x k).n - j) 0 fs9 ?_ ?_ ?_
 exact KSub.ofBlk pk9 rfl (fun _ _ => rfl) rfl rfl (KSub.ofBlk pk9 rfl (fun _ _ => rfl) rfl rfl (KSub.ofBlk pk9 rfl (fun _ _ => rfl) rfl rfl ks9))
 exact Nat.zero_le _
 rintro j hj Z0 hZ0
 refine TW.seq fun Y6 hY6 => TW.region ?_
 refine TL.p Pu.lt ?_
 refine TL.nil (TQ.thenN (hY6 _ _ ?_))
 refine TW.seq fun Y7 hY7 => ?_
 refine TW.cond rfl (fun hc0 => ?_) (fun hc0 => ?_)
 try simp only [zcb9] at hc0
 have hjn : j < (x k).n := by omega
 have hgi := gate_in hL.hg hjn
 refine TW.skip ?_
 refine TQ.thenN (hY7 _ _ ?_)
 refine TW.seq fun Y8 hY8 => ?_
 refine TW.block ?_
 refine TW.seq fun Y9 hY9 => TW.region ?_
 refine TL.p (Pu.el ty_et105) ?_
 refine TL.p (Pu.lds ty_ag104) ?_
 refine TL.m (Mk.al ty_zr104) ?_
 intro b6
 first | refine TL.st ty_sz104 ?_ | refine TL.se ty_sz104 ?_
 refine TL.nil (TQ.thenN (hY9 _ _ ?_))
 refine TW.seq fun Y10 hY10 => ?_
 refine TW.expl (fun (⟨x14, x15⟩ : Nat × Nat) => ([(11, .pointer (some ⟨x14, 0, none⟩)), (12, .pointer (some ⟨x15, 0, none⟩)), (27, .int .i64 (j : Int)), (26, .int .i64 ((x k).n : Int)), (25, .slice (x k).A (x k).n (x k).c), (8, .pointer (some ⟨b5, 0, none⟩)), (7, .pointer (some ⟨b4, 0, none⟩)), (6, .pointer (some ⟨b3, 0, none⟩)), (5, .pointer (some ⟨b2, 0, none⟩))] : Fr)) (fun (⟨x14, x15⟩ : Nat × Nat) => [.blk x14 152 [.int .i64 (g k j 0), .int .i64 (g k j 1)], .blk x15 152 [.int .i64 (g k j 3), .int .i64 (g k j 2)], .own (some ⟨b5, 0, none⟩) 2 2 152 1 (rowV (lv2 (x k).u (g k) p0 p1 a b j)), .own (some ⟨b4, 0, none⟩) 2 2 152 1 (rowV (dy2 (x k).u p0 p1)), .own (some ⟨b2, 0, none⟩) 2 2 152 1 (rowV (two a b)), .blk b3 152 [.int .i64 0, .int .i64 0]]) Drop.done ?_ (fun hE => ?_)
 rintro ⟨x14, x15⟩
 refine TQ.thenN (hY10 _ _ ?_)
 refine TW.seq fun Y11 hY11 => TW.region ?_
 refine TL.p Pu.mv ?_
 refine TL.nil (TQ.thenN (hY11 _ _ ?_))
 refine TW.block ?_
 refine TW.loop1 (fun (i : Nat) => [(45, .int .i64 (i : Int)), (11, .pointer (some ⟨x14, 0, none⟩)), (12, .pointer (some ⟨x15, 0, none⟩)), (27, .int .i64 (j : Int)), (26, .int .i64 ((x k).n : Int)), (25, .slice (x k).A (x k).n (x k).c), (8, .pointer (some ⟨b5, 0, none⟩)), (7, .pointer (some ⟨b4, 0, none⟩)), (6, .pointer (some ⟨b3, 0, none⟩)), (5, .pointer (some ⟨b2, 0, none⟩))]) (fun i => [.own (some ⟨b5, 0, none⟩) 2 2 152 1 (rowV (mid2 (x k).u (g k) p0 p1 a b j i)), .own (some ⟨x14, 0, none⟩) 2 2 152 1 (rowV (two (g k j 0) (g k j 1))), .own (some ⟨x15, 0, none⟩) 2 2 152 1 (rowV (two (g k j 3) (g k j 2))), .own (some ⟨b4, 0, none⟩) 2 2 152 1 (rowV (dy2 (x k).u p0 p1)), .own (some ⟨b2, 0, none⟩) 2 2 152 1 (rowV (two a b)), .blk b3 152 [.int .i64 0, .int .i64 0]]) (fun i => i ≤ 2) (fun i => 2 - i) 0 fs9 ?_ ?_ ?_
 exact KSub.own pk9 (fun q _ => by simp only [rowV, mid2]; rw [if_neg (by omega)]) (KSub.ofBlk pk9 rfl (fun _ _ => rfl) rfl rfl (KSub.ofBlk pk9 rfl (fun _ _ => rfl) rfl rfl ks9))
 exact Nat.zero_le _
 rintro i hi Z1 hZ1
 refine TW.seq fun Y12 hY12 => TW.region ?_
 refine TL.p Pu.lt ?_
 refine TL.nil (TQ.thenN (hY12 _ _ ?_))
 refine TW.seq fun Y13 hY13 => ?_
 refine TW.cond rfl (fun hc1 => ?_) (fun hc1 => ?_)
 try simp only [zcb9] at hc1
 have hi2 : i < 2 := by omega
 have z1 := two_bd ha hb i
 have z2 := two_bd (a := g k j 0) (b := g k j 1) (lo := 0) (hi := 100000) (by omega) (by omega) i
 have z3 : 1 ≤ dy2 (x k).u p0 p1 i ∧ dy2 (x k).u p0 p1 i ≤ 1000000 := two_bd (by omega) (by omega) i
 have z4 := lv2_le (u := (x k).u) (g := g k) (p0 := p0) (p1 := p1) (a := a) (b := b) (k := j) (i := i)
 refine TW.skip ?_
 refine TQ.thenN (hY13 _ _ ?_)
 refine TW.seq fun Y14 hY14 => ?_
 refine TW.block ?_
 refine TW.seq fun Y15 hY15 => TW.region ?_
 refine TL.p Pu.mv ?_
 refine TL.p Pu.as ?_
 refine TL.nil (TQ.thenN (hY15 _ _ ?_))
 refine TW.seq fun Y16 hY16 => ?_
 refine TW.dw 8 ?_
 refine RK.tk Pu.mv ?_
 refine RK.tk (Pu.ea ty_ar152) ?_
 refine RK.tk (Pu.ld ty_sc3) ?_
 refine RK.tk Pu.mv ?_
 refine RK.tk (Pu.ea ty_ar152) ?_
 refine RK.tk (Pu.ld ty_sc3) ?_
 refine RK.tk Pu.mx ?_
 refine RK.tk Pu.as ?_
 refine RK.ch [] ?_ trivial
 refine WK.n ?_
 refine TL.nil (TQ.thenN (hY16 _ _ ?_))
 refine TW.seq fun Y17 hY17 => ?_
 refine TW.dw 10 ?_
 refine RK.tk Pu.mv ?_
 refine RK.tk Pu.mv ?_
 refine RK.tk (Pu.ea ty_ar152) ?_
 refine RK.tk (Pu.ld ty_sc3) ?_
 refine RK.tk Pu.ad ?_
 refine RK.tk Pu.sb ?_
 refine RK.tk Pu.mv ?_
 refine RK.tk (Pu.ea ty_ar152) ?_
 refine RK.tk (Pu.ld ty_sc3) ?_
 refine RK.tk Pu.le ?_
 refine RK.ch [] ?_ trivial
 refine WK.n ?_
 refine TL.nil (TQ.thenN (hY17 _ _ ?_))
 refine TW.cond rfl (fun hc2 => ?_) (fun hc2 => ?_)
 try simp only [zcb9] at hc2
 have hs := hidT (lv2_yes hc2)
 refine TW.region ?_
 refine TL.p Pu.mv ?_
 refine TL.p Pu.mv ?_
 refine TL.p (Pu.ea ty_ar152) ?_
 refine TL.p (Pu.ld ty_sc3) ?_
 refine TL.p Pu.mv ?_
 refine TL.m Mk.bl ?_
 intro b7
 refine TL.call rfl (enters Tryz.func118 rfl rfl) (M := [.blk b7 3 _]) (List.Perm.refl _) rfl (fun w hw => by
   exact first2_any _ _ (self1 hw)) ?_
 rintro ⟨⟩
 refine TL.p (Pu.ea ty_ar152) ?_
 first | refine TL.st ty_sz3 ?_ | refine TL.se ty_sz3 ?_
 refine TL.nil ?_
 refine TQ.blkN ?_
 refine TQ.thenN (hY14 _ _ ?_)
 refine TW.region ?_
 refine TL.p Pu.ad ?_
 refine TL.p Pu.mv ?_
 refine TL.nil ?_
 refine TQ.thenN (hZ1 (i + 1) _ _ ?_ ?_ fs9 ?_)
 exact (by omega)
 exact zom9
 first
  | exact KSub.own pk9 (mid_upd hs.out z4) ks9
  | exact KSub.own pk9 (mid_keep hs.out) ks9
 try simp only [zcb9] at hc2
 have hs := hidT (lv2_no (u := (x k).u) (g := g k) (p0 := p0) (p1 := p1) (a := a) (b := b) (k := j) (i := i) (by omega))
 refine TW.skip ?_
 refine TQ.blkN ?_
 refine TQ.thenN (hY14 _ _ ?_)
 refine TW.region ?_
 refine TL.p Pu.ad ?_
 refine TL.p Pu.mv ?_
 refine TL.nil ?_
 refine TQ.thenN (hZ1 (i + 1) _ _ ?_ ?_ fs9 ?_)
 exact (by omega)
 exact zom9
 first
  | exact KSub.own pk9 (mid_upd hs.out z4) ks9
  | exact KSub.own pk9 (mid_keep hs.out) ks9
 try simp only [zcb9] at hc1
 obtain rfl : i = 2 := by omega
 refine TW.exit ?_
 refine TQ.thenX ?_
 refine TQ.thenX ?_
 refine TQ.blkX ?_
 refine TQ.blkN ?_
 refine TQ.thenN (hY8 _ _ ?_)
 refine TW.region ?_
 refine TL.p Pu.ad ?_
 refine TL.p Pu.mv ?_
 refine TL.nil ?_
 refine TQ.thenN (hZ0 (j + 1) _ _ ?_ ?_ fs9 ?_)
 exact (by omega)
 exact zom9
 exact KSub.own pk9 (fun q hq => by simp only [rowV, mid2]; rw [if_pos hq]) ks9
 refine RG.tk 0 rfl (by first | exact Pu.fb ty_fa104_0 | exact Pu.fe ty_fa104_0) ?_
 refine RG.tk 1 rfl (by first | exact Pu.fb ty_fa36_0 | exact Pu.fe ty_fa36_0) ?_
 refine RG.tk 2 rfl (Pu.ld ty_sc3) ?_
 refine RG.tk 3 rfl (by first | exact Pu.fb ty_fa104_0 | exact Pu.fe ty_fa104_0) ?_
 refine RG.tk 4 rfl (by first | exact Pu.fb ty_fa36_1 | exact Pu.fe ty_fa36_1) ?_
 refine RG.tk 5 rfl (Pu.ld ty_sc3) ?_
 refine RG.tk 6 rfl Pu.bd ?_
 refine RG.tk 7 rfl (by first | exact Pu.fb ty_fa104_1 | exact Pu.fe ty_fa104_1) ?_
 refine RG.tk 8 rfl (by first | exact Pu.fb ty_fa36_1 | exact Pu.fe ty_fa36_1) ?_
 refine RG.tk 9 rfl (Pu.ld ty_sc3) ?_
 refine RG.tk 10 rfl (by first | exact Pu.fb ty_fa104_1 | exact Pu.fe ty_fa104_1) ?_
 refine RG.tk 11 rfl (by first | exact Pu.fb ty_fa36_0 | exact Pu.fe ty_fa36_0) ?_
 refine RG.tk 12 rfl (Pu.ld ty_sc3) ?_
 refine RG.tk 13 rfl Pu.bd ?_
 refine RG.a2 14 15 rfl rfl (fun X14 hX14 => ?_) (fun X15 hX15 => ?_)
 refine TL.m (Mk.al ty_zr152) ?_
 intro x14
 refine TL.nil ?_
 refine TQ.nxt (hX14 _ _ hl9 ?_)
 refine RG.a1 15 rfl (fun X15 hX15 => ?_)
 refine TL.m (Mk.al ty_zr152) ?_
 intro x15
 refine TL.nil ?_
 refine TQ.nxt (hX15 _ _ hl9 ?_)
 refine RG.a1 16 rfl (fun X16 hX16 => ?_)
 first | refine TL.st ty_sz152 ?_ | refine TL.se ty_sz152 ?_
 refine TL.nil ?_
 refine TQ.nxt (hX16 _ _ hl9 ?_)
 refine RG.a1 17 rfl (fun X17 hX17 => ?_)
 first | refine TL.st ty_sz152 ?_ | refine TL.se ty_sz152 ?_
 refine TL.nil ?_
 refine TQ.nxt (hX17 _ _ hl9 ?_)
 exact RG.nil (TQ.sub fs9 kt9 (hE ⟨x14, x15⟩)) (by kernel_rfl)
 refine TL.m (Mk.al ty_zr152) ?_
 intro x15
 refine TL.nil ?_
 refine TQ.nxt (hX15 _ _ hl9 ?_)
 refine RG.a1 14 rfl (fun X14 hX14 => ?_)
 refine TL.m (Mk.al ty_zr152) ?_
 intro x14
 refine TL.nil ?_
 refine TQ.nxt (hX14 _ _ hl9 ?_)
 refine RG.a1 16 rfl (fun X16 hX16 => ?_)
 first | refine TL.st ty_sz152 ?_ | refine TL.se ty_sz152 ?_
 refine TL.nil ?_
 refine TQ.nxt (hX16 _ _ hl9 ?_)
 refine RG.a1 17 rfl (fun X17 hX17 => ?_)
 first | refine TL.st ty_sz152 ?_ | refine TL.se ty_sz152 ?_
 refine TL.nil ?_
 refine TQ.nxt (hX17 _ _ hl9 ?_)
 exact RG.nil (TQ.sub fs9 kt9 (hE ⟨x14, x15⟩)) (by kernel_rfl)
 try simp only [zcb9] at hc0
 have hjn : j = (x k).n := by omega
 refine TW.exit ?_
 refine TQ.thenX ?_
 refine TQ.thenX ?_
 refine TQ.blkX ?_
 refine TQ.thenN (hY4 _ _ ?_)
 refine TW.seq fun Y18 hY18 => TW.region ?_
 refine TL.bo (b := b5) (cs := [.int .i64 (lvF (g k) 0 3 a (dyB (x k).u p1) j), .int .i64 (lvF (g k) 1 2 b (dyS (x k).u p0) j)]) pk9 rfl ?_
 refine TL.p (Pu.lds ty_ag152) ?_
 first | refine TL.st ty_sz152 ?_ | refine TL.se ty_sz152 ?_
 refine TL.nil (TQ.thenN (hY18 _ _ ?_))
 refine TW.ret ?_
 refine TQ.ret Tryz.results103 rfl ((RV.cs ty_ag152 .nil)) ?_
 exact fun w hw => ⟨by rw [← hjn]; rfl, Chg.ext hw.chg⟩
end
end Go.Proofs.YtfaenhhgkhcghaaGreatDoor
namespace Go.Proofs.YtfaenhhgkhcghaaGreatDoor
set_option linter.all false
set_option linter.unusedVariables false
set_option linter.unusedSimpArgs false
open Go.RowKit
section
variable {c : Cx} {F : Fr} {K K' : List Fact}
theorem TW.seqD {Q : Exit → Act → World → Prop} {x y : Code} (h : ∀ Y : Act → World → Prop, (∀ (c2 : Cx) (F : Fr) (K : List Fact), TW c2 y Q F K → (hP : c2.P = c.P := by rfl) → TQ c2 (fun _ => Y) .normal F K) → TW c x (Exit.then Y Q) F K) : TW c (.seq x y) Q F K := fun a w hF hK =>
 wp_seq (h (y.wp c.P Q) (fun c2 F K h hP a w h1 h2 => hP ▸ h a w h1 h2) a w hF hK)
end
end Go.Proofs.YtfaenhhgkhcghaaGreatDoor
namespace Go.Proofs.YtfaenhhgkhcghaaGreatDoor
set_option linter.all false
set_option linter.unusedVariables false
set_option linter.unusedSimpArgs false
open Go.RowKit
section
variable {c : Cx} {Q : Exit → Act → World → Prop} {F F' : Fr} {K K' : List Fact}
theorem TW.np {x : Code} (h : TW c x (NP Q) F K) : TW c x Q F K := fun a w hF hK => wp_mono (h a w hF hK) fun e a w he => by
 cases e with
 | panic ch => exact he.elim
 | _ => exact he
theorem TQ.npN (h : TQ c Q .normal F K) : TQ c (NP Q) .normal F K := h
end
theorem Sat.apartO {S : List Nat} {w0 w : World} {K1 K2 : List Fact} {A : Option Addr} {n c : Nat} {E : TypeId} {sz : Nat} {r : Nat → List Value} (h : Sat S w0 (K1 ++ K2) w) (hm : .own A n c E sz r ∈ K2) : Apart (feet K1) A := fun b hb hm1 => by
 have hnd := List.nodup_append.1 (feet_append K1 K2 ▸ h.nd)
 cases A with
 | none => cases hb
 | some a =>
  have e : a.block = b := by simpa using hb
  exact hnd.2.2 b hm1 b (List.mem_flatMap.2 ⟨_, hm, by simp [Fact.foot, e]⟩) rfl
theorem Sat.apartB {S : List Nat} {w0 w : World} {K1 K2 : List Fact} {b : Nat} {t : TypeId} {cs : List Value} (h : Sat S w0 (K1 ++ K2) w) (hm : .blk b t cs ∈ K2) : Apart (feet K1) (some ⟨b, 0, none⟩) := fun b' hb hm1 => by
 have hnd := List.nodup_append.1 (feet_append K1 K2 ▸ h.nd)
 have e : b = b' := by simpa using hb
 subst e
 exact hnd.2.2 b hm1 b (List.mem_flatMap.2 ⟨_, hm, by simp [Fact.foot]⟩) rfl
end Go.Proofs.YtfaenhhgkhcghaaGreatDoor
namespace Go.Proofs.YtfaenhhgkhcghaaGreatDoor
set_option linter.all false
set_option linter.unusedVariables false
set_option linter.unusedSimpArgs false
open Go.RowKit
section
variable {W A : Option Addr} {nw cw nl cl : Nat} {f : Nat → Nat → Int} {x : Nat → Leg} {g : Nat → Nat → Nat → Int} {p0 p1 : Int} {w : World}
def ar2 (a b m n : Int) (i : Nat) : Nat → Int := fun j => if j < i then two (arV a m) (arV b n) j else two a b j
set_option maxRecDepth 100000 in
set_option maxHeartbeats 4000000 in
theorem cArrive_any (k : Nat) (a b : Int) (hk : k < nl) (h : LandIn w W nw A nl f x g) (h0 : 1 ≤ p0) (h1 : p0 ≤ p1) (h2 : p1 ≤ 100000) (hL : LegIn (x k).u (x k).n (g k)) (ha : 0 ≤ a ∧ a ≤ 100001) (hb : 0 ≤ b ∧ b ≤ 100001) :
  Calls Tryz.prog 73 #[.agg (carL W nw cw A nl cl p0 p1).toArray, .int .i64 (k : Int), .agg #[.int .i64 a, .int .i64 b]] w (Ret w (.agg #[.int .i64 (arV (lvF (g k) 0 3 a (dyB (x k).u p1) (x k).n) (dyB (x k).u p1)), .int .i64 (arV (lvF (g k) 1 2 b (dyS (x k).u p0) (x k).n) (dyS (x k).u p0))])) := by
 have hRA := h.hA
 have hnl := h.hnl
 have hd := dy_bd h0 h1 hL.l0 hL.l1 hL.l2
 obtain ⟨u, hu⟩ : ∃ y, y = lvF (g k) 0 3 a (dyB (x k).u p1) (x k).n := ⟨_, rfl⟩
 obtain ⟨v, hv⟩ : ∃ y, y = lvF (g k) 1 2 b (dyS (x k).u p0) (x k).n := ⟨_, rfl⟩
 have hul : u ≤ 100001 := hu ▸ lv_le _
 have hvl : v ≤ 100001 := hv ▸ lv_le _
 have hu0 : a ≤ u := hu ▸ lv_ge ha.2 _
 have hv0 : b ≤ v := hv ▸ lv_ge hb.2 _
 have fL := cLeave_any (w := w) (cw := cw) (cl := cl) k a b hk h h0 h1 h2 hL ha hb
 rw [← hu, ← hv]
 have fL := fun (w' : World) (h' : LandIn w' W nw A nl f x g) => cLeave_any (w := w') (cw := cw) (cl := cl) k a b hk h' h0 h1 h2 hL ha hb
 rw [← hu, ← hv] at fL
 clear hu hv
 obtain ⟨m, hm⟩ : ∃ y, y = dyB (x k).u p1 := ⟨_, rfl⟩
 obtain ⟨n, hn⟩ : ∃ y, y = dyS (x k).u p0 := ⟨_, rfl⟩
 have fD := fun (w' : World) (h' : RdR w' 5 A nl (fun k => legL (x k))) => cDays_any (W := W) (nw := nw) (cw := cw) (cl := cl) k hk hnl h0 h1 h2 hL.l0 hL.l1 hL.l2 h'
 rw [← hm, ← hn] at fD hd ⊢
 clear hm hn
 unfold carL at fL fD ⊢
 refine K_enter (S := []) (K := []) Tryz.func73 rfl Tryz.ntmps73 rfl (Sat.start _) ?_
 refine TW.seq fun Y1 hY1 => TW.region ?_
 refine TL.m Mk.bx ?_
 intro b1
 refine TL.m Mk.bx ?_
 intro b2
 refine TL.m (Mk.al ty_zr152) ?_
 intro b3
 refine TL.nil (TQ.thenN (hY1 _ _ ?_))
 refine TW.seq fun Y2 hY2 => ?_
 refine TW.dw 9 ?_
 refine RK.tk (Pu.lds ty_ag140) ?_
 refine RK.tk Pu.mv ?_
 refine RK.tk (Pu.lds ty_ag152) ?_
 refine RK.keep ?_
 refine RK.tk (Pu.lds ty_ag140) ?_
 refine RK.tk Pu.mv ?_
 refine RK.keep ?_
 refine RK.float [.int .i64 0, .int .i64 0] ?_
 refine RK.float [.int .i64 0, .int .i64 0] ?_
 refine RK.ch [false, false] ?_ ⟨ty_zr152, ty_zr152, trivial⟩
 refine WK.cr rfl (enters Tryz.func103 rfl rfl) (fun w hw => by
   exact fL _ (h.ext (Chg.ext hw.chg))) ?_
 refine WK.cr rfl (enters Tryz.func117 rfl rfl) (fun w hw => by
   exact fD _ (hRA.sat hw Apart.nil)) ?_
 refine WK.n ?_
 intro b4
 intro b5
 first | refine TL.st ty_sz152 ?_ | refine TL.se ty_sz152 ?_
 first | refine TL.st ty_sz152 ?_ | refine TL.se ty_sz152 ?_
 refine TL.nil (TQ.thenN (hY2 _ _ ?_))
 refine TW.seq fun Y3 hY3 => ?_
 refine TW.seq fun Y4 hY4 => TW.region ?_
 refine TL.p Pu.mv ?_
 refine TL.nil (TQ.thenN (hY4 _ _ ?_))
 refine TW.block ?_
 refine TW.loop1 (fun (i : Nat) => [(17, .int .i64 (i : Int)), (7, .pointer (some ⟨b4, 0, none⟩)), (8, .pointer (some ⟨b5, 0, none⟩)), (6, .pointer (some ⟨b3, 0, none⟩))]) (fun i => [.own (some ⟨b4, 0, none⟩) 2 2 152 1 (rowV (ar2 u v m n i)), .own (some ⟨b5, 0, none⟩) 2 2 152 1 (rowV (two m n)), .blk b3 152 [.int .i64 0, .int .i64 0]]) (fun i => i ≤ 2) (fun i => 2 - i) 0 fs9 ?_ ?_ ?_
 exact KSub.ofBlk pk9 rfl (fun _ _ => rfl) rfl rfl (KSub.ofBlk pk9 rfl (fun _ _ => rfl) rfl rfl ks9)
 exact Nat.zero_le _
 rintro i hi Z0 hZ0
 refine TW.seq fun Y5 hY5 => TW.region ?_
 refine TL.p Pu.lt ?_
 refine TL.nil (TQ.thenN (hY5 _ _ ?_))
 refine TW.seq fun Y6 hY6 => ?_
 refine TW.cond rfl (fun hc0 => ?_) (fun hc0 => ?_)
 try simp only [zcb9] at hc0
 have hi2 : i < 2 := by omega
 have z1 : ar2 u v m n i i = two u v i := if_neg (by omega)
 have z2 := two_bd (a := u) (b := v) (lo := 0) (hi := 100001) (by omega) (by omega) i
 have z3 := two_bd (a := m) (b := n) (lo := 0) (hi := 1000000) (by omega) (by omega) i
 rw [← z1] at z2
 replace z1 := hidT z1
 refine TW.skip ?_
 refine TQ.thenN (hY6 _ _ ?_)
 refine TW.seq fun Y7 hY7 => ?_
 refine TW.block ?_
 refine TW.seq fun Y8 hY8 => TW.region ?_
 refine TL.p Pu.mv ?_
 refine TL.p Pu.as ?_
 refine TL.nil (TQ.thenN (hY8 _ _ ?_))
 refine TW.ex0k [.own (some ⟨b5, 0, none⟩) 2 2 152 1 (rowV (two m n)), .blk b3 152 [.int .i64 0, .int .i64 0]] ?_
 refine RG.tk 0 rfl Pu.mv ?_
 refine RG.tk 1 rfl Pu.mv ?_
 refine RG.tk 2 rfl (Pu.ea ty_ar152) ?_
 refine RG.tk 4 rfl Pu.mv ?_
 refine RG.tk 5 rfl (Pu.ea ty_ar152) ?_
 refine RG.tk 6 rfl (Pu.ld ty_sc3) ?_
 refine RG.a1 3 rfl (fun X3 hX3 => ?_)
 refine TL.p (Pu.ld ty_sc3) ?_
 refine TL.nil ?_
 refine TQ.nxt (hX3 _ _ hl9 ?_)
 refine RG.tk 7 rfl Pu.ad ?_
 refine RG.a1 8 rfl (fun X8 hX8 => ?_)
 refine TL.m Mk.bl ?_
 intro b6
 refine TL.nil ?_
 refine TQ.nxt (hX8 _ _ hl9 ?_)
 refine RG.a1 9 rfl (fun X9 hX9 => ?_)
 refine TL.call rfl (enters Tryz.func118 rfl rfl) (M := [.blk b6 3 _]) (List.Perm.refl _) rfl (fun w hw => by
   exact first1_any _ (self1 hw)) ?_
 rintro ⟨⟩
 refine TL.nil ?_
 refine TQ.nxt (hX9 _ _ hl9 ?_)
 refine RG.tk 10 rfl (Pu.ea ty_ar152) ?_
 refine RG.a1 11 rfl (fun X11 hX11 => ?_)
 first | refine TL.st ty_sz3 ?_ | refine TL.se ty_sz3 ?_
 refine TL.nil ?_
 refine TQ.nxt (hX11 _ _ hl9 ?_)
 refine RG.nil ?_ (by kernel_rfl)
 refine TQ.blkN ?_
 refine TQ.thenN (hY7 _ _ ?_)
 refine TW.region ?_
 refine TL.p Pu.ad ?_
 refine TL.p Pu.mv ?_
 refine TL.nil ?_
 refine TQ.thenN (hZ0 (i + 1) _ _ ?_ ?_ fs9 ?_)
 exact (by omega)
 exact zom9
 refine KSub.own pk9 (fun j hj => ?_) ks9
 simp only [rowV, ar2, updR]
 by_cases e : j = i
 subst e
 rw [if_pos rfl, if_neg (by omega : ¬ j < j), if_pos (by omega : j < j + 1)]
 have hj2 : j = 0 ∨ j = 1 := by omega
 rcases hj2 with rfl | rfl <;> simp only [two, arV] <;> congr 2 <;> omega
 rw [if_neg e]
 by_cases l : j < i
 rw [if_pos l, if_pos (by omega)]
 rw [if_neg l, if_neg (by omega)]
 try simp only [zcb9] at hc0
 obtain rfl : i = 2 := by omega
 refine TW.exit ?_
 refine TQ.thenX ?_
 refine TQ.thenX ?_
 refine TQ.blkX ?_
 refine TQ.thenN (hY3 _ _ ?_)
 refine TW.seq fun Y9 hY9 => TW.region ?_
 refine TL.bo (b := b4) (cs := [.int .i64 (arV u m), .int .i64 (arV v n)]) pk9 rfl ?_
 refine TL.p (Pu.lds ty_ag152) ?_
 first | refine TL.st ty_sz152 ?_ | refine TL.se ty_sz152 ?_
 refine TL.nil (TQ.thenN (hY9 _ _ ?_))
 refine TW.ret ?_
 refine TQ.ret Tryz.results73 rfl ((RV.cs ty_ag152 .nil)) ?_
 exact fun w hw => ⟨rfl, Chg.ext hw.chg⟩
end
def atW (u : Nat → Int) (well : Int) : Prop := u 0 = well ∨ u 1 = well
instance {u : Nat → Int} {well : Int} : Decidable (atW u well) := inferInstanceAs (Decidable (_ ∨ _))
def ldL (u : Nat → Nat → Int) (well : Int) : Nat → List (Int × Int)
 | 0 => []
 | k + 1 => if atW (u k) well then ldL u well k ++ [((k : Int), othV (u k) well)] else ldL u well k
theorem ld_yes {u : Nat → Nat → Int} {well : Int} {k : Nat} (h : atW (u k) well) : ldL u well (k + 1) = ldL u well k ++ [((k : Int), othV (u k) well)] := if_pos h
theorem ld_no {u : Nat → Nat → Int} {well : Int} {k : Nat} (h : ¬ atW (u k) well) : ldL u well (k + 1) = ldL u well k := if_neg h
theorem ld_pre {u : Nat → Nat → Int} {well : Int} {k : Nat} : ∀ n, k ≤ n → ∃ M, ldL u well n = ldL u well k ++ M
  | 0, h => ⟨[], by obtain rfl : k = 0 := by omega
                    simp⟩
  | n + 1, h => by
    by_cases e : k = n + 1
    · subst e; exact ⟨[], by simp⟩
    · obtain ⟨M, hM⟩ := ld_pre (u := u) (well := well) (k := k) n (by omega)
      by_cases a : atW (u n) well
      · rw [ld_yes a, hM]; exact ⟨M ++ [((n : Int), othV (u n) well)], by simp⟩
      · rw [ld_no a, hM]; exact ⟨M, rfl⟩
theorem ld_get {u : Nat → Nat → Int} {well : Int} {k n : Nat} (hk : k < n) (h : atW (u k) well) : (ldL u well k).length < (ldL u well n).length ∧ (ldL u well n).getD (ldL u well k).length (0, 0) = ((k : Int), othV (u k) well) := by
 obtain ⟨M, hM⟩ := ld_pre (u := u) (well := well) (k := k + 1) n hk
 rw [hM, ld_yes h]
 refine ⟨by simp, ?_⟩
 simp [List.getD_eq_getElem?_getD]
theorem ld_in {u : Nat → Nat → Int} {well : Int} {t : Int × Int} : ∀ n, t ∈ ldL u well n → ∃ k, k < n ∧ atW (u k) well ∧ t = ((k : Int), othV (u k) well)
 | 0, h => by cases h
 | n + 1, h => by
  by_cases a : atW (u n) well
  · rw [ld_yes a] at h
    rcases List.mem_append.1 h with h | h
    · obtain ⟨k, hk, h⟩ := ld_in n h
      exact ⟨k, by omega, h⟩
    · exact ⟨n, by omega, a, List.mem_singleton.1 h⟩
  · rw [ld_no a] at h
    obtain ⟨k, hk, h⟩ := ld_in n h
    exact ⟨k, by omega, h⟩
theorem getD_in {L : List (Int × Int)} {q : Nat} (h : q < L.length) : L.getD q (0, 0) ∈ L := by
 rw [List.getD_eq_getElem?_getD, List.getElem?_eq_getElem h]
 exact List.getElem_mem h
theorem end_hit {u : Nat → Nat → Int} {leg well : Int} {nl q : Nat} (hq : q < (ldL u well nl).length) (h : ((ldL u well nl).getD q (0, 0)).1 = leg) : endV nl u leg well = ((ldL u well nl).getD q (0, 0)).2 := by
 obtain ⟨k, hk, ha, e⟩ := ld_in nl (getD_in hq)
 rw [e] at h ⊢
 subst h
 unfold endV
 rw [if_pos ⟨by omega, by simp; omega⟩]
 simp
theorem end_none {u : Nat → Nat → Int} {leg well : Int} {nl : Nat} (h : ∀ q, q < (ldL u well nl).length → ((ldL u well nl).getD q (0, 0)).1 ≠ leg) : endV nl u leg well = -1 := by
  unfold endV
  split
  · next hl =>
    unfold othV
    by_cases a : atW (u leg.toNat) well
    · obtain ⟨h1, h2⟩ := ld_get (k := leg.toNat) (n := nl) (by omega) a
      exact absurd (by rw [h2]; simp; omega) (h _ h1)
    · unfold atW at a
      rw [if_neg (fun e => a (.inl e)), if_neg (fun e => a (.inr e))]
  · rfl
theorem oth_from {u : Nat → Int} {well : Int} (h : u 0 = well) : othV u well = u 1 := if_pos h
theorem oth_to {u : Nat → Int} {well : Int} (h : ¬ u 0 = well) (h2 : u 1 = well) : othV u well = u 0 := by unfold othV; rw [if_neg h, if_pos h2]
section
variable {W A : Option Addr} {nw cw nl cl : Nat} {x : Nat → Leg} {p0 p1 : Int} {w : World}
def ledM (W : Option Addr) (nw cw : Nat) (A : Option Addr) (nl cl : Nat) (p0 p1 well : Int) (bc bw : Nat) : List Fact := [.blk bc 140 (carL W nw cw A nl cl p0 p1), .blk bw 3 [.int .i64 well]]
theorem leads_any (well : Int) : CallsK Tryz.prog 72 #[.agg (carL W nw cw A nl cl p0 p1).toArray, .int .i64 well] [] w (Nat × Nat) (fun y => .func (.func 116) #[] #[.pointer (some ⟨y.1, 0, none⟩), .pointer (some ⟨y.2, 0, none⟩)]) (fun y => ledM W nw cw A nl cl p0 p1 well y.1 y.2) := by
 unfold ledM carL
 refine K_enter (S := []) (K := []) Tryz.func72 rfl Tryz.ntmps72 rfl (Sat.start _) ?_
 refine TW.seq fun Y1 hY1 => TW.region ?_
 refine TL.m Mk.bx ?_
 intro b1
 refine TL.m Mk.bx ?_
 intro b2
 refine TL.p Pu.as ?_
 refine TL.nil (TQ.thenN (hY1 _ _ ?_))
 refine TW.seq fun Y2 hY2 => TW.region ?_
 refine TL.p Pu.fn ?_
 refine TL.p Pu.as ?_
 refine TL.nil (TQ.thenN (hY2 _ _ ?_))
 refine TW.ret ?_
 refine TQ.ret Tryz.results72 rfl ((.tmp rfl .nil)) ?_
 exact fun w hw => ⟨(b1, b2), rfl, hw.sub ks9⟩
set_option maxRecDepth 100000 in
set_option maxHeartbeats 1000000 in
theorem leads1_iter {bc bw : Nat} {well : Int} {S : List Nat} {W0 : World} {R : Type} {J : Nat → R → List Fact} (hR : RdR W0 5 A nl (fun k => legL (x k))) (hA : Apart S A) (hnl : nl ≤ 1000) :
  IterR Tryz.prog 116 [.pointer (some ⟨bc, 0, none⟩), .pointer (some ⟨bw, 0, none⟩)] (ledM W nw cw A nl cl p0 p1 well bc bw) Unit (fun q _ => [.int .i64 ((ldL (fun k => (x k).u) well nl).getD q (0, 0)).1, .int .i64 ((ldL (fun k => (x k).u) well nl).getD q (0, 0)).2]) (fun _ _ => ledM W nw cw A nl cl p0 p1 well bc bw) (fun _ _ => ledM W nw cw A nl cl p0 p1 well bc bw) (ldL (fun k => (x k).u) well nl).length [] S W0 R J := by
 intro lY Rx Jx r0 w9 hS hround
 unfold ledM carL at hS hround
 refine K_enterW (S := S) (K := .blk bc 140 _ :: .blk bw 3 [.int .i64 well] :: J 0 r0) Tryz.func116 rfl Tryz.ntmps116 rfl hS ?_
 refine TW.seq fun Y1 hY1 => TW.region ?_
 refine TL.p (by first | exact Pu.fb ty_fa140_0 | exact Pu.fe ty_fa140_0) ?_
 refine TL.p (by first | exact Pu.fb ty_fa25_1 | exact Pu.fe ty_fa25_1) ?_
 refine TL.p (by first | exact (Pu.ld ty_sc23) | exact (Pu.ldo ty_sc23)) ?_
 refine TL.p (Pu.ln Tryz.underlying23) ?_
 refine TL.p Pu.mv ?_
 refine TL.nil (TQ.thenN (hY1 _ _ ?_))
 refine TW.block ?_
 refine TW.loop2 (fun (k : Nat) (r : R) => [(10, .int .i64 (k : Int)), (9, .int .i64 (nl : Int)), (8, .slice A nl cl), (0, .func (.yield lY) #[] #[]), (2, .pointer (some ⟨bw, 0, none⟩))]) (fun k r => .blk bc 140 [.slice W nw cw, .slice A nl cl, .int .i64 p0, .int .i64 p1] :: .blk bw 3 [.int .i64 well] :: J (ldL (fun k => (x k).u) well k).length r) (fun k r => k ≤ nl) (fun k r => nl - k) 0 r0 fs9 ?_ ?_ ?_
 exact kt9
 exact Nat.zero_le _
 rintro k r hk Z0 hZ0
 refine TW.seq fun Y2 hY2 => TW.region ?_
 refine TL.p Pu.lt ?_
 refine TL.nil (TQ.thenN (hY2 _ _ ?_))
 refine TW.seq fun Y3 hY3 => ?_
 refine TW.cond rfl (fun hc0 => ?_) (fun hc0 => ?_)
 try simp only [zcb9] at hc0
 have hkn : k < nl := by omega
 refine TW.skip ?_
 refine TQ.thenN (hY3 _ _ ?_)
 refine TW.seq fun Y4 hY4 => ?_
 refine TW.block ?_
 refine TW.seq fun Y5 hY5 => TW.region ?_
 refine TL.p Pu.mv ?_
 refine TL.p (Pu.el ty_et23) ?_
 refine TL.p (by first | exact (Pu.lds ty_ag107) | exact (Pu.ldso ty_ag107)) ?_
 refine TL.m (Mk.al ty_zr107) ?_
 intro b1
 refine TL.p Pu.as ?_
 first | refine TL.st ty_sz107 ?_ | refine TL.se ty_sz107 ?_
 refine TL.nil (TQ.thenN (hY5 _ _ ?_))
 refine TW.seq fun Y6 hY6 => TW.region ?_
 refine TL.p (by first | exact (Pu.ld ty_sc3) | exact (Pu.ldo ty_sc3)) ?_
 refine TL.nil (TQ.thenN (hY6 _ _ ?_))
 refine TW.block ?_
 refine TW.seq fun Y7 hY7 => TW.region ?_
 refine TL.p (by first | exact Pu.fb ty_fa107_0 | exact Pu.fe ty_fa107_0) ?_
 refine TL.p (by first | exact (Pu.ld ty_sc3) | exact (Pu.ldo ty_sc3)) ?_
 refine TL.p Pu.eq ?_
 refine TL.p Pu.as ?_
 refine TL.nil (TQ.thenN (hY7 _ _ ?_))
 refine TW.cond rfl (fun hc1 => ?_) (fun hc1 => ?_)
 try simp only [zcb9] at hc1
 have ha : atW (x k).u well := .inl (by omega)
 obtain ⟨hg1, hg2⟩ := ld_get (u := fun k => (x k).u) hkn ha
 rw [oth_from (by omega)] at hg2
 have hs : (ldL (fun k => (x k).u) well (k + 1)).length = (ldL (fun k => (x k).u) well k).length + 1 := by rw [ld_yes ha]; simp
 replace hg2 := hidT hg2
 replace hs := hidT hs
 refine TW.seq fun Y8 hY8 => ?_
 refine TW.regionI ?_
 refine TLi.op (fun U1 hU1 => ?_) (by rintro ⟨_, _, h⟩; first | exact h | (obtain ⟨⟨_, h⟩, _⟩ := h; cases h) | cases h)
 refine TL.p Pu.mv ?_
 refine TL.nil ?_
 refine TQ.nxt (hU1 _ _ ?_)
 refine TLi.op (fun U2 hU2 => ?_) (by rintro ⟨_, _, h⟩; first | exact h | (obtain ⟨⟨_, h⟩, _⟩ := h; cases h) | cases h)
 refine TL.p Pu.mv ?_
 refine TL.nil ?_
 refine TQ.nxt (hU2 _ _ ?_)
 refine TLi.op (fun U3 hU3 => ?_) (by rintro ⟨_, _, h⟩; first | exact h | (obtain ⟨⟨_, h⟩, _⟩ := h; cases h) | cases h)
 refine TL.p (by first | exact Pu.fb ty_fa107_1 | exact Pu.fe ty_fa107_1) ?_
 refine TL.nil ?_
 refine TQ.nxt (hU3 _ _ ?_)
 refine TLi.op (fun U4 hU4 => ?_) (by rintro ⟨_, _, h⟩; first | exact h | (obtain ⟨⟨_, h⟩, _⟩ := h; cases h) | cases h)
 refine TL.p (by first | exact (Pu.ld ty_sc3) | exact (Pu.ldo ty_sc3)) ?_
 refine TL.nil ?_
 refine TQ.nxt (hU4 _ _ ?_)
 refine TLi.yi rfl rfl (fun w hw => by
   have h9 := hround (ldL (fun k => (x k).u) well k).length () r w hg1 (hw.sub (KSub.drop (KSub.refl _)))
   simp only [hg2.out] at h9
   exact h9) ?_ ?_
 intro r
 refine TLi.op (fun U5 hU5 => ?_) (by rintro ⟨_, _, h⟩; first | exact h | (obtain ⟨⟨_, h⟩, _⟩ := h; cases h) | cases h)
 refine TL.p Pu.no ?_
 refine TL.nil ?_
 refine TQ.nxt (hU5 _ _ ?_)
 refine TLi.nil ?_
 refine TQ.thenN (hY8 _ _ ?_)
 refine TW.condF rfl rfl ?_
 refine TW.skip ?_
 refine TQ.blkN ?_
 refine TQ.blkN ?_
 refine TQ.thenN (hY4 _ _ ?_)
 refine TW.region ?_
 refine TL.p Pu.ad ?_
 refine TL.p Pu.mv ?_
 refine TL.nil ?_
 refine TQ.thenN (hZ0 (k + 1) r _ _ ?_ ?_ fs9 ?_)
 exact (by omega)
 exact zom9
 first
  | (rw [hs.out]; exact KSub.refl _)
  | (rw [hs.out]; exact KSub.drop (KSub.refl _))
 intro x'
 refine TLi.op (fun U6 hU6 => ?_) (by rintro ⟨_, _, h⟩; first | exact h | (obtain ⟨⟨_, h⟩, _⟩ := h; cases h) | cases h)
 refine TL.p Pu.no ?_
 refine TL.nil ?_
 refine TQ.nxt (hU6 _ _ ?_)
 refine TLi.nil ?_
 refine TQ.thenN (hY8 _ _ ?_)
 refine TW.condT rfl rfl ?_
 refine TW.ret ?_
 refine TQ.blkR ?_
 refine TQ.blkR ?_
 refine TQ.thenR ?_
 refine TQ.thenR ?_
 refine TQ.blkR ?_
 refine TQ.ret Tryz.results116 rfl (.nil) ?_
 exact fun w hw => ⟨⟨_, rfl⟩, .inr ⟨x', hw.sub (KSub.dropL _ (KSub.refl _))⟩⟩
 try simp only [zcb9] at hc1
 have hn0 : ¬ (x k).u 0 = well := by omega
 refine TW.seq fun Y9 hY9 => TW.region ?_
 refine TL.p (by first | exact Pu.fb ty_fa107_1 | exact Pu.fe ty_fa107_1) ?_
 refine TL.p (by first | exact (Pu.ld ty_sc3) | exact (Pu.ldo ty_sc3)) ?_
 refine TL.p Pu.eq ?_
 refine TL.p Pu.as ?_
 refine TL.nil (TQ.thenN (hY9 _ _ ?_))
 refine TW.cond rfl (fun hc3 => ?_) (fun hc3 => ?_)
 try simp only [zcb9] at hc3
 have ha : atW (x k).u well := .inr (by omega)
 obtain ⟨hg1, hg2⟩ := ld_get (u := fun k => (x k).u) hkn ha
 rw [oth_to hn0 (by omega)] at hg2
 have hs : (ldL (fun k => (x k).u) well (k + 1)).length = (ldL (fun k => (x k).u) well k).length + 1 := by rw [ld_yes ha]; simp
 replace hg2 := hidT hg2
 replace hs := hidT hs
 refine TW.seq fun Y10 hY10 => ?_
 refine TW.regionI ?_
 refine TLi.op (fun U7 hU7 => ?_) (by rintro ⟨_, _, h⟩; first | exact h | (obtain ⟨⟨_, h⟩, _⟩ := h; cases h) | cases h)
 refine TL.p Pu.mv ?_
 refine TL.nil ?_
 refine TQ.nxt (hU7 _ _ ?_)
 refine TLi.op (fun U8 hU8 => ?_) (by rintro ⟨_, _, h⟩; first | exact h | (obtain ⟨⟨_, h⟩, _⟩ := h; cases h) | cases h)
 refine TL.p Pu.mv ?_
 refine TL.nil ?_
 refine TQ.nxt (hU8 _ _ ?_)
 refine TLi.op (fun U9 hU9 => ?_) (by rintro ⟨_, _, h⟩; first | exact h | (obtain ⟨⟨_, h⟩, _⟩ := h; cases h) | cases h)
 refine TL.p (by first | exact Pu.fb ty_fa107_0 | exact Pu.fe ty_fa107_0) ?_
 refine TL.nil ?_
 refine TQ.nxt (hU9 _ _ ?_)
 refine TLi.op (fun U10 hU10 => ?_) (by rintro ⟨_, _, h⟩; first | exact h | (obtain ⟨⟨_, h⟩, _⟩ := h; cases h) | cases h)
 refine TL.p (by first | exact (Pu.ld ty_sc3) | exact (Pu.ldo ty_sc3)) ?_
 refine TL.nil ?_
 refine TQ.nxt (hU10 _ _ ?_)
 refine TLi.yi rfl rfl (fun w hw => by
   have h9 := hround (ldL (fun k => (x k).u) well k).length () r w hg1 (hw.sub (KSub.drop (KSub.refl _)))
   simp only [hg2.out] at h9
   exact h9) ?_ ?_
 intro r
 refine TLi.op (fun U11 hU11 => ?_) (by rintro ⟨_, _, h⟩; first | exact h | (obtain ⟨⟨_, h⟩, _⟩ := h; cases h) | cases h)
 refine TL.p Pu.no ?_
 refine TL.nil ?_
 refine TQ.nxt (hU11 _ _ ?_)
 refine TLi.nil ?_
 refine TQ.thenN (hY10 _ _ ?_)
 refine TW.condF rfl rfl ?_
 refine TW.skip ?_
 refine TQ.blkN ?_
 refine TQ.blkN ?_
 refine TQ.thenN (hY4 _ _ ?_)
 refine TW.region ?_
 refine TL.p Pu.ad ?_
 refine TL.p Pu.mv ?_
 refine TL.nil ?_
 refine TQ.thenN (hZ0 (k + 1) r _ _ ?_ ?_ fs9 ?_)
 exact (by omega)
 exact zom9
 first
  | (rw [hs.out]; exact KSub.refl _)
  | (rw [hs.out]; exact KSub.drop (KSub.refl _))
 intro x'
 refine TLi.op (fun U12 hU12 => ?_) (by rintro ⟨_, _, h⟩; first | exact h | (obtain ⟨⟨_, h⟩, _⟩ := h; cases h) | cases h)
 refine TL.p Pu.no ?_
 refine TL.nil ?_
 refine TQ.nxt (hU12 _ _ ?_)
 refine TLi.nil ?_
 refine TQ.thenN (hY10 _ _ ?_)
 refine TW.condT rfl rfl ?_
 refine TW.ret ?_
 refine TQ.blkR ?_
 refine TQ.blkR ?_
 refine TQ.thenR ?_
 refine TQ.thenR ?_
 refine TQ.blkR ?_
 refine TQ.ret Tryz.results116 rfl (.nil) ?_
 exact fun w hw => ⟨⟨_, rfl⟩, .inr ⟨x', hw.sub (KSub.dropL _ (KSub.refl _))⟩⟩
 try simp only [zcb9] at hc3
 have ha : ¬ atW (x k).u well := fun h => h.elim hn0 (by omega)
 have hs : (ldL (fun k => (x k).u) well (k + 1)).length = (ldL (fun k => (x k).u) well k).length := by rw [ld_no ha]
 replace hs := hidT hs
 refine TW.skip ?_
 refine TQ.blkN ?_
 refine TQ.blkN ?_
 refine TQ.thenN (hY4 _ _ ?_)
 refine TW.region ?_
 refine TL.p Pu.ad ?_
 refine TL.p Pu.mv ?_
 refine TL.nil ?_
 refine TQ.thenN (hZ0 (k + 1) r _ _ ?_ ?_ fs9 ?_)
 exact (by omega)
 exact zom9
 first
  | (rw [hs.out]; exact KSub.refl _)
  | (rw [hs.out]; exact KSub.drop (KSub.refl _))
 try simp only [zcb9] at hc0
 obtain rfl : k = nl := by omega
 refine TW.exit ?_
 refine TQ.thenX ?_
 refine TQ.thenX ?_
 refine TQ.blkX ?_
 refine TQ.end Tryz.results116 rfl (.nil) ?_
 exact fun w hw => ⟨⟨_, rfl⟩, .inl ⟨r, hw.sub (KSub.drop (KSub.drop (KSub.refl _)))⟩⟩
end
end Go.Proofs.YtfaenhhgkhcghaaGreatDoor
namespace Go.Proofs.YtfaenhhgkhcghaaGreatDoor
set_option linter.all false
set_option linter.unusedVariables false
set_option linter.unusedSimpArgs false
open Go.RowKit
def badT : Fact := .obj 0 (.cells #[] 0 (0, 0))
theorem no_badT {S : List Nat} {w0 w : World} {K : List Fact} (h : Sat S w0 K w) (hm : badT ∈ K) : False := by
 have h1 := (h.holds badT hm).2
 cases h1
section
variable {W A : Option Addr} {nw cw nl cl : Nat} {x : Nat → Leg} {p0 p1 : Int} {w : World}
def notB (u : Nat → Nat → Int) (well : Int) (nl : Nat) (leg : Int) (q : Nat) : Bool := allB q fun j => !decide (((ldL u well nl).getD j (0, 0)).1 = leg)
theorem notB_iff {u : Nat → Nat → Int} {well leg : Int} {nl q : Nat} : notB u well nl leg q = true ↔ ∀ j, j < q → ((ldL u well nl).getD j (0, 0)).1 ≠ leg := by
 unfold notB
 rw [allB_iff]
 exact ⟨fun h j hj => by have := h j hj; simpa using this, fun h j hj => by have := h j hj; simpa using this⟩
set_option maxRecDepth 100000 in
set_option maxHeartbeats 1000000 in
theorem cEnd_any (leg well : Int) (hR : RdR w 5 A nl (fun k => legL (x k))) (hnl : nl ≤ 1000) :
  Calls Tryz.prog 102 #[.agg (carL W nw cw A nl cl p0 p1).toArray, .int .i64 leg, .int .i64 well] w (Ret w (.int .i64 (endV nl (fun k => (x k).u) leg well))) := by
 unfold carL
 refine K_enterM (S := []) (K := []) Tryz.func102 rfl Tryz.ntmps102 rfl (Sat.start _) ?_
 refine TW.seqD fun Y1 hY1 => ?_
 refine TW.region ?_
 refine TL.m Mk.bx ?_
 intro b1
 refine TL.m Mk.bx ?_
 intro b2
 refine TL.m (Mk.al ty_zr3) ?_
 intro b3
 refine TL.nil ?_
 refine TQ.thenN (hY1 _ _ _ ?_)
 refine TW.seqD fun Y2 hY2 => ?_
 refine TW.seqD fun Y3 hY3 => ?_
 refine TW.region ?_
 refine TL.p (Pu.lds ty_ag140) ?_
 refine TL.p Pu.mv ?_
 refine TL.call (M := []) rfl (enters Tryz.func72 rfl rfl) (List.Perm.refl _) rfl (fun w hw => by
   exact leads_any (W := W) (nw := nw) (cw := cw) (A := A) (nl := nl) (cl := cl) (p0 := p0) (p1 := p1) well) ?_
 rintro ⟨bc, bw⟩
 refine TL.nil ?_
 refine TQ.thenN (hY3 _ _ _ ?_)
 refine TW.block ?_
 refine TW.rangeR (fun (q : Nat) (_ : Unit) => if notB (fun k => (x k).u) well nl leg q = true then .blk b2 3 [.int .i64 leg] :: .blk b3 3 [.int .i64 0] :: [] else [badT]) (fun _ : { q : Nat // q < (ldL (fun k => (x k).u) well nl).length ∧ ((ldL (fun k => (x k).u) well nl).getD q (0, 0)).1 = leg } => Code.ret) (fun u => .blk b3 3 [.int .i64 ((ldL (fun k => (x k).u) well nl).getD u.1 (0, 0)).2] :: []) (()) (fun a b => leads1_iter (bc := bc) (bw := bw) (W := W) (nw := nw) (cw := cw) (cl := cl) (p0 := p0) (p1 := p1) (well := well) hR Apart.nil hnl) ?_ ?_ ?_ ?_ (eg := enters Tryz.func116 rfl rfl)
 rw [if_pos (notB_iff.2 fun j hj => by omega)]
 exact KSub.cons pk9 (KSub.cons pk9 ks9)
 rintro lR DR oR oR1 oR2 q g r hq ZR0 hZR0
 by_cases hno : notB (fun k => (x k).u) well nl leg q = true
 case neg => exact fun a w hF hK => (no_badT hK (by rw [if_neg hno]; simp)).elim
 simp only [if_pos hno, ledM, List.cons_append, List.nil_append]
 refine TWi.seq fun Y4 hY4 => ?_
 refine TWi.region ?_
 refine TL.p Pu.as ?_
 refine TL.nil (TQ.thenN (hY4 _ _ ?_))
 refine TWi.region ?_
 refine TL.p Pu.as ?_
 refine TL.nil ?_
 refine TQ.thenN (hZR0 _ _ _ Pick.hd ?_)
 refine TWi.block ?_
 refine TWi.seq fun Y5 hY5 => ?_
 refine TWi.region ?_
 refine TL.p Pu.mv ?_
 refine TL.p (Pu.ld ty_sc3) ?_
 refine TL.p Pu.eq ?_
 refine TL.nil (TQ.thenN (hY5 _ _ ?_))
 refine TWi.cond rfl (fun hc0 => ?_) (fun hc0 => ?_)
 try simp only [zcb9] at hc0
 have hyes : ((ldL (fun k => (x k).u) well nl).getD q (0, 0)).1 = leg := by omega
 refine TWi.seq fun Y6 hY6 => ?_
 refine TWi.region ?_
 refine TL.p Pu.mv ?_
 first | refine TL.st ty_sz3 ?_ | refine TL.se ty_sz3 ?_
 refine TL.nil (TQ.thenN (hY6 _ _ ?_))
 refine TWi.ret ?_
 refine TQ.blkR ?_
 refine TQ.rbR (⟨q, hq, hyes⟩) rfl ?_
 simp only [ledM, List.cons_append, List.nil_append]
 exact KSub.cons pk9 (KSub.cons pk9 (KSub.cons pk9 (KSub.cons pk9 (KSub.cons pk9 KSub.nil))))
 try simp only [zcb9] at hc0
 have hno1 : notB (fun k => (x k).u) well nl leg (q + 1) = true := notB_iff.2 fun j hj => (Nat.lt_succ_iff_lt_or_eq.1 hj).elim (notB_iff.1 hno j) (fun e => by subst e; omega)
 refine TWi.skip ?_
 refine TQ.blkN ?_
 refine TQ.rbN (()) ?_
 simp only [if_pos hno1, ledM, List.cons_append, List.nil_append]
 exact KSub.cons pk9 (KSub.cons pk9 (KSub.cons pk9 (KSub.cons pk9 (KSub.cons pk9 (KSub.cons pk9 KSub.nil)))))
 rintro DR r
 by_cases hno : notB (fun k => (x k).u) well nl leg (ldL (fun k => (x k).u) well nl).length = true
 case neg => exact fun a w hF hK => (no_badT hK (by rw [if_neg hno]; simp)).elim
 simp only [if_pos hno, List.nil_append]
 have he := end_none (notB_iff.1 hno)
 refine TQ.blkN ?_
 refine TQ.thenN (hY2 _ _ _ ?_)
 refine TW.seqD fun Y7 hY7 => ?_
 refine TW.region ?_
 first | refine TL.st ty_sz3 ?_ | refine TL.se ty_sz3 ?_
 refine TL.nil ?_
 refine TQ.thenN (hY7 _ _ _ ?_)
 refine TW.ret ?_
 refine TQ.retM Tryz.results102 pk9 ((RV.c1 ty_sc3 .nil)) ?_
 exact fun w hw => ⟨by rw [he]; rfl, Chg.ext hw.chg⟩
 rintro DR ⟨u, hu1, hu2⟩
 have he := end_hit hu1 hu2
 refine TW.ret ?_
 refine TQ.blkR ?_
 refine TQ.thenR ?_
 refine TQ.retM Tryz.results102 pk9 ((RV.c1 ty_sc3 .nil)) ?_
 exact fun w hw => ⟨by rw [he]; rfl, Chg.ext hw.chg⟩
end
section
variable {W A : Option Addr} {nw cw nl cl : Nat} {f : Nat → Nat → Int} {x : Nat → Leg} {g : Nat → Nat → Nat → Int} {p0 p1 : Int} {w : World}
set_option maxRecDepth 100000 in
theorem cOpen_ok (h : LandIn w W nw A nl f x g) (hk : askC nw nl f x g p0 p1 = 0) :
  Calls Tryz.prog 68 #[.agg (landL W nw cw A nl cl).toArray, .agg #[.int .i64 p0, .int .i64 p1]] w (Ret w (.tuple #[.agg (carL W nw cw A nl cl p0 p1).toArray, .int .i64 0])) := by
 have h1 : landOk nw nl f x g = true := by
  unfold askC at hk
  split at hk
  assumption
  cases hk
 have h2 : ordB5 1 100000 p0 p1 = true := by
  unfold askC at hk
  rw [if_pos h1] at hk
  split at hk
  assumption
  cases hk
 clear hk
 unfold landL carL
 refine K_enter (S := []) (K := []) Tryz.func68 rfl Tryz.ntmps68 rfl (Sat.start _) ?_
 refine TW.seq fun Y1 hY1 => TW.region ?_
 refine TL.m Mk.bx ?_
 intro b1
 refine TL.m Mk.bx ?_
 intro b2
 refine TL.m (Mk.al ty_zr140) ?_
 intro b3
 refine TL.p Pu.as ?_
 refine TL.nil (TQ.thenN (hY1 _ _ ?_))
 refine TW.seq fun Y2 hY2 => ?_
 refine TW.seq fun Y3 hY3 => TW.region ?_
 refine TL.p (Pu.lds ty_ag25) ?_
 refine TL.cr rfl (enters Tryz.func44 rfl rfl) (fun w hw => by
   have h9 := wayCheck_any (cw := cw) (cl := cl) (h.ext (Chg.ext hw.chg))
   rw [if_pos h1] at h9
   exact h9) ?_
 refine TL.p Pu.as ?_
 refine TL.nil (TQ.thenN (hY3 _ _ ?_))
 refine TW.seq fun Y4 hY4 => TW.region ?_
 refine TL.p Pu.mv ?_
 refine TL.p Pu.ne ?_
 refine TL.nil (TQ.thenN (hY4 _ _ ?_))
 refine TW.condF rfl (rfl) ?_
 refine TW.skip ?_
 refine TQ.thenN (hY2 _ _ ?_)
 refine TW.seq fun Y5 hY5 => ?_
 refine TW.seq fun Y6 hY6 => TW.region ?_
 refine TL.p (Pu.lds ty_ag36) ?_
 refine TL.m Mk.bl ?_
 intro b4
 refine TL.cr rfl (enters Tryz.func113 rfl rfl) (fun w hw => by
   have h9 := orderedOne_any 1 100000 p0 p1 (hw.holds _ (List.mem_cons_self ..))
   rw [h2] at h9
   exact h9) ?_
 refine TL.p Pu.no ?_
 refine TL.nil (TQ.thenN (hY6 _ _ ?_))
 refine TW.condF rfl (rfl) ?_
 refine TW.skip ?_
 refine TQ.thenN (hY5 _ _ ?_)
 refine TW.seq fun Y7 hY7 => TW.region ?_
 refine TL.p (Pu.lds ty_ag25) ?_
 refine TL.p (Pu.lds ty_ag36) ?_
 refine TL.p Pu.bd ?_
 first | refine TL.st ty_sz140 ?_ | refine TL.se ty_sz140 ?_
 refine TL.p Pu.as ?_
 refine TL.nil (TQ.thenN (hY7 _ _ ?_))
 refine TW.ret ?_
 refine TQ.ret Tryz.results68 rfl ((RV.cs ty_ag140 (.tmp rfl .nil))) ?_
 exact fun w hw => ⟨rfl, Chg.ext hw.chg⟩
theorem cOpen_bad (h : LandIn w W nw A nl f x g) (hk : askC nw nl f x g p0 p1 ≠ 0) :
  Calls Tryz.prog 68 #[.agg (landL W nw cw A nl cl).toArray, .agg #[.int .i64 p0, .int .i64 p1]] w (Ret w (.tuple #[.agg #[.slice none 0 0, .slice none 0 0, .int .i64 0, .int .i64 0], .int .i64 (askC nw nl f x g p0 p1)])) := by
 unfold landL
 refine K_enter (S := []) (K := []) Tryz.func68 rfl Tryz.ntmps68 rfl (Sat.start _) ?_
 refine TW.seq fun Y1 hY1 => TW.region ?_
 refine TL.m Mk.bx ?_
 intro b1
 refine TL.m Mk.bx ?_
 intro b2
 refine TL.m (Mk.al ty_zr140) ?_
 intro b3
 refine TL.p Pu.as ?_
 refine TL.nil (TQ.thenN (hY1 _ _ ?_))
 refine TW.seq fun Y2 hY2 => ?_
 refine TW.seq fun Y3 hY3 => TW.region ?_
 refine TL.p (Pu.lds ty_ag25) ?_
 refine TL.cr rfl (enters Tryz.func44 rfl rfl) (fun w hw => by
   exact wayCheck_any (h.ext (Chg.ext hw.chg))) ?_
 refine TL.p Pu.as ?_
 refine TL.nil (TQ.thenN (hY3 _ _ ?_))
 refine TW.seq fun Y4 hY4 => TW.region ?_
 refine TL.p Pu.mv ?_
 refine TL.p Pu.ne ?_
 refine TL.nil (TQ.thenN (hY4 _ _ ?_))
 refine TW.cond rfl (fun hc0 => ?_) (fun hc0 => ?_)
 try simp only [zcb9] at hc0
 have h1 : landOk nw nl f x g = false := by
  cases e : landOk nw nl f x g with
  | false => rfl
  | true => simp [e] at hc0
 refine TW.seq fun Y5 hY5 => TW.region ?_
 refine TL.p Pu.bd ?_
 refine TL.p Pu.mv ?_
 first | refine TL.st ty_sz140 ?_ | refine TL.se ty_sz140 ?_
 refine TL.p Pu.as ?_
 refine TL.nil (TQ.thenN (hY5 _ _ ?_))
 refine TW.ret ?_
 refine TQ.thenR ?_
 refine TQ.ret Tryz.results68 rfl ((RV.cs ty_ag140 (.tmp rfl .nil))) ?_
 exact fun w hw => ⟨by unfold askC; rw [h1]; rfl, Chg.ext hw.chg⟩
 try simp only [zcb9] at hc0
 have h1 : landOk nw nl f x g = true := by
  cases e : landOk nw nl f x g with
  | true => rfl
  | false => simp [e] at hc0
 refine TW.skip ?_
 refine TQ.thenN (hY2 _ _ ?_)
 refine TW.seq fun Y6 hY6 => ?_
 refine TW.seq fun Y7 hY7 => TW.region ?_
 refine TL.p (Pu.lds ty_ag36) ?_
 refine TL.m Mk.bl ?_
 intro b4
 refine TL.cr rfl (enters Tryz.func113 rfl rfl) (fun w hw => by
   exact orderedOne_any _ _ _ _ (hw.holds _ (List.mem_cons_self ..))) ?_
 refine TL.p Pu.no ?_
 refine TL.nil (TQ.thenN (hY7 _ _ ?_))
 refine TW.cond rfl (fun hc1 => ?_) (fun hc1 => ?_)
 try simp only [zcb9] at hc1
 have h2 : ordB5 1 100000 p0 p1 = false := by simpa using hc1
 refine TW.seq fun Y8 hY8 => TW.region ?_
 refine TL.p Pu.bd ?_
 first | refine TL.st ty_sz140 ?_ | refine TL.se ty_sz140 ?_
 refine TL.p Pu.as ?_
 refine TL.nil (TQ.thenN (hY8 _ _ ?_))
 refine TW.ret ?_
 refine TQ.thenR ?_
 refine TQ.ret Tryz.results68 rfl ((RV.cs ty_ag140 (.tmp rfl .nil))) ?_
 exact fun w hw => ⟨by unfold askC; rw [h1, h2]; rfl, Chg.ext hw.chg⟩
 try simp only [zcb9] at hc1
 have h2 : ordB5 1 100000 p0 p1 = true := by simpa using hc1
 exact absurd (by unfold askC; rw [if_pos h1, if_pos h2]) hk
end
end Go.Proofs.YtfaenhhgkhcghaaGreatDoor
namespace Go.Proofs.YtfaenhhgkhcghaaGreatDoor
set_option linter.all false
set_option linter.unusedVariables false
set_option linter.unusedSimpArgs false
open Go.RowKit
section
variable {Y : Wy} {W A L : Option Addr} {cw cl cn : Nat} {w : World}
theorem cEndY_any (h : LandIn w W Y.nw A Y.nl Y.f Y.x Y.g) (k : Nat) :
 Calls Tryz.prog 102 #[.agg (carL W Y.nw cw A Y.nl cl Y.p0 Y.p1).toArray, .int .i64 (Y.ls k), .int .i64 (wlY Y k)] w (Ret w (.int .i64 (wlY Y (k + 1)))) := cEnd_any _ _ h.hA h.hnl
theorem cLeaveY_any (ho : WyOk Y) (h : LandIn w W Y.nw A Y.nl Y.f Y.x Y.g) (k : Nat) (hk : 0 ≤ Y.ls k ∧ Y.ls k < Y.nl) (hs : 0 ≤ atBY Y k ∧ atBY Y k ≤ atSY Y k ∧ atSY Y k ≤ 100001) :
  Calls Tryz.prog 103 #[.agg (carL W Y.nw cw A Y.nl cl Y.p0 Y.p1).toArray, .int .i64 (Y.ls k), .agg #[.int .i64 (atBY Y k), .int .i64 (atSY Y k)]] w (Ret w (.agg #[.int .i64 (lvBY Y k), .int .i64 (lvSY Y k)])) := by
 have := cLeave_any (cw := cw) (cl := cl) (Y.ls k).toNat (atBY Y k) (atSY Y k) (by omega) h ho.h0 ho.h1 ho.h2 (ho.leg _ (by omega)) (by omega) (by omega)
 rw [Int.toNat_of_nonneg hk.1] at this
 exact this
theorem cArriveY_any (ho : WyOk Y) (h : LandIn w W Y.nw A Y.nl Y.f Y.x Y.g) (k : Nat) (hk : 0 ≤ Y.ls k ∧ Y.ls k < Y.nl) (hs : 0 ≤ atBY Y k ∧ atBY Y k ≤ atSY Y k ∧ atSY Y k ≤ 100001) :
  Calls Tryz.prog 73 #[.agg (carL W Y.nw cw A Y.nl cl Y.p0 Y.p1).toArray, .int .i64 (Y.ls k), .agg #[.int .i64 (atBY Y k), .int .i64 (atSY Y k)]] w (Ret w (.agg #[.int .i64 (atBY Y (k + 1)), .int .i64 (atSY Y (k + 1))])) := by
 have := cArrive_any (cw := cw) (cl := cl) (Y.ls k).toNat (atBY Y k) (atSY Y k) (by omega) h ho.h0 ho.h1 ho.h2 (ho.leg _ (by omega)) (by omega) (by omega)
 rw [Int.toNat_of_nonneg hk.1] at this
 exact this
set_option maxRecDepth 100000 in
set_option maxHeartbeats 4000000 in
theorem cWalk_any (h : LandIn w W Y.nw A Y.nl Y.f Y.x Y.g) (hn : Y.n ≤ 1000) (hR : RdR w 1 L Y.n (fun k => [.int .i64 (Y.ls k)])) :
  CallsK Tryz.prog 57 #[.agg (landL W Y.nw cw A Y.nl cl).toArray, .int .i64 Y.start, .int .i64 Y.day, .agg #[.int .i64 Y.p0, .int .i64 Y.p1], .slice L Y.n cn] [] w ((Option Addr × Nat) × Int) (wkR Y) (wkL Y) := by
 have hnw := h.hnw
 have hnl := h.hnl
 by_cases hok : okY Y = 0
 case neg =>
  unfold landL
  refine K_enter (S := []) (K := []) Tryz.func57 rfl Tryz.ntmps57 rfl (Sat.start _) ?_
  refine TW.seq fun Y1 hY1 => TW.region ?_
  refine TL.m Mk.bx ?_
  intro b1
  refine TL.m Mk.bx ?_
  intro b2
  refine TL.p Pu.as ?_
  refine TL.p Pu.as ?_
  refine TL.p Pu.as ?_
  refine TL.nil (TQ.thenN (hY1 _ _ ?_))
  refine TW.seq fun Y2 hY2 => TW.region ?_
  refine TL.p (Pu.lds ty_ag25) ?_
  refine TL.p (Pu.lds ty_ag36) ?_
  refine TL.cr rfl (enters Tryz.func68 rfl rfl) (fun w hw => by
   exact cOpen_bad (h.ext (Chg.ext hw.chg)) hok) ?_
  refine TL.p Pu.mv ?_
  refine TL.p Pu.ex ?_
  refine TL.p Pu.ex ?_
  refine TL.m (Mk.al ty_zr140) ?_
  intro b3
  first | refine TL.st ty_sz140 ?_ | refine TL.se ty_sz140 ?_
  refine TL.p Pu.as ?_
  refine TL.nil (TQ.thenN (hY2 _ _ ?_))
  refine TW.seq fun Y3 hY3 => ?_
  refine TW.block ?_
  refine TW.seq fun Y4 hY4 => TW.region ?_
  refine TL.p Pu.mv ?_
  refine TL.p Pu.ne ?_
  refine TL.p Pu.as ?_
  refine TL.nil (TQ.thenN (hY4 _ _ ?_))
  refine TW.condT rfl ((by show (!decide (okY Y = 0)) = true; simp [hok])) ?_
  refine TW.seq fun Y5 hY5 => TW.region ?_
  refine TL.p Pu.mv ?_
  refine TL.p Pu.as ?_
  refine TL.p Pu.as ?_
  refine TL.p Pu.as ?_
  refine TL.nil (TQ.thenN (hY5 _ _ ?_))
  refine TW.ret ?_
  refine TQ.blkR ?_
  refine TQ.thenR ?_
  refine TQ.ret Tryz.results57 rfl ((.tmp rfl (.tmp rfl (.tmp rfl .nil)))) ?_
  exact fun w hw => wk_bad hw (wkC_ask hok) hok
 case pos =>
  have ho := wyOk_of hok
  unfold landL
  have fW := fun (w' : World) (h' : LandIn w' W Y.nw A Y.nl Y.f Y.x Y.g) (k : Nat) => cEndY_any (cw := cw) (cl := cl) h' k
  have fL := fun (w' : World) (h' : LandIn w' W Y.nw A Y.nl Y.f Y.x Y.g) (k : Nat) => cLeaveY_any (cw := cw) (cl := cl) ho h' k
  have fA := fun (w' : World) (h' : LandIn w' W Y.nw A Y.nl Y.f Y.x Y.g) (k : Nat) => cArriveY_any (cw := cw) (cl := cl) ho h' k
  unfold carL at fW fL fA
  refine K_enter (S := []) (K := []) Tryz.func57 rfl Tryz.ntmps57 rfl (Sat.start _) ?_
  refine TW.seq fun Y1 hY1 => TW.region ?_
  refine TL.m Mk.bx ?_
  intro b1
  refine TL.m Mk.bx ?_
  intro b2
  refine TL.p Pu.as ?_
  refine TL.p Pu.as ?_
  refine TL.p Pu.as ?_
  refine TL.nil (TQ.thenN (hY1 _ _ ?_))
  refine TW.seq fun Y2 hY2 => TW.region ?_
  refine TL.p (Pu.lds ty_ag25) ?_
  refine TL.p (Pu.lds ty_ag36) ?_
  refine TL.cr rfl (enters Tryz.func68 rfl rfl) (fun w hw => by
   exact cOpen_ok (h.ext (Chg.ext hw.chg)) hok) ?_
  refine TL.p Pu.mv ?_
  refine TL.p Pu.ex ?_
  refine TL.p Pu.ex ?_
  refine TL.m (Mk.al ty_zr140) ?_
  intro b3
  first | refine TL.st ty_sz140 ?_ | refine TL.se ty_sz140 ?_
  refine TL.p Pu.as ?_
  refine TL.nil (TQ.thenN (hY2 _ _ ?_))
  refine TW.seq fun Y3 hY3 => ?_
  refine TW.block ?_
  refine TW.seq fun Y4 hY4 => TW.region ?_
  refine TL.p Pu.mv ?_
  refine TL.p Pu.ne ?_
  refine TL.p Pu.as ?_
  refine TL.nil (TQ.thenN (hY4 _ _ ?_))
  refine TW.condF rfl ((by simp)) ?_
  refine TW.seq fun Y5 hY5 => ?_
  refine TW.join [(32, .bool (!begY Y))] ?_ (fun hJ1 => ?_)
  refine TQ.thenN (hY5 _ _ ?_)
  refine TW.cond rfl (fun hc1 => ?_) (fun hc1 => ?_)
  try simp only [zcb9] at hc1
  have hb : begY Y = false := by simpa using hc1
  refine TW.seq fun Y6 hY6 => TW.region ?_
  refine TL.p Pu.as ?_
  refine TL.p Pu.as ?_
  refine TL.p Pu.as ?_
  refine TL.nil (TQ.thenN (hY6 _ _ ?_))
  refine TW.ret ?_
  refine TQ.blkR ?_
  refine TQ.thenR ?_
  refine TQ.ret Tryz.results57 rfl ((.tmp rfl (.tmp rfl (.tmp rfl .nil)))) ?_
  exact fun w hw => wk_bad hw (wkC_beg hok hb) (by omega)
  try simp only [zcb9] at hc1
  have hb : begY Y = true := by simpa using hc1
  refine TW.seq fun Y7 hY7 => TW.region ?_
  refine TL.p Pu.mv ?_
  refine TL.p (Pu.ln Tryz.underlying31) ?_
  refine TL.p Pu.gt ?_
  refine TL.p Pu.as ?_
  refine TL.nil (TQ.thenN (hY7 _ _ ?_))
  refine TW.cond rfl (fun hc2 => ?_) (fun hc2 => ?_)
  try simp only [zcb9] at hc2
  have h24 : 24 < Y.n := by omega
  refine TW.seq fun Y8 hY8 => TW.region ?_
  refine TL.p Pu.as ?_
  refine TL.p Pu.as ?_
  refine TL.p Pu.as ?_
  refine TL.nil (TQ.thenN (hY8 _ _ ?_))
  refine TW.ret ?_
  refine TQ.blkR ?_
  refine TQ.thenR ?_
  refine TQ.ret Tryz.results57 rfl ((.tmp rfl (.tmp rfl (.tmp rfl .nil)))) ?_
  exact fun w hw => wk_bad hw (wkC_many hok hb h24) (by omega)
  try simp only [zcb9] at hc2
  have h24 : ¬ 24 < Y.n := by omega
  refine TW.skip ?_
  refine TQ.blkN ?_
  refine TQ.thenN (hY3 _ _ ?_)
  refine TW.seq fun Y9 hY9 => TW.region ?_
  refine TL.p Pu.as ?_
  refine TL.nil (TQ.thenN (hY9 _ _ ?_))
  refine TW.seq fun Y10 hY10 => TW.region ?_
  refine TL.p Pu.mv ?_
  refine TL.p Pu.as ?_
  refine TL.nil (TQ.thenN (hY10 _ _ ?_))
  refine TW.seq fun Y11 hY11 => ?_
  refine TW.seq fun Y12 hY12 => TW.region ?_
  refine TL.p Pu.mv ?_
  refine TL.p (Pu.ln Tryz.underlying31) ?_
  refine TL.p Pu.mv ?_
  refine TL.nil (TQ.thenN (hY12 _ _ ?_))
  refine TW.block ?_
  refine TW.loop3 (fun (k : Nat) (E : Option Addr) (ce : Nat) => [(54, .int .i64 (k : Int)), (53, .int .i64 (Y.n : Int)), (52, .slice L Y.n cn), (15, .int .i64 (wlY Y k)), (14, .slice E k ce), (13, .pointer (some ⟨b3, 0, none⟩)), (10, .slice none 0 0), (2, .int .i64 Y.day), (4, .slice L Y.n cn)]) (fun k E ce => [.own E k ce 3 1 (rowV fun j => wlY Y (j + 1)), .blk b3 140 [.slice W Y.nw cw, .slice A Y.nl cl, .int .i64 Y.p0, .int .i64 Y.p1]]) (fun k E ce => k ≤ Y.n ∧ ∀ j, j < k → 0 ≤ wlY Y (j + 1)) (fun k E ce => Y.n - k) 0 none 0 fs9 ?_ ?_ ?_
  exact KSub.nilOwn ks9
  exact ⟨Nat.zero_le _, fun j hj => by omega⟩
  rintro k E ce ⟨hk, hall⟩ Z0 hZ0
  refine TW.seq fun Y13 hY13 => TW.region ?_
  refine TL.p Pu.lt ?_
  refine TL.nil (TQ.thenN (hY13 _ _ ?_))
  refine TW.seq fun Y14 hY14 => ?_
  refine TW.cond rfl (fun hc3 => ?_) (fun hc3 => ?_)
  try simp only [zcb9] at hc3
  have hkn : k < Y.n := by omega
  refine TW.skip ?_
  refine TQ.thenN (hY14 _ _ ?_)
  refine TW.seq fun Y15 hY15 => ?_
  refine TW.block ?_
  refine TW.seq fun Y16 hY16 => TW.region ?_
  refine TL.p Pu.mv ?_
  refine TL.p (Pu.el ty_et31) ?_
  refine TL.p (Pu.ld ty_sc3) ?_
  refine TL.p Pu.as ?_
  refine TL.p Pu.as ?_
  refine TL.nil (TQ.thenN (hY16 _ _ ?_))
  refine TW.seq fun Y17 hY17 => ?_
  refine TW.seq fun Y18 hY18 => TW.region ?_
  refine TL.p (Pu.lds ty_ag140) ?_
  refine TL.p Pu.mv ?_
  refine TL.p Pu.mv ?_
  refine TL.cr rfl (enters Tryz.func102 rfl rfl) (fun w hw => by
   exact fW _ (h.ext (Chg.ext hw.chg)) k) ?_
  refine TL.p Pu.as ?_
  refine TL.nil (TQ.thenN (hY18 _ _ ?_))
  refine TW.seq fun Y19 hY19 => TW.region ?_
  refine TL.p Pu.mv ?_
  refine TL.p Pu.lt ?_
  refine TL.nil (TQ.thenN (hY19 _ _ ?_))
  refine TW.cond rfl (fun hc4 => ?_) (fun hc4 => ?_)
  try simp only [zcb9] at hc4
  have hl9 : wlY Y (k + 1) < 0 := by omega
  refine TW.seq fun Y20 hY20 => TW.region ?_
  refine TL.p Pu.mv ?_
  refine TL.p Pu.as ?_
  refine TL.p Pu.as ?_
  refine TL.p Pu.as ?_
  refine TL.nil (TQ.thenN (hY20 _ _ ?_))
  refine TW.ret ?_
  refine TQ.thenR ?_
  refine TQ.blkR ?_
  refine TQ.thenR ?_
  refine TQ.thenR ?_
  refine TQ.blkR ?_
  refine TQ.thenR ?_
  refine TQ.ret Tryz.results57 rfl ((.tmp rfl (.tmp rfl (.tmp rfl .nil)))) ?_
  exact fun w hw => wk_bad hw (wkC_lost hok hb h24 (lost_yes hkn hl9)) (by omega)
  try simp only [zcb9] at hc4
  have hl9 : 0 ≤ wlY Y (k + 1) := by omega
  refine TW.skip ?_
  refine TQ.thenN (hY17 _ _ ?_)
  refine TW.region ?_
  refine TL.p Pu.mv ?_
  refine TL.p Pu.mv ?_
  refine TL.m Mk.bl ?_
  intro b4
  first | refine TL.a0 ty_et31 ?_ | refine TL.ap ty_et31 ?_
  intro A5 c5
  refine TL.p Pu.as ?_
  refine TL.nil ?_
  refine TQ.blkN ?_
  refine TQ.thenN (hY15 _ _ ?_)
  refine TW.region ?_
  refine TL.p Pu.ad ?_
  refine TL.p Pu.mv ?_
  refine TL.nil ?_
  refine TQ.thenN (hZ0 (k + 1) _ _ _ _ ?_ ?_ fs9 ?_)
  exact ⟨by omega, fun j hj => (Nat.lt_succ_iff_lt_or_eq.1 hj).elim (hall j) (fun e => e ▸ hl9)⟩
  exact zom9
  exact KSub.own pk9 (stp_row (r := rowV fun j => wlY Y (j + 1)) rfl) ks9
  try simp only [zcb9] at hc3
  obtain rfl : k = Y.n := by omega
  have hlost := lost_no hall
  refine TW.exit ?_
  refine TQ.thenX ?_
  refine TQ.thenX ?_
  refine TQ.blkX ?_
  refine TQ.thenN (hY11 _ _ ?_)
  refine TW.seq fun Y21 hY21 => TW.region ?_
  refine TL.p Pu.mv ?_
  refine TL.p Pu.mv ?_
  refine TL.p Pu.bd ?_
  refine TL.m (Mk.al ty_zr152) ?_
  intro b6
  first | refine TL.st ty_sz152 ?_ | refine TL.se ty_sz152 ?_
  refine TL.nil (TQ.thenN (hY21 _ _ ?_))
  refine TW.seq fun Y22 hY22 => ?_
  refine TW.seq fun Y23 hY23 => TW.region ?_
  refine TL.p Pu.mv ?_
  refine TL.p (Pu.ln Tryz.underlying31) ?_
  refine TL.p Pu.mv ?_
  refine TL.nil (TQ.thenN (hY23 _ _ ?_))
  refine TW.block ?_
  refine TW.loop3 (fun (k : Nat) (E2 : Option Addr) (ce2 : Nat) => [(76, .int .i64 (k : Int)), (75, .int .i64 (Y.n : Int)), (74, .slice L Y.n cn), (10, .slice E2 k ce2), (14, .slice E Y.n ce), (13, .pointer (some ⟨b3, 0, none⟩)), (18, .pointer (some ⟨b6, 0, none⟩))]) (fun k E2 ce2 => [.own E2 k ce2 160 6 (fun k => stopL (stY Y k)), .own E Y.n ce 3 1 (rowV fun j => wlY Y (j + 1)), .blk b6 152 [.int .i64 (atBY Y k), .int .i64 (atSY Y k)], .blk b3 140 [.slice W Y.nw cw, .slice A Y.nl cl, .int .i64 Y.p0, .int .i64 Y.p1]]) (fun k E2 ce2 => k ≤ Y.n ∧ ∀ j, j < k → atSY Y (j + 1) ≤ 100000) (fun k E2 ce2 => Y.n - k) 0 none 0 fs9 ?_ ?_ ?_
  exact KSub.nilOwn ks9
  exact ⟨Nat.zero_le _, fun j hj => by omega⟩
  rintro k E2 ce2 ⟨hk, hall2⟩ Z1 hZ1
  refine TW.seq fun Y24 hY24 => TW.region ?_
  refine TL.p Pu.lt ?_
  refine TL.nil (TQ.thenN (hY24 _ _ ?_))
  refine TW.seq fun Y25 hY25 => ?_
  refine TW.cond rfl (fun hc5 => ?_) (fun hc5 => ?_)
  try simp only [zcb9] at hc5
  have hkn : k < Y.n := by omega
  have hin := ls_ok (hall k hkn)
  have hat := at_ok ho hb hall (k := k) (by omega)
  have hat1 := at_ok ho hb hall (k := k + 1) (by omega)
  refine TW.skip ?_
  refine TQ.thenN (hY25 _ _ ?_)
  refine TW.seq fun Y26 hY26 => ?_
  refine TW.block ?_
  refine TW.seq fun Y27 hY27 => TW.region ?_
  refine TL.p Pu.mv ?_
  refine TL.p (Pu.el ty_et31) ?_
  refine TL.p (Pu.ld ty_sc3) ?_
  refine TL.p Pu.as ?_
  refine TL.p Pu.as ?_
  refine TL.nil (TQ.thenN (hY27 _ _ ?_))
  refine TW.seq fun Y28 hY28 => TW.region ?_
  refine TL.p (Pu.lds ty_ag140) ?_
  refine TL.p Pu.mv ?_
  refine TL.p (Pu.lds ty_ag152) ?_
  refine TL.cr rfl (enters Tryz.func103 rfl rfl) (fun w hw => by
   exact fL _ (h.ext (Chg.ext hw.chg)) k hin hat) ?_
  refine TL.m (Mk.al ty_zr152) ?_
  intro b7
  first | refine TL.st ty_sz152 ?_ | refine TL.se ty_sz152 ?_
  refine TL.nil (TQ.thenN (hY28 _ _ ?_))
  refine TW.seq fun Y29 hY29 => ?_
  refine TW.seq fun Y30 hY30 => TW.region ?_
  refine TL.p (Pu.lds ty_ag140) ?_
  refine TL.p Pu.mv ?_
  refine TL.p (Pu.lds ty_ag152) ?_
  refine TL.cr rfl (enters Tryz.func73 rfl rfl) (fun w hw => by
   exact fA _ (h.ext (Chg.ext hw.chg)) k hin hat) ?_
  first | refine TL.st ty_sz152 ?_ | refine TL.se ty_sz152 ?_
  refine TL.nil (TQ.thenN (hY30 _ _ ?_))
  refine TW.seq fun Y31 hY31 => TW.region ?_
  refine TL.obn (b := b6) (n := 2) (sz := 1) (r := rowV (two (atBY Y (k + 1)) (atSY Y (k + 1)))) pk9 rfl (fun _ _ => rfl) ?_
  refine TL.p (Pu.ea (q := 1) ty_ar152 (hk := rfl)) ?_
  refine TL.p (Pu.ld ty_sc3) ?_
  refine TL.bo (b := b6) (cs := [.int .i64 (atBY Y (k + 1)), .int .i64 (atSY Y (k + 1))]) pk9 rfl ?_
  refine TL.p Pu.gt ?_
  refine TL.nil (TQ.thenN (hY31 _ _ ?_))
  refine TW.cond rfl (fun hc6 => ?_) (fun hc6 => ?_)
  try simp only [zcb9] at hc6
  have h9 : 100000 < atSY Y (k + 1) := by simpa [two] using hc6
  refine TW.seq fun Y32 hY32 => TW.region ?_
  refine TL.p Pu.mv ?_
  refine TL.p Pu.as ?_
  refine TL.p Pu.as ?_
  refine TL.p Pu.as ?_
  refine TL.nil (TQ.thenN (hY32 _ _ ?_))
  refine TW.ret ?_
  refine TQ.thenR ?_
  refine TQ.blkR ?_
  refine TQ.thenR ?_
  refine TQ.thenR ?_
  refine TQ.blkR ?_
  refine TQ.thenR ?_
  refine TQ.ret Tryz.results57 rfl ((.tmp rfl (.tmp rfl (.tmp rfl .nil)))) ?_
  exact fun w hw => wk_bad hw (wkC_late hok hb h24 (lost_no hall) (late_yes hkn h9)) (by omega)
  try simp only [zcb9] at hc6
  have h9 : atSY Y (k + 1) ≤ 100000 := by simpa [two] using hc6
  refine TW.skip ?_
  refine TQ.thenN (hY29 _ _ ?_)
  refine TW.dw 12 ?_
  refine RK.tk Pu.mv ?_
  refine RK.tk Pu.mv ?_
  refine RK.tk Pu.mv ?_
  refine RK.tk Pu.mv ?_
  refine RK.tk (Pu.el ty_et31) ?_
  refine RK.tk (Pu.ld ty_sc3) ?_
  refine RK.tk (Pu.lds ty_ag152) ?_
  refine RK.keep ?_
  refine RK.tk (Pu.lds ty_ag152) ?_
  refine RK.keep ?_
  refine RK.keep ?_
  refine RK.keep ?_
  refine RK.ch [false, false, true, false] ?_ trivial
  refine WK.cr rfl (enters Tryz.func104 rfl rfl) (fun w hw => by
   exact wSpan_any _ _ _) ?_
  refine WK.cr rfl (enters Tryz.func104 rfl rfl) (fun w hw => by
   exact wSpan_any _ _ _) ?_
  refine WK.p Pu.bd ?_
  refine WK.m Mk.bl ?_
  intro b8
  refine WK.n ?_
  first | refine TL.a0 ty_et83 ?_ | refine TL.ap ty_et83 ?_
  intro A9 c9
  refine TL.p Pu.as ?_
  refine TL.nil ?_
  refine TQ.blkN ?_
  refine TQ.thenN (hY26 _ _ ?_)
  refine TW.region ?_
  refine TL.p Pu.ad ?_
  refine TL.p Pu.mv ?_
  refine TL.nil ?_
  refine TQ.thenN (hZ1 (k + 1) _ _ _ _ ?_ ?_ fs9 ?_)
  exact ⟨by omega, fun j hj => (Nat.lt_succ_iff_lt_or_eq.1 hj).elim (hall2 j) (fun e => e ▸ h9)⟩
  exact zom9
  exact KSub.own pk9 (stp_row (r := fun k => stopL (stY Y k)) rfl) ks9
  try simp only [zcb9] at hc5
  obtain rfl : k = Y.n := by omega
  have hlate := late_no hall2
  refine TW.exit ?_
  refine TQ.thenX ?_
  refine TQ.thenX ?_
  refine TQ.blkX ?_
  refine TQ.thenN (hY22 _ _ ?_)
  refine TW.seq fun Y33 hY33 => TW.region ?_
  refine TL.p Pu.mv ?_
  refine TL.p Pu.as ?_
  refine TL.p Pu.as ?_
  refine TL.p Pu.as ?_
  refine TL.nil (TQ.thenN (hY33 _ _ ?_))
  refine TW.ret ?_
  refine TQ.ret Tryz.results57 rfl ((.tmp rfl (.tmp rfl (.tmp rfl .nil)))) ?_
  have hc9 := wkC_ok hok hb h24 hlost hlate
  have hn9 := wkN_n hc9
  exact fun w hw => ⟨((E2, ce2), 0), by unfold wkR; rw [hn9, hc9]; rfl, by unfold wkL; rw [hn9]; exact hw.sub (KSub.cons pk9 KSub.nil)⟩
  refine TW.region ?_
  refine TL.p (by first | exact Pu.fb ty_fa25_0 | exact Pu.fe ty_fa25_0) ?_
  refine TL.p (Pu.ld ty_sc22) ?_
  refine TL.p (Pu.ln Tryz.underlying22) ?_
  refine TL.p Pu.sb ?_
  refine TL.p Pu.mv ?_
  refine TL.m Mk.bl ?_
  intro b10
  refine TL.cr rfl (enters Tryz.func69 rfl rfl) (fun w hw => by
   exact fromOne_any _ _ _ (hw.holds _ (List.mem_cons_self ..))) ?_
  refine TL.p Pu.no ?_
  refine TL.p Pu.mv ?_
  refine TL.guard (t := 41) rfl (fun hg1 => ?_) (fun hg1 => ?_)
  refine TL.gs ?_
  refine TL.gs ?_
  refine TL.gs ?_
  refine TL.gs ?_
  refine TL.p Pu.kt ?_
  refine TL.p Pu.as ?_
  refine TL.nil ?_
  exact TQ.sub (by repeat (first | exact trivial | refine ⟨rfl, ?_⟩ | refine ⟨trivial, ?_⟩ | refine ⟨(by show some (Value.bool _) = some (Value.bool _); first | (simp [hg1, begY]; done) | (refine congrArg (fun z => some (Value.bool z)) (Bool.eq_iff_iff.2 ?_); simp [hg1, begY]; omega)), ?_⟩)) ks9 hJ1
  refine TL.gd Pu.mv ?_
  refine TL.gm Mk.bl ?_
  intro b11
  refine TL.cr rfl (enters Tryz.func69 rfl rfl) (fun w hw => by
   exact fromOne_any _ _ _ (hw.holds _ (List.mem_cons_self ..))) ?_
  refine TL.gd Pu.no ?_
  refine TL.p Pu.kf ?_
  refine TL.p Pu.as ?_
  refine TL.nil ?_
  exact TQ.sub (by repeat (first | exact trivial | refine ⟨rfl, ?_⟩ | refine ⟨trivial, ?_⟩ | refine ⟨(by show some (Value.bool _) = some (Value.bool _); first | (simp [hg1, begY]; done) | (refine congrArg (fun z => some (Value.bool z)) (Bool.eq_iff_iff.2 ?_); simp [hg1, begY]; omega)), ?_⟩)) ks9 hJ1
end
end Go.Proofs.YtfaenhhgkhcghaaGreatDoor
