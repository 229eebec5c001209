/-
  The statement TollHeldCardSaid: for every input the law TollHeld returns true, and its arguments read afterwards as before; toll.bars reads as the program's text lays it, by the tie that is given. No other condition.
-/
import Derived.Test.YtmonkjnfjgidbaaGreatDoorHe12
import Derived.Test.YtmonkjnfjgidbaaGreatDoorHe02
import Derived.ProofKit
import Derived.Deep.Slices
import Derived.Carry
import Derived.Test.YtmonkjnfjgidbaaGreatDoorHe10
import Derived.Test.YtmonkjnfjgidbaaGreatDoorRows
import Derived.OpenShut
import Derived.LaidMore
import Derived.Stop.Joined
import Derived.Test.YtmonkjnfjgidbaaGreatDoorTie
import Derived.Test.YtmonkjnfjgidbaaGreatDoorCards
import Derived.SevenTiedAt
namespace Go.Proofs.YtmonkjnfjgidbaaGreatDoor
set_option linter.all false
set_option linter.unusedVariables false
set_option linter.unusedSimpArgs false
open Go.RowKit
theorem ty_ar80 : ArrT Tryz.prog 80 3 2 1 := ⟨Tryz.underlying80, fun w => by kernel_rfl⟩
theorem Pu.ei {c : Cx} {F : Fr} {K : List Fact} {d : Option Tmp} {t E ty : TypeId} {pos : String} {af : Array Edge} {g : Option (Nat × Bool)} {x y : Operand} {A : Option Addr} {q s j n sz o : Nat} {kk : IntKind} {i : Int} (hT : ArrT c.P t E n sz) (hx : ev F x = some (.pointer (elA A q s j)) := by rfl) (hy : ev F y = some (.int kk i) := by rfl) (h0 : 0 ≤ i := by omega) (h1 : i < n := by omega) (ho : i.toNat * sz = o := by rfl) {vs : List Value} (hq : CellsN c K (elA A q s j) 0 vs := by first | exact CellsN.old (by assumption) (by first | exact Apart.nil | assumption) (by omega) (by repeat (first | exact SubL.nil | apply SubL.take | apply SubL.drop)) | exact CellsN.own pk9 (by omega) (by repeat (first | exact SubL.nil | apply SubL.take | apply SubL.drop))) :
    Pu c F K ⟨d, .indexAddr t x y, ty, pos, af, g⟩ (.pointer (elA A q s (j + o))) := fun a w hF hK => by
  obtain ⟨b, off, e1, _⟩ := hq.1 w hK
  have h2 : elA A q s (j + o) = some ⟨b, off + o, none⟩ := by rw [← elA_add, e1, Option.map_some, add_plain]
  rw [e1] at hx
  rw [h2]
  simp [execOp, hF.evl hx, hF.evl hy, Instr.indexAt, asIntOf, run_underlying hT.ht, Instr.sureAddr, h0, h1, hT.hs, add_plain, ho]
section
variable {nw nl : Nat} {f : Nat → Nat → Int} {x : Nat → Leg} {g : Nat → Nat → Nat → Int} {Z : Cus} {W A C D B : Option Addr} {cw cl cc cd cb : Nat} {leg day one two : Int} {w : World}
set_option maxRecDepth 100000 in
set_option maxHeartbeats 8000000 in
theorem lawHeld_any (hRW : RdR w 9 W nw (fun k => wellL (f k))) (hRA : RdR w 5 A nl (fun k => legL (x k))) (hRG : ∀ k, k < nl → RdR w 4 (x k).A (x k).n (fun j => gateL (g k j)))
    (hRC : RdR w 7 C Z.nc (fun k => claimL (Z.c k))) (hRD : RdR w 4 D Z.nd (fun k => feudL (Z.d k))) (hRB : RdR w 3 B Z.nb (fun k => borderL (Z.b k))) (hcc : Z.nc ≤ cc)
    (h1 : 0 ≤ one ∧ one ≤ 255) (h2 : 0 ≤ two ∧ two ≤ 255) (hG : OldB w 0 barsL) :
    Calls Tryz.prog 8 #[.agg (landL W nw cw A nl cl).toArray, .agg (custL C Z.nc cc D Z.nd cd B Z.nb cb).toArray, .int .i64 leg, .int .i64 day, .int .u8 one, .int .u8 two] w (Ret w (.bool true)) := by
  have aL : great7 nw nl x Z.nc Z.nd Z.nb 0 0 0 = false → LandIn w W nw A nl f x g := fun q => have q := great_all q; ⟨q.1.1, q.1.2.1, hRW, hRA, q.1.2.2, hRG⟩
  have aC : great7 nw nl x Z.nc Z.nd Z.nb 0 0 0 = false → CustIn w C Z.nc D Z.nd B Z.nb Z.c Z.d Z.b := fun q => have q := great_all q; ⟨q.2.1.1, q.2.1.2.1, q.2.1.2.2, hRC, hRD, hRB⟩
  have fK := fun (w' : World) (h1 : LandIn w' W nw A nl f x g) (h2 : CustIn w' C Z.nc D Z.nd B Z.nb Z.c Z.d Z.b) => refCheck_any (cw := cw) (cl := cl) (cc := cc) (cd := cd) (cb := cb) h1 h2
  have fH := fun (w' : World) (h1 : LandIn w' W nw A nl f x g) (h2 : CustIn w' C Z.nc D Z.nd B Z.nb Z.c Z.d Z.b) => tollHolder_any (cw := cw) (cl := cl) (cc := cc) (cd := cd) (cb := cb) leg day h1 h2
  have fO := fun (w' : World) (h2 : CustIn w' C Z.nc D Z.nd B Z.nb Z.c Z.d Z.b) => lHost_any (cc := cc) (cd := cd) (cb := cb) leg day h2
  have fD := fun (w' : World) (h1 : LandIn w' W nw A nl f x g) (h2 : CustIn w' C Z.nc D Z.nd B Z.nb Z.c Z.d Z.b) => tollDisputes_any (cw := cw) (cl := cl) (cc := cc) (cd := cd) (cb := cb) h1 h2 hcc
  unfold landL custL at fK fH fD
  unfold custL at fO
  unfold landL custL
  refine K_enter (S := []) (K := []) Tryz.func8 rfl Tryz.ntmps8 rfl (Sat.start _) ?_
  refine TW.seq fun Y1 hY1 => ?_
  refine TW.region ?_
  refine TL.m Mk.bx ?_
  intro b1
  refine TL.m Mk.bx ?_
  intro b2
  refine TL.p Pu.as ?_
  refine TL.nil ?_
  refine TQ.thenN (hY1 _ _ ?_)
  refine TW.seq fun Y2 hY2 => ?_
  refine TW.region ?_
  refine TL.cr rfl (enters Tryz.func27 rfl rfl) (fun w hw => by
      exact alive_any (hG.ext (Chg.ext hw.chg))) ?_
  refine TL.p Pu.as ?_
  refine TL.nil ?_
  refine TQ.thenN (hY2 _ _ ?_)
  refine TW.seq fun Y3 hY3 => ?_
  refine TW.seq fun Y4 hY4 => ?_
  refine TW.join [(46, .bool (great7 nw nl x Z.nc Z.nd Z.nb 0 0 0 || !decide (checkC nw nl f x g Z.nc Z.nd Z.nb Z.c Z.d Z.b = 0)))] ?_ (fun hJ1 => ?_)
  refine TQ.thenN (hY4 _ _ ?_)
  refine TW.cond rfl (fun hc0 => ?_) (fun hc0 => ?_)
  try simp only [decide_eq_true_eq, decide_eq_false_iff_not, Bool.not_eq_true', Bool.not_eq_false', Bool.and_eq_true, Bool.or_eq_true, Bool.and_eq_false_iff, Bool.or_eq_false_iff, Int.not_lt, Int.not_le] at hc0
  refine TW.seq fun Y5 hY5 => ?_
  refine TW.region ?_
  refine TL.p Pu.mv ?_
  refine TL.p Pu.as ?_
  refine TL.nil ?_
  refine TQ.thenN (hY5 _ _ ?_)
  refine TW.ret ?_
  refine TQ.thenR ?_
  refine TQ.ret Tryz.results8 rfl ((.tmp rfl .nil)) ?_
  exact fun w hw => Ret.of hw
  try simp only [decide_eq_true_eq, decide_eq_false_iff_not, Bool.not_eq_true', Bool.not_eq_false', Bool.and_eq_true, Bool.or_eq_true, Bool.and_eq_false_iff, Bool.or_eq_false_iff, Int.not_lt, Int.not_le] at hc0
  have hg0 : (great7 nw nl x Z.nc Z.nd Z.nb 0 0 0 || !decide (checkC nw nl f x g Z.nc Z.nd Z.nb Z.c Z.d Z.b = 0)) = false := by simpa using hc0
  rw [Bool.or_eq_false_iff, Bool.not_eq_false', decide_eq_true_eq] at hg0
  have hl := aL hg0.1
  have hc := aC hg0.1
  have he := hg0.2
  have hok := claims_ok he
  have hnc9 := hc.hnc
  have hnl9 := hl.hnl
  refine TW.skip ?_
  refine TQ.thenN (hY3 _ _ ?_)
  refine TW.seq fun Y6 hY6 => ?_
  refine TW.region ?_
  refine TL.p (Pu.lds ty_ag25) ?_
  refine TL.p (Pu.lds ty_ag30) ?_
  refine TL.p Pu.mv ?_
  refine TL.p Pu.mv ?_
  refine TL.cr rfl (enters Tryz.func36 rfl rfl) (fun w hw => by
      exact fH _ (hl.ext (Chg.ext hw.chg)) (hc.ext (Chg.ext hw.chg))) ?_
  refine TL.p Pu.mv ?_
  refine TL.p Pu.ex ?_
  refine TL.p Pu.ex ?_
  refine TL.p Pu.as ?_
  refine TL.p Pu.as ?_
  refine TL.nil ?_
  refine TQ.thenN (hY6 _ _ ?_)
  refine TW.seq fun Y7 hY7 => ?_
  refine TW.seq fun Y8 hY8 => ?_
  refine TW.join [(72, .bool (!(inB5 0 ((nl : Int) - 1) leg && inB5 0 100000 day)))] ?_ (fun hJ2 => ?_)
  refine TQ.thenN (hY8 _ _ ?_)
  refine TW.cond rfl (fun hc1 => ?_) (fun hc1 => ?_)
  try simp only [decide_eq_true_eq, decide_eq_false_iff_not, Bool.not_eq_true', Bool.not_eq_false', Bool.and_eq_true, Bool.or_eq_true, Bool.and_eq_false_iff, Bool.or_eq_false_iff, Int.not_lt, Int.not_le] at hc1
  have hin : ¬ (inB5 0 ((nl : Int) - 1) leg && inB5 0 100000 day) = true := by intro h9; rw [Bool.and_eq_true] at h9; simp [h9.1, h9.2] at hc1
  have hA : holdA (checkC nw nl f x g Z.nc Z.nd Z.nb Z.c Z.d Z.b) nl leg day (hb leg day Z.c Z.nc) = 0 := by unfold holdA; rw [if_pos he, if_neg hin]
  have hE : holdE (checkC nw nl f x g Z.nc Z.nd Z.nb Z.c Z.d Z.b) nl leg day = 2 := by unfold holdE; rw [if_pos he, if_neg hin]
  rw [hA, hE]
  refine TW.seq fun Y9 hY9 => ?_
  refine TW.join [(12, .bool true)] ?_ (fun hJ3 => ?_)
  refine TQ.thenN (hY9 _ _ ?_)
  refine TW.ret ?_
  refine TQ.thenR ?_
  refine TQ.ret Tryz.results8 rfl ((.tmp rfl .nil)) ?_
  exact fun w hw => Ret.of hw
  refine TW.region ?_
  refine TL.p Pu.mv ?_
  refine TL.p Pu.mv ?_
  refine TL.guard (t := 74) rfl (fun hg1 => ?_) (fun hg1 => ?_)
  try simp only [decide_eq_true_eq, decide_eq_false_iff_not, Bool.not_eq_true', Bool.not_eq_false', Int.natCast_pos] at hg1
  refine TL.gd Pu.mv ?_
  refine TL.gd Pu.eq ?_
  refine TL.lit (t := 76) (b' := true) rfl (rfl) ?_
  refine TL.p Pu.kt ?_
  refine TL.p Pu.mv ?_
  refine TL.gd Pu.mv ?_
  refine TL.gd Pu.eq ?_
  refine TL.lit (t := 80) (b' := true) rfl (rfl) ?_
  refine TL.p Pu.kt ?_
  refine TL.p Pu.as ?_
  refine TL.nil ?_
  exact TQ.sub (by repeat (first | exact trivial | refine ⟨rfl, ?_⟩ | refine ⟨trivial, ?_⟩ | refine ⟨(by show some (Value.bool _) = some (Value.bool _); first | (simp [hg1]; done) | (refine congrArg (fun z => some (Value.bool z)) (Bool.eq_iff_iff.2 ?_); simp [hg1]; omega)), ?_⟩)) ks9 hJ3
  try simp only [decide_eq_true_eq, decide_eq_false_iff_not, Bool.not_eq_true', Bool.not_eq_false', Int.natCast_pos] at hg1
  refine TL.gs ?_
  refine TL.gs ?_
  refine TL.p Pu.kf ?_
  refine TL.p Pu.mv ?_
  refine TL.gs ?_
  refine TL.gs ?_
  refine TL.p Pu.kf ?_
  refine TL.p Pu.as ?_
  refine TL.nil ?_
  exact TQ.sub (by repeat (first | exact trivial | refine ⟨rfl, ?_⟩ | refine ⟨trivial, ?_⟩ | refine ⟨(by show some (Value.bool _) = some (Value.bool _); first | (simp [hg1]; done) | (refine congrArg (fun z => some (Value.bool z)) (Bool.eq_iff_iff.2 ?_); simp [hg1]; omega)), ?_⟩)) ks9 hJ3
  try simp only [decide_eq_true_eq, decide_eq_false_iff_not, Bool.not_eq_true', Bool.not_eq_false', Bool.and_eq_true, Bool.or_eq_true, Bool.and_eq_false_iff, Bool.or_eq_false_iff, Int.not_lt, Int.not_le] at hc1
  have hin : (inB5 0 ((nl : Int) - 1) leg && inB5 0 100000 day) = true := by simpa using hc1
  have hA : holdA (checkC nw nl f x g Z.nc Z.nd Z.nb Z.c Z.d Z.b) nl leg day (hb leg day Z.c Z.nc) = holZ Z leg day := by unfold holdA; rw [if_pos he, if_pos hin]; rfl
  have hE : holdE (checkC nw nl f x g Z.nc Z.nd Z.nb Z.c Z.d Z.b) nl leg day = 0 := by unfold holdE; rw [if_pos he, if_pos hin]
  rw [hA, hE]
  have hbd : -1 ≤ holZ Z leg day ∧ holZ Z leg day < Z.nc := hb_bd (leg := leg) (day := day) (c := Z.c) Z.nc
  refine TW.skip ?_
  refine TQ.thenN (hY7 _ _ ?_)
  refine TW.seq fun Y10 hY10 => ?_
  refine TW.region ?_
  refine TL.p (Pu.lds ty_ag30) ?_
  refine TL.p Pu.mv ?_
  refine TL.p Pu.mv ?_
  refine TL.cr rfl (enters Tryz.func34 rfl rfl) (fun w hw => by
      exact fO _ (hc.ext (Chg.ext hw.chg))) ?_
  refine TL.p Pu.mv ?_
  refine TL.p Pu.ex ?_
  refine TL.p Pu.ex ?_
  refine TL.m (Mk.al ty_zr71) ?_
  intro b3
  first | refine TL.st ty_sz71 ?_ | refine TL.se ty_sz71 ?_
  refine TL.p Pu.as ?_
  refine TL.nil ?_
  refine TQ.thenN (hY10 _ _ ?_)
  refine TW.seq fun Y11 hY11 => ?_
  refine TW.seq fun Y12 hY12 => ?_
  refine TW.join [(119, .bool false)] ?_ (fun hJ4 => ?_)
  refine TQ.thenN (hY12 _ _ ?_)
  refine TW.condF rfl (rfl) ?_
  refine TW.skip ?_
  refine TQ.thenN (hY11 _ _ ?_)
  refine TW.seq fun Y13 hY13 => ?_
  refine TW.seq fun Y14 hY14 => ?_
  refine TW.region ?_
  refine TL.p Pu.mv ?_
  refine TL.p Pu.mv ?_
  refine TL.nil ?_
  refine TQ.thenN (hY14 _ _ ?_)
  refine TW.block ?_
  refine TW.loop1 (fun (k : Nat) => [(121, .int .i64 (k : Int)), (120, .int .i64 (holZ Z leg day)), (16, .pointer (some ⟨b3, 0, none⟩)), (7, .pointer (some ⟨b2, 0, none⟩)), (6, .pointer (some ⟨b1, 0, none⟩)), (2, .int .i64 leg), (3, .int .i64 day), (4, .int .u8 one), (5, .int .u8 two), (13, .bool true)]) (fun k => [.blk b3 71 (claimL (hclO Z leg day)), .blk b2 30 [.slice C Z.nc cc, .slice D Z.nd cd, .slice B Z.nb cb], .blk b1 25 [.slice W nw cw, .slice A nl cl]]) (fun k => (k : Int) ≤ holZ Z leg day ∨ k = 0) (fun k => (holZ Z leg day - k).toNat) 0 fs9 ?_ ?_ ?_
  exact ks9
  exact .inr rfl
  rintro k hk Z0 hZ0
  refine TW.seq fun Y15 hY15 => ?_
  refine TW.region ?_
  refine TL.p Pu.lt ?_
  refine TL.nil ?_
  refine TQ.thenN (hY15 _ _ ?_)
  refine TW.seq fun Y16 hY16 => ?_
  refine TW.cond rfl (fun hc3 => ?_) (fun hc3 => ?_)
  try simp only [decide_eq_true_eq, decide_eq_false_iff_not, Bool.not_eq_true', Bool.not_eq_false', Bool.and_eq_true, Bool.or_eq_true, Bool.and_eq_false_iff, Bool.or_eq_false_iff, Int.not_lt, Int.not_le] at hc3
  have hkn : k < Z.nc := by omega
  have hno := hb_no_twin (leg := leg) (day := day) (c := Z.c) (n := Z.nc) (i := k) hc3
  have hcl : hclO Z leg day = Z.c (hb leg day Z.c Z.nc).toNat := by unfold hclO hclZ; rw [if_pos (by omega)]; rfl
  rw [← hcl] at hno
  refine TW.skip ?_
  refine TQ.thenN (hY16 _ _ ?_)
  refine TW.seq fun Y17 hY17 => ?_
  refine TW.block ?_
  refine TW.seq fun Y18 hY18 => ?_
  refine TW.region ?_
  refine TL.p Pu.mv ?_
  refine TL.p Pu.as ?_
  refine TL.nil ?_
  refine TQ.thenN (hY18 _ _ ?_)
  refine TW.seq fun Y19 hY19 => ?_
  refine TW.region ?_
  refine TL.p (by first | exact Pu.fb ty_fa30_0 | exact Pu.fe ty_fa30_0) ?_
  refine TL.p (Pu.ld ty_sc26) ?_
  refine TL.p Pu.mv ?_
  refine TL.p (Pu.el ty_et26) ?_
  refine TL.p (Pu.lds ty_ag71) ?_
  refine TL.m (Mk.al ty_zr71) ?_
  intro b4
  first | refine TL.st ty_sz71 ?_ | refine TL.se ty_sz71 ?_
  refine TL.nil ?_
  refine TQ.thenN (hY19 _ _ ?_)
  refine TW.seq fun Y20 hY20 => ?_
  refine TW.join [(152, .bool (decide ((Z.c k).1 0 = leg) && decide ((Z.c k).1 2 = (hclO Z leg day).1 2) && decide ((Z.c k).1 1 = (hclO Z leg day).1 1) && decide (day ≤ (Z.c k).1 3)))] ?_ (fun hJ5 => ?_)
  refine TQ.thenN (hY20 _ _ ?_)
  refine TW.condF rfl (hno) ?_
  refine TW.skip ?_
  refine TQ.blkN ?_
  refine TQ.thenN (hY17 _ _ ?_)
  refine TW.region ?_
  refine TL.p Pu.ad ?_
  refine TL.p Pu.mv ?_
  refine TL.nil ?_
  refine TQ.thenN (hZ0 (k + 1) _ _ ?_ ?_ fs9 ?_)
  exact (by omega)
  exact (by first | omega | (simp only []; omega) | (simp; omega))
  exact ks9
  refine TW.region ?_
  refine TL.p (by first | exact Pu.fb ty_fa71_0 | exact Pu.fe ty_fa71_0) ?_
  refine TL.p (Pu.ld ty_sc3) ?_
  refine TL.p Pu.mv ?_
  refine TL.p Pu.eq ?_
  refine TL.p Pu.mv ?_
  refine TL.guard (t := 133) rfl (fun hg2 => ?_) (fun hg2 => ?_)
  try simp only [decide_eq_true_eq, decide_eq_false_iff_not, Bool.not_eq_true', Bool.not_eq_false', Int.natCast_pos] at hg2
  refine TL.gd (by first | exact Pu.fb ty_fa71_2 | exact Pu.fe ty_fa71_2) ?_
  refine TL.gd (Pu.ld ty_sc3) ?_
  refine TL.gd (by first | exact Pu.fb ty_fa71_2 | exact Pu.fe ty_fa71_2) ?_
  refine TL.gd (Pu.ld ty_sc3) ?_
  refine TL.gd Pu.eq ?_
  refine TL.p Pu.kt ?_
  refine TL.p Pu.mv ?_
  refine TL.guard (t := 140) rfl (fun hg3 => ?_) (fun hg3 => ?_)
  try simp only [decide_eq_true_eq, decide_eq_false_iff_not, Bool.not_eq_true', Bool.not_eq_false', Int.natCast_pos] at hg3
  refine TL.gd (by first | exact Pu.fb ty_fa71_1 | exact Pu.fe ty_fa71_1) ?_
  refine TL.gd (Pu.ld ty_sc3) ?_
  refine TL.gd (by first | exact Pu.fb ty_fa71_1 | exact Pu.fe ty_fa71_1) ?_
  refine TL.gd (Pu.ld ty_sc3) ?_
  refine TL.gd Pu.eq ?_
  refine TL.p Pu.kt ?_
  refine TL.p Pu.mv ?_
  refine TL.guard (t := 147) rfl (fun hg4 => ?_) (fun hg4 => ?_)
  try simp only [decide_eq_true_eq, decide_eq_false_iff_not, Bool.not_eq_true', Bool.not_eq_false', Int.natCast_pos] at hg4
  refine TL.gd Pu.mv ?_
  refine TL.gd (by first | exact Pu.fb ty_fa71_3 | exact Pu.fe ty_fa71_3) ?_
  refine TL.gd (Pu.ld ty_sc3) ?_
  refine TL.gd Pu.le ?_
  refine TL.p Pu.kt ?_
  refine TL.nil ?_
  exact TQ.sub (by repeat (first | exact trivial | refine ⟨rfl, ?_⟩ | refine ⟨trivial, ?_⟩ | refine ⟨(by show some (Value.bool _) = some (Value.bool _); first | (simp [hg2, hg3, hg4]; done) | (refine congrArg (fun z => some (Value.bool z)) (Bool.eq_iff_iff.2 ?_); simp [hg2, hg3, hg4]; omega)), ?_⟩)) ks9 hJ5
  try simp only [decide_eq_true_eq, decide_eq_false_iff_not, Bool.not_eq_true', Bool.not_eq_false', Int.natCast_pos] at hg4
  refine TL.gs ?_
  refine TL.gs ?_
  refine TL.gs ?_
  refine TL.gs ?_
  refine TL.p Pu.kf ?_
  refine TL.nil ?_
  exact TQ.sub (by repeat (first | exact trivial | refine ⟨rfl, ?_⟩ | refine ⟨trivial, ?_⟩ | refine ⟨(by show some (Value.bool _) = some (Value.bool _); first | (simp [hg2, hg3, hg4]; done) | (refine congrArg (fun z => some (Value.bool z)) (Bool.eq_iff_iff.2 ?_); simp [hg2, hg3, hg4]; omega)), ?_⟩)) ks9 hJ5
  try simp only [decide_eq_true_eq, decide_eq_false_iff_not, Bool.not_eq_true', Bool.not_eq_false', Int.natCast_pos] at hg3
  refine TL.gs ?_
  refine TL.gs ?_
  refine TL.gs ?_
  refine TL.gs ?_
  refine TL.gs ?_
  refine TL.p Pu.kf ?_
  refine TL.p Pu.mv ?_
  refine TL.gs ?_
  refine TL.gs ?_
  refine TL.gs ?_
  refine TL.gs ?_
  refine TL.p Pu.kf ?_
  refine TL.nil ?_
  exact TQ.sub (by repeat (first | exact trivial | refine ⟨rfl, ?_⟩ | refine ⟨trivial, ?_⟩ | refine ⟨(by show some (Value.bool _) = some (Value.bool _); first | (simp [hg2, hg3]; done) | (refine congrArg (fun z => some (Value.bool z)) (Bool.eq_iff_iff.2 ?_); simp [hg2, hg3]; omega)), ?_⟩)) ks9 hJ5
  try simp only [decide_eq_true_eq, decide_eq_false_iff_not, Bool.not_eq_true', Bool.not_eq_false', Int.natCast_pos] at hg2
  refine TL.gs ?_
  refine TL.gs ?_
  refine TL.gs ?_
  refine TL.gs ?_
  refine TL.gs ?_
  refine TL.p Pu.kf ?_
  refine TL.p Pu.mv ?_
  refine TL.gs ?_
  refine TL.gs ?_
  refine TL.gs ?_
  refine TL.gs ?_
  refine TL.gs ?_
  refine TL.p Pu.kf ?_
  refine TL.p Pu.mv ?_
  refine TL.gs ?_
  refine TL.gs ?_
  refine TL.gs ?_
  refine TL.gs ?_
  refine TL.p Pu.kf ?_
  refine TL.nil ?_
  exact TQ.sub (by repeat (first | exact trivial | refine ⟨rfl, ?_⟩ | refine ⟨trivial, ?_⟩ | refine ⟨(by show some (Value.bool _) = some (Value.bool _); first | (simp [hg2]; done) | (refine congrArg (fun z => some (Value.bool z)) (Bool.eq_iff_iff.2 ?_); simp [hg2]; omega)), ?_⟩)) ks9 hJ5
  try simp only [decide_eq_true_eq, decide_eq_false_iff_not, Bool.not_eq_true', Bool.not_eq_false', Bool.and_eq_true, Bool.or_eq_true, Bool.and_eq_false_iff, Bool.or_eq_false_iff, Int.not_lt, Int.not_le] at hc3
  refine TW.exit ?_
  refine TQ.thenX ?_
  refine TQ.thenX ?_
  refine TQ.blkX ?_
  refine TQ.thenN (hY13 _ _ ?_)
  refine TW.seq fun Y21 hY21 => ?_
  refine TW.region ?_
  refine TL.p (Pu.lds ty_ag25) ?_
  refine TL.p (Pu.lds ty_ag30) ?_
  refine TL.call (M := []) rfl (enters Tryz.func37 rfl rfl) (List.Perm.refl _) rfl (fun w hw => by
      exact fD _ (hl.ext (Chg.ext hw.chg)) (hc.ext (Chg.ext hw.chg))) ?_
  rintro ⟨As, cs⟩
  rw [he]
  obtain ⟨L, hL⟩ : ∃ y, y = outP Z.c Z.nc Z.nc := ⟨_, rfl⟩
  have hLd : disL 0 Z.nc Z.c = L := by rw [hL]; rfl
  rw [hLd]
  obtain ⟨m, hm⟩ : ∃ y, y = L.length := ⟨_, rfl⟩
  rw [← hm]
  have hmb : m ≤ 1000000 := by
    have h9 := outP_len (c := Z.c) (n := Z.nc) Z.nc
    have h8 : Z.nc * Z.nc ≤ 1000 * 1000 := Nat.mul_le_mul (by omega) (by omega)
    rw [hm, hL]
    omega
  simp only [List.cons_append, List.nil_append]
  refine TL.p Pu.mv ?_
  refine TL.p Pu.ex ?_
  refine TL.p Pu.ex ?_
  refine TL.p Pu.as ?_
  refine TL.p Pu.as ?_
  refine TL.nil ?_
  refine TQ.thenN (hY21 _ _ ?_)
  refine TW.seq fun Y22 hY22 => ?_
  refine TW.seq fun Y23 hY23 => ?_
  refine TW.region ?_
  refine TL.p Pu.mv ?_
  refine TL.p Pu.ne ?_
  refine TL.nil ?_
  refine TQ.thenN (hY23 _ _ ?_)
  refine TW.condF rfl (rfl) ?_
  refine TW.skip ?_
  refine TQ.thenN (hY22 _ _ ?_)
  refine TW.seq fun Y24 hY24 => ?_
  refine TW.seq fun Y25 hY25 => ?_
  refine TW.region ?_
  refine TL.p Pu.mv ?_
  refine TL.p (Pu.ln Tryz.underlying86) ?_
  refine TL.p Pu.mv ?_
  refine TL.nil ?_
  refine TQ.thenN (hY25 _ _ ?_)
  refine TW.block ?_
  refine TW.loop1 (fun (k : Nat) => [(164, .int .i64 (k : Int)), (163, .int .i64 (m : Int)), (162, .slice As m cs), (20, .slice As m cs), (7, .pointer (some ⟨b2, 0, none⟩)), (4, .int .u8 one), (5, .int .u8 two), (13, .bool true)]) (fun k => [.own As m cs 80 2 (rowsP L), .blk b2 30 [.slice C Z.nc cc, .slice D Z.nd cd, .slice B Z.nb cb]]) (fun k => k ≤ m) (fun k => m - k) 0 fs9 ?_ ?_ ?_
  exact ks9
  exact Nat.zero_le _
  rintro k hk Z1 hZ1
  refine TW.seq fun Y26 hY26 => ?_
  refine TW.region ?_
  refine TL.p Pu.lt ?_
  refine TL.nil ?_
  refine TQ.thenN (hY26 _ _ ?_)
  refine TW.seq fun Y27 hY27 => ?_
  refine TW.cond rfl (fun hc6 => ?_) (fun hc6 => ?_)
  try simp only [decide_eq_true_eq, decide_eq_false_iff_not, Bool.not_eq_true', Bool.not_eq_false', Bool.and_eq_true, Bool.or_eq_true, Bool.and_eq_false_iff, Bool.or_eq_false_iff, Int.not_lt, Int.not_le] at hc6
  have hkm : k < m := by omega
  have hp1 := pair_at hL (k := k) (by omega)
  have hp2 : 0 < k → _ := pair_lt hL (k := k) (by omega)
  refine TW.skip ?_
  refine TQ.thenN (hY27 _ _ ?_)
  refine TW.seq fun Y28 hY28 => ?_
  refine TW.block ?_
  refine TW.seq fun Y29 hY29 => ?_
  refine TW.region ?_
  refine TL.p Pu.mv ?_
  refine TL.p (Pu.el ty_et86) ?_
  refine TL.p (Pu.lds ty_ag80) ?_
  refine TL.m (Mk.al ty_zr80) ?_
  intro b5
  refine TL.p Pu.as ?_
  first | refine TL.st ty_sz80 ?_ | refine TL.se ty_sz80 ?_
  refine TL.nil ?_
  refine TQ.thenN (hY29 _ _ ?_)
  refine TW.seq fun Y30 hY30 => ?_
  refine TW.join [(223, .bool false)] ?_ (fun hJ6 => ?_)
  refine TQ.thenN (hY30 _ _ ?_)
  refine TW.condF rfl (rfl) ?_
  refine TW.skip ?_
  refine TQ.blkN ?_
  refine TQ.thenN (hY28 _ _ ?_)
  refine TW.region ?_
  refine TL.p Pu.ad ?_
  refine TL.p Pu.mv ?_
  refine TL.nil ?_
  refine TQ.thenN (hZ1 (k + 1) _ _ ?_ ?_ fs9 ?_)
  exact (by omega)
  exact (by first | omega | (simp only []; omega) | (simp; omega))
  exact ks9
  refine TW.dw 55 ?_
  refine RK.tk (Pu.ec (q := 0) ty_ar80) ?_
  refine RK.tk (Pu.ld ty_sc3) ?_
  refine RK.tk Pu.lt ?_
  refine RK.tk Pu.mv ?_
  refine RK.guard (t := 172) rfl (fun hg5 => ?_) (fun hg5 => ?_)
  try simp only [decide_eq_true_eq, decide_eq_false_iff_not, Bool.not_eq_true', Bool.not_eq_false', Int.natCast_pos] at hg5
  refine RK.s ?_
  refine RK.s ?_
  refine RK.s ?_
  refine RK.s ?_
  refine RK.s ?_
  refine RK.tk Pu.kt ?_
  refine RK.tk Pu.mv ?_
  refine RK.s ?_
  refine RK.s ?_
  refine RK.s ?_
  refine RK.s ?_
  refine RK.s ?_
  refine RK.s ?_
  refine RK.tk Pu.kt ?_
  refine RK.tk Pu.mv ?_
  refine RK.s ?_
  refine RK.s ?_
  refine RK.s ?_
  refine RK.s ?_
  refine RK.s ?_
  refine RK.s ?_
  refine RK.s ?_
  refine RK.s ?_
  refine RK.s ?_
  refine RK.s ?_
  refine RK.s ?_
  refine RK.s ?_
  refine RK.s ?_
  refine RK.s ?_
  refine RK.s ?_
  refine RK.s ?_
  refine RK.s ?_
  refine RK.s ?_
  refine RK.s ?_
  refine RK.s ?_
  refine RK.s ?_
  refine RK.s ?_
  refine RK.s ?_
  refine RK.s ?_
  refine RK.s ?_
  refine RK.s ?_
  refine RK.s ?_
  refine RK.s ?_
  refine RK.s ?_
  refine RK.s ?_
  refine RK.s ?_
  refine RK.s ?_
  refine RK.s ?_
  refine RK.s ?_
  refine RK.s ?_
  refine RK.tk Pu.kt ?_
  refine RK.ch [] ?_ trivial
  refine WK.n ?_
  refine TL.nil ?_
  exact TQ.sub (by repeat (first | exact trivial | refine ⟨rfl, ?_⟩ | refine ⟨trivial, ?_⟩ | refine ⟨(by show some (Value.bool _) = some (Value.bool _); first | (simp [hg5, -List.getD_eq_getElem?_getD]; done) | (refine congrArg (fun z => some (Value.bool z)) (Bool.eq_iff_iff.2 ?_); simp [hg5, -List.getD_eq_getElem?_getD]; omega)), ?_⟩)) ks9 hJ6
  try simp only [decide_eq_true_eq, decide_eq_false_iff_not, Bool.not_eq_true', Bool.not_eq_false', Int.natCast_pos] at hg5
  refine RK.tk (Pu.ec (q := 0) ty_ar80) ?_
  refine RK.tk (Pu.ld ty_sc3) ?_
  refine RK.tk (Pu.ec (q := 1) ty_ar80) ?_
  refine RK.tk (Pu.ld ty_sc3) ?_
  refine RK.tk Pu.ge ?_
  refine RK.tk Pu.kf ?_
  refine RK.tk Pu.mv ?_
  refine RK.guard (t := 179) rfl (fun hg6 => ?_) (fun hg6 => ?_)
  try simp only [decide_eq_true_eq, decide_eq_false_iff_not, Bool.not_eq_true', Bool.not_eq_false', Int.natCast_pos] at hg6
  refine RK.s ?_
  refine RK.s ?_
  refine RK.s ?_
  refine RK.s ?_
  refine RK.s ?_
  refine RK.s ?_
  refine RK.tk Pu.kt ?_
  refine RK.tk Pu.mv ?_
  refine RK.s ?_
  refine RK.s ?_
  refine RK.s ?_
  refine RK.s ?_
  refine RK.s ?_
  refine RK.s ?_
  refine RK.s ?_
  refine RK.s ?_
  refine RK.s ?_
  refine RK.s ?_
  refine RK.s ?_
  refine RK.s ?_
  refine RK.s ?_
  refine RK.s ?_
  refine RK.s ?_
  refine RK.s ?_
  refine RK.s ?_
  refine RK.s ?_
  refine RK.s ?_
  refine RK.s ?_
  refine RK.s ?_
  refine RK.s ?_
  refine RK.s ?_
  refine RK.s ?_
  refine RK.s ?_
  refine RK.s ?_
  refine RK.s ?_
  refine RK.s ?_
  refine RK.s ?_
  refine RK.s ?_
  refine RK.s ?_
  refine RK.s ?_
  refine RK.s ?_
  refine RK.s ?_
  refine RK.s ?_
  refine RK.tk Pu.kt ?_
  refine RK.ch [] ?_ trivial
  refine WK.n ?_
  refine TL.nil ?_
  exact TQ.sub (by repeat (first | exact trivial | refine ⟨rfl, ?_⟩ | refine ⟨trivial, ?_⟩ | refine ⟨(by show some (Value.bool _) = some (Value.bool _); first | (simp [hg5, hg6, -List.getD_eq_getElem?_getD]; done) | (refine congrArg (fun z => some (Value.bool z)) (Bool.eq_iff_iff.2 ?_); simp [hg5, hg6, -List.getD_eq_getElem?_getD]; omega)), ?_⟩)) ks9 hJ6
  try simp only [decide_eq_true_eq, decide_eq_false_iff_not, Bool.not_eq_true', Bool.not_eq_false', Int.natCast_pos] at hg6
  refine RK.tk (Pu.ec (q := 1) ty_ar80) ?_
  refine RK.tk (Pu.ld ty_sc3) ?_
  refine RK.tk (by first | exact Pu.fb ty_fa30_0 | exact Pu.fe ty_fa30_0) ?_
  refine RK.tk (Pu.ld ty_sc26) ?_
  refine RK.tk (Pu.ln Tryz.underlying26) ?_
  refine RK.tk Pu.ge ?_
  refine RK.tk Pu.kf ?_
  refine RK.tk Pu.mv ?_
  refine RK.guard (t := 187) rfl (fun hg7 => ?_) (fun hg7 => ?_)
  try simp only [decide_eq_true_eq, decide_eq_false_iff_not, Bool.not_eq_true', Bool.not_eq_false', Int.natCast_pos] at hg7
  refine RK.s ?_
  refine RK.s ?_
  refine RK.s ?_
  refine RK.s ?_
  refine RK.s ?_
  refine RK.s ?_
  refine RK.s ?_
  refine RK.s ?_
  refine RK.s ?_
  refine RK.s ?_
  refine RK.s ?_
  refine RK.s ?_
  refine RK.s ?_
  refine RK.s ?_
  refine RK.s ?_
  refine RK.s ?_
  refine RK.s ?_
  refine RK.s ?_
  refine RK.s ?_
  refine RK.s ?_
  refine RK.s ?_
  refine RK.s ?_
  refine RK.s ?_
  refine RK.s ?_
  refine RK.s ?_
  refine RK.s ?_
  refine RK.s ?_
  refine RK.s ?_
  refine RK.s ?_
  refine RK.s ?_
  refine RK.s ?_
  refine RK.s ?_
  refine RK.s ?_
  refine RK.s ?_
  refine RK.s ?_
  refine RK.tk Pu.kt ?_
  refine RK.ch [] ?_ trivial
  refine WK.n ?_
  refine TL.nil ?_
  exact TQ.sub (by repeat (first | exact trivial | refine ⟨rfl, ?_⟩ | refine ⟨trivial, ?_⟩ | refine ⟨(by show some (Value.bool _) = some (Value.bool _); first | (simp [hg5, hg6, hg7, -List.getD_eq_getElem?_getD]; done) | (refine congrArg (fun z => some (Value.bool z)) (Bool.eq_iff_iff.2 ?_); simp [hg5, hg6, hg7, -List.getD_eq_getElem?_getD]; omega)), ?_⟩)) ks9 hJ6
  try simp only [decide_eq_true_eq, decide_eq_false_iff_not, Bool.not_eq_true', Bool.not_eq_false', Int.natCast_pos] at hg7
  refine RK.tk Pu.mv ?_
  refine RK.tk Pu.gt ?_
  refine RK.tk Pu.mv ?_
  refine RK.guard (t := 190) rfl (fun hg8 => ?_) (fun hg8 => ?_)
  try simp only [decide_eq_true_eq, decide_eq_false_iff_not, Bool.not_eq_true', Bool.not_eq_false', Int.natCast_pos] at hg8
  refine RK.tk (Pu.ec (q := 0) ty_ar80) ?_
  refine RK.tk (Pu.ld ty_sc3) ?_
  refine RK.tk Pu.mv ?_
  refine RK.tk Pu.mv ?_
  refine RK.tk Pu.sb ?_
  refine RK.tk (Pu.el (q := k - 1) ty_et86 (hk := by omega)) ?_
  refine RK.tk (Pu.ei ty_ar80) ?_
  refine RK.tk (Pu.ld ty_sc3) ?_
  refine RK.tk Pu.lt ?_
  refine RK.tk Pu.mv ?_
  refine RK.guard (t := 200) rfl (fun hg9 => ?_) (fun hg9 => ?_)
  try simp only [decide_eq_true_eq, decide_eq_false_iff_not, Bool.not_eq_true', Bool.not_eq_false', Int.natCast_pos] at hg9
  refine RK.s ?_
  refine RK.s ?_
  refine RK.s ?_
  refine RK.s ?_
  refine RK.s ?_
  refine RK.s ?_
  refine RK.s ?_
  refine RK.s ?_
  refine RK.s ?_
  refine RK.s ?_
  refine RK.s ?_
  refine RK.s ?_
  refine RK.s ?_
  refine RK.s ?_
  refine RK.s ?_
  refine RK.s ?_
  refine RK.s ?_
  refine RK.s ?_
  refine RK.s ?_
  refine RK.s ?_
  refine RK.tk Pu.kt ?_
  refine RK.tk Pu.kt ?_
  refine RK.tk Pu.kf ?_
  refine RK.ch [] ?_ trivial
  refine WK.n ?_
  refine TL.nil ?_
  exact TQ.sub (by repeat (first | exact trivial | refine ⟨rfl, ?_⟩ | refine ⟨trivial, ?_⟩ | refine ⟨(by show some (Value.bool _) = some (Value.bool _); first | (simp [hg5, hg6, hg7, hg8, hg9, -List.getD_eq_getElem?_getD]; done) | (refine congrArg (fun z => some (Value.bool z)) (Bool.eq_iff_iff.2 ?_); simp [hg5, hg6, hg7, hg8, hg9, -List.getD_eq_getElem?_getD]; omega)), ?_⟩)) ks9 hJ6
  try simp only [decide_eq_true_eq, decide_eq_false_iff_not, Bool.not_eq_true', Bool.not_eq_false', Int.natCast_pos] at hg9
  refine RK.tk (Pu.ec (q := 0) ty_ar80) ?_
  refine RK.tk (Pu.ld ty_sc3) ?_
  refine RK.tk Pu.mv ?_
  refine RK.tk Pu.mv ?_
  refine RK.tk Pu.sb ?_
  refine RK.tk (Pu.el (q := k - 1) ty_et86 (hk := by omega)) ?_
  refine RK.tk (Pu.ei ty_ar80) ?_
  refine RK.tk (Pu.ld ty_sc3) ?_
  refine RK.tk Pu.eq ?_
  refine RK.tk Pu.mv ?_
  refine RK.guard (t := 210) rfl (fun hg10 => ?_) (fun hg10 => ?_)
  try simp only [decide_eq_true_eq, decide_eq_false_iff_not, Bool.not_eq_true', Bool.not_eq_false', Int.natCast_pos] at hg10
  refine RK.tk (Pu.ec (q := 1) ty_ar80) ?_
  refine RK.tk (Pu.ld ty_sc3) ?_
  refine RK.tk Pu.mv ?_
  refine RK.tk Pu.mv ?_
  refine RK.tk Pu.sb ?_
  refine RK.tk (Pu.el (q := k - 1) ty_et86 (hk := by omega)) ?_
  refine RK.tk (Pu.ei ty_ar80) ?_
  refine RK.tk (Pu.ld ty_sc3) ?_
  refine RK.tk Pu.le ?_
  refine RK.tk Pu.kt ?_
  refine RK.tk Pu.kf ?_
  refine RK.tk Pu.kt ?_
  refine RK.tk Pu.kf ?_
  refine RK.ch [] ?_ trivial
  refine WK.n ?_
  refine TL.nil ?_
  exact TQ.sub (by repeat (first | exact trivial | refine ⟨rfl, ?_⟩ | refine ⟨trivial, ?_⟩ | refine ⟨(by show some (Value.bool _) = some (Value.bool _); first | (simp [hg5, hg6, hg7, hg8, hg9, hg10, -List.getD_eq_getElem?_getD]; done) | (refine congrArg (fun z => some (Value.bool z)) (Bool.eq_iff_iff.2 ?_); simp [hg5, hg6, hg7, hg8, hg9, hg10, -List.getD_eq_getElem?_getD]; omega)), ?_⟩)) ks9 hJ6
  try simp only [decide_eq_true_eq, decide_eq_false_iff_not, Bool.not_eq_true', Bool.not_eq_false', Int.natCast_pos] at hg10
  refine RK.s ?_
  refine RK.s ?_
  refine RK.s ?_
  refine RK.s ?_
  refine RK.s ?_
  refine RK.s ?_
  refine RK.s ?_
  refine RK.s ?_
  refine RK.s ?_
  refine RK.tk Pu.kf ?_
  refine RK.tk Pu.kf ?_
  refine RK.tk Pu.kt ?_
  refine RK.tk Pu.kf ?_
  refine RK.ch [] ?_ trivial
  refine WK.n ?_
  refine TL.nil ?_
  exact TQ.sub (by repeat (first | exact trivial | refine ⟨rfl, ?_⟩ | refine ⟨trivial, ?_⟩ | refine ⟨(by show some (Value.bool _) = some (Value.bool _); first | (simp [hg5, hg6, hg7, hg8, hg9, hg10, -List.getD_eq_getElem?_getD]; done) | (refine congrArg (fun z => some (Value.bool z)) (Bool.eq_iff_iff.2 ?_); simp [hg5, hg6, hg7, hg8, hg9, hg10, -List.getD_eq_getElem?_getD]; omega)), ?_⟩)) ks9 hJ6
  try simp only [decide_eq_true_eq, decide_eq_false_iff_not, Bool.not_eq_true', Bool.not_eq_false', Int.natCast_pos] at hg8
  refine RK.s ?_
  refine RK.s ?_
  refine RK.s ?_
  refine RK.s ?_
  refine RK.s ?_
  refine RK.s ?_
  refine RK.s ?_
  refine RK.s ?_
  refine RK.s ?_
  refine RK.s ?_
  refine RK.s ?_
  refine RK.s ?_
  refine RK.s ?_
  refine RK.s ?_
  refine RK.s ?_
  refine RK.s ?_
  refine RK.s ?_
  refine RK.s ?_
  refine RK.s ?_
  refine RK.s ?_
  refine RK.s ?_
  refine RK.s ?_
  refine RK.s ?_
  refine RK.s ?_
  refine RK.s ?_
  refine RK.s ?_
  refine RK.s ?_
  refine RK.s ?_
  refine RK.s ?_
  refine RK.s ?_
  refine RK.s ?_
  refine RK.tk Pu.kf ?_
  refine RK.tk Pu.kf ?_
  refine RK.ch [] ?_ trivial
  refine WK.n ?_
  refine TL.nil ?_
  exact TQ.sub (by repeat (first | exact trivial | refine ⟨rfl, ?_⟩ | refine ⟨trivial, ?_⟩ | refine ⟨(by show some (Value.bool _) = some (Value.bool _); first | (simp [hg5, hg6, hg7, hg8, -List.getD_eq_getElem?_getD]; done) | (refine congrArg (fun z => some (Value.bool z)) (Bool.eq_iff_iff.2 ?_); simp [hg5, hg6, hg7, hg8, -List.getD_eq_getElem?_getD]; omega)), ?_⟩)) ks9 hJ6
  try simp only [decide_eq_true_eq, decide_eq_false_iff_not, Bool.not_eq_true', Bool.not_eq_false', Bool.and_eq_true, Bool.or_eq_true, Bool.and_eq_false_iff, Bool.or_eq_false_iff, Int.not_lt, Int.not_le] at hc6
  obtain rfl : k = m := by omega
  refine TW.exit ?_
  refine TQ.thenX ?_
  refine TQ.thenX ?_
  refine TQ.blkX ?_
  refine TQ.thenN (hY24 _ _ ?_)
  refine TW.seq fun Y31 hY31 => ?_
  refine TW.seq fun Y32 hY32 => ?_
  refine TW.region ?_
  refine TL.p (by first | exact Pu.fb ty_fa30_0 | exact Pu.fe ty_fa30_0) ?_
  refine TL.p (Pu.ld ty_sc26) ?_
  refine TL.p (Pu.ln Tryz.underlying26) ?_
  refine TL.p Pu.lt ?_
  refine TL.nil ?_
  refine TQ.thenN (hY32 _ _ ?_)
  refine TW.cond rfl (fun hc8 => ?_) (fun hc8 => ?_)
  try simp only [decide_eq_true_eq, decide_eq_false_iff_not, Bool.not_eq_true', Bool.not_eq_false', Bool.and_eq_true, Bool.or_eq_true, Bool.and_eq_false_iff, Bool.or_eq_false_iff, Int.not_lt, Int.not_le] at hc8
  have hm0 : k = 0 := by rw [hm]; exact pair_none hL (by omega)
  rw [hm0]
  refine TW.seq fun Y33 hY33 => ?_
  refine TW.join [(12, .bool true)] ?_ (fun hJ7 => ?_)
  refine TQ.thenN (hY33 _ _ ?_)
  refine TW.ret ?_
  refine TQ.thenR ?_
  refine TQ.ret Tryz.results8 rfl ((.tmp rfl .nil)) ?_
  exact fun w hw => Ret.of hw
  refine TW.region ?_
  refine TL.p Pu.mv ?_
  refine TL.p Pu.mv ?_
  refine TL.guard (t := 230) rfl (fun hg11 => ?_) (fun hg11 => ?_)
  try simp only [decide_eq_true_eq, decide_eq_false_iff_not, Bool.not_eq_true', Bool.not_eq_false', Int.natCast_pos] at hg11
  refine TL.gd Pu.mv ?_
  refine TL.gd (Pu.ln Tryz.underlying86) ?_
  refine TL.gd Pu.eq ?_
  refine TL.p Pu.kt ?_
  refine TL.p Pu.as ?_
  refine TL.nil ?_
  exact TQ.sub (by repeat (first | exact trivial | refine ⟨rfl, ?_⟩ | refine ⟨trivial, ?_⟩ | refine ⟨(by show some (Value.bool _) = some (Value.bool _); first | (simp [hg11]; done) | (refine congrArg (fun z => some (Value.bool z)) (Bool.eq_iff_iff.2 ?_); simp [hg11]; omega)), ?_⟩)) ks9 hJ7
  try simp only [decide_eq_true_eq, decide_eq_false_iff_not, Bool.not_eq_true', Bool.not_eq_false', Int.natCast_pos] at hg11
  refine TL.gs ?_
  refine TL.gs ?_
  refine TL.gs ?_
  refine TL.p Pu.kf ?_
  refine TL.p Pu.as ?_
  refine TL.nil ?_
  exact TQ.sub (by repeat (first | exact trivial | refine ⟨rfl, ?_⟩ | refine ⟨trivial, ?_⟩ | refine ⟨(by show some (Value.bool _) = some (Value.bool _); first | (simp [hg11]; done) | (refine congrArg (fun z => some (Value.bool z)) (Bool.eq_iff_iff.2 ?_); simp [hg11]; omega)), ?_⟩)) ks9 hJ7
  try simp only [decide_eq_true_eq, decide_eq_false_iff_not, Bool.not_eq_true', Bool.not_eq_false', Bool.and_eq_true, Bool.or_eq_true, Bool.and_eq_false_iff, Bool.or_eq_false_iff, Int.not_lt, Int.not_le] at hc8
  have hn2 : 2 ≤ Z.nc := by omega
  have ho1 := Int.emod_nonneg one (show (Z.nc : Int) ≠ 0 by omega)
  have ho2 := Int.emod_lt_of_pos one (show 0 < (Z.nc : Int) by omega)
  have ht1 := Int.emod_nonneg two (show (Z.nc : Int) ≠ 0 by omega)
  have ht2 := Int.emod_lt_of_pos two (show 0 < (Z.nc : Int) by omega)
  refine TW.skip ?_
  refine TQ.thenN (hY31 _ _ ?_)
  refine TW.seq fun Y34 hY34 => ?_
  refine TW.dw 14 ?_
  refine RK.tk Pu.mv ?_
  refine RK.tk (Pu.cv (v := .int .i64 one) rfl (fun w => by go_simp; rw [IntWalk.i64_in one (by omega)])) ?_
  refine RK.tk (by first | exact Pu.fb ty_fa30_0 | exact Pu.fe ty_fa30_0) ?_
  refine RK.tk (Pu.ld ty_sc26) ?_
  refine RK.tk (Pu.ln Tryz.underlying26) ?_
  refine RK.tk Pu.rm ?_
  refine RK.tk Pu.mv ?_
  refine RK.tk (Pu.cv (v := .int .i64 two) rfl (fun w => by go_simp; rw [IntWalk.i64_in two (by omega)])) ?_
  refine RK.tk (by first | exact Pu.fb ty_fa30_0 | exact Pu.fe ty_fa30_0) ?_
  refine RK.tk (Pu.ld ty_sc26) ?_
  refine RK.tk (Pu.ln Tryz.underlying26) ?_
  refine RK.tk Pu.rm ?_
  refine RK.tk Pu.as ?_
  refine RK.tk Pu.as ?_
  refine RK.ch [] ?_ trivial
  refine WK.n ?_
  refine TL.nil ?_
  refine TQ.thenN (hY34 _ _ ?_)
  refine TW.seq fun Y35 hY35 => ?_
  refine TW.region ?_
  refine TL.p Pu.mv ?_
  refine TL.p Pu.mv ?_
  refine TL.p Pu.mn ?_
  refine TL.p Pu.mv ?_
  refine TL.p Pu.mv ?_
  refine TL.p Pu.mx ?_
  refine TL.p Pu.as ?_
  refine TL.p Pu.as ?_
  refine TL.nil ?_
  refine TQ.thenN (hY35 _ _ ?_)
  obtain ⟨i, hi⟩ : ∃ i : Nat, (i : Int) = min (one % (Z.nc : Int)) (two % (Z.nc : Int)) := ⟨(min (one % (Z.nc : Int)) (two % (Z.nc : Int))).toNat, by omega⟩
  obtain ⟨j, hj⟩ : ∃ j : Nat, (j : Int) = max (one % (Z.nc : Int)) (two % (Z.nc : Int)) := ⟨(max (one % (Z.nc : Int)) (two % (Z.nc : Int))).toNat, by omega⟩
  rw [← hi, ← hj]
  have hin : i < Z.nc := by omega
  have hjn : j < Z.nc := by omega
  have hli := pair_listed hL hin hjn
  rw [← disR_eq (hok i hin) (hok j hjn), ← hm] at hli
  replace hli : lisB L i j k = _ := hli
  replace hi := hidT hi
  replace hj := hidT hj
  refine TW.seq fun Y36 hY36 => ?_
  refine TW.expl (fun (⟨x10, x11⟩ : Nat × Nat) => ([(26, .pointer (some ⟨x10, 0, none⟩)), (27, .pointer (some ⟨x11, 0, none⟩)), (24, .int .i64 (i : Int)), (25, .int .i64 (j : Int)), (20, .slice As k cs), (13, .bool true)] : Fr)) (fun (⟨x10, x11⟩ : Nat × Nat) => [.blk x10 71 (claimL (Z.c i)), .blk x11 71 (claimL (Z.c j)), .own As k cs 80 2 (rowsP L)]) Drop.done ?_ (fun hE => ?_)
  rintro ⟨x10, x11⟩
  refine TQ.thenN (hY36 _ _ ?_)
  refine TW.seq fun Y37 hY37 => ?_
  refine TW.join [(28, .bool (decide ((i : Int) < (j : Int)) && disR (Z.c i) (Z.c j)))] ?_ (fun hJ8 => ?_)
  refine TQ.thenN (hY37 _ _ ?_)
  refine TW.seq fun Y38 hY38 => ?_
  refine TW.region ?_
  refine TL.p Pu.as ?_
  refine TL.nil ?_
  refine TQ.thenN (hY38 _ _ ?_)
  refine TW.seq fun Y39 hY39 => ?_
  refine TW.seq fun Y40 hY40 => ?_
  refine TW.region ?_
  refine TL.p Pu.mv ?_
  refine TL.p (Pu.ln Tryz.underlying86) ?_
  refine TL.p Pu.mv ?_
  refine TL.nil ?_
  refine TQ.thenN (hY40 _ _ ?_)
  refine TW.block ?_
  refine TW.loop1 (fun (q : Nat) => [(295, .int .i64 (q : Int)), (294, .int .i64 (k : Int)), (293, .slice As k cs), (24, .int .i64 (i : Int)), (25, .int .i64 (j : Int)), (13, .bool true), (28, .bool (decide ((i : Int) < (j : Int)) && disR (Z.c i) (Z.c j))), (29, .bool (lisB L i j q))]) (fun q => [.own As k cs 80 2 (rowsP L)]) (fun q => q ≤ k) (fun q => k - q) 0 fs9 ?_ ?_ ?_
  exact ks9
  exact Nat.zero_le _
  rintro q hq Z2 hZ2
  refine TW.seq fun Y41 hY41 => ?_
  refine TW.region ?_
  refine TL.p Pu.lt ?_
  refine TL.nil ?_
  refine TQ.thenN (hY41 _ _ ?_)
  refine TW.seq fun Y42 hY42 => ?_
  refine TW.cond rfl (fun hc9 => ?_) (fun hc9 => ?_)
  try simp only [decide_eq_true_eq, decide_eq_false_iff_not, Bool.not_eq_true', Bool.not_eq_false', Bool.and_eq_true, Bool.or_eq_true, Bool.and_eq_false_iff, Bool.or_eq_false_iff, Int.not_lt, Int.not_le] at hc9
  have hqk : q < k := by omega
  refine TW.skip ?_
  refine TQ.thenN (hY42 _ _ ?_)
  refine TW.seq fun Y43 hY43 => ?_
  refine TW.block ?_
  refine TW.seq fun Y44 hY44 => ?_
  refine TW.region ?_
  refine TL.p (Pu.el ty_et86) ?_
  refine TL.p (Pu.lds ty_ag80) ?_
  refine TL.m (Mk.al ty_zr80) ?_
  intro b6
  first | refine TL.st ty_sz80 ?_ | refine TL.se ty_sz80 ?_
  refine TL.nil ?_
  refine TQ.thenN (hY44 _ _ ?_)
  refine TW.join [(29, .bool (lisB L i j (q + 1)))] ?_ (fun hJ9 => ?_)
  refine TQ.blkN ?_
  refine TQ.thenN (hY43 _ _ ?_)
  refine TW.region ?_
  refine TL.p Pu.ad ?_
  refine TL.p Pu.mv ?_
  refine TL.nil ?_
  refine TQ.thenN (hZ2 (q + 1) _ _ ?_ ?_ fs9 ?_)
  exact (by omega)
  exact (by first | omega | (simp only []; omega) | (simp; omega))
  exact ks9
  refine TW.region ?_
  refine TL.p Pu.mv ?_
  refine TL.p Pu.mv ?_
  refine TL.guard (t := 300) rfl (fun hg12 => ?_) (fun hg12 => ?_)
  try simp only [decide_eq_true_eq, decide_eq_false_iff_not, Bool.not_eq_true', Bool.not_eq_false', Int.natCast_pos] at hg12
  refine TL.gs ?_
  refine TL.gs ?_
  refine TL.gs ?_
  refine TL.gs ?_
  refine TL.gs ?_
  refine TL.p Pu.kt ?_
  refine TL.p Pu.as ?_
  refine TL.nil ?_
  exact TQ.sub (by repeat (first | exact trivial | refine ⟨rfl, ?_⟩ | refine ⟨trivial, ?_⟩ | refine ⟨(by show some (Value.bool _) = some (Value.bool _); first | (simp [hg12, lisB_s, -List.getD_eq_getElem?_getD]; done) | (refine congrArg (fun z => some (Value.bool z)) (Bool.eq_iff_iff.2 ?_); simp [hg12, lisB_s, -List.getD_eq_getElem?_getD]; omega)), ?_⟩)) ks9 hJ9
  try simp only [decide_eq_true_eq, decide_eq_false_iff_not, Bool.not_eq_true', Bool.not_eq_false', Int.natCast_pos] at hg12
  refine TL.gd (Pu.lds ty_ag80) ?_
  refine TL.gd Pu.mv ?_
  refine TL.gd Pu.mv ?_
  refine TL.gd Pu.bd ?_
  refine TL.gd (Pu.bn rfl rfl (fun w => eqPair _ _ _ _ _ _ w)) ?_
  refine TL.p Pu.kf ?_
  refine TL.p Pu.as ?_
  refine TL.nil ?_
  exact TQ.sub (by repeat (first | exact trivial | refine ⟨rfl, ?_⟩ | refine ⟨trivial, ?_⟩ | refine ⟨(by show some (Value.bool _) = some (Value.bool _); first | (simp [hg12, lisB_s, -List.getD_eq_getElem?_getD]; done) | (refine congrArg (fun z => some (Value.bool z)) (Bool.eq_iff_iff.2 ?_); simp [hg12, lisB_s, -List.getD_eq_getElem?_getD]; omega)), ?_⟩)) ks9 hJ9
  try simp only [decide_eq_true_eq, decide_eq_false_iff_not, Bool.not_eq_true', Bool.not_eq_false', Bool.and_eq_true, Bool.or_eq_true, Bool.and_eq_false_iff, Bool.or_eq_false_iff, Int.not_lt, Int.not_le] at hc9
  obtain rfl : q = k := by omega
  rw [hli]
  refine TW.exit ?_
  refine TQ.thenX ?_
  refine TQ.thenX ?_
  refine TQ.blkX ?_
  refine TQ.thenN (hY39 _ _ ?_)
  refine TW.seq fun Y45 hY45 => ?_
  refine TW.join [(12, .bool true)] ?_ (fun hJ10 => ?_)
  refine TQ.thenN (hY45 _ _ ?_)
  refine TW.ret ?_
  refine TQ.ret Tryz.results8 rfl ((.tmp rfl .nil)) ?_
  exact fun w hw => Ret.of hw
  refine TW.region ?_
  refine TL.p Pu.mv ?_
  refine TL.p Pu.mv ?_
  refine TL.guard (t := 309) rfl (fun hg13 => ?_) (fun hg13 => ?_)
  try simp only [decide_eq_true_eq, decide_eq_false_iff_not, Bool.not_eq_true', Bool.not_eq_false', Int.natCast_pos] at hg13
  refine TL.gd Pu.mv ?_
  refine TL.gd Pu.mv ?_
  refine TL.gd Pu.bn ?_
  refine TL.p Pu.kt ?_
  refine TL.p Pu.as ?_
  refine TL.nil ?_
  exact TQ.sub (by repeat (first | exact trivial | refine ⟨rfl, ?_⟩ | refine ⟨trivial, ?_⟩ | refine ⟨(by show some (Value.bool _) = some (Value.bool _); first | (simp [hg13]; done) | (refine congrArg (fun z => some (Value.bool z)) (Bool.eq_iff_iff.2 ?_); simp [hg13]; omega)), ?_⟩)) ks9 hJ10
  try simp only [decide_eq_true_eq, decide_eq_false_iff_not, Bool.not_eq_true', Bool.not_eq_false', Int.natCast_pos] at hg13
  refine TL.gs ?_
  refine TL.gs ?_
  refine TL.gs ?_
  refine TL.p Pu.kf ?_
  refine TL.p Pu.as ?_
  refine TL.nil ?_
  exact TQ.sub (by repeat (first | exact trivial | refine ⟨rfl, ?_⟩ | refine ⟨trivial, ?_⟩ | refine ⟨(by show some (Value.bool _) = some (Value.bool _); first | (simp [hg13]; done) | (refine congrArg (fun z => some (Value.bool z)) (Bool.eq_iff_iff.2 ?_); simp [hg13]; omega)), ?_⟩)) ks9 hJ10
  refine TW.region ?_
  refine TL.p Pu.mv ?_
  refine TL.p Pu.mv ?_
  refine TL.p Pu.lt ?_
  refine TL.p Pu.mv ?_
  refine TL.guard (t := 266) rfl (fun hg14 => ?_) (fun hg14 => ?_)
  try simp only [decide_eq_true_eq, decide_eq_false_iff_not, Bool.not_eq_true', Bool.not_eq_false', Int.natCast_pos] at hg14
  refine TL.gd (by first | exact Pu.fb ty_fa71_0 | exact Pu.fe ty_fa71_0) ?_
  refine TL.gd (Pu.ld ty_sc3) ?_
  refine TL.gd (by first | exact Pu.fb ty_fa71_0 | exact Pu.fe ty_fa71_0) ?_
  refine TL.gd (Pu.ld ty_sc3) ?_
  refine TL.gd Pu.eq ?_
  refine TL.p Pu.kt ?_
  refine TL.p Pu.mv ?_
  refine TL.guard (t := 273) rfl (fun hg15 => ?_) (fun hg15 => ?_)
  try simp only [decide_eq_true_eq, decide_eq_false_iff_not, Bool.not_eq_true', Bool.not_eq_false', Int.natCast_pos] at hg15
  refine TL.gd (by first | exact Pu.fb ty_fa71_1 | exact Pu.fe ty_fa71_1) ?_
  refine TL.gd (Pu.ld ty_sc3) ?_
  refine TL.gd (by first | exact Pu.fb ty_fa71_1 | exact Pu.fe ty_fa71_1) ?_
  refine TL.gd (Pu.ld ty_sc3) ?_
  refine TL.gd Pu.ne ?_
  refine TL.p Pu.kt ?_
  refine TL.p Pu.mv ?_
  refine TL.guard (t := 280) rfl (fun hg16 => ?_) (fun hg16 => ?_)
  try simp only [decide_eq_true_eq, decide_eq_false_iff_not, Bool.not_eq_true', Bool.not_eq_false', Int.natCast_pos] at hg16
  refine TL.gd (by first | exact Pu.fb ty_fa71_2 | exact Pu.fe ty_fa71_2) ?_
  refine TL.gd (Pu.ld ty_sc3) ?_
  refine TL.gd (by first | exact Pu.fb ty_fa71_2 | exact Pu.fe ty_fa71_2) ?_
  refine TL.gd (Pu.ld ty_sc3) ?_
  refine TL.gd Pu.mx ?_
  refine TL.gd (by first | exact Pu.fb ty_fa71_3 | exact Pu.fe ty_fa71_3) ?_
  refine TL.gd (Pu.ld ty_sc3) ?_
  refine TL.gd (by first | exact Pu.fb ty_fa71_3 | exact Pu.fe ty_fa71_3) ?_
  refine TL.gd (Pu.ld ty_sc3) ?_
  refine TL.gd Pu.mn ?_
  refine TL.gd Pu.le ?_
  refine TL.p Pu.kt ?_
  refine TL.p Pu.as ?_
  refine TL.nil ?_
  exact TQ.sub (by repeat (first | exact trivial | refine ⟨rfl, ?_⟩ | refine ⟨trivial, ?_⟩ | refine ⟨(by show some (Value.bool _) = some (Value.bool _); first | (simp [hg14, hg15, hg16, disR]; done) | (refine congrArg (fun z => some (Value.bool z)) (Bool.eq_iff_iff.2 ?_); simp [hg14, hg15, hg16, disR]; omega)), ?_⟩)) ks9 hJ8
  try simp only [decide_eq_true_eq, decide_eq_false_iff_not, Bool.not_eq_true', Bool.not_eq_false', Int.natCast_pos] at hg16
  refine TL.gs ?_
  refine TL.gs ?_
  refine TL.gs ?_
  refine TL.gs ?_
  refine TL.gs ?_
  refine TL.gs ?_
  refine TL.gs ?_
  refine TL.gs ?_
  refine TL.gs ?_
  refine TL.gs ?_
  refine TL.gs ?_
  refine TL.p Pu.kf ?_
  refine TL.p Pu.as ?_
  refine TL.nil ?_
  exact TQ.sub (by repeat (first | exact trivial | refine ⟨rfl, ?_⟩ | refine ⟨trivial, ?_⟩ | refine ⟨(by show some (Value.bool _) = some (Value.bool _); first | (simp [hg14, hg15, hg16, disR]; done) | (refine congrArg (fun z => some (Value.bool z)) (Bool.eq_iff_iff.2 ?_); simp [hg14, hg15, hg16, disR]; omega)), ?_⟩)) ks9 hJ8
  try simp only [decide_eq_true_eq, decide_eq_false_iff_not, Bool.not_eq_true', Bool.not_eq_false', Int.natCast_pos] at hg15
  refine TL.gs ?_
  refine TL.gs ?_
  refine TL.gs ?_
  refine TL.gs ?_
  refine TL.gs ?_
  refine TL.p Pu.kf ?_
  refine TL.p Pu.mv ?_
  refine TL.gs ?_
  refine TL.gs ?_
  refine TL.gs ?_
  refine TL.gs ?_
  refine TL.gs ?_
  refine TL.gs ?_
  refine TL.gs ?_
  refine TL.gs ?_
  refine TL.gs ?_
  refine TL.gs ?_
  refine TL.gs ?_
  refine TL.p Pu.kf ?_
  refine TL.p Pu.as ?_
  refine TL.nil ?_
  exact TQ.sub (by repeat (first | exact trivial | refine ⟨rfl, ?_⟩ | refine ⟨trivial, ?_⟩ | refine ⟨(by show some (Value.bool _) = some (Value.bool _); first | (simp [hg14, hg15, disR]; done) | (refine congrArg (fun z => some (Value.bool z)) (Bool.eq_iff_iff.2 ?_); simp [hg14, hg15, disR]; omega)), ?_⟩)) ks9 hJ8
  try simp only [decide_eq_true_eq, decide_eq_false_iff_not, Bool.not_eq_true', Bool.not_eq_false', Int.natCast_pos] at hg14
  refine TL.gs ?_
  refine TL.gs ?_
  refine TL.gs ?_
  refine TL.gs ?_
  refine TL.gs ?_
  refine TL.p Pu.kf ?_
  refine TL.p Pu.mv ?_
  refine TL.gs ?_
  refine TL.gs ?_
  refine TL.gs ?_
  refine TL.gs ?_
  refine TL.gs ?_
  refine TL.p Pu.kf ?_
  refine TL.p Pu.mv ?_
  refine TL.gs ?_
  refine TL.gs ?_
  refine TL.gs ?_
  refine TL.gs ?_
  refine TL.gs ?_
  refine TL.gs ?_
  refine TL.gs ?_
  refine TL.gs ?_
  refine TL.gs ?_
  refine TL.gs ?_
  refine TL.gs ?_
  refine TL.p Pu.kf ?_
  refine TL.p Pu.as ?_
  refine TL.nil ?_
  exact TQ.sub (by repeat (first | exact trivial | refine ⟨rfl, ?_⟩ | refine ⟨trivial, ?_⟩ | refine ⟨(by show some (Value.bool _) = some (Value.bool _); first | (simp [hg14, disR]; done) | (refine congrArg (fun z => some (Value.bool z)) (Bool.eq_iff_iff.2 ?_); simp [hg14, disR]; omega)), ?_⟩)) ks9 hJ8
  refine RG.tk 0 rfl (by first | exact Pu.fb ty_fa30_0 | exact Pu.fe ty_fa30_0) ?_
  refine RG.tk 1 rfl (Pu.ld ty_sc26) ?_
  refine RG.tk 2 rfl Pu.mv ?_
  refine RG.tk 3 rfl (Pu.el (q := i) ty_et26) ?_
  refine RG.tk 4 rfl (Pu.lds ty_ag71) ?_
  refine RG.tk 5 rfl (by first | exact Pu.fb ty_fa30_0 | exact Pu.fe ty_fa30_0) ?_
  refine RG.tk 6 rfl (Pu.ld ty_sc26) ?_
  refine RG.tk 7 rfl Pu.mv ?_
  refine RG.tk 8 rfl (Pu.el (q := j) ty_et26) ?_
  refine RG.tk 9 rfl (Pu.lds ty_ag71) ?_
  refine RG.a2 10 11 rfl rfl (fun X10 hX10 => ?_) (fun X11 hX11 => ?_)
  refine TL.m (Mk.al ty_zr71) ?_
  intro x10
  refine TL.nil ?_
  refine TQ.nxt (hX10 _ _ hl9 ?_)
  refine RG.a1 11 rfl (fun X11 hX11 => ?_)
  refine TL.m (Mk.al ty_zr71) ?_
  intro x11
  refine TL.nil ?_
  refine TQ.nxt (hX11 _ _ hl9 ?_)
  refine RG.a1 12 rfl (fun X12 hX12 => ?_)
  first | refine TL.st ty_sz71 ?_ | refine TL.se ty_sz71 ?_
  refine TL.nil ?_
  refine TQ.nxt (hX12 _ _ hl9 ?_)
  refine RG.a1 13 rfl (fun X13 hX13 => ?_)
  first | refine TL.st ty_sz71 ?_ | refine TL.se ty_sz71 ?_
  refine TL.nil ?_
  refine TQ.nxt (hX13 _ _ hl9 ?_)
  exact RG.nil (TQ.sub fs9 kt9 (hE ⟨x10, x11⟩)) (by kernel_rfl)
  refine TL.m (Mk.al ty_zr71) ?_
  intro x11
  refine TL.nil ?_
  refine TQ.nxt (hX11 _ _ hl9 ?_)
  refine RG.a1 10 rfl (fun X10 hX10 => ?_)
  refine TL.m (Mk.al ty_zr71) ?_
  intro x10
  refine TL.nil ?_
  refine TQ.nxt (hX10 _ _ hl9 ?_)
  refine RG.a1 12 rfl (fun X12 hX12 => ?_)
  first | refine TL.st ty_sz71 ?_ | refine TL.se ty_sz71 ?_
  refine TL.nil ?_
  refine TQ.nxt (hX12 _ _ hl9 ?_)
  refine RG.a1 13 rfl (fun X13 hX13 => ?_)
  first | refine TL.st ty_sz71 ?_ | refine TL.se ty_sz71 ?_
  refine TL.nil ?_
  refine TQ.nxt (hX13 _ _ hl9 ?_)
  exact RG.nil (TQ.sub fs9 kt9 (hE ⟨x10, x11⟩)) (by kernel_rfl)
  refine TW.dw 31 ?_
  refine RK.tk Pu.mv ?_
  refine RK.tk (Pu.bv Pu.ne rfl) ?_
  refine RK.tk Pu.mv ?_
  refine RK.tk Pu.mv ?_
  refine RK.tk (Pu.bv Pu.lt (decide_eq_false (by omega))) ?_
  refine RK.tk Pu.kf ?_
  refine RK.tk Pu.mv ?_
  refine RK.tk Pu.mv ?_
  refine RK.tk (by first | exact Pu.fb ty_fa30_0 | exact Pu.fe ty_fa30_0) ?_
  refine RK.tk (Pu.ld ty_sc26) ?_
  refine RK.tk (Pu.ln Tryz.underlying26) ?_
  refine RK.tk (Pu.bv Pu.ge (decide_eq_false (by omega))) ?_
  refine RK.tk Pu.kf ?_
  refine RK.tk Pu.mv ?_
  refine RK.tk Pu.mv ?_
  refine RK.tk Pu.mv ?_
  refine RK.tk Pu.ge ?_
  refine RK.tk Pu.bn ?_
  refine RK.tk Pu.kf ?_
  refine RK.tk Pu.mv ?_
  refine RK.guard (t := 108) rfl (fun hg17 => ?_) (fun hg17 => ?_)
  try simp only [decide_eq_true_eq, decide_eq_false_iff_not, Bool.not_eq_true', Bool.not_eq_false', Int.natCast_pos] at hg17
  refine RK.s ?_
  refine RK.s ?_
  refine RK.s ?_
  refine RK.s ?_
  refine RK.s ?_
  refine RK.s ?_
  refine RK.s ?_
  refine RK.s ?_
  refine RK.s ?_
  refine RK.s ?_
  refine RK.tk Pu.kt ?_
  refine RK.ch [] ?_ trivial
  refine WK.n ?_
  refine TL.nil ?_
  exact TQ.sub (by repeat (first | exact trivial | refine ⟨rfl, ?_⟩ | refine ⟨trivial, ?_⟩ | refine ⟨(by show some (Value.bool _) = some (Value.bool _); first | (simp [hg17]; done) | (refine congrArg (fun z => some (Value.bool z)) (Bool.eq_iff_iff.2 ?_); simp [hg17]; omega)), ?_⟩)) ks9 hJ4
  try simp only [decide_eq_true_eq, decide_eq_false_iff_not, Bool.not_eq_true', Bool.not_eq_false', Int.natCast_pos] at hg17
  refine RK.tk Pu.mv ?_
  refine RK.tk Pu.mv ?_
  refine RK.guard (t := 110) rfl (fun hg18 => ?_) (fun hg18 => ?_)
  try simp only [decide_eq_true_eq, decide_eq_false_iff_not, Bool.not_eq_true', Bool.not_eq_false', Int.natCast_pos] at hg18
  refine RK.tk (by first | exact Pu.fb ty_fa30_0 | exact Pu.fe ty_fa30_0) ?_
  refine RK.tk (Pu.ld ty_sc26) ?_
  refine RK.tk Pu.mv ?_
  refine RK.tk (Pu.el (q := (holZ Z leg day).toNat) ty_et26 (hk := rfl)) ?_
  refine RK.tk (Pu.lds ty_ag71) ?_
  refine RK.tk (Pu.lds ty_ag71) ?_
  refine RK.tk (Pu.bn rfl rfl (fun w => neHcl (by omega) _ _ w)) ?_
  refine RK.tk Pu.kt ?_
  refine RK.tk Pu.kf ?_
  refine RK.ch [] ?_ trivial
  refine WK.n ?_
  refine TL.nil ?_
  exact TQ.sub (by repeat (first | exact trivial | refine ⟨rfl, ?_⟩ | refine ⟨trivial, ?_⟩ | refine ⟨(by show some (Value.bool _) = some (Value.bool _); first | (simp [hg17, hg18]; done) | (refine congrArg (fun z => some (Value.bool z)) (Bool.eq_iff_iff.2 ?_); simp [hg17, hg18]; omega)), ?_⟩)) ks9 hJ4
  try simp only [decide_eq_true_eq, decide_eq_false_iff_not, Bool.not_eq_true', Bool.not_eq_false', Int.natCast_pos] at hg18
  refine RK.s ?_
  refine RK.s ?_
  refine RK.s ?_
  refine RK.s ?_
  refine RK.s ?_
  refine RK.s ?_
  refine RK.s ?_
  refine RK.tk Pu.kf ?_
  refine RK.tk Pu.kf ?_
  refine RK.ch [] ?_ trivial
  refine WK.n ?_
  refine TL.nil ?_
  exact TQ.sub (by repeat (first | exact trivial | refine ⟨rfl, ?_⟩ | refine ⟨trivial, ?_⟩ | refine ⟨(by show some (Value.bool _) = some (Value.bool _); first | (simp [hg17, hg18]; done) | (refine congrArg (fun z => some (Value.bool z)) (Bool.eq_iff_iff.2 ?_); simp [hg17, hg18]; omega)), ?_⟩)) ks9 hJ4
  refine TW.region ?_
  refine TL.p Pu.mv ?_
  refine TL.p Pu.lt ?_
  refine TL.p Pu.mv ?_
  refine TL.guard (t := 58) rfl (fun hg19 => ?_) (fun hg19 => ?_)
  try simp only [decide_eq_true_eq, decide_eq_false_iff_not, Bool.not_eq_true', Bool.not_eq_false', Int.natCast_pos] at hg19
  refine TL.gs ?_
  refine TL.gs ?_
  refine TL.gs ?_
  refine TL.gs ?_
  refine TL.gs ?_
  refine TL.p Pu.kt ?_
  refine TL.p Pu.mv ?_
  refine TL.gs ?_
  refine TL.gs ?_
  refine TL.p Pu.kt ?_
  refine TL.p Pu.mv ?_
  refine TL.gs ?_
  refine TL.gs ?_
  refine TL.p Pu.kt ?_
  refine TL.nil ?_
  exact TQ.sub (by repeat (first | exact trivial | refine ⟨rfl, ?_⟩ | refine ⟨trivial, ?_⟩ | refine ⟨(by show some (Value.bool _) = some (Value.bool _); first | (simp [hg19, inB5]; done) | (refine congrArg (fun z => some (Value.bool z)) (Bool.eq_iff_iff.2 ?_); simp [hg19, inB5]; omega)), ?_⟩)) ks9 hJ2
  try simp only [decide_eq_true_eq, decide_eq_false_iff_not, Bool.not_eq_true', Bool.not_eq_false', Int.natCast_pos] at hg19
  refine TL.gd Pu.mv ?_
  refine TL.gd (by first | exact Pu.fb ty_fa25_1 | exact Pu.fe ty_fa25_1) ?_
  refine TL.gd (Pu.ld ty_sc23) ?_
  refine TL.gd (Pu.ln Tryz.underlying23) ?_
  refine TL.gd Pu.ge ?_
  refine TL.p Pu.kf ?_
  refine TL.p Pu.mv ?_
  refine TL.guard (t := 65) rfl (fun hg20 => ?_) (fun hg20 => ?_)
  try simp only [decide_eq_true_eq, decide_eq_false_iff_not, Bool.not_eq_true', Bool.not_eq_false', Int.natCast_pos] at hg20
  refine TL.gs ?_
  refine TL.gs ?_
  refine TL.p Pu.kt ?_
  refine TL.p Pu.mv ?_
  refine TL.gs ?_
  refine TL.gs ?_
  refine TL.p Pu.kt ?_
  refine TL.nil ?_
  exact TQ.sub (by repeat (first | exact trivial | refine ⟨rfl, ?_⟩ | refine ⟨trivial, ?_⟩ | refine ⟨(by show some (Value.bool _) = some (Value.bool _); first | (simp [hg19, hg20, inB5]; done) | (refine congrArg (fun z => some (Value.bool z)) (Bool.eq_iff_iff.2 ?_); simp [hg19, hg20, inB5]; omega)), ?_⟩)) ks9 hJ2
  try simp only [decide_eq_true_eq, decide_eq_false_iff_not, Bool.not_eq_true', Bool.not_eq_false', Int.natCast_pos] at hg20
  refine TL.gd Pu.mv ?_
  refine TL.gd Pu.lt ?_
  refine TL.p Pu.kf ?_
  refine TL.p Pu.mv ?_
  refine TL.guard (t := 69) rfl (fun hg21 => ?_) (fun hg21 => ?_)
  try simp only [decide_eq_true_eq, decide_eq_false_iff_not, Bool.not_eq_true', Bool.not_eq_false', Int.natCast_pos] at hg21
  refine TL.gs ?_
  refine TL.gs ?_
  refine TL.p Pu.kt ?_
  refine TL.nil ?_
  exact TQ.sub (by repeat (first | exact trivial | refine ⟨rfl, ?_⟩ | refine ⟨trivial, ?_⟩ | refine ⟨(by show some (Value.bool _) = some (Value.bool _); first | (simp [hg19, hg20, hg21, inB5]; done) | (refine congrArg (fun z => some (Value.bool z)) (Bool.eq_iff_iff.2 ?_); simp [hg19, hg20, hg21, inB5]; omega)), ?_⟩)) ks9 hJ2
  try simp only [decide_eq_true_eq, decide_eq_false_iff_not, Bool.not_eq_true', Bool.not_eq_false', Int.natCast_pos] at hg21
  refine TL.gd Pu.mv ?_
  refine TL.gd Pu.gt ?_
  refine TL.p Pu.kf ?_
  refine TL.nil ?_
  exact TQ.sub (by repeat (first | exact trivial | refine ⟨rfl, ?_⟩ | refine ⟨trivial, ?_⟩ | refine ⟨(by show some (Value.bool _) = some (Value.bool _); first | (simp [hg19, hg20, hg21, inB5]; done) | (refine congrArg (fun z => some (Value.bool z)) (Bool.eq_iff_iff.2 ?_); simp [hg19, hg20, hg21, inB5]; omega)), ?_⟩)) ks9 hJ2
  refine TW.region ?_
  refine TL.p (Pu.lds ty_ag25) ?_
  refine TL.p (Pu.lds ty_ag30) ?_
  refine TL.p Pu.bd ?_
  refine TL.cr rfl (enters Tryz.func14 rfl rfl) (fun w hw => by
      exact great7_any (no := 0) (nu := 0) (nv := 0) (hRA.sat hw Apart.nil)) ?_
  refine TL.p Pu.mv ?_
  refine TL.guard (t := 37) rfl (fun hg22 => ?_) (fun hg22 => ?_)
  try simp only [decide_eq_true_eq, decide_eq_false_iff_not, Bool.not_eq_true', Bool.not_eq_false', Int.natCast_pos] at hg22
  refine TL.gs ?_
  refine TL.gs ?_
  refine TL.gs ?_
  refine TL.gs ?_
  refine TL.p Pu.kt ?_
  refine TL.p Pu.mv ?_
  refine TL.gs ?_
  refine TL.gs ?_
  refine TL.p Pu.kt ?_
  refine TL.nil ?_
  exact TQ.sub (by repeat (first | exact trivial | refine ⟨rfl, ?_⟩ | refine ⟨trivial, ?_⟩ | refine ⟨(by show some (Value.bool _) = some (Value.bool _); first | (simp [hg22]; done) | (refine congrArg (fun z => some (Value.bool z)) (Bool.eq_iff_iff.2 ?_); simp [hg22]; omega)), ?_⟩)) ks9 hJ1
  try simp only [decide_eq_true_eq, decide_eq_false_iff_not, Bool.not_eq_true', Bool.not_eq_false', Int.natCast_pos] at hg22
  refine TL.gd (Pu.lds ty_ag25) ?_
  refine TL.gd (Pu.lds ty_ag30) ?_
  refine TL.cr rfl (enters Tryz.func35 rfl rfl) (fun w hw => by
      exact fK _ ((aL (by assumption)).ext (Chg.ext hw.chg)) ((aC (by assumption)).ext (Chg.ext hw.chg))) ?_
  refine TL.gd Pu.ne ?_
  refine TL.p Pu.kf ?_
  refine TL.p Pu.mv ?_
  refine TL.guard (t := 43) rfl (fun hg23 => ?_) (fun hg23 => ?_)
  try simp only [decide_eq_true_eq, decide_eq_false_iff_not, Bool.not_eq_true', Bool.not_eq_false', Int.natCast_pos] at hg23
  refine TL.gs ?_
  refine TL.gs ?_
  refine TL.p Pu.kt ?_
  refine TL.nil ?_
  exact TQ.sub (by repeat (first | exact trivial | refine ⟨rfl, ?_⟩ | refine ⟨trivial, ?_⟩ | refine ⟨(by show some (Value.bool _) = some (Value.bool _); first | (simp [hg22, hg23]; done) | (refine congrArg (fun z => some (Value.bool z)) (Bool.eq_iff_iff.2 ?_); simp [hg22, hg23]; omega)), ?_⟩)) ks9 hJ1
  try simp only [decide_eq_true_eq, decide_eq_false_iff_not, Bool.not_eq_true', Bool.not_eq_false', Int.natCast_pos] at hg23
  refine TL.gd Pu.mv ?_
  refine TL.gd Pu.no ?_
  refine TL.p Pu.kf ?_
  refine TL.nil ?_
  exact TQ.sub (by repeat (first | exact trivial | refine ⟨rfl, ?_⟩ | refine ⟨trivial, ?_⟩ | refine ⟨(by show some (Value.bool _) = some (Value.bool _); first | (simp [hg22, hg23]; done) | (refine congrArg (fun z => some (Value.bool z)) (Bool.eq_iff_iff.2 ?_); simp [hg22, hg23]; omega)), ?_⟩)) ks9 hJ1
end
end Go.Proofs.YtmonkjnfjgidbaaGreatDoor
namespace Go.Proofs.YtmonkjnfjgidbaaGreatDoor
set_option linter.all false
set_option linter.unusedVariables false
set_option linter.unusedSimpArgs false
open Go.ChangeShapes Go.WideShapes Go.RowKit Go.Deep
section
variable {H : Type} {enc : TypeId × Value → H} {P : Program} {w : World} {base : Nat} {spare : Nat → Bool} {held : Bool}
def kindsL (P : Program) (g : TypeId → Option (List IntKind)) : List Field → Nat → Option (List IntKind)
  | [], _ => some []
  | f :: fs, off => match g f.type with
    | some a => if f.offset = off ∧ a.length = P.cellsOf f.type then match kindsL P g fs (off + a.length) with
      | some b => some (a ++ b)
      | none => none
      else none
    | none => none
def kindsF (P : Program) : Nat → TypeId → Option (List IntKind)
  | 0, _ => none
  | d + 1, t => match P.underlying t with
    | some (.int k) => some [k]
    | some (.struct fs) => match kindsL P (kindsF P d) fs.toList 0 with
      | some a => if a.length = P.cellsOf t then some a else none
      | none => none
    | _ => none
def ints (ks : List IntKind) (ns : List Int) : List Value := List.zipWith Value.int ks ns
theorem ints_append {a b : List IntKind} {x y : List Int} (h : x.length = a.length) : ints (a ++ b) (x ++ y) = ints a x ++ ints b y := by
  unfold ints; rw [List.zipWith_append h.symm]
theorem ints_length {a : List IntKind} {x : List Int} (h : x.length = a.length) : (ints a x).length = a.length := by simp [ints, h]
theorem kindsL_spec {g : TypeId → Option (List IntKind)} (hg : ∀ t ks, g t = some ks → ∀ fuel cs x, DataW.trod enc P w base spare held fuel t cs = some x → ∃ ns : List Int, cs = ints ks ns ∧ ns.length = ks.length) :
    ∀ (fs : List Field) (off : Nat) (ks : List IntKind) (cs : List Value), kindsL P g fs off = some ks → cs.length = off + ks.length →
      (∀ f ∈ fs, ∃ n x, DataW.trod enc P w base spare held n f.type ((cs.drop f.offset).take (P.cellsOf f.type)) = some x) → ∃ ns : List Int, cs.drop off = ints ks ns ∧ ns.length = ks.length
  | [], off, ks, cs, h, hl, _ => by cases h; exact ⟨[], by simp at hl; simp [ints, hl], rfl⟩
  | f :: fs, off, ks, cs, h, hl, hf => by
    simp only [kindsL] at h
    cases h1 : g f.type with
    | none => rw [h1] at h; cases h
    | some a =>
      rw [h1] at h
      simp only at h
      split at h
      · rename_i h2
        obtain ⟨h2, h3⟩ := h2
        cases h4 : kindsL P g fs (off + a.length) with
        | none => rw [h4] at h; cases h
        | some b =>
          rw [h4] at h
          cases h
          obtain ⟨n, x, hx⟩ := hf f (by simp)
          rw [h2, ← h3] at hx
          obtain ⟨ns, e1, e2⟩ := hg _ _ h1 _ _ _ hx
          obtain ⟨ms, e3, e4⟩ := kindsL_spec hg fs (off + a.length) b cs h4 (by rw [hl]; simp; omega) (fun f' hf' => hf f' (by simp [hf']))
          refine ⟨ns ++ ms, ?_, by simp [e2, e4]⟩
          rw [ints_append e2, ← e1, ← e3, ← List.drop_drop, List.take_append_drop]
      · cases h
theorem kindsF_spec : ∀ (d : Nat) (t : TypeId) (ks : List IntKind), kindsF P d t = some ks → ∀ fuel cs x, DataW.trod enc P w base spare held fuel t cs = some x → ∃ ns : List Int, cs = ints ks ns ∧ ns.length = ks.length
  | 0, _, _, h, _, _, _, _ => by cases h
  | d + 1, t, ks, h, fuel, cs, x, hx => by
    simp only [kindsF] at h
    cases hu : P.underlying t with
    | none => rw [hu] at h; cases h
    | some desc =>
      rw [hu] at h
      match desc, hu, h with
      | .int k, hu, h =>
        injection h with h
        subst h
        obtain ⟨n, rfl, _, _⟩ := DataW.trod_int hu hx
        exact ⟨[n], rfl, rfl⟩
      | .struct fs, hu, h =>
        simp only at h
        cases h1 : kindsL P (kindsF P d) fs.toList 0 with
        | none => rw [h1] at h; cases h
        | some a =>
          rw [h1] at h
          simp only at h
          split at h
          · rename_i h2
            cases h
            obtain ⟨xs, n, _, _, hlen, hxl, hf⟩ := DataW.trod_struct hu hx
            obtain ⟨ns, e1, e2⟩ := kindsL_spec (kindsF_spec d) fs.toList 0 _ cs h1 (by omega) (fun f hf' => by
              obtain ⟨i, hi, rfl⟩ := List.getElem_of_mem hf'
              have hi' : i < fs.size := by simpa using hi
              have := hf i fs[i] (by simp [hi'])
              rw [List.getElem?_eq_getElem (by omega)] at this
              exact ⟨n, _, this⟩)
            exact ⟨ns, by simpa using e1, e2⟩
          · cases h
theorem open_flat_slice {t e : TypeId} {fuel : Nat} {cs : List Value} {x : DataW H × List MemPlace} (d : Nat) {ks : List IntKind} (ht : P.underlying t = some (.slice e)) (hk : kindsF P d e = some ks) (hC : P.cellsOf e = ks.length) (h0 : Nat.blt 0 ks.length = true) (h : DataW.trod enc P w base spare held fuel t cs = some x) :
    ∃ (A : Option Addr) (len cap : Nat) (g : Nat → List Int), cs = [.slice A len cap] ∧ (∀ i, i < len → (g i).length = ks.length) ∧ RdR w ks.length A len (fun i => ints ks (g i)) ∧ (A = none → len = 0 ∧ cap = 0) ∧ len ≤ cap ∧ cap ≤ maxLen := by
  have h0 : 0 < ks.length := Nat.le_of_ble_eq_true h0
  rcases open_slice ht h with ⟨rfl, rfl⟩ | ⟨a, len, cap, m, n, D, Pl, rfl, hb, hl, hm, hmm, _, hi⟩
  · exact ⟨none, 0, 0, fun _ => [], rfl, fun i hi => by omega, ⟨Rd.nil, fun i hi => by omega⟩, fun _ => ⟨rfl, rfl⟩, Nat.le_refl _, Nat.zero_le _⟩
  · have hlm : len ≤ m := by rw [hmm]; split <;> omega
    have key : ∀ i, i < len → ∃ ns : List Int, ns.length = ks.length ∧ ∀ j, j < ks.length → w.cell? (a.add (i * ks.length + j)) = (ints ks ns)[j]? := fun i hil => by
      obtain ⟨cs', hc, hx⟩ := hi i (by omega)
      obtain ⟨_, hcl, hat⟩ := World.cells?_some hc
      obtain ⟨ns, rfl, e2⟩ := kindsF_spec d e ks hk _ _ _ hx
      refine ⟨ns, e2, fun j hj => ?_⟩
      have := hat j (by rw [hC]; exact hj)
      rw [hC] at this
      rw [← this, ← add_add]
    refine ⟨some a, len, cap, fun i => if hi : i < len then (key i hi).choose else [], rfl, fun i hi => ?_, ⟨fun hn => ?_, fun i hi => ?_⟩, fun h => (by cases h), hl, hm⟩
    · simp only [hi, dite_true]; exact (key i hi).choose_spec.1
    · have h1 := (key 0 hn).choose_spec.2 0 h0
      have hsome : (ints ks (key 0 hn).choose)[0]? = some ((ints ks (key 0 hn).choose)[0]'(by rw [ints_length (key 0 hn).choose_spec.1]; exact h0)) := List.getElem?_eq_getElem _
      rw [hsome] at h1
      have hadd : a.add (0 * ks.length + 0) = a := by simp [Addr.add]
      rw [hadd] at h1
      have hsp : a.spot = none := by
        unfold World.cell? at h1
        split at h1
        · cases hs : a.spot with
          | none => rfl
          | some s => simp [hs] at h1
        · cases h1
      have hlt : a.block < w.heap.size := World.block_lt_of_cell? w a h1
      obtain ⟨b, o, s⟩ := a
      simp only at hsp
      subst hsp
      refine ⟨b, o, rfl, hlt, fun i j hi hj => ?_⟩
      have h2 := (key i hi).choose_spec.2 j hj
      rw [add_plain] at h2
      rw [show o + i * ks.length + j = o + (i * ks.length + j) by omega, h2]
      simp only [rowF, hi, dite_true]
      have hl2 : j < (ints ks (key i hi).choose).length := by rw [ints_length (key i hi).choose_spec.1]; exact hj
      rw [List.getElem?_eq_getElem hl2]
      simp [List.getD_eq_getElem?_getD, List.getElem?_eq_getElem hl2]
    · simp only [hi, dite_true]
      exact ints_length (key i hi).choose_spec.1
def gi (ns : List Int) (j : Nat) : Int := ns.getD j 0
def rowK : List IntKind → (Nat → Int) → List Value
  | [], _ => []
  | k :: ks, f => .int k (f 0) :: rowK ks fun j => f (j + 1)
theorem ints_rowK : ∀ (ks : List IntKind) (ns : List Int), ns.length = ks.length → ints ks ns = rowK ks (gi ns)
  | [], [], _ => rfl
  | k :: ks, n :: ns, h => by
    show Value.int k n :: ints ks ns = _
    rw [ints_rowK ks ns (by simpa using h)]
    rfl
theorem RdR.rowK {sz n : Nat} {A : Option Addr} {ks : List IntKind} {g : Nat → List Int} (h : RdR w sz A n (fun i => ints ks (g i))) (hl : ∀ i, i < n → (g i).length = ks.length) : RdR w sz A n (fun i => rowK ks (gi (g i))) :=
  ⟨h.rd.congr fun i j hi hj => by simp only [rowF, ints_rowK ks (g i) (hl i hi)], fun i hi => by rw [← ints_rowK ks (g i) (hl i hi)]; exact h.len i hi⟩
theorem trodAll_stays (hl : laidOutB P = true) {W W' : World} (hb : Below W.heap.size W W') {sp' : Nat → Bool} : ∀ {ts : List TypeId} {vs : List Value} {ds : List (DataW H)} {ps : List MemPlace}, ts.all (fun t => P.readableRec t && decide (t < P.types.size)) = true →
    DataW.TrodAll enc P W 0 (fun _ => true) true ts vs ds ps → (∀ p ∈ ps, p.block < W.heap.size) → (∀ p ∈ ps, sp' p.block = true) → DataW.TrodAll enc P W' 0 sp' true ts vs ds ps
  | [], [], [], ps, _, h, _, _ => h
  | t :: ts, v :: vs, d :: ds, ps, ht, h, hlt, hs => by
    simp only [List.all_cons, Bool.and_eq_true, decide_eq_true_eq] at ht
    obtain ⟨p, q, h1, h2, rfl⟩ := h
    exact ⟨p, q, WideElems.Trod_stays hl ht.1.1 ht.1.2 h1 (fun x hx => hb.same (hlt x (by simp [hx]))) (fun x hx => hs x (by simp [hx])), trodAll_stays hl hb ht.2 h2 (fun x hx => hlt x (by simp [hx])) (fun x hx => hs x (by simp [hx])), rfl⟩
theorem law_post {f : Func} {s : ChangeSpec} {apart fresh handsOn again : Bool} {W W' : World} {args : Array Value} {ds : List (DataW H)} {p : List MemPlace} {tb : TypeId} (hl : laidOutB P = true) (hvars : s.vars = [])
    (hW : DataW.Whole enc P f.params.toList s.vars apart W args.toList ds [] p) (hA : DataW.TrodAll enc P W 0 (fun _ => true) true f.params.toList args.toList ds p)
    (ht : f.params.toList.all (fun t => P.readableRec t && decide (t < P.types.size)) = true) (hrt : f.resultTypes = #[tb]) (htb : P.underlying tb = some .bool) (hfn : s.fn H ds = { results := [.lit (.bool true)], args := ds }) (hb : Below W.heap.size W W') :
    s.post enc P f apart fresh handsOn again W args (.bool true) W' := by
  have hlt : ∀ q ∈ p, q.block < W.heap.size := fun q hq => hW.lt q hq
  have hold : ∀ q ∈ p, (fun b => decide (b < W.heap.size)) q.block = true := fun q hq => by simpa using hW.lt q hq
  have hres : ∀ (b : Nat) (sp : Nat → Bool) (hd : Bool), DataW.TrodAll enc P W' b sp hd f.resultTypes.toList ((Value.bool true).resultList f.resultTypes.size) (s.fn H (ds ++ [])).results [] := fun b sp hd => by
    rw [List.append_nil, hfn, hrt]
    exact ⟨[], [], shut_bool htb true, rfl, rfl⟩
  have hargs : ∀ sp : Nat → Bool, (∀ q ∈ p, sp q.block = true) → DataW.TrodAll enc P W' 0 sp true f.params.toList args.toList (s.fn H (ds ++ [])).args p := fun sp hs => by
    rw [List.append_nil, hfn]
    exact trodAll_stays hl hb ht hA (fun q hq => hW.lt q hq) hs
  have hv : ∀ sp : Nat → Bool, DataW.TrodVars enc P W' sp s.vars (s.fn H (ds ++ [])).vars [] := fun sp => by
    rw [List.append_nil, hfn, hvars]; exact rfl
  have hok : ∀ (j : Nat) (t : TypeId) (r : Value), f.resultTypes[j]? = some t → ((Value.bool true).resultList f.resultTypes.size)[j]? = some r → Value.okWide P W' .any 0 t r := ok_one (by rw [hrt]) rfl (okWide_bool_mk htb true)
  refine ⟨ds, [], p, [], p, [], hW, hres _ _ _, hargs _ hold, hv _, World.keptBut_mono (fun q hq => ⟨hq, by simpa using hq⟩) (hb.frame (· ∈ p)), fun _ => ?_⟩
  obtain ⟨_, _, _, _, _, hz, hn⟩ := hW
  refine ⟨hok, _, _, ([] ++ p) ++ [], ⟨[] ++ p, [], trodAll_append (hargs _ (fun _ _ => rfl)) (hres _ _ _), hv _, rfl, ?_, ?_⟩, ?_⟩
  · intro b off hp
    have hin : MemPlace.cell b off ∈ p := by simpa using hp
    rw [hb.frozen (hlt _ hin)]
    exact hz b off hin
  · intro ha
    have := hn ha
    simpa using this
  · intro q hq _
    simpa using hq
end
end Go.Proofs.YtmonkjnfjgidbaaGreatDoor
namespace Go.Proofs.YtmonkjnfjgidbaaGreatDoor
set_option linter.all false
set_option linter.unusedVariables false
set_option linter.unusedSimpArgs false
open Go.ChangeShapes Go.WideShapes Go.RowKit Go.Deep
section
variable {H : Type} {enc : TypeId × Value → H} {P : Program} {w : World} {base : Nat} {spare : Nat → Bool} {held : Bool}
theorem open_slice_any {t e : TypeId} {fuel : Nat} {cs : List Value} {x : DataW H × List MemPlace} {sz : Nat} (ht : P.underlying t = some (.slice e)) (hC : P.cellsOf e = sz) (h0 : Nat.blt 0 sz = true) (h : DataW.trod enc P w base spare held fuel t cs = some x) :
    ∃ (A : Option Addr) (len cap : Nat) (G : Nat → List Value), cs = [.slice A len cap] ∧ RdR w sz A len G ∧ (∀ i, i < len → ∃ n y, DataW.trod enc P w base spare held n e (G i) = some y) ∧ (A = none → len = 0 ∧ cap = 0) ∧ len ≤ cap ∧ cap ≤ maxLen := by
  have h0 : 0 < sz := Nat.le_of_ble_eq_true h0
  rcases open_slice ht h with ⟨rfl, rfl⟩ | ⟨a, len, cap, m, n, D, Pl, rfl, hb, hl, hm, hmm, _, hi⟩
  · exact ⟨none, 0, 0, fun _ => [], rfl, ⟨Rd.nil, fun i hi => by omega⟩, fun i hi => by omega, fun _ => ⟨rfl, rfl⟩, Nat.le_refl _, Nat.zero_le _⟩
  · have hlm : len ≤ m := by rw [hmm]; split <;> omega
    have key : ∀ i, i < len → ∃ cs' : List Value, cs'.length = sz ∧ (∀ j, j < sz → w.cell? (a.add (i * sz + j)) = cs'[j]?) ∧ ∃ n y, DataW.trod enc P w base spare held n e cs' = some y := fun i hil => by
      obtain ⟨cs', hc, hx⟩ := hi i (by omega)
      obtain ⟨_, hcl, hat⟩ := World.cells?_some hc
      refine ⟨cs', by rw [hcl, hC], fun j hj => ?_, n, _, hx⟩
      have := hat j (by rw [hC]; exact hj)
      rw [hC] at this
      rw [← this, ← add_add]
    refine ⟨some a, len, cap, fun i => if hi : i < len then (key i hi).choose else [], rfl, ⟨fun hn => ?_, fun i hi => ?_⟩, fun i hi => ?_, fun h => (by cases h), hl, hm⟩
    · have h1 := (key 0 hn).choose_spec.2.1 0 h0
      have hsome : ((key 0 hn).choose)[0]? = some ((key 0 hn).choose[0]'(by rw [(key 0 hn).choose_spec.1]; exact h0)) := List.getElem?_eq_getElem _
      rw [hsome] at h1
      have hadd : a.add (0 * sz + 0) = a := by simp [Addr.add]
      rw [hadd] at h1
      have hsp : a.spot = none := by
        unfold World.cell? at h1
        split at h1
        · cases hs : a.spot with
          | none => rfl
          | some s => simp [hs] at h1
        · cases h1
      have hlt : a.block < w.heap.size := World.block_lt_of_cell? w a h1
      obtain ⟨b, o, s⟩ := a
      simp only at hsp
      subst hsp
      refine ⟨b, o, rfl, hlt, fun i j hi hj => ?_⟩
      have h2 := (key i hi).choose_spec.2.1 j hj
      rw [add_plain] at h2
      rw [show o + i * sz + j = o + (i * sz + j) by omega, h2]
      simp only [rowF, hi, dite_true]
      have hl2 : j < (key i hi).choose.length := by rw [(key i hi).choose_spec.1]; exact hj
      rw [List.getD_eq_getElem?_getD, List.getElem?_eq_getElem hl2]
      rfl
    · simp only [hi, dite_true]
      exact (key i hi).choose_spec.1
    · simp only [hi, dite_true]
      exact (key i hi).choose_spec.2.2
theorem trod_fields {t : TypeId} {fs : Array Field} {fuel : Nat} {cs : List Value} {x : DataW H × List MemPlace} (ht : P.underlying t = some (.struct fs)) (h : DataW.trod enc P w base spare held fuel t cs = some x) :
    cs.length = P.cellsOf t ∧ ∀ (i : Nat) (f : Field), fs[i]? = some f → ∃ n y, DataW.trod enc P w base spare held n f.type ((cs.drop f.offset).take (P.cellsOf f.type)) = some y := by
  obtain ⟨xs, n, _, _, hlen, hxl, hf⟩ := DataW.trod_struct ht h
  refine ⟨hlen, fun i f hi => ?_⟩
  have h1 := hf i f hi
  have hi' : i < fs.size := (Array.getElem?_eq_some_iff.1 hi).1
  rw [List.getElem?_eq_getElem (by omega)] at h1
  exact ⟨n, _, h1⟩
theorem trodAll_six {t0 t1 t2 t3 t4 t5 : TypeId} {args : Array Value} {ds : List (DataW H)} {ps : List MemPlace} (h : DataW.TrodAll enc P w base spare held [t0, t1, t2, t3, t4, t5] args.toList ds ps) :
    ∃ v0 v1 v2 v3 v4 v5 d0 d1 d2 d3 d4 d5 p0 p1 p2 p3 p4 p5, args = #[v0, v1, v2, v3, v4, v5] ∧ ds = [d0, d1, d2, d3, d4, d5] ∧ ps = p0 ++ (p1 ++ (p2 ++ (p3 ++ (p4 ++ p5)))) ∧ DataW.Trod enc P w base spare held t0 v0 d0 p0 ∧ DataW.Trod enc P w base spare held t1 v1 d1 p1 ∧ DataW.Trod enc P w base spare held t2 v2 d2 p2 ∧ DataW.Trod enc P w base spare held t3 v3 d3 p3 ∧ DataW.Trod enc P w base spare held t4 v4 d4 p4 ∧ DataW.Trod enc P w base spare held t5 v5 d5 p5 := by
  obtain ⟨v0, vs0, d0, ds0, p0, q0, hargs, rfl, rfl, h0, hr0⟩ := trodAll_cons h
  obtain ⟨v1, vs1, d1, ds1, p1, q1, rfl, rfl, rfl, h1, hr1⟩ := trodAll_cons hr0
  obtain ⟨v2, vs2, d2, ds2, p2, q2, rfl, rfl, rfl, h2, hr2⟩ := trodAll_cons hr1
  obtain ⟨v3, vs3, d3, ds3, p3, q3, rfl, rfl, rfl, h3, hr3⟩ := trodAll_cons hr2
  obtain ⟨v4, vs4, d4, ds4, p4, q4, rfl, rfl, rfl, h4, hr4⟩ := trodAll_cons hr3
  obtain ⟨v5, vs5, d5, ds5, p5, q5, rfl, rfl, rfl, h5, hr5⟩ := trodAll_cons hr4
  obtain ⟨rfl, rfl, rfl⟩ := trodAll_nil hr5
  exact ⟨v0, v1, v2, v3, v4, v5, d0, d1, d2, d3, d4, d5, p0, p1, p2, p3, p4, p5, by cases args; simp_all, rfl, by simp, h0, h1, h2, h3, h4, h5⟩
end
end Go.Proofs.YtmonkjnfjgidbaaGreatDoor
namespace Go.Proofs.YtmonkjnfjgidbaaGreatDoor
set_option linter.all false
set_option linter.unusedVariables false
set_option linter.unusedSimpArgs false
open Go.ChangeShapes Go.WideShapes Go.ChangeAt Go.RowKit Go.Deep
theorem Tryz.own : ownKnob Tryz.prog.godebug = none := by kernel_rfl
theorem Tryz.laidOut : laidOutB Tryz.prog = true := by kernel_rfl
section
variable {H : Type} {enc : TypeId × Value → H} {w : World} {base : Nat} {spare : Nat → Bool} {held : Bool}
set_option maxRecDepth 100000 in
theorem leg_of_trod {fuel : Nat} {G : List Value} {y : DataW H × List MemPlace} (hl : G.length = 5) (hy : DataW.trod enc Tryz.prog w base spare held fuel 122 G = some y) :
    ∃ (x : Leg) (g : Nat → Nat → Int), G = legL x ∧ RdR w 4 x.A x.n (fun j => gateL (g j)) := by
  obtain ⟨_, hf⟩ := trod_fields Tryz.underlying122 hy
  obtain ⟨n0, y0, h0⟩ := hf 0 _ rfl
  obtain ⟨n1, y1, h1⟩ := hf 1 _ rfl
  obtain ⟨n2, y2, h2⟩ := hf 2 _ rfl
  obtain ⟨n3, y3, h3⟩ := hf 3 _ rfl
  obtain ⟨k0, e0, _, _⟩ := DataW.trod_int Tryz.underlying3 h0
  obtain ⟨k1, e1, _, _⟩ := DataW.trod_int Tryz.underlying3 h1
  obtain ⟨s2, e2, l2⟩ := kindsF_spec 2 35 [.i64, .i64] (by kernel_rfl) _ _ _ h2
  obtain ⟨A, n, c, gg, e3, hg, hR, _⟩ := open_flat_slice (ks := [.i64, .i64, .i64, .i64]) 3 Tryz.underlying120 (by kernel_rfl) (by kernel_rfl) rfl h3
  have hc1 : Tryz.prog.cellsOf 3 = 1 := by kernel_rfl
  have hc2 : Tryz.prog.cellsOf 35 = 2 := by kernel_rfl
  have hc3 : Tryz.prog.cellsOf 120 = 1 := by kernel_rfl
  match s2, l2 with
  | [a0, a1], _ =>
    match G, hl with
    | [x0, x1, x2, x3, x4], _ =>
      have e0 : [x0] = [.int .i64 k0] := by simpa [hc1] using e0
      have e1 : [x1] = [.int .i64 k1] := by simpa [hc1] using e1
      have e2 : [x2, x3] = [.int .i64 a0, .int .i64 a1] := by simpa [hc2, ints] using e2
      have e3 : [x4] = [.slice A n c] := by simpa [hc3] using e3
      cases e0; cases e1; cases e2; cases e3
      exact ⟨⟨gi [k0, k1, a0, a1], A, n, c⟩, fun j => gi (gg j), rfl, hR.rowK hg⟩
set_option maxRecDepth 100000 in
theorem claim_of_trod {fuel : Nat} {G : List Value} {y : DataW H × List MemPlace} (hl : G.length = 7) (hy : DataW.trod enc Tryz.prog w base spare held fuel 71 G = some y) :
    ∃ x : (Nat → Int) × Bool, G = claimL x := by
  obtain ⟨_, hf⟩ := trod_fields Tryz.underlying71 hy
  obtain ⟨n0, y0, h0⟩ := hf 0 _ rfl
  obtain ⟨n1, y1, h1⟩ := hf 1 _ rfl
  obtain ⟨n2, y2, h2⟩ := hf 2 _ rfl
  obtain ⟨n3, y3, h3⟩ := hf 3 _ rfl
  obtain ⟨n4, y4, h4⟩ := hf 4 _ rfl
  obtain ⟨n5, y5, h5⟩ := hf 5 _ rfl
  obtain ⟨n6, y6, h6⟩ := hf 6 _ rfl
  obtain ⟨k0, e0, _, _⟩ := DataW.trod_int Tryz.underlying3 h0
  obtain ⟨k1, e1, _, _⟩ := DataW.trod_int Tryz.underlying3 h1
  obtain ⟨k2, e2, _, _⟩ := DataW.trod_int Tryz.underlying3 h2
  obtain ⟨k3, e3, _, _⟩ := DataW.trod_int Tryz.underlying3 h3
  obtain ⟨k4, e4, _, _⟩ := DataW.trod_int Tryz.underlying3 h4
  obtain ⟨k5, e5, _, _⟩ := DataW.trod_int Tryz.underlying3 h5
  obtain ⟨m, e6, _⟩ := DataW.trod_bool Tryz.underlying4 h6
  have hc1 : Tryz.prog.cellsOf 3 = 1 := by kernel_rfl
  have hc2 : Tryz.prog.cellsOf 4 = 1 := by kernel_rfl
  match G, hl with
  | [x0, x1, x2, x3, x4, x5, x6], _ =>
    have e0 : [x0] = [.int .i64 k0] := by simpa [hc1] using e0
    have e1 : [x1] = [.int .i64 k1] := by simpa [hc1] using e1
    have e2 : [x2] = [.int .i64 k2] := by simpa [hc1] using e2
    have e3 : [x3] = [.int .i64 k3] := by simpa [hc1] using e3
    have e4 : [x4] = [.int .i64 k4] := by simpa [hc1] using e4
    have e5 : [x5] = [.int .i64 k5] := by simpa [hc1] using e5
    have e6 : [x6] = [.bool m] := by simpa [hc2] using e6
    cases e0; cases e1; cases e2; cases e3; cases e4; cases e5; cases e6
    exact ⟨(gi [k0, k1, k2, k3, k4, k5], m), rfl⟩
theorem rows_choose {α : Type} {n sz : Nat} {A : Option Addr} {G : Nat → List Value} {F : α → List Value} {q : Nat → α → Prop} (d : α) (hR : RdR w sz A n G) (h : ∀ i, i < n → ∃ x, G i = F x ∧ q i x) : ∃ r : Nat → α, RdR w sz A n (fun i => F (r i)) ∧ ∀ i, i < n → q i (r i) := by
  have hch : ∀ i, ∃ x, i < n → G i = F x ∧ q i x := fun i => by
    by_cases hi : i < n
    · obtain ⟨x, hx⟩ := h i hi
      exact ⟨x, fun _ => hx⟩
    · exact ⟨d, fun h => absurd h hi⟩
  obtain ⟨r, hr⟩ := Classical.axiomOfChoice hch
  exact ⟨r, ⟨hR.rd.congr fun i j hi hj => by simp only [rowF, (hr i hi).1], fun i hi => by rw [← (hr i hi).1]; exact hR.len i hi⟩, fun i hi => (hr i hi).2⟩
set_option maxRecDepth 100000 in
theorem open_land {r : Reach} {b0 : Nat} {v : Value} {dd : DataW H} {p : List MemPlace} (hv : Value.okWide Tryz.prog w r b0 25 v) (h : DataW.Trod enc Tryz.prog w base spare held 25 v dd p) :
    ∃ (W A : Option Addr) (nw cw nl cl : Nat) (f : Nat → Nat → Int) (x : Nat → Leg) (g : Nat → Nat → Nat → Int), v = .agg (landL W nw cw A nl cl).toArray ∧ RdR w 9 W nw (fun k => wellL (f k)) ∧ RdR w 5 A nl (fun k => legL (x k)) ∧ ∀ k, k < nl → RdR w 4 (x k).A (x k).n (fun j => gateL (g k j)) := by
  obtain ⟨cs, rfl, hlen⟩ := okWide_struct Tryz.underlying25 hv
  obtain ⟨fuel, hf⟩ := h
  obtain ⟨hl, hfs⟩ := trod_fields Tryz.underlying25 hf
  obtain ⟨n0, y0, h0⟩ := hfs 0 _ rfl
  obtain ⟨n1, y1, h1⟩ := hfs 1 _ rfl
  obtain ⟨W, nw, cw, gg, e0, hg, hR0, _⟩ := open_flat_slice (ks := List.replicate 9 .i64) 3 Tryz.underlying22 (by kernel_rfl) (by kernel_rfl) rfl h0
  obtain ⟨A, nl, cl, G, e1, hR1, hel, _⟩ := open_slice_any (sz := 5) Tryz.underlying23 (by kernel_rfl) rfl h1
  obtain ⟨x, hx, hq⟩ := rows_choose (F := fun q : Leg × (Nat → Nat → Int) => legL q.1) (q := fun _ q => RdR w 4 q.1.A q.1.n (fun j => gateL (q.2 j))) (⟨fun _ => 0, none, 0, 0⟩, fun _ _ => 0) hR1 fun i hi => by
    obtain ⟨n, y, hy⟩ := hel i hi
    obtain ⟨x, g, e, hr⟩ := leg_of_trod (hR1.len i hi) hy
    exact ⟨(x, g), e, hr⟩
  have hc2 : Tryz.prog.cellsOf 25 = 2 := by kernel_rfl
  have hcw : Tryz.prog.cellsOf 22 = 1 := by kernel_rfl
  have hcl : Tryz.prog.cellsOf 23 = 1 := by kernel_rfl
  rw [hc2] at hl
  obtain ⟨L⟩ := cs
  match L, hl with
  | [x0, x1], _ =>
    have e0 : [x0] = [.slice W nw cw] := by simpa [hcw, Value.cells] using e0
    have e1 : [x1] = [.slice A nl cl] := by simpa [hcl, Value.cells] using e1
    cases e0; cases e1
    exact ⟨W, A, nw, cw, nl, cl, fun k => gi (gg k), fun k => (x k).1, fun k => (x k).2, rfl, hR0.rowK hg, hx, hq⟩
set_option maxRecDepth 100000 in
theorem open_custom {r : Reach} {b0 : Nat} {v : Value} {dd : DataW H} {p : List MemPlace} (hv : Value.okWide Tryz.prog w r b0 30 v) (h : DataW.Trod enc Tryz.prog w base spare held 30 v dd p) :
    ∃ (C D B : Option Addr) (nc cc nd cd nb cb : Nat) (c : Nat → (Nat → Int) × Bool) (d b : Nat → Nat → Int), v = .agg (custL C nc cc D nd cd B nb cb).toArray ∧ RdR w 7 C nc (fun k => claimL (c k)) ∧ RdR w 4 D nd (fun k => feudL (d k)) ∧ RdR w 3 B nb (fun k => borderL (b k)) := by
  obtain ⟨cs, rfl, hlen⟩ := okWide_struct Tryz.underlying30 hv
  obtain ⟨fuel, hf⟩ := h
  obtain ⟨hl, hfs⟩ := trod_fields Tryz.underlying30 hf
  obtain ⟨n0, y0, h0⟩ := hfs 0 _ rfl
  obtain ⟨n1, y1, h1⟩ := hfs 1 _ rfl
  obtain ⟨n2, y2, h2⟩ := hfs 2 _ rfl
  obtain ⟨C, nc, cc, G, e0, hR0, hel, _⟩ := open_slice_any (sz := 7) Tryz.underlying26 (by kernel_rfl) rfl h0
  obtain ⟨D, nd, cd, gd, e1, hgd, hR1, _⟩ := open_flat_slice (ks := List.replicate 4 .i64) 3 Tryz.underlying27 (by kernel_rfl) (by kernel_rfl) rfl h1
  obtain ⟨B, nb, cb, gb, e2, hgb, hR2, _⟩ := open_flat_slice (ks := List.replicate 3 .i64) 3 Tryz.underlying28 (by kernel_rfl) (by kernel_rfl) rfl h2
  obtain ⟨c, hc, _⟩ := rows_choose (F := claimL) (q := fun _ _ => True) (fun _ => 0, false) hR0 fun i hi => by
    obtain ⟨n, y, hy⟩ := hel i hi
    obtain ⟨x, e⟩ := claim_of_trod (hR0.len i hi) hy
    exact ⟨x, e, trivial⟩
  have hc3 : Tryz.prog.cellsOf 30 = 3 := by kernel_rfl
  have hk1 : Tryz.prog.cellsOf 26 = 1 := by kernel_rfl
  have hk2 : Tryz.prog.cellsOf 27 = 1 := by kernel_rfl
  have hk3 : Tryz.prog.cellsOf 28 = 1 := by kernel_rfl
  rw [hc3] at hl
  obtain ⟨L⟩ := cs
  match L, hl with
  | [x0, x1, x2], _ =>
    have e0 : [x0] = [.slice C nc cc] := by simpa [hk1, Value.cells] using e0
    have e1 : [x1] = [.slice D nd cd] := by simpa [hk2, Value.cells] using e1
    have e2 : [x2] = [.slice B nb cb] := by simpa [hk3, Value.cells] using e2
    cases e0; cases e1; cases e2
    exact ⟨C, D, B, nc, cc, nd, cd, nb, cb, c, fun k => gi (gd k), fun k => gi (gb k), rfl, hc, hR1.rowK hgd, hR2.rowK hgb⟩
end
theorem gBars : Tryz.prog.globalNamed "azalai/toll.bars" = some 0 := by kernel_rfl
theorem tBars : (Tryz.prog.globals[0]?).map (·.type) = some 215 := by kernel_rfl
theorem nil_of_trod {w : World} {base : Nat} {sp : Nat → Bool} {fuel : Nat} {t : TypeId} {ps rs : Array TypeId} {va : Bool} {v : Value} {q : List MemPlace} (ht : Tryz.prog.underlying t = some (.func ps rs va)) (h : DataW.trod (funcToken Tryz.prog) Tryz.prog w base sp true fuel t [v] = some (.nil, q)) : v = Value.nilFunc := by
  cases fuel with
  | zero => simp [DataW.trod] at h
  | succ n => cases v <;> simp [DataW.trod, ht] at h <;> rfl
set_option maxRecDepth 100000 in
theorem bars0_of_laid {W : World} (h : laidMetH Tryz.prog [("azalai/toll.bars", Rows.laid_azalai_toll_bars)] W) : OldB W 0 barsL := by
  obtain ⟨g0, t0, cs, fuel, p, hg, ht, hv, hd⟩ := h.funcs (List.mem_singleton.2 rfl)
  obtain rfl := Option.some.inj (gBars.symm.trans hg)
  obtain rfl := Option.some.inj (tBars.symm.trans ht)
  have hd' : DataW.trod (funcToken Tryz.prog) Tryz.prog W 0 (fun _ => true) true fuel 215 cs.toList = some (.agg [.nil, .held [40, 42, 97, 122, 97, 108, 97, 105, 47, 116, 111, 108, 108, 46, 116, 114, 101, 107, 41, 46, 99, 108, 111, 115, 101, 100], .held [40, 42, 97, 122, 97, 108, 97, 105, 47, 116, 111, 108, 108, 46, 116, 114, 101, 107, 41, 46, 104, 97, 116, 101, 100], .held [40, 42, 97, 122, 97, 108, 97, 105, 47, 116, 111, 108, 108, 46, 116, 114, 101, 107, 41, 46, 108, 111, 115, 116]], p) := hd
  have hfl : ∃ c0 c1 c2 c3, cs = #[c0, c1, c2, c3] := by
    obtain ⟨xs, m, _, _, hl, _, _⟩ := DataW.trod_array Tryz.underlying215 hd'
    have hc : Tryz.prog.cellsOf 215 = 4 := by kernel_rfl
    rw [hc] at hl
    obtain ⟨L⟩ := cs
    match L, hl with
    | [c0, c1, c2, c3], _ => exact ⟨c0, c1, c2, c3, rfl⟩
  obtain ⟨c0, c1, c2, c3, rfl⟩ := hfl
  obtain ⟨y0, y1, y2, y3, n, hx, h0, h1, h2, h3⟩ := trod_array4 Tryz.underlying215 (by kernel_rfl) hd'
  simp only [Prod.mk.injEq, DataW.agg.injEq, List.cons.injEq, and_true] at hx
  obtain ⟨⟨e0, e1, e2, e3⟩, _⟩ := hx
  obtain ⟨d0, q0⟩ := y0
  obtain ⟨d1, q1⟩ := y1
  obtain ⟨d2, q2⟩ := y2
  obtain ⟨d3, q3⟩ := y3
  simp only at e0 e1 e2 e3
  subst e0 e1 e2 e3
  obtain rfl := nil_of_trod Tryz.underlying214 h0
  obtain rfl := func_of_trod (f0 := 215) Tryz.underlying214 (by kernel_rfl) h1
  obtain rfl := func_of_trod (f0 := 216) Tryz.underlying214 (by kernel_rfl) h2
  obtain rfl := func_of_trod (f0 := 217) Tryz.underlying214 (by kernel_rfl) h3
  have hc := World.var?_cell hg hv
  exact ⟨World.block_lt_of_cell? W ⟨0, 0, none⟩ (hc 0), fun j v hj => by rw [hc j]; simpa [barsL, barV, barF] using hj⟩
end Go.Proofs.YtmonkjnfjgidbaaGreatDoor
namespace Go.Proofs.YtmonkjnfjgidbaaGreatDoor
set_option linter.all false
set_option linter.unusedVariables false
set_option linter.unusedSimpArgs false
open Go.ChangeShapes Go.WideShapes Go.ChangeAt Go.RowKit Go.Deep
section
variable {H : Type} {enc : TypeId × Value → H} {P : Program} {w : World} {base : Nat} {spare : Nat → Bool} {held : Bool}
theorem wf_in {k : IntKind} {n : Int} (h : (Lit.int k n).wf = true) : k.min ≤ n ∧ n ≤ k.max := by simpa [Lit.wf] using h
theorem u8_in {n : Int} (h : (Lit.int .u8 n).wf = true) : 0 ≤ n ∧ n ≤ 255 := wf_in h
theorem trod_int {P : Program} {n : Nat} {t : TypeId} {k : IntKind} {cs : List Value} {y : DataW H × List MemPlace} (ht : P.underlying t = some (.int k)) (h : DataW.trod enc P w base spare held n t cs = some y) : ∃ x : Int, cs = [.int k x] ∧ k.min ≤ x ∧ x ≤ k.max := by
  cases n with
  | zero => cases h
  | succ n =>
    unfold DataW.trod at h
    rw [ht] at h
    split at h <;> first | (rename_i e _; cases e; done) | skip
    all_goals first | (rename_i k1 k2 x e; cases e; split at h; (rename_i hx; obtain ⟨rfl, hw⟩ := hx; simp only [Lit.wf, Bool.and_eq_true, decide_eq_true_eq] at hw; exact ⟨x, rfl, hw.1, hw.2⟩); cases h) | (cases h; done) | (rename_i e; cases e; done) | (rename_i e _ _; cases e; done) | (rename_i e _ _ _; cases e; done)
end
end Go.Proofs.YtmonkjnfjgidbaaGreatDoor
namespace Go.Proofs.YtmonkjnfjgidbaaGreatDoor
set_option linter.all false
set_option linter.unusedVariables false
set_option linter.unusedSimpArgs false
open Go.ChangeShapes Go.WideShapes Go.ChangeAt Go.RowKit Go.Deep
section
variable {H : Type} {enc : TypeId × Value → H} {w : World} {base : Nat} {spare : Nat → Bool} {held : Bool}
set_option maxRecDepth 100000 in
theorem custom_cap {C D B : Option Addr} {nc cc nd cd nb cb : Nat} {dd : DataW H} {p : List MemPlace} (h : DataW.Trod enc Tryz.prog w base spare held 30 (.agg (custL C nc cc D nd cd B nb cb).toArray) dd p) : nc ≤ cc := by
  obtain ⟨fuel, hf⟩ := h
  obtain ⟨_, hfs⟩ := trod_fields Tryz.underlying30 hf
  obtain ⟨n0, y0, h0⟩ := hfs 0 _ rfl
  obtain ⟨C', n', c', G, e0, _, _, _, hc, _⟩ := open_slice_any (sz := 7) Tryz.underlying26 (by kernel_rfl) rfl h0
  have hk1 : Tryz.prog.cellsOf 26 = 1 := by kernel_rfl
  have e : [Value.slice C nc cc] = [.slice C' n' c'] := by simpa [hk1, Value.cells, custL] using e0
  cases e
  exact hc
end
set_option maxRecDepth 100000 in
theorem tollHeld_door (os : Os) (args : Array Value) : laidMetH Tryz.prog Rows.tollHeldRow.laid ((World.doorLaid Tryz.prog 14 os).forCall (fun _ _ => 0) ⟨#[], args, []⟩).memory :=
  laidMetH_of_parts3 (fuel := 8) (laidMet_of_run' 8 (by kernel_rfl) (by kernel_rfl)) (by kernel_rfl) (by kernel_rfl)
set_option maxRecDepth 100000 in
theorem tollHeld_lifted (os : Os) (started : os.Started) (H : Type) (enc : TypeId × Value → H) :
    ReturnsInHanded {} Tryz.checked os 8 .any (fun w args => (Rows.tollHeldSpec.pre enc Tryz.prog Tryz.f8 [] false w args ∧ laidMetH Tryz.prog Rows.tollHeldRow.laid w) ∧ sizedMet enc Tryz.prog Tryz.f8 (OpenSpec.ofChange Rows.tollHeldSpec) false w args) (Rows.tollHeldSpec.post enc Tryz.prog Tryz.f8 false true false false) := by
  refine returnsInHanded_of_change_and (C := Tryz.checked) (X := fun w _ => laidMetH Tryz.prog Rows.tollHeldRow.laid w) (fun _ _ _ hh h => h.of_heap hh) Tryz.own started (by kernel_rfl) Tryz.func8
    (ChangeSpec.witness_shaped (enc := enc) (C := Tryz.checked) (os := os) (X := fun w _ => laidMetH Tryz.prog Rows.tollHeldRow.laid w) false (World.doorLaid Tryz.prog 14 os) #[.agg #[.slice none 0 0, .slice none 0 0], .agg #[.slice none 0 0, .slice none 0 0, .slice none 0 0], .int .i64 0, .int .i64 0, .int .u8 0, .int .u8 0] 8 rfl (World.shaped_of_RefB (by kernel_rfl) (by kernel_rfl)) (by kernel_rfl) (by kernel_rfl) (by kernel_rfl) (tollHeld_door os _)) ?_
  intro W base args ds gs before hval0 hW _ _ hLd _
  have hval : ∀ (j : Nat) t v, Tryz.f8.params[j]? = some t → args[j]? = some v → Value.okWide Tryz.prog W .any base t v := hval0
  have hW' := hW
  obtain ⟨p, q, hA0, hV, rfl, hfz, hnd⟩ := hW
  have hA : DataW.TrodAll enc Tryz.prog W 0 (fun _ => true) true Tryz.f8.params.toList args.toList ds p := hA0
  have hA1 := hA
  rw [Tryz.params8] at hA hval
  obtain ⟨v0, v1, v2, v3, v4, v5, d0, d1, d2, d3, d4, d5, p0, p1, p2, p3, p4, p5, rfl, rfl, rfl, h0, h1, h2, h3, h4, h5⟩ := trodAll_six hA
  obtain ⟨rfl, rfl⟩ := trodVars_none hV
  have hG : OldB W 0 barsL := bars0_of_laid hLd
  obtain ⟨Wl, A, nw, cw, nl, cl, f, x, g, rfl, hRW, hRA, hRG⟩ := open_land (hval 0 25 v0 rfl rfl) h0
  obtain ⟨C, D, B, nc, cc, nd, cd, nb, cb, c, d, b, rfl, hRC, hRD, hRB⟩ := open_custom (hval 1 30 v1 rfl rfl) h1
  have hcc := custom_cap h1
  obtain ⟨leg, rfl, _⟩ := open_int Tryz.underlying3 (hval 2 3 v2 rfl rfl) h2
  obtain ⟨day, rfl, _⟩ := open_int Tryz.underlying3 (hval 3 3 v3 rfl rfl) h3
  obtain ⟨one, rfl, _, _, ho1⟩ := open_int Tryz.underlying5 (hval 4 5 v4 rfl rfl) h4
  obtain ⟨two, rfl, _, _, ho2⟩ := open_int Tryz.underlying5 (hval 5 5 v5 rfl rfl) h5
  clear hA0 hval0
  simp only [List.append_nil] at hW'
  refine (lawHeld_any (Z := ⟨nc, nd, nb, c, d, b⟩) hRW hRA hRG hRC hRD hRB hcc (u8_in ho1) (u8_in ho2) hG).mono ?_
  rintro e W' ⟨rfl, hb⟩
  exact ⟨_, rfl, law_post Tryz.laidOut rfl hW' hA1 (by kernel_rfl) (by kernel_rfl) Tryz.underlying4 rfl hb⟩
theorem tollHeld_row : Rows.TollHeldSaid :=
  OpenClaim.holds_of_wide 8 Tryz.f8 rfl rfl rfl rfl rfl rfl rfl ⟨rfl, rfl, rfl, rfl, rfl⟩ rfl rfl rfl rfl rfl (by kernel_rfl) Tryz.func8 (by kernel_rfl)
    (of_decide_eq_true (by kernel_rfl)) (by unfold Func.isWrapper; first | (rw [if_pos (by decide +kernel)]; kernel_rfl) | (rw [if_neg (by decide +kernel)]; exact ⟨rfl, rfl⟩))
    (fun os started H enc _ => tollHeld_lifted os started H enc)
theorem tollHeld_holds : Rows.TollHeldCardSaid :=
  Claim7.holds_tied_plain_at .later [] [.funcs] true _ false
    tollHeld_row (fun _ h => by cases h) (by kernel_rfl) (fun _ h => by cases h) tollHeld_row_tie rfl ⟨rfl, rfl⟩ (by kernel_rfl) rfl
    (fun f fn hf hfn => by
      obtain rfl : f = 8 := Option.some.inj ((show Tryz.prog.funcNamed "azalai/azalailaw07.TollHeld" = some 8 by kernel_rfl).symm.trans hf) |>.symm
      obtain rfl : fn = Tryz.f8 := (Option.some.inj (Tryz.func8.symm.trans hfn)).symm
      exact ⟨by kernel_rfl, fun j t ht => by
        have hall : (Tryz.f8.params.toList.all fun u => !Tryz.prog.wantsStandIn u) = true := by kernel_rfl
        have hm : t ∈ Tryz.f8.params.toList := by simpa using Array.mem_of_getElem? ht
        exact (show Tryz.prog.wantsStandIn t = false by simpa using List.all_eq_true.1 hall t hm)⟩)
    (by kernel_rfl)
end Go.Proofs.YtmonkjnfjgidbaaGreatDoor
