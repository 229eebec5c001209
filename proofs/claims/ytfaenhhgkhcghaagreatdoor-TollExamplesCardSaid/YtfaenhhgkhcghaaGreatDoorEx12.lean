/-
  The statement TollExamplesCardSaid: the law TollExamples returns true; toll.bars reads as the program's text lays it, by the tie that is given. No other condition.
-/
import Derived.Test.YtfaenhhgkhcghaaGreatDoorEx11
import Derived.Test.YtfaenhhgkhcghaaGreatDoorEx02
import Derived.ProofKit
import Derived.Deep.Slices
import Derived.Carry
import Derived.Test.YtfaenhhgkhcghaaGreatDoorEx08
import Derived.Test.YtfaenhhgkhcghaaGreatDoorRows
import Derived.OpenShut
import Derived.LaidMore
import Derived.Stop.Joined
import Derived.Test.YtfaenhhgkhcghaaGreatDoorEx10
import Derived.Test.YtfaenhhgkhcghaaGreatDoorTie
import Derived.Test.YtfaenhhgkhcghaaGreatDoorCards
import Derived.SevenTiedAt
namespace Go.Proofs.YtfaenhhgkhcghaaGreatDoor
set_option linter.all false
set_option linter.unusedVariables false
set_option linter.unusedSimpArgs false
open Go.RowKit
set_option maxRecDepth 100000 in
set_option maxHeartbeats 8000000 in
theorem lawExamples_any (w : World) (hG : OldB w 0 barsL) : Calls Tryz.prog 4 #[] w (Ret w (.bool true)) := by
  have fL := fun (w' : World) => exLand_any w'
  have fC := fun (w' : World) => exCus_any w'
  have fP := fun (w' : World) => exPea_any w'
  have fT := fun (w' : World) => exTrp_any (U := none) (nu := 0) (cu := 0) w'
  have fU := fun (w' : World) (bu : Nat) => exTrp_any (U := some ⟨bu, 0, none⟩) (nu := 1) (cu := 1) w'
  refine K_enter (S := []) (K := []) Tryz.func4 rfl Tryz.ntmps4 rfl (Sat.start _) ?_
  refine TW.seq fun Y1 hY1 => TW.region ?_
  refine TL.p Pu.as ?_
  refine TL.nil (TQ.thenN (hY1 _ _ ?_))
  refine TW.seq fun Y2 hY2 => ?_
  refine TW.seq fun Y3 hY3 => TW.region ?_
  refine TL.p Pu.mv ?_
  refine TL.cr rfl (enters Tryz.func13 rfl rfl) (fun w hw => by
      exact alive_any (hG.ext (Chg.ext hw.chg))) ?_
  refine TL.gd Pu.no ?_
  refine TL.p Pu.kf ?_
  refine TL.nil (TQ.thenN (hY3 _ _ ?_))
  refine TW.condF rfl rfl ?_
  refine TW.skip ?_
  refine TQ.thenN (hY2 _ _ ?_)
  refine TW.subK KSub.nil ?_
  refine TW.seq fun Y4 hY4 => TW.region ?_
  refine TL.call (M := []) rfl (enters Tryz.func15 rfl rfl) (List.Perm.refl _) rfl (fun w hw => by
      exact fL _) ?_
  rintro x1
  dsimp only [List.cons_append, List.nil_append]
  refine TL.call (M := []) rfl (enters Tryz.func16 rfl rfl) (List.Perm.refl _) rfl (fun w hw => by
      exact fC _) ?_
  rintro y1
  dsimp only [List.cons_append, List.nil_append]
  refine TL.cr rfl (enters Tryz.func14 rfl rfl) (fun w hw => by
      exact exHoldG (x := x1) (y := y1) xHold1.1 xHold1.2 (hw.holds (bun (exLf x1)) (Pick.mem pk9)) (hw.holds (bun (exCf y1)) (Pick.mem pk9))) ?_
  refine TL.p Pu.mv ?_
  refine TL.p Pu.ex ?_
  refine TL.p Pu.ex ?_
  refine TL.p Pu.as ?_
  refine TL.p Pu.as ?_
  refine TL.nil (TQ.thenN (hY4 _ _ ?_))
  refine TW.subK KSub.nil ?_
  refine TW.seq fun Y5 hY5 => TW.region ?_
  refine TL.call (M := []) rfl (enters Tryz.func15 rfl rfl) (List.Perm.refl _) rfl (fun w hw => by
      exact fL _) ?_
  rintro x1
  dsimp only [List.cons_append, List.nil_append]
  refine TL.call (M := []) rfl (enters Tryz.func16 rfl rfl) (List.Perm.refl _) rfl (fun w hw => by
      exact fC _) ?_
  rintro y1
  dsimp only [List.cons_append, List.nil_append]
  refine TL.cr rfl (enters Tryz.func14 rfl rfl) (fun w hw => by
      exact exHoldG (x := x1) (y := y1) xHold2.1 xHold2.2 (hw.holds (bun (exLf x1)) (Pick.mem pk9)) (hw.holds (bun (exCf y1)) (Pick.mem pk9))) ?_
  refine TL.p Pu.mv ?_
  refine TL.p Pu.ex ?_
  refine TL.p Pu.ex ?_
  refine TL.p Pu.as ?_
  refine TL.p Pu.as ?_
  refine TL.nil (TQ.thenN (hY5 _ _ ?_))
  refine TW.subK KSub.nil ?_
  refine TW.seq fun Y6 hY6 => TW.region ?_
  refine TL.call (M := []) rfl (enters Tryz.func15 rfl rfl) (List.Perm.refl _) rfl (fun w hw => by
      exact fL _) ?_
  rintro x1
  dsimp only [List.cons_append, List.nil_append]
  refine TL.call (M := []) rfl (enters Tryz.func18 rfl rfl) (List.Perm.refl _) rfl (fun w hw => by
      exact fP _) ?_
  rintro y1
  dsimp only [List.cons_append, List.nil_append]
  refine TL.call (M := []) rfl (enters Tryz.func19 rfl rfl) (List.Perm.refl _) rfl (fun w hw => by
      exact fT _) ?_
  rintro z1
  dsimp only [List.cons_append, List.nil_append]
  refine TL.cr rfl (enters Tryz.func20 rfl rfl) (fun w hw => by
      exact speed_any _) ?_
  refine TL.m Mk.bl ?_
  intro b1
  refine TL.cr rfl (enters Tryz.func17 rfl rfl) (fun w hw => by
      exact exBar1 (x := x1) (y := y1) (b := z1) (E := 3) (hw.holds (bun (exLf x1)) (Pick.mem pk9)) (hw.holds (bun (exCf y1)) (Pick.mem pk9)) (hw.holds (exTo z1) (Pick.mem pk9)) (hw.holds _ (List.mem_cons_self ..)) (hG.ext (Chg.ext hw.chg))) ?_
  refine TL.p Pu.mv ?_
  refine TL.p Pu.ex ?_
  refine TL.p Pu.ex ?_
  refine TL.p Pu.ex ?_
  refine TL.p Pu.as ?_
  refine TL.p Pu.as ?_
  refine TL.p Pu.as ?_
  refine TL.nil (TQ.thenN (hY6 _ _ ?_))
  refine TW.subK KSub.nil ?_
  refine TW.seq fun Y7 hY7 => TW.region ?_
  refine TL.call (M := []) rfl (enters Tryz.func15 rfl rfl) (List.Perm.refl _) rfl (fun w hw => by
      exact fL _) ?_
  rintro x1
  dsimp only [List.cons_append, List.nil_append]
  refine TL.call (M := []) rfl (enters Tryz.func18 rfl rfl) (List.Perm.refl _) rfl (fun w hw => by
      exact fP _) ?_
  rintro y1
  dsimp only [List.cons_append, List.nil_append]
  refine TL.m Mk.bl ?_
  intro b2
  refine TL.call (M := []) rfl (enters Tryz.func19 rfl rfl) (List.Perm.refl _) rfl (fun w hw => by
      exact fU _ _) ?_
  rintro z1
  dsimp only [List.cons_append, List.nil_append]
  refine TL.cr rfl (enters Tryz.func20 rfl rfl) (fun w hw => by
      exact speed_any _) ?_
  refine TL.m Mk.bl ?_
  intro b3
  refine TL.cr rfl (enters Tryz.func17 rfl rfl) (fun w hw => by
      exact exBar2 (x := x1) (y := y1) (b := z1) (E := 3) (hw.holds (bun (exLf x1)) (Pick.mem pk9)) (hw.holds (bun (exCf y1)) (Pick.mem pk9)) (hw.holds (exTo z1) (Pick.mem pk9)) (RdR.blk (cs := [.int .i64 2]) (n := 1) (sz := 1) (E := 3) (hw.holds (.blk b2 3 [.int .i64 2]) (Pick.mem pk9)) rfl (fun _ _ => rfl)) (hw.holds _ (List.mem_cons_self ..)) (hG.ext (Chg.ext hw.chg))) ?_
  refine TL.p Pu.mv ?_
  refine TL.p Pu.ex ?_
  refine TL.p Pu.ex ?_
  refine TL.p Pu.ex ?_
  refine TL.p Pu.as ?_
  refine TL.p Pu.as ?_
  refine TL.p Pu.as ?_
  refine TL.nil (TQ.thenN (hY7 _ _ ?_))
  refine TW.subK KSub.nil ?_
  refine TW.seq fun Y8 hY8 => TW.region ?_
  refine TL.call (M := []) rfl (enters Tryz.func15 rfl rfl) (List.Perm.refl _) rfl (fun w hw => by
      exact fL _) ?_
  rintro x1
  dsimp only [List.cons_append, List.nil_append]
  refine TL.call (M := []) rfl (enters Tryz.func18 rfl rfl) (List.Perm.refl _) rfl (fun w hw => by
      exact fP _) ?_
  rintro y1
  dsimp only [List.cons_append, List.nil_append]
  refine TL.call (M := []) rfl (enters Tryz.func19 rfl rfl) (List.Perm.refl _) rfl (fun w hw => by
      exact fT _) ?_
  rintro z1
  dsimp only [List.cons_append, List.nil_append]
  refine TL.p Pu.bd ?_
  refine TL.p Pu.bd ?_
  refine TL.m Mk.bl ?_
  intro b4
  refine TL.cr rfl (enters Tryz.func20 rfl rfl) (fun w hw => by
      exact speed_any _) ?_
  refine TL.call (M := []) rfl (enters Tryz.func9 rfl rfl) (List.Perm.refl _) rfl (fun w hw => by
      exact exChp (x := x1) (y := y1) (b := z1) (E2 := 50) (hw.holds (bun (exLf x1)) (Pick.mem pk9)) (hw.holds (bun (exCf y1)) (Pick.mem pk9)) (hw.holds (exTo z1) (Pick.mem pk9)) (hw.holds _ (List.mem_cons_self ..)) (hG.ext (Chg.ext hw.chg))) ?_
  rintro ⟨⟨P1, p1⟩, Q1, q1⟩
  dsimp only [List.cons_append, List.nil_append]
  refine TL.p Pu.mv ?_
  refine TL.p Pu.ex ?_
  refine TL.p Pu.ex ?_
  refine TL.p Pu.ex ?_
  refine TL.p Pu.ex ?_
  refine TL.p Pu.as ?_
  refine TL.p Pu.as ?_
  refine TL.p Pu.as ?_
  refine TL.p Pu.as ?_
  refine TL.nil (TQ.thenN (hY8 _ _ ?_))
  refine TW.seq fun Y9 hY9 => ?_
  refine TW.seq fun Y10 hY10 => TW.region ?_
  refine TL.p Pu.mv ?_
  refine TL.p Pu.ne ?_
  refine TL.lit (t := 73) (b' := false) rfl (rfl) ?_
  refine TL.p Pu.mv ?_
  refine TL.gd Pu.mv ?_
  refine TL.gd Pu.ne ?_
  refine TL.lit (t := 76) (b' := false) rfl (rfl) ?_
  refine TL.p Pu.kf ?_
  refine TL.p Pu.mv ?_
  refine TL.gd Pu.mv ?_
  refine TL.gd Pu.ne ?_
  refine TL.lit (t := 80) (b' := false) rfl (rfl) ?_
  refine TL.p Pu.kf ?_
  refine TL.p Pu.mv ?_
  refine TL.gd Pu.mv ?_
  refine TL.gd Pu.ne ?_
  refine TL.lit (t := 84) (b' := false) rfl (rfl) ?_
  refine TL.p Pu.kf ?_
  refine TL.p Pu.mv ?_
  refine TL.gd Pu.mv ?_
  refine TL.gd Pu.ne ?_
  refine TL.lit (t := 88) (b' := false) rfl (rfl) ?_
  refine TL.p Pu.kf ?_
  refine TL.p Pu.mv ?_
  refine TL.gd Pu.mv ?_
  refine TL.gd Pu.ne ?_
  refine TL.lit (t := 92) (b' := false) rfl (rfl) ?_
  refine TL.p Pu.kf ?_
  refine TL.p Pu.mv ?_
  refine TL.gd Pu.mv ?_
  refine TL.gd Pu.ne ?_
  refine TL.lit (t := 96) (b' := false) rfl (rfl) ?_
  refine TL.p Pu.kf ?_
  refine TL.p Pu.mv ?_
  refine TL.gd Pu.mv ?_
  refine TL.gd Pu.ne ?_
  refine TL.lit (t := 100) (b' := false) rfl (rfl) ?_
  refine TL.p Pu.kf ?_
  refine TL.p Pu.mv ?_
  refine TL.gd Pu.mv ?_
  refine TL.gd Pu.ne ?_
  refine TL.lit (t := 104) (b' := false) rfl (rfl) ?_
  refine TL.p Pu.kf ?_
  refine TL.p Pu.mv ?_
  refine TL.gd Pu.mv ?_
  refine TL.gd Pu.ne ?_
  refine TL.lit (t := 108) (b' := false) rfl (rfl) ?_
  refine TL.p Pu.kf ?_
  refine TL.p Pu.mv ?_
  refine TL.gd Pu.mv ?_
  refine TL.gd Pu.ne ?_
  refine TL.lit (t := 112) (b' := false) rfl (rfl) ?_
  refine TL.p Pu.kf ?_
  refine TL.p Pu.mv ?_
  refine TL.gd Pu.mv ?_
  refine TL.gd Pu.ne ?_
  refine TL.lit (t := 116) (b' := false) rfl (rfl) ?_
  refine TL.p Pu.kf ?_
  refine TL.p Pu.mv ?_
  refine TL.gd Pu.mv ?_
  refine TL.gm Mk.bl ?_
  intro b5
  refine TL.cr rfl (enters Tryz.func11 rfl rfl) (fun w hw => by
      exact same3_true (n := 2) (v := fun k => ([0, 1] : List Int).getD k 0) (by decide) (OwnR.rdr (hw.holds (.own P1 2 p1 3 1 (iL [0, 1])) (Pick.mem pk9))) (RdR.blk (cs := [.int .i64 0, .int .i64 1]) (n := 2) (sz := 1) (hw.holds _ (List.mem_cons_self ..)) rfl (fun k hk => match k, hk with | 0, _ => rfl | 1, _ => rfl))) ?_
  refine TL.lit (t := 121) (b' := true) rfl (rfl) ?_
  refine TL.gd Pu.no ?_
  refine TL.p Pu.kf ?_
  refine TL.p Pu.mv ?_
  refine TL.gd Pu.mv ?_
  refine TL.gm Mk.bl ?_
  intro b6
  refine TL.cr rfl (enters Tryz.func11 rfl rfl) (fun w hw => by
      exact same3_true (n := 1) (v := fun k => ([2] : List Int).getD k 0) (by decide) (OwnR.rdr (hw.holds (.own Q1 1 q1 3 1 (iL [2])) (Pick.mem pk9))) (RdR.blk (cs := [.int .i64 2]) (n := 1) (sz := 1) (hw.holds _ (List.mem_cons_self ..)) rfl (fun _ _ => rfl))) ?_
  refine TL.lit (t := 127) (b' := true) rfl (rfl) ?_
  refine TL.gd Pu.no ?_
  refine TL.p Pu.kf ?_
  refine TL.nil (TQ.thenN (hY10 _ _ ?_))
  refine TW.condF rfl rfl ?_
  refine TW.skip ?_
  refine TQ.thenN (hY9 _ _ ?_)
  refine TW.subK KSub.nil ?_
  refine TW.seq fun Y11 hY11 => TW.region ?_
  refine TL.call (M := []) rfl (enters Tryz.func15 rfl rfl) (List.Perm.refl _) rfl (fun w hw => by
      exact fL _) ?_
  rintro x1
  dsimp only [List.cons_append, List.nil_append]
  refine TL.call (M := []) rfl (enters Tryz.func16 rfl rfl) (List.Perm.refl _) rfl (fun w hw => by
      exact fC _) ?_
  rintro y1
  dsimp only [List.cons_append, List.nil_append]
  refine TL.cr rfl (enters Tryz.func14 rfl rfl) (fun w hw => by
      exact exHoldG (x := x1) (y := y1) (va := 0) (by unfold holdA; exact (by decide +kernel)) xHold3 (hw.holds (bun (exLf x1)) (Pick.mem pk9)) (hw.holds (bun (exCf y1)) (Pick.mem pk9))) ?_
  refine TL.p Pu.mv ?_
  refine TL.p Pu.ex ?_
  refine TL.p Pu.ex ?_
  refine TL.p Pu.as ?_
  refine TL.nil (TQ.thenN (hY11 _ _ ?_))
  refine TW.subK KSub.nil ?_
  refine TW.seq fun Y12 hY12 => ?_
  refine TW.expl (fun (_ : Unit) => ([(2, .int .i64 2), (4, .int .i64 71)] : Fr)) (fun (_ : Unit) => []) Drop.done ?_ (fun hE => ?_)
  rintro ⟨⟩
  refine TQ.thenN (hY12 _ _ ?_)
  refine TW.subK KSub.nil ?_
  refine TW.seq fun Y13 hY13 => TW.region ?_
  refine TL.call (M := []) rfl (enters Tryz.func15 rfl rfl) (List.Perm.refl _) rfl (fun w hw => by
      exact fL _) ?_
  rintro x1
  dsimp only [List.cons_append, List.nil_append]
  refine TL.call (M := []) rfl (enters Tryz.func16 rfl rfl) (List.Perm.refl _) rfl (fun w hw => by
      exact fC _) ?_
  rintro y1
  dsimp only [List.cons_append, List.nil_append]
  refine TL.p Pu.bd ?_
  refine TL.cr rfl (enters Tryz.func20 rfl rfl) (fun w hw => by
      exact speed_any _) ?_
  refine TL.cr rfl (enters Tryz.func17 rfl rfl) (fun w hw => by
      exact exBar3 (x := x1) (y := y1) (hw.holds (bun (exLf x1)) (Pick.mem pk9)) (hw.holds (bun (exCf y1)) (Pick.mem pk9)) (hG.ext (Chg.ext hw.chg))) ?_
  refine TL.p Pu.mv ?_
  refine TL.p Pu.ex ?_
  refine TL.p Pu.ex ?_
  refine TL.p Pu.ex ?_
  refine TL.p Pu.as ?_
  refine TL.nil (TQ.thenN (hY13 _ _ ?_))
  refine TW.subK KSub.nil ?_
  refine TW.seq fun Y14 hY14 => TW.region ?_
  refine TL.call (M := []) rfl (enters Tryz.func15 rfl rfl) (List.Perm.refl _) rfl (fun w hw => by
      exact fL _) ?_
  rintro x1
  dsimp only [List.cons_append, List.nil_append]
  refine TL.call (M := []) rfl (enters Tryz.func16 rfl rfl) (List.Perm.refl _) rfl (fun w hw => by
      exact fC _) ?_
  rintro y1
  dsimp only [List.cons_append, List.nil_append]
  refine TL.call (M := []) rfl (enters Tryz.func19 rfl rfl) (List.Perm.refl _) rfl (fun w hw => by
      exact fT _) ?_
  rintro z1
  dsimp only [List.cons_append, List.nil_append]
  refine TL.cr rfl (enters Tryz.func20 rfl rfl) (fun w hw => by
      exact speed_any _) ?_
  refine TL.call (M := []) rfl (enters Tryz.func22 rfl rfl) (List.Perm.refl _) rfl (fun w hw => by
      exact exDue2 (x := x1) (y := y1) (b := z1) (hw.holds (bun (exLf x1)) (Pick.mem pk9)) (hw.holds (bun (exCf y1)) (Pick.mem pk9)) (hw.holds (exTo z1) (Pick.mem pk9))) ?_
  rintro ⟨P3, p3⟩
  dsimp only [List.cons_append, List.nil_append]
  refine TL.p Pu.mv ?_
  refine TL.p Pu.ex ?_
  refine TL.p Pu.ex ?_
  refine TL.p Pu.ex ?_
  refine TL.p Pu.as ?_
  refine TL.nil (TQ.thenN (hY14 _ _ ?_))
  refine TW.subK KSub.nil ?_
  refine TW.seq fun Y15 hY15 => TW.region ?_
  refine TL.call (M := []) rfl (enters Tryz.func15 rfl rfl) (List.Perm.refl _) rfl (fun w hw => by
      exact fL _) ?_
  rintro x1
  dsimp only [List.cons_append, List.nil_append]
  refine TL.call (M := []) rfl (enters Tryz.func18 rfl rfl) (List.Perm.refl _) rfl (fun w hw => by
      exact fP _) ?_
  rintro y1
  dsimp only [List.cons_append, List.nil_append]
  refine TL.call (M := []) rfl (enters Tryz.func19 rfl rfl) (List.Perm.refl _) rfl (fun w hw => by
      exact fT _) ?_
  rintro z1
  dsimp only [List.cons_append, List.nil_append]
  refine TL.cr rfl (enters Tryz.func20 rfl rfl) (fun w hw => by
      exact speed_any _) ?_
  refine TL.m Mk.bl ?_
  intro b7
  refine TL.call (M := []) rfl (enters Tryz.func7 rfl rfl) (List.Perm.refl _) rfl (fun w hw => by
      exact exHir0 (x := x1) (y := y1) (b := z1) (E := 3) (hw.holds (bun (exLf x1)) (Pick.mem pk9)) (hw.holds (bun (exCf y1)) (Pick.mem pk9)) (hw.holds (exTo z1) (Pick.mem pk9)) (hw.holds _ (List.mem_cons_self ..)) (hG.ext (Chg.ext hw.chg))) ?_
  rintro ⟨P4, p4⟩
  dsimp only [List.cons_append, List.nil_append]
  refine TL.p Pu.mv ?_
  refine TL.p Pu.ex ?_
  refine TL.p Pu.ex ?_
  refine TL.p Pu.ex ?_
  refine TL.p Pu.as ?_
  refine TL.nil (TQ.thenN (hY15 _ _ ?_))
  refine TW.subK KSub.nil ?_
  refine TW.seq fun Y16 hY16 => ?_
  refine TW.expl (fun (_ : Unit) => ([(2, .int .i64 2), (4, .int .i64 71), (7, .int .i64 73), (10, .int .i64 2), (14, .int .i64 75), (17, .int .i64 74)] : Fr)) (fun (_ : Unit) => []) Drop.done ?_ (fun hE => ?_)
  rintro ⟨⟩
  refine TQ.thenN (hY16 _ _ ?_)
  refine TW.subK KSub.nil ?_
  refine TW.seq fun Y17 hY17 => TW.region ?_
  refine TL.call (M := []) rfl (enters Tryz.func15 rfl rfl) (List.Perm.refl _) rfl (fun w hw => by
      exact fL _) ?_
  rintro x1
  dsimp only [List.cons_append, List.nil_append]
  refine TL.call (M := []) rfl (enters Tryz.func18 rfl rfl) (List.Perm.refl _) rfl (fun w hw => by
      exact fP _) ?_
  rintro y1
  dsimp only [List.cons_append, List.nil_append]
  refine TL.call (M := []) rfl (enters Tryz.func19 rfl rfl) (List.Perm.refl _) rfl (fun w hw => by
      exact fT _) ?_
  rintro z1
  dsimp only [List.cons_append, List.nil_append]
  refine TL.cr rfl (enters Tryz.func20 rfl rfl) (fun w hw => by
      exact speed_any _) ?_
  refine TL.call (M := []) rfl (enters Tryz.func9 rfl rfl) (List.Perm.refl _) rfl (fun w hw => by
      exact exChp0 (x := x1) (y := y1) (b := z1) (hw.holds (bun (exLf x1)) (Pick.mem pk9)) (hw.holds (bun (exCf y1)) (Pick.mem pk9)) (hw.holds (exTo z1) (Pick.mem pk9)) (hG.ext (Chg.ext hw.chg))) ?_
  rintro ⟨⟨P6, p6⟩, Q6, q6⟩
  dsimp only [List.cons_append, List.nil_append]
  refine TL.p Pu.mv ?_
  refine TL.p Pu.ex ?_
  refine TL.p Pu.ex ?_
  refine TL.p Pu.ex ?_
  refine TL.p Pu.ex ?_
  refine TL.p Pu.as ?_
  refine TL.p Pu.as ?_
  refine TL.p Pu.as ?_
  refine TL.p Pu.as ?_
  refine TL.nil (TQ.thenN (hY17 _ _ ?_))
  refine TW.subK KSub.nil ?_
  refine TW.seq fun Y18 hY18 => TW.region ?_
  refine TL.p Pu.mv ?_
  refine TL.p Pu.eq ?_
  refine TL.lit (t := 193) (b' := true) rfl (rfl) ?_
  refine TL.p Pu.mv ?_
  refine TL.gd Pu.mv ?_
  refine TL.gd Pu.eq ?_
  refine TL.lit (t := 196) (b' := true) rfl (rfl) ?_
  refine TL.p Pu.kt ?_
  refine TL.p Pu.mv ?_
  refine TL.gd Pu.mv ?_
  refine TL.gd Pu.eq ?_
  refine TL.lit (t := 200) (b' := true) rfl (rfl) ?_
  refine TL.p Pu.kt ?_
  refine TL.p Pu.mv ?_
  refine TL.gd Pu.mv ?_
  refine TL.gd Pu.eq ?_
  refine TL.lit (t := 204) (b' := true) rfl (rfl) ?_
  refine TL.p Pu.kt ?_
  refine TL.p Pu.mv ?_
  refine TL.gd Pu.mv ?_
  refine TL.gd Pu.eq ?_
  refine TL.lit (t := 208) (b' := true) rfl (rfl) ?_
  refine TL.p Pu.kt ?_
  refine TL.p Pu.mv ?_
  refine TL.gd Pu.mv ?_
  refine TL.gd Pu.eq ?_
  refine TL.lit (t := 212) (b' := true) rfl (rfl) ?_
  refine TL.p Pu.kt ?_
  refine TL.p Pu.mv ?_
  refine TL.gd Pu.mv ?_
  refine TL.gd Pu.eq ?_
  refine TL.lit (t := 216) (b' := true) rfl (rfl) ?_
  refine TL.p Pu.kt ?_
  refine TL.p Pu.mv ?_
  refine TL.gck rfl (enters Tryz.func15 rfl rfl) (fun w hw => by
      exact fL _) ?_
  rintro x1
  dsimp only [List.cons_append, List.nil_append]
  refine TL.gd Pu.bd ?_
  refine TL.gm Mk.bl ?_
  intro b8
  refine TL.gd Pu.bd ?_
  refine TL.cr rfl (enters Tryz.func23 rfl rfl) (fun w hw => by
      exact exChkC (x := x1) (hw.holds (bun (exLf x1)) (Pick.mem pk9)) (RdR.blk (cs := [.int .i64 2, .int .i64 0, .int .i64 0, .int .i64 0, .int .i64 0, .int .i64 0, .bool false]) (n := 1) (sz := 7) (hw.holds _ (List.mem_cons_self ..)) rfl (fun _ _ => rfl))) ?_
  refine TL.gd Pu.eq ?_
  refine TL.lit (t := 224) (b' := true) rfl (rfl) ?_
  refine TL.p Pu.kt ?_
  refine TL.p Pu.mv ?_
  refine TL.gck rfl (enters Tryz.func15 rfl rfl) (fun w hw => by
      exact fL _) ?_
  rintro x2
  dsimp only [List.cons_append, List.nil_append]
  refine TL.gd Pu.bd ?_
  refine TL.gm Mk.bl ?_
  intro b9
  refine TL.gd Pu.bd ?_
  refine TL.cr rfl (enters Tryz.func23 rfl rfl) (fun w hw => by
      exact exChkB (x := x2) (hw.holds (bun (exLf x2)) (Pick.mem pk9)) (RdR.blk (cs := [.int .i64 0, .int .i64 1, .int .i64 0]) (n := 1) (sz := 3) (hw.holds _ (List.mem_cons_self ..)) rfl (fun _ _ => rfl))) ?_
  refine TL.gd Pu.eq ?_
  refine TL.lit (t := 232) (b' := true) rfl (rfl) ?_
  refine TL.p Pu.kt ?_
  refine TL.p Pu.mv ?_
  refine TL.gd Pu.bd ?_
  refine TL.gck rfl (enters Tryz.func16 rfl rfl) (fun w hw => by
      exact fC _) ?_
  rintro y3
  dsimp only [List.cons_append, List.nil_append]
  refine TL.cr rfl (enters Tryz.func23 rfl rfl) (fun w hw => by
      exact exChk0 (y := y3) (hw.holds (bun (exCf y3)) (Pick.mem pk9))) ?_
  refine TL.gd Pu.eq ?_
  refine TL.p Pu.kt ?_
  refine TL.p Pu.as ?_
  refine TL.nil (TQ.thenN (hY18 _ _ ?_))
  refine TW.ret ?_
  refine TQ.ret Tryz.results4 rfl ((.tmp rfl .nil)) ?_
  exact fun w hw => Ret.of hw
  refine RG.later 14 [0, 1, 2, 3, 4, 5] 8 (fun (⟨x0, x1, x2, b3, x5⟩ : (Nat × Nat × Nat) × (Nat × Nat) × (Nat) × (Nat) × (Nat)) => ((172, exLa x0) :: (173, exPa x1) :: (174, exTa x2) :: (175, .slice (some ⟨b3, 0, none⟩) 2 2) :: (176, exSp) :: (177, .slice (some ⟨x5, 0, none⟩) 2 2) :: [(2, .int .i64 2), (4, .int .i64 71), (7, .int .i64 73), (10, .int .i64 2), (14, .int .i64 75)] : Fr)) (fun (⟨x0, x1, x2, b3, x5⟩ : (Nat × Nat × Nat) × (Nat × Nat) × (Nat) × (Nat) × (Nat)) => bun (exLf x0) :: bun (exCf x1) :: exTo x2 :: .own (some ⟨b3, 0, none⟩) 2 2 50 2 (fun _ => [.int .i64 0, .int .i64 0]) :: .blk x5 3 [.int .i64 0, .int .i64 1] :: []) ?_ (fun hS12 => ?_)
  rintro ⟨x0, x1, x2, b3, x5⟩
  dsimp only
  refine RG.a1 6 rfl (fun X6 hX6 => ?_)
  refine TL.call (M := []) rfl (enters Tryz.func7 rfl rfl) (List.Perm.refl _) rfl (fun w hw => by
      exact exHir2 (x := x0) (y := x1) (b := x2) (E := 3) (hw.holds (bun (exLf x0)) (Pick.mem pk9)) (hw.holds (bun (exCf x1)) (Pick.mem pk9)) (hw.holds (exTo x2) (Pick.mem pk9)) (hw.holds (.blk x5 3 [.int .i64 0, .int .i64 1]) (Pick.mem pk9)) (OwnR.rdr (hw.holds (.own (some ⟨b3, 0, none⟩) 2 2 50 2 (fun _ => [.int .i64 0, .int .i64 0])) (Pick.mem pk9))) (hG.ext (Chg.ext hw.chg))) ?_
  rintro ⟨P5, p5⟩
  dsimp only [List.cons_append, List.nil_append]
  refine TL.nil ?_
  refine TQ.nxt (hX6 _ _ hl9 ?_)
  refine RG.tk 7 rfl Pu.mv ?_
  refine RG.tk 8 rfl Pu.ex ?_
  refine RG.tk 9 rfl Pu.ex ?_
  refine RG.tk 10 rfl Pu.ex ?_
  refine RG.tk 11 rfl Pu.as ?_
  refine RG.tk 12 rfl Pu.as ?_
  refine RG.tk 13 rfl Pu.as ?_
  exact RG.nil (TQ.sub fs9 kt9 (hE ⟨⟩)) (by kernel_rfl)
  refine RG.later 14 [0, 1, 2, 4, 5] 9 (fun (⟨x0, x1, x2, x5⟩ : (Nat × Nat × Nat) × (Nat × Nat) × (Nat) × (Nat)) => ((172, exLa x0) :: (173, exPa x1) :: (174, exTa x2) :: (176, exSp) :: (177, .slice (some ⟨x5, 0, none⟩) 2 2) :: [(2, .int .i64 2), (4, .int .i64 71), (7, .int .i64 73), (10, .int .i64 2), (14, .int .i64 75)] : Fr)) (fun (⟨x0, x1, x2, x5⟩ : (Nat × Nat × Nat) × (Nat × Nat) × (Nat) × (Nat)) => bun (exLf x0) :: bun (exCf x1) :: exTo x2 :: .blk x5 3 [.int .i64 0, .int .i64 1] :: []) ?_ (fun hS11 => ?_)
  rintro ⟨x0, x1, x2, x5⟩
  dsimp only
  refine RG.a1 3 rfl (fun X3 hX3 => ?_)
  refine TL.ms ty_et34 ty_zr50 ?_
  intro b3
  refine TL.nil ?_
  refine TQ.nxt (hX3 _ _ hl9 ?_)
  exact RG.meet (hS12 ⟨x0, x1, x2, b3, x5⟩) fs9 kt9
  refine RG.later 14 [0, 1, 2, 3, 5] 9 (fun (⟨x0, x1, x2, b3, x5⟩ : (Nat × Nat × Nat) × (Nat × Nat) × (Nat) × (Nat) × (Nat)) => ((172, exLa x0) :: (173, exPa x1) :: (174, exTa x2) :: (175, .slice (some ⟨b3, 0, none⟩) 2 2) :: (177, .slice (some ⟨x5, 0, none⟩) 2 2) :: [(2, .int .i64 2), (4, .int .i64 71), (7, .int .i64 73), (10, .int .i64 2), (14, .int .i64 75)] : Fr)) (fun (⟨x0, x1, x2, b3, x5⟩ : (Nat × Nat × Nat) × (Nat × Nat) × (Nat) × (Nat) × (Nat)) => bun (exLf x0) :: bun (exCf x1) :: exTo x2 :: .own (some ⟨b3, 0, none⟩) 2 2 50 2 (fun _ => [.int .i64 0, .int .i64 0]) :: .blk x5 3 [.int .i64 0, .int .i64 1] :: []) ?_ (fun hS10 => ?_)
  rintro ⟨x0, x1, x2, b3, x5⟩
  dsimp only
  refine RG.a1 4 rfl (fun X4 hX4 => ?_)
  refine TL.cr rfl (enters Tryz.func20 rfl rfl) (fun w hw => by
      exact speed_any _) ?_
  refine TL.nil ?_
  refine TQ.nxt (hX4 _ _ hl9 ?_)
  exact RG.meet (hS12 ⟨x0, x1, x2, b3, x5⟩) fs9 kt9
  refine RG.later 14 [0, 1, 2, 3, 4] 9 (fun (⟨x0, x1, x2, b3⟩ : (Nat × Nat × Nat) × (Nat × Nat) × (Nat) × (Nat)) => ((172, exLa x0) :: (173, exPa x1) :: (174, exTa x2) :: (175, .slice (some ⟨b3, 0, none⟩) 2 2) :: (176, exSp) :: [(2, .int .i64 2), (4, .int .i64 71), (7, .int .i64 73), (10, .int .i64 2), (14, .int .i64 75)] : Fr)) (fun (⟨x0, x1, x2, b3⟩ : (Nat × Nat × Nat) × (Nat × Nat) × (Nat) × (Nat)) => bun (exLf x0) :: bun (exCf x1) :: exTo x2 :: .own (some ⟨b3, 0, none⟩) 2 2 50 2 (fun _ => [.int .i64 0, .int .i64 0]) :: []) ?_ (fun hS9 => ?_)
  rintro ⟨x0, x1, x2, b3⟩
  dsimp only
  refine RG.a1 5 rfl (fun X5 hX5 => ?_)
  refine TL.m Mk.bl ?_
  intro x5
  refine TL.nil ?_
  refine TQ.nxt (hX5 _ _ hl9 ?_)
  exact RG.meet (hS12 ⟨x0, x1, x2, b3, x5⟩) fs9 kt9
  refine RG.later 14 [0, 1, 3, 5] 10 (fun (⟨x0, x1, b3, x5⟩ : (Nat × Nat × Nat) × (Nat × Nat) × (Nat) × (Nat)) => ((172, exLa x0) :: (173, exPa x1) :: (175, .slice (some ⟨b3, 0, none⟩) 2 2) :: (177, .slice (some ⟨x5, 0, none⟩) 2 2) :: [(2, .int .i64 2), (4, .int .i64 71), (7, .int .i64 73), (10, .int .i64 2), (14, .int .i64 75)] : Fr)) (fun (⟨x0, x1, b3, x5⟩ : (Nat × Nat × Nat) × (Nat × Nat) × (Nat) × (Nat)) => bun (exLf x0) :: bun (exCf x1) :: .own (some ⟨b3, 0, none⟩) 2 2 50 2 (fun _ => [.int .i64 0, .int .i64 0]) :: .blk x5 3 [.int .i64 0, .int .i64 1] :: []) ?_ (fun hS8 => ?_)
  rintro ⟨x0, x1, b3, x5⟩
  dsimp only
  refine RG.a1 2 rfl (fun X2 hX2 => ?_)
  refine TL.call (M := []) rfl (enters Tryz.func19 rfl rfl) (List.Perm.refl _) rfl (fun w hw => by
      exact fT _) ?_
  rintro x2
  dsimp only [List.cons_append, List.nil_append]
  refine TL.nil ?_
  refine TQ.nxt (hX2 _ _ hl9 ?_)
  exact RG.meet (hS10 ⟨x0, x1, x2, b3, x5⟩) fs9 kt9
  refine RG.later 14 [0, 1, 2, 5] 10 (fun (⟨x0, x1, x2, x5⟩ : (Nat × Nat × Nat) × (Nat × Nat) × (Nat) × (Nat)) => ((172, exLa x0) :: (173, exPa x1) :: (174, exTa x2) :: (177, .slice (some ⟨x5, 0, none⟩) 2 2) :: [(2, .int .i64 2), (4, .int .i64 71), (7, .int .i64 73), (10, .int .i64 2), (14, .int .i64 75)] : Fr)) (fun (⟨x0, x1, x2, x5⟩ : (Nat × Nat × Nat) × (Nat × Nat) × (Nat) × (Nat)) => bun (exLf x0) :: bun (exCf x1) :: exTo x2 :: .blk x5 3 [.int .i64 0, .int .i64 1] :: []) ?_ (fun hS7 => ?_)
  rintro ⟨x0, x1, x2, x5⟩
  dsimp only
  refine RG.a2 3 4 rfl rfl (fun X3 hX3 => ?_) (fun X4 hX4 => ?_)
  refine TL.ms ty_et34 ty_zr50 ?_
  intro b3
  refine TL.nil ?_
  refine TQ.nxt (hX3 _ _ hl9 ?_)
  exact RG.meet (hS10 ⟨x0, x1, x2, b3, x5⟩) fs9 kt9
  refine TL.cr rfl (enters Tryz.func20 rfl rfl) (fun w hw => by
      exact speed_any _) ?_
  refine TL.nil ?_
  refine TQ.nxt (hX4 _ _ hl9 ?_)
  exact RG.meet (hS11 ⟨x0, x1, x2, x5⟩) fs9 kt9
  refine RG.later 14 [0, 1, 2, 3] 10 (fun (⟨x0, x1, x2, b3⟩ : (Nat × Nat × Nat) × (Nat × Nat) × (Nat) × (Nat)) => ((172, exLa x0) :: (173, exPa x1) :: (174, exTa x2) :: (175, .slice (some ⟨b3, 0, none⟩) 2 2) :: [(2, .int .i64 2), (4, .int .i64 71), (7, .int .i64 73), (10, .int .i64 2), (14, .int .i64 75)] : Fr)) (fun (⟨x0, x1, x2, b3⟩ : (Nat × Nat × Nat) × (Nat × Nat) × (Nat) × (Nat)) => bun (exLf x0) :: bun (exCf x1) :: exTo x2 :: .own (some ⟨b3, 0, none⟩) 2 2 50 2 (fun _ => [.int .i64 0, .int .i64 0]) :: []) ?_ (fun hS6 => ?_)
  rintro ⟨x0, x1, x2, b3⟩
  dsimp only
  refine RG.a2 4 5 rfl rfl (fun X4 hX4 => ?_) (fun X5 hX5 => ?_)
  refine TL.cr rfl (enters Tryz.func20 rfl rfl) (fun w hw => by
      exact speed_any _) ?_
  refine TL.nil ?_
  refine TQ.nxt (hX4 _ _ hl9 ?_)
  exact RG.meet (hS9 ⟨x0, x1, x2, b3⟩) fs9 kt9
  refine TL.m Mk.bl ?_
  intro x5
  refine TL.nil ?_
  refine TQ.nxt (hX5 _ _ hl9 ?_)
  exact RG.meet (hS10 ⟨x0, x1, x2, b3, x5⟩) fs9 kt9
  refine RG.later 14 [0, 3, 5] 11 (fun (⟨x0, b3, x5⟩ : (Nat × Nat × Nat) × (Nat) × (Nat)) => ((172, exLa x0) :: (175, .slice (some ⟨b3, 0, none⟩) 2 2) :: (177, .slice (some ⟨x5, 0, none⟩) 2 2) :: [(2, .int .i64 2), (4, .int .i64 71), (7, .int .i64 73), (10, .int .i64 2), (14, .int .i64 75)] : Fr)) (fun (⟨x0, b3, x5⟩ : (Nat × Nat × Nat) × (Nat) × (Nat)) => bun (exLf x0) :: .own (some ⟨b3, 0, none⟩) 2 2 50 2 (fun _ => [.int .i64 0, .int .i64 0]) :: .blk x5 3 [.int .i64 0, .int .i64 1] :: []) ?_ (fun hS5 => ?_)
  rintro ⟨x0, b3, x5⟩
  dsimp only
  refine RG.a1 1 rfl (fun X1 hX1 => ?_)
  refine TL.call (M := []) rfl (enters Tryz.func18 rfl rfl) (List.Perm.refl _) rfl (fun w hw => by
      exact fP _) ?_
  rintro x1
  dsimp only [List.cons_append, List.nil_append]
  refine TL.nil ?_
  refine TQ.nxt (hX1 _ _ hl9 ?_)
  exact RG.meet (hS8 ⟨x0, x1, b3, x5⟩) fs9 kt9
  refine RG.later 14 [0, 1, 5] 11 (fun (⟨x0, x1, x5⟩ : (Nat × Nat × Nat) × (Nat × Nat) × (Nat)) => ((172, exLa x0) :: (173, exPa x1) :: (177, .slice (some ⟨x5, 0, none⟩) 2 2) :: [(2, .int .i64 2), (4, .int .i64 71), (7, .int .i64 73), (10, .int .i64 2), (14, .int .i64 75)] : Fr)) (fun (⟨x0, x1, x5⟩ : (Nat × Nat × Nat) × (Nat × Nat) × (Nat)) => bun (exLf x0) :: bun (exCf x1) :: .blk x5 3 [.int .i64 0, .int .i64 1] :: []) ?_ (fun hS4 => ?_)
  rintro ⟨x0, x1, x5⟩
  dsimp only
  refine RG.a2 2 3 rfl rfl (fun X2 hX2 => ?_) (fun X3 hX3 => ?_)
  refine TL.call (M := []) rfl (enters Tryz.func19 rfl rfl) (List.Perm.refl _) rfl (fun w hw => by
      exact fT _) ?_
  rintro x2
  dsimp only [List.cons_append, List.nil_append]
  refine TL.nil ?_
  refine TQ.nxt (hX2 _ _ hl9 ?_)
  exact RG.meet (hS7 ⟨x0, x1, x2, x5⟩) fs9 kt9
  refine TL.ms ty_et34 ty_zr50 ?_
  intro b3
  refine TL.nil ?_
  refine TQ.nxt (hX3 _ _ hl9 ?_)
  exact RG.meet (hS8 ⟨x0, x1, b3, x5⟩) fs9 kt9
  refine RG.later 14 [0, 1, 3] 11 (fun (⟨x0, x1, b3⟩ : (Nat × Nat × Nat) × (Nat × Nat) × (Nat)) => ((172, exLa x0) :: (173, exPa x1) :: (175, .slice (some ⟨b3, 0, none⟩) 2 2) :: [(2, .int .i64 2), (4, .int .i64 71), (7, .int .i64 73), (10, .int .i64 2), (14, .int .i64 75)] : Fr)) (fun (⟨x0, x1, b3⟩ : (Nat × Nat × Nat) × (Nat × Nat) × (Nat)) => bun (exLf x0) :: bun (exCf x1) :: .own (some ⟨b3, 0, none⟩) 2 2 50 2 (fun _ => [.int .i64 0, .int .i64 0]) :: []) ?_ (fun hS3 => ?_)
  rintro ⟨x0, x1, b3⟩
  dsimp only
  refine RG.a2 2 5 rfl rfl (fun X2 hX2 => ?_) (fun X5 hX5 => ?_)
  refine TL.call (M := []) rfl (enters Tryz.func19 rfl rfl) (List.Perm.refl _) rfl (fun w hw => by
      exact fT _) ?_
  rintro x2
  dsimp only [List.cons_append, List.nil_append]
  refine TL.nil ?_
  refine TQ.nxt (hX2 _ _ hl9 ?_)
  exact RG.meet (hS6 ⟨x0, x1, x2, b3⟩) fs9 kt9
  refine TL.m Mk.bl ?_
  intro x5
  refine TL.nil ?_
  refine TQ.nxt (hX5 _ _ hl9 ?_)
  exact RG.meet (hS8 ⟨x0, x1, b3, x5⟩) fs9 kt9
  refine RG.later 14 [3, 5] 12 (fun (⟨b3, x5⟩ : (Nat) × (Nat)) => ((175, .slice (some ⟨b3, 0, none⟩) 2 2) :: (177, .slice (some ⟨x5, 0, none⟩) 2 2) :: [(2, .int .i64 2), (4, .int .i64 71), (7, .int .i64 73), (10, .int .i64 2), (14, .int .i64 75)] : Fr)) (fun (⟨b3, x5⟩ : (Nat) × (Nat)) => .own (some ⟨b3, 0, none⟩) 2 2 50 2 (fun _ => [.int .i64 0, .int .i64 0]) :: .blk x5 3 [.int .i64 0, .int .i64 1] :: []) ?_ (fun hS2 => ?_)
  rintro ⟨b3, x5⟩
  dsimp only
  refine RG.a1 0 rfl (fun X0 hX0 => ?_)
  refine TL.call (M := []) rfl (enters Tryz.func15 rfl rfl) (List.Perm.refl _) rfl (fun w hw => by
      exact fL _) ?_
  rintro x0
  dsimp only [List.cons_append, List.nil_append]
  refine TL.nil ?_
  refine TQ.nxt (hX0 _ _ hl9 ?_)
  exact RG.meet (hS5 ⟨x0, b3, x5⟩) fs9 kt9
  refine RG.later 14 [0, 5] 12 (fun (⟨x0, x5⟩ : (Nat × Nat × Nat) × (Nat)) => ((172, exLa x0) :: (177, .slice (some ⟨x5, 0, none⟩) 2 2) :: [(2, .int .i64 2), (4, .int .i64 71), (7, .int .i64 73), (10, .int .i64 2), (14, .int .i64 75)] : Fr)) (fun (⟨x0, x5⟩ : (Nat × Nat × Nat) × (Nat)) => bun (exLf x0) :: .blk x5 3 [.int .i64 0, .int .i64 1] :: []) ?_ (fun hS1 => ?_)
  rintro ⟨x0, x5⟩
  dsimp only
  refine RG.a2 1 3 rfl rfl (fun X1 hX1 => ?_) (fun X3 hX3 => ?_)
  refine TL.call (M := []) rfl (enters Tryz.func18 rfl rfl) (List.Perm.refl _) rfl (fun w hw => by
      exact fP _) ?_
  rintro x1
  dsimp only [List.cons_append, List.nil_append]
  refine TL.nil ?_
  refine TQ.nxt (hX1 _ _ hl9 ?_)
  exact RG.meet (hS4 ⟨x0, x1, x5⟩) fs9 kt9
  refine TL.ms ty_et34 ty_zr50 ?_
  intro b3
  refine TL.nil ?_
  refine TQ.nxt (hX3 _ _ hl9 ?_)
  exact RG.meet (hS5 ⟨x0, b3, x5⟩) fs9 kt9
  refine RG.later 14 [0, 3] 12 (fun (⟨x0, b3⟩ : (Nat × Nat × Nat) × (Nat)) => ((172, exLa x0) :: (175, .slice (some ⟨b3, 0, none⟩) 2 2) :: [(2, .int .i64 2), (4, .int .i64 71), (7, .int .i64 73), (10, .int .i64 2), (14, .int .i64 75)] : Fr)) (fun (⟨x0, b3⟩ : (Nat × Nat × Nat) × (Nat)) => bun (exLf x0) :: .own (some ⟨b3, 0, none⟩) 2 2 50 2 (fun _ => [.int .i64 0, .int .i64 0]) :: []) ?_ (fun hS0 => ?_)
  rintro ⟨x0, b3⟩
  dsimp only
  refine RG.a2 1 5 rfl rfl (fun X1 hX1 => ?_) (fun X5 hX5 => ?_)
  refine TL.call (M := []) rfl (enters Tryz.func18 rfl rfl) (List.Perm.refl _) rfl (fun w hw => by
      exact fP _) ?_
  rintro x1
  dsimp only [List.cons_append, List.nil_append]
  refine TL.nil ?_
  refine TQ.nxt (hX1 _ _ hl9 ?_)
  exact RG.meet (hS3 ⟨x0, x1, b3⟩) fs9 kt9
  refine TL.m Mk.bl ?_
  intro x5
  refine TL.nil ?_
  refine TQ.nxt (hX5 _ _ hl9 ?_)
  exact RG.meet (hS5 ⟨x0, b3, x5⟩) fs9 kt9
  refine RG.a3 0 3 5 rfl rfl rfl (fun X0 hX0 => ?_) (fun X3 hX3 => ?_) (fun X5 hX5 => ?_)
  refine TL.call (M := []) rfl (enters Tryz.func15 rfl rfl) (List.Perm.refl _) rfl (fun w hw => by
      exact fL _) ?_
  rintro x0
  dsimp only [List.cons_append, List.nil_append]
  refine TL.nil ?_
  refine TQ.nxt (hX0 _ _ hl9 ?_)
  refine RG.a3 1 3 5 rfl rfl rfl (fun X1 hX1 => ?_) (fun X3 hX3 => ?_) (fun X5 hX5 => ?_)
  refine TL.call (M := []) rfl (enters Tryz.func18 rfl rfl) (List.Perm.refl _) rfl (fun w hw => by
      exact fP _) ?_
  rintro x1
  dsimp only [List.cons_append, List.nil_append]
  refine TL.nil ?_
  refine TQ.nxt (hX1 _ _ hl9 ?_)
  refine RG.a3 2 3 5 rfl rfl rfl (fun X2 hX2 => ?_) (fun X3 hX3 => ?_) (fun X5 hX5 => ?_)
  refine TL.call (M := []) rfl (enters Tryz.func19 rfl rfl) (List.Perm.refl _) rfl (fun w hw => by
      exact fT _) ?_
  rintro x2
  dsimp only [List.cons_append, List.nil_append]
  refine TL.nil ?_
  refine TQ.nxt (hX2 _ _ hl9 ?_)
  refine RG.a3 3 4 5 rfl rfl rfl (fun X3 hX3 => ?_) (fun X4 hX4 => ?_) (fun X5 hX5 => ?_)
  refine TL.ms ty_et34 ty_zr50 ?_
  intro b3
  refine TL.nil ?_
  refine TQ.nxt (hX3 _ _ hl9 ?_)
  exact RG.meet (hS6 ⟨x0, x1, x2, b3⟩) fs9 kt9
  refine TL.cr rfl (enters Tryz.func20 rfl rfl) (fun w hw => by
      exact speed_any _) ?_
  refine TL.nil ?_
  refine TQ.nxt (hX4 _ _ hl9 ?_)
  refine RG.a2 3 5 rfl rfl (fun X3 hX3 => ?_) (fun X5 hX5 => ?_)
  refine TL.ms ty_et34 ty_zr50 ?_
  intro b3
  refine TL.nil ?_
  refine TQ.nxt (hX3 _ _ hl9 ?_)
  exact RG.meet (hS9 ⟨x0, x1, x2, b3⟩) fs9 kt9
  refine TL.m Mk.bl ?_
  intro x5
  refine TL.nil ?_
  refine TQ.nxt (hX5 _ _ hl9 ?_)
  exact RG.meet (hS11 ⟨x0, x1, x2, x5⟩) fs9 kt9
  refine TL.m Mk.bl ?_
  intro x5
  refine TL.nil ?_
  refine TQ.nxt (hX5 _ _ hl9 ?_)
  exact RG.meet (hS7 ⟨x0, x1, x2, x5⟩) fs9 kt9
  refine TL.ms ty_et34 ty_zr50 ?_
  intro b3
  refine TL.nil ?_
  refine TQ.nxt (hX3 _ _ hl9 ?_)
  exact RG.meet (hS3 ⟨x0, x1, b3⟩) fs9 kt9
  refine TL.m Mk.bl ?_
  intro x5
  refine TL.nil ?_
  refine TQ.nxt (hX5 _ _ hl9 ?_)
  exact RG.meet (hS4 ⟨x0, x1, x5⟩) fs9 kt9
  refine TL.ms ty_et34 ty_zr50 ?_
  intro b3
  refine TL.nil ?_
  refine TQ.nxt (hX3 _ _ hl9 ?_)
  exact RG.meet (hS0 ⟨x0, b3⟩) fs9 kt9
  refine TL.m Mk.bl ?_
  intro x5
  refine TL.nil ?_
  refine TQ.nxt (hX5 _ _ hl9 ?_)
  exact RG.meet (hS1 ⟨x0, x5⟩) fs9 kt9
  refine TL.ms ty_et34 ty_zr50 ?_
  intro b3
  refine TL.nil ?_
  refine TQ.nxt (hX3 _ _ hl9 ?_)
  refine RG.a2 0 5 rfl rfl (fun X0 hX0 => ?_) (fun X5 hX5 => ?_)
  refine TL.call (M := []) rfl (enters Tryz.func15 rfl rfl) (List.Perm.refl _) rfl (fun w hw => by
      exact fL _) ?_
  rintro x0
  dsimp only [List.cons_append, List.nil_append]
  refine TL.nil ?_
  refine TQ.nxt (hX0 _ _ hl9 ?_)
  exact RG.meet (hS0 ⟨x0, b3⟩) fs9 kt9
  refine TL.m Mk.bl ?_
  intro x5
  refine TL.nil ?_
  refine TQ.nxt (hX5 _ _ hl9 ?_)
  exact RG.meet (hS2 ⟨b3, x5⟩) fs9 kt9
  refine TL.m Mk.bl ?_
  intro x5
  refine TL.nil ?_
  refine TQ.nxt (hX5 _ _ hl9 ?_)
  refine RG.a2 0 3 rfl rfl (fun X0 hX0 => ?_) (fun X3 hX3 => ?_)
  refine TL.call (M := []) rfl (enters Tryz.func15 rfl rfl) (List.Perm.refl _) rfl (fun w hw => by
      exact fL _) ?_
  rintro x0
  dsimp only [List.cons_append, List.nil_append]
  refine TL.nil ?_
  refine TQ.nxt (hX0 _ _ hl9 ?_)
  exact RG.meet (hS1 ⟨x0, x5⟩) fs9 kt9
  refine TL.ms ty_et34 ty_zr50 ?_
  intro b3
  refine TL.nil ?_
  refine TQ.nxt (hX3 _ _ hl9 ?_)
  exact RG.meet (hS2 ⟨b3, x5⟩) fs9 kt9
  refine RG.a2 0 1 rfl rfl (fun X0 hX0 => ?_) (fun X1 hX1 => ?_)
  refine TL.call (M := []) rfl (enters Tryz.func15 rfl rfl) (List.Perm.refl _) rfl (fun w hw => by
      exact fL _) ?_
  rintro x1
  dsimp only [List.cons_append, List.nil_append]
  refine TL.nil ?_
  refine TQ.nxt (hX0 _ _ hl9 ?_)
  refine RG.a1 1 rfl (fun X1 hX1 => ?_)
  refine TL.ms ty_et27 ty_zr109 ?_
  intro b1
  refine TL.nil ?_
  refine TQ.nxt (hX1 _ _ hl9 ?_)
  refine RG.tk 2 rfl Pu.bd ?_
  refine RG.a1 3 rfl (fun X3 hX3 => ?_)
  refine TL.call (M := []) rfl (enters Tryz.func21 rfl rfl) (List.Perm.refl _) rfl (fun w hw => by
      exact exDis2 (x := x1) (hw.holds (bun (exLf x1)) (Pick.mem pk9)) (OwnR.rdr (hw.holds (.own (some ⟨b1, 0, none⟩) 1 1 109 4 (fun _ => [.int .i64 0, .int .i64 0, .int .i64 0, .int .i64 0])) (Pick.mem pk9)))) ?_
  rintro ⟨P2, p2⟩
  dsimp only [List.cons_append, List.nil_append]
  refine TL.nil ?_
  refine TQ.nxt (hX3 _ _ hl9 ?_)
  refine RG.tk 4 rfl Pu.mv ?_
  refine RG.tk 5 rfl Pu.ex ?_
  refine RG.tk 6 rfl Pu.ex ?_
  refine RG.tk 7 rfl Pu.as ?_
  exact RG.nil (TQ.sub fs9 kt9 (hE ⟨⟩)) (by kernel_rfl)
  refine TL.ms ty_et27 ty_zr109 ?_
  intro b1
  refine TL.nil ?_
  refine TQ.nxt (hX1 _ _ hl9 ?_)
  refine RG.tk 2 rfl Pu.bd ?_
  refine RG.a1 0 rfl (fun X0 hX0 => ?_)
  refine TL.call (M := []) rfl (enters Tryz.func15 rfl rfl) (List.Perm.refl _) rfl (fun w hw => by
      exact fL _) ?_
  rintro x1
  dsimp only [List.cons_append, List.nil_append]
  refine TL.nil ?_
  refine TQ.nxt (hX0 _ _ hl9 ?_)
  refine RG.a1 3 rfl (fun X3 hX3 => ?_)
  refine TL.call (M := []) rfl (enters Tryz.func21 rfl rfl) (List.Perm.refl _) rfl (fun w hw => by
      exact exDis2 (x := x1) (hw.holds (bun (exLf x1)) (Pick.mem pk9)) (OwnR.rdr (hw.holds (.own (some ⟨b1, 0, none⟩) 1 1 109 4 (fun _ => [.int .i64 0, .int .i64 0, .int .i64 0, .int .i64 0])) (Pick.mem pk9)))) ?_
  rintro ⟨P2, p2⟩
  dsimp only [List.cons_append, List.nil_append]
  refine TL.nil ?_
  refine TQ.nxt (hX3 _ _ hl9 ?_)
  refine RG.tk 4 rfl Pu.mv ?_
  refine RG.tk 5 rfl Pu.ex ?_
  refine RG.tk 6 rfl Pu.ex ?_
  refine RG.tk 7 rfl Pu.as ?_
  exact RG.nil (TQ.sub fs9 kt9 (hE ⟨⟩)) (by kernel_rfl)
end Go.Proofs.YtfaenhhgkhcghaaGreatDoor
namespace Go.Proofs.YtfaenhhgkhcghaaGreatDoor
set_option linter.all false
set_option linter.unusedVariables false
set_option linter.unusedSimpArgs false
open Go.ChangeShapes Go.WideShapes Go.RowKit Go.Deep
section
variable {H : Type} {enc : TypeId × Value → H} {P : Program} {w : World} {base : Nat} {spare : Nat → Bool} {held : Bool}
theorem trodAll_stays (hl : laidOutB P = true) {W W' : World} (hb : Below W.heap.size W W') {sp' : Nat → Bool} : ∀ {ts : List TypeId} {vs : List Value} {ds : List (DataW H)} {ps : List MemPlace}, ts.all (fun t => P.readableRec t && decide (t < P.types.size)) = true →
  DataW.TrodAll enc P W 0 (fun _ => true) true ts vs ds ps → (∀ p ∈ ps, p.block < W.heap.size) → (∀ p ∈ ps, sp' p.block = true) → DataW.TrodAll enc P W' 0 sp' true ts vs ds ps
 | [], [], [], ps, _, h, _, _ => h
 | t :: ts, v :: vs, d :: ds, ps, ht, h, hlt, hs => by
  simp only [List.all_cons, Bool.and_eq_true, decide_eq_true_eq] at ht
  obtain ⟨p, q, h1, h2, rfl⟩ := h
  exact ⟨p, q, WideElems.Trod_stays hl ht.1.1 ht.1.2 h1 (fun x hx => hb.same (hlt x (by simp [hx]))) (fun x hx => hs x (by simp [hx])), trodAll_stays hl hb ht.2 h2 (fun x hx => hlt x (by simp [hx])) (fun x hx => hs x (by simp [hx])), rfl⟩
theorem law_post {f : Func} {s : ChangeSpec} {apart fresh handsOn again : Bool} {W W' : World} {args : Array Value} {ds : List (DataW H)} {p : List MemPlace} {tb : TypeId} (hl : laidOutB P = true) (hvars : s.vars = [])
   (hW : DataW.Whole enc P f.params.toList s.vars apart W args.toList ds [] p) (hA : DataW.TrodAll enc P W 0 (fun _ => true) true f.params.toList args.toList ds p)
   (ht : f.params.toList.all (fun t => P.readableRec t && decide (t < P.types.size)) = true) (hrt : f.resultTypes = #[tb]) (htb : P.underlying tb = some .bool) (hfn : s.fn H ds = { results := [.lit (.bool true)], args := ds }) (hb : Below W.heap.size W W') :
   s.post enc P f apart fresh handsOn again W args (.bool true) W' := by
 have hlt : ∀ q ∈ p, q.block < W.heap.size := fun q hq => hW.lt q hq
 have hold : ∀ q ∈ p, (fun b => decide (b < W.heap.size)) q.block = true := fun q hq => by simpa using hW.lt q hq
 have hres : ∀ (b : Nat) (sp : Nat → Bool) (hd : Bool), DataW.TrodAll enc P W' b sp hd f.resultTypes.toList ((Value.bool true).resultList f.resultTypes.size) (s.fn H (ds ++ [])).results [] := fun b sp hd => by
   rw [List.append_nil, hfn, hrt]
   exact ⟨[], [], shut_bool htb true, rfl, rfl⟩
 have hargs : ∀ sp : Nat → Bool, (∀ q ∈ p, sp q.block = true) → DataW.TrodAll enc P W' 0 sp true f.params.toList args.toList (s.fn H (ds ++ [])).args p := fun sp hs => by
   rw [List.append_nil, hfn]
   exact trodAll_stays hl hb ht hA (fun q hq => hW.lt q hq) hs
 have hv : ∀ sp : Nat → Bool, DataW.TrodVars enc P W' sp s.vars (s.fn H (ds ++ [])).vars [] := fun sp => by
   rw [List.append_nil, hfn, hvars]; exact rfl
 have hok : ∀ (j : Nat) (t : TypeId) (r : Value), f.resultTypes[j]? = some t → ((Value.bool true).resultList f.resultTypes.size)[j]? = some r → Value.okWide P W' .any 0 t r := ok_one (by rw [hrt]) rfl (okWide_bool_mk htb true)
 refine ⟨ds, [], p, [], p, [], hW, hres _ _ _, hargs _ hold, hv _, World.keptBut_mono (fun q hq => ⟨hq, by simpa using hq⟩) (hb.frame (· ∈ p)), fun _ => ?_⟩
 obtain ⟨_, _, _, _, _, hz, hn⟩ := hW
 refine ⟨hok, _, _, ([] ++ p) ++ [], ⟨[] ++ p, [], trodAll_append (hargs _ (fun _ _ => rfl)) (hres _ _ _), hv _, rfl, ?_, ?_⟩, ?_⟩
 · intro b off hp
   have hin : MemPlace.cell b off ∈ p := by simpa using hp
   rw [hb.frozen (hlt _ hin)]
   exact hz b off hin
 · intro ha
   have := hn ha
   simpa using this
 · intro q hq _
   simpa using hq
end
end Go.Proofs.YtfaenhhgkhcghaaGreatDoor
namespace Go.Proofs.YtfaenhhgkhcghaaGreatDoor
set_option linter.all false
set_option linter.unusedVariables false
set_option linter.unusedSimpArgs false
open Go.ChangeShapes Go.WideShapes Go.ChangeAt Go.RowKit Go.Deep
theorem Tryz.own : ownKnob Tryz.prog.godebug = none := by kernel_rfl
theorem Tryz.laidOut : laidOutB Tryz.prog = true := by kernel_rfl
section
variable {H : Type} {enc : TypeId × Value → H} {w : World} {base : Nat} {spare : Nat → Bool} {held : Bool}
end
theorem gBars : Tryz.prog.globalNamed "azalai/toll.bars" = some 0 := by kernel_rfl
theorem tBars : (Tryz.prog.globals[0]?).map (·.type) = some 197 := by kernel_rfl
theorem nil_of_trod {w : World} {base : Nat} {sp : Nat → Bool} {fuel : Nat} {t : TypeId} {ps rs : Array TypeId} {va : Bool} {v : Value} {q : List MemPlace} (ht : Tryz.prog.underlying t = some (.func ps rs va)) (h : DataW.trod (funcToken Tryz.prog) Tryz.prog w base sp true fuel t [v] = some (.nil, q)) : v = Value.nilFunc := by
 cases fuel with
 | zero => simp [DataW.trod] at h
 | succ n => cases v <;> simp [DataW.trod, ht] at h <;> rfl
set_option maxRecDepth 100000 in
theorem bars0_of_laid {W : World} (h : laidMetH Tryz.prog [("azalai/toll.bars", Rows.laid_azalai_toll_bars)] W) : OldB W 0 barsL := by
  obtain ⟨g0, t0, cs, fuel, p, hg, ht, hv, hd⟩ := h.funcs (List.mem_singleton.2 rfl)
  obtain rfl := Option.some.inj (gBars.symm.trans hg)
  obtain rfl := Option.some.inj (tBars.symm.trans ht)
  have hd' : DataW.trod (funcToken Tryz.prog) Tryz.prog W 0 (fun _ => true) true fuel 197 cs.toList = some (.agg [.nil, .held [40, 42, 97, 122, 97, 108, 97, 105, 47, 116, 111, 108, 108, 46, 116, 114, 101, 107, 41, 46, 99, 108, 111, 115, 101, 100], .held [40, 42, 97, 122, 97, 108, 97, 105, 47, 116, 111, 108, 108, 46, 116, 114, 101, 107, 41, 46, 104, 97, 116, 101, 100], .held [40, 42, 97, 122, 97, 108, 97, 105, 47, 116, 111, 108, 108, 46, 116, 114, 101, 107, 41, 46, 108, 111, 115, 116]], p) := hd
  have hfl : ∃ c0 c1 c2 c3, cs = #[c0, c1, c2, c3] := by
    obtain ⟨xs, m, _, _, hl, _, _⟩ := DataW.trod_array Tryz.underlying197 hd'
    have hc : Tryz.prog.cellsOf 197 = 4 := by kernel_rfl
    rw [hc] at hl
    obtain ⟨L⟩ := cs
    match L, hl with
    | [c0, c1, c2, c3], _ => exact ⟨c0, c1, c2, c3, rfl⟩
  obtain ⟨c0, c1, c2, c3, rfl⟩ := hfl
  obtain ⟨y0, y1, y2, y3, n, hx, h0, h1, h2, h3⟩ := trod_array4 Tryz.underlying197 (by kernel_rfl) hd'
  simp only [Prod.mk.injEq, DataW.agg.injEq, List.cons.injEq, and_true] at hx
  obtain ⟨⟨e0, e1, e2, e3⟩, _⟩ := hx
  obtain ⟨d0, q0⟩ := y0
  obtain ⟨d1, q1⟩ := y1
  obtain ⟨d2, q2⟩ := y2
  obtain ⟨d3, q3⟩ := y3
  simp only at e0 e1 e2 e3
  subst e0 e1 e2 e3
  obtain rfl := nil_of_trod Tryz.underlying196 h0
  obtain rfl := func_of_trod (f0 := 192) Tryz.underlying196 (by kernel_rfl) h1
  obtain rfl := func_of_trod (f0 := 193) Tryz.underlying196 (by kernel_rfl) h2
  obtain rfl := func_of_trod (f0 := 194) Tryz.underlying196 (by kernel_rfl) h3
  have hc := World.var?_cell hg hv
  exact ⟨World.block_lt_of_cell? W ⟨0, 0, none⟩ (hc 0), fun j v hj => by rw [hc j]; simpa [barsL, barV, barF] using hj⟩
end Go.Proofs.YtfaenhhgkhcghaaGreatDoor
namespace Go.Proofs.YtfaenhhgkhcghaaGreatDoor
set_option linter.all false
set_option linter.unusedVariables false
set_option linter.unusedSimpArgs false
open Go.ChangeShapes Go.WideShapes Go.ChangeAt Go.RowKit Go.Deep
section
variable {H : Type} {enc : TypeId × Value → H} {w : World} {base : Nat} {spare : Nat → Bool} {held : Bool} {P : Program}
theorem trodAll_zero {args : Array Value} {ds : List (DataW H)} {ps : List MemPlace} (h : DataW.TrodAll enc P w base spare held [] args.toList ds ps) : args = #[] ∧ ds = [] ∧ ps = [] := by
 obtain ⟨h1, h2, h3⟩ := trodAll_nil h
 exact ⟨by cases args; simp at h1; subst h1; rfl, h2, h3⟩
end
set_option maxRecDepth 100000 in
theorem tollExamples_door (os : Os) (args : Array Value) : laidMetH Tryz.prog Rows.tollExamplesRow.laid ((World.doorLaid Tryz.prog 14 os).forCall (fun _ _ => 0) ⟨#[], args, []⟩).memory :=
 laidMetH_of_parts3 (fuel := 8) (laidMet_of_run' 8 (by kernel_rfl) (by kernel_rfl)) (by kernel_rfl) (by kernel_rfl)
set_option maxRecDepth 100000 in
theorem tollExamples_lifted (os : Os) (started : os.Started) (H : Type) (enc : TypeId × Value → H) :
    ReturnsInHanded {} Tryz.checked os 4 .any (fun w args => (Rows.tollExamplesSpec.pre enc Tryz.prog Tryz.f4 [] false w args ∧ laidMetH Tryz.prog Rows.tollExamplesRow.laid w) ∧ sizedMet enc Tryz.prog Tryz.f4 (OpenSpec.ofChange Rows.tollExamplesSpec) false w args) (Rows.tollExamplesSpec.post enc Tryz.prog Tryz.f4 false true false false) := by
  refine returnsInHanded_of_change_and (C := Tryz.checked) (X := fun w _ => laidMetH Tryz.prog Rows.tollExamplesRow.laid w) (fun _ _ _ hh h => h.of_heap hh) Tryz.own started (by kernel_rfl) Tryz.func4
    (ChangeSpec.witness_shaped (enc := enc) (C := Tryz.checked) (os := os) (X := fun w _ => laidMetH Tryz.prog Rows.tollExamplesRow.laid w) false (World.doorLaid Tryz.prog 14 os) #[] 8 rfl (World.shaped_of_RefB (by kernel_rfl) (by kernel_rfl)) (by kernel_rfl) (by kernel_rfl) (by kernel_rfl) (tollExamples_door os _)) ?_
  intro W base args ds gs before hval0 hW _ _ hLd _
  have hval : ∀ (j : Nat) t v, Tryz.f4.params[j]? = some t → args[j]? = some v → Value.okWide Tryz.prog W .any base t v := hval0
  have hW' := hW
  obtain ⟨p, q, hA0, hV, rfl, hfz, hnd⟩ := hW
  have hA : DataW.TrodAll enc Tryz.prog W 0 (fun _ => true) true Tryz.f4.params.toList args.toList ds p := hA0
  have hA1 := hA
  rw [Tryz.params4] at hA hval
  obtain ⟨rfl, rfl, rfl⟩ := trodAll_zero hA
  obtain ⟨rfl, rfl⟩ := trodVars_none hV
  have hG : OldB W 0 barsL := bars0_of_laid hLd
  skip
  clear hA0 hval0
  simp only [List.append_nil] at hW'
  refine (lawExamples_any _ hG).mono ?_
  rintro e W' ⟨rfl, hb⟩
  exact ⟨_, rfl, law_post Tryz.laidOut rfl hW' hA1 (by kernel_rfl) (by kernel_rfl) Tryz.underlying4 rfl hb⟩
theorem tollExamples_row : Rows.TollExamplesSaid :=
  OpenClaim.holds_of_wide 4 Tryz.f4 rfl rfl rfl rfl rfl rfl rfl ⟨rfl, rfl, rfl, rfl, rfl⟩ rfl rfl rfl rfl rfl (by kernel_rfl) Tryz.func4 (by kernel_rfl)
    (of_decide_eq_true (by kernel_rfl)) (by unfold Func.isWrapper; first | (rw [if_pos (by decide +kernel)]; kernel_rfl) | (rw [if_neg (by decide +kernel)]; exact ⟨rfl, rfl⟩))
    (fun os started H enc _ => tollExamples_lifted os started H enc)
theorem tollExamples_holds : Rows.TollExamplesCardSaid :=
 Claim7.holds_tied_plain_at .later [] [.funcs] true _ false
  tollExamples_row (fun _ h => by cases h) (by kernel_rfl) (fun _ h => by cases h) tollExamples_row_tie rfl ⟨rfl, rfl⟩ (by kernel_rfl) rfl
  (fun f fn hf hfn => by
   obtain rfl : f = 4 := Option.some.inj ((show Tryz.prog.funcNamed "azalai/azalailaw07.TollExamples" = some 4 by kernel_rfl).symm.trans hf) |>.symm
   obtain rfl : fn = Tryz.f4 := (Option.some.inj (Tryz.func4.symm.trans hfn)).symm
   exact ⟨by kernel_rfl, fun j t ht => by
    have hall : (Tryz.f4.params.toList.all fun u => !Tryz.prog.wantsStandIn u) = true := by kernel_rfl
    have hm : t ∈ Tryz.f4.params.toList := by simpa using Array.mem_of_getElem? ht
    exact (show Tryz.prog.wantsStandIn t = false by simpa using List.all_eq_true.1 hall t hm)⟩)
  (by kernel_rfl)
end Go.Proofs.YtfaenhhgkhcghaaGreatDoor
