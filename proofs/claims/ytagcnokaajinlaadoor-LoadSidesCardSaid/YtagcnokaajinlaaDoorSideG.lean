/-
  The law function LoadSides.
-/
import Derived.Test.YtagcnokaajinlaaDoorSideF
import Derived.Test.YtagcnokaajinlaaDoorLoadV
namespace Go.Proofs.YtagcnokaajinlaaDoor
set_option linter.all false
set_option linter.unusedVariables false
set_option linter.unusedSimpArgs false
open Go.RowKit
set_option maxRecDepth 100000 in
set_option maxHeartbeats 2000000 in
theorem lawSides_any {w : World} {A : Option Addr} {np cp : Nat} {pk : Nat → Nat → Int} {a : Nat → Option Addr} {l c : Nat → Nat} {v : Nat → Nat → Int} {b : Int} {f g : Nat → Int} {m : Bool}
    (hG : None0 w) (hR : RdR w 11 A np (fun k => packL (pk k))) (hI : ∀ j, j < 3 → RdR w 1 (a j) (l j) (fun k => [.int .i64 (v j k)])) :
    Calls Tryd.prog 5 #[.agg (breedL f).toArray, .agg (camL g m).toArray, .slice A np cp, .agg (tieL a l c).toArray, .int .i64 b] w (Ret w (.bool true)) := by
  refine K_enter (S := []) (K := []) Tryd.func5 rfl Tryd.ntmps5 rfl (Sat.start _) ?_
  refine TW.seq fun Y1 hY1 => ?_
  refine TW.region ?_
  refine TL.m Mk.bx ?_
  intro b1
  refine TL.m Mk.bx ?_
  intro b2
  refine TL.m Mk.bx ?_
  intro b3
  refine TL.p Pu.as ?_
  refine TL.nil ?_
  refine TQ.thenN (hY1 _ _ ?_)
  refine TW.seq fun Y2 hY2 => ?_
  refine TW.seq fun Y3 hY3 => ?_
  refine TW.region ?_
  refine TL.p Pu.mv ?_
  refine TL.p (Pu.lds ty_ag59) ?_
  refine TL.m Mk.bl ?_
  intro b4
  refine TL.cr rfl (enters Tryd.func6 rfl rfl) (fun w hw => by
      exact great_any (m := 1) (a := fun _ => a) (l := fun _ => l) (c := fun _ => c) (RdR.blk (n := 1) (cs := tieL a l c) (E := 59) (hw.holds (.blk b4 59 (tieL a l c)) (by simp [tieL])) rfl (fun i _ => rfl))) ?_
  refine TL.nil ?_
  refine TQ.thenN (hY3 _ _ ?_)
  refine TW.cond rfl (fun hc0 => ?_) (fun hc0 => ?_)
  · try simp only [decide_eq_true_eq, decide_eq_false_iff_not, Bool.not_eq_true', Bool.not_eq_false', Bool.and_eq_true, Bool.or_eq_true, Bool.and_eq_false_iff, Bool.or_eq_false_iff, Int.not_lt, Int.not_le] at hc0
    refine TW.seq fun Y4 hY4 => ?_
    refine TW.region ?_
    refine TL.p Pu.as ?_
    refine TL.nil ?_
    refine TQ.thenN (hY4 _ _ ?_)
    refine TW.ret ?_
    refine TQ.thenR ?_
    refine TQ.ret Tryd.results5 rfl ((.tmp rfl .nil)) ?_
    exact fun w hw => Ret.of hw
  · try simp only [decide_eq_true_eq, decide_eq_false_iff_not, Bool.not_eq_true', Bool.not_eq_false', Bool.and_eq_true, Bool.or_eq_true, Bool.and_eq_false_iff, Bool.or_eq_false_iff, Int.not_lt, Int.not_le] at hc0
    have hno : greatB np 1 (fun _ => l) = false := by simpa using hc0
    obtain ⟨hnp40, hm12, hl48⟩ := great_no hno
    have hl48 := hl48 0 (by omega)
    have hL : Lay1 w A np pk a l v := ⟨hG, by omega, hR, hI, by omega⟩
    refine TW.skip ?_
    refine TQ.thenN (hY2 _ _ ?_)
    refine TW.seq fun Y5 hY5 => ?_
    refine TW.region ?_
    refine TL.p Pu.mv ?_
    refine TL.p (Pu.lds ty_ag59) ?_
    refine TL.cr rfl (enters Tryd.func19 rfl rfl) (fun w hw => by
        exact loadSides_any (hL.sat hw)) ?_
    refine TL.p Pu.mv ?_
    refine TL.p Pu.ex ?_
    refine TL.p Pu.ex ?_
    refine TL.p Pu.ex ?_
    refine TL.p Pu.ex ?_
    refine TL.m (Mk.al ty_zr23) ?_
    intro b5
    refine TL.m (Mk.al ty_zr23) ?_
    intro b6
    refine TL.m (Mk.al ty_zr23) ?_
    intro b7
    first | refine TL.st ty_sz23 ?_ | refine TL.se ty_sz23 ?_
    first | refine TL.st ty_sz23 ?_ | refine TL.se ty_sz23 ?_
    first | refine TL.st ty_sz23 ?_ | refine TL.se ty_sz23 ?_
    refine TL.p Pu.as ?_
    refine TL.nil ?_
    refine TQ.thenN (hY5 _ _ ?_)
    refine TW.seq fun Y6 hY6 => ?_
    refine TW.region ?_
    refine TL.p Pu.mv ?_
    refine TL.p (Pu.lds ty_ag59) ?_
    refine TL.cr rfl (enters Tryd.func20 rfl rfl) (fun w hw => by
        exact refSides_any (hL.sat hw)) ?_
    refine TL.p Pu.mv ?_
    refine TL.p Pu.ex ?_
    refine TL.p Pu.ex ?_
    refine TL.p Pu.ex ?_
    refine TL.p Pu.ex ?_
    refine TL.m (Mk.al ty_zr23) ?_
    intro b8
    refine TL.m (Mk.al ty_zr23) ?_
    intro b9
    refine TL.m (Mk.al ty_zr23) ?_
    intro b10
    first | refine TL.st ty_sz23 ?_ | refine TL.se ty_sz23 ?_
    first | refine TL.st ty_sz23 ?_ | refine TL.se ty_sz23 ?_
    first | refine TL.st ty_sz23 ?_ | refine TL.se ty_sz23 ?_
    refine TL.p Pu.as ?_
    refine TL.nil ?_
    refine TQ.thenN (hY6 _ _ ?_)
    refine TW.seq fun Y7 hY7 => ?_
    refine TW.region ?_
    refine TL.p Pu.mv ?_
    refine TL.p (Pu.lds ty_ag59) ?_
    refine TL.p Pu.mv ?_
    refine TL.cr rfl (enters Tryd.func21 rfl rfl) (fun w hw => by
        exact loadBalance_any (hL.sat hw)) ?_
    refine TL.p Pu.mv ?_
    refine TL.p Pu.ex ?_
    refine TL.p Pu.ex ?_
    refine TL.p Pu.as ?_
    refine TL.p Pu.as ?_
    refine TL.nil ?_
    refine TQ.thenN (hY7 _ _ ?_)
    refine TW.seq fun Y8 hY8 => ?_
    refine TW.region ?_
    refine TL.p Pu.mv ?_
    refine TL.p (Pu.lds ty_ag59) ?_
    refine TL.p Pu.mv ?_
    refine TL.cr rfl (enters Tryd.func22 rfl rfl) (fun w hw => by
        exact refBalance_any (hL.sat hw)) ?_
    refine TL.p Pu.mv ?_
    refine TL.p Pu.ex ?_
    refine TL.p Pu.ex ?_
    refine TL.p Pu.as ?_
    refine TL.p Pu.as ?_
    refine TL.nil ?_
    refine TQ.thenN (hY8 _ _ ?_)
    refine TW.seq fun Y9 hY9 => ?_
    refine TW.region ?_
    refine TL.p (Pu.lds ty_ag55) ?_
    refine TL.p (Pu.lds ty_ag57) ?_
    refine TL.p Pu.mv ?_
    refine TL.p (Pu.lds ty_ag59) ?_
    refine TL.p Pu.mv ?_
    refine TL.cr rfl (enters Tryd.func23 rfl rfl) (fun w hw => by
        exact loadReady_any (hL.sat hw)) ?_
    refine TL.p Pu.mv ?_
    refine TL.p Pu.ex ?_
    refine TL.p Pu.ex ?_
    refine TL.p Pu.as ?_
    refine TL.p Pu.as ?_
    refine TL.nil ?_
    refine TQ.thenN (hY9 _ _ ?_)
    refine TW.seq fun Y10 hY10 => ?_
    refine TW.region ?_
    refine TL.p (Pu.lds ty_ag55) ?_
    refine TL.p (Pu.lds ty_ag57) ?_
    refine TL.p Pu.mv ?_
    refine TL.p (Pu.lds ty_ag59) ?_
    refine TL.p Pu.mv ?_
    refine TL.cr rfl (enters Tryd.func24 rfl rfl) (fun w hw => by
        exact refReady_any (hL.sat hw)) ?_
    refine TL.p Pu.mv ?_
    refine TL.p Pu.ex ?_
    refine TL.p Pu.ex ?_
    refine TL.p Pu.as ?_
    refine TL.p Pu.as ?_
    refine TL.nil ?_
    refine TQ.thenN (hY10 _ _ ?_)
    refine TW.seq fun Y11 hY11 => ?_
    refine TW.region ?_
    refine TL.p (Pu.lds ty_ag23) ?_
    refine TL.p (Pu.lds ty_ag23) ?_
    refine TL.p (Pu.bn (r := .bool true) rfl rfl (fun w => by go_simp)) ?_
    refine TL.lit (t := 81) (b' := true) rfl (rfl) ?_
    refine TL.p Pu.mv ?_
    refine TL.gd (Pu.lds ty_ag23) ?_
    refine TL.gd (Pu.lds ty_ag23) ?_
    refine TL.gd (Pu.bn (r := .bool true) rfl rfl (fun w => by go_simp)) ?_
    refine TL.lit (t := 85) (b' := true) rfl (rfl) ?_
    refine TL.p Pu.kt ?_
    refine TL.p Pu.mv ?_
    refine TL.gd (Pu.lds ty_ag23) ?_
    refine TL.gd (Pu.lds ty_ag23) ?_
    refine TL.gd (Pu.bn (r := .bool true) rfl rfl (fun w => by go_simp)) ?_
    refine TL.lit (t := 90) (b' := true) rfl (rfl) ?_
    refine TL.p Pu.kt ?_
    refine TL.p Pu.mv ?_
    refine TL.gd Pu.mv ?_
    refine TL.gd Pu.mv ?_
    refine TL.gd (Pu.bn (r := .bool true) rfl rfl (fun w => by go_simp)) ?_
    refine TL.lit (t := 95) (b' := true) rfl (rfl) ?_
    refine TL.p Pu.kt ?_
    refine TL.p Pu.mv ?_
    refine TL.gd Pu.mv ?_
    refine TL.gd Pu.mv ?_
    refine TL.gd (Pu.bn (r := .bool true) rfl rfl (fun w => by go_simp)) ?_
    refine TL.lit (t := 100) (b' := true) rfl (rfl) ?_
    refine TL.p Pu.kt ?_
    refine TL.p Pu.mv ?_
    refine TL.gd Pu.mv ?_
    refine TL.gd Pu.mv ?_
    refine TL.gd (Pu.bn (r := .bool true) rfl rfl (fun w => by go_simp)) ?_
    refine TL.lit (t := 105) (b' := true) rfl (rfl) ?_
    refine TL.p Pu.kt ?_
    refine TL.p Pu.mv ?_
    refine TL.gd Pu.mv ?_
    refine TL.gd Pu.mv ?_
    refine TL.gd (Pu.bn (r := .bool true) rfl rfl (fun w => by go_simp)) ?_
    refine TL.lit (t := 110) (b' := true) rfl (rfl) ?_
    refine TL.p Pu.kt ?_
    refine TL.p Pu.mv ?_
    refine TL.gd Pu.mv ?_
    refine TL.gd Pu.mv ?_
    refine TL.gd (Pu.bn (r := .bool true) rfl rfl (fun w => by go_simp)) ?_
    refine TL.lit (t := 115) (b' := true) rfl (rfl) ?_
    refine TL.p Pu.kt ?_
    refine TL.p Pu.as ?_
    refine TL.nil ?_
    refine TQ.thenN (hY11 _ _ ?_)
    refine TW.ret ?_
    refine TQ.ret Tryd.results5 rfl ((.tmp rfl .nil)) ?_
    exact fun w hw => Ret.of hw
end Go.Proofs.YtagcnokaajinlaaDoor
