/-
  The statement BrandMaySaid: for every input the law BrandMay returns true, and its arguments read afterwards as before. No condition.
-/
import Derived.Test.YtbenhafhklfhmaaGreatAl01
import Derived.Test.YtbenhafhklfhmaaGreatAl02
import Derived.Test.YtbenhafhklfhmaaGreatAl03
import Derived.Test.YtbenhafhklfhmaaGreatAl04
import Derived.Test.YtbenhafhklfhmaaGreatAl05
import Derived.Test.YtbenhafhklfhmaaGreatAl06
import Derived.Test.YtbenhafhklfhmaaGreatAl07
import Derived.Test.YtbenhafhklfhmaaGreatAl08
import Derived.Test.YtbenhafhklfhmaaGreatAl09
import Derived.Test.YtbenhafhklfhmaaGreatAl10
import Derived.Test.YtbenhafhklfhmaaGreatAl11
import Derived.Test.YtbenhafhklfhmaaGreatMay01
import Derived.Test.YtbenhafhklfhmaaGreatRows
import Derived.WalkKit
import Derived.WalkSpells
import Derived.WalkLawsBesides
import Derived.Deep.QuietTactic
import Derived.BigQuiet
import Derived.OrdersHeld
import Derived.ProofKit
import Derived.Deep.Slices
import Derived.Carry
import Derived.Lib.AppendZerosOnto
import Derived.Laws.OwnMore
import Derived.Maps.AppendAt
import Derived.OwnWalk
import Derived.Lib.SliceRun
import Derived.RangeFuncNested
import Derived.RangeFuncBound
import Derived.RangeFuncCalls
import Derived.RangeFuncLeaves
import Derived.OwnWalkIn
import Derived.TacticsInMore
import Derived.LoopNIn
import Derived.LoopIn
import Derived.OrdersIn
import Derived.Deep.RegionHeld3
import Derived.BigRegion
import Derived.OpenShut
namespace Go.Proofs.YtbenhafhklfhmaaGreat
set_option linter.all false
set_option linter.unusedVariables false
set_option linter.unusedSimpArgs false
open Go.ChangeShapes Go.WideShapes Go.RowKit Go.Deep
section
variable {H : Type} {enc : TypeId × Value → H} {P : Program} {w : World} {base : Nat} {spare : Nat → Bool} {held : Bool}
theorem trodAll_five {t0 t1 t2 t3 t4 : TypeId} {args : Array Value} {ds : List (DataW H)} {ps : List MemPlace} (h : DataW.TrodAll enc P w base spare held [t0, t1, t2, t3, t4] args.toList ds ps) :
  ∃ v0 v1 v2 v3 v4 d0 d1 d2 d3 d4 p0 p1 p2 p3 p4, args = #[v0, v1, v2, v3, v4] ∧ ds = [d0, d1, d2, d3, d4] ∧ ps = p0 ++ (p1 ++ (p2 ++ (p3 ++ p4))) ∧ DataW.Trod enc P w base spare held t0 v0 d0 p0 ∧ DataW.Trod enc P w base spare held t1 v1 d1 p1 ∧ DataW.Trod enc P w base spare held t2 v2 d2 p2 ∧ DataW.Trod enc P w base spare held t3 v3 d3 p3 ∧ DataW.Trod enc P w base spare held t4 v4 d4 p4 := by
 obtain ⟨v0, vs0, d0, ds0, p0, q0, hargs, rfl, rfl, h0, hr0⟩ := trodAll_cons h
 obtain ⟨v1, vs1, d1, ds1, p1, q1, rfl, rfl, rfl, h1, hr1⟩ := trodAll_cons hr0
 obtain ⟨v2, vs2, d2, ds2, p2, q2, rfl, rfl, rfl, h2, hr2⟩ := trodAll_cons hr1
 obtain ⟨v3, vs3, d3, ds3, p3, q3, rfl, rfl, rfl, h3, hr3⟩ := trodAll_cons hr2
 obtain ⟨v4, vs4, d4, ds4, p4, q4, rfl, rfl, rfl, h4, hr4⟩ := trodAll_cons hr3
 obtain ⟨rfl, rfl, rfl⟩ := trodAll_nil hr4
 exact ⟨v0, v1, v2, v3, v4, d0, d1, d2, d3, d4, p0, p1, p2, p3, p4, by cases args; simp_all, rfl, by simp, h0, h1, h2, h3, h4⟩
end
end Go.Proofs.YtbenhafhklfhmaaGreat
namespace Go.Proofs.YtbenhafhklfhmaaGreat
set_option linter.all false
set_option linter.unusedVariables false
set_option linter.unusedSimpArgs false
open Go.ChangeShapes Go.WideShapes Go.ChangeAt Go.RowKit Go.Deep
theorem Tryz.own : ownKnob Tryz.prog.godebug = none := by kernel_rfl
theorem Tryz.laidOut : laidOutB Tryz.prog = true := by kernel_rfl
set_option maxRecDepth 100000 in
theorem brandMay_lifted (os : Os) (started : os.Started) (H : Type) (enc : TypeId × Value → H) :
    ReturnsInHanded {} Tryz.checked os 4 .any (Rows.brandMaySpec.pre6 enc Tryz.prog Tryz.f4 Rows.brandMayRow.domain false) (Rows.brandMaySpec.post enc Tryz.prog Tryz.f4 false true false false) := by
  refine returnsInHanded_of_change (C := Tryz.checked) Tryz.own started (by kernel_rfl) Tryz.func4
    (ChangeSpec.witness6 (enc := enc) (C := Tryz.checked) false ⟨#[], #[.slice none 0 0, .slice none 0 0, .slice none 0 0, .int .u8 0, .int .u8 0], []⟩ 8 (by kernel_rfl) (by kernel_rfl) (by kernel_rfl) (by kernel_rfl)) ?_
  intro W base args ds gs before hval0 hW hcnd _
  have hval : ∀ (j : Nat) t v, Tryz.f4.params[j]? = some t → args[j]? = some v → Value.okWide Tryz.prog W .any base t v := hval0
  have hW' := hW
  obtain ⟨p, q, hA0, hV, rfl, hfz, hnd⟩ := hW
  have hA : DataW.TrodAll enc Tryz.prog W 0 (fun _ => true) true Tryz.f4.params.toList args.toList ds p := hA0
  have hA1 := hA
  rw [Tryz.params4] at hA hval
  obtain ⟨v0, v1, v2, v3, v4, d0, d1, d2, d3, d4, p0, p1, p2, p3, p4, rfl, rfl, rfl, h0, h1, h2, h3, h4⟩ := trodAll_five hA
  obtain ⟨rfl, rfl⟩ := trodVars_none hV
  obtain ⟨A, cp, Hh, a, c, rfl, hR, hM⟩ := open_herd (hval 0 22 v0 rfl rfl) h0
  obtain ⟨B, nl, cb, x, rfl, hLR, hLq, hcb⟩ := open_looksB (hval 1 37 v1 rfl rfl) h1
  obtain ⟨C, nc, cc, dm, yg, rfl, hCR⟩ := open_calves (hval 2 38 v2 rfl rfl) h2
  obtain ⟨o, rfl, ho⟩ := open_u8b Tryz.underlying5 (hval 3 5 v3 rfl rfl) h3
  obtain ⟨t, rfl, ht⟩ := open_u8b Tryz.underlying5 (hval 4 5 v4 rfl rfl) h4
  clear hA0 hval0
  simp only [List.append_nil] at hW'
  refine (lawMay_any (L := fun k => (x k).l) (la := fun k => (x k).A) (lc := fun k => (x k).c) o t ho ht hR hM hLR (fun k hk => (hLq k hk).1) (fun k hk => (hLq k hk).2) hCR).mono ?_
  rintro e W' ⟨rfl, hb⟩
  exact ⟨_, rfl, law_post Tryz.laidOut rfl hW' hA1 (by kernel_rfl) (by kernel_rfl) Tryz.underlying4 rfl hb⟩
theorem brandMay_holds : Rows.BrandMaySaid :=
  OpenClaim.holds_of_wide 4 Tryz.f4 rfl rfl rfl rfl rfl rfl rfl ⟨rfl, rfl, rfl, rfl, rfl⟩ rfl rfl rfl rfl rfl (by kernel_rfl) Tryz.func4 (by kernel_rfl)
    (of_decide_eq_true (by kernel_rfl)) (by unfold Func.isWrapper; first | (rw [if_pos (by decide +kernel)]; kernel_rfl) | (rw [if_neg (by decide +kernel)]; exact ⟨rfl, rfl⟩))
    (fun os started H enc _ => brandMay_lifted os started H enc)
end Go.Proofs.YtbenhafhklfhmaaGreat
