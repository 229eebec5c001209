/-
  The statement BrandReachedSaid: for every input the law BrandReached returns true, and its arguments read afterwards as before. No condition.
-/
import Derived.Test.YtbenhafhklfhmaaGreatAl01
import Derived.Test.YtbenhafhklfhmaaGreatAl02
import Derived.Test.YtbenhafhklfhmaaGreatAl03
import Derived.Test.YtbenhafhklfhmaaGreatAl04
import Derived.Test.YtbenhafhklfhmaaGreatAl05
import Derived.Test.YtbenhafhklfhmaaGreatAl06
import Derived.Test.YtbenhafhklfhmaaGreatAl07
import Derived.Test.YtbenhafhklfhmaaGreatAl08
import Derived.Test.YtbenhafhklfhmaaGreatAl09
import Derived.Test.YtbenhafhklfhmaaGreatAl10
import Derived.Test.YtbenhafhklfhmaaGreatAl11
import Derived.Test.YtbenhafhklfhmaaGreatRea01
import Derived.Test.YtbenhafhklfhmaaGreatRows
import Derived.OpenShut
namespace Go.Proofs.YtbenhafhklfhmaaGreat
set_option linter.all false
set_option linter.unusedVariables false
set_option linter.unusedSimpArgs false
open Go.ChangeShapes Go.WideShapes Go.ChangeAt Go.RowKit Go.Deep
theorem Tryz.own : ownKnob Tryz.prog.godebug = none := by kernel_rfl
theorem Tryz.laidOut : laidOutB Tryz.prog = true := by kernel_rfl
set_option maxRecDepth 100000 in
theorem brandReached_lifted (os : Os) (started : os.Started) (H : Type) (enc : TypeId × Value → H) :
    ReturnsInHanded {} Tryz.checked os 9 .any (Rows.brandReachedSpec.pre6 enc Tryz.prog Tryz.f9 Rows.brandReachedRow.domain false) (Rows.brandReachedSpec.post enc Tryz.prog Tryz.f9 false true false false) := by
  refine returnsInHanded_of_change (C := Tryz.checked) Tryz.own started (by kernel_rfl) Tryz.func9
    (ChangeSpec.witness6 (enc := enc) (C := Tryz.checked) false ⟨#[], #[.agg #[.int .i64 0, .int .i64 0], .slice none 0 0, .int .u8 0, .int .u8 0], []⟩ 8 (by kernel_rfl) (by kernel_rfl) (by kernel_rfl) (by kernel_rfl)) ?_
  intro W base args ds gs before hval0 hW hcnd _
  have hval : ∀ (j : Nat) t v, Tryz.f9.params[j]? = some t → args[j]? = some v → Value.okWide Tryz.prog W .any base t v := hval0
  have hW' := hW
  obtain ⟨p, q, hA0, hV, rfl, hfz, hnd⟩ := hW
  have hA : DataW.TrodAll enc Tryz.prog W 0 (fun _ => true) true Tryz.f9.params.toList args.toList ds p := hA0
  have hA1 := hA
  rw [Tryz.params9] at hA hval
  obtain ⟨v0, v1, v2, v3, d0, d1, d2, d3, p0, p1, p2, p3, rfl, rfl, rfl, h0, h1, h2, h3⟩ := trodAll_four hA
  obtain ⟨rfl, rfl⟩ := trodVars_none hV
  obtain ⟨a, b, rfl⟩ := open_spanB (hval 0 36 v0 rfl rfl) h0
  obtain ⟨A, n, cp, f, rfl, hR, hA9, hcp, hcm⟩ := open_rowsB (hval 1 69 v1 rfl rfl) h1
  obtain ⟨o, rfl, ho⟩ := open_u8b Tryz.underlying5 (hval 2 5 v2 rfl rfl) h2
  obtain ⟨t, rfl, ht⟩ := open_u8b Tryz.underlying5 (hval 3 5 v3 rfl rfl) h3
  clear hA0 hval0
  simp only [List.append_nil] at hW'
  refine (lawReach_any hR hA9 hcp hcm o t ho ht).mono ?_
  rintro e W' ⟨rfl, hb⟩
  exact ⟨_, rfl, law_post Tryz.laidOut rfl hW' hA1 (by kernel_rfl) (by kernel_rfl) Tryz.underlying4 rfl hb⟩
theorem brandReached_holds : Rows.BrandReachedSaid :=
  OpenClaim.holds_of_wide 9 Tryz.f9 rfl rfl rfl rfl rfl rfl rfl ⟨rfl, rfl, rfl, rfl, rfl⟩ rfl rfl rfl rfl rfl (by kernel_rfl) Tryz.func9 (by kernel_rfl)
    (of_decide_eq_true (by kernel_rfl)) (by unfold Func.isWrapper; first | (rw [if_pos (by decide +kernel)]; kernel_rfl) | (rw [if_neg (by decide +kernel)]; exact ⟨rfl, rfl⟩))
    (fun os started H enc _ => brandReached_lifted os started H enc)
end Go.Proofs.YtbenhafhklfhmaaGreat
