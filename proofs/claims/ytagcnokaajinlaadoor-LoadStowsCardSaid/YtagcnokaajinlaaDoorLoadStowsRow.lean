/-
  The statement LoadStowsCardSaid: for every input the law LoadStows returns true, and its arguments read afterwards as before; load.none reads as the program's text lays it, by the tie that is given. No other condition.
-/
import Derived.Test.YtagcnokaajinlaaDoorStowI
import Derived.Test.YtagcnokaajinlaaDoorLoadW
import Derived.Test.YtagcnokaajinlaaDoorTie
import Derived.Test.YtagcnokaajinlaaDoorCards
import Derived.SevenTiedAt
namespace Go.Proofs.YtagcnokaajinlaaDoor
set_option linter.all false
set_option linter.unusedVariables false
set_option linter.unusedSimpArgs false
open Go.ChangeShapes Go.WideShapes Go.ChangeAt Go.RowKit Go.Deep
section
variable {H : Type} {enc : TypeId × Value → H} {w : World} {base : Nat} {spare : Nat → Bool} {held : Bool}
set_option maxRecDepth 100000 in
/-- Numbers, as an argument. -/
theorem open_numbers {r : Reach} {b0 : Nat} {v : Value} {dd : DataW H} {p : List MemPlace} (hv : Value.okWide Tryd.prog w r b0 47 v) (h : DataW.Trod enc Tryd.prog w base spare held 47 v dd p) :
    ∃ (A : Option Addr) (n cp : Nat) (u : Nat → Int), v = .slice A n cp ∧ RdR w 1 A n (fun k => [.int .i64 (u k)]) := by
  obtain ⟨A, n, cp, g, rfl, hg, hR, _, _, _⟩ := open_rows 1 [.i64] Tryd.underlying47 (by kernel_rfl) (by kernel_rfl) rfl hv h
  exact ⟨A, n, cp, fun i => gi (g i) 0, rfl, hR.rowK hg⟩
end
set_option maxRecDepth 100000 in
theorem loadStows_door (os : Os) (args : Array Value) : laidMetH Tryd.prog Rows.loadStowsRow.laid ((World.doorLaid Tryd.prog 14 os).forCall (fun _ _ => 0) ⟨#[], args, []⟩).memory :=
  laidMetH_of_parts3 (fuel := 8) (laidMet_of_run' 8 (by kernel_rfl) (by kernel_rfl)) (by kernel_rfl) (by kernel_rfl)
set_option maxRecDepth 100000 in
theorem loadStows_lifted (os : Os) (started : os.Started) (H : Type) (enc : TypeId × Value → H) :
    ReturnsInHanded {} Tryd.checked os 4 .any (fun w args => (Rows.loadStowsSpec.pre enc Tryd.prog Tryd.f4 [] false w args ∧ laidMetH Tryd.prog Rows.loadStowsRow.laid w) ∧ sizedMet enc Tryd.prog Tryd.f4 (OpenSpec.ofChange Rows.loadStowsSpec) false w args) (Rows.loadStowsSpec.post enc Tryd.prog Tryd.f4 false true false false) := by
  refine returnsInHanded_of_change_and (C := Tryd.checked) (X := fun w _ => laidMetH Tryd.prog Rows.loadStowsRow.laid w) (fun _ _ _ hh h => h.of_heap hh) Tryd.own started (by kernel_rfl) Tryd.func4
    (ChangeSpec.witness_shaped (enc := enc) (C := Tryd.checked) (os := os) (X := fun w _ => laidMetH Tryd.prog Rows.loadStowsRow.laid w) false (World.doorLaid Tryd.prog 14 os) #[.slice none 0 0, .slice none 0 0, .slice none 0 0, .int .i64 0] 8 rfl (World.shaped_of_RefB (by kernel_rfl) (by kernel_rfl)) (by kernel_rfl) (by kernel_rfl) (by kernel_rfl) (loadStows_door os _)) ?_
  intro W base args ds gs before hval0 hW _ _ hLd _
  have hval : ∀ (j : Nat) t v, Tryd.f4.params[j]? = some t → args[j]? = some v → Value.okWide Tryd.prog W .any base t v := hval0
  have hW' := hW
  obtain ⟨p, q, hA0, hV, rfl, hfz, hnd⟩ := hW
  have hA : DataW.TrodAll enc Tryd.prog W 0 (fun _ => true) true Tryd.f4.params.toList args.toList ds p := hA0
  have hA1 := hA
  rw [Tryd.params4] at hA hval
  obtain ⟨v0, v1, v2, v3, d0, d1, d2, d3, p0, p1, p2, p3, rfl, rfl, rfl, h0, h1, h2, h3⟩ := trodAll_four hA
  obtain ⟨rfl, rfl⟩ := trodVars_none hV
  have hG : None0 W := none0_of_laid hLd
  obtain ⟨A, np, cp, pk, rfl, hR⟩ := open_packs (hval 0 26 v0 rfl rfl) h0
  obtain ⟨Ac, nc, cc, cans, rfl, hC⟩ := open_numbers (hval 1 47 v1 rfl rfl) h1
  obtain ⟨Av, nw, cv, wv, rfl, hV⟩ := open_numbers (hval 2 47 v2 rfl rfl) h2
  obtain ⟨bound, rfl, _⟩ := open_int Tryd.underlying3 (hval 3 3 v3 rfl rfl) h3
  clear hA0 hval0
  simp only [List.append_nil] at hW'
  refine (lawStows_any hG hR hC hV).mono ?_
  rintro e W' ⟨rfl, hb⟩
  exact ⟨_, rfl, law_post Tryd.laidOut rfl hW' hA1 (by kernel_rfl) (by kernel_rfl) Tryd.underlying4 rfl hb⟩
theorem loadStows_row : Rows.LoadStowsSaid :=
  OpenClaim.holds_of_wide 4 Tryd.f4 rfl rfl rfl rfl rfl rfl rfl ⟨rfl, rfl, rfl, rfl, rfl⟩ rfl rfl rfl rfl rfl (by kernel_rfl) Tryd.func4 (by kernel_rfl)
    (of_decide_eq_true (by kernel_rfl)) (by unfold Func.isWrapper; first | (rw [if_pos (by decide +kernel)]; kernel_rfl) | (rw [if_neg (by decide +kernel)]; exact ⟨rfl, rfl⟩))
    (fun os started H enc _ => loadStows_lifted os started H enc)
theorem loadStows_holds : Rows.LoadStowsCardSaid :=
  Claim7.holds_tied_plain_at .later [] [.data] true _ true
    loadStows_row (fun _ h => by cases h) (by kernel_rfl) (fun _ h => by cases h) loadStows_row_tie rfl ⟨rfl, rfl⟩ (by kernel_rfl) rfl
    (fun f fn hf hfn => by
      obtain rfl : f = 4 := Option.some.inj ((show Tryd.prog.funcNamed "azalai/azalailaw05.LoadStows" = some 4 by kernel_rfl).symm.trans hf) |>.symm
      obtain rfl : fn = Tryd.f4 := (Option.some.inj (Tryd.func4.symm.trans hfn)).symm
      exact ⟨by kernel_rfl, fun j t ht => by
        have hall : (Tryd.f4.params.toList.all fun u => !Tryd.prog.wantsStandIn u) = true := by kernel_rfl
        have hm : t ∈ Tryd.f4.params.toList := by simpa using Array.mem_of_getElem? ht
        exact (show Tryd.prog.wantsStandIn t = false by simpa using List.all_eq_true.1 hall t hm)⟩)
    (by kernel_rfl)
end Go.Proofs.YtagcnokaajinlaaDoor
