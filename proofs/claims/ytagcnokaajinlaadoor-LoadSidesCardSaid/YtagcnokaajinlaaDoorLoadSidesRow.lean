/-
  The statement LoadSidesCardSaid: for every input the law LoadSides returns true, and its arguments read afterwards as before; load.none reads as the program's text lays it, by the tie that is given. No other condition.
-/
import Derived.Test.YtagcnokaajinlaaDoorSideG
import Derived.Test.YtagcnokaajinlaaDoorLoadW
import Derived.Test.YtagcnokaajinlaaDoorTie
import Derived.Test.YtagcnokaajinlaaDoorCards
import Derived.SevenTiedAt
namespace Go.Proofs.YtagcnokaajinlaaDoor
set_option linter.all false
set_option linter.unusedVariables false
set_option linter.unusedSimpArgs false
open Go.ChangeShapes Go.WideShapes Go.ChangeAt Go.RowKit Go.Deep
section
variable {H : Type} {enc : TypeId × Value → H} {w : World} {base : Nat} {spare : Nat → Bool} {held : Bool}
set_option maxRecDepth 100000 in
/-- A breed, as an argument. -/
theorem open_breed {r : Reach} {b0 : Nat} {v : Value} {dd : DataW H} {p : List MemPlace} (hv : Value.okWide Tryd.prog w r b0 55 v) (h : DataW.Trod enc Tryd.prog w base spare held 55 v dd p) :
    ∃ f : Nat → Int, v = .agg (breedL f).toArray := by
  obtain ⟨ns, rfl, hn⟩ := open_flat 3 (ks := List.replicate 17 .i64) Tryd.underlying55 (by kernel_rfl) hv h
  exact ⟨gi ns, by rw [ints_rowK _ _ hn]; rfl⟩
set_option maxRecDepth 100000 in
/-- An animal, as an argument. -/
theorem open_camel {r : Reach} {b0 : Nat} {v : Value} {dd : DataW H} {p : List MemPlace} (hv : Value.okWide Tryd.prog w r b0 57 v) (h : DataW.Trod enc Tryd.prog w base spare held 57 v dd p) :
    ∃ (g : Nat → Int) (m : Bool), v = .agg (camL g m).toArray := by
  obtain ⟨cs, rfl, hlen⟩ := okWide_struct Tryd.underlying57 hv
  obtain ⟨fuel, hf⟩ := h
  obtain ⟨hl, hfs⟩ := trod_fields Tryd.underlying57 hf
  obtain ⟨n0, y0, h0⟩ := hfs 0 _ rfl
  obtain ⟨n1, y1, h1⟩ := hfs 1 _ rfl
  obtain ⟨n2, y2, h2⟩ := hfs 2 _ rfl
  obtain ⟨n3, y3, h3⟩ := hfs 3 _ rfl
  obtain ⟨s0, e0, l0⟩ := kindsF_spec 2 23 [.i64, .i64] (by kernel_rfl) _ _ _ h0
  obtain ⟨s1, e1, l1⟩ := kindsF_spec 2 23 [.i64, .i64] (by kernel_rfl) _ _ _ h1
  obtain ⟨s2, e2, l2⟩ := kindsF_spec 2 23 [.i64, .i64] (by kernel_rfl) _ _ _ h2
  obtain ⟨m, e3, _⟩ := DataW.trod_bool Tryd.underlying4 h3
  have hc2 : Tryd.prog.cellsOf 23 = 2 := by kernel_rfl
  have hc1 : Tryd.prog.cellsOf 4 = 1 := by kernel_rfl
  have hc7 : Tryd.prog.cellsOf 57 = 7 := by kernel_rfl
  rw [hc7] at hl
  match s0, l0, s1, l1, s2, l2 with
  | [a0, a1], _, [a2, a3], _, [a4, a5], _ =>
    obtain ⟨L⟩ := cs
    match L, hl with
    | [x0, x1, x2, x3, x4, x5, x6], _ =>
      have e0 : [x0, x1] = [.int .i64 a0, .int .i64 a1] := by simpa [hc2, Value.cells, ints] using e0
      have e1 : [x2, x3] = [.int .i64 a2, .int .i64 a3] := by simpa [hc2, Value.cells, ints] using e1
      have e2 : [x4, x5] = [.int .i64 a4, .int .i64 a5] := by simpa [hc2, Value.cells, ints] using e2
      have e3 : [x6] = [.bool m] := by simpa [hc1, Value.cells] using e3
      cases e0; cases e1; cases e2; cases e3
      exact ⟨gi [a0, a1, a2, a3, a4, a5], m, rfl⟩
set_option maxRecDepth 100000 in
/-- A load, as an argument. -/
theorem open_tied {r : Reach} {b0 : Nat} {v : Value} {dd : DataW H} {p : List MemPlace} (hv : Value.okWide Tryd.prog w r b0 59 v) (h : DataW.Trod enc Tryd.prog w base spare held 59 v dd p) :
    ∃ (a : Nat → Option Addr) (l c : Nat → Nat) (u : Nat → Nat → Int), v = .agg (tieL a l c).toArray ∧ ∀ j, j < 3 → RdR w 1 (a j) (l j) (fun k => [.int .i64 (u j k)]) := by
  obtain ⟨cs, rfl, hlen⟩ := okWide_struct Tryd.underlying59 hv
  obtain ⟨fuel, hf⟩ := h
  have hc3 : Tryd.prog.cellsOf 59 = 3 := by kernel_rfl
  obtain ⟨a, l, c, u, e, hI⟩ := tied_of_trod (by rw [(trod_fields Tryd.underlying59 hf).1, hc3]) hf
  refine ⟨a, l, c, u, ?_, hI⟩
  rw [← e]
  simp [Value.cells]
end
set_option maxRecDepth 100000 in
theorem loadSides_door (os : Os) (args : Array Value) : laidMetH Tryd.prog Rows.loadSidesRow.laid ((World.doorLaid Tryd.prog 14 os).forCall (fun _ _ => 0) ⟨#[], args, []⟩).memory :=
  laidMetH_of_parts3 (fuel := 8) (laidMet_of_run' 8 (by kernel_rfl) (by kernel_rfl)) (by kernel_rfl) (by kernel_rfl)
set_option maxRecDepth 100000 in
theorem loadSides_lifted (os : Os) (started : os.Started) (H : Type) (enc : TypeId × Value → H) :
    ReturnsInHanded {} Tryd.checked os 5 .any (fun w args => (Rows.loadSidesSpec.pre enc Tryd.prog Tryd.f5 [] false w args ∧ laidMetH Tryd.prog Rows.loadSidesRow.laid w) ∧ sizedMet enc Tryd.prog Tryd.f5 (OpenSpec.ofChange Rows.loadSidesSpec) false w args) (Rows.loadSidesSpec.post enc Tryd.prog Tryd.f5 false true false false) := by
  refine returnsInHanded_of_change_and (C := Tryd.checked) (X := fun w _ => laidMetH Tryd.prog Rows.loadSidesRow.laid w) (fun _ _ _ hh h => h.of_heap hh) Tryd.own started (by kernel_rfl) Tryd.func5
    (ChangeSpec.witness_shaped (enc := enc) (C := Tryd.checked) (os := os) (X := fun w _ => laidMetH Tryd.prog Rows.loadSidesRow.laid w) false (World.doorLaid Tryd.prog 14 os) #[.agg #[.int .i64 0, .int .i64 0, .int .i64 0, .int .i64 0, .int .i64 0, .int .i64 0, .int .i64 0, .int .i64 0, .int .i64 0, .int .i64 0, .int .i64 0, .int .i64 0, .int .i64 0, .int .i64 0, .int .i64 0, .int .i64 0, .int .i64 0], .agg #[.int .i64 0, .int .i64 0, .int .i64 0, .int .i64 0, .int .i64 0, .int .i64 0, .bool false], .slice none 0 0, .agg #[.slice none 0 0, .slice none 0 0, .slice none 0 0], .int .i64 0] 8 rfl (World.shaped_of_RefB (by kernel_rfl) (by kernel_rfl)) (by kernel_rfl) (by kernel_rfl) (by kernel_rfl) (loadSides_door os _)) ?_
  intro W base args ds gs before hval0 hW _ _ hLd _
  have hval : ∀ (j : Nat) t v, Tryd.f5.params[j]? = some t → args[j]? = some v → Value.okWide Tryd.prog W .any base t v := hval0
  have hW' := hW
  obtain ⟨p, q, hA0, hV, rfl, hfz, hnd⟩ := hW
  have hA : DataW.TrodAll enc Tryd.prog W 0 (fun _ => true) true Tryd.f5.params.toList args.toList ds p := hA0
  have hA1 := hA
  rw [Tryd.params5] at hA hval
  obtain ⟨v0, v1, v2, v3, v4, d0, d1, d2, d3, d4, p0, p1, p2, p3, p4, rfl, rfl, rfl, h0, h1, h2, h3, h4⟩ := trodAll_five hA
  obtain ⟨rfl, rfl⟩ := trodVars_none hV
  have hG : None0 W := none0_of_laid hLd
  obtain ⟨f, rfl⟩ := open_breed (hval 0 55 v0 rfl rfl) h0
  obtain ⟨g, m, rfl⟩ := open_camel (hval 1 57 v1 rfl rfl) h1
  obtain ⟨A, np, cp, pk, rfl, hR⟩ := open_packs (hval 2 26 v2 rfl rfl) h2
  obtain ⟨a, l, c, u, rfl, hI⟩ := open_tied (hval 3 59 v3 rfl rfl) h3
  obtain ⟨bound, rfl, _⟩ := open_int Tryd.underlying3 (hval 4 3 v4 rfl rfl) h4
  clear hA0 hval0
  simp only [List.append_nil] at hW'
  refine (lawSides_any hG hR hI).mono ?_
  rintro e W' ⟨rfl, hb⟩
  exact ⟨_, rfl, law_post Tryd.laidOut rfl hW' hA1 (by kernel_rfl) (by kernel_rfl) Tryd.underlying4 rfl hb⟩
theorem loadSides_row : Rows.LoadSidesSaid :=
  OpenClaim.holds_of_wide 5 Tryd.f5 rfl rfl rfl rfl rfl rfl rfl ⟨rfl, rfl, rfl, rfl, rfl⟩ rfl rfl rfl rfl rfl (by kernel_rfl) Tryd.func5 (by kernel_rfl)
    (of_decide_eq_true (by kernel_rfl)) (by unfold Func.isWrapper; first | (rw [if_pos (by decide +kernel)]; kernel_rfl) | (rw [if_neg (by decide +kernel)]; exact ⟨rfl, rfl⟩))
    (fun os started H enc _ => loadSides_lifted os started H enc)
theorem loadSides_holds : Rows.LoadSidesCardSaid :=
  Claim7.holds_tied_plain_at .later [] [.data] true _ true
    loadSides_row (fun _ h => by cases h) (by kernel_rfl) (fun _ h => by cases h) loadSides_row_tie rfl ⟨rfl, rfl⟩ (by kernel_rfl) rfl
    (fun f fn hf hfn => by
      obtain rfl : f = 5 := Option.some.inj ((show Tryd.prog.funcNamed "azalai/azalailaw05.LoadSides" = some 5 by kernel_rfl).symm.trans hf) |>.symm
      obtain rfl : fn = Tryd.f5 := (Option.some.inj (Tryd.func5.symm.trans hfn)).symm
      exact ⟨by kernel_rfl, fun j t ht => by
        have hall : (Tryd.f5.params.toList.all fun u => !Tryd.prog.wantsStandIn u) = true := by kernel_rfl
        have hm : t ∈ Tryd.f5.params.toList := by simpa using Array.mem_of_getElem? ht
        exact (show Tryd.prog.wantsStandIn t = false by simpa using List.all_eq_true.1 hall t hm)⟩)
    (by kernel_rfl)
end Go.Proofs.YtagcnokaajinlaaDoor
