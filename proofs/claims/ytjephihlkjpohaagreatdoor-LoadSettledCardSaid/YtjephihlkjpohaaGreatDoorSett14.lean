/-
  The statement LoadSettledCardSaid: for every input the law LoadSettled returns true, and its arguments read afterwards as before; load.none reads as the program's text lays it, by the tie that is given. No other condition.
-/
import Derived.Test.YtjephihlkjpohaaGreatDoorSett13
import Derived.Test.YtjephihlkjpohaaGreatDoorSett05
import Derived.Test.YtjephihlkjpohaaGreatDoorRows
import Derived.LaidMore
import Derived.OpenShut
import Derived.Stop.Joined
import Derived.Test.YtjephihlkjpohaaGreatDoorSett04
import Derived.Test.YtjephihlkjpohaaGreatDoorSett10
import Derived.Test.YtjephihlkjpohaaGreatDoorTie
import Derived.Test.YtjephihlkjpohaaGreatDoorCards
import Derived.SevenTiedAt
namespace Go.Proofs.YtjephihlkjpohaaGreatDoor
set_option linter.all false
set_option linter.unusedVariables false
set_option linter.unusedSimpArgs false
open Go.ChangeShapes Go.WideShapes Go.ChangeAt Go.RowKit Go.Deep
theorem Tryz.own : ownKnob Tryz.prog.godebug = none := by kernel_rfl
theorem Tryz.laidOut : laidOutB Tryz.prog = true := by kernel_rfl
section
variable {H : Type} {enc : TypeId × Value → H} {w : World} {base : Nat} {spare : Nat → Bool} {held : Bool}
theorem gNone : Tryz.prog.globalNamed "azalai/load.none" = some 0 := by kernel_rfl
theorem tNone : (Tryz.prog.globals[0]?).map (·.type) = some 43 := by kernel_rfl
set_option maxRecDepth 100000 in
theorem none0_of_laid {W : World} (h : laidMetH Tryz.prog [("azalai/load.none", Rows.laid_azalai_load_none)] W) : None0 W := by
  rw [MakeChecks.laidMetH_plain _ _ _ (by kernel_rfl)] at h
  obtain ⟨ps, ⟨g0, t0, cs0, f0, p0, q0, hg0, ht0, hv0, hd0, _⟩, _, _⟩ := h
  obtain rfl := Option.some.inj (gNone.symm.trans hg0)
  obtain rfl := Option.some.inj (tNone.symm.trans ht0)
  obtain ⟨ns, e1, e2⟩ := kindsF_spec 2 43 [.i64, .i64] (by kernel_rfl) _ _ _ hd0
  match ns, e2, e1 with
  | [x, y], _, e1 =>
    have e1 : cs0.toList = [.int .i64 x, .int .i64 y] := e1
    obtain ⟨y0, y1, n, hx, hl, h0, h1⟩ := trod_struct2 Tryz.underlying43 hd0
    rw [e1] at h0 h1
    obtain ⟨k0, i0, rfl, _⟩ := DataW.trod_int Tryz.underlying3 h0
    obtain ⟨k1, i1, rfl, _⟩ := DataW.trod_int Tryz.underlying3 h1
    have hc1 : Tryz.prog.cellsOf 3 = 1 := by kernel_rfl
    have j0 : [Value.int .i64 x] = [.int .i64 k0] := by simpa [hc1] using i0
    have j1 : [Value.int .i64 y] = [.int .i64 k1] := by simpa [hc1] using i1
    clear i0 i1
    simp only [Rows.laid_azalai_load_none, Prod.mk.injEq, DataW.agg.injEq, List.cons.injEq, DataW.lit.injEq, Lit.int.injEq, and_true, true_and, List.append_nil, Value.int.injEq] at hx j0 j1
    obtain ⟨⟨rfl, rfl⟩, _⟩ := hx
    subst j0 j1
    have hc := World.var?_cell hg0 hv0
    have e3 : cs0 = #[.int .i64 0, .int .i64 0] := by cases cs0; simpa using e1
    subst e3
    exact ⟨World.block_lt_of_cell? W ⟨0, 0, none⟩ (hc 0), fun j v hj => by rw [hc j]; simpa using hj⟩
set_option maxRecDepth 100000 in
theorem tied_of_trod {fuel : Nat} {G : List Value} {y : DataW H × List MemPlace} (hl3 : G.length = 3) (hy : DataW.trod enc Tryz.prog w base spare held fuel 36 G = some y) :
    ∃ (a : Nat → Option Addr) (l c : Nat → Nat) (u : Nat → Nat → Int), G = tieL a l c ∧ ∀ j, j < 3 → RdR w 1 (a j) (l j) (fun k => [.int .i64 (u j k)]) := by
  obtain ⟨hl, hf⟩ := trod_fields Tryz.underlying36 hy
  have h0 := hf 0 _ rfl
  have h1 := hf 1 _ rfl
  have h2 := hf 2 _ rfl
  obtain ⟨n0, y0, h0⟩ := h0
  obtain ⟨n1, y1, h1⟩ := h1
  obtain ⟨n2, y2, h2⟩ := h2
  obtain ⟨a0, l0, c0, u0, e0, r0, _⟩ := open_ints_in Tryz.underlying24 Tryz.underlying3 (by kernel_rfl) h0
  obtain ⟨a1, l1, c1, u1, e1, r1, _⟩ := open_ints_in Tryz.underlying24 Tryz.underlying3 (by kernel_rfl) h1
  obtain ⟨a2, l2, c2, u2, e2, r2, _⟩ := open_ints_in Tryz.underlying24 Tryz.underlying3 (by kernel_rfl) h2
  refine ⟨fun j => if j = 0 then a0 else if j = 1 then a1 else a2, fun j => if j = 0 then l0 else if j = 1 then l1 else l2, fun j => if j = 0 then c0 else if j = 1 then c1 else c2, fun j => if j = 0 then u0 else if j = 1 then u1 else u2, ?_, fun j hj => ?_⟩
  · match G, hl3 with
    | [x0, x1, x2], _ =>
      have hc1 : Tryz.prog.cellsOf 24 = 1 := by kernel_rfl
      have e0 : [x0] = [.slice a0 l0 c0] := by simpa [hc1] using e0
      have e1 : [x1] = [.slice a1 l1 c1] := by simpa [hc1] using e1
      have e2 : [x2] = [.slice a2 l2 c2] := by simpa [hc1] using e2
      cases e0; cases e1; cases e2
      rfl
  · have : j = 0 ∨ j = 1 ∨ j = 2 := by omega
    rcases this with rfl | rfl | rfl
    · exact r0
    · exact r1
    · exact r2
set_option maxRecDepth 100000 in
theorem open_packs {r : Reach} {b0 : Nat} {v : Value} {dd : DataW H} {p : List MemPlace} (hv : Value.okWide Tryz.prog w r b0 22 v) (h : DataW.Trod enc Tryz.prog w base spare held 22 v dd p) :
    ∃ (A : Option Addr) (n cp : Nat) (pk : Nat → Nat → Int), v = .slice A n cp ∧ RdR w 11 A n (fun k => packL (pk k)) := by
  obtain ⟨A, n, cp, g, rfl, hg, hR, _, _, _⟩ := open_rows 3 (.u8 :: List.replicate 10 .i64) Tryz.underlying22 (by kernel_rfl) (by kernel_rfl) rfl hv h
  exact ⟨A, n, cp, fun i => gi (g i), rfl, hR.rowK hg⟩
end
end Go.Proofs.YtjephihlkjpohaaGreatDoor
namespace Go.Proofs.YtjephihlkjpohaaGreatDoor
set_option linter.all false
set_option linter.unusedVariables false
set_option linter.unusedSimpArgs false
open Go.ChangeShapes Go.WideShapes Go.ChangeAt Go.RowKit Go.Deep
section
variable {H : Type} {enc : TypeId × Value → H} {w : World} {base : Nat} {spare : Nat → Bool} {held : Bool}
theorem wf_in {k : IntKind} {n : Int} (h : (Lit.int k n).wf = true) : k.min ≤ n ∧ n ≤ k.max := by simpa [Lit.wf] using h
theorem u16_in {n : Int} (h : (Lit.int .u16 n).wf = true) : 0 ≤ n ∧ n ≤ 65535 := wf_in h
theorem trod_int {P : Program} {n : Nat} {t : TypeId} {k : IntKind} {cs : List Value} {y : DataW H × List MemPlace} (ht : P.underlying t = some (.int k)) (h : DataW.trod enc P w base spare held n t cs = some y) : ∃ x : Int, cs = [.int k x] ∧ k.min ≤ x ∧ x ≤ k.max := by
  cases n with
  | zero => cases h
  | succ n =>
    unfold DataW.trod at h
    rw [ht] at h
    split at h <;> first | (rename_i e _; cases e; done) | skip
    all_goals first | (rename_i k1 k2 x e; cases e; split at h; (rename_i hx; obtain ⟨rfl, hw⟩ := hx; simp only [Lit.wf, Bool.and_eq_true, decide_eq_true_eq] at hw; exact ⟨x, rfl, hw.1, hw.2⟩); cases h) | (cases h; done) | (rename_i e; cases e; done) | (rename_i e _ _; cases e; done) | (rename_i e _ _ _; cases e; done)
end
end Go.Proofs.YtjephihlkjpohaaGreatDoor
namespace Go.Proofs.YtjephihlkjpohaaGreatDoor
set_option linter.all false
set_option linter.unusedVariables false
set_option linter.unusedSimpArgs false
open Go.ChangeShapes Go.WideShapes Go.ChangeAt Go.RowKit Go.Deep
section
variable {H : Type} {enc : TypeId × Value → H} {w : World} {base : Nat} {spare : Nat → Bool} {held : Bool}
set_option maxRecDepth 100000 in
theorem open_tied {r : Reach} {b0 : Nat} {v : Value} {dd : DataW H} {p : List MemPlace} (hv : Value.okWide Tryz.prog w r b0 36 v) (h : DataW.Trod enc Tryz.prog w base spare held 36 v dd p) :
    ∃ (a : Nat → Option Addr) (l c : Nat → Nat) (u : Nat → Nat → Int), v = .agg (tieL a l c).toArray ∧ ∀ j, j < 3 → RdR w 1 (a j) (l j) (fun k => [.int .i64 (u j k)]) := by
  obtain ⟨cs, rfl, hlen⟩ := okWide_struct Tryz.underlying36 hv
  obtain ⟨fuel, hf⟩ := h
  have hc3 : Tryz.prog.cellsOf 36 = 3 := by kernel_rfl
  obtain ⟨a, l, c, u, e, hI⟩ := tied_of_trod (by rw [(trod_fields Tryz.underlying36 hf).1, hc3]) hf
  refine ⟨a, l, c, u, ?_, hI⟩
  rw [← e]
  simp [Value.cells]
end
end Go.Proofs.YtjephihlkjpohaaGreatDoor
namespace Go.Proofs.YtjephihlkjpohaaGreatDoor
set_option linter.all false
set_option linter.unusedVariables false
set_option linter.unusedSimpArgs false
open Go.ChangeShapes Go.WideShapes Go.ChangeAt Go.RowKit Go.Deep
set_option maxRecDepth 100000 in
theorem loadSettled_door (os : Os) (args : Array Value) : laidMetH Tryz.prog Rows.loadSettledRow.laid ((World.doorLaid Tryz.prog 14 os).forCall (fun _ _ => 0) ⟨#[], args, []⟩).memory :=
  laidMetH_of_parts3 (fuel := 8) (laidMet_of_run' 8 (by kernel_rfl) (by kernel_rfl)) (by kernel_rfl) (by kernel_rfl)
set_option maxRecDepth 100000 in
theorem loadSettled_lifted (os : Os) (started : os.Started) (H : Type) (enc : TypeId × Value → H) :
    ReturnsInHanded {} Tryz.checked os 5 .any (fun w args => (Rows.loadSettledSpec.pre enc Tryz.prog Tryz.f5 [] false w args ∧ laidMetH Tryz.prog Rows.loadSettledRow.laid w) ∧ sizedMet enc Tryz.prog Tryz.f5 (OpenSpec.ofChange Rows.loadSettledSpec) false w args) (Rows.loadSettledSpec.post enc Tryz.prog Tryz.f5 false true false false) := by
  refine returnsInHanded_of_change_and (C := Tryz.checked) (X := fun w _ => laidMetH Tryz.prog Rows.loadSettledRow.laid w) (fun _ _ _ hh h => h.of_heap hh) Tryz.own started (by kernel_rfl) Tryz.func5
    (ChangeSpec.witness_shaped (enc := enc) (C := Tryz.checked) (os := os) (X := fun w _ => laidMetH Tryz.prog Rows.loadSettledRow.laid w) false (World.doorLaid Tryz.prog 14 os) #[.slice none 0 0, .agg #[.slice none 0 0, .slice none 0 0, .slice none 0 0], .int .i64 0, .int .u16 0] 8 rfl (World.shaped_of_RefB (by kernel_rfl) (by kernel_rfl)) (by kernel_rfl) (by kernel_rfl) (by kernel_rfl) (loadSettled_door os _)) ?_
  intro W base args ds gs before hval0 hW _ _ hLd _
  have hval : ∀ (j : Nat) t v, Tryz.f5.params[j]? = some t → args[j]? = some v → Value.okWide Tryz.prog W .any base t v := hval0
  have hW' := hW
  obtain ⟨p, q, hA0, hV, rfl, hfz, hnd⟩ := hW
  have hA : DataW.TrodAll enc Tryz.prog W 0 (fun _ => true) true Tryz.f5.params.toList args.toList ds p := hA0
  have hA1 := hA
  rw [Tryz.params5] at hA hval
  obtain ⟨v0, v1, v2, v3, d0, d1, d2, d3, p0, p1, p2, p3, rfl, rfl, rfl, h0, h1, h2, h3⟩ := trodAll_four hA
  obtain ⟨rfl, rfl⟩ := trodVars_none hV
  have hG : None0 W := none0_of_laid hLd
  obtain ⟨A, np, cp, pk, rfl, hR⟩ := open_packs (hval 0 22 v0 rfl rfl) h0
  obtain ⟨a, l, c, v, rfl, hI⟩ := open_tied (hval 1 36 v1 rfl rfl) h1
  obtain ⟨b, rfl, _⟩ := open_int Tryz.underlying3 (hval 2 3 v2 rfl rfl) h2
  obtain ⟨s, rfl, _, _, hs⟩ := open_int Tryz.underlying57 (hval 3 57 v3 rfl rfl) h3
  obtain ⟨s1, s2⟩ := u16_in hs
  obtain ⟨s, rfl⟩ : ∃ q : Nat, s = (q : Int) := ⟨s.toNat, by omega⟩
  clear hA0 hval0
  simp only [List.append_nil] at hW'
  refine (lawSettled_any hG hR hI (by omega)).mono ?_
  rintro e W' ⟨rfl, hb⟩
  exact ⟨_, rfl, law_post Tryz.laidOut rfl hW' hA1 (by kernel_rfl) (by kernel_rfl) Tryz.underlying4 rfl hb⟩
theorem loadSettled_row : Rows.LoadSettledSaid :=
  OpenClaim.holds_of_wide 5 Tryz.f5 rfl rfl rfl rfl rfl rfl rfl ⟨rfl, rfl, rfl, rfl, rfl⟩ rfl rfl rfl rfl rfl (by kernel_rfl) Tryz.func5 (by kernel_rfl)
    (of_decide_eq_true (by kernel_rfl)) (by unfold Func.isWrapper; first | (rw [if_pos (by decide +kernel)]; kernel_rfl) | (rw [if_neg (by decide +kernel)]; exact ⟨rfl, rfl⟩))
    (fun os started H enc _ => loadSettled_lifted os started H enc)
theorem loadSettled_holds : Rows.LoadSettledCardSaid :=
  Claim7.holds_tied_plain_at .later [] [.data] true _ true
    loadSettled_row (fun _ h => by cases h) (by kernel_rfl) (fun _ h => by cases h) loadSettled_row_tie rfl ⟨rfl, rfl⟩ (by kernel_rfl) rfl
    (fun f fn hf hfn => by
      obtain rfl : f = 5 := Option.some.inj ((show Tryz.prog.funcNamed "azalai/azalailaw05.LoadSettled" = some 5 by kernel_rfl).symm.trans hf) |>.symm
      obtain rfl : fn = Tryz.f5 := (Option.some.inj (Tryz.func5.symm.trans hfn)).symm
      exact ⟨by kernel_rfl, fun j t ht => by
        have hall : (Tryz.f5.params.toList.all fun u => !Tryz.prog.wantsStandIn u) = true := by kernel_rfl
        have hm : t ∈ Tryz.f5.params.toList := by simpa using Array.mem_of_getElem? ht
        exact (show Tryz.prog.wantsStandIn t = false by simpa using List.all_eq_true.1 hall t hm)⟩)
    (by kernel_rfl)
end Go.Proofs.YtjephihlkjpohaaGreatDoor
