/-
  The statement TollHoldersSaid: for every input the law TollHolders returns true, and its arguments read afterwards as before. No condition.
-/
import Derived.Test.YtckiagbllkdfdaaTollO
import Derived.Test.YtckiagbllkdfdaaKt
import Derived.Test.YtckiagbllkdfdaaRows
import Derived.OpenShut
namespace Go.Proofs.Ytckiagbllkdfdaa
set_option linter.all false
set_option linter.unusedVariables false
set_option linter.unusedSimpArgs false
open Go.ChangeShapes Go.WideShapes Go.ChangeAt Go.RowKit Go.Deep
theorem Try.own : ownKnob Try.prog.godebug = none := by kernel_rfl
theorem Try.laidOut : laidOutB Try.prog = true := by kernel_rfl
section
variable {H : Type} {enc : TypeId × Value → H} {w : World} {base : Nat} {spare : Nat → Bool} {held : Bool}
set_option maxRecDepth 100000 in
/-- A leg's cells. -/
theorem leg_of_trod {fuel : Nat} {G : List Value} {y : DataW H × List MemPlace} (hl : G.length = 5) (hy : DataW.trod enc Try.prog w base spare held fuel 58 G = some y) :
    ∃ (x : Leg) (g : Nat → Nat → Int), G = legL x ∧ RdR w 4 x.A x.n (fun j => gateL (g j)) := by
  obtain ⟨_, hf⟩ := trod_fields Try.underlying58 hy
  obtain ⟨n0, y0, h0⟩ := hf 0 _ rfl
  obtain ⟨n1, y1, h1⟩ := hf 1 _ rfl
  obtain ⟨n2, y2, h2⟩ := hf 2 _ rfl
  obtain ⟨n3, y3, h3⟩ := hf 3 _ rfl
  obtain ⟨k0, e0, _, _⟩ := DataW.trod_int Try.underlying3 h0
  obtain ⟨k1, e1, _, _⟩ := DataW.trod_int Try.underlying3 h1
  obtain ⟨s2, e2, l2⟩ := kindsF_spec 2 56 [.i64, .i64] (by kernel_rfl) _ _ _ h2
  obtain ⟨A, n, c, gg, e3, hg, hR, _⟩ := open_flat_slice (ks := [.i64, .i64, .i64, .i64]) 3 Try.underlying54 (by kernel_rfl) (by kernel_rfl) rfl h3
  have hc1 : Try.prog.cellsOf 3 = 1 := by kernel_rfl
  have hc2 : Try.prog.cellsOf 56 = 2 := by kernel_rfl
  have hc3 : Try.prog.cellsOf 54 = 1 := by kernel_rfl
  match s2, l2 with
  | [a0, a1], _ =>
    match G, hl with
    | [x0, x1, x2, x3, x4], _ =>
      have e0 : [x0] = [.int .i64 k0] := by simpa [hc1] using e0
      have e1 : [x1] = [.int .i64 k1] := by simpa [hc1] using e1
      have e2 : [x2, x3] = [.int .i64 a0, .int .i64 a1] := by simpa [hc2, ints] using e2
      have e3 : [x4] = [.slice A n c] := by simpa [hc3] using e3
      cases e0; cases e1; cases e2; cases e3
      exact ⟨⟨gi [k0, k1, a0, a1], A, n, c⟩, fun j => gi (gg j), rfl, hR.rowK hg⟩
set_option maxRecDepth 100000 in
/-- A claim's cells. -/
theorem claim_of_trod {fuel : Nat} {G : List Value} {y : DataW H × List MemPlace} (hl : G.length = 7) (hy : DataW.trod enc Try.prog w base spare held fuel 62 G = some y) :
    ∃ x : (Nat → Int) × Bool, G = claimL x := by
  obtain ⟨_, hf⟩ := trod_fields Try.underlying62 hy
  obtain ⟨n0, y0, h0⟩ := hf 0 _ rfl
  obtain ⟨n1, y1, h1⟩ := hf 1 _ rfl
  obtain ⟨n2, y2, h2⟩ := hf 2 _ rfl
  obtain ⟨n3, y3, h3⟩ := hf 3 _ rfl
  obtain ⟨n4, y4, h4⟩ := hf 4 _ rfl
  obtain ⟨n5, y5, h5⟩ := hf 5 _ rfl
  obtain ⟨n6, y6, h6⟩ := hf 6 _ rfl
  obtain ⟨k0, e0, _, _⟩ := DataW.trod_int Try.underlying3 h0
  obtain ⟨k1, e1, _, _⟩ := DataW.trod_int Try.underlying3 h1
  obtain ⟨k2, e2, _, _⟩ := DataW.trod_int Try.underlying3 h2
  obtain ⟨k3, e3, _, _⟩ := DataW.trod_int Try.underlying3 h3
  obtain ⟨k4, e4, _, _⟩ := DataW.trod_int Try.underlying3 h4
  obtain ⟨k5, e5, _, _⟩ := DataW.trod_int Try.underlying3 h5
  obtain ⟨m, e6, _⟩ := DataW.trod_bool Try.underlying4 h6
  have hc1 : Try.prog.cellsOf 3 = 1 := by kernel_rfl
  have hc2 : Try.prog.cellsOf 4 = 1 := by kernel_rfl
  match G, hl with
  | [x0, x1, x2, x3, x4, x5, x6], _ =>
    have e0 : [x0] = [.int .i64 k0] := by simpa [hc1] using e0
    have e1 : [x1] = [.int .i64 k1] := by simpa [hc1] using e1
    have e2 : [x2] = [.int .i64 k2] := by simpa [hc1] using e2
    have e3 : [x3] = [.int .i64 k3] := by simpa [hc1] using e3
    have e4 : [x4] = [.int .i64 k4] := by simpa [hc1] using e4
    have e5 : [x5] = [.int .i64 k5] := by simpa [hc1] using e5
    have e6 : [x6] = [.bool m] := by simpa [hc2] using e6
    cases e0; cases e1; cases e2; cases e3; cases e4; cases e5; cases e6
    exact ⟨(gi [k0, k1, k2, k3, k4, k5], m), rfl⟩
/-- Rows that are all of a form. -/
theorem rows_choose {α : Type} {n sz : Nat} {A : Option Addr} {G : Nat → List Value} {F : α → List Value} {q : Nat → α → Prop} (d : α) (hR : RdR w sz A n G) (h : ∀ i, i < n → ∃ x, G i = F x ∧ q i x) : ∃ r : Nat → α, RdR w sz A n (fun i => F (r i)) ∧ ∀ i, i < n → q i (r i) := by
  have hch : ∀ i, ∃ x, i < n → G i = F x ∧ q i x := fun i => by
    by_cases hi : i < n
    · obtain ⟨x, hx⟩ := h i hi
      exact ⟨x, fun _ => hx⟩
    · exact ⟨d, fun h => absurd h hi⟩
  obtain ⟨r, hr⟩ := Classical.axiomOfChoice hch
  exact ⟨r, ⟨hR.rd.congr fun i j hi hj => by simp only [rowF, (hr i hi).1], fun i hi => by rw [← (hr i hi).1]; exact hR.len i hi⟩, fun i hi => (hr i hi).2⟩
set_option maxRecDepth 100000 in
/-- A land, as an argument. -/
theorem open_land {r : Reach} {b0 : Nat} {v : Value} {dd : DataW H} {p : List MemPlace} (hv : Value.okWide Try.prog w r b0 25 v) (h : DataW.Trod enc Try.prog w base spare held 25 v dd p) :
    ∃ (W A : Option Addr) (nw cw nl cl : Nat) (f : Nat → Nat → Int) (x : Nat → Leg) (g : Nat → Nat → Nat → Int), v = .agg (landL W nw cw A nl cl).toArray ∧ RdR w 9 W nw (fun k => wellL (f k)) ∧ RdR w 5 A nl (fun k => legL (x k)) ∧ ∀ k, k < nl → RdR w 4 (x k).A (x k).n (fun j => gateL (g k j)) := by
  obtain ⟨cs, rfl, hlen⟩ := okWide_struct Try.underlying25 hv
  obtain ⟨fuel, hf⟩ := h
  obtain ⟨hl, hfs⟩ := trod_fields Try.underlying25 hf
  obtain ⟨n0, y0, h0⟩ := hfs 0 _ rfl
  obtain ⟨n1, y1, h1⟩ := hfs 1 _ rfl
  obtain ⟨W, nw, cw, gg, e0, hg, hR0, _⟩ := open_flat_slice (ks := List.replicate 9 .i64) 3 Try.underlying22 (by kernel_rfl) (by kernel_rfl) rfl h0
  obtain ⟨A, nl, cl, G, e1, hR1, hel, _⟩ := open_slice_any (sz := 5) Try.underlying23 (by kernel_rfl) rfl h1
  obtain ⟨x, hx, hq⟩ := rows_choose (F := fun q : Leg × (Nat → Nat → Int) => legL q.1) (q := fun _ q => RdR w 4 q.1.A q.1.n (fun j => gateL (q.2 j))) (⟨fun _ => 0, none, 0, 0⟩, fun _ _ => 0) hR1 fun i hi => by
    obtain ⟨n, y, hy⟩ := hel i hi
    obtain ⟨x, g, e, hr⟩ := leg_of_trod (hR1.len i hi) hy
    exact ⟨(x, g), e, hr⟩
  have hc2 : Try.prog.cellsOf 25 = 2 := by kernel_rfl
  have hcw : Try.prog.cellsOf 22 = 1 := by kernel_rfl
  have hcl : Try.prog.cellsOf 23 = 1 := by kernel_rfl
  rw [hc2] at hl
  obtain ⟨L⟩ := cs
  match L, hl with
  | [x0, x1], _ =>
    have e0 : [x0] = [.slice W nw cw] := by simpa [hcw, Value.cells] using e0
    have e1 : [x1] = [.slice A nl cl] := by simpa [hcl, Value.cells] using e1
    cases e0; cases e1
    exact ⟨W, A, nw, cw, nl, cl, fun k => gi (gg k), fun k => (x k).1, fun k => (x k).2, rfl, hR0.rowK hg, hx, hq⟩
set_option maxRecDepth 100000 in
/-- Customs, as an argument. -/
theorem open_custom {r : Reach} {b0 : Nat} {v : Value} {dd : DataW H} {p : List MemPlace} (hv : Value.okWide Try.prog w r b0 30 v) (h : DataW.Trod enc Try.prog w base spare held 30 v dd p) :
    ∃ (C D B : Option Addr) (nc cc nd cd nb cb : Nat) (c : Nat → (Nat → Int) × Bool) (d b : Nat → Nat → Int), v = .agg (custL C nc cc D nd cd B nb cb).toArray ∧ RdR w 7 C nc (fun k => claimL (c k)) ∧ RdR w 4 D nd (fun k => feudL (d k)) ∧ RdR w 3 B nb (fun k => borderL (b k)) := by
  obtain ⟨cs, rfl, hlen⟩ := okWide_struct Try.underlying30 hv
  obtain ⟨fuel, hf⟩ := h
  obtain ⟨hl, hfs⟩ := trod_fields Try.underlying30 hf
  obtain ⟨n0, y0, h0⟩ := hfs 0 _ rfl
  obtain ⟨n1, y1, h1⟩ := hfs 1 _ rfl
  obtain ⟨n2, y2, h2⟩ := hfs 2 _ rfl
  obtain ⟨C, nc, cc, G, e0, hR0, hel, _⟩ := open_slice_any (sz := 7) Try.underlying26 (by kernel_rfl) rfl h0
  obtain ⟨D, nd, cd, gd, e1, hgd, hR1, _⟩ := open_flat_slice (ks := List.replicate 4 .i64) 3 Try.underlying27 (by kernel_rfl) (by kernel_rfl) rfl h1
  obtain ⟨B, nb, cb, gb, e2, hgb, hR2, _⟩ := open_flat_slice (ks := List.replicate 3 .i64) 3 Try.underlying28 (by kernel_rfl) (by kernel_rfl) rfl h2
  obtain ⟨c, hc, _⟩ := rows_choose (F := claimL) (q := fun _ _ => True) (fun _ => 0, false) hR0 fun i hi => by
    obtain ⟨n, y, hy⟩ := hel i hi
    obtain ⟨x, e⟩ := claim_of_trod (hR0.len i hi) hy
    exact ⟨x, e, trivial⟩
  have hc3 : Try.prog.cellsOf 30 = 3 := by kernel_rfl
  have hk1 : Try.prog.cellsOf 26 = 1 := by kernel_rfl
  have hk2 : Try.prog.cellsOf 27 = 1 := by kernel_rfl
  have hk3 : Try.prog.cellsOf 28 = 1 := by kernel_rfl
  rw [hc3] at hl
  obtain ⟨L⟩ := cs
  match L, hl with
  | [x0, x1, x2], _ =>
    have e0 : [x0] = [.slice C nc cc] := by simpa [hk1, Value.cells] using e0
    have e1 : [x1] = [.slice D nd cd] := by simpa [hk2, Value.cells] using e1
    have e2 : [x2] = [.slice B nb cb] := by simpa [hk3, Value.cells] using e2
    cases e0; cases e1; cases e2
    exact ⟨C, D, B, nc, cc, nd, cd, nb, cb, c, fun k => gi (gd k), fun k => gi (gb k), rfl, hc, hR1.rowK hgd, hR2.rowK hgb⟩
end
set_option maxRecDepth 100000 in
theorem tollHolders_lifted (os : Os) (started : os.Started) (H : Type) (enc : TypeId × Value → H) :
    ReturnsInHanded {} Try.checked os 3 .any (Rows.tollHoldersSpec.pre6 enc Try.prog Try.f3 Rows.tollHoldersRow.domain false) (Rows.tollHoldersSpec.post enc Try.prog Try.f3 false true false false) := by
  refine returnsInHanded_of_change (C := Try.checked) Try.own started (by kernel_rfl) Try.func3
    (ChangeSpec.witness6 (enc := enc) (C := Try.checked) false ⟨#[], #[.agg #[.slice none 0 0, .slice none 0 0], .agg #[.slice none 0 0, .slice none 0 0, .slice none 0 0], .int .i64 0, .int .i64 0], []⟩ 8 (by kernel_rfl) (by kernel_rfl) (by kernel_rfl) (by kernel_rfl)) ?_
  intro W base args ds gs before hval0 hW hcnd _
  have hval : ∀ (j : Nat) t v, Try.f3.params[j]? = some t → args[j]? = some v → Value.okWide Try.prog W .any base t v := hval0
  have hW' := hW
  obtain ⟨p, q, hA0, hV, rfl, hfz, hnd⟩ := hW
  have hA : DataW.TrodAll enc Try.prog W 0 (fun _ => true) true Try.f3.params.toList args.toList ds p := hA0
  have hA1 := hA
  rw [Try.params3] at hA hval
  obtain ⟨v0, v1, v2, v3, d0, d1, d2, d3, p0, p1, p2, p3, rfl, rfl, rfl, h0, h1, h2, h3⟩ := trodAll_four hA
  obtain ⟨rfl, rfl⟩ := trodVars_none hV
  obtain ⟨Wl, A, nw, cw, nl, cl, f, x, g, rfl, hRW, hRA, hRG⟩ := open_land (hval 0 25 v0 rfl rfl) h0
  obtain ⟨C, D, B, nc, cc, nd, cd, nb, cb, c, d, b, rfl, hRC, hRD, hRB⟩ := open_custom (hval 1 30 v1 rfl rfl) h1
  obtain ⟨leg, rfl⟩ := okWide_int Try.underlying3 (hval 2 3 v2 rfl rfl)
  obtain ⟨day, rfl⟩ := okWide_int Try.underlying3 (hval 3 3 v3 rfl rfl)
  clear hA0 hval0
  simp only [List.append_nil] at hW'
  refine (lawHolders_any leg day hRW hRA hRG hRC hRD hRB).mono ?_
  rintro e W' ⟨rfl, hb⟩
  exact ⟨_, rfl, law_post Try.laidOut rfl hW' hA1 (by kernel_rfl) (by kernel_rfl) Try.underlying4 rfl hb⟩
theorem tollHolders_holds : Rows.TollHoldersSaid :=
  OpenClaim.holds_of_wide 3 Try.f3 rfl rfl rfl rfl rfl rfl rfl ⟨rfl, rfl, rfl, rfl, rfl⟩ rfl rfl rfl rfl rfl (by kernel_rfl) Try.func3 (by kernel_rfl)
    (of_decide_eq_true (by kernel_rfl)) (by unfold Func.isWrapper; first | (rw [if_pos (by decide +kernel)]; kernel_rfl) | (rw [if_neg (by decide +kernel)]; exact ⟨rfl, rfl⟩))
    (fun os started H enc _ => tollHolders_lifted os started H enc)
end Go.Proofs.Ytckiagbllkdfdaa
