/-
  Arguments of layer 5's laws opened to rows; the variable load.none; what is common to all rows.
-/
import Derived.Test.YtagcnokaajinlaaDoorKt
import Derived.Test.YtagcnokaajinlaaDoorLoadJ
import Derived.Test.YtagcnokaajinlaaDoorRows
import Derived.LaidMore
import Derived.OpenShut
import Derived.Stop.Joined
namespace Go.Proofs.YtagcnokaajinlaaDoor
set_option linter.all false
set_option linter.unusedVariables false
set_option linter.unusedSimpArgs false
open Go.ChangeShapes Go.WideShapes Go.ChangeAt Go.RowKit Go.Deep
theorem Tryd.own : ownKnob Tryd.prog.godebug = none := by kernel_rfl
theorem Tryd.laidOut : laidOutB Tryd.prog = true := by kernel_rfl
section
variable {H : Type} {enc : TypeId × Value → H} {w : World} {base : Nat} {spare : Nat → Bool} {held : Bool}
theorem gNone : Tryd.prog.globalNamed "azalai/load.none" = some 0 := by kernel_rfl
theorem tNone : (Tryd.prog.globals[0]?).map (·.type) = some 23 := by kernel_rfl
set_option maxRecDepth 100000 in
theorem none0_of_laid {W : World} (h : laidMetH Tryd.prog [("azalai/load.none", Rows.laid_azalai_load_none)] W) : None0 W := by
  rw [MakeChecks.laidMetH_plain _ _ _ (by kernel_rfl)] at h
  obtain ⟨ps, ⟨g0, t0, cs0, f0, p0, q0, hg0, ht0, hv0, hd0, _⟩, _, _⟩ := h
  obtain rfl := Option.some.inj (gNone.symm.trans hg0)
  obtain rfl := Option.some.inj (tNone.symm.trans ht0)
  obtain ⟨ns, e1, e2⟩ := kindsF_spec 2 23 [.i64, .i64] (by kernel_rfl) _ _ _ hd0
  match ns, e2, e1 with
  | [x, y], _, e1 =>
    have e1 : cs0.toList = [.int .i64 x, .int .i64 y] := e1
    obtain ⟨y0, y1, n, hx, hl, h0, h1⟩ := trod_struct2 Tryd.underlying23 hd0
    rw [e1] at h0 h1
    obtain ⟨k0, i0, rfl, _⟩ := DataW.trod_int Tryd.underlying3 h0
    obtain ⟨k1, i1, rfl, _⟩ := DataW.trod_int Tryd.underlying3 h1
    have hc1 : Tryd.prog.cellsOf 3 = 1 := by kernel_rfl
    have j0 : [Value.int .i64 x] = [.int .i64 k0] := by simpa [hc1] using i0
    have j1 : [Value.int .i64 y] = [.int .i64 k1] := by simpa [hc1] using i1
    clear i0 i1
    simp only [Rows.laid_azalai_load_none, Prod.mk.injEq, DataW.agg.injEq, List.cons.injEq, DataW.lit.injEq, Lit.int.injEq, and_true, true_and, List.append_nil, Value.int.injEq] at hx j0 j1
    obtain ⟨⟨rfl, rfl⟩, _⟩ := hx
    subst j0 j1
    have hc := World.var?_cell hg0 hv0
    have e3 : cs0 = #[.int .i64 0, .int .i64 0] := by cases cs0; simpa using e1
    subst e3
    exact ⟨World.block_lt_of_cell? W ⟨0, 0, none⟩ (hc 0), fun j v hj => by rw [hc j]; simpa using hj⟩
set_option maxRecDepth 100000 in
/-- A load's cells. -/
theorem tied_of_trod {fuel : Nat} {G : List Value} {y : DataW H × List MemPlace} (hl3 : G.length = 3) (hy : DataW.trod enc Tryd.prog w base spare held fuel 59 G = some y) :
    ∃ (a : Nat → Option Addr) (l c : Nat → Nat) (u : Nat → Nat → Int), G = tieL a l c ∧ ∀ j, j < 3 → RdR w 1 (a j) (l j) (fun k => [.int .i64 (u j k)]) := by
  obtain ⟨hl, hf⟩ := trod_fields Tryd.underlying59 hy
  have h0 := hf 0 _ rfl
  have h1 := hf 1 _ rfl
  have h2 := hf 2 _ rfl
  obtain ⟨n0, y0, h0⟩ := h0
  obtain ⟨n1, y1, h1⟩ := h1
  obtain ⟨n2, y2, h2⟩ := h2
  obtain ⟨a0, l0, c0, u0, e0, r0, _⟩ := open_ints_in Tryd.underlying47 Tryd.underlying3 (by kernel_rfl) h0
  obtain ⟨a1, l1, c1, u1, e1, r1, _⟩ := open_ints_in Tryd.underlying47 Tryd.underlying3 (by kernel_rfl) h1
  obtain ⟨a2, l2, c2, u2, e2, r2, _⟩ := open_ints_in Tryd.underlying47 Tryd.underlying3 (by kernel_rfl) h2
  refine ⟨fun j => if j = 0 then a0 else if j = 1 then a1 else a2, fun j => if j = 0 then l0 else if j = 1 then l1 else l2, fun j => if j = 0 then c0 else if j = 1 then c1 else c2, fun j => if j = 0 then u0 else if j = 1 then u1 else u2, ?_, fun j hj => ?_⟩
  · match G, hl3 with
    | [x0, x1, x2], _ =>
      have hc1 : Tryd.prog.cellsOf 47 = 1 := by kernel_rfl
      have e0 : [x0] = [.slice a0 l0 c0] := by simpa [hc1] using e0
      have e1 : [x1] = [.slice a1 l1 c1] := by simpa [hc1] using e1
      have e2 : [x2] = [.slice a2 l2 c2] := by simpa [hc1] using e2
      cases e0; cases e1; cases e2
      rfl
  · have : j = 0 ∨ j = 1 ∨ j = 2 := by omega
    rcases this with rfl | rfl | rfl
    · exact r0
    · exact r1
    · exact r2
set_option maxRecDepth 100000 in
/-- Loads, as an argument. -/
theorem open_ties {r : Reach} {b0 : Nat} {v : Value} {dd : DataW H} {p : List MemPlace} (hv : Value.okWide Tryd.prog w r b0 27 v) (h : DataW.Trod enc Tryd.prog w base spare held 27 v dd p) :
    ∃ (A : Option Addr) (m cp : Nat) (a : Nat → Nat → Option Addr) (l c : Nat → Nat → Nat) (u : Nat → Nat → Nat → Int), v = .slice A m cp ∧ RdR w 3 A m (fun i => tieL (a i) (l i) (c i)) ∧ ∀ i, i < m → ∀ j, j < 3 → RdR w 1 (a i j) (l i j) (fun k => [.int .i64 (u i j k)]) := by
  obtain ⟨A0, n0, c0, rfl⟩ := okWide_slice Tryd.underlying27 hv
  obtain ⟨fuel, h⟩ := h
  obtain ⟨A, m, cp, G, e, hR, hel, _, _, _⟩ := open_slice_any (sz := 3) Tryd.underlying27 (by kernel_rfl) rfl h
  simp only [Value.cells, List.cons.injEq, Value.slice.injEq, and_true] at e
  obtain ⟨rfl, rfl, rfl⟩ := e
  have key : ∀ i, i < n0 → ∃ (a : Nat → Option Addr) (l c : Nat → Nat) (u : Nat → Nat → Int), G i = tieL a l c ∧ ∀ j, j < 3 → RdR w 1 (a j) (l j) (fun k => [.int .i64 (u j k)]) := fun i hi => by
    obtain ⟨n, y, hy⟩ := hel i hi
    exact tied_of_trod (hR.len i hi) hy
  have hch : ∀ i, ∃ (q : (Nat → Option Addr) × (Nat → Nat) × (Nat → Nat) × (Nat → Nat → Int)), i < n0 → G i = tieL q.1 q.2.1 q.2.2.1 ∧ ∀ j, j < 3 → RdR w 1 (q.1 j) (q.2.1 j) (fun k => [.int .i64 (q.2.2.2 j k)]) := fun i => by
    by_cases hi : i < n0
    · obtain ⟨a, l, c, u, h⟩ := key i hi
      exact ⟨(a, l, c, u), fun _ => h⟩
    · exact ⟨(fun _ => none, fun _ => 0, fun _ => 0, fun _ _ => 0), fun h => absurd h hi⟩
  obtain ⟨q, hq⟩ := Classical.axiomOfChoice hch
  refine ⟨_, _, _, fun i => (q i).1, fun i => (q i).2.1, fun i => (q i).2.2.1, fun i => (q i).2.2.2, rfl, ⟨hR.rd.congr fun i j hi hj => by simp only [rowF, (hq i hi).1], fun i _ => rfl⟩, fun i hi => (hq i hi).2⟩
set_option maxRecDepth 100000 in
/-- Packs, as an argument. -/
theorem open_packs {r : Reach} {b0 : Nat} {v : Value} {dd : DataW H} {p : List MemPlace} (hv : Value.okWide Tryd.prog w r b0 26 v) (h : DataW.Trod enc Tryd.prog w base spare held 26 v dd p) :
    ∃ (A : Option Addr) (n cp : Nat) (pk : Nat → Nat → Int), v = .slice A n cp ∧ RdR w 11 A n (fun k => packL (pk k)) := by
  obtain ⟨A, n, cp, g, rfl, hg, hR, _, _, _⟩ := open_rows 3 (.u8 :: List.replicate 10 .i64) Tryd.underlying26 (by kernel_rfl) (by kernel_rfl) rfl hv h
  exact ⟨A, n, cp, fun i => gi (g i), rfl, hR.rowK hg⟩
set_option maxRecDepth 100000 in
/-- Jolts, as an argument. -/
theorem open_jolts {r : Reach} {b0 : Nat} {v : Value} {dd : DataW H} {p : List MemPlace} (hv : Value.okWide Tryd.prog w r b0 28 v) (h : DataW.Trod enc Tryd.prog w base spare held 28 v dd p) :
    ∃ (A : Option Addr) (n cp : Nat) (jt : Nat → Nat → Int), v = .slice A n cp ∧ RdR w 2 A n (fun k => spL (jt k 0) (jt k 1)) := by
  obtain ⟨A, n, cp, g, rfl, hg, hR, _, _, _⟩ := open_rows 2 [.i64, .i64] Tryd.underlying28 (by kernel_rfl) (by kernel_rfl) rfl hv h
  exact ⟨A, n, cp, fun i => gi (g i), rfl, hR.rowK hg⟩
set_option maxRecDepth 100000 in
/-- A pack, as an argument. -/
theorem open_pack {r : Reach} {b0 : Nat} {v : Value} {dd : DataW H} {p : List MemPlace} (hv : Value.okWide Tryd.prog w r b0 25 v) (h : DataW.Trod enc Tryd.prog w base spare held 25 v dd p) :
    ∃ f : Nat → Int, v = .agg (packL f).toArray := by
  obtain ⟨ns, rfl, hn⟩ := open_flat 3 (ks := .u8 :: List.replicate 10 .i64) Tryd.underlying25 (by kernel_rfl) hv h
  exact ⟨gi ns, by rw [ints_rowK _ _ hn]; rfl⟩
end
end Go.Proofs.YtagcnokaajinlaaDoor
