/-
  The statement LoadMostCardSaid: for every input the law LoadMost returns true, and its arguments read afterwards as before; load.none reads as the program's text lays it, by the tie that is given. No other condition.
-/
import Derived.Test.YtljhdcclajikiaaGreatDoorMost13
import Derived.Test.YtljhdcclajikiaaGreatDoorMost05
import Derived.Test.YtljhdcclajikiaaGreatDoorRows
import Derived.LaidMore
import Derived.OpenShut
import Derived.Stop.Joined
import Derived.Test.YtljhdcclajikiaaGreatDoorMost04
import Derived.Test.YtljhdcclajikiaaGreatDoorTie
import Derived.Test.YtljhdcclajikiaaGreatDoorCards
import Derived.SevenTiedAt
namespace Go.Proofs.YtljhdcclajikiaaGreatDoor
set_option linter.all false
set_option linter.unusedVariables false
set_option linter.unusedSimpArgs false
open Go.ChangeShapes Go.WideShapes Go.RowKit Go.Deep
section
variable {H : Type} {enc : TypeId × Value → H} {P : Program} {w : World} {base : Nat} {spare : Nat → Bool} {held : Bool}
theorem open_slice_any {t e : TypeId} {fuel : Nat} {cs : List Value} {x : DataW H × List MemPlace} {sz : Nat} (ht : P.underlying t = some (.slice e)) (hC : P.cellsOf e = sz) (h0 : Nat.blt 0 sz = true) (h : DataW.trod enc P w base spare held fuel t cs = some x) :
    ∃ (A : Option Addr) (len cap : Nat) (G : Nat → List Value), cs = [.slice A len cap] ∧ RdR w sz A len G ∧ (∀ i, i < len → ∃ n y, DataW.trod enc P w base spare held n e (G i) = some y) ∧ (A = none → len = 0 ∧ cap = 0) ∧ len ≤ cap ∧ cap ≤ maxLen := by
  have h0 : 0 < sz := Nat.le_of_ble_eq_true h0
  rcases open_slice ht h with ⟨rfl, rfl⟩ | ⟨a, len, cap, m, n, D, Pl, rfl, hb, hl, hm, hmm, _, hi⟩
  · exact ⟨none, 0, 0, fun _ => [], rfl, ⟨Rd.nil, fun i hi => by omega⟩, fun i hi => by omega, fun _ => ⟨rfl, rfl⟩, Nat.le_refl _, Nat.zero_le _⟩
  · have hlm : len ≤ m := by rw [hmm]; split <;> omega
    have key : ∀ i, i < len → ∃ cs' : List Value, cs'.length = sz ∧ (∀ j, j < sz → w.cell? (a.add (i * sz + j)) = cs'[j]?) ∧ ∃ n y, DataW.trod enc P w base spare held n e cs' = some y := fun i hil => by
      obtain ⟨cs', hc, hx⟩ := hi i (by omega)
      obtain ⟨_, hcl, hat⟩ := World.cells?_some hc
      refine ⟨cs', by rw [hcl, hC], fun j hj => ?_, n, _, hx⟩
      have := hat j (by rw [hC]; exact hj)
      rw [hC] at this
      rw [← this, ← add_add]
    refine ⟨some a, len, cap, fun i => if hi : i < len then (key i hi).choose else [], rfl, ⟨fun hn => ?_, fun i hi => ?_⟩, fun i hi => ?_, fun h => (by cases h), hl, hm⟩
    · have h1 := (key 0 hn).choose_spec.2.1 0 h0
      have hsome : ((key 0 hn).choose)[0]? = some ((key 0 hn).choose[0]'(by rw [(key 0 hn).choose_spec.1]; exact h0)) := List.getElem?_eq_getElem _
      rw [hsome] at h1
      have hadd : a.add (0 * sz + 0) = a := by simp [Addr.add]
      rw [hadd] at h1
      have hsp : a.spot = none := by
        unfold World.cell? at h1
        split at h1
        · cases hs : a.spot with
          | none => rfl
          | some s => simp [hs] at h1
        · cases h1
      have hlt : a.block < w.heap.size := World.block_lt_of_cell? w a h1
      obtain ⟨b, o, s⟩ := a
      simp only at hsp
      subst hsp
      refine ⟨b, o, rfl, hlt, fun i j hi hj => ?_⟩
      have h2 := (key i hi).choose_spec.2.1 j hj
      rw [add_plain] at h2
      rw [show o + i * sz + j = o + (i * sz + j) by omega, h2]
      simp only [rowF, hi, dite_true]
      have hl2 : j < (key i hi).choose.length := by rw [(key i hi).choose_spec.1]; exact hj
      rw [List.getD_eq_getElem?_getD, List.getElem?_eq_getElem hl2]
      rfl
    · simp only [hi, dite_true]
      exact (key i hi).choose_spec.1
    · simp only [hi, dite_true]
      exact (key i hi).choose_spec.2.2
theorem trodAll_seven {t0 t1 t2 t3 t4 t5 t6 : TypeId} {args : Array Value} {ds : List (DataW H)} {ps : List MemPlace} (h : DataW.TrodAll enc P w base spare held [t0, t1, t2, t3, t4, t5, t6] args.toList ds ps) :
    ∃ v0 v1 v2 v3 v4 v5 v6 d0 d1 d2 d3 d4 d5 d6 p0 p1 p2 p3 p4 p5 p6, args = #[v0, v1, v2, v3, v4, v5, v6] ∧ ds = [d0, d1, d2, d3, d4, d5, d6] ∧ ps = p0 ++ (p1 ++ (p2 ++ (p3 ++ (p4 ++ (p5 ++ p6))))) ∧ DataW.Trod enc P w base spare held t0 v0 d0 p0 ∧ DataW.Trod enc P w base spare held t1 v1 d1 p1 ∧ DataW.Trod enc P w base spare held t2 v2 d2 p2 ∧ DataW.Trod enc P w base spare held t3 v3 d3 p3 ∧ DataW.Trod enc P w base spare held t4 v4 d4 p4 ∧ DataW.Trod enc P w base spare held t5 v5 d5 p5 ∧ DataW.Trod enc P w base spare held t6 v6 d6 p6 := by
  obtain ⟨v0, vs0, d0, ds0, p0, q0, hargs, rfl, rfl, h0, hr0⟩ := trodAll_cons h
  obtain ⟨v1, vs1, d1, ds1, p1, q1, rfl, rfl, rfl, h1, hr1⟩ := trodAll_cons hr0
  obtain ⟨v2, vs2, d2, ds2, p2, q2, rfl, rfl, rfl, h2, hr2⟩ := trodAll_cons hr1
  obtain ⟨v3, vs3, d3, ds3, p3, q3, rfl, rfl, rfl, h3, hr3⟩ := trodAll_cons hr2
  obtain ⟨v4, vs4, d4, ds4, p4, q4, rfl, rfl, rfl, h4, hr4⟩ := trodAll_cons hr3
  obtain ⟨v5, vs5, d5, ds5, p5, q5, rfl, rfl, rfl, h5, hr5⟩ := trodAll_cons hr4
  obtain ⟨v6, vs6, d6, ds6, p6, q6, rfl, rfl, rfl, h6, hr6⟩ := trodAll_cons hr5
  obtain ⟨rfl, rfl, rfl⟩ := trodAll_nil hr6
  exact ⟨v0, v1, v2, v3, v4, v5, v6, d0, d1, d2, d3, d4, d5, d6, p0, p1, p2, p3, p4, p5, p6, by cases args; simp_all, rfl, by simp, h0, h1, h2, h3, h4, h5, h6⟩
end
end Go.Proofs.YtljhdcclajikiaaGreatDoor
namespace Go.Proofs.YtljhdcclajikiaaGreatDoor
set_option linter.all false
set_option linter.unusedVariables false
set_option linter.unusedSimpArgs false
open Go.ChangeShapes Go.WideShapes Go.ChangeAt Go.RowKit Go.Deep
theorem Tryz.own : ownKnob Tryz.prog.godebug = none := by kernel_rfl
theorem Tryz.laidOut : laidOutB Tryz.prog = true := by kernel_rfl
section
variable {H : Type} {enc : TypeId × Value → H} {w : World} {base : Nat} {spare : Nat → Bool} {held : Bool}
theorem gNone : Tryz.prog.globalNamed "azalai/load.none" = some 0 := by kernel_rfl
theorem tNone : (Tryz.prog.globals[0]?).map (·.type) = some 47 := by kernel_rfl
set_option maxRecDepth 100000 in
theorem none0_of_laid {W : World} (h : laidMetH Tryz.prog [("azalai/load.none", Rows.laid_azalai_load_none)] W) : None0 W := by
  rw [MakeChecks.laidMetH_plain _ _ _ (by kernel_rfl)] at h
  obtain ⟨ps, ⟨g0, t0, cs0, f0, p0, q0, hg0, ht0, hv0, hd0, _⟩, _, _⟩ := h
  obtain rfl := Option.some.inj (gNone.symm.trans hg0)
  obtain rfl := Option.some.inj (tNone.symm.trans ht0)
  obtain ⟨ns, e1, e2⟩ := kindsF_spec 2 47 [.i64, .i64] (by kernel_rfl) _ _ _ hd0
  match ns, e2, e1 with
  | [x, y], _, e1 =>
    have e1 : cs0.toList = [.int .i64 x, .int .i64 y] := e1
    obtain ⟨y0, y1, n, hx, hl, h0, h1⟩ := trod_struct2 Tryz.underlying47 hd0
    rw [e1] at h0 h1
    obtain ⟨k0, i0, rfl, _⟩ := DataW.trod_int Tryz.underlying3 h0
    obtain ⟨k1, i1, rfl, _⟩ := DataW.trod_int Tryz.underlying3 h1
    have hc1 : Tryz.prog.cellsOf 3 = 1 := by kernel_rfl
    have j0 : [Value.int .i64 x] = [.int .i64 k0] := by simpa [hc1] using i0
    have j1 : [Value.int .i64 y] = [.int .i64 k1] := by simpa [hc1] using i1
    clear i0 i1
    simp only [Rows.laid_azalai_load_none, Prod.mk.injEq, DataW.agg.injEq, List.cons.injEq, DataW.lit.injEq, Lit.int.injEq, and_true, true_and, List.append_nil, Value.int.injEq] at hx j0 j1
    obtain ⟨⟨rfl, rfl⟩, _⟩ := hx
    subst j0 j1
    have hc := World.var?_cell hg0 hv0
    have e3 : cs0 = #[.int .i64 0, .int .i64 0] := by cases cs0; simpa using e1
    subst e3
    exact ⟨World.block_lt_of_cell? W ⟨0, 0, none⟩ (hc 0), fun j v hj => by rw [hc j]; simpa using hj⟩
set_option maxRecDepth 100000 in
theorem open_packs {r : Reach} {b0 : Nat} {v : Value} {dd : DataW H} {p : List MemPlace} (hv : Value.okWide Tryz.prog w r b0 22 v) (h : DataW.Trod enc Tryz.prog w base spare held 22 v dd p) :
    ∃ (A : Option Addr) (n cp : Nat) (pk : Nat → Nat → Int), v = .slice A n cp ∧ RdR w 11 A n (fun k => packL (pk k)) := by
  obtain ⟨A, n, cp, g, rfl, hg, hR, _, _, _⟩ := open_rows 3 (.u8 :: List.replicate 10 .i64) Tryz.underlying22 (by kernel_rfl) (by kernel_rfl) rfl hv h
  exact ⟨A, n, cp, fun i => gi (g i), rfl, hR.rowK hg⟩
end
end Go.Proofs.YtljhdcclajikiaaGreatDoor
namespace Go.Proofs.YtljhdcclajikiaaGreatDoor
set_option linter.all false
set_option linter.unusedVariables false
set_option linter.unusedSimpArgs false
open Go.ChangeShapes Go.WideShapes Go.ChangeAt Go.RowKit Go.Deep
section
variable {H : Type} {enc : TypeId × Value → H} {w : World} {base : Nat} {spare : Nat → Bool} {held : Bool}
theorem RdR.cong {sz n : Nat} {A : Option Addr} {r r' : Nat → List Value} (h : RdR w sz A n r) (he : ∀ i, i < n → r i = r' i) : RdR w sz A n r' := ⟨h.rd.congr fun i j hi _ => by simp only [rowF, he i hi], fun i hi => by rw [← he i hi]; exact h.len i hi⟩
theorem wf_in {k : IntKind} {n : Int} (h : (Lit.int k n).wf = true) : k.min ≤ n ∧ n ≤ k.max := by simpa [Lit.wf] using h
theorem u16_in {n : Int} (h : (Lit.int .u16 n).wf = true) : 0 ≤ n ∧ n ≤ 65535 := wf_in h
theorem trod_int {P : Program} {n : Nat} {t : TypeId} {k : IntKind} {cs : List Value} {y : DataW H × List MemPlace} (ht : P.underlying t = some (.int k)) (h : DataW.trod enc P w base spare held n t cs = some y) : ∃ x : Int, cs = [.int k x] ∧ k.min ≤ x ∧ x ≤ k.max := by
  cases n with
  | zero => cases h
  | succ n =>
    unfold DataW.trod at h
    rw [ht] at h
    split at h <;> first | (rename_i e _; cases e; done) | skip
    all_goals first | (rename_i k1 k2 x e; cases e; split at h; (rename_i hx; obtain ⟨rfl, hw⟩ := hx; simp only [Lit.wf, Bool.and_eq_true, decide_eq_true_eq] at hw; exact ⟨x, rfl, hw.1, hw.2⟩); cases h) | (cases h; done) | (rename_i e; cases e; done) | (rename_i e _ _; cases e; done) | (rename_i e _ _ _; cases e; done)
end
end Go.Proofs.YtljhdcclajikiaaGreatDoor
namespace Go.Proofs.YtljhdcclajikiaaGreatDoor
set_option linter.all false
set_option linter.unusedVariables false
set_option linter.unusedSimpArgs false
open Go.ChangeShapes Go.WideShapes Go.ChangeAt Go.RowKit Go.Deep
section
variable {H : Type} {enc : TypeId × Value → H} {w : World} {base : Nat} {spare : Nat → Bool} {held : Bool}
set_option maxRecDepth 100000 in
theorem open_numbers {r : Reach} {b0 : Nat} {v : Value} {dd : DataW H} {p : List MemPlace} (hv : Value.okWide Tryz.prog w r b0 24 v) (h : DataW.Trod enc Tryz.prog w base spare held 24 v dd p) :
    ∃ (A : Option Addr) (n cp : Nat) (u : Nat → Int), v = .slice A n cp ∧ RdR w 1 A n (fun k => [.int .i64 (u k)]) := by
  obtain ⟨A, n, cp, g, rfl, hg, hR, _, _, _⟩ := open_rows 1 [.i64] Tryz.underlying24 (by kernel_rfl) (by kernel_rfl) rfl hv h
  exact ⟨A, n, cp, fun i => gi (g i) 0, rfl, hR.rowK hg⟩
end
end Go.Proofs.YtljhdcclajikiaaGreatDoor
namespace Go.Proofs.YtljhdcclajikiaaGreatDoor
set_option linter.all false
set_option linter.unusedVariables false
set_option linter.unusedSimpArgs false
open Go.ChangeShapes Go.WideShapes Go.ChangeAt Go.RowKit Go.Deep
section
variable {H : Type} {enc : TypeId × Value → H} {w : World} {base : Nat} {spare : Nat → Bool} {held : Bool}
set_option maxRecDepth 100000 in
theorem open_bytes8 {r : Reach} {b0 : Nat} {v : Value} {dd : DataW H} {p : List MemPlace} (hv : Value.okWide Tryz.prog w r b0 42 v) (h : DataW.Trod enc Tryz.prog w base spare held 42 v dd p) :
    ∃ (A : Option Addr) (n cp : Nat) (u : Nat → Int), v = .slice A n cp ∧ RdR w 1 A n (fun k => [.int .u8 (u k)]) ∧ ∀ k, k < n → 0 ≤ u k ∧ u k ≤ 255 := by
  obtain ⟨A0, n0, c0, rfl⟩ := okWide_slice Tryz.underlying42 hv
  obtain ⟨fuel, h⟩ := h
  obtain ⟨A, m, cp, G, e, hR, hel, _, hc, _⟩ := open_slice_any (sz := 1) Tryz.underlying42 (by kernel_rfl) rfl h
  simp only [Value.cells, List.cons.injEq, Value.slice.injEq, and_true] at e
  obtain ⟨rfl, rfl, rfl⟩ := e
  have key : ∀ i, i < n0 → ∃ x : Int, G i = [.int .u8 x] ∧ 0 ≤ x ∧ x ≤ 255 := fun i hi => by
    obtain ⟨n, y, hy⟩ := hel i hi
    obtain ⟨x, e, h1, h2⟩ := trod_int Tryz.underlying5 hy
    exact ⟨x, e, h1, h2⟩
  refine ⟨A0, n0, c0, fun i => if hi : i < n0 then (key i hi).choose else 0, rfl, ?_, fun i hi => ?_⟩
  · exact hR.cong fun i hi => by simp only [dif_pos hi]; exact (key i hi).choose_spec.1
  · simp only [dif_pos hi]; exact (key i hi).choose_spec.2
end
set_option maxRecDepth 100000 in
theorem loadMost_door (os : Os) (args : Array Value) : laidMetH Tryz.prog Rows.loadMostRow.laid ((World.doorLaid Tryz.prog 14 os).forCall (fun _ _ => 0) ⟨#[], args, []⟩).memory :=
  laidMetH_of_parts3 (fuel := 8) (laidMet_of_run' 8 (by kernel_rfl) (by kernel_rfl)) (by kernel_rfl) (by kernel_rfl)
set_option maxRecDepth 100000 in
theorem loadMost_lifted (os : Os) (started : os.Started) (H : Type) (enc : TypeId × Value → H) :
    ReturnsInHanded {} Tryz.checked os 4 .any (fun w args => (Rows.loadMostSpec.pre enc Tryz.prog Tryz.f4 [] false w args ∧ laidMetH Tryz.prog Rows.loadMostRow.laid w) ∧ sizedMet enc Tryz.prog Tryz.f4 (OpenSpec.ofChange Rows.loadMostSpec) false w args) (Rows.loadMostSpec.post enc Tryz.prog Tryz.f4 false true false false) := by
  refine returnsInHanded_of_change_and (C := Tryz.checked) (X := fun w _ => laidMetH Tryz.prog Rows.loadMostRow.laid w) (fun _ _ _ hh h => h.of_heap hh) Tryz.own started (by kernel_rfl) Tryz.func4
    (ChangeSpec.witness_shaped (enc := enc) (C := Tryz.checked) (os := os) (X := fun w _ => laidMetH Tryz.prog Rows.loadMostRow.laid w) false (World.doorLaid Tryz.prog 14 os) #[.slice none 0 0, .slice none 0 0, .slice none 0 0, .int .i64 0, .slice none 0 0, .int .u16 0, .int .u16 0] 8 rfl (World.shaped_of_RefB (by kernel_rfl) (by kernel_rfl)) (by kernel_rfl) (by kernel_rfl) (by kernel_rfl) (loadMost_door os _)) ?_
  intro W base args ds gs before hval0 hW _ _ hLd _
  have hval : ∀ (j : Nat) t v, Tryz.f4.params[j]? = some t → args[j]? = some v → Value.okWide Tryz.prog W .any base t v := hval0
  have hW' := hW
  obtain ⟨p, q, hA0, hV, rfl, hfz, hnd⟩ := hW
  have hA : DataW.TrodAll enc Tryz.prog W 0 (fun _ => true) true Tryz.f4.params.toList args.toList ds p := hA0
  have hA1 := hA
  rw [Tryz.params4] at hA hval
  obtain ⟨v0, v1, v2, v3, v4, v5, v6, d0, d1, d2, d3, d4, d5, d6, p0, p1, p2, p3, p4, p5, p6, rfl, rfl, rfl, h0, h1, h2, h3, h4, h5, h6⟩ := trodAll_seven hA
  obtain ⟨rfl, rfl⟩ := trodVars_none hV
  have hG : None0 W := none0_of_laid hLd
  obtain ⟨A, np, cp, pk, rfl, hR⟩ := open_packs (hval 0 22 v0 rfl rfl) h0
  obtain ⟨Ac, nc, cc, cans, rfl, hC⟩ := open_numbers (hval 1 24 v1 rfl rfl) h1
  obtain ⟨Av, nw, cv, wv, rfl, hV⟩ := open_numbers (hval 2 24 v2 rfl rfl) h2
  obtain ⟨b, rfl, _⟩ := open_int Tryz.underlying3 (hval 3 3 v3 rfl rfl) h3
  obtain ⟨AW, ny, cy, y, rfl, hY, hyb⟩ := open_bytes8 (hval 4 42 v4 rfl rfl) h4
  obtain ⟨wid, rfl, _, _, hwd⟩ := open_int Tryz.underlying43 (hval 5 43 v5 rfl rfl) h5
  obtain ⟨str, rfl, _, _, hst⟩ := open_int Tryz.underlying43 (hval 6 43 v6 rfl rfl) h6
  clear hA0 hval0
  simp only [List.append_nil] at hW'
  refine (lawMost_any hG hR hC hV hY hyb (u16_in hwd) (u16_in hst)).mono ?_
  rintro e W' ⟨rfl, hb⟩
  exact ⟨_, rfl, law_post Tryz.laidOut rfl hW' hA1 (by kernel_rfl) (by kernel_rfl) Tryz.underlying4 rfl hb⟩
theorem loadMost_row : Rows.LoadMostSaid :=
  OpenClaim.holds_of_wide 4 Tryz.f4 rfl rfl rfl rfl rfl rfl rfl ⟨rfl, rfl, rfl, rfl, rfl⟩ rfl rfl rfl rfl rfl (by kernel_rfl) Tryz.func4 (by kernel_rfl)
    (of_decide_eq_true (by kernel_rfl)) (by unfold Func.isWrapper; first | (rw [if_pos (by decide +kernel)]; kernel_rfl) | (rw [if_neg (by decide +kernel)]; exact ⟨rfl, rfl⟩))
    (fun os started H enc _ => loadMost_lifted os started H enc)
theorem loadMost_holds : Rows.LoadMostCardSaid :=
  Claim7.holds_tied_plain_at .later [] [.data] true _ true
    loadMost_row (fun _ h => by cases h) (by kernel_rfl) (fun _ h => by cases h) loadMost_row_tie rfl ⟨rfl, rfl⟩ (by kernel_rfl) rfl
    (fun f fn hf hfn => by
      obtain rfl : f = 4 := Option.some.inj ((show Tryz.prog.funcNamed "azalai/azalailaw05.LoadMost" = some 4 by kernel_rfl).symm.trans hf) |>.symm
      obtain rfl : fn = Tryz.f4 := (Option.some.inj (Tryz.func4.symm.trans hfn)).symm
      exact ⟨by kernel_rfl, fun j t ht => by
        have hall : (Tryz.f4.params.toList.all fun u => !Tryz.prog.wantsStandIn u) = true := by kernel_rfl
        have hm : t ∈ Tryz.f4.params.toList := by simpa using Array.mem_of_getElem? ht
        exact (show Tryz.prog.wantsStandIn t = false by simpa using List.all_eq_true.1 hall t hm)⟩)
    (by kernel_rfl)
end Go.Proofs.YtljhdcclajikiaaGreatDoor
