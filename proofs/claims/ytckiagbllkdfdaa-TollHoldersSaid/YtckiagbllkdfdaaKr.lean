/-
  From a law's walk to its row: arguments opened to rows of numbers; what is behind the call reads as before. No condition on a program.
-/
import Derived.Test.YtckiagbllkdfdaaKd
import Derived.ProofKit
import Derived.Deep.Slices
import Derived.Carry
namespace Go.Proofs.Ytckiagbllkdfdaa
set_option linter.all false
set_option linter.unusedVariables false
set_option linter.unusedSimpArgs false
open Go.ChangeShapes Go.WideShapes Go.RowKit Go.Deep
section
variable {H : Type} {enc : TypeId × Value → H} {P : Program} {w : World} {base : Nat} {spare : Nat → Bool} {held : Bool}
/-- The kinds of a type's cells, if all are numbers. -/
def kindsL (P : Program) (g : TypeId → Option (List IntKind)) : List Field → Nat → Option (List IntKind)
  | [], _ => some []
  | f :: fs, off => match g f.type with
    | some a => if f.offset = off ∧ a.length = P.cellsOf f.type then match kindsL P g fs (off + a.length) with
      | some b => some (a ++ b)
      | none => none
      else none
    | none => none
def kindsF (P : Program) : Nat → TypeId → Option (List IntKind)
  | 0, _ => none
  | d + 1, t => match P.underlying t with
    | some (.int k) => some [k]
    | some (.struct fs) => match kindsL P (kindsF P d) fs.toList 0 with
      | some a => if a.length = P.cellsOf t then some a else none
      | none => none
    | _ => none
def ints (ks : List IntKind) (ns : List Int) : List Value := List.zipWith Value.int ks ns
theorem ints_append {a b : List IntKind} {x y : List Int} (h : x.length = a.length) : ints (a ++ b) (x ++ y) = ints a x ++ ints b y := by
  unfold ints; rw [List.zipWith_append h.symm]
theorem ints_length {a : List IntKind} {x : List Int} (h : x.length = a.length) : (ints a x).length = a.length := by simp [ints, h]
theorem kindsL_spec {g : TypeId → Option (List IntKind)} (hg : ∀ t ks, g t = some ks → ∀ fuel cs x, DataW.trod enc P w base spare held fuel t cs = some x → ∃ ns : List Int, cs = ints ks ns ∧ ns.length = ks.length) :
    ∀ (fs : List Field) (off : Nat) (ks : List IntKind) (cs : List Value), kindsL P g fs off = some ks → cs.length = off + ks.length →
      (∀ f ∈ fs, ∃ n x, DataW.trod enc P w base spare held n f.type ((cs.drop f.offset).take (P.cellsOf f.type)) = some x) → ∃ ns : List Int, cs.drop off = ints ks ns ∧ ns.length = ks.length
  | [], off, ks, cs, h, hl, _ => by cases h; exact ⟨[], by simp at hl; simp [ints, hl], rfl⟩
  | f :: fs, off, ks, cs, h, hl, hf => by
    simp only [kindsL] at h
    cases h1 : g f.type with
    | none => rw [h1] at h; cases h
    | some a =>
      rw [h1] at h
      simp only at h
      split at h
      · rename_i h2
        obtain ⟨h2, h3⟩ := h2
        cases h4 : kindsL P g fs (off + a.length) with
        | none => rw [h4] at h; cases h
        | some b =>
          rw [h4] at h
          cases h
          obtain ⟨n, x, hx⟩ := hf f (by simp)
          rw [h2, ← h3] at hx
          obtain ⟨ns, e1, e2⟩ := hg _ _ h1 _ _ _ hx
          obtain ⟨ms, e3, e4⟩ := kindsL_spec hg fs (off + a.length) b cs h4 (by rw [hl]; simp; omega) (fun f' hf' => hf f' (by simp [hf']))
          refine ⟨ns ++ ms, ?_, by simp [e2, e4]⟩
          rw [ints_append e2, ← e1, ← e3, ← List.drop_drop, List.take_append_drop]
      · cases h
theorem kindsF_spec : ∀ (d : Nat) (t : TypeId) (ks : List IntKind), kindsF P d t = some ks → ∀ fuel cs x, DataW.trod enc P w base spare held fuel t cs = some x → ∃ ns : List Int, cs = ints ks ns ∧ ns.length = ks.length
  | 0, _, _, h, _, _, _, _ => by cases h
  | d + 1, t, ks, h, fuel, cs, x, hx => by
    simp only [kindsF] at h
    cases hu : P.underlying t with
    | none => rw [hu] at h; cases h
    | some desc =>
      rw [hu] at h
      match desc, hu, h with
      | .int k, hu, h =>
        injection h with h
        subst h
        obtain ⟨n, rfl, _, _⟩ := DataW.trod_int hu hx
        exact ⟨[n], rfl, rfl⟩
      | .struct fs, hu, h =>
        simp only at h
        cases h1 : kindsL P (kindsF P d) fs.toList 0 with
        | none => rw [h1] at h; cases h
        | some a =>
          rw [h1] at h
          simp only at h
          split at h
          · rename_i h2
            cases h
            obtain ⟨xs, n, _, _, hlen, hxl, hf⟩ := DataW.trod_struct hu hx
            obtain ⟨ns, e1, e2⟩ := kindsL_spec (kindsF_spec d) fs.toList 0 _ cs h1 (by omega) (fun f hf' => by
              obtain ⟨i, hi, rfl⟩ := List.getElem_of_mem hf'
              have hi' : i < fs.size := by simpa using hi
              have := hf i fs[i] (by simp [hi'])
              rw [List.getElem?_eq_getElem (by omega)] at this
              exact ⟨n, _, this⟩)
            exact ⟨ns, by simpa using e1, e2⟩
          · cases h
/-- A slice of rows of numbers, as an argument. -/
theorem open_flat_slice {t e : TypeId} {fuel : Nat} {cs : List Value} {x : DataW H × List MemPlace} (d : Nat) {ks : List IntKind} (ht : P.underlying t = some (.slice e)) (hk : kindsF P d e = some ks) (hC : P.cellsOf e = ks.length) (h0 : Nat.blt 0 ks.length = true) (h : DataW.trod enc P w base spare held fuel t cs = some x) :
    ∃ (A : Option Addr) (len cap : Nat) (g : Nat → List Int), cs = [.slice A len cap] ∧ (∀ i, i < len → (g i).length = ks.length) ∧ RdR w ks.length A len (fun i => ints ks (g i)) ∧ (A = none → len = 0 ∧ cap = 0) ∧ len ≤ cap ∧ cap ≤ maxLen := by
  have h0 : 0 < ks.length := Nat.le_of_ble_eq_true h0
  rcases open_slice ht h with ⟨rfl, rfl⟩ | ⟨a, len, cap, m, n, D, Pl, rfl, hb, hl, hm, hmm, _, hi⟩
  · exact ⟨none, 0, 0, fun _ => [], rfl, fun i hi => by omega, ⟨Rd.nil, fun i hi => by omega⟩, fun _ => ⟨rfl, rfl⟩, Nat.le_refl _, Nat.zero_le _⟩
  · have hlm : len ≤ m := by rw [hmm]; split <;> omega
    have key : ∀ i, i < len → ∃ ns : List Int, ns.length = ks.length ∧ ∀ j, j < ks.length → w.cell? (a.add (i * ks.length + j)) = (ints ks ns)[j]? := fun i hil => by
      obtain ⟨cs', hc, hx⟩ := hi i (by omega)
      obtain ⟨_, hcl, hat⟩ := World.cells?_some hc
      obtain ⟨ns, rfl, e2⟩ := kindsF_spec d e ks hk _ _ _ hx
      refine ⟨ns, e2, fun j hj => ?_⟩
      have := hat j (by rw [hC]; exact hj)
      rw [hC] at this
      rw [← this, ← add_add]
    refine ⟨some a, len, cap, fun i => if hi : i < len then (key i hi).choose else [], rfl, fun i hi => ?_, ⟨fun hn => ?_, fun i hi => ?_⟩, fun h => (by cases h), hl, hm⟩
    · simp only [hi, dite_true]; exact (key i hi).choose_spec.1
    · have h1 := (key 0 hn).choose_spec.2 0 h0
      have hsome : (ints ks (key 0 hn).choose)[0]? = some ((ints ks (key 0 hn).choose)[0]'(by rw [ints_length (key 0 hn).choose_spec.1]; exact h0)) := List.getElem?_eq_getElem _
      rw [hsome] at h1
      have hadd : a.add (0 * ks.length + 0) = a := by simp [Addr.add]
      rw [hadd] at h1
      have hsp : a.spot = none := by
        unfold World.cell? at h1
        split at h1
        · cases hs : a.spot with
          | none => rfl
          | some s => simp [hs] at h1
        · cases h1
      have hlt : a.block < w.heap.size := World.block_lt_of_cell? w a h1
      obtain ⟨b, o, s⟩ := a
      simp only at hsp
      subst hsp
      refine ⟨b, o, rfl, hlt, fun i j hi hj => ?_⟩
      have h2 := (key i hi).choose_spec.2 j hj
      rw [add_plain] at h2
      rw [show o + i * ks.length + j = o + (i * ks.length + j) by omega, h2]
      simp only [rowF, hi, dite_true]
      have hl2 : j < (ints ks (key i hi).choose).length := by rw [ints_length (key i hi).choose_spec.1]; exact hj
      rw [List.getElem?_eq_getElem hl2]
      simp [List.getD_eq_getElem?_getD, List.getElem?_eq_getElem hl2]
    · simp only [hi, dite_true]
      exact ints_length (key i hi).choose_spec.1
/-- A struct of numbers, by value. -/
theorem open_flat {r : Reach} {b0 : Nat} {t : TypeId} {fs : Array Field} {v : Value} {dd : DataW H} {p : List MemPlace} (d : Nat) {ks : List IntKind} (ht : P.underlying t = some (.struct fs)) (hk : kindsF P d t = some ks) (hv : Value.okWide P w r b0 t v) (h : DataW.Trod enc P w base spare held t v dd p) :
    ∃ ns : List Int, v = .agg (ints ks ns).toArray ∧ ns.length = ks.length := by
  obtain ⟨cs, rfl, _⟩ := okWide_struct ht hv
  obtain ⟨fuel, hf⟩ := h
  obtain ⟨ns, e1, e2⟩ := kindsF_spec d t ks hk _ _ _ hf
  exact ⟨ns, by rw [← e1]; simp [Value.cells], e2⟩
/-- The same of an argument's value. -/
theorem open_rows {r : Reach} {b0 : Nat} {t e : TypeId} {v : Value} {dd : DataW H} {p : List MemPlace} (d : Nat) (ks : List IntKind) (ht : P.underlying t = some (.slice e)) (hk : kindsF P d e = some ks) (hC : P.cellsOf e = ks.length) (h0 : Nat.blt 0 ks.length = true) (hv : Value.okWide P w r b0 t v) (h : DataW.Trod enc P w base spare held t v dd p) :
    ∃ (A : Option Addr) (len cap : Nat) (g : Nat → List Int), v = .slice A len cap ∧ (∀ i, i < len → (g i).length = ks.length) ∧ RdR w ks.length A len (fun i => ints ks (g i)) ∧ (A = none → len = 0 ∧ cap = 0) ∧ len ≤ cap ∧ cap ≤ maxLen := by
  obtain ⟨a, n, c, rfl⟩ := okWide_slice ht hv
  obtain ⟨fuel, h⟩ := h
  obtain ⟨A, len, cap, g, e, h1⟩ := open_flat_slice d ht hk hC h0 h
  simp only [Value.cells, List.cons.injEq, Value.slice.injEq, and_true] at e
  obtain ⟨rfl, rfl, rfl⟩ := e
  exact ⟨_, _, _, g, rfl, h1⟩
/-- A number's cells, by place. -/
def gi (ns : List Int) (j : Nat) : Int := ns.getD j 0
def rowK : List IntKind → (Nat → Int) → List Value
  | [], _ => []
  | k :: ks, f => .int k (f 0) :: rowK ks fun j => f (j + 1)
theorem ints_rowK : ∀ (ks : List IntKind) (ns : List Int), ns.length = ks.length → ints ks ns = rowK ks (gi ns)
  | [], [], _ => rfl
  | k :: ks, n :: ns, h => by
    show Value.int k n :: ints ks ns = _
    rw [ints_rowK ks ns (by simpa using h)]
    rfl
theorem RdR.rowK {sz n : Nat} {A : Option Addr} {ks : List IntKind} {g : Nat → List Int} (h : RdR w sz A n (fun i => ints ks (g i))) (hl : ∀ i, i < n → (g i).length = ks.length) : RdR w sz A n (fun i => rowK ks (gi (g i))) :=
  ⟨h.rd.congr fun i j hi hj => by simp only [rowF, ints_rowK ks (g i) (hl i hi)], fun i hi => by rw [← ints_rowK ks (g i) (hl i hi)]; exact h.len i hi⟩
theorem trodAll_stays (hl : laidOutB P = true) {W W' : World} (hb : Below W.heap.size W W') {sp' : Nat → Bool} : ∀ {ts : List TypeId} {vs : List Value} {ds : List (DataW H)} {ps : List MemPlace}, ts.all (fun t => P.readableRec t && decide (t < P.types.size)) = true →
    DataW.TrodAll enc P W 0 (fun _ => true) true ts vs ds ps → (∀ p ∈ ps, p.block < W.heap.size) → (∀ p ∈ ps, sp' p.block = true) → DataW.TrodAll enc P W' 0 sp' true ts vs ds ps
  | [], [], [], ps, _, h, _, _ => h
  | t :: ts, v :: vs, d :: ds, ps, ht, h, hlt, hs => by
    simp only [List.all_cons, Bool.and_eq_true, decide_eq_true_eq] at ht
    obtain ⟨p, q, h1, h2, rfl⟩ := h
    exact ⟨p, q, WideElems.Trod_stays hl ht.1.1 ht.1.2 h1 (fun x hx => hb.same (hlt x (by simp [hx]))) (fun x hx => hs x (by simp [hx])), trodAll_stays hl hb ht.2 h2 (fun x hx => hlt x (by simp [hx])) (fun x hx => hs x (by simp [hx])), rfl⟩
/-- The law's post: true was returned, old memory stays. -/
theorem law_post {f : Func} {s : ChangeSpec} {apart fresh handsOn again : Bool} {W W' : World} {args : Array Value} {ds : List (DataW H)} {p : List MemPlace} {tb : TypeId} (hl : laidOutB P = true) (hvars : s.vars = [])
    (hW : DataW.Whole enc P f.params.toList s.vars apart W args.toList ds [] p) (hA : DataW.TrodAll enc P W 0 (fun _ => true) true f.params.toList args.toList ds p)
    (ht : f.params.toList.all (fun t => P.readableRec t && decide (t < P.types.size)) = true) (hrt : f.resultTypes = #[tb]) (htb : P.underlying tb = some .bool) (hfn : s.fn H ds = { results := [.lit (.bool true)], args := ds }) (hb : Below W.heap.size W W') :
    s.post enc P f apart fresh handsOn again W args (.bool true) W' := by
  have hlt : ∀ q ∈ p, q.block < W.heap.size := fun q hq => hW.lt q hq
  have hold : ∀ q ∈ p, (fun b => decide (b < W.heap.size)) q.block = true := fun q hq => by simpa using hW.lt q hq
  have hres : ∀ (b : Nat) (sp : Nat → Bool) (hd : Bool), DataW.TrodAll enc P W' b sp hd f.resultTypes.toList ((Value.bool true).resultList f.resultTypes.size) (s.fn H (ds ++ [])).results [] := fun b sp hd => by
    rw [List.append_nil, hfn, hrt]
    exact ⟨[], [], shut_bool htb true, rfl, rfl⟩
  have hargs : ∀ sp : Nat → Bool, (∀ q ∈ p, sp q.block = true) → DataW.TrodAll enc P W' 0 sp true f.params.toList args.toList (s.fn H (ds ++ [])).args p := fun sp hs => by
    rw [List.append_nil, hfn]
    exact trodAll_stays hl hb ht hA (fun q hq => hW.lt q hq) hs
  have hv : ∀ sp : Nat → Bool, DataW.TrodVars enc P W' sp s.vars (s.fn H (ds ++ [])).vars [] := fun sp => by
    rw [List.append_nil, hfn, hvars]; exact rfl
  have hok : ∀ (j : Nat) (t : TypeId) (r : Value), f.resultTypes[j]? = some t → ((Value.bool true).resultList f.resultTypes.size)[j]? = some r → Value.okWide P W' .any 0 t r := ok_one (by rw [hrt]) rfl (okWide_bool_mk htb true)
  refine ⟨ds, [], p, [], p, [], hW, hres _ _ _, hargs _ hold, hv _, World.keptBut_mono (fun q hq => ⟨hq, by simpa using hq⟩) (hb.frame (· ∈ p)), fun _ => ?_⟩
  obtain ⟨_, _, _, _, _, hz, hn⟩ := hW
  refine ⟨hok, _, _, ([] ++ p) ++ [], ⟨[] ++ p, [], trodAll_append (hargs _ (fun _ _ => rfl)) (hres _ _ _), hv _, rfl, ?_, ?_⟩, ?_⟩
  · intro b off hp
    have hin : MemPlace.cell b off ∈ p := by simpa using hp
    rw [hb.frozen (hlt _ hin)]
    exact hz b off hin
  · intro ha
    have := hn ha
    simpa using this
  · intro q hq _
    simpa using hq
end
end Go.Proofs.Ytckiagbllkdfdaa
