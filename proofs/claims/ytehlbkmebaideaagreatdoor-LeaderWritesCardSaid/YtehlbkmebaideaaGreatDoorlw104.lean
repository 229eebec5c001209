/-
  Part 4 of the proof of leaderWrites_holds: declarations of several texts, in build order. No condition on a program.
-/
import Derived.Test.YtehlbkmebaideaaGreatDoorlw102
import Derived.Lib.AppendStr
import Derived.Lib.ConvBytes
import Derived.Test.YtehlbkmebaideaaGreatDoorlw103
import Derived.Shelf.Strings.Builder1
import Derived.Shelf.Strings.BuilderF
import Derived.Shelf.Strings.BuilderK
import Derived.Shelf.Strconv.Atoi
import Derived.Shelf.Strconv.Itoa0
import Derived.Shelf.Strconv.Itoa1
import Derived.Shelf.LaysM
import Derived.Shelf.Strconv.Itoa2
import Derived.Shelf.Strconv.Itoa3
import Derived.Shelf.Strconv.AtoiErrFast
import Derived.Shelf.Strconv.ParseIntEmpty
import Derived.Shelf.Strconv.AtoiFail
import Derived.Shelf.Strconv.Clone
import Derived.Shelf.Strconv.SyntaxError
import Derived.Shelf.LaysC
import Derived.Shelf.Strconv.ToError
import Derived.Shelf.Strconv.Lower
import Derived.Shelf.Strconv.ParseUint10
import Derived.Shelf.Strconv.ParseUint10Empty
import Derived.Shelf.Strconv.ParseUint10Any
import Derived.Shelf.Strconv.ParseInt10
import Derived.Shelf.Strconv.AtoiLong
import Derived.Shelf.Strconv.AtoiInnerAll
import Derived.Shelf.Strconv.RangeError
import Derived.Shelf.Strconv.ToErrorRange
import Derived.Shelf.Strconv.AtoiAll
import Derived.Shelf.Strconv.ErrVarAll
import Derived.Shelf.Strings.Search1
import Derived.Shelf.Strings.Search2
import Derived.Shelf.Strings.Search3
import Derived.Shelf.Strings.Cut
import Derived.Shelf.Strings.Count
import Derived.Shelf.Strings.Shaped
import Derived.Shelf.Strings.LastIndex
import Derived.Shelf.Strings.Split
import Derived.Shelf.Unicode.DecodeSlow
import Derived.Ground.SlgmProg
import Derived.Shelf.SortM.Plain
import Derived.Shelf.SortM.SortNone
import Derived.Test.YtehlbkmebaideaaGreatDoorProg
namespace Go.Proofs.YtehlbkmebaideaaGreatDoor
set_option linter.all false
set_option linter.unusedVariables false
set_option linter.unusedSimpArgs false
open Go.RowKit
def bR (l : List UInt8) : Nat → List Value := fun i => [.int .u8 ((l.getD i 0).toNat : Int)]
structure ByT (P : Program) (t u E : TypeId) : Prop where
 sl : P.underlying t = some (.slice E)
 st : P.underlying u = some .string
 el : ∃ i, P.info? E = some i ∧ i.zero = some (.int .u8 0) ∧ i.size = 1 ∧ i.bytes = 1
theorem bR_flat {l : List UInt8} : flat 1 l.length (rowF (bR l)) = Lib.strCells ⟨l.toArray⟩ := by
  apply List.ext_getElem?
  intro k
  by_cases hk : k < l.length
  · have h1 := flat_get (f := rowF (bR l)) (n := l.length) (sz := 1) (i := k) (j := 0) (by omega) (by omega)
    rw [Nat.mul_one, Nat.add_zero] at h1
    rw [h1]
    simp [Lib.strCells, rowF, bR, List.getD_eq_getElem?_getD, hk]
  · rw [List.getElem?_eq_none (by rw [flat_length]; omega), List.getElem?_eq_none (by rw [Lib.strCells_length, ba_size]; omega)]
theorem run_aps {P : Program} {w : World} {t u ty E : TypeId} (T : ByT P t u E) {A : Option Addr} {n cp : Nat} {r : Nat → List Value} (h : OwnR w A n cp E 1 r) {l : List UInt8} (hm : n + l.length ≤ 1000000000) :
    ∃ A' cp' w', (Builtin.append_ #[t, u] ty #[.slice A n cp, sv l]).run P w = .ok (.slice A' (n + l.length) cp') w' ∧ OwnR w' A' (n + l.length) cp' E 1 (catR n r (bR l)) ∧ w.grownBy w' (Value.slice A n cp).ownBlock ∧
      ∀ q, (Value.slice A' (n + l.length) cp').ownBlock = some q → (Value.slice A n cp).ownBlock = some q ∨ w.heap.size ≤ q := by
  obtain ⟨i, hi, hz, hs, hb⟩ := T.el
  have hsz : (⟨l.toArray⟩ : ByteArray).size = l.length := ba_size
  have key : ∀ base, base ≤ w.heap.size → w.ownsRow base E 1 (.slice A n cp) n (flat 1 n (rowF r)) → ∃ A' cp' w', (Builtin.append_ #[t, u] ty #[.slice A n cp, sv l]).run P w = .ok (.slice A' (n + l.length) cp') w' ∧ OwnR w' A' (n + l.length) cp' E 1 (catR n r (bR l)) ∧ w.grownBy w' (Value.slice A n cp).ownBlock ∧ w'.ownsRow base E 1 (.slice A' (n + l.length) cp') (n + l.length) (flat 1 n (rowF r) ++ Lib.strCells ⟨l.toArray⟩) := by
    intro base hbase hown
    obtain ⟨v', w', h1, h2, h3, _⟩ := Lib.run_append_own_string (P := P) w base t u ty E i T.sl T.st hi hz hs hb _ n _ hown ⟨l.toArray⟩ (by rw [hsz]; simp only [maxLen]; omega) (by rw [hsz]; omega) hbase
    rw [hsz] at h2
    have ho : Own w' base E 1 v' (n + l.length) (rowF (catR n r (bR l))) := by
      unfold Own
      have e1 : flat 1 (n + l.length) (cat n (rowF r) (rowF (bR l))) = flat 1 n (rowF r) ++ Lib.strCells ⟨l.toArray⟩ := by rw [flat_cat, bR_flat]
      have e2 : rowF (catR n r (bR l)) = cat n (rowF r) (rowF (bR l)) := by
        funext a b
        simp only [rowF, catR, cat]
        split <;> rfl
      rw [e2, e1]
      exact h2
    obtain ⟨A', cp', rfl, _, _, _⟩ := ho.form
    refine ⟨A', cp', w', h1, ⟨?_, fun j hj => ?_⟩, h3, h2⟩
    · rcases ho with ⟨k1, k2⟩
      refine ⟨k1, ?_⟩
      rcases k2 with k2 | ⟨g', cap, cur, e, hge, rest⟩
      · exact .inl k2
      · exact .inr ⟨g', cap, cur, e, Nat.zero_le _, rest⟩
    · simp only [catR]; split
      · exact h.len j ‹_›
      · rfl
  rcases h.own.2 with ⟨e, h0⟩ | ⟨g, cap, cur, e, _, hg, hnc, hcm, hcs, ht⟩
  · subst h0
    obtain ⟨A', cp', w', h1, h2, h3, h4⟩ := key w.heap.size (Nat.le_refl _) ⟨by simp [flat], .inl ⟨e, rfl⟩⟩
    exact ⟨A', cp', w', h1, h2, h3, fun q hq => .inr ((h4.lt q hq).1)⟩
  · injection e with e1 e2 e3
    subst e1
    subst e3
    obtain ⟨A', cp', w', h1, h2, h3, h4⟩ := key 0 (Nat.zero_le _) ⟨h.own.1, .inr ⟨g, cp, cur, rfl, Nat.zero_le _, hg, hnc, hcm, hcs, ht⟩⟩
    refine ⟨A', cp', w', h1, h2, h3, fun q hq => ?_⟩
    by_cases hroom : n + l.length ≤ cp
    · have h5 := Lib.run_append_room_string (P := P) w t u ty E i T.sl T.st hi hs g n cp cur hg ⟨l.toArray⟩ (by rw [hsz]; exact hroom) (by rw [hsz]; omega)
      have h6 := h1.symm.trans h5
      injection h6 with h6
      injection h6 with h7
      rw [h7] at hq
      exact .inl hq
    · have hown : w.ownsRow 0 E 1 (.slice (some ⟨g, 0, none⟩) n cp) n (flat 1 n (rowF r)) := ⟨h.own.1, .inr ⟨g, cp, cur, rfl, Nat.zero_le _, hg, hnc, hcm, hcs, ht⟩⟩
      have h5 := Lib.run_append_grow_string (P := P) w t u ty E i (.int .u8 0) T.sl T.st hi hz ⟨g, 0, none⟩ n cp (flat 1 n (rowF r)) (by rw [hs, flat_length]) (hown.cells rfl) ⟨l.toArray⟩ (by rw [hsz]; omega) (by rw [hsz]; omega) (by rw [hb, hsz]; exact growslice_fits (by omega) (by omega))
      have h6 := h1.symm.trans h5
      injection h6 with h6
      injection h6 with h7
      rw [h7] at hq
      simp [Value.ownBlock] at hq
      exact .inr (Nat.le_of_eq hq)
section
variable {c : Cx} {Q : Exit → Act → World → Prop} {F F' : Fr} {K K' K0 : List Fact} {ops : Array Oper} {rest : List Oper} {d : Option Tmp} {ty : TypeId} {pos : String} {af : Array Edge} {g : Option (Nat × Bool)}
theorem TL.aps {x y : Operand} {t u E : TypeId} {A : Option Addr} {n cp : Nat} {r : Nat → List Value} {l : List UInt8} (T : ByT c.P t u E) (h : ∀ A' cp', TL c ops Q rest (fput F d (.slice A' (n + l.length) cp')) (.own A' (n + l.length) cp' E 1 (catR n r (bR l)) :: K')) (hx : ev F x = some (.slice A n cp) := by rfl) (hy : ev F y = some (sv l) := by rfl) (hd : dok d c.n = true := by rfl)
    (hp : Pick K (.own A n cp E 1 r) K' := by repeat (first | exact Pick.hd | apply Pick.tl)) (hm : n + l.length ≤ 1000000000 := by omega) : TL c ops Q (⟨d, .call { callee := .builtin .append, args := #[x, y], argTypes := #[t, u] }, ty, pos, af, none⟩ :: rest) F K := fun a w hF hK => by
  have hs := hK.pick hp
  have hb : OwnR w A n cp E 1 r := hs.holds (.own A n cp E 1 r) (by simp)
  obtain ⟨A', cp', w', hrun, hown, hg, hbk⟩ := run_aps (ty := ty) T hb hm
  refine wpList_plain rfl fun Z hZ => ?_
  unfold Oper.wp execOp
  simp only [resolve, invoke, builtin, Sem.run_bind, Sem.run_pure, Result.andThen_ok, List.map_toArray, List.map_cons, List.map_nil, hF.evl hx, hF.evl hy]
  rw [hrun]
  have hc : Chg (Fact.own A n cp E 1 r).foot w w' := by rw [own_foot]; exact Chg.grown hg
  refine hZ _ _ (h A' cp' _ w' (hF.fput hd _) (hs.turn hc (by rw [own_foot]; cases (Value.slice A' (n + l.length) cp').ownBlock <;> simp) (fun b hb => ?_) hown))
  rw [own_foot] at hb ⊢
  cases e : (Value.slice A' (n + l.length) cp').ownBlock with
  | none => rw [e] at hb; cases hb
  | some q =>
    rw [e] at hb
    simp at hb
    subst hb
    rcases hbk b e with h1 | h1
    · rw [h1]; exact .inl (by simp)
    · exact .inr h1
theorem TL.cvb {x : Operand} {S T E : TypeId} {l : List UInt8} {ud : TypeDesc} (hS : c.P.underlying S = some ud) (hT : c.P.underlying T = some (.slice E)) (hE : c.P.underlying E = some (.int .u8)) (h : ∀ b cp, TL c ops Q rest (fput F d (.slice (some ⟨b, 0, none⟩) l.length cp)) (.pr [b] (fun w => RdR w 1 (some ⟨b, 0, none⟩) l.length (bR l)) :: K)) (hx : ev F x = some (sv l) := by rfl) (hd : dok d c.n = true := by rfl) :
    TL c ops Q (⟨d, .convert S T x, ty, pos, af, none⟩ :: rest) F K := fun a w hF hK => by
  have hr := Lib.run_convert_string_bytes (P := c.P) w S T E ⟨l.toArray⟩ hS hT hE
  refine wpList_plain rfl fun Z hZ => ?_
  unfold Oper.wp
  have h1 : (execOp a.eval ⟨d, .convert S T x, ty, pos, af, none⟩).run c.P w = .ok (.value (.slice (some ⟨w.heap.size, 0, none⟩) l.length (grownCap w l.length 0 E))) (Lib.bytesWorld w E ⟨l.toArray⟩) := by
    have h2 : (⟨l.toArray⟩ : ByteArray).size = l.length := ba_size
    rw [h2] at hr
    simp only [execOp, hF.evl hx, Sem.run_bind, sv, hr, Result.andThen_ok, Sem.run_pure]
  rw [h1]
  have hsz : (Lib.bytesWorld w E ⟨l.toArray⟩).heap.size = w.heap.size + 1 := Lib.bytesWorld_size w E _
  have hrd : ∀ w' : World, w'.heap[w.heap.size]? = (Lib.bytesWorld w E ⟨l.toArray⟩).heap[w.heap.size]? → w.heap.size < w'.heap.size → RdR w' 1 (some ⟨w.heap.size, 0, none⟩) l.length (bR l) := fun w' he hlt => by
    refine ⟨fun hn => ⟨w.heap.size, 0, rfl, hlt, fun i j hi hj => ?_⟩, fun i hi => rfl⟩
    obtain rfl : j = 0 := by omega
    have h3 := Lib.bytesWorld_cell w E ⟨l.toArray⟩ i (by rw [ba_size]; exact hi)
    rw [Nat.zero_add, Nat.mul_one, Nat.add_zero]
    rw [World.cell?_of_block (w := Lib.bytesWorld w E ⟨l.toArray⟩) (w' := w') (a := ⟨w.heap.size, i, none⟩) he, h3]
    simp [rowF, bR]
  have hnew : Sat [] w [.pr [w.heap.size] (fun w' => RdR w' 1 (some ⟨w.heap.size, 0, none⟩) l.length (bR l))] (Lib.bytesWorld w E ⟨l.toArray⟩) := by
    refine Sat.one ⟨rfl, rfl, rfl, by omega, fun k hk _ => Lib.bytesWorld_at_old w E _ k hk⟩ (by simp [Fact.foot]) (fun q hq => .inr (by simp [Fact.foot] at hq; omega)) ⟨?_, ?_, ?_⟩
    · exact hrd _ rfl (by omega)
    · intro b hb; simp at hb; omega
    · intro w1 w2 hl hp he
      have h9 := he w.heap.size (by simp)
      refine ⟨fun hn => ?_, fun i hi => rfl⟩
      obtain ⟨b, o, e, hlt, hc⟩ := hp.rd hn
      injection e with e
      injection e with e1 e2
      subst e1 e2
      have hlt2 : w.heap.size < w2.heap.size := by
        have h8 : w1.heap[w.heap.size]? ≠ none := by rw [Array.getElem?_eq_getElem hlt]; exact fun h => by cases h
        rw [← h9] at h8
        exact Nat.lt_of_not_le fun h7 => h8 (Array.getElem?_eq_none h7)
      refine ⟨_, _, rfl, hlt2, fun i j hi hj => ?_⟩
      rw [← hc i j hi hj]
      exact World.cell?_of_block h9
  exact hZ _ _ (h w.heap.size _ _ _ (hF.fput hd _) (hK.add hnew))
theorem CellsN.prr {A : Option Addr} {n k j m sz : Nat} {l : List Nat} {r : Nat → List Value} {vs : List Value} (hp : Pick K (.pr l (fun w => RdR w sz A n r)) K') (hk : k < n) (hs : SubL (r k) j m vs) : CellsN c K (elA A k sz j) m vs := ⟨fun w hK => by
 obtain ⟨b, off, h1, _, _, h4⟩ := RdR.cells (hK.holds _ hp.mem).now hk hs
 exact ⟨b, off, h1, h4⟩, hs.spec.1⟩
end
end Go.Proofs.YtehlbkmebaideaaGreatDoor
namespace Go.Proofs.YtehlbkmebaideaaGreatDoor
set_option linter.all false
set_option linter.unusedVariables false
set_option linter.unusedSimpArgs false
open Go.RowKit Go.MapKept
theorem ba_beq {a b : List UInt8} : ((⟨a.toArray⟩ : ByteArray) == ⟨b.toArray⟩) = decide (a = b) := by
 rw [Bool.eq_iff_iff, bytes_beq, decide_eq_true_eq, ByteArray.ext_iff]
 exact ⟨fun h => by simpa using h, fun h => by simp [h]⟩
def entS : Nat → List (List UInt8 × Value) → List MapEntry
 | _, [] => []
 | s, (k, v) :: l => { key := sv k, val := v, born := s } :: entS (s + 1) l
def mapS (l : List (List UInt8 × Value)) : Obj := .map (entS 0 l).toArray l.length
def slook (i : List UInt8) : List (List UInt8 × Value) → Option Value
 | [] => none
 | (k, v) :: l => if i = k then some v else slook i l
def sfind (i : List UInt8) : Nat → List (List UInt8 × Value) → Option (Nat × Value)
 | _, [] => none
 | q, (k, v) :: l => if i = k then some (q, v) else sfind i (q + 1) l
theorem findNow_entS (i : List UInt8) : ∀ (l : List (List UInt8 × Value)) (s q : Nat), Instr.findNow .string (sv i) (entS s l) q = some (sfind i q l)
 | [], _, _ => rfl
 | (k, v) :: l, s, q => by
  have h1 : Instr.sameNow .string (sv i) (sv k) = some (decide (i = k)) := by
    show some ((⟨i.toArray⟩ : ByteArray) == ⟨k.toArray⟩) = _
    rw [ba_beq]
  by_cases h : i = k
  · subst h; simp [entS, Instr.findNow, h1, sfind]
  · simp [entS, Instr.findNow, h1, sfind, h, findNow_entS i l (s + 1) (q + 1)]
theorem sfind_look (i : List UInt8) : ∀ (l : List (List UInt8 × Value)) (q : Nat), (sfind i q l).map (·.2) = slook i l
 | [], _ => rfl
 | (k, v) :: l, q => by
  by_cases h : i = k
  · simp [sfind, slook, h]
  · simp [sfind, slook, h, sfind_look i l (q + 1)]
theorem entS_app : ∀ (l : List (List UInt8 × Value)) (x : List UInt8 × Value) (s : Nat), entS s (l ++ [x]) = entS s l ++ [{ key := sv x.1, val := x.2, born := s + l.length }]
 | [], _, _ => rfl
 | y :: l, x, s => by
  simp only [List.cons_append, entS, entS_app l x (s + 1), List.length_cons]
  rw [show s + 1 + l.length = s + (l.length + 1) by omega]
theorem run_getObj_s {P : Program} {w : World} {b : Nat} {l : List (List UInt8 × Value)} (hb : w.heap[b]? = some (mapS l)) : (getObj b).run P w = .ok (.map (entS 0 l).toArray l.length) w := by
 unfold mapS at hb
 exact Go.MapKept.run_getObj_map hb
theorem run_setObj_s {P : Program} {w : World} {b : Nat} {l : List (List UInt8 × Value)} (o : Obj) (hb : w.heap[b]? = some (mapS l)) : (setObj b o).run P w = .ok () { w with heap := w.heap.setIfInBounds b o } := by
 unfold mapS at hb
 exact Go.MapKept.run_setObj_map o hb
theorem isKey_str (i : List UInt8) : IsKey .string (sv i) := by simp [IsKey, sv]
theorem run_lookup_s {P : Program} {T kt et : TypeId} {w : World} {b : Nat} {l : List (List UInt8 × Value)} {i : List UInt8} {z : Value} (hT : P.underlying T = some (.map kt et)) (hk : P.underlying kt = some .string) (hb : w.heap[b]? = some (mapS l)) (hz : (zeroValue et).run P w = .ok z w) (ok : Bool) :
  (Instr.lookup T (.map (some b)) (sv i) ok).run P w = .ok (if ok then .tuple #[(slook i l).getD z, .bool (slook i l).isSome] else (slook i l).getD z) w := by
 have h0 := findNow_entS i l 0 0
 have hf : (Instr.findKey kt (sv i) (entS 0 l)).run P w = .ok (sfind i 0 l) w := run_findKey hk h0
 have hl := sfind_look i l 0
 unfold Instr.lookup
 simp only [Sem.run_bind, run_underlying hT, Result.andThen_ok, run_getObj_s hb, Sem.run_pure, run_checkKey hk (isKey_str i), hf]
 cases hm : sfind i 0 l with
 | none =>
  rw [hm] at hl
  have hl' : slook i l = none := by simpa using hl.symm
  simp [hz, hl', Result.andThen_ok]
 | some x =>
  rw [hm] at hl
  have hl' : slook i l = some x.2 := by simpa using hl.symm
  simp [hl', Result.andThen_ok]
theorem run_mapUpdate_s {P : Program} {T kt et : TypeId} {w : World} {b : Nat} {l : List (List UInt8 × Value)} {i : List UInt8} {v : Value} (hT : P.underlying T = some (.map kt et)) (hk : P.underlying kt = some .string) (hb : w.heap[b]? = some (mapS l)) (hn : slook i l = none) :
  (Instr.mapUpdate T (.map (some b)) (sv i) v).run P w = .ok () { w with heap := w.heap.setIfInBounds b (mapS (l ++ [(i, v)])) } := by
 have h0 := findNow_entS i l 0 0
 have hf : (Instr.findKey kt (sv i) (entS 0 l)).run P w = .ok (sfind i 0 l) w := run_findKey hk h0
 have hl := sfind_look i l 0
 rw [hn] at hl
 have hm : sfind i 0 l = none := by simpa using hl
 unfold Instr.mapUpdate
 simp only [Sem.run_bind, run_underlying hT, Result.andThen_ok, run_getObj_s hb, run_checkKey hk (isKey_str i), hf, hm, run_setObj_s _ hb]
 unfold mapS
 rw [entS_app]
 simp
section
variable {c : Cx} {Q : Exit → Act → World → Prop} {F F' : Fr} {K K' K0 : List Fact} {ops : Array Oper} {rest : List Oper} {d : Option Tmp} {ty : TypeId} {pos : String} {af : Array Edge} {g : Option (Nat × Bool)} {t : Nat}
theorem TL.mms {T : TypeId} (h : ∀ b, TL c ops Q rest ((t, .map (some b)) :: F) (.obj b (mapS []) :: K)) (hd : Nat.blt t c.n = true := by rfl) : TL c ops Q (⟨some t, .makeMap T none, ty, pos, af, none⟩ :: rest) F K := fun a w hF hK =>
 wpList_plain rfl fun Z hZ => by
  have hr : (execOp a.eval ⟨some t, .makeMap T none, ty, pos, af, none⟩).run c.P w = .ok (.value (.map (some w.heap.size))) (w.alloc (.map #[] 0)) := by
   simp [execOp, run_makeMap]
  unfold Oper.wp
  rw [hr]
  exact hZ _ _ (h _ _ _ (hF.put hd _) (hK.newObj _ rfl))
theorem TL.mis {m x y : Operand} {T kt et : TypeId} {b : Nat} {i : List UInt8} {v : Value} {l : List (List UInt8 × Value)} (hT : c.P.underlying T = some (.map kt et)) (hk : c.P.underlying kt = some .string) (h : TL c ops Q rest F (.obj b (mapS (l ++ [(i, v)])) :: K')) (hm : ev F m = some (.map (some b)) := by rfl) (hx : ev F x = some (sv i) := by rfl) (hy : ev F y = some v := by rfl)
    (hp : Pick K (.obj b (mapS l)) K' := by repeat (first | exact Pick.hd | apply Pick.tl)) (hn : slook i l = none := by rfl) : TL c ops Q (⟨none, .insert T m x y, ty, pos, af, none⟩ :: rest) F K := fun a w hF hK => by
  have hs := hK.pick hp
  have hb : w.heap[b]? = some (mapS l) := (hs.holds (.obj b (mapS l)) (by simp)).1
  have hr := run_mapUpdate_s (i := i) (v := v) hT hk hb hn
  refine wpList_skip rfl (w' := { w with heap := w.heap.setIfInBounds b (mapS (l ++ [(i, v)])) }) ?_ (h a _ hF (hs.turn ?_ (by simp [Fact.foot]) (fun q hq => .inl hq) ⟨(heap_set hb).1, rfl⟩))
  · simp [execOp, hF.evl hm, hF.evl hx, hF.evl hy, hr]
  · exact ⟨rfl, rfl, rfl, by simp, fun q _ hq => (heap_set hb).2 q (by simpa [Fact.foot] using hq)⟩
theorem Pu.lks {x y : Operand} {T kt et : TypeId} {b : Nat} {i : List UInt8} {z : Value} {l : List (List UInt8 × Value)} (hT : c.P.underlying T = some (.map kt et)) (hk : c.P.underlying kt = some .string) (hz : ∀ w, (zeroValue et).run c.P w = .ok z w) (hx : ev F x = some (.map (some b)) := by rfl) (hy : ev F y = some (sv i) := by rfl)
    (hp : Pick K (.obj b (mapS l)) K' := by repeat (first | exact Pick.hd | apply Pick.tl)) : Pu c F K ⟨d, .lookup T x y true, ty, pos, af, g⟩ (.tuple #[(slook i l).getD z, .bool (slook i l).isSome]) := fun a w hF hK => by
  have hb : w.heap[b]? = some (mapS l) := (hK.holds _ hp.mem).1
  have hr := run_lookup_s (i := i) hT hk hb (hz w) true
  simp [execOp, hF.evl hx, hF.evl hy, hr]
theorem Pu.lksS {x y : Operand} {T kt et : TypeId} {b : Nat} {i : List UInt8} {z v : Value} {l : List (List UInt8 × Value)} (hT : c.P.underlying T = some (.map kt et)) (hk : c.P.underlying kt = some .string) (hz : ∀ w, (zeroValue et).run c.P w = .ok z w) (hl : slook i l = some v) (hx : ev F x = some (.map (some b)) := by rfl) (hy : ev F y = some (sv i) := by rfl)
    (hp : Pick K (.obj b (mapS l)) K' := by repeat (first | exact Pick.hd | apply Pick.tl)) : Pu c F K ⟨d, .lookup T x y true, ty, pos, af, g⟩ (.tuple #[v, .bool true]) := fun a w hF hK => by
  have h := Pu.lks (c := c) (F := F) (K := K) (d := d) (ty := ty) (pos := pos) (af := af) (g := g) hT hk hz hx hy hp a w hF hK
  rw [hl] at h
  exact h
theorem Pu.lksN {x y : Operand} {T kt et : TypeId} {b : Nat} {i : List UInt8} {z : Value} {l : List (List UInt8 × Value)} (hT : c.P.underlying T = some (.map kt et)) (hk : c.P.underlying kt = some .string) (hz : ∀ w, (zeroValue et).run c.P w = .ok z w) (hl : slook i l = none) (hx : ev F x = some (.map (some b)) := by rfl) (hy : ev F y = some (sv i) := by rfl)
    (hp : Pick K (.obj b (mapS l)) K' := by repeat (first | exact Pick.hd | apply Pick.tl)) : Pu c F K ⟨d, .lookup T x y true, ty, pos, af, g⟩ (.tuple #[z, .bool false]) := fun a w hF hK => by
  have h := Pu.lks (c := c) (F := F) (K := K) (d := d) (ty := ty) (pos := pos) (af := af) (g := g) hT hk hz hx hy hp a w hF hK
  rw [hl] at h
  exact h
end
end Go.Proofs.YtehlbkmebaideaaGreatDoor
namespace Go.Proofs.YtehlbkmebaideaaGreatDoor
set_option linter.all false
set_option linter.unusedVariables false
set_option linter.unusedSimpArgs false
open Go.RowKit
theorem indexInt_any {g : FuncId} {fs cs : List Value} {A : Option Addr} {n cp : Nat} {v : Nat → Int} {p : Nat → Bool} {M : Nat → List Fact} {w : World} (hen : Enters Tryz.prog g) (hn : n ≤ 9223372036854775807)
  (hR : RdR w 1 A n (fun k => [.int .i64 (v k)])) (hA : 0 < n → Apart (feet (M 0)) A) (hM : Sat (feet (M 0)) w (M 0) w) (hfe : ∀ k, feet (M k) = feet (M 0))
  (hg : ∀ k, k < n → (∀ j, j < k → p j = false) → ∀ w', Sat (feet (M 0)) w (M k) w' → CallsK Tryz.prog g (fs ++ [Value.int .i64 (v k)] ++ cs).toArray (M k) w' Unit (fun _ => .bool (p k)) (fun _ => M (k + 1))) :
  CallsK Tryz.prog 114 #[.slice A n cp, .func (.func g) fs.toArray cs.toArray] (M 0) w (Fst p n) (fun x => .int .i64 (if x.1 < n then (x.1 : Int) else -1)) (fun x => M (aft n x.1)) := by
 refine K_enter (S := feet (M 0)) (K := M 0) Tryz.func114 rfl Tryz.ntmps114 rfl hM ?_
 refine TW.seq fun Y1 hY1 => TW.region ?_
 refine TL.p Pu.as ?_
 refine TL.nil (TQ.thenN (hY1 _ _ ?_))
 refine TW.seq fun Y2 hY2 => ?_
 refine TW.seq fun Y3 hY3 => TW.region ?_
 refine TL.p Pu.mv ?_
 refine TL.p (Pu.ln Tryz.underlying48) ?_
 refine TL.p Pu.mv ?_
 refine TL.nil (TQ.thenN (hY3 _ _ ?_))
 refine TW.block ?_
 refine TW.loop1 (fun (k : Nat) => [(8, .int .i64 (k : Int)), (7, .int .i64 (n : Int)), (0, .slice A n cp), (1, .func (.func g) fs.toArray cs.toArray)]) (fun k => M k) (fun k => k ≤ n ∧ ∀ j, j < k → p j = false) (fun k => n - k) 0 fs9 ?_ ?_ ?_
 exact KSub.refl _
 exact ⟨by omega, fun j hj => by omega⟩
 rintro k ⟨hk, hall⟩ Z0 hZ0
 refine TW.seq fun Y4 hY4 => TW.region ?_
 refine TL.p Pu.lt ?_
 refine TL.nil (TQ.thenN (hY4 _ _ ?_))
 refine TW.seq fun Y5 hY5 => ?_
 refine TW.cond rfl (fun hc0 => ?_) (fun hc0 => ?_)
 try simp only [zcb9] at hc0
 have hkn : k < n := by omega
 have hA := hA (by omega)
 refine TW.skip ?_
 refine TQ.thenN (hY5 _ _ ?_)
 refine TW.seq fun Y6 hY6 => ?_
 refine TW.block ?_
 refine TW.seq fun Y7 hY7 => TW.region ?_
 refine TL.p Pu.mv ?_
 refine TL.p Pu.as ?_
 refine TL.nil (TQ.thenN (hY7 _ _ ?_))
 refine TW.seq fun Y8 hY8 => TW.region ?_
 refine TL.p Pu.mv ?_
 refine TL.p Pu.mv ?_
 refine TL.p Pu.mv ?_
 refine TL.p (Pu.el ty_et48) ?_
 refine TL.p (Pu.ld ty_sc3) ?_
 refine TL.cvk rfl rfl hen (by rw [List.append_nil]) (fun w hw => by
   exact hg k (by omega) hall w hw) ?_
 intro _
 refine TL.nil (TQ.thenN (hY8 _ _ ?_))
 refine TW.cond rfl (fun hc1 => ?_) (fun hc1 => ?_)
 try simp only [zcb9] at hc1
 refine TW.seq fun Y9 hY9 => TW.region ?_
 refine TL.p Pu.mv ?_
 refine TL.p Pu.as ?_
 refine TL.nil (TQ.thenN (hY9 _ _ ?_))
 refine TW.ret ?_
 refine TQ.blkR ?_
 refine TQ.thenR ?_
 refine TQ.thenR ?_
 refine TQ.blkR ?_
 refine TQ.thenR ?_
 refine TQ.ret Tryz.results114 rfl ((.tmp rfl .nil)) ?_
 exact fun w hw => ⟨⟨k, by omega, hall, fun _ => hc1⟩, by simp [hkn]; rfl, by simpa [aft, hkn] using hw⟩
 try simp only [zcb9] at hc1
 refine TW.skip ?_
 refine TQ.blkN ?_
 refine TQ.thenN (hY6 _ _ ?_)
 refine TW.region ?_
 refine TL.p Pu.ad ?_
 refine TL.p Pu.mv ?_
 refine TL.nil ?_
 refine TQ.thenN (hZ0 (k + 1) _ _ ?_ ?_ fs9 ?_)
 refine ⟨by omega, fun j hj => ?_⟩
 by_cases h : j = k
 subst h; exact hc1
 exact hall j (by omega)
 exact zom9
 rw [List.append_nil]; exact KSub.refl _
 try simp only [zcb9] at hc0
 have hkn : k = n := by omega
 refine TW.exit ?_
 refine TQ.thenX ?_
 refine TQ.thenX ?_
 refine TQ.blkX ?_
 refine TQ.thenN (hY2 _ _ ?_)
 refine TW.seq fun Y10 hY10 => TW.region ?_
 refine TL.p Pu.as ?_
 refine TL.nil (TQ.thenN (hY10 _ _ ?_))
 refine TW.ret ?_
 refine TQ.ret Tryz.results114 rfl ((.tmp rfl .nil)) ?_
 exact fun w hw => ⟨⟨k, by omega, hall, fun h => by omega⟩, by simp [hkn]; rfl, by simpa [aft, hkn] using hw⟩
theorem hasInt_st {g : FuncId} {fs cs : List Value} {A : Option Addr} {n cp : Nat} {v : Nat → Int} {p : Nat → Bool} {M : Nat → List Fact} {w : World} (hen : Enters Tryz.prog g) (hn : n ≤ 9223372036854775807)
  (hR : RdR w 1 A n (fun k => [.int .i64 (v k)])) (hA : 0 < n → Apart (feet (M 0)) A) (hM : Sat (feet (M 0)) w (M 0) w) (hfe : ∀ k, feet (M k) = feet (M 0))
  (hg : ∀ k, k < n → (∀ j, j < k → p j = false) → ∀ w', Sat (feet (M 0)) w (M k) w' → CallsK Tryz.prog g (fs ++ [Value.int .i64 (v k)] ++ cs).toArray (M k) w' Unit (fun _ => .bool (p k)) (fun _ => M (k + 1))) :
  CallsK Tryz.prog 81 #[.slice A n cp, .func (.func g) fs.toArray cs.toArray] (M 0) w (Fst p n) (fun x => .bool (decide (x.1 < n))) (fun x => M (aft n x.1)) := by
 refine K_enter (S := feet (M 0)) (K := M 0) Tryz.func81 rfl Tryz.ntmps81 rfl hM ?_
 refine TW.seq fun Y1 hY1 => TW.region ?_
 refine TL.p Pu.as ?_
 refine TL.nil (TQ.thenN (hY1 _ _ ?_))
 refine TW.seq fun Y2 hY2 => TW.region ?_
 refine TL.p Pu.mv ?_
 refine TL.p Pu.mv ?_
 refine TL.call rfl (enters Tryz.func114 rfl rfl) (by rw [List.append_nil]) rfl (fun w hw => by
   exact indexInt_any hen hn (hR.sat0 hw hA) hA hw.self hfe (fun k hk hp w' hw' => hg k hk hp w' (hw'.from hw.chg fun _ hb => .inl hb))) ?_
 intro x
 refine TL.p Pu.ge ?_
 refine TL.p Pu.as ?_
 refine TL.nil (TQ.thenN (hY2 _ _ ?_))
 refine TW.ret ?_
 refine TQ.ret Tryz.results81 rfl ((.tmp rfl .nil)) ?_
 exact fun w hw => ⟨x, by by_cases h : x.1 < n <;> simp [retV, h], by simpa using hw⟩
theorem hasInt_any {g : FuncId} {fs cs : List Value} {A : Option Addr} {n cp : Nat} {v : Nat → Int} {p : Nat → Bool} {w : World} (hen : Enters Tryz.prog g) (hn : n ≤ 9223372036854775807)
  (hR : RdR w 1 A n (fun k => [.int .i64 (v k)])) (hg : ∀ k, k < n → ∀ w', Below w.heap.size w w' → Calls Tryz.prog g (fs ++ [Value.int .i64 (v k)] ++ cs).toArray w' (Ret w' (.bool (p k)))) :
  Calls Tryz.prog 81 #[.slice A n cp, .func (.func g) fs.toArray cs.toArray] w (Ret w (.bool (anyB n p))) :=
 CallsK.retOf (hasInt_st (M := fun _ => []) hen hn hR (fun _ => Apart.nil) (Sat.start w) (fun _ => rfl) fun k hk _ w' hw' => CallsK.ret (hg k hk w' (Chg.ext hw'.chg))) fun x => by rw [x.any]; rfl
end Go.Proofs.YtehlbkmebaideaaGreatDoor
namespace Go.Proofs
open Go.Shelf
def Tryz.lays169_ren : Go.Shelf.Ren := ⟨fun | 169 => 50 | n => n, fun | 70 => 89 | 9 => 9 | 0 => 0 | 72 => 92 | 37 => 90 | 127 => 126 | 3 => 3 | 5 => 5 | n => n, fun | n => n⟩
theorem Tryz.lays169 : Go.Proofs.Lays.n169 Tryz.prog Tryz.lays169_ren := {
 mixed := by kernel_rfl
 f169 := Tryz.func50.trans (congrArg some (by kernel_rfl))
 t0 := Tryz.underlying0
 a0 := Tryz.isAgg0
 z0 := Tryz.sizeOf0
 v0 := Tryz.zeroValue0
 t3 := Tryz.underlying3
 a3 := Tryz.isAgg3
 z3 := Tryz.sizeOf3
 v3 := Tryz.zeroValue3
 t9 := Tryz.underlying9
 a9 := Tryz.isAgg9
 z9 := Tryz.sizeOf9
 v9 := Tryz.zeroValue9
 t37 := Tryz.underlying90
 a37 := Tryz.isAgg90
 z37 := Tryz.sizeOf90
 v37 := Tryz.zeroValue90
 t70 := Tryz.underlying89
 a70 := Tryz.isAgg89
 z70 := Tryz.sizeOf89
 v70 := Tryz.zeroValue89
 t72 := Tryz.underlying92
 a72 := Tryz.isAgg92
 z72 := Tryz.sizeOf92
 v72 := Tryz.zeroValue92
 t127 := Tryz.underlying126
 a127 := Tryz.isAgg126
 z127 := Tryz.sizeOf126
 v127 := Tryz.zeroValue126 }
theorem Tryz.Builder_Extra_169 : Builder.Extra Tryz.prog Tryz.lays169_ren := {
 sizeBuilder := by kernel_rfl
 liesBuilder := by kernel_rfl
 t5 := Tryz.underlying5
 a5 := Tryz.isAgg5
 z5 := Tryz.sizeOf5
 v5 := Tryz.zeroValue5
 infoByte := by kernel_rfl
 cellsByte := by kernel_rfl
 sizeByte := by kernel_rfl
 neB5 := by decide }
open Go.RowKit in
theorem Tryz.Builder_String_any (B b : Nat) (l : List UInt8) (w : World) (h : Lib.IsBuilder 92 5 B b (Lib.byteCells l) w) (hBw : B ≤ w.heap.size) :
 Calls Tryz.prog 50 #[.pointer (some ⟨b, 0, none⟩)] w fun e w' => e = .returned (.string ⟨l.toArray⟩) ∧ Below B w w' := Any.Builder_String_any Tryz.lays169 Tryz.Builder_Extra_169 B b l w h hBw
def Tryz.laysM171_ren : Go.Shelf.Ren := ⟨fun | 171 => 45 | 243 => 65 | 246 => 91 | 283 => 125 | 284 => 126 | 285 => 127 | 286 => 128 | 129 => 197 | 317 => 196 | 318 => 198 | 319 => 199 | 320 => 200 | 337 => 269 | 338 => 270 | n => n, fun | 3 => 3 | 9 => 9 | 2 => 2 | 4 => 4 | 171 => 217 | 0 => 0 | 53 => 218 | 37 => 90 | 5 => 5 | 173 => 221 | 212 => 298 | 51 => 299 | 20 => 20 | 213 => 300 | 46 => 265 | 232 => 439 | 233 => 440 | n => n, fun | 17 => 3 | 18 => 7 | 19 => 8 | n => n⟩
theorem Tryz.laysM171 : Go.Proofs.LaysM.n171 Tryz.prog Tryz.laysM171_ren := {
 mixed := by kernel_rfl
 f129 := Tryz.func197.trans (congrArg some (by kernel_rfl))
 f171 := Tryz.func45.trans (congrArg some (by kernel_rfl))
 f243 := Tryz.func65.trans (congrArg some (by kernel_rfl))
 f246 := Tryz.func91.trans (congrArg some (by kernel_rfl))
 f283 := Tryz.func125.trans (congrArg some (by kernel_rfl))
 f284 := Tryz.func126.trans (congrArg some (by kernel_rfl))
 f285 := Tryz.func127.trans (congrArg some (by kernel_rfl))
 f286 := Tryz.func128.trans (congrArg some (by kernel_rfl))
 f317 := Tryz.func196.trans (congrArg some (by kernel_rfl))
 f318 := Tryz.func198.trans (congrArg some (by kernel_rfl))
 f319 := Tryz.func199.trans (congrArg some (by kernel_rfl))
 f320 := Tryz.func200.trans (congrArg some (by kernel_rfl))
 f337 := Tryz.func269.trans (congrArg some (by kernel_rfl))
 f338 := Tryz.func270.trans (congrArg some (by kernel_rfl))
 t0 := Tryz.underlying0
 a0 := Tryz.isAgg0
 z0 := Tryz.sizeOf0
 v0 := Tryz.zeroValue0
 t2 := Tryz.underlying2
 a2 := Tryz.isAgg2
 z2 := Tryz.sizeOf2
 v2 := Tryz.zeroValue2
 t3 := Tryz.underlying3
 a3 := Tryz.isAgg3
 z3 := Tryz.sizeOf3
 v3 := Tryz.zeroValue3
 t4 := Tryz.underlying4
 a4 := Tryz.isAgg4
 z4 := Tryz.sizeOf4
 v4 := Tryz.zeroValue4
 t5 := Tryz.underlying5
 a5 := Tryz.isAgg5
 z5 := Tryz.sizeOf5
 v5 := Tryz.zeroValue5
 t9 := Tryz.underlying9
 a9 := Tryz.isAgg9
 z9 := Tryz.sizeOf9
 v9 := Tryz.zeroValue9
 t20 := Tryz.underlying20
 a20 := Tryz.isAgg20
 z20 := Tryz.sizeOf20
 v20 := Tryz.zeroValue20
 t37 := Tryz.underlying90
 a37 := Tryz.isAgg90
 z37 := Tryz.sizeOf90
 v37 := Tryz.zeroValue90
 t46 := Tryz.underlying265
 a46 := Tryz.isAgg265
 z46 := Tryz.sizeOf265
 v46 := Tryz.zeroValue265
 t51 := Tryz.underlying299
 a51 := Tryz.isAgg299
 z51 := Tryz.sizeOf299
 v51 := Tryz.zeroValue299
 t53 := Tryz.underlying218
 a53 := Tryz.isAgg218
 z53 := Tryz.sizeOf218
 v53 := Tryz.zeroValue218
 t171 := Tryz.underlying217
 a171 := Tryz.isAgg217
 z171 := Tryz.sizeOf217
 v171 := Tryz.zeroValue217
 t173 := Tryz.underlying221
 a173 := Tryz.isAgg221
 z173 := Tryz.sizeOf221
 v173 := Tryz.zeroValue221
 t212 := Tryz.underlying298
 a212 := Tryz.isAgg298
 z212 := Tryz.sizeOf298
 v212 := Tryz.zeroValue298
 t213 := Tryz.underlying300
 a213 := Tryz.isAgg300
 z213 := Tryz.sizeOf300
 t232 := Tryz.underlying439
 a232 := Tryz.isAgg439
 z232 := Tryz.sizeOf439
 v232 := Tryz.zeroValue439
 t233 := Tryz.underlying440
 a233 := Tryz.isAgg440
 z233 := Tryz.sizeOf440
 v233 := Tryz.zeroValue440
 g17 := by kernel_rfl
 g18 := by kernel_rfl
 g19 := by kernel_rfl
 i0 := by kernel_rfl
 i2 := by kernel_rfl
 i3 := by kernel_rfl
 i4 := by kernel_rfl
 i5 := by kernel_rfl
 i9 := by kernel_rfl
 i20 := by kernel_rfl
 i37 := by kernel_rfl
 i46 := by kernel_rfl
 i51 := by kernel_rfl
 i53 := by kernel_rfl
 i171 := by kernel_rfl
 i173 := by kernel_rfl
 i212 := by kernel_rfl
 i232 := by kernel_rfl
 i233 := by kernel_rfl
 m17 := by kernel_rfl
 m18 := by kernel_rfl
 m19 := by kernel_rfl }
open Go.RowKit Go.Sort Go.Lib in
theorem Tryz.strconv_Itoa (n : Int) (h0 : -9223372036854775808 ≤ n) (h1 : n ≤ 9223372036854775807) (w : World) (htab : Lib.TabIs Tryz.prog w "internal/strconv.uint64pow10" .u64 Lib.pow10Tab) :
 Calls Tryz.prog 45 #[.int .i64 n] w fun e w' => e = .returned (.string ⟨(Lib.itoa n).toArray⟩) ∧ ∃ k os, w' = grow (w.drewN k) os := Any.strconv_Itoa Tryz.laysM171 n h0 h1 w htab
end Go.Proofs
namespace Go.Proofs.YtehlbkmebaideaaGreatDoor
set_option linter.all false
set_option linter.unusedVariables false
set_option linter.unusedSimpArgs false
open Go.RowKit Go.Lib
theorem byT : ByT Tryz.prog 90 9 5 := ⟨Tryz.underlying90, Tryz.underlying9, by
 obtain ⟨i, h1, h2, h3, h4⟩ := info_parts ty_i5
 exact ⟨i, h1, h2, h3, h4⟩⟩
def Pow (w : World) : Prop := TabIs Tryz.prog w "internal/strconv.uint64pow10" .u64 pow10Tab
theorem Pow.chg {S : List Nat} {w0 w : World} (h : Pow w0) (hc : Chg S w0 w) (hS : ∀ g, Tryz.prog.globalNamed "internal/strconv.uint64pow10" = some g → g ∉ S) : Pow w := by
 unfold Pow TabIs World.var? at h ⊢
 cases hg : Tryz.prog.globalNamed "internal/strconv.uint64pow10" with
 | none => rw [hg] at h; exact h
 | some g =>
  rw [hg] at h
  simp only [Option.bind_some] at h ⊢
  have hlt : g < w0.heap.size := by
   rcases Nat.lt_or_ge g w0.heap.size with h' | h'
   · exact h'
   · simp [Array.getElem?_eq_none h'] at h
  rw [hc.block g hlt (hS g hg)]
  exact h
theorem Pow.sat {w0 w : World} {K : List Fact} (h : Pow w0) (hw : Sat [] w0 K w) : Pow w := h.chg hw.chg fun _ _ => by simp
theorem itoa_any {n : Int} (h : -9223372036854775808 ≤ n ∧ n ≤ 9223372036854775807) {w : World} (hP : Pow w) : Calls Tryz.prog 45 #[.int .i64 n] w (Ret w (sv (itoa n))) := by
 refine Calls.mono (Tryz.strconv_Itoa n h.1 h.2 w hP) ?_
 rintro e w' ⟨rfl, k, os, rfl⟩
 refine ⟨rfl, ?_⟩
 exact ⟨rfl, rfl, rfl, by simp [Sort.grow, World.drewN], fun q hq => by simp [Sort.grow, World.drewN, Array.getElem?_append_left hq]⟩
set_option maxRecDepth 100000 in
theorem phrase_any {wd : List UInt8} {l : List Int} {A : Option Addr} {cp : Nat} {w : World} (hP : Pow w) (hwd : wd.length ≤ 1000000) (hl : l.length ≤ 1000) (hn : l.all wrB = true) (hR : RdR w 1 A l.length (iL l)) :
  Calls Tryz.prog 19 #[sv wd, .slice A l.length cp] w (Ret w (sv (phr wd l))) := by
 refine K_enter (S := []) (K := []) Tryz.func19 rfl Tryz.ntmps19 rfl (Sat.start _) ?_
 refine TW.seq fun Y1 hY1 => TW.region ?_
 refine TL.p Pu.as ?_
 refine TL.nil (TQ.thenN (hY1 _ _ ?_))
 refine TW.seq fun Y2 hY2 => ?_
 refine TW.seq fun Y3 hY3 => TW.region ?_
 refine TL.p Pu.mv ?_
 refine TL.p (Pu.ln Tryz.underlying48) ?_
 refine TL.p Pu.mv ?_
 refine TL.nil (TQ.thenN (hY3 _ _ ?_))
 refine TW.block ?_
 refine TW.loop1 (fun (k : Nat) => [(9, .int .i64 (k : Int)), (8, .int .i64 (l.length : Int)), (7, .slice A l.length cp), (0, sv (phr wd (l.take k)))]) (fun k => []) (fun k => k ≤ l.length) (fun k => l.length - k) 0 fs9 ?_ ?_ ?_
 exact ks9
 exact Nat.zero_le _
 rintro k hk Z0 hZ0
 refine TW.seq fun Y4 hY4 => TW.region ?_
 refine TL.p Pu.lt ?_
 refine TL.nil (TQ.thenN (hY4 _ _ ?_))
 refine TW.seq fun Y5 hY5 => ?_
 refine TW.cond rfl (fun hc0 => ?_) (fun hc0 => ?_)
 try simp only [zcb9] at hc0
 have hkl : k < l.length := by omega
 have l1 := phr_wr (w := wd) (l := l.take k) (all_take hn)
 have l2 := itoa_length_le (l.getD k 0) (by have := all_get hn hkl; omega) (by have := all_get hn hkl; omega)
 have l3 : (l.take k).length ≤ 1000 := by rw [List.length_take]; omega
 refine TW.skip ?_
 refine TQ.thenN (hY5 _ _ ?_)
 refine TW.seq fun Y6 hY6 => ?_
 refine TW.block ?_
 refine TW.seq fun Y7 hY7 => TW.region ?_
 refine TL.p (Pu.el ty_et48) ?_
 refine TL.p (Pu.ld ty_sc3) ?_
 refine TL.p Pu.as ?_
 refine TL.nil (TQ.thenN (hY7 _ _ ?_))
 refine TW.region ?_
 refine TL.p Pu.mv ?_
 refine TL.p Pu.mv ?_
 refine TL.cr rfl (enters Tryz.func45 rfl rfl) (fun w hw => by
   exact itoa_any (by have := all_get hn hkl; omega) (hP.sat hw)) ?_
 refine TL.p Pu.sad ?_
 refine TL.p (Pu.sw Pu.sad (phr_step hkl)) ?_
 refine TL.p Pu.as ?_
 refine TL.nil ?_
 refine TQ.blkN ?_
 refine TQ.thenN (hY6 _ _ ?_)
 refine TW.region ?_
 refine TL.p Pu.ad ?_
 refine TL.p Pu.mv ?_
 refine TL.nil ?_
 refine TQ.thenN (hZ0 (k + 1) _ _ ?_ ?_ fs9 ?_)
 exact (by omega)
 exact zom9
 exact ks9
 try simp only [zcb9] at hc0
 obtain rfl : k = l.length := by omega
 refine TW.exit ?_
 refine TQ.thenX ?_
 refine TQ.thenX ?_
 refine TQ.blkX ?_
 refine TQ.thenN (hY2 _ _ ?_)
 refine TW.seq fun Y8 hY8 => TW.region ?_
 refine TL.p Pu.mv ?_
 refine TL.p Pu.as ?_
 refine TL.nil (TQ.thenN (hY8 _ _ ?_))
 refine TW.ret ?_
 refine TQ.ret Tryz.results19 rfl ((.tmp rfl .nil)) ?_
 exact fun w hw => ⟨retS (by rw [List.take_length]), Chg.ext hw.chg⟩
theorem knots_any (w : World) : CallsK Tryz.prog 46 #[] [] w Nat (fun b => .func (.func 66) #[] #[.pointer (some ⟨b, 0, none⟩)]) (fun b => [.blk b 3 [.int .i64 23]]) := by
 refine K_enter (S := []) (K := []) Tryz.func46 rfl Tryz.ntmps46 rfl (Sat.start _) ?_
 refine TW.seq fun Y1 hY1 => TW.region ?_
 refine TL.p Pu.as ?_
 refine TL.nil (TQ.thenN (hY1 _ _ ?_))
 refine TW.seq fun Y2 hY2 => TW.region ?_
 refine TL.m (Mk.al ty_zr3) ?_
 intro b1
 first | refine TL.st ty_sz3 ?_ | refine TL.se ty_sz3 ?_
 refine TL.nil (TQ.thenN (hY2 _ _ ?_))
 refine TW.seq fun Y3 hY3 => TW.region ?_
 refine TL.p Pu.fn ?_
 refine TL.p Pu.as ?_
 refine TL.nil (TQ.thenN (hY3 _ _ ?_))
 refine TW.ret ?_
 refine TQ.ret Tryz.results46 rfl ((.tmp rfl .nil)) ?_
 exact fun w hw => ⟨b1, rfl, hw⟩
set_option maxRecDepth 100000 in
theorem knot1_any {b s : Nat} {t : List UInt8} {w : World} (hs : s < 8191) (ht : t.length ≤ 1000000000) (hb : Sat (feet [.blk b 3 [.int .i64 (s : Int)]]) w [.blk b 3 [.int .i64 (s : Int)]] w) :
  CallsK Tryz.prog 66 #[sv t, .pointer (some ⟨b, 0, none⟩)] [.blk b 3 [.int .i64 (s : Int)]] w Unit (fun _ => .int .i64 (ckL s t : Int)) (fun _ => [.blk b 3 [.int .i64 (ckL s t : Int)]]) := by
 refine K_enter (S := feet [.blk b 3 [.int .i64 (s : Int)]]) (K := [.blk b 3 [.int .i64 (s : Int)]]) Tryz.func66 rfl Tryz.ntmps66 rfl hb ?_
 refine TW.seq fun Y1 hY1 => TW.region ?_
 refine TL.p Pu.as ?_
 refine TL.nil (TQ.thenN (hY1 _ _ ?_))
 refine TW.seq fun Y2 hY2 => ?_
 refine TW.seq fun Y3 hY3 => TW.region ?_
 refine TL.p Pu.mv ?_
 refine TL.cvb Tryz.underlying9 Tryz.underlying90 Tryz.underlying5 ?_
 intro b1 c1
 refine TL.p (Pu.ln Tryz.underlying90) ?_
 refine TL.p Pu.mv ?_
 refine TL.nil (TQ.thenN (hY3 _ _ ?_))
 refine TW.block ?_
 refine TW.loop1 (fun (k : Nat) => [(9, .int .i64 (k : Int)), (8, .int .i64 (t.length : Int)), (7, .slice (some ⟨b1, 0, none⟩) t.length c1), (1, .pointer (some ⟨b, 0, none⟩))]) (fun k => [.pr [b1] (fun w => RdR w 1 (some ⟨b1, 0, none⟩) t.length (bR t)), .blk b 3 [.int .i64 (ckL s (t.take k) : Int)]]) (fun k => k ≤ t.length) (fun k => t.length - k) 0 fs9 ?_ ?_ ?_
 exact ks9
 exact Nat.zero_le _
 rintro k hk Z0 hZ0
 have hck : ckL s (t.take k) < 8191 := ckL_lt hs
 refine TW.seq fun Y4 hY4 => TW.region ?_
 refine TL.p Pu.lt ?_
 refine TL.nil (TQ.thenN (hY4 _ _ ?_))
 refine TW.seq fun Y5 hY5 => ?_
 refine TW.cond rfl (fun hc0 => ?_) (fun hc0 => ?_)
 try simp only [zcb9] at hc0
 have hkl : k < t.length := by omega
 have hbd := u8_bd (t.getD k 0)
 have hst : (37 * (ckL s (t.take k) : Int) + ((t.getD k 0).toNat : Int)) % 8191 = (ckL s (t.take (k + 1)) : Int) := by
  have hg : t[k]? = some (t.getD k 0) := by rw [List.getD_eq_getElem?_getD, List.getElem?_eq_getElem hkl]; rfl
  rw [List.take_succ, hg]
  show _ = (ckL s (t.take k ++ [t.getD k 0]) : Int)
  rw [ckL_snoc]
  unfold ckB
  omega
 refine TW.skip ?_
 refine TQ.thenN (hY5 _ _ ?_)
 refine TW.seq fun Y6 hY6 => ?_
 refine TW.block ?_
 refine TW.seq fun Y7 hY7 => TW.region ?_
 refine TL.p (Pu.el ty_et90 (q := k) (hk := by omega) (hA := CellsN.prr pk9 hkl SubL.nil)) ?_
 refine TL.p (Pu.ld ty_sc5 rfl (CellsN.prr pk9 hkl (SubL.take SubL.nil)).1) ?_
 refine TL.p Pu.as ?_
 refine TL.nil (TQ.thenN (hY7 _ _ ?_))
 refine TW.region ?_
 refine TL.p (by first | exact (Pu.ld ty_sc3) | exact (Pu.ldo ty_sc3)) ?_
 refine TL.p Pu.ml ?_
 refine TL.p Pu.mv ?_
 refine TL.p (Pu.cv (v := .int .i64 ((t.getD k 0).toNat : Int)) rfl (fun w => by go_simp; exact IntWalk.i64_in _ (by have h := u8_bd (t[k]'hkl); omega))) ?_
 refine TL.p Pu.ad ?_
 refine TL.p (Pu.iv Pu.rm hst) ?_
 first | refine TL.st ty_sz3 ?_ | refine TL.se ty_sz3 ?_
 refine TL.nil ?_
 refine TQ.blkN ?_
 refine TQ.thenN (hY6 _ _ ?_)
 refine TW.region ?_
 refine TL.p Pu.ad ?_
 refine TL.p Pu.mv ?_
 refine TL.nil ?_
 refine TQ.thenN (hZ0 (k + 1) _ _ ?_ ?_ fs9 ?_)
 exact (by omega)
 exact zom9
 exact ks9
 try simp only [zcb9] at hc0
 obtain rfl : k = t.length := by omega
 refine TW.exit ?_
 refine TQ.thenX ?_
 refine TQ.thenX ?_
 refine TQ.blkX ?_
 refine TQ.thenN (hY2 _ _ ?_)
 refine TW.seq fun Y8 hY8 => TW.region ?_
 refine TL.p (by first | exact (Pu.ld ty_sc3) | exact (Pu.ldo ty_sc3)) ?_
 refine TL.p Pu.as ?_
 refine TL.nil (TQ.thenN (hY8 _ _ ?_))
 refine TW.ret ?_
 refine TQ.ret Tryz.results66 rfl ((.tmp rfl .nil)) ?_
 exact fun w hw => ⟨(), by rw [List.take_length]; rfl, by rw [List.take_length] at hw; exact hw.sub ks9⟩
theorem sevS (f : Nat → Int) : ∀ k : Nat, k < 7 → ∀ w : World, (Instr.index 124 (.agg #[.int .i64 (f 0), .int .i64 (f 1), .int .i64 (f 2), .int .i64 (f 3), .int .i64 (f 4), .int .i64 (f 5), .int .i64 (f 6), .int .i64 (f 7), .int .i64 (f 8), .int .i64 (f 9), .int .i64 (f 10), .int .i64 (f 11), .int .i64 (f 12), .int .i64 (f 13)]) (.int .i64 (k : Int))).run Tryz.prog w = .ok (.agg #[.int .i64 (f (2 * k)), .int .i64 (f (2 * k + 1))]) w
 | 0, _ => fun w => by kernel_rfl
 | 1, _ => fun w => by kernel_rfl
 | 2, _ => fun w => by kernel_rfl
 | 3, _ => fun w => by kernel_rfl
 | 4, _ => fun w => by kernel_rfl
 | 5, _ => fun w => by kernel_rfl
 | 6, _ => fun w => by kernel_rfl
 | k + 7, h => by omega
def rkL (f : Nat → Int) (k : Nat) : List Int := (List.range (2 * k)).map f
theorem rk_len {f : Nat → Int} {k : Nat} : (rkL f k).length = 2 * k := by simp [rkL]
theorem rk_succ {f : Nat → Int} {k : Nat} : rkL f k ++ [f (2 * k), f (2 * k + 1)] = rkL f (k + 1) := by
 unfold rkL
 rw [show 2 * (k + 1) = 2 * k + 1 + 1 by omega, List.range_succ, List.range_succ]
 simp
set_option maxRecDepth 100000 in
theorem rowNums_any {f : Nat → Int} (w : World) : CallsK Tryz.prog 43 #[.agg (rwL f).toArray] [] w (Option Addr × Nat) (fun x => .slice x.1 14 x.2) (fun x => [.own x.1 14 x.2 3 1 (iL (rowN f))]) := by
 refine K_enter (S := []) (K := []) Tryz.func43 rfl Tryz.ntmps43 rfl (Sat.start _) ?_
 refine TW.seq fun Y1 hY1 => TW.region ?_
 refine TL.m Mk.bx ?_
 intro b1
 refine TL.p Pu.as ?_
 refine TL.nil (TQ.thenN (hY1 _ _ ?_))
 refine TW.seq fun Y2 hY2 => TW.region ?_
 refine TL.p Pu.as ?_
 refine TL.nil (TQ.thenN (hY2 _ _ ?_))
 refine TW.seq fun Y3 hY3 => ?_
 refine TW.seq fun Y4 hY4 => TW.region ?_
 refine TL.p (by first | exact Pu.fb ty_fa63_0 | exact Pu.fe ty_fa63_0) ?_
 refine TL.p (Pu.lds ty_ag61) ?_
 refine TL.p (by first | exact Pu.fb ty_fa63_1 | exact Pu.fe ty_fa63_1) ?_
 refine TL.p (Pu.lds ty_ag61) ?_
 refine TL.p (by first | exact Pu.fb ty_fa63_2 | exact Pu.fe ty_fa63_2) ?_
 refine TL.p (Pu.lds ty_ag61) ?_
 refine TL.p (by first | exact Pu.fb ty_fa63_3 | exact Pu.fe ty_fa63_3) ?_
 refine TL.p (Pu.lds ty_ag61) ?_
 refine TL.p (by first | exact Pu.fb ty_fa63_4 | exact Pu.fe ty_fa63_4) ?_
 refine TL.p (Pu.lds ty_ag61) ?_
 refine TL.p (by first | exact Pu.fb ty_fa63_5 | exact Pu.fe ty_fa63_5) ?_
 refine TL.p (Pu.lds ty_ag61) ?_
 refine TL.p (by first | exact Pu.fb ty_fa63_6 | exact Pu.fe ty_fa63_6) ?_
 refine TL.p (Pu.lds ty_ag61) ?_
 refine TL.p Pu.bd ?_
 refine TL.p Pu.mv ?_
 refine TL.nil (TQ.thenN (hY4 _ _ ?_))
 refine TW.block ?_
 refine TW.loop3 (fun (k : Nat) (A : Option Addr) (c : Nat) => [(21, .int .i64 (k : Int)), (20, .agg #[.int .i64 (f 0), .int .i64 (f 1), .int .i64 (f 2), .int .i64 (f 3), .int .i64 (f 4), .int .i64 (f 5), .int .i64 (f 6), .int .i64 (f 7), .int .i64 (f 8), .int .i64 (f 9), .int .i64 (f 10), .int .i64 (f 11), .int .i64 (f 12), .int .i64 (f 13)]), (3, .slice A (2 * k) c)]) (fun k A c => [.own A (2 * k) c 3 1 (iL (rkL f k))]) (fun k A c => k ≤ 7) (fun k A c => 7 - k) 0 none 0 fs9 ?_ ?_ ?_
 exact KSub.nilOwn KSub.nil
 exact Nat.zero_le _
 rintro k A c hk Z0 hZ0
 refine TW.seq fun Y5 hY5 => TW.region ?_
 refine TL.p Pu.lt ?_
 refine TL.nil (TQ.thenN (hY5 _ _ ?_))
 refine TW.seq fun Y6 hY6 => ?_
 refine TW.cond rfl (fun hc0 => ?_) (fun hc0 => ?_)
 try simp only [zcb9] at hc0
 have hk7 : k < 7 := by omega
 refine TW.skip ?_
 refine TQ.thenN (hY6 _ _ ?_)
 refine TW.seq fun Y7 hY7 => ?_
 refine TW.block ?_
 refine TW.seq fun Y8 hY8 => TW.region ?_
 refine TL.p (Pu.ix rfl rfl (sevS f k hk7)) ?_
 refine TL.m (Mk.al ty_zr61) ?_
 intro b2
 first | refine TL.st ty_sz61 ?_ | refine TL.se ty_sz61 ?_
 refine TL.nil (TQ.thenN (hY8 _ _ ?_))
 refine TW.region ?_
 refine TL.p Pu.mv ?_
 refine TL.p (by first | exact Pu.fb ty_fa61_0 | exact Pu.fe ty_fa61_0) ?_
 refine TL.p (Pu.ld ty_sc3) ?_
 refine TL.p (by first | exact Pu.fb ty_fa61_1 | exact Pu.fe ty_fa61_1) ?_
 refine TL.p (Pu.ld ty_sc3) ?_
 refine TL.m Mk.bl ?_
 intro b3
 refine TL.subK (K' := [.own (some ⟨b3, 0, none⟩) 2 2 3 1 (iL [f (2 * k), f (2 * k + 1)]), .own A (2 * k) c 3 1 (iL (rkL f k))]) (KSub.ofBlk pk9 rfl (fun i hi => rfl) rfl rfl ks9) ?_
 first | refine TL.a0 ty_et48 ?_ | refine TL.ap ty_et48 ?_
 intro A4 c4
 refine TL.p Pu.as ?_
 refine TL.nil ?_
 refine TQ.blkN ?_
 refine TQ.thenN (hY7 _ _ ?_)
 refine TW.region ?_
 refine TL.p Pu.ad ?_
 refine TL.p Pu.mv ?_
 refine TL.nil ?_
 refine TQ.thenN (hZ0 (k + 1) A4 c4 _ _ ?_ ?_ fs9 ?_)
 exact (by omega)
 exact zom9
 exact KSub.own pk9 (fun i _ => by rw [iL_cat rk_len.symm, rk_succ]) KSub.nil
 try simp only [zcb9] at hc0
 obtain rfl : k = 7 := by omega
 refine TW.exit ?_
 refine TQ.thenX ?_
 refine TQ.thenX ?_
 refine TQ.blkX ?_
 refine TQ.thenN (hY3 _ _ ?_)
 refine TW.seq fun Y9 hY9 => TW.region ?_
 refine TL.p Pu.mv ?_
 refine TL.p Pu.as ?_
 refine TL.nil (TQ.thenN (hY9 _ _ ?_))
 refine TW.ret ?_
 refine TQ.ret Tryz.results43 rfl ((.tmp rfl .nil)) ?_
 exact fun w hw => ⟨(A, c), rfl, hw⟩
set_option maxRecDepth 100000 in
theorem letNums_any {x : Ltr} (hk : 0 ≤ x.kind ∧ x.kind ≤ 255) (w : World) : CallsK Tryz.prog 44 #[.agg (ltL x).toArray] [] w (Option Addr × Nat) (fun y => .slice y.1 8 y.2) (fun y => [.own y.1 8 y.2 3 1 (iL (ltrN x))]) := by
  refine K_enter (S := []) (K := []) Tryz.func44 rfl Tryz.ntmps44 rfl (Sat.start _) ?_
  refine TW.seq fun Y1 hY1 => TW.region ?_
  refine TL.m Mk.bx ?_
  intro b1
  refine TL.p Pu.as ?_
  refine TL.nil (TQ.thenN (hY1 _ _ ?_))
  refine TW.seq fun Y2 hY2 => TW.region ?_
  refine TL.p (by first | exact Pu.fb ty_fa66_0 | exact Pu.fe ty_fa66_0) ?_
  refine TL.p (Pu.ld ty_sc3) ?_
  refine TL.p (by first | exact Pu.fb ty_fa66_1 | exact Pu.fe ty_fa66_1) ?_
  refine TL.p (Pu.ld ty_sc3) ?_
  refine TL.p (by first | exact Pu.fb ty_fa66_2 | exact Pu.fe ty_fa66_2) ?_
  refine TL.p (Pu.ld ty_sc5) ?_
  refine TL.p (Pu.cv (v := .int .i64 x.kind) rfl (fun w => by go_simp; rw [IntWalk.i64_in x.kind (by omega)])) ?_
  refine TL.p (by first | exact Pu.fb ty_fa66_3 | exact Pu.fe ty_fa66_3) ?_
  refine TL.p (Pu.ld ty_sc3) ?_
  refine TL.p (by first | exact Pu.fb ty_fa66_4 | exact Pu.fe ty_fa66_4) ?_
  refine TL.p (Pu.ld ty_sc3) ?_
  refine TL.p (by first | exact Pu.fb ty_fa66_5 | exact Pu.fe ty_fa66_5) ?_
  refine TL.p (Pu.ld ty_sc3) ?_
  refine TL.p (by first | exact Pu.fb ty_fa66_6 | exact Pu.fe ty_fa66_6) ?_
  refine TL.p (Pu.ld ty_sc3) ?_
  refine TL.m Mk.bl ?_
  intro b2
  refine TL.p Pu.as ?_
  refine TL.nil (TQ.thenN (hY2 _ _ ?_))
  refine TW.seq fun Y3 hY3 => ?_
  refine TW.seq fun Y4 hY4 => TW.region ?_
  refine TL.p (by first | exact Pu.fb ty_fa66_7 | exact Pu.fe ty_fa66_7) ?_
  refine TL.p (Pu.ld ty_sc4) ?_
  refine TL.nil (TQ.thenN (hY4 _ _ ?_))
  refine TW.cond rfl (fun hc0 => ?_) (fun hc0 => ?_)
  try simp only [zcb9] at hc0
  have hm : ltrN x = [x.id, x.day, x.kind, x.who, x.other, x.animal, x.rials, 1] := by unfold ltrN; rw [hc0]; rfl
  refine TW.region ?_
  refine TL.p Pu.mv ?_
  refine TL.subK (K' := [.own (some ⟨b2, 0, none⟩) 8 8 3 1 (iL [x.id, x.day, x.kind, x.who, x.other, x.animal, x.rials, 0])]) (KSub.ofBlk pk9 rfl (fun i hi => rfl) rfl rfl KSub.nil) ?_
  refine TL.p (Pu.el ty_et48 (q := 7) (hk := rfl)) ?_
  first | refine TL.st ty_sz3 ?_ | refine TL.se ty_sz3 ?_
  refine TL.nil (TQ.thenN (hY3 _ _ ?_))
  refine TW.seq fun Y5 hY5 => TW.region ?_
  refine TL.p Pu.mv ?_
  refine TL.p Pu.as ?_
  refine TL.nil (TQ.thenN (hY5 _ _ ?_))
  refine TW.ret ?_
  refine TQ.ret Tryz.results44 rfl ((.tmp rfl .nil)) ?_
  exact fun w hw => ⟨(some ⟨b2, 0, none⟩, 8), rfl, by rw [hm]; exact hw.sub (KSub.own pk9 (fun i hi => by
    match i, hi with
    | 0, _ => rfl
    | 1, _ => rfl
    | 2, _ => rfl
    | 3, _ => rfl
    | 4, _ => rfl
    | 5, _ => rfl
    | 6, _ => rfl
    | 7, _ => rfl) KSub.nil)⟩
  try simp only [zcb9] at hc0
  have hm : ltrN x = [x.id, x.day, x.kind, x.who, x.other, x.animal, x.rials, 0] := by unfold ltrN; rw [hc0]; rfl
  refine TW.skip ?_
  refine TQ.thenN (hY3 _ _ ?_)
  refine TW.seq fun Y6 hY6 => TW.region ?_
  refine TL.p Pu.mv ?_
  refine TL.p Pu.as ?_
  refine TL.nil (TQ.thenN (hY6 _ _ ?_))
  refine TW.ret ?_
  refine TQ.ret Tryz.results44 rfl ((.tmp rfl .nil)) ?_
  exact fun w hw => ⟨(some ⟨b2, 0, none⟩, 8), rfl, by rw [hm]; exact hw.sub (KSub.ofBlk pk9 rfl (fun i hi => rfl) rfl rfl KSub.nil)⟩
theorem lFrom1_any (x lo hi : Int) (b1 b2 : Nat) (w : World) (h1 : OldB w b1 [.int .i64 lo]) (h2 : OldB w b2 [.int .i64 hi]) :
  Calls Tryz.prog 82 #[.int .i64 x, .pointer (some ⟨b1, 0, none⟩), .pointer (some ⟨b2, 0, none⟩)] w (Ret w (.bool (!inB5 lo hi x))) := by
 refine K_enter (S := []) (K := []) Tryz.func82 rfl Tryz.ntmps82 rfl (Sat.start _) ?_
 refine TW.seq fun Y1 hY1 => TW.region ?_
 refine TL.p Pu.as ?_
 refine TL.nil (TQ.thenN (hY1 _ _ ?_))
 refine TW.seq fun Y2 hY2 => ?_
 refine TW.join [(4, .bool (decide (x < lo) || decide (hi < x)))] ?_ (fun hJ1 => ?_)
 refine TQ.thenN (hY2 _ _ ?_)
 refine TW.ret ?_
 refine TQ.ret Tryz.results82 rfl ((.tmp rfl .nil)) ?_
 exact fun w hw => ⟨ret_bool (by unfold inB5; rw [Bool.eq_iff_iff]; simp only [Bool.not_eq_true', Bool.and_eq_false_iff, Bool.or_eq_true, decide_eq_true_eq, decide_eq_false_iff_not]; omega), Chg.ext hw.chg⟩
 refine TW.region ?_
 refine TL.p Pu.mv ?_
 refine TL.p (by first | exact (Pu.ld ty_sc3) | exact (Pu.ldo ty_sc3)) ?_
 refine TL.p Pu.lt ?_
 refine TL.p Pu.mv ?_
 refine TL.guard (t := 8) rfl (fun hg1 => ?_) (fun hg1 => ?_)
 refine TL.gs ?_
 refine TL.gs ?_
 refine TL.gs ?_
 refine TL.p Pu.kt ?_
 refine TL.p Pu.as ?_
 refine TL.nil ?_
 exact TQ.sub (by repeat (first | exact trivial | refine ⟨rfl, ?_⟩ | refine ⟨trivial, ?_⟩ | refine ⟨(by show some (Value.bool _) = some (Value.bool _); first | (simp [hg1]; done) | (refine congrArg (fun z => some (Value.bool z)) (Bool.eq_iff_iff.2 ?_); simp [hg1]; omega)), ?_⟩)) ks9 hJ1
 refine TL.gd Pu.mv ?_
 refine TL.gd (by first | exact (Pu.ld ty_sc3) | exact (Pu.ldo ty_sc3)) ?_
 refine TL.gd Pu.gt ?_
 refine TL.p Pu.kf ?_
 refine TL.p Pu.as ?_
 refine TL.nil ?_
 exact TQ.sub (by repeat (first | exact trivial | refine ⟨rfl, ?_⟩ | refine ⟨trivial, ?_⟩ | refine ⟨(by show some (Value.bool _) = some (Value.bool _); first | (simp [hg1]; done) | (refine congrArg (fun z => some (Value.bool z)) (Bool.eq_iff_iff.2 ?_); simp [hg1]; omega)), ?_⟩)) ks9 hJ1
theorem lFrom_any (lo hi : Int) {A : Option Addr} {n cp : Nat} {v : Nat → Int} {w : World} (hn : n ≤ 9223372036854775807) (hR : RdR w 1 A n (fun k => [.int .i64 (v k)])) :
  Calls Tryz.prog 54 #[.int .i64 lo, .int .i64 hi, .slice A n cp] w (Ret w (.bool (allB n fun k => inB5 lo hi (v k)))) := by
 refine K_enter (S := []) (K := []) Tryz.func54 rfl Tryz.ntmps54 rfl (Sat.start _) ?_
 refine TW.seq fun Y1 hY1 => TW.region ?_
 refine TL.m Mk.bx ?_
 intro b1
 refine TL.m Mk.bx ?_
 intro b2
 refine TL.p Pu.as ?_
 refine TL.nil (TQ.thenN (hY1 _ _ ?_))
 refine TW.seq fun Y2 hY2 => TW.region ?_
 refine TL.p Pu.mv ?_
 refine TL.p Pu.fn ?_
 refine TL.cr rfl (enters Tryz.func81 rfl rfl) (fun w hw => by
   have h1 := OldB.of_blk (hw.holds (.blk b1 3 [.int .i64 lo]) (by simp))
   have h2 := OldB.of_blk (hw.holds (.blk b2 3 [.int .i64 hi]) (by simp))
   exact hasInt_any (fs := []) (p := fun k => !inB5 lo hi (v k)) (enters Tryz.func82 rfl rfl) hn (hR.sat hw Apart.nil) fun k hk w' hb => lFrom1_any _ _ _ b1 b2 w' (h1.ext hb) (h2.ext hb)) ?_
 refine TL.p Pu.no ?_
 refine TL.p Pu.as ?_
 refine TL.nil (TQ.thenN (hY2 _ _ ?_))
 refine TW.ret ?_
 refine TQ.ret Tryz.results54 rfl ((.tmp rfl .nil)) ?_
 exact fun w hw => ⟨ret_bool (by rw [not_anyB]; simp), Chg.ext hw.chg⟩
theorem allB_list {l : List Int} {p : Int → Bool} : allB l.length (fun k => p (l.getD k 0)) = l.all p := by
 rw [Bool.eq_iff_iff, allB_iff, List.all_eq_true]
 constructor
 · intro h x hx
   obtain ⟨i, hi, rfl⟩ := List.getElem_of_mem hx
   have := h i hi
   rwa [List.getD_eq_getElem?_getD, List.getElem?_eq_getElem hi] at this
 · exact fun h k hk => h _ (mem_getD hk)
theorem written_any {l : List Int} {A : Option Addr} {cp : Nat} {w : World} (hl : l.length ≤ 1000000000) (hR : RdR w 1 A l.length (iL l)) : Calls Tryz.prog 28 #[.slice A l.length cp] w (Ret w (.bool (l.all wrB))) := by
 refine K_enter (S := []) (K := []) Tryz.func28 rfl Tryz.ntmps28 rfl (Sat.start _) ?_
 refine TW.seq fun Y1 hY1 => TW.region ?_
 refine TL.p Pu.as ?_
 refine TL.nil (TQ.thenN (hY1 _ _ ?_))
 refine TW.seq fun Y2 hY2 => TW.region ?_
 refine TL.p Pu.mv ?_
 refine TL.cr rfl (enters Tryz.func54 rfl rfl) (fun w hw => by
  exact lFrom_any (-1000000000000) 1000000000000 (v := fun k => l.getD k 0) (by omega) (hR.sat hw Apart.nil)) ?_
 refine TL.p Pu.as ?_
 refine TL.nil (TQ.thenN (hY2 _ _ ?_))
 refine TW.ret ?_
 refine TQ.ret Tryz.results28 rfl ((.tmp rfl .nil)) ?_
 exact fun w hw => ⟨ret_bool (by rw [← allB_list]; rfl), Chg.ext hw.chg⟩
def ordV (n : Int) (f : FuncId) : Value := .agg #[.int .i64 n, .func (.func f) #[] #[]]
def ordL : List (List UInt8 × Value) := [([77, 65, 82, 67, 72], ordV 9 71), ([82, 69, 83, 84], ordV 4 72), ([77, 65, 82, 75], ordV 6 73), ([83, 84, 65, 82], ordV 2 74), ([78, 69, 65, 82], ordV 3 75), ([68, 82, 73, 78, 75], ordV 1 76), ([74, 79, 76, 84], ordV 2 77), ([83, 69, 84, 84, 76, 69], ordV 1 78), ([82, 79, 87], ordV 14 79), ([76, 69, 84, 84, 69, 82], ordV 8 80)]
set_option maxRecDepth 100000 in
theorem orders_any (w : World) : CallsK Tryz.prog 53 #[] [] w Nat (fun b => .map (some b)) (fun b => [.obj b (mapS ordL)]) := by
 refine K_enter (S := []) (K := []) Tryz.func53 rfl Tryz.ntmps53 rfl (Sat.start _) ?_
 refine TW.seq fun Y1 hY1 => TW.region ?_
 refine TL.p Pu.as ?_
 refine TL.nil (TQ.thenN (hY1 _ _ ?_))
 refine TW.seq fun Y2 hY2 => TW.region ?_
 refine TL.mms ?_
 intro b1
 refine TL.p Pu.bd ?_
 refine TL.mis Tryz.underlying106 Tryz.underlying9 ?_
 refine TL.p Pu.bd ?_
 refine TL.mis Tryz.underlying106 Tryz.underlying9 ?_
 refine TL.p Pu.bd ?_
 refine TL.mis Tryz.underlying106 Tryz.underlying9 ?_
 refine TL.p Pu.bd ?_
 refine TL.mis Tryz.underlying106 Tryz.underlying9 ?_
 refine TL.p Pu.bd ?_
 refine TL.mis Tryz.underlying106 Tryz.underlying9 ?_
 refine TL.p Pu.bd ?_
 refine TL.mis Tryz.underlying106 Tryz.underlying9 ?_
 refine TL.p Pu.bd ?_
 refine TL.mis Tryz.underlying106 Tryz.underlying9 ?_
 refine TL.p Pu.bd ?_
 refine TL.mis Tryz.underlying106 Tryz.underlying9 ?_
 refine TL.p Pu.bd ?_
 refine TL.mis Tryz.underlying106 Tryz.underlying9 ?_
 refine TL.p Pu.bd ?_
 refine TL.mis Tryz.underlying106 Tryz.underlying9 ?_
 refine TL.p Pu.mv ?_
 refine TL.p Pu.as ?_
 refine TL.nil (TQ.thenN (hY2 _ _ ?_))
 refine TW.ret ?_
 refine TQ.ret Tryz.results53 rfl ((.tmp rfl .nil)) ?_
 exact fun w hw => ⟨b1, rfl, hw⟩
theorem ord_look {wd : List UInt8} {n : Nat} : (slook wd ordL = none ∧ cmB wd n = false) ∨ ∃ m f, slook wd ordL = some (ordV (m : Nat) f) ∧ cmB wd n = decide (n = m) := by
 by_cases h : ∃ p, p ∈ cmT ∧ p.1 = wd
 · obtain ⟨⟨p, m⟩, hp, rfl⟩ := h
   refine .inr ⟨m, ?_⟩
   rw [cm_one hp]
   have h9 : ∀ q, q ∈ cmT → ∃ f, slook q.1 ordL = some (ordV (q.2 : Nat) f) := by
    intro q hq
    simp only [cmT, List.mem_cons, List.not_mem_nil, or_false] at hq
    rcases hq with rfl | rfl | rfl | rfl | rfl | rfl | rfl | rfl | rfl | rfl <;> exact ⟨_, rfl⟩
   obtain ⟨f, hf⟩ := h9 _ hp
   exact ⟨f, hf, rfl⟩
 · refine .inl ⟨?_, cm_none fun p hp e => h ⟨p, hp, e⟩⟩
   have h1 : ∀ p, p ∈ cmT → wd ≠ p.1 := fun p hp e => h ⟨p, hp, e.symm⟩
   simp only [cmT, List.mem_cons, List.not_mem_nil, or_false, forall_eq_or_imp, forall_eq] at h1
   obtain ⟨k1, k2, k3, k4, k5, k6, k7, k8, k9, k10⟩ := h1
   simp only [ordL, slook, k1, k2, k3, k4, k5, k6, k7, k8, k9, k10, if_false]
set_option maxRecDepth 100000 in
theorem known_any {wd : List UInt8} {A : Option Addr} {n cp : Nat} {w : World} (hn : n ≤ 1000000000) : Calls Tryz.prog 27 #[sv wd, .slice A n cp] w (Ret w (.bool (cmB wd n))) := by
 rcases ord_look (wd := wd) (n := n) with ⟨h1, h2⟩ | ⟨m, f, h1, h2⟩
 rw [h2]
 refine K_enter (S := []) (K := []) Tryz.func27 rfl Tryz.ntmps27 rfl (Sat.start _) ?_
 refine TW.seq fun Y1 hY1 => TW.region ?_
 refine TL.p Pu.as ?_
 refine TL.nil (TQ.thenN (hY1 _ _ ?_))
 refine TW.seq fun Y2 hY2 => TW.region ?_
 refine TL.call (M := []) rfl (enters Tryz.func53 rfl rfl) (List.Perm.refl _) rfl (fun w hw => by
  exact orders_any _) ?_
 rintro bm
 refine TL.p Pu.mv ?_
 refine TL.p (Pu.lksN Tryz.underlying106 Tryz.underlying9 ty_zv104 h1) ?_
 refine TL.p Pu.mv ?_
 refine TL.p Pu.ex ?_
 refine TL.p Pu.ex ?_
 refine TL.lit (t := 12) (b' := false) rfl (rfl) ?_
 refine TL.m (Mk.al ty_zr104) ?_
 intro b1
 first | refine TL.st ty_sz104 ?_ | refine TL.se ty_sz104 ?_
 refine TL.p Pu.as ?_
 refine TL.nil (TQ.thenN (hY2 _ _ ?_))
 refine TW.seq fun Y3 hY3 => TW.region ?_
 refine TL.p Pu.mv ?_
 refine TL.p Pu.mv ?_
 refine TL.gs ?_
 refine TL.gs ?_
 refine TL.gs ?_
 refine TL.gs ?_
 refine TL.gs ?_
 refine TL.p Pu.kf ?_
 refine TL.p Pu.as ?_
 refine TL.nil (TQ.thenN (hY3 _ _ ?_))
 refine TW.ret ?_
 refine TQ.ret Tryz.results27 rfl ((.tmp rfl .nil)) ?_
 exact fun w hw => Ret.of hw
 rw [h2]
 refine K_enter (S := []) (K := []) Tryz.func27 rfl Tryz.ntmps27 rfl (Sat.start _) ?_
 refine TW.seq fun Y1 hY1 => TW.region ?_
 refine TL.p Pu.as ?_
 refine TL.nil (TQ.thenN (hY1 _ _ ?_))
 refine TW.seq fun Y2 hY2 => TW.region ?_
 refine TL.call (M := []) rfl (enters Tryz.func53 rfl rfl) (List.Perm.refl _) rfl (fun w hw => by
  exact orders_any _) ?_
 rintro bm
 refine TL.p Pu.mv ?_
 refine TL.p (Pu.lksS Tryz.underlying106 Tryz.underlying9 ty_zv104 h1) ?_
 refine TL.p Pu.mv ?_
 refine TL.p Pu.ex ?_
 refine TL.p Pu.ex ?_
 refine TL.lit (t := 12) (b' := true) rfl (rfl) ?_
 refine TL.m (Mk.al ty_zr104) ?_
 intro b1
 first | refine TL.st ty_sz104 ?_ | refine TL.se ty_sz104 ?_
 refine TL.p Pu.as ?_
 refine TL.nil (TQ.thenN (hY2 _ _ ?_))
 refine TW.seq fun Y3 hY3 => TW.region ?_
 refine TL.p Pu.mv ?_
 refine TL.p Pu.mv ?_
 refine TL.gd Pu.mv ?_
 refine TL.gd (Pu.ln Tryz.underlying48) ?_
 refine TL.gd (by first | exact Pu.fb ty_fa104_0 | exact Pu.fe ty_fa104_0) ?_
 refine TL.gd (Pu.ld ty_sc3) ?_
 refine TL.gd Pu.eq ?_
 refine TL.p Pu.kt ?_
 refine TL.p Pu.as ?_
 refine TL.nil (TQ.thenN (hY3 _ _ ?_))
 refine TW.ret ?_
 refine TQ.ret Tryz.results27 rfl ((.tmp rfl .nil)) ?_
 exact fun w hw => ⟨ret_bool (by rw [Bool.eq_iff_iff, decide_eq_true_eq, decide_eq_true_eq]; omega), Chg.ext hw.chg⟩
end Go.Proofs.YtehlbkmebaideaaGreatDoor
namespace Go.Proofs.YtehlbkmebaideaaGreatDoor
set_option linter.all false
set_option linter.unusedVariables false
set_option linter.unusedSimpArgs false
open Go.RowKit Go.Lib
section
variable {c : Cx} {Q : Exit → Act → World → Prop} {F F' : Fr} {K K' K0 : List Fact} {ops : Array Oper} {rest : List Oper} {d : Option Tmp} {ty : TypeId} {pos : String} {af : Array Edge} {g : Option (Nat × Bool)}
theorem Pu.cvw {S T : TypeId} {x : Operand} {u v : Value} (hx : ev F x = some u) (hr : ∀ w, Sat c.S c.w0 K w → (convert S T u).run c.P w = .ok v w) : Pu c F K ⟨d, .convert S T x, ty, pos, af, g⟩ v := fun a w hF hK => by
 simp only [execOp, hF.evl hx, Sem.run_bind, hr w hK, Result.andThen_ok, Sem.run_pure]
theorem Pu.ext {f : FuncId} {xs : List Operand} {ts : Array TypeId} {us : List Value} {v : Value} (hx : evs F xs = some us) (hr : ∀ w, (callFunc f us.toArray).run c.P w = .ok (.value v) w) : Pu c F K ⟨d, .call { callee := .value (.func f), args := xs.toArray, argTypes := ts }, ty, pos, af, g⟩ v := fun a w hF hK => by
 have := hF.evsl hx
 have h9 := hr w
 simp [execOp, resolve, invoke, Deferred.ofValue, Act.eval, this, h9]
theorem TL.callX {f : FuncId} {xs : List Operand} {ts : Array TypeId} {us : List Value} {X : Type} {val : X → Value} (L : X → List Fact) (hx : evs F xs = some us) (hen : Enters c.P f)
  (hc : ∀ w, Sat c.S c.w0 K w → Calls c.P f us.toArray w fun e w' => ∃ x, e = .returned (val x) ∧ Sat c.S c.w0 (L x) w') (h : ∀ x, TL c ops Q rest (fput F d (val x)) (L x)) (hd : dok d c.n = true := by rfl) : TL c ops Q (⟨d, .call { callee := .value (.func f), args := xs.toArray, argTypes := ts }, ty, pos, af, none⟩ :: rest) F K := fun a w hF hK =>
 wpList_plain rfl fun Z hZ => by
  have hr : (execOp a.eval ⟨d, .call { callee := .value (.func f), args := xs.toArray, argTypes := ts }, ty, pos, af, none⟩).run c.P w = .ok (.enter f us.toArray) w := by
   have := hF.evsl hx
   have h9 := hen us.toArray w
   simp [execOp, resolve, invoke, Deferred.ofValue, Act.eval, this, h9]
  unfold Oper.wp
  rw [hr]
  refine Calls.mono (hc w hK) ?_
  rintro e w' ⟨x, rfl, hs⟩
  exact hZ _ _ (h x _ _ (hF.fput hd _) hs)
end
theorem blk_shape {w : World} {b : Nat} {T : TypeId} {cs : Array Value} (h : Blk w b T cs) : w.shape? b = some (T, cs.size) := by
 have h1 : w.heap[b]? = some (.cells cs T (0, 0)) := h
 simp [World.shape?, h1]
theorem bldI : ∃ j, Tryz.prog.info? 92 = some j ∧ j.size = 2 := by
 obtain ⟨i, h1, h2, h3, h4⟩ := info_parts ty_i92
 exact ⟨i, h1, h3⟩
set_option maxRecDepth 100000 in
theorem copyCheck_any {b : Nat} {p v : Value} {w : World} (hp : p = .pointer none ∨ p = .pointer (some ⟨b, 0, none⟩)) (hb : Sat [b] w [.blk b 92 [p, v]] w) :
  CallsK Tryz.prog 69 #[.pointer (some ⟨b, 0, none⟩)] [.blk b 92 [p, v]] w Unit (fun _ => .tuple #[]) (fun _ => [.blk b 92 [.pointer (some ⟨b, 0, none⟩), v]]) := by
 obtain ⟨j, hj, hjs⟩ := bldI
 rcases hp with rfl | rfl
 have hbk := hb
 refine K_enter (S := [b]) (K := [.blk b 92 [.pointer none, v]]) Tryz.func69 rfl Tryz.ntmps69 rfl hb ?_
 refine TW.seq fun Y1 hY1 => TW.region ?_
 refine TL.p Pu.mv ?_
 refine TL.p (by first | exact Pu.nn | exact Pu.nc) ?_
 refine TL.p (by first | exact Pu.fb ty_fa92_0 | exact Pu.fe ty_fa92_0) ?_
 refine TL.p (Pu.ld ty_sc89) ?_
 refine TL.p Pu.bn ?_
 refine TL.nil (TQ.thenN (hY1 _ _ ?_))
 refine TW.condT rfl (rfl) ?_
 refine TW.region ?_
 refine TL.p Pu.mv ?_
 refine TL.p Pu.mv ?_
 refine TL.p (Pu.cvw (v := .pointer (some ⟨b, 0, none⟩)) rfl (fun w hw => Lib.run_to_unsafe w ⟨b, 0, none⟩ Tryz.underlying89 Tryz.underlying135 hj (by rw [hjs]; decide) (blk_shape (hw.holds (.blk b 92 [.pointer none, v]) (Pick.mem pk9))) (by show 0 < 2; decide))) ?_
 refine TL.p (Pu.ext (v := .pointer (some ⟨b, 0, none⟩)) rfl (fun w => by rw [run_callFunc_extern Tryz.func92 (by kernel_rfl) (by kernel_rfl) (by kernel_rfl) (e := Extern.AbiNoEscape.same) (by kernel_rfl), Lib.run_noEscape]; rfl)) ?_
 refine TL.p (Pu.cvw (v := .pointer (some ⟨b, 0, none⟩)) rfl (fun w hw => Lib.run_from_unsafe w ⟨b, 0, none⟩ Tryz.underlying135 Tryz.underlying89 hj (blk_shape (hw.holds (.blk b 92 [.pointer none, v]) (Pick.mem pk9))) (by kernel_rfl))) ?_
 refine TL.p (by first | exact Pu.nn | exact Pu.nc) ?_
 refine TL.p (by first | exact Pu.fb ty_fa92_0 | exact Pu.fe ty_fa92_0) ?_
 first | refine TL.st ty_sz89 ?_ | refine TL.se ty_sz89 ?_
 refine TL.nil ?_
 refine TQ.end Tryz.results69 rfl (.nil) ?_
 exact fun w hw => ⟨(), rfl, hw⟩
 have hbk := hb
 refine K_enter (S := [b]) (K := [.blk b 92 [.pointer (some ⟨b, 0, none⟩), v]]) Tryz.func69 rfl Tryz.ntmps69 rfl hb ?_
 refine TW.seq fun Y1 hY1 => TW.region ?_
 refine TL.p Pu.mv ?_
 refine TL.p (by first | exact Pu.nn | exact Pu.nc) ?_
 refine TL.p (by first | exact Pu.fb ty_fa92_0 | exact Pu.fe ty_fa92_0) ?_
 refine TL.p (Pu.ld ty_sc89) ?_
 refine TL.p Pu.bn ?_
 refine TL.nil (TQ.thenN (hY1 _ _ ?_))
 refine TW.condF rfl (rfl) ?_
 refine TW.seq fun Y2 hY2 => TW.region ?_
 refine TL.p Pu.mv ?_
 refine TL.p (by first | exact Pu.nn | exact Pu.nc) ?_
 refine TL.p (by first | exact Pu.fb ty_fa92_0 | exact Pu.fe ty_fa92_0) ?_
 refine TL.p (Pu.ld ty_sc89) ?_
 refine TL.p Pu.mv ?_
 refine TL.p (Pu.bn (r := .bool false) rfl rfl (fun w => by have h := Lib.run_neq_ptr_same w ⟨b, 0, none⟩ Tryz.underlying89 hj; simpa [eqGuard] using h)) ?_
 refine TL.nil (TQ.thenN (hY2 _ _ ?_))
 refine TW.condF rfl (rfl) ?_
 refine TW.skip ?_
 refine TQ.end Tryz.results69 rfl (.nil) ?_
 exact fun w hw => ⟨(), rfl, hw⟩
set_option maxRecDepth 100000 in
set_option maxHeartbeats 2000000 in
theorem writeString_any {b : Nat} {p : Value} {l t : List UInt8} {A : Option Addr} {cp : Nat} {w : World} (hp : p = .pointer none ∨ p = .pointer (some ⟨b, 0, none⟩)) (hl : l.length + t.length ≤ 1000000000)
  (hb : Sat (feet [.blk b 92 [p, .slice A l.length cp], .own A l.length cp 5 1 (bR l)]) w [.blk b 92 [p, .slice A l.length cp], .own A l.length cp 5 1 (bR l)] w) :
  CallsK Tryz.prog 48 #[.pointer (some ⟨b, 0, none⟩), sv t] [.blk b 92 [p, .slice A l.length cp], .own A l.length cp 5 1 (bR l)] w (Option Addr × Nat) (fun _ => .tuple #[.int .i64 (t.length : Int), .nilIface])
   (fun x => [.blk b 92 [.pointer (some ⟨b, 0, none⟩), .slice x.1 (l ++ t).length x.2], .own x.1 (l ++ t).length x.2 5 1 (bR (l ++ t))]) := by
 have hlen : (l ++ t).length = l.length + t.length := List.length_append
 rw [hlen]
 refine K_enter (S := feet [.blk b 92 [p, .slice A l.length cp], .own A l.length cp 5 1 (bR l)]) (K := [.blk b 92 [p, .slice A l.length cp], .own A l.length cp 5 1 (bR l)]) Tryz.func48 rfl Tryz.ntmps48 rfl hb ?_
 refine TW.seq fun Y1 hY1 => TW.region ?_
 refine TL.p Pu.as ?_
 refine TL.p Pu.as ?_
 refine TL.nil (TQ.thenN (hY1 _ _ ?_))
 refine TW.seq fun Y2 hY2 => TW.region ?_
 refine TL.p Pu.mv ?_
 refine TL.call rfl (enters Tryz.func69 rfl rfl) (M := [.blk b 92 [p, .slice A l.length cp]]) (List.Perm.refl _) rfl (fun w hw => by
   exact copyCheck_any hp (hw.sub (KSub.cons Pick.hd KSub.nil)).self) ?_
 rintro ⟨⟩
 simp only [List.cons_append, List.nil_append]
 refine TL.nil (TQ.thenN (hY2 _ _ ?_))
 refine TW.seq fun Y3 hY3 => TW.region ?_
 refine TL.p Pu.mv ?_
 refine TL.p Pu.mv ?_
 refine TL.p (by first | exact Pu.nn | exact Pu.nc) ?_
 refine TL.p (by first | exact Pu.fb ty_fa92_1 | exact Pu.fe ty_fa92_1) ?_
 refine TL.p (Pu.ld ty_sc90) ?_
 refine TL.p Pu.mv ?_
 refine TL.aps byT ?_
 intro A1 c1
 refine TL.p (by first | exact Pu.nn | exact Pu.nc) ?_
 refine TL.p (by first | exact Pu.fb ty_fa92_1 | exact Pu.fe ty_fa92_1) ?_
 first | refine TL.st ty_sz90 ?_ | refine TL.se ty_sz90 ?_
 refine TL.nil (TQ.thenN (hY3 _ _ ?_))
 refine TW.seq fun Y4 hY4 => TW.region ?_
 refine TL.p Pu.mv ?_
 refine TL.p (Pu.sln Tryz.underlying9) ?_
 refine TL.p Pu.as ?_
 refine TL.p Pu.as ?_
 refine TL.nil (TQ.thenN (hY4 _ _ ?_))
 refine TW.ret ?_
 refine TQ.ret Tryz.results48 rfl ((.tmp rfl (.tmp rfl .nil))) ?_
 refine fun w hw => ⟨(A1, c1), rfl, hw.sub (KSub.cons pk9 (KSub.own pk9 (fun i hi => ?_) KSub.nil))⟩
 simp only [catR, bR, List.getD_eq_getElem?_getD]
 split
 rw [List.getElem?_append_left ‹_›]
 rw [List.getElem?_append_right (by omega)]
theorem bldLen_any {b n cp : Nat} {p : Value} {A : Option Addr} {w : World} (hb : OldB w b [p, .slice A n cp]) : Calls Tryz.prog 49 #[.pointer (some ⟨b, 0, none⟩)] w (Ret w (.int .i64 (n : Int))) := by
 refine K_enter (S := []) (K := []) Tryz.func49 rfl Tryz.ntmps49 rfl (Sat.start _) ?_
 refine TW.seq fun Y1 hY1 => TW.region ?_
 refine TL.p Pu.as ?_
 refine TL.nil (TQ.thenN (hY1 _ _ ?_))
 refine TW.seq fun Y2 hY2 => TW.region ?_
 refine TL.p Pu.mv ?_
 refine TL.p (by first | exact Pu.nn | exact Pu.nc) ?_
 refine TL.p (by first | exact Pu.fb ty_fa92_1 | exact Pu.fe ty_fa92_1) ?_
 refine TL.p (Pu.ldo ty_sc90) ?_
 refine TL.p (Pu.ln Tryz.underlying90) ?_
 refine TL.p Pu.as ?_
 refine TL.nil (TQ.thenN (hY2 _ _ ?_))
 refine TW.ret ?_
 refine TQ.ret Tryz.results49 rfl ((.tmp rfl .nil)) ?_
 exact fun w hw => Ret.of hw
theorem isBld {b : Nat} {p : Value} {l : List UInt8} {A : Option Addr} {cp : Nat} {w0 w : World} {K K' : List Fact} (hp : p = .pointer none ∨ p = .pointer (some ⟨b, 0, none⟩)) (hs : Sat [] w0 (.blk b 92 [p, .slice A l.length cp] :: .own A l.length cp 5 1 (bR l) :: K) w) :
   IsBuilder 92 5 w0.heap.size b (Go.Lib.byteCells l) w := by
 have h1 : Blk w b 92 #[p, .slice A l.length cp] := hs.holds (.blk b 92 [p, .slice A l.length cp]) (by simp)
 have h2 : OwnR w A l.length cp 5 1 (bR l) := hs.holds (.own A l.length cp 5 1 (bR l)) (by simp)
 have hge : w0.heap.size ≤ b := by
   rcases hs.ge b (by simp [feet, Fact.foot]) with h | h
   · cases h
   · exact h
 have hnd := hs.nd
 have hat : BuilderAt 92 5 w0.heap.size b p (Go.Lib.byteCells l) w := by
   refine ⟨hge, _, h1, ?_, ?_⟩
   · have h3 := h2.own
     unfold Own at h3
     rw [bR_flat, show Go.Lib.strCells ⟨l.toArray⟩ = Go.Lib.byteCells l from rfl] at h3
     rw [Go.Lib.byteCells_length]
     refine ⟨h3.1, ?_⟩
     rcases h3.2 with ⟨e, h0⟩ | ⟨g, cap, cur, e, hg, rest⟩
     · exact .inl ⟨e, h0⟩
     · refine .inr ⟨g, cap, cur, e, ?_, rest⟩
       injection e with e1
       rcases hs.ge g (by simp [feet, Fact.foot, e1]) with h | h
       · cases h
       · exact h
   · intro h9
     cases A with
     | none => simp [Value.ownBlock] at h9
     | some a =>
       simp only [Value.ownBlock, Option.some.injEq] at h9
       have : (feet (.blk b 92 [p, .slice (some a) l.length cp] :: .own (some a) l.length cp 5 1 (bR l) :: K)) = b :: a.block :: feet K := by simp [feet, Fact.foot]
       rw [this, h9] at hnd
       simp at hnd
 rcases hp with rfl | rfl
 · exact .inl hat
 · exact .inr hat
theorem bldString_any {b : Nat} {p : Value} {l : List UInt8} {A : Option Addr} {cp : Nat} {w0 w : World} {K : List Fact} (hp : p = .pointer none ∨ p = .pointer (some ⟨b, 0, none⟩)) (hs : Sat [] w0 (.blk b 92 [p, .slice A l.length cp] :: .own A l.length cp 5 1 (bR l) :: K) w) :
  Calls Tryz.prog 50 #[.pointer (some ⟨b, 0, none⟩)] w fun e w' => ∃ _x : Unit, e = .returned (sv l) ∧ Sat [] w0 [] w' := by
 have h1 := isBld (K' := []) hp hs
 refine Calls.mono (Tryz.Builder_String_any w0.heap.size b l w h1 hs.chg.size) ?_
 rintro e w' ⟨rfl, hb⟩
 exact ⟨(), rfl, Sat.nil ⟨hb.os.trans hs.chg.os, hb.tape.trans hs.chg.tape, hb.output.trans hs.chg.output, Nat.le_trans hs.chg.size hb.size, fun k hk hS => (hb.block k hk).trans (hs.chg.block k hk hS)⟩⟩
end Go.Proofs.YtehlbkmebaideaaGreatDoor
namespace Go.Proofs.YtehlbkmebaideaaGreatDoor
set_option linter.all false
set_option linter.unusedVariables false
set_option linter.unusedSimpArgs false
open Go.RowKit Go.Lib
def strL (ls : List (List UInt8)) : Nat → List Value := fun i => [sv (ls.getD i [])]
theorem strL_cat {ls ms : List (List UInt8)} {n : Nat} (hn : n = ls.length) : ∀ i, catR n (strL ls) (strL ms) i = strL (ls ++ ms) i := fun i => by
 subst hn
 simp only [catR, strL, List.getD_eq_getElem?_getD]
 by_cases h : i < ls.length
 · rw [if_pos h, List.getElem?_append_left h]
 · rw [if_neg h, List.getElem?_append_right (by omega)]
theorem strL_app {ls : List (List UInt8)} {x : List UInt8} {n : Nat} (hn : n = ls.length) : ∀ i, i < n + 1 → catR n (strL ls) (fun _ => [sv x]) i = strL (ls ++ [x]) i := fun i hi => by
 rw [← strL_cat (ms := [x]) hn]
 simp only [catR]
 split
 · rfl
 · rw [show i - n = 0 by omega]; rfl
theorem takeS {ls : List (List UInt8)} {k : Nat} (h : k < ls.length) : ls.take (k + 1) = ls.take k ++ [ls.getD k []] := by
 rw [List.take_succ, List.getD_eq_getElem?_getD, List.getElem?_eq_getElem h]
 rfl
theorem memS {ls : List (List UInt8)} {k : Nat} (h : k < ls.length) : ls.getD k [] ∈ ls := by
 rw [List.getD_eq_getElem?_getD, List.getElem?_eq_getElem h]
 exact List.getElem_mem h
set_option maxRecDepth 100000 in
set_option maxHeartbeats 4000000 in
theorem twist_any {ls : List (List UInt8)} {A : Option Addr} {cp : Nat} {w : World} (hP : Pow w) (hn : ls.length ≤ 300) (hx : ∀ x, x ∈ ls → x.length ≤ 1000) (hR : RdR w 1 A ls.length (strL ls)) :
  Calls Tryz.prog 20 #[.slice A ls.length cp] w (Ret w (.tuple #[sv (outL ls).1, .int .i64 (outL ls).2])) := by
 have hw1 : ([(ls.length : Int)] : List Int).all wrB = true := by simp [wrB_iff]; omega
 have hE0 := phr_wr (w := [69]) hw1
 obtain ⟨E, hE⟩ : ∃ E, phr [69] [(ls.length : Int)] = E := ⟨_, rfl⟩
 have hE1 : E.length ≤ 1000 := by rw [← hE]; simp only [List.length_cons, List.length_nil] at hE0; omega
 have hx2 : ∀ x, x ∈ ls ++ [E] → x.length ≤ 1000 := fun x h => by
  rcases List.mem_append.1 h with h | h
  exact hx x h
  rw [List.mem_singleton.1 h]; exact hE1
 have hlen2 : (ls ++ [E]).length = ls.length + 1 := by rw [List.length_append]; rfl
 have hout : outL ls = outV (twL [] (ls ++ [E])) := by rw [← hE]; rfl
 rw [hout]
 refine K_enter (S := []) (K := []) Tryz.func20 rfl Tryz.ntmps20 rfl (Sat.start _) ?_
 refine TW.seq fun Y1 hY1 => TW.region ?_
 refine TL.p Pu.as ?_
 refine TL.p Pu.as ?_
 refine TL.nil (TQ.thenN (hY1 _ _ ?_))
 refine TW.seq fun Y2 hY2 => TW.region ?_
 refine TL.m (Mk.al ty_zr92) ?_
 intro b1
 refine TL.nil (TQ.thenN (hY2 _ _ ?_))
 refine TW.seq fun Y3 hY3 => TW.region ?_
 refine TL.call (M := []) rfl (enters Tryz.func46 rfl rfl) (List.Perm.refl _) rfl (fun w hw => by
   exact knots_any _) ?_
 rintro bk
 refine TL.p Pu.as ?_
 refine TL.nil (TQ.thenN (hY3 _ _ ?_))
 refine TW.seq fun Y4 hY4 => ?_
 refine TW.seq fun Y5 hY5 => TW.region ?_
 refine TL.p Pu.mv ?_
 refine TL.p Pu.mv ?_
 refine TL.p (Pu.ln Tryz.underlying51) ?_
 refine TL.m Mk.bl ?_
 intro b2
 refine TL.cr rfl (enters Tryz.func19 rfl rfl) (fun w hw => by
   have h9 := phrase_any (wd := [69]) (l := [(ls.length : Int)]) (cp := 1) (hP.sat hw) (by decide) (by simp) hw1 (RdR.blk (hw.holds (.blk b2 3 [.int .i64 (ls.length : Int)]) (Pick.mem pk9)) rfl (fun i hi => rfl))
   rw [hE] at h9
   exact h9) ?_
 refine TL.m Mk.bl ?_
 intro b3
 refine TL.call (M := []) rfl (enters Tryz.func47 rfl rfl) (List.Perm.refl _) rfl (fun w hw => by
   exact andStr_any (r := strL ls) (s := fun _ => [sv E]) (by omega) (hR.sat hw Apart.nil) (fun _ _ => rfl) (RdR.blk (hw.holds (.blk b3 9 [sv E]) (Pick.mem pk9)) rfl (fun i hi => rfl)) (fun _ _ => rfl)) ?_
 rintro ⟨Al, cl, ca⟩
 refine TL.p (Pu.ln Tryz.underlying51) ?_
 refine TL.p Pu.mv ?_
 refine TL.nil (TQ.thenN (hY5 _ _ ?_))
 refine TW.block ?_
 refine TW.loop6 (fun (k : Nat) (T : List UInt8) (s : Nat) (p : Value) (B : Option Addr) (cb : Nat) => [(18, .int .i64 (k : Int)), (17, .int .i64 ((ls.length + 1 : Nat) : Int)), (16, .slice Al (ls.length + 1) cl), (5, .func (.func 66) #[] #[.pointer (some ⟨bk, 0, none⟩)]), (4, .pointer (some ⟨b1, 0, none⟩))]) (fun k T s p B cb => [.own Al (ls.length + 1) ca 9 1 (strL (ls ++ [E])), .blk bk 3 [.int .i64 (s : Int)], .blk b1 92 [p, .slice B T.length cb], .own B T.length cb 5 1 (bR T)]) (fun k T s p B cb => k ≤ ls.length + 1 ∧ twL [] ((ls ++ [E]).take k) = T ∧ ckL 23 T = s ∧ (p = .pointer none ∨ p = .pointer (some ⟨b1, 0, none⟩))) (fun k T s p B cb => ls.length + 1 - k) 0 [] 23 (.pointer none) none 0 fs9 ?_ ?_ ?_
 exact KSub.own pk9 (fun i _ => by rw [← strL_cat (ls := ls) (ms := [E]) rfl]; simp only [catR]; split; rfl; rw [show i - ls.length = 0 by omega]; rfl) (KSub.cons pk9 (KSub.cons pk9 (KSub.nilOwn KSub.nil)))
 exact ⟨Nat.zero_le _, rfl, rfl, .inl rfl⟩
 rintro k T s p B cb ⟨hk, hT, hs, hp⟩ Z0 hZ0
 have hs9 : s < 8191 := by rw [← hs]; exact ckL_lt (by decide)
 have hTl : T.length ≤ 400000 := by
  have h1 := tw_len (t := []) (l := (ls ++ [E]).take k) (B := 1000) (fun x h => hx2 x (List.mem_of_mem_take h))
  have h2 : ((ls ++ [E]).take k).length ≤ 301 := by rw [List.length_take]; omega
  have h3 := Nat.mul_le_mul_right (1000 + 23) h2
  rw [hT] at h1
  simp only [List.length_nil] at h1
  omega
 refine TW.seq fun Y6 hY6 => TW.region ?_
 refine TL.p Pu.lt ?_
 refine TL.nil (TQ.thenN (hY6 _ _ ?_))
 refine TW.seq fun Y7 hY7 => ?_
 refine TW.cond rfl (fun hc0 => ?_) (fun hc0 => ?_)
 try simp only [zcb9] at hc0
 have hkl : k < (ls ++ [E]).length := by omega
 have hkl2 : k < ls.length + 1 := by omega
 obtain ⟨x, hxk⟩ : ∃ x, (ls ++ [E]).getD k [] = x := ⟨_, rfl⟩
 have hxl : x.length ≤ 1000 := by rw [← hxk]; exact hx2 _ (memS hkl)
 have hck : ckL s x < 8191 := ckL_lt hs9
 have hel := end_len (s := s) (x := x) hs9
 have hil := itoa_length_le (ckL s x : Int) (by omega) (by omega)
 refine TW.skip ?_
 refine TQ.thenN (hY7 _ _ ?_)
 refine TW.seq fun Y8 hY8 => ?_
 refine TW.block ?_
 refine TW.seq fun Y9 hY9 => TW.region ?_
 refine TL.p (Pu.el ty_et51) ?_
 refine TL.p (Pu.sw (Pu.ld ty_sc9) hxk) ?_
 refine TL.p Pu.as ?_
 refine TL.nil (TQ.thenN (hY9 _ _ ?_))
 refine TW.seq fun Y10 hY10 => TW.region ?_
 refine TL.p Pu.mv ?_
 refine TL.p Pu.mv ?_
 refine TL.cvk rfl rfl (enters Tryz.func66 rfl rfl) (M := [.blk bk 3 [.int .i64 (s : Int)]]) (Pick.perm pk9) (fun w hw => by
   exact knot1_any hs9 (by omega) (hw.sub (KSub.cons pk9 KSub.nil)).self) ?_
 rintro ⟨⟩
 simp only [List.cons_append, List.nil_append]
 refine TL.cr rfl (enters Tryz.func45 rfl rfl) (fun w hw => by
   exact itoa_any (by omega) (hP.sat hw)) ?_
 refine TL.p Pu.sad ?_
 refine TL.p (Pu.sw Pu.sad (show ([32] ++ itoa (ckL s x : Int)) ++ [10] = endL s x from rfl)) ?_
 refine TL.p Pu.as ?_
 refine TL.nil (TQ.thenN (hY10 _ _ ?_))
 refine TW.seq fun Y11 hY11 => TW.region ?_
 refine TL.p Pu.mv ?_
 refine TL.p Pu.mv ?_
 refine TL.cvk rfl rfl (enters Tryz.func66 rfl rfl) (M := [.blk bk 3 [.int .i64 (ckL s x : Int)]]) (Pick.perm pk9) (fun w hw => by
   exact knot1_any hck (by omega) (hw.sub (KSub.cons pk9 KSub.nil)).self) ?_
 rintro ⟨⟩
 simp only [List.cons_append, List.nil_append]
 refine TL.nil (TQ.thenN (hY11 _ _ ?_))
 refine TW.region ?_
 refine TL.p Pu.mv ?_
 refine TL.p Pu.mv ?_
 refine TL.p Pu.sad ?_
 refine TL.subK (K' := [.blk b1 92 [p, .slice B T.length cb], .own B T.length cb 5 1 (bR T), .own Al (ls.length + 1) ca 9 1 (strL (ls ++ [E])), .blk bk 3 [.int .i64 (ckL (ckL s x) (endL s x) : Int)]]) ks9 ?_
 refine TL.call rfl (enters Tryz.func48 rfl rfl) (M := [.blk b1 92 [p, .slice B T.length cb], .own B T.length cb 5 1 (bR T)]) (List.Perm.refl _) rfl (fun w hw => by
   exact writeString_any (t := x ++ endL s x) hp (by rw [List.length_append]; omega) (hw.sub (KSub.cons pk9 (KSub.cons pk9 KSub.nil))).self) ?_
 rintro ⟨B2, cb2⟩
 simp only [List.cons_append, List.nil_append]
 refine TL.nil ?_
 refine TQ.blkN ?_
 refine TQ.thenN (hY8 _ _ ?_)
 refine TW.region ?_
 refine TL.p Pu.ad ?_
 refine TL.p Pu.mv ?_
 refine TL.nil ?_
 refine TQ.thenN (hZ0 (k + 1) (T ++ (x ++ endL s x)) (ckL (ckL s x) (endL s x)) (.pointer (some ⟨b1, 0, none⟩)) B2 cb2 _ _ ?_ ?_ fs9 ?_)
 refine ⟨by omega, ?_, ?_, .inr rfl⟩
 rw [takeS hkl, tw_snoc, ty_end, hT, hs, hxk]
 rw [ckL_app, ckL_app, hs]
 exact zom9
 exact ks9
 try simp only [zcb9] at hc0
 obtain rfl : k = ls.length + 1 := by omega
 have hT2 : twL [] (ls ++ [E]) = T := by rw [← hT, List.take_of_length_le (by omega)]
 refine TW.exit ?_
 refine TQ.thenX ?_
 refine TQ.thenX ?_
 refine TQ.blkX ?_
 refine TQ.thenN (hY4 _ _ ?_)
 refine TW.seq fun Y12 hY12 => ?_
 refine TW.seq fun Y13 hY13 => TW.region ?_
 refine TL.cr rfl (enters Tryz.func49 rfl rfl) (fun w hw => by
   exact bldLen_any (OldB.of_blk (hw.holds (.blk b1 92 [p, .slice B T.length cb]) (Pick.mem pk9)))) ?_
 refine TL.p Pu.gt ?_
 refine TL.nil (TQ.thenN (hY13 _ _ ?_))
 refine TW.cond rfl (fun hc1 => ?_) (fun hc1 => ?_)
 try simp only [zcb9] at hc1
 have h9 : 30000 < (twL [] (ls ++ [E])).length := by rw [hT2]; omega
 refine TW.seq fun Y14 hY14 => TW.region ?_
 refine TL.p Pu.as ?_
 refine TL.p Pu.as ?_
 refine TL.nil (TQ.thenN (hY14 _ _ ?_))
 refine TW.ret ?_
 refine TQ.thenR ?_
 refine TQ.ret Tryz.results20 rfl ((.tmp rfl (.tmp rfl .nil))) ?_
 refine fun w hw => ⟨?_, Chg.ext hw.chg⟩
 unfold outV
 rw [if_pos h9]
 rfl
 try simp only [zcb9] at hc1
 have h9 : ¬ 30000 < (twL [] (ls ++ [E])).length := by rw [hT2]; omega
 refine TW.skip ?_
 refine TQ.thenN (hY12 _ _ ?_)
 refine TW.seq fun Y15 hY15 => TW.region ?_
 refine TL.callX (X := Unit) (val := fun _ => sv T) (fun _ => []) rfl (enters Tryz.func50 rfl rfl) (fun w hw => bldString_any hp (hw.sub (KSub.cons pk9 (KSub.cons pk9 KSub.nil)))) ?_
 rintro ⟨⟩
 refine TL.p Pu.as ?_
 refine TL.p Pu.as ?_
 refine TL.nil (TQ.thenN (hY15 _ _ ?_))
 refine TW.ret ?_
 refine TQ.ret Tryz.results20 rfl ((.tmp rfl (.tmp rfl .nil))) ?_
 refine fun w hw => ⟨?_, Chg.ext hw.chg⟩
 unfold outV
 rw [if_neg h9, hT2]
 rfl
def pgs (f : Nat → Nat → Int) (nr : Nat) (g : Nat → Ltr) (nl : Nat) : List (UInt8 × List Int) := pgR f nr ++ pgL g nl
def pgG (f : Nat → Nat → Int) (nr : Nat) (g : Nat → Ltr) (nl : Nat) (q : Nat) : UInt8 × List Int := (pgs f nr g nl).getD q (0, [])
section
variable {R L : Option Addr} {nr cr nl cl : Nat} {f : Nat → Nat → Int} {g : Nat → Ltr}
theorem pgG_row {k : Nat} (h : k < nr) : pgG f nr g nl k = (82, rowN (f k)) := by
 have h1 : (pgR f nr)[k]? = some (82, rowN (f k)) := by simp [pgR, h]
 unfold pgG pgs
 rw [List.getD_eq_getElem?_getD, List.getElem?_append_left (by rw [pgR_len]; exact h), h1]
 rfl
theorem pgG_let {k : Nat} (h : k < nl) : pgG f nr g nl (nr + k) = (76, ltrN (g k)) := by
 have h1 : (pgL g nl)[k]? = some (76, ltrN (g k)) := by simp [pgL, h]
 unfold pgG pgs
 rw [List.getD_eq_getElem?_getD, List.getElem?_append_right (by rw [pgR_len]; omega), pgR_len, Nat.add_sub_cancel_left, h1]
 rfl
theorem pgs_len : (pgs f nr g nl).length = nr + nl := by simp [pgs, pgR_len, pgL_len]
theorem pgs_take {k : Nat} (h : k < nr + nl) : (pgs f nr g nl).take (k + 1) = (pgs f nr g nl).take k ++ [pgG f nr g nl k] := by
 rw [List.take_succ]
 unfold pgG
 rw [List.getD_eq_getElem?_getD, List.getElem?_eq_getElem (by rw [pgs_len]; exact h)]
 rfl
theorem pgG_len {q : Nat} (h : q < nr + nl) : (pgG f nr g nl q).2.length ≤ 14 := by
  by_cases h1 : q < nr
  · rw [pgG_row h1, row_len]; exact Nat.le_refl _
  · obtain ⟨k, rfl⟩ : ∃ k, q = nr + k := ⟨q - nr, by omega⟩
    rw [pgG_let (by omega)]
    show 8 ≤ 14
    decide
theorem pages_any (w : World) : CallsK Tryz.prog 18 #[.agg #[.slice R nr cr, .slice L nl cl]] [] w Nat (fun b => .func (.func 42) #[] #[.pointer (some ⟨b, 0, none⟩)]) (fun b => [.blk b 25 [.slice R nr cr, .slice L nl cl]]) := by
 refine K_enter (S := []) (K := []) Tryz.func18 rfl Tryz.ntmps18 rfl (Sat.start _) ?_
 refine TW.seq fun Y1 hY1 => TW.region ?_
 refine TL.m Mk.bx ?_
 intro b1
 refine TL.p Pu.as ?_
 refine TL.nil (TQ.thenN (hY1 _ _ ?_))
 refine TW.seq fun Y2 hY2 => TW.region ?_
 refine TL.p Pu.fn ?_
 refine TL.p Pu.as ?_
 refine TL.nil (TQ.thenN (hY2 _ _ ?_))
 refine TW.ret ?_
 refine TQ.ret Tryz.results18 rfl ((.tmp rfl .nil)) ?_
 exact fun w hw => ⟨b1, rfl, hw⟩
set_option maxRecDepth 100000 in
set_option maxHeartbeats 2000000 in
theorem pages1_iter {b : Nat} {W0 : World} (hb : nr + nl ≤ 1000) (hR : RdR W0 14 R nr (fun i => rwL (f i))) (hL : RdR W0 8 L nl (fun i => ltL (g i))) (hk : ∀ i, i < nl → 0 ≤ (g i).kind ∧ (g i).kind ≤ 255) :
  IterK Tryz.prog 42 [.pointer (some ⟨b, 0, none⟩)] [.blk b 25 [.slice R nr cr, .slice L nl cl]] (Option Addr × Nat) (fun q y => [sv [(pgG f nr g nl q).1], .slice y.1 (pgG f nr g nl q).2.length y.2])
   (fun q y => [.own y.1 (pgG f nr g nl q).2.length y.2 3 1 (iL (pgG f nr g nl q).2), .blk b 25 [.slice R nr cr, .slice L nl cl]]) (fun _ _ => [.blk b 25 [.slice R nr cr, .slice L nl cl]]) (nr + nl) [] [] W0 := by
 intro lY RR Rx J Jx r0 W hS hround
 refine K_enterW (S := []) (K := .blk b 25 [.slice R nr cr, .slice L nl cl] :: J 0 r0) Tryz.func42 rfl Tryz.ntmps42 rfl hS ?_
 refine TW.seq fun Y1 hY1 => ?_
 refine TW.seq fun Y2 hY2 => TW.region ?_
 refine TL.p (by first | exact Pu.fb ty_fa25_0 | exact Pu.fe ty_fa25_0) ?_
 refine TL.p (by first | exact (Pu.ld ty_sc22) | exact (Pu.ldo ty_sc22)) ?_
 refine TL.p (Pu.ln Tryz.underlying22) ?_
 refine TL.p Pu.mv ?_
 refine TL.nil (TQ.thenN (hY2 _ _ ?_))
 refine TW.block ?_
 refine TW.loop2 (fun (k : Nat) (r : RR) => [(10, .int .i64 (k : Int)), (9, .int .i64 (nr : Int)), (8, .slice R nr cr), (0, .func (.yield lY) #[] #[]), (1, .pointer (some ⟨b, 0, none⟩))]) (fun k r => .blk b 25 [.slice R nr cr, .slice L nl cl] :: J k r) (fun k r => k ≤ nr) (fun k r => nr - k) 0 r0 fs9 ?_ ?_ ?_
 exact KSub.refl _
 exact Nat.zero_le _
 rintro k r hkr Z0 hZ0
 refine TW.seq fun Y3 hY3 => TW.region ?_
 refine TL.p Pu.lt ?_
 refine TL.nil (TQ.thenN (hY3 _ _ ?_))
 refine TW.seq fun Y4 hY4 => ?_
 refine TW.cond rfl (fun hc0 => ?_) (fun hc0 => ?_)
 try simp only [zcb9] at hc0
 have hkl : k < nr := by omega
 refine TW.skip ?_
 refine TQ.thenN (hY4 _ _ ?_)
 refine TW.seq fun Y5 hY5 => ?_
 refine TW.block ?_
 refine TW.seq fun Y6 hY6 => TW.region ?_
 refine TL.p (Pu.el ty_et22) ?_
 refine TL.p (by first | exact (Pu.lds ty_ag63) | exact (Pu.ldso ty_ag63)) ?_
 refine TL.m (Mk.al ty_zr63) ?_
 intro b1
 first | refine TL.st ty_sz63 ?_ | refine TL.se ty_sz63 ?_
 refine TL.nil (TQ.thenN (hY6 _ _ ?_))
 refine TW.seq fun Y7 hY7 => ?_
 refine TW.regionI ?_
 refine TLi.op (fun U1 hU1 => ?_) (by rintro ⟨_, _, h⟩; first | exact h | (obtain ⟨⟨_, h⟩, _⟩ := h; cases h) | cases h)
 refine TL.p Pu.mv ?_
 refine TL.nil ?_
 refine TQ.nxt (hU1 _ _ ?_)
 refine TLi.op (fun U2 hU2 => ?_) (by rintro ⟨_, _, h⟩; first | exact h | (obtain ⟨⟨_, h⟩, _⟩ := h; cases h) | cases h)
 refine TL.p (by first | exact (Pu.lds ty_ag63) | exact (Pu.ldso ty_ag63)) ?_
 refine TL.nil ?_
 refine TQ.nxt (hU2 _ _ ?_)
 refine TLi.op (fun U3 hU3 => ?_) (by rintro ⟨_, _, h⟩; first | exact h | (obtain ⟨⟨_, h⟩, _⟩ := h; cases h) | cases h)
 refine TL.call (M := []) rfl (enters Tryz.func43 rfl rfl) (List.Perm.refl _) rfl (fun w hw => by
   exact rowNums_any _) ?_
 rintro ⟨A3, c3⟩
 refine TL.nil ?_
 refine TQ.nxt (hU3 _ _ ?_)
 refine TLi.yi rfl rfl (fun w hw => by
   have h9 := hround k (A3, c3) r w (by omega)
   dsimp only at h9
   rw [pgG_row hkl] at h9
   dsimp only at h9
   rw [row_len] at h9
   exact h9 (hw.sub (KSub.cons pk9 (KSub.cons pk9 (KSub.drop (KSub.refl _)))))) ?_ ?_
 intro r'
 refine TLi.op (fun U4 hU4 => ?_) (by rintro ⟨_, _, h⟩; first | exact h | (obtain ⟨⟨_, h⟩, _⟩ := h; cases h) | cases h)
 refine TL.p Pu.no ?_
 refine TL.nil ?_
 refine TQ.nxt (hU4 _ _ ?_)
 refine TLi.nil ?_
 refine TQ.thenN (hY7 _ _ ?_)
 refine TW.condF rfl rfl ?_
 refine TW.skip ?_
 refine TQ.blkN ?_
 refine TQ.thenN (hY5 _ _ ?_)
 refine TW.region ?_
 refine TL.p Pu.ad ?_
 refine TL.p Pu.mv ?_
 refine TL.nil ?_
 refine TQ.thenN (hZ0 (k + 1) r' _ _ ?_ ?_ fs9 ?_)
 exact (by omega)
 exact zom9
 exact KSub.refl _
 intro x
 refine TLi.op (fun U5 hU5 => ?_) (by rintro ⟨_, _, h⟩; first | exact h | (obtain ⟨⟨_, h⟩, _⟩ := h; cases h) | cases h)
 refine TL.p Pu.no ?_
 refine TL.nil ?_
 refine TQ.nxt (hU5 _ _ ?_)
 refine TLi.nil ?_
 refine TQ.thenN (hY7 _ _ ?_)
 refine TW.condT rfl rfl ?_
 refine TW.ret ?_
 refine TQ.blkR ?_
 refine TQ.thenR ?_
 refine TQ.thenR ?_
 refine TQ.blkR ?_
 refine TQ.thenR ?_
 refine TQ.ret Tryz.results42 rfl (.nil) ?_
 exact fun w hw => ⟨⟨_, rfl⟩, .inr ⟨x, hw.sub (KSub.drop (KSub.refl _))⟩⟩
 try simp only [zcb9] at hc0
 obtain rfl : nr = k := by omega
 refine TW.exit ?_
 refine TQ.thenX ?_
 refine TQ.thenX ?_
 refine TQ.blkX ?_
 refine TQ.thenN (hY1 _ _ ?_)
 refine TW.seq fun Y8 hY8 => TW.region ?_
 refine TL.p (by first | exact Pu.fb ty_fa25_1 | exact Pu.fe ty_fa25_1) ?_
 refine TL.p (by first | exact (Pu.ld ty_sc23) | exact (Pu.ldo ty_sc23)) ?_
 refine TL.p (Pu.ln Tryz.underlying23) ?_
 refine TL.p Pu.mv ?_
 refine TL.nil (TQ.thenN (hY8 _ _ ?_))
 refine TW.block ?_
 refine TW.loop2 (fun (k : Nat) (r : RR) => [(23, .int .i64 (k : Int)), (22, .int .i64 (nl : Int)), (21, .slice L nl cl), (0, .func (.yield lY) #[] #[]), (1, .pointer (some ⟨b, 0, none⟩))]) (fun k r => .blk b 25 [.slice R nr cr, .slice L nl cl] :: J (nr + k) r) (fun k r => k ≤ nl) (fun k r => nl - k) 0 r fs9 ?_ ?_ ?_
 exact KSub.refl _
 exact Nat.zero_le _
 rintro k r hkr2 Z1 hZ1
 refine TW.seq fun Y9 hY9 => TW.region ?_
 refine TL.p Pu.lt ?_
 refine TL.nil (TQ.thenN (hY9 _ _ ?_))
 refine TW.seq fun Y10 hY10 => ?_
 refine TW.cond rfl (fun hc2 => ?_) (fun hc2 => ?_)
 try simp only [zcb9] at hc2
 have hkl : k < nl := by omega
 refine TW.skip ?_
 refine TQ.thenN (hY10 _ _ ?_)
 refine TW.seq fun Y11 hY11 => ?_
 refine TW.block ?_
 refine TW.seq fun Y12 hY12 => TW.region ?_
 refine TL.p (Pu.el ty_et23) ?_
 refine TL.p (by first | exact (Pu.lds ty_ag66) | exact (Pu.ldso ty_ag66)) ?_
 refine TL.m (Mk.al ty_zr66) ?_
 intro b2
 first | refine TL.st ty_sz66 ?_ | refine TL.se ty_sz66 ?_
 refine TL.nil (TQ.thenN (hY12 _ _ ?_))
 refine TW.seq fun Y13 hY13 => ?_
 refine TW.regionI ?_
 refine TLi.op (fun U6 hU6 => ?_) (by rintro ⟨_, _, h⟩; first | exact h | (obtain ⟨⟨_, h⟩, _⟩ := h; cases h) | cases h)
 refine TL.p Pu.mv ?_
 refine TL.nil ?_
 refine TQ.nxt (hU6 _ _ ?_)
 refine TLi.op (fun U7 hU7 => ?_) (by rintro ⟨_, _, h⟩; first | exact h | (obtain ⟨⟨_, h⟩, _⟩ := h; cases h) | cases h)
 refine TL.p (by first | exact (Pu.lds ty_ag66) | exact (Pu.ldso ty_ag66)) ?_
 refine TL.nil ?_
 refine TQ.nxt (hU7 _ _ ?_)
 refine TLi.op (fun U8 hU8 => ?_) (by rintro ⟨_, _, h⟩; first | exact h | (obtain ⟨⟨_, h⟩, _⟩ := h; cases h) | cases h)
 refine TL.call (M := []) rfl (enters Tryz.func44 rfl rfl) (List.Perm.refl _) rfl (fun w hw => by
   exact letNums_any (hk k hkl) _) ?_
 rintro ⟨A3, c3⟩
 refine TL.nil ?_
 refine TQ.nxt (hU8 _ _ ?_)
 refine TLi.yi rfl rfl (fun w hw => by
   have h9 := hround (nr + k) (A3, c3) r w (by omega)
   dsimp only at h9
   rw [pgG_let hkl] at h9
   exact h9 (hw.sub (KSub.cons pk9 (KSub.cons pk9 (KSub.drop (KSub.refl _)))))) ?_ ?_
 intro r'
 refine TLi.op (fun U9 hU9 => ?_) (by rintro ⟨_, _, h⟩; first | exact h | (obtain ⟨⟨_, h⟩, _⟩ := h; cases h) | cases h)
 refine TL.p Pu.no ?_
 refine TL.nil ?_
 refine TQ.nxt (hU9 _ _ ?_)
 refine TLi.nil ?_
 refine TQ.thenN (hY13 _ _ ?_)
 refine TW.condF rfl rfl ?_
 refine TW.skip ?_
 refine TQ.blkN ?_
 refine TQ.thenN (hY11 _ _ ?_)
 refine TW.region ?_
 refine TL.p Pu.ad ?_
 refine TL.p Pu.mv ?_
 refine TL.nil ?_
 refine TQ.thenN (hZ1 (k + 1) r' _ _ ?_ ?_ fs9 ?_)
 exact (by omega)
 exact zom9
 exact KSub.refl _
 intro x
 refine TLi.op (fun U10 hU10 => ?_) (by rintro ⟨_, _, h⟩; first | exact h | (obtain ⟨⟨_, h⟩, _⟩ := h; cases h) | cases h)
 refine TL.p Pu.no ?_
 refine TL.nil ?_
 refine TQ.nxt (hU10 _ _ ?_)
 refine TLi.nil ?_
 refine TQ.thenN (hY13 _ _ ?_)
 refine TW.condT rfl rfl ?_
 refine TW.ret ?_
 refine TQ.blkR ?_
 refine TQ.thenR ?_
 refine TQ.thenR ?_
 refine TQ.blkR ?_
 refine TQ.ret Tryz.results42 rfl (.nil) ?_
 exact fun w hw => ⟨⟨_, rfl⟩, .inr ⟨x, hw.sub (KSub.drop (KSub.refl _))⟩⟩
 try simp only [zcb9] at hc2
 obtain rfl : nl = k := by omega
 refine TW.exit ?_
 refine TQ.thenX ?_
 refine TQ.thenX ?_
 refine TQ.blkX ?_
 refine TQ.end Tryz.results42 rfl (.nil) ?_
 exact fun w hw => ⟨⟨_, rfl⟩, .inl ⟨r, hw.sub (KSub.drop (KSub.refl _))⟩⟩
end
end Go.Proofs.YtehlbkmebaideaaGreatDoor
namespace Go.Proofs.YtehlbkmebaideaaGreatDoor
set_option linter.all false
set_option linter.unusedVariables false
set_option linter.unusedSimpArgs false
open Go.RowKit Go.Lib
def badL : Fact := .pr [] (fun _ => False)
theorem no_badL {S : List Nat} {w0 w : World} {K : List Fact} (h : Sat S w0 K w) (hm : badL ∈ K) : False := (h.holds _ hm).now
section
variable {R L : Option Addr} {nr cr nl cl : Nat} {f : Nat → Nat → Int} {g : Nat → Ltr} {w : World}
theorem pgOk_at {q : Nat} (h : pgOk (pgs f nr g nl) = true) (hq : q < nr + nl) : (pgG f nr g nl q).2.all wrB = true := by
 refine List.all_eq_true.1 h _ ?_
 unfold pgG
 rw [List.getD_eq_getElem?_getD, List.getElem?_eq_getElem (by rw [pgs_len]; exact hq)]
 exact List.getElem_mem _
theorem bkOk_pgs : bkOk f nr g nl = (pgOk (pgs f nr g nl) && decide (nr + nl ≤ 300)) := rfl
set_option maxRecDepth 100000 in
set_option maxHeartbeats 2000000 in
theorem bound_any (hb : nr + nl ≤ 1000) (hR : RdR w 14 R nr (fun i => rwL (f i))) (hL : RdR w 8 L nl (fun i => ltL (g i))) (hk : ∀ i, i < nl → 0 ≤ (g i).kind ∧ (g i).kind ≤ 255) :
  Calls Tryz.prog 17 #[.agg #[.slice R nr cr, .slice L nl cl]] w (Ret w (.bool (bkOk f nr g nl))) := by
 have htk : (pgs f nr g nl).take (nr + nl) = pgs f nr g nl := List.take_of_length_le (by rw [pgs_len]; exact Nat.le_refl _)
 refine K_enterM (S := []) (K := []) Tryz.func17 rfl Tryz.ntmps17 rfl (Sat.start _) ?_
 refine TW.seqD fun Y1 hY1 => ?_
 refine TW.region ?_
 refine TL.m Mk.bx ?_
 intro b1
 refine TL.m (Mk.al ty_zr4) ?_
 intro b2
 refine TL.nil ?_
 refine TQ.thenN (hY1 _ _ _ ?_)
 refine TW.seqD fun Y2 hY2 => ?_
 refine TW.seqD fun Y3 hY3 => ?_
 refine TW.region ?_
 refine TL.p (Pu.lds ty_ag25) ?_
 refine TL.call (M := []) rfl (enters Tryz.func18 rfl rfl) (List.Perm.refl _) rfl (fun w hw => by
   exact pages_any _) ?_
 rintro bp
 refine TL.nil ?_
 refine TQ.thenN (hY3 _ _ _ ?_)
 refine TW.block ?_
 refine TW.range (fun (q : Nat) (_ : Unit) => if pgOk ((pgs f nr g nl).take q) = true then [.blk b2 4 [.bool false], .blk b1 25 [.slice R nr cr, .slice L nl cl]] else [badL]) (fun _ : { _u : Unit // pgOk (pgs f nr g nl) = false } => Code.ret) (fun _ => [.blk b2 4 [.bool false]]) (()) (pages1_iter (b := bp) (cr := cr) (cl := cl) hb hR hL hk) ?_ ?_ ?_ ?_ (eg := enters Tryz.func42 rfl rfl)
 show KSub _ (_ ++ (if pgOk ((pgs f nr g nl).take 0) = true then _ else _))
 rw [if_pos (show pgOk ((pgs f nr g nl).take 0) = true from rfl)]
 exact ks9
 rintro lR DR oR oR1 oR2 q ⟨A7, c7⟩ r hq ZR0 hZR0
 by_cases hno : pgOk ((pgs f nr g nl).take q) = true
 case neg => exact fun a w hF hK => (no_badL hK (by rw [if_neg hno]; simp)).elim
 simp only [if_pos hno, List.cons_append, List.nil_append]
 have hpl := pgG_len (f := f) (g := g) hq
 refine TWi.region ?_
 refine TL.p Pu.as ?_
 refine TL.nil ?_
 refine TQ.thenN (hZR0 _ _ _ Pick.hd ?_)
 refine TWi.block ?_
 refine TWi.seq fun Y4 hY4 => ?_
 refine TWi.region ?_
 refine TL.p Pu.mv ?_
 refine TL.cr rfl (enters Tryz.func28 rfl rfl) (fun w hw => by
   exact written_any (by omega) (OwnR.rdr (hw.own pk9))) ?_
 refine TL.p Pu.no ?_
 refine TL.nil (TQ.thenN (hY4 _ _ ?_))
 refine TWi.cond rfl (fun hc0 => ?_) (fun hc0 => ?_)
 try simp only [zcb9] at hc0
 have hbad : pgOk (pgs f nr g nl) = false := by
  cases h9 : pgOk (pgs f nr g nl) with
  | false => rfl
  | true => rw [pgOk_at h9 hq] at hc0; cases hc0
 refine TWi.seq fun Y5 hY5 => ?_
 refine TWi.region ?_
 first | refine TL.st ty_sz4 ?_ | refine TL.se ty_sz4 ?_
 refine TL.nil (TQ.thenN (hY5 _ _ ?_))
 refine TWi.ret ?_
 refine TQ.blkR ?_
 refine TQ.rbR (⟨(), hbad⟩) rfl ?_
 exact ks9
 try simp only [zcb9] at hc0
 have hok : pgOk ((pgs f nr g nl).take (q + 1)) = true := by
  rw [pgs_take hq, pgOk_app, hno]
  simpa [pgOk] using hc0
 refine TWi.skip ?_
 refine TQ.blkN ?_
 refine TQ.rbN (()) ?_
 show KSub _ (_ :: _ :: (_ ++ (if pgOk ((pgs f nr g nl).take (q + 1)) = true then _ else _)))
 rw [if_pos hok]
 exact ks9
 rintro DR r
 by_cases hno : pgOk (pgs f nr g nl) = true
 case neg => exact fun a w hF hK => (no_badL hK (by rw [htk, if_neg hno]; simp)).elim
 simp only [htk, if_pos hno, List.nil_append]
 refine TQ.blkN ?_
 refine TQ.thenN (hY2 _ _ _ ?_)
 refine TW.seqD fun Y6 hY6 => ?_
 refine TW.region ?_
 refine TL.p (by first | exact Pu.fb ty_fa25_0 | exact Pu.fe ty_fa25_0) ?_
 refine TL.p (Pu.ld ty_sc22) ?_
 refine TL.p (Pu.ln Tryz.underlying22) ?_
 refine TL.p (by first | exact Pu.fb ty_fa25_1 | exact Pu.fe ty_fa25_1) ?_
 refine TL.p (Pu.ld ty_sc23) ?_
 refine TL.p (Pu.ln Tryz.underlying23) ?_
 refine TL.p Pu.ad ?_
 refine TL.p Pu.le ?_
 first | refine TL.st ty_sz4 ?_ | refine TL.se ty_sz4 ?_
 refine TL.nil ?_
 refine TQ.thenN (hY6 _ _ _ ?_)
 refine TW.ret ?_
 refine TQ.retM Tryz.results17 pk9 ((RV.c1 ty_sc4 .nil)) ?_
 exact fun w hw => ⟨ret_bool (by rw [bkOk_pgs, hno, Bool.true_and, Bool.eq_iff_iff, decide_eq_true_eq, decide_eq_true_eq]; omega), Chg.ext hw.chg⟩
 rintro DR ⟨u, hu⟩
 have hu2 := hu
 refine TW.ret ?_
 refine TQ.blkR ?_
 refine TQ.thenR ?_
 refine TQ.retM Tryz.results17 pk9 ((RV.c1 ty_sc4 .nil)) ?_
 exact fun w hw => ⟨ret_bool (by rw [bkOk_pgs, hu]; rfl), Chg.ext hw.chg⟩
set_option maxRecDepth 100000 in
set_option maxHeartbeats 2000000 in
theorem bookW_any (hP : Pow w) (hb : nr + nl ≤ 1000) (hR : RdR w 14 R nr (fun i => rwL (f i))) (hL : RdR w 8 L nl (fun i => ltL (g i))) (hk : ∀ i, i < nl → 0 ≤ (g i).kind ∧ (g i).kind ≤ 255) :
  Calls Tryz.prog 7 #[.agg #[.slice R nr cr, .slice L nl cl]] w (Ret w (.tuple #[sv (bkW f nr g nl).1, .int .i64 (bkW f nr g nl).2])) := by
 have htk : (pgs f nr g nl).take (nr + nl) = pgs f nr g nl := List.take_of_length_le (by rw [pgs_len]; exact Nat.le_refl _)
 have hlenT : (pgT (pgs f nr g nl)).length = nr + nl := by rw [← pgs_len (f := f) (nr := nr) (g := g) (nl := nl)]; simp [pgT]
 refine K_enterM (S := []) (K := []) Tryz.func7 rfl Tryz.ntmps7 rfl (Sat.start _) ?_
 refine TW.seqD fun Y1 hY1 => ?_
 refine TW.region ?_
 refine TL.m Mk.bx ?_
 intro b1
 refine TL.p Pu.as ?_
 refine TL.p Pu.as ?_
 refine TL.nil ?_
 refine TQ.thenN (hY1 _ _ _ ?_)
 refine TW.seqD fun Y2 hY2 => ?_
 refine TW.seqD fun Y3 hY3 => ?_
 refine TW.region ?_
 refine TL.p (Pu.lds ty_ag25) ?_
 refine TL.cr rfl (enters Tryz.func17 rfl rfl) (fun w hw => by
   exact bound_any hb (hR.sat hw Apart.nil) (hL.sat hw Apart.nil) hk) ?_
 refine TL.p Pu.no ?_
 refine TL.nil ?_
 refine TQ.thenN (hY3 _ _ _ ?_)
 refine TW.cond rfl (fun hc0 => ?_) (fun hc0 => ?_)
 try simp only [zcb9] at hc0
 refine TW.seqD fun Y4 hY4 => ?_
 refine TW.region ?_
 refine TL.p Pu.as ?_
 refine TL.p Pu.as ?_
 refine TL.nil ?_
 refine TQ.thenN (hY4 _ _ _ ?_)
 refine TW.ret ?_
 refine TQ.thenR ?_
 refine TQ.retM0 Tryz.results7 ((.tmp rfl (.tmp rfl .nil))) ?_
 refine fun w hw => ⟨?_, Chg.ext hw.chg⟩
 unfold bkW
 rw [if_neg (by simpa using hc0)]
 rfl
 try simp only [zcb9] at hc0
 have hok : bkOk f nr g nl = true := by simpa using hc0
 have hok2 := hok
 rw [bkOk_pgs, Bool.and_eq_true, decide_eq_true_eq] at hok2
 obtain ⟨ok1, ok3⟩ := hok2
 refine TW.skip ?_
 refine TQ.thenN (hY2 _ _ _ ?_)
 refine TW.seqD fun Y5 hY5 => ?_
 refine TW.region ?_
 refine TL.m (Mk.al ty_zr51) ?_
 intro b2
 refine TL.nil ?_
 refine TQ.thenN (hY5 _ _ _ ?_)
 refine TW.seqD fun Y6 hY6 => ?_
 refine TW.seqD fun Y7 hY7 => ?_
 refine TW.region ?_
 refine TL.p (Pu.lds ty_ag25) ?_
 refine TL.call (M := []) rfl (enters Tryz.func18 rfl rfl) (List.Perm.refl _) rfl (fun w hw => by
   exact pages_any _) ?_
 rintro bp
 refine TL.nil ?_
 refine TQ.thenN (hY7 _ _ _ ?_)
 refine TW.block ?_
 refine TW.range (fun (q : Nat) (x : Option Addr × Nat) => [.blk b2 51 [.slice x.1 q x.2], .own x.1 q x.2 9 1 (strL ((pgT (pgs f nr g nl)).take q))]) (fun x : Empty => x.elim) (fun x => x.elim) ((none, 0)) (pages1_iter (b := bp) (cr := cr) (cl := cl) hb hR hL hk) ?_ ?_ ?_ ?_ (eg := enters Tryz.func42 rfl rfl)
 exact KSub.cons pk9 (KSub.cons pk9 (KSub.nilOwn KSub.nil))
 rintro lR DR oR oR1 oR2 q ⟨A7, c7⟩ ⟨B, cb⟩ hq ZR0 hZR0
 simp only [List.cons_append, List.nil_append]
 have hpl := pgG_len (f := f) (g := g) hq
 have hpo := pgOk_at ok1 hq
 have hql : q < (pgT (pgs f nr g nl)).length := by omega
 have hqe : (pgT (pgs f nr g nl)).getD q [] = phr [(pgG f nr g nl q).1] (pgG f nr g nl q).2 := by
  unfold pgT pgG
  rw [List.getD_eq_getElem?_getD, List.getElem?_map, List.getD_eq_getElem?_getD, List.getElem?_eq_getElem (by rw [pgs_len]; exact hq)]
  rfl
 refine TWi.seq fun Y8 hY8 => ?_
 refine TWi.region ?_
 refine TL.p Pu.as ?_
 refine TL.nil (TQ.thenN (hY8 _ _ ?_))
 refine TWi.region ?_
 refine TL.p Pu.as ?_
 refine TL.nil ?_
 refine TQ.thenN (hZR0 _ _ _ Pick.hd ?_)
 refine TWi.block ?_
 refine TWi.dw 5 ?_
 refine RK.tk (Pu.ld ty_sc51) ?_
 refine RK.tk Pu.mv ?_
 refine RK.tk Pu.mv ?_
 refine RK.keep ?_
 refine RK.keep ?_
 refine RK.ch [false, false] ?_ trivial
 refine WK.cr rfl (enters Tryz.func19 rfl rfl) (fun w hw => by
   exact phrase_any (hP.sat hw) (by show 1 ≤ 1000000; decide) (by omega) hpo (OwnR.rdr (hw.own pk9))) ?_
 refine WK.m Mk.bl ?_
 intro b3
 refine WK.n ?_
 first | refine TL.a0 ty_et51 ?_ | refine TL.ap ty_et51 ?_
 intro A4 c4
 first | refine TL.st ty_sz51 ?_ | refine TL.se ty_sz51 ?_
 refine TL.nil ?_
 refine TQ.blkN ?_
 refine TQ.rbN ((A4, c4)) ?_
 exact KSub.cons pk9 (KSub.cons pk9 (KSub.cons pk9 (KSub.cons pk9 (KSub.own pk9 (fun i hi => (strL_app (ls := (pgT (pgs f nr g nl)).take q) (x := phr [(pgG f nr g nl q).1] (pgG f nr g nl q).2) (by rw [List.length_take]; omega) i hi).trans (by rw [takeS hql, hqe])) KSub.nil))))
 rintro DR ⟨B, cb⟩
 simp only [List.nil_append]
 refine TQ.blkN ?_
 refine TQ.thenN (hY6 _ _ _ ?_)
 refine TW.seqD fun Y9 hY9 => ?_
 refine TW.region ?_
 refine TL.p (Pu.ld ty_sc51) ?_
 refine TL.cr rfl (enters Tryz.func20 rfl rfl) (fun w hw => by
   have h9 := twist_any (ls := pgT (pgs f nr g nl)) (A := B) (cp := cb) (hP.sat hw) (by omega) (fun x hx => by
    obtain ⟨p, hp, rfl⟩ := List.mem_map.1 hx
    refine pg_len (List.all_eq_true.1 ok1 _ hp) ?_
    obtain ⟨q, hq, rfl⟩ := List.getElem_of_mem hp
    have h8 := pgG_len (f := f) (g := g) (q := q) (by rw [pgs_len] at hq; exact hq)
    unfold pgG at h8
    rwa [List.getD_eq_getElem?_getD, List.getElem?_eq_getElem hq] at h8) (by
    rw [hlenT]
    have h8 := OwnR.rdr (hw.own (A := B) (n := nr + nl) (cp := cb) (E := 9) (sz := 1) (r := strL ((pgT (pgs f nr g nl)).take (nr + nl))) pk9)
    rwa [List.take_of_length_le (by omega)] at h8)
   rw [hlenT] at h9
   exact h9) ?_
 refine TL.p Pu.ex ?_
 refine TL.p Pu.ex ?_
 refine TL.p Pu.as ?_
 refine TL.p Pu.as ?_
 refine TL.nil ?_
 refine TQ.thenN (hY9 _ _ _ ?_)
 refine TW.ret ?_
 refine TQ.retM Tryz.results7 pk9 ((.tmp rfl (.tmp rfl .nil))) ?_
 refine fun w hw => ⟨?_, Chg.ext hw.chg⟩
 unfold bkW
 rw [if_pos hok]
 rfl
 intro _ x; exact x.elim
end
end Go.Proofs.YtehlbkmebaideaaGreatDoor
