/-
  Part 4 of the proof of leaderReads_holds: declarations of several texts, in build order. No condition on a program.
-/
import Derived.Test.YtfgnbkegdjkdmaaGreatDoorlr103
import Derived.Lib.SliceRun
import Derived.IntWalk
import Derived.Lib.AppendStr
import Derived.Lib.ConvBytes
import Derived.Shelf.Strconv.Atoi
import Derived.Shelf.Strconv.Itoa0
import Derived.Shelf.Strconv.Itoa1
import Derived.Shelf.LaysM
import Derived.Shelf.Strconv.Itoa2
import Derived.Shelf.Strconv.Itoa3
import Derived.Shelf.Strconv.AtoiErrFast
import Derived.Shelf.Strconv.ParseIntEmpty
import Derived.Shelf.Strconv.AtoiFail
import Derived.Shelf.Strconv.Clone
import Derived.Shelf.Strconv.SyntaxError
import Derived.Shelf.LaysC
import Derived.Shelf.Strconv.ToError
import Derived.Shelf.Strconv.Lower
import Derived.Shelf.Strconv.ParseUint10
import Derived.Shelf.Strconv.ParseUint10Empty
import Derived.Shelf.Strconv.ParseUint10Any
import Derived.Shelf.Strconv.ParseInt10
import Derived.Shelf.Strconv.AtoiLong
import Derived.Shelf.Strconv.AtoiInnerAll
import Derived.Shelf.Strconv.RangeError
import Derived.Shelf.Strconv.ToErrorRange
import Derived.Shelf.Strconv.AtoiAll
import Derived.Shelf.Strconv.ErrVarAll
import Derived.Shelf.Strings.Search1
import Derived.Shelf.Strings.Search2
import Derived.Shelf.Strings.Search3
import Derived.Shelf.Strings.Cut
import Derived.Shelf.Strings.Count
import Derived.Shelf.Strings.Shaped
import Derived.Shelf.Strings.LastIndex
import Derived.Shelf.Strings.Split
import Derived.Shelf.Unicode.DecodeSlow
import Derived.Test.YtfgnbkegdjkdmaaGreatDoorProg
import Derived.ArgAppend
import Derived.Test.YtfgnbkegdjkdmaaGreatDoorlr101
import Derived.Test.YtfgnbkegdjkdmaaGreatDoorlr102
import Derived.Test.YtfgnbkegdjkdmaaGreatDoorRows
import Derived.OpenShut
import Derived.LaidMore
import Derived.Stop.Joined
namespace Go.Proofs.YtfgnbkegdjkdmaaGreatDoor
set_option linter.all false
set_option linter.unusedVariables false
set_option linter.unusedSimpArgs false
open Go.RowKit
theorem Fact.locB {φ : Fact} {w w' : World} (h : φ.holds w) (he : ∀ b ∈ φ.foot, w'.heap[b]? = w.heap[b]?) : φ.holds w' := by
  match φ, h, he with
  | .blk b t cs, h, he => exact (he b (by simp [Fact.foot])).trans h
  | .own A n c E sz f, h, he => exact ⟨own_of_block h.own fun b hb => he b (by rw [own_foot, hb]; simp), h.len⟩
  | .obj b o, h, he => exact ⟨(he b (by simp [Fact.foot])).trans h.1, h.2⟩
  | .pr l p, h, he =>
    refine ⟨h.loc w w' h.lt h.now he, fun b hb => ?_, h.loc⟩
    have h1 := h.lt b hb
    have h2 := he b hb
    rw [Array.getElem?_eq_getElem h1] at h2
    exact (Array.getElem?_eq_some_iff.1 h2).1
def bun (K : List Fact) : Fact := .pr (feet K) fun w => ∀ φ ∈ K, φ.holds w
theorem bun_holds {K : List Fact} {w : World} (h : ∀ φ ∈ K, φ.holds w) : (bun K).holds w :=
 ⟨h, fun b hb => by
  obtain ⟨φ, hφ, hb'⟩ := List.mem_flatMap.1 hb
  exact Fact.lt (h φ hφ) b hb', fun w w' _ hp he φ hφ => Fact.locB (hp φ hφ) fun b hb => he b (List.mem_flatMap.2 ⟨φ, hφ, hb⟩)⟩
theorem Sat.bun {S : List Nat} {w0 w : World} {K1 K : List Fact} (h : Sat S w0 (K1 ++ K) w) : Sat S w0 (bun K1 :: K) w := by
 have e : feet (Go.Proofs.YtfgnbkegdjkdmaaGreatDoor.bun K1 :: K) = feet (K1 ++ K) := by rw [feet_append]; rfl
 refine ⟨h.chg, by rw [e]; exact h.nd, by rw [e]; exact h.ge, fun φ hφ => ?_⟩
 rcases List.mem_cons.1 hφ with rfl | hφ
 · exact bun_holds fun ψ hψ => h.holds ψ (List.mem_append_left _ hψ)
 · exact h.holds φ (List.mem_append_right _ hφ)
theorem TL.bun {c : Cx} {Q : Exit → Act → World → Prop} {F : Fr} {K1 K : List Fact} {ops : Array Oper} {rest : List Oper} (h : TL c ops Q rest F (bun K1 :: K)) : TL c ops Q rest F (K1 ++ K) := fun a w hF hK => h a w hF hK.bun
theorem bun_get {S : List Nat} {w0 w : World} {K1 K : List Fact} (hw : Sat S w0 K w) (hm : bun K1 ∈ K) {φ : Fact} (h : φ ∈ K1) : φ.holds w := (hw.holds _ hm).now φ h
end Go.Proofs.YtfgnbkegdjkdmaaGreatDoor
namespace Go.Proofs.YtfgnbkegdjkdmaaGreatDoor
set_option linter.all false
set_option linter.unusedVariables false
set_option linter.unusedSimpArgs false
open Go.RowKit
abbrev tied (K : List Fact) : Fact := bun K
theorem Sat.unbun {S : List Nat} {w0 w : World} {K1 K : List Fact} (h : Sat S w0 (tied K1 :: K) w) : Sat S w0 (K1 ++ K) w := by
 have e : feet (tied K1 :: K) = feet (K1 ++ K) := by rw [feet_append]; rfl
 refine ⟨h.chg, by rw [← e]; exact h.nd, by rw [← e]; exact h.ge, fun φ hφ => ?_⟩
 rcases List.mem_append.1 hφ with hφ | hφ
 · exact (h.holds _ (List.mem_cons_self ..)).now φ hφ
 · exact h.holds φ (List.mem_cons_of_mem _ hφ)
section
variable {E : TypeId} {sz : Nat} {A A2 : Nat → Option Addr} {l l2 c c2 : Nat → Nat} {r r2 : Nat → Nat → List Value} {s : Nat}
variable {cx : Cx} {Q : Exit → Act → World → Prop} {F : Fr} {K K' : List Fact} {ops : Array Oper} {rest : List Oper}
end
end Go.Proofs.YtfgnbkegdjkdmaaGreatDoor
namespace Go.Proofs.YtfgnbkegdjkdmaaGreatDoor
set_option linter.all false
set_option linter.unusedVariables false
set_option linter.unusedSimpArgs false
open Go.RowKit
section
variable {c : Cx} {Q : Exit → Act → World → Prop} {F : Fr} {K K' K1 : List Fact} {ops : Array Oper} {rest : List Oper}
theorem OwnR.cap {w : World} {A : Option Addr} {n cp : Nat} {E : TypeId} {sz : Nat} {r : Nat → List Value} (h : OwnR w A n cp E sz r) : n ≤ cp := by
 obtain ⟨A', c', e, h1, _⟩ := h.own.form
 cases e
 exact h1
theorem TL.unb (hp : Pick K (tied K1) K') (h : TL c ops Q rest F (K1 ++ K')) : TL c ops Q rest F K := fun a w hF hK => h a w hF (hK.pick hp).unbun
end
section
variable {c : Cx} {F : Fr} {K : List Fact} {d : Option Tmp} {ty xt yt : TypeId} {pos : String} {af : Array Edge} {g : Option (Nat × Bool)} {x y : Operand}
end
end Go.Proofs.YtfgnbkegdjkdmaaGreatDoor
namespace Go.Proofs.YtfgnbkegdjkdmaaGreatDoor
set_option linter.all false
set_option linter.unusedVariables false
set_option linter.unusedSimpArgs false
open Go.RowKit
def bR (l : List UInt8) : Nat → List Value := fun i => [.int .u8 ((l.getD i 0).toNat : Int)]
section
variable {c : Cx} {Q : Exit → Act → World → Prop} {F F' : Fr} {K K' K0 : List Fact} {ops : Array Oper} {rest : List Oper} {d : Option Tmp} {ty : TypeId} {pos : String} {af : Array Edge} {g : Option (Nat × Bool)}
theorem TL.cvb {x : Operand} {S T E : TypeId} {l : List UInt8} {ud : TypeDesc} (hS : c.P.underlying S = some ud) (hT : c.P.underlying T = some (.slice E)) (hE : c.P.underlying E = some (.int .u8)) (h : ∀ b cp, TL c ops Q rest (fput F d (.slice (some ⟨b, 0, none⟩) l.length cp)) (.pr [b] (fun w => RdR w 1 (some ⟨b, 0, none⟩) l.length (bR l)) :: K)) (hx : ev F x = some (sv l) := by rfl) (hd : dok d c.n = true := by rfl) :
    TL c ops Q (⟨d, .convert S T x, ty, pos, af, none⟩ :: rest) F K := fun a w hF hK => by
  have hr := Lib.run_convert_string_bytes (P := c.P) w S T E ⟨l.toArray⟩ hS hT hE
  refine wpList_plain rfl fun Z hZ => ?_
  unfold Oper.wp
  have h1 : (execOp a.eval ⟨d, .convert S T x, ty, pos, af, none⟩).run c.P w = .ok (.value (.slice (some ⟨w.heap.size, 0, none⟩) l.length (grownCap w l.length 0 E))) (Lib.bytesWorld w E ⟨l.toArray⟩) := by
    have h2 : (⟨l.toArray⟩ : ByteArray).size = l.length := ba_size
    rw [h2] at hr
    simp only [execOp, hF.evl hx, Sem.run_bind, sv, hr, Result.andThen_ok, Sem.run_pure]
  rw [h1]
  have hsz : (Lib.bytesWorld w E ⟨l.toArray⟩).heap.size = w.heap.size + 1 := Lib.bytesWorld_size w E _
  have hrd : ∀ w' : World, w'.heap[w.heap.size]? = (Lib.bytesWorld w E ⟨l.toArray⟩).heap[w.heap.size]? → w.heap.size < w'.heap.size → RdR w' 1 (some ⟨w.heap.size, 0, none⟩) l.length (bR l) := fun w' he hlt => by
    refine ⟨fun hn => ⟨w.heap.size, 0, rfl, hlt, fun i j hi hj => ?_⟩, fun i hi => rfl⟩
    obtain rfl : j = 0 := by omega
    have h3 := Lib.bytesWorld_cell w E ⟨l.toArray⟩ i (by rw [ba_size]; exact hi)
    rw [Nat.zero_add, Nat.mul_one, Nat.add_zero]
    rw [World.cell?_of_block (w := Lib.bytesWorld w E ⟨l.toArray⟩) (w' := w') (a := ⟨w.heap.size, i, none⟩) he, h3]
    simp [rowF, bR]
  have hnew : Sat [] w [.pr [w.heap.size] (fun w' => RdR w' 1 (some ⟨w.heap.size, 0, none⟩) l.length (bR l))] (Lib.bytesWorld w E ⟨l.toArray⟩) := by
    refine Sat.one ⟨rfl, rfl, rfl, by omega, fun k hk _ => Lib.bytesWorld_at_old w E _ k hk⟩ (by simp [Fact.foot]) (fun q hq => .inr (by simp [Fact.foot] at hq; omega)) ⟨?_, ?_, ?_⟩
    · exact hrd _ rfl (by omega)
    · intro b hb; simp at hb; omega
    · intro w1 w2 hl hp he
      have h9 := he w.heap.size (by simp)
      refine ⟨fun hn => ?_, fun i hi => rfl⟩
      obtain ⟨b, o, e, hlt, hc⟩ := hp.rd hn
      injection e with e
      injection e with e1 e2
      subst e1 e2
      have hlt2 : w.heap.size < w2.heap.size := by
        have h8 : w1.heap[w.heap.size]? ≠ none := by rw [Array.getElem?_eq_getElem hlt]; exact fun h => by cases h
        rw [← h9] at h8
        exact Nat.lt_of_not_le fun h7 => h8 (Array.getElem?_eq_none h7)
      refine ⟨_, _, rfl, hlt2, fun i j hi hj => ?_⟩
      rw [← hc i j hi hj]
      exact World.cell?_of_block h9
  exact hZ _ _ (h w.heap.size _ _ _ (hF.fput hd _) (hK.add hnew))
theorem CellsN.prr {A : Option Addr} {n k j m sz : Nat} {l : List Nat} {r : Nat → List Value} {vs : List Value} (hp : Pick K (.pr l (fun w => RdR w sz A n r)) K') (hk : k < n) (hs : SubL (r k) j m vs) : CellsN c K (elA A k sz j) m vs := ⟨fun w hK => by
 obtain ⟨b, off, h1, _, _, h4⟩ := RdR.cells (hK.holds _ hp.mem).now hk hs
 exact ⟨b, off, h1, h4⟩, hs.spec.1⟩
end
end Go.Proofs.YtfgnbkegdjkdmaaGreatDoor
namespace Go.Proofs.YtfgnbkegdjkdmaaGreatDoor
set_option linter.all false
set_option linter.unusedVariables false
set_option linter.unusedSimpArgs false
open Go.RowKit Go.MapKept
theorem ba_beq {a b : List UInt8} : ((⟨a.toArray⟩ : ByteArray) == ⟨b.toArray⟩) = decide (a = b) := by
 rw [Bool.eq_iff_iff, bytes_beq, decide_eq_true_eq, ByteArray.ext_iff]
 exact ⟨fun h => by simpa using h, fun h => by simp [h]⟩
def entS : Nat → List (List UInt8 × Value) → List MapEntry
 | _, [] => []
 | s, (k, v) :: l => { key := sv k, val := v, born := s } :: entS (s + 1) l
def mapS (l : List (List UInt8 × Value)) : Obj := .map (entS 0 l).toArray l.length
def slook (i : List UInt8) : List (List UInt8 × Value) → Option Value
 | [] => none
 | (k, v) :: l => if i = k then some v else slook i l
def sfind (i : List UInt8) : Nat → List (List UInt8 × Value) → Option (Nat × Value)
 | _, [] => none
 | q, (k, v) :: l => if i = k then some (q, v) else sfind i (q + 1) l
theorem findNow_entS (i : List UInt8) : ∀ (l : List (List UInt8 × Value)) (s q : Nat), Instr.findNow .string (sv i) (entS s l) q = some (sfind i q l)
 | [], _, _ => rfl
 | (k, v) :: l, s, q => by
  have h1 : Instr.sameNow .string (sv i) (sv k) = some (decide (i = k)) := by
    show some ((⟨i.toArray⟩ : ByteArray) == ⟨k.toArray⟩) = _
    rw [ba_beq]
  by_cases h : i = k
  · subst h; simp [entS, Instr.findNow, h1, sfind]
  · simp [entS, Instr.findNow, h1, sfind, h, findNow_entS i l (s + 1) (q + 1)]
theorem sfind_look (i : List UInt8) : ∀ (l : List (List UInt8 × Value)) (q : Nat), (sfind i q l).map (·.2) = slook i l
 | [], _ => rfl
 | (k, v) :: l, q => by
  by_cases h : i = k
  · simp [sfind, slook, h]
  · simp [sfind, slook, h, sfind_look i l (q + 1)]
theorem entS_app : ∀ (l : List (List UInt8 × Value)) (x : List UInt8 × Value) (s : Nat), entS s (l ++ [x]) = entS s l ++ [{ key := sv x.1, val := x.2, born := s + l.length }]
 | [], _, _ => rfl
 | y :: l, x, s => by
  simp only [List.cons_append, entS, entS_app l x (s + 1), List.length_cons]
  rw [show s + 1 + l.length = s + (l.length + 1) by omega]
theorem run_getObj_s {P : Program} {w : World} {b : Nat} {l : List (List UInt8 × Value)} (hb : w.heap[b]? = some (mapS l)) : (getObj b).run P w = .ok (.map (entS 0 l).toArray l.length) w := by
 unfold mapS at hb
 exact Go.MapKept.run_getObj_map hb
theorem run_setObj_s {P : Program} {w : World} {b : Nat} {l : List (List UInt8 × Value)} (o : Obj) (hb : w.heap[b]? = some (mapS l)) : (setObj b o).run P w = .ok () { w with heap := w.heap.setIfInBounds b o } := by
 unfold mapS at hb
 exact Go.MapKept.run_setObj_map o hb
theorem isKey_str (i : List UInt8) : IsKey .string (sv i) := by simp [IsKey, sv]
theorem run_lookup_s {P : Program} {T kt et : TypeId} {w : World} {b : Nat} {l : List (List UInt8 × Value)} {i : List UInt8} {z : Value} (hT : P.underlying T = some (.map kt et)) (hk : P.underlying kt = some .string) (hb : w.heap[b]? = some (mapS l)) (hz : (zeroValue et).run P w = .ok z w) (ok : Bool) :
  (Instr.lookup T (.map (some b)) (sv i) ok).run P w = .ok (if ok then .tuple #[(slook i l).getD z, .bool (slook i l).isSome] else (slook i l).getD z) w := by
 have h0 := findNow_entS i l 0 0
 have hf : (Instr.findKey kt (sv i) (entS 0 l)).run P w = .ok (sfind i 0 l) w := run_findKey hk h0
 have hl := sfind_look i l 0
 unfold Instr.lookup
 simp only [Sem.run_bind, run_underlying hT, Result.andThen_ok, run_getObj_s hb, Sem.run_pure, run_checkKey hk (isKey_str i), hf]
 cases hm : sfind i 0 l with
 | none =>
  rw [hm] at hl
  have hl' : slook i l = none := by simpa using hl.symm
  simp [hz, hl', Result.andThen_ok]
 | some x =>
  rw [hm] at hl
  have hl' : slook i l = some x.2 := by simpa using hl.symm
  simp [hl', Result.andThen_ok]
theorem run_mapUpdate_s {P : Program} {T kt et : TypeId} {w : World} {b : Nat} {l : List (List UInt8 × Value)} {i : List UInt8} {v : Value} (hT : P.underlying T = some (.map kt et)) (hk : P.underlying kt = some .string) (hb : w.heap[b]? = some (mapS l)) (hn : slook i l = none) :
  (Instr.mapUpdate T (.map (some b)) (sv i) v).run P w = .ok () { w with heap := w.heap.setIfInBounds b (mapS (l ++ [(i, v)])) } := by
 have h0 := findNow_entS i l 0 0
 have hf : (Instr.findKey kt (sv i) (entS 0 l)).run P w = .ok (sfind i 0 l) w := run_findKey hk h0
 have hl := sfind_look i l 0
 rw [hn] at hl
 have hm : sfind i 0 l = none := by simpa using hl
 unfold Instr.mapUpdate
 simp only [Sem.run_bind, run_underlying hT, Result.andThen_ok, run_getObj_s hb, run_checkKey hk (isKey_str i), hf, hm, run_setObj_s _ hb]
 unfold mapS
 rw [entS_app]
 simp
section
variable {c : Cx} {Q : Exit → Act → World → Prop} {F F' : Fr} {K K' K0 : List Fact} {ops : Array Oper} {rest : List Oper} {d : Option Tmp} {ty : TypeId} {pos : String} {af : Array Edge} {g : Option (Nat × Bool)} {t : Nat}
theorem TL.mms {T : TypeId} (h : ∀ b, TL c ops Q rest ((t, .map (some b)) :: F) (.obj b (mapS []) :: K)) (hd : Nat.blt t c.n = true := by rfl) : TL c ops Q (⟨some t, .makeMap T none, ty, pos, af, none⟩ :: rest) F K := fun a w hF hK =>
 wpList_plain rfl fun Z hZ => by
  have hr : (execOp a.eval ⟨some t, .makeMap T none, ty, pos, af, none⟩).run c.P w = .ok (.value (.map (some w.heap.size))) (w.alloc (.map #[] 0)) := by
   simp [execOp, run_makeMap]
  unfold Oper.wp
  rw [hr]
  exact hZ _ _ (h _ _ _ (hF.put hd _) (hK.newObj _ rfl))
theorem TL.mis {m x y : Operand} {T kt et : TypeId} {b : Nat} {i : List UInt8} {v : Value} {l : List (List UInt8 × Value)} (hT : c.P.underlying T = some (.map kt et)) (hk : c.P.underlying kt = some .string) (h : TL c ops Q rest F (.obj b (mapS (l ++ [(i, v)])) :: K')) (hm : ev F m = some (.map (some b)) := by rfl) (hx : ev F x = some (sv i) := by rfl) (hy : ev F y = some v := by rfl)
    (hp : Pick K (.obj b (mapS l)) K' := by repeat (first | exact Pick.hd | apply Pick.tl)) (hn : slook i l = none := by rfl) : TL c ops Q (⟨none, .insert T m x y, ty, pos, af, none⟩ :: rest) F K := fun a w hF hK => by
  have hs := hK.pick hp
  have hb : w.heap[b]? = some (mapS l) := (hs.holds (.obj b (mapS l)) (by simp)).1
  have hr := run_mapUpdate_s (i := i) (v := v) hT hk hb hn
  refine wpList_skip rfl (w' := { w with heap := w.heap.setIfInBounds b (mapS (l ++ [(i, v)])) }) ?_ (h a _ hF (hs.turn ?_ (by simp [Fact.foot]) (fun q hq => .inl hq) ⟨(heap_set hb).1, rfl⟩))
  · simp [execOp, hF.evl hm, hF.evl hx, hF.evl hy, hr]
  · exact ⟨rfl, rfl, rfl, by simp, fun q _ hq => (heap_set hb).2 q (by simpa [Fact.foot] using hq)⟩
theorem Pu.lks {x y : Operand} {T kt et : TypeId} {b : Nat} {i : List UInt8} {z : Value} {l : List (List UInt8 × Value)} (hT : c.P.underlying T = some (.map kt et)) (hk : c.P.underlying kt = some .string) (hz : ∀ w, (zeroValue et).run c.P w = .ok z w) (hx : ev F x = some (.map (some b)) := by rfl) (hy : ev F y = some (sv i) := by rfl)
    (hp : Pick K (.obj b (mapS l)) K' := by repeat (first | exact Pick.hd | apply Pick.tl)) : Pu c F K ⟨d, .lookup T x y true, ty, pos, af, g⟩ (.tuple #[(slook i l).getD z, .bool (slook i l).isSome]) := fun a w hF hK => by
  have hb : w.heap[b]? = some (mapS l) := (hK.holds _ hp.mem).1
  have hr := run_lookup_s (i := i) hT hk hb (hz w) true
  simp [execOp, hF.evl hx, hF.evl hy, hr]
theorem Pu.lksS {x y : Operand} {T kt et : TypeId} {b : Nat} {i : List UInt8} {z v : Value} {l : List (List UInt8 × Value)} (hT : c.P.underlying T = some (.map kt et)) (hk : c.P.underlying kt = some .string) (hz : ∀ w, (zeroValue et).run c.P w = .ok z w) (hl : slook i l = some v) (hx : ev F x = some (.map (some b)) := by rfl) (hy : ev F y = some (sv i) := by rfl)
    (hp : Pick K (.obj b (mapS l)) K' := by repeat (first | exact Pick.hd | apply Pick.tl)) : Pu c F K ⟨d, .lookup T x y true, ty, pos, af, g⟩ (.tuple #[v, .bool true]) := fun a w hF hK => by
  have h := Pu.lks (c := c) (F := F) (K := K) (d := d) (ty := ty) (pos := pos) (af := af) (g := g) hT hk hz hx hy hp a w hF hK
  rw [hl] at h
  exact h
theorem Pu.lksN {x y : Operand} {T kt et : TypeId} {b : Nat} {i : List UInt8} {z : Value} {l : List (List UInt8 × Value)} (hT : c.P.underlying T = some (.map kt et)) (hk : c.P.underlying kt = some .string) (hz : ∀ w, (zeroValue et).run c.P w = .ok z w) (hl : slook i l = none) (hx : ev F x = some (.map (some b)) := by rfl) (hy : ev F y = some (sv i) := by rfl)
    (hp : Pick K (.obj b (mapS l)) K' := by repeat (first | exact Pick.hd | apply Pick.tl)) : Pu c F K ⟨d, .lookup T x y true, ty, pos, af, g⟩ (.tuple #[z, .bool false]) := fun a w hF hK => by
  have h := Pu.lks (c := c) (F := F) (K := K) (d := d) (ty := ty) (pos := pos) (af := af) (g := g) hT hk hz hx hy hp a w hF hK
  rw [hl] at h
  exact h
end
end Go.Proofs.YtfgnbkegdjkdmaaGreatDoor
namespace Go.Proofs.YtfgnbkegdjkdmaaGreatDoor
set_option linter.all false
set_option linter.unusedVariables false
set_option linter.unusedSimpArgs false
open Go.RowKit
theorem indexInt_any {g : FuncId} {fs cs : List Value} {A : Option Addr} {n cp : Nat} {v : Nat → Int} {p : Nat → Bool} {M : Nat → List Fact} {w : World} (hen : Enters Tryz.prog g) (hn : n ≤ 9223372036854775807)
  (hR : RdR w 1 A n (fun k => [.int .i64 (v k)])) (hA : 0 < n → Apart (feet (M 0)) A) (hM : Sat (feet (M 0)) w (M 0) w) (hfe : ∀ k, feet (M k) = feet (M 0))
  (hg : ∀ k, k < n → (∀ j, j < k → p j = false) → ∀ w', Sat (feet (M 0)) w (M k) w' → CallsK Tryz.prog g (fs ++ [Value.int .i64 (v k)] ++ cs).toArray (M k) w' Unit (fun _ => .bool (p k)) (fun _ => M (k + 1))) :
  CallsK Tryz.prog 72 #[.slice A n cp, .func (.func g) fs.toArray cs.toArray] (M 0) w (Fst p n) (fun x => .int .i64 (if x.1 < n then (x.1 : Int) else -1)) (fun x => M (aft n x.1)) := by
 refine K_enter (S := feet (M 0)) (K := M 0) Tryz.func72 rfl Tryz.ntmps72 rfl hM ?_
 refine TW.seq fun Y1 hY1 => TW.region ?_
 refine TL.p Pu.as ?_
 refine TL.nil (TQ.thenN (hY1 _ _ ?_))
 refine TW.seq fun Y2 hY2 => ?_
 refine TW.seq fun Y3 hY3 => TW.region ?_
 refine TL.p Pu.mv ?_
 refine TL.p (Pu.ln Tryz.underlying42) ?_
 refine TL.p Pu.mv ?_
 refine TL.nil (TQ.thenN (hY3 _ _ ?_))
 refine TW.block ?_
 refine TW.loop1 (fun (k : Nat) => [(8, .int .i64 (k : Int)), (7, .int .i64 (n : Int)), (0, .slice A n cp), (1, .func (.func g) fs.toArray cs.toArray)]) (fun k => M k) (fun k => k ≤ n ∧ ∀ j, j < k → p j = false) (fun k => n - k) 0 fs9 ?_ ?_ ?_
 exact KSub.refl _
 exact ⟨by omega, fun j hj => by omega⟩
 rintro k ⟨hk, hall⟩ Z0 hZ0
 refine TW.seq fun Y4 hY4 => TW.region ?_
 refine TL.p Pu.lt ?_
 refine TL.nil (TQ.thenN (hY4 _ _ ?_))
 refine TW.seq fun Y5 hY5 => ?_
 refine TW.cond rfl (fun hc0 => ?_) (fun hc0 => ?_)
 try simp only [zcb9] at hc0
 have hkn : k < n := by omega
 have hA := hA (by omega)
 refine TW.skip ?_
 refine TQ.thenN (hY5 _ _ ?_)
 refine TW.seq fun Y6 hY6 => ?_
 refine TW.block ?_
 refine TW.seq fun Y7 hY7 => TW.region ?_
 refine TL.p Pu.mv ?_
 refine TL.p Pu.as ?_
 refine TL.nil (TQ.thenN (hY7 _ _ ?_))
 refine TW.seq fun Y8 hY8 => TW.region ?_
 refine TL.p Pu.mv ?_
 refine TL.p Pu.mv ?_
 refine TL.p Pu.mv ?_
 refine TL.p (Pu.el ty_et42) ?_
 refine TL.p (Pu.ld ty_sc3) ?_
 refine TL.cvk rfl rfl hen (by rw [List.append_nil]) (fun w hw => by
   exact hg k (by omega) hall w hw) ?_
 intro _
 refine TL.nil (TQ.thenN (hY8 _ _ ?_))
 refine TW.cond rfl (fun hc1 => ?_) (fun hc1 => ?_)
 try simp only [zcb9] at hc1
 refine TW.seq fun Y9 hY9 => TW.region ?_
 refine TL.p Pu.mv ?_
 refine TL.p Pu.as ?_
 refine TL.nil (TQ.thenN (hY9 _ _ ?_))
 refine TW.ret ?_
 refine TQ.blkR ?_
 refine TQ.thenR ?_
 refine TQ.thenR ?_
 refine TQ.blkR ?_
 refine TQ.thenR ?_
 refine TQ.ret Tryz.results72 rfl ((.tmp rfl .nil)) ?_
 exact fun w hw => ⟨⟨k, by omega, hall, fun _ => hc1⟩, by simp [hkn]; rfl, by simpa [aft, hkn] using hw⟩
 try simp only [zcb9] at hc1
 refine TW.skip ?_
 refine TQ.blkN ?_
 refine TQ.thenN (hY6 _ _ ?_)
 refine TW.region ?_
 refine TL.p Pu.ad ?_
 refine TL.p Pu.mv ?_
 refine TL.nil ?_
 refine TQ.thenN (hZ0 (k + 1) _ _ ?_ ?_ fs9 ?_)
 refine ⟨by omega, fun j hj => ?_⟩
 by_cases h : j = k
 subst h; exact hc1
 exact hall j (by omega)
 exact zom9
 rw [List.append_nil]; exact KSub.refl _
 try simp only [zcb9] at hc0
 have hkn : k = n := by omega
 refine TW.exit ?_
 refine TQ.thenX ?_
 refine TQ.thenX ?_
 refine TQ.blkX ?_
 refine TQ.thenN (hY2 _ _ ?_)
 refine TW.seq fun Y10 hY10 => TW.region ?_
 refine TL.p Pu.as ?_
 refine TL.nil (TQ.thenN (hY10 _ _ ?_))
 refine TW.ret ?_
 refine TQ.ret Tryz.results72 rfl ((.tmp rfl .nil)) ?_
 exact fun w hw => ⟨⟨k, by omega, hall, fun h => by omega⟩, by simp [hkn]; rfl, by simpa [aft, hkn] using hw⟩
theorem hasInt_st {g : FuncId} {fs cs : List Value} {A : Option Addr} {n cp : Nat} {v : Nat → Int} {p : Nat → Bool} {M : Nat → List Fact} {w : World} (hen : Enters Tryz.prog g) (hn : n ≤ 9223372036854775807)
  (hR : RdR w 1 A n (fun k => [.int .i64 (v k)])) (hA : 0 < n → Apart (feet (M 0)) A) (hM : Sat (feet (M 0)) w (M 0) w) (hfe : ∀ k, feet (M k) = feet (M 0))
  (hg : ∀ k, k < n → (∀ j, j < k → p j = false) → ∀ w', Sat (feet (M 0)) w (M k) w' → CallsK Tryz.prog g (fs ++ [Value.int .i64 (v k)] ++ cs).toArray (M k) w' Unit (fun _ => .bool (p k)) (fun _ => M (k + 1))) :
  CallsK Tryz.prog 43 #[.slice A n cp, .func (.func g) fs.toArray cs.toArray] (M 0) w (Fst p n) (fun x => .bool (decide (x.1 < n))) (fun x => M (aft n x.1)) := by
 refine K_enter (S := feet (M 0)) (K := M 0) Tryz.func43 rfl Tryz.ntmps43 rfl hM ?_
 refine TW.seq fun Y1 hY1 => TW.region ?_
 refine TL.p Pu.as ?_
 refine TL.nil (TQ.thenN (hY1 _ _ ?_))
 refine TW.seq fun Y2 hY2 => TW.region ?_
 refine TL.p Pu.mv ?_
 refine TL.p Pu.mv ?_
 refine TL.call rfl (enters Tryz.func72 rfl rfl) (by rw [List.append_nil]) rfl (fun w hw => by
   exact indexInt_any hen hn (hR.sat0 hw hA) hA hw.self hfe (fun k hk hp w' hw' => hg k hk hp w' (hw'.from hw.chg fun _ hb => .inl hb))) ?_
 intro x
 refine TL.p Pu.ge ?_
 refine TL.p Pu.as ?_
 refine TL.nil (TQ.thenN (hY2 _ _ ?_))
 refine TW.ret ?_
 refine TQ.ret Tryz.results43 rfl ((.tmp rfl .nil)) ?_
 exact fun w hw => ⟨x, by by_cases h : x.1 < n <;> simp [retV, h], by simpa using hw⟩
theorem hasInt_any {g : FuncId} {fs cs : List Value} {A : Option Addr} {n cp : Nat} {v : Nat → Int} {p : Nat → Bool} {w : World} (hen : Enters Tryz.prog g) (hn : n ≤ 9223372036854775807)
  (hR : RdR w 1 A n (fun k => [.int .i64 (v k)])) (hg : ∀ k, k < n → ∀ w', Below w.heap.size w w' → Calls Tryz.prog g (fs ++ [Value.int .i64 (v k)] ++ cs).toArray w' (Ret w' (.bool (p k)))) :
  Calls Tryz.prog 43 #[.slice A n cp, .func (.func g) fs.toArray cs.toArray] w (Ret w (.bool (anyB n p))) :=
 CallsK.retOf (hasInt_st (M := fun _ => []) hen hn hR (fun _ => Apart.nil) (Sat.start w) (fun _ => rfl) fun k hk _ w' hw' => CallsK.ret (hg k hk w' (Chg.ext hw'.chg))) fun x => by rw [x.any]; rfl
end Go.Proofs.YtfgnbkegdjkdmaaGreatDoor
namespace Go.Proofs
open Go.Shelf
def Tryz.laysM171_ren : Go.Shelf.Ren := ⟨fun | 171 => 27 | 243 => 42 | 246 => 71 | 283 => 106 | 284 => 107 | 285 => 108 | 286 => 109 | 129 => 174 | 317 => 173 | 318 => 175 | 319 => 176 | 320 => 177 | 337 => 241 | 338 => 242 | n => n, fun | 3 => 3 | 9 => 9 | 2 => 2 | 4 => 4 | 171 => 198 | 0 => 0 | 53 => 191 | 37 => 94 | 5 => 5 | 173 => 201 | 212 => 277 | 51 => 268 | 20 => 20 | 213 => 278 | 46 => 188 | 232 => 412 | 233 => 413 | n => n, fun | 17 => 3 | 18 => 7 | 19 => 8 | n => n⟩
theorem Tryz.laysM171 : Go.Proofs.LaysM.n171 Tryz.prog Tryz.laysM171_ren := {
 mixed := by kernel_rfl
 f129 := Tryz.func174.trans (congrArg some (by kernel_rfl))
 f171 := Tryz.func27.trans (congrArg some (by kernel_rfl))
 f243 := Tryz.func42.trans (congrArg some (by kernel_rfl))
 f246 := Tryz.func71.trans (congrArg some (by kernel_rfl))
 f283 := Tryz.func106.trans (congrArg some (by kernel_rfl))
 f284 := Tryz.func107.trans (congrArg some (by kernel_rfl))
 f285 := Tryz.func108.trans (congrArg some (by kernel_rfl))
 f286 := Tryz.func109.trans (congrArg some (by kernel_rfl))
 f317 := Tryz.func173.trans (congrArg some (by kernel_rfl))
 f318 := Tryz.func175.trans (congrArg some (by kernel_rfl))
 f319 := Tryz.func176.trans (congrArg some (by kernel_rfl))
 f320 := Tryz.func177.trans (congrArg some (by kernel_rfl))
 f337 := Tryz.func241.trans (congrArg some (by kernel_rfl))
 f338 := Tryz.func242.trans (congrArg some (by kernel_rfl))
 t0 := Tryz.underlying0
 a0 := Tryz.isAgg0
 z0 := Tryz.sizeOf0
 v0 := Tryz.zeroValue0
 t2 := Tryz.underlying2
 a2 := Tryz.isAgg2
 z2 := Tryz.sizeOf2
 v2 := Tryz.zeroValue2
 t3 := Tryz.underlying3
 a3 := Tryz.isAgg3
 z3 := Tryz.sizeOf3
 v3 := Tryz.zeroValue3
 t4 := Tryz.underlying4
 a4 := Tryz.isAgg4
 z4 := Tryz.sizeOf4
 v4 := Tryz.zeroValue4
 t5 := Tryz.underlying5
 a5 := Tryz.isAgg5
 z5 := Tryz.sizeOf5
 v5 := Tryz.zeroValue5
 t9 := Tryz.underlying9
 a9 := Tryz.isAgg9
 z9 := Tryz.sizeOf9
 v9 := Tryz.zeroValue9
 t20 := Tryz.underlying20
 a20 := Tryz.isAgg20
 z20 := Tryz.sizeOf20
 v20 := Tryz.zeroValue20
 t37 := Tryz.underlying94
 a37 := Tryz.isAgg94
 z37 := Tryz.sizeOf94
 v37 := Tryz.zeroValue94
 t46 := Tryz.underlying188
 a46 := Tryz.isAgg188
 z46 := Tryz.sizeOf188
 v46 := Tryz.zeroValue188
 t51 := Tryz.underlying268
 a51 := Tryz.isAgg268
 z51 := Tryz.sizeOf268
 v51 := Tryz.zeroValue268
 t53 := Tryz.underlying191
 a53 := Tryz.isAgg191
 z53 := Tryz.sizeOf191
 v53 := Tryz.zeroValue191
 t171 := Tryz.underlying198
 a171 := Tryz.isAgg198
 z171 := Tryz.sizeOf198
 v171 := Tryz.zeroValue198
 t173 := Tryz.underlying201
 a173 := Tryz.isAgg201
 z173 := Tryz.sizeOf201
 v173 := Tryz.zeroValue201
 t212 := Tryz.underlying277
 a212 := Tryz.isAgg277
 z212 := Tryz.sizeOf277
 v212 := Tryz.zeroValue277
 t213 := Tryz.underlying278
 a213 := Tryz.isAgg278
 z213 := Tryz.sizeOf278
 t232 := Tryz.underlying412
 a232 := Tryz.isAgg412
 z232 := Tryz.sizeOf412
 v232 := Tryz.zeroValue412
 t233 := Tryz.underlying413
 a233 := Tryz.isAgg413
 z233 := Tryz.sizeOf413
 v233 := Tryz.zeroValue413
 g17 := by kernel_rfl
 g18 := by kernel_rfl
 g19 := by kernel_rfl
 i0 := by kernel_rfl
 i2 := by kernel_rfl
 i3 := by kernel_rfl
 i4 := by kernel_rfl
 i5 := by kernel_rfl
 i9 := by kernel_rfl
 i20 := by kernel_rfl
 i37 := by kernel_rfl
 i46 := by kernel_rfl
 i51 := by kernel_rfl
 i53 := by kernel_rfl
 i171 := by kernel_rfl
 i173 := by kernel_rfl
 i212 := by kernel_rfl
 i232 := by kernel_rfl
 i233 := by kernel_rfl
 m17 := by kernel_rfl
 m18 := by kernel_rfl
 m19 := by kernel_rfl }
open Go.RowKit Go.Sort Go.Lib in
theorem Tryz.strconv_Itoa (n : Int) (h0 : -9223372036854775808 ≤ n) (h1 : n ≤ 9223372036854775807) (w : World) (htab : Lib.TabIs Tryz.prog w "internal/strconv.uint64pow10" .u64 Lib.pow10Tab) :
 Calls Tryz.prog 27 #[.int .i64 n] w fun e w' => e = .returned (.string ⟨(Lib.itoa n).toArray⟩) ∧ ∃ k os, w' = grow (w.drewN k) os := Any.strconv_Itoa Tryz.laysM171 n h0 h1 w htab
def Tryz.laysC172_ren : Go.Shelf.Ren := ⟨fun | 172 => 25 | 244 => 40 | 245 => 41 | 247 => 66 | 279 => 67 | 280 => 68 | 281 => 69 | 282 => 70 | 287 => 103 | 316 => 104 | 171 => 27 | 205 => 105 | 321 => 171 | 322 => 172 | 243 => 42 | 246 => 71 | 283 => 106 | 284 => 107 | 285 => 108 | 286 => 109 | 129 => 174 | 317 => 173 | 318 => 175 | 319 => 176 | 320 => 177 | 337 => 241 | 338 => 242 | n => n, fun | 9 => 9 | 3 => 3 | 75 => 73 | 76 => 74 | 4 => 4 | 5 => 5 | 167 => 106 | 37 => 94 | 0 => 0 | 85 => 107 | 2 => 2 | 168 => 109 | 53 => 191 | 175 => 192 | 46 => 188 | 210 => 196 | 127 => 272 | 145 => 275 | 143 => 273 | 21 => 21 | 171 => 198 | 173 => 201 | 212 => 277 | 51 => 268 | 20 => 20 | 213 => 278 | 232 => 412 | 233 => 413 | 80 => 437 | n => n, fun | 15 => 1 | 16 => 2 | 17 => 3 | 18 => 7 | 19 => 8 | n => n⟩
theorem Tryz.laysC172 : Go.Proofs.LaysC.n172 Tryz.prog Tryz.laysC172_ren := {
 mixed := by kernel_rfl
 f129 := Tryz.func174.trans (congrArg some (by kernel_rfl))
 f171 := Tryz.func27.trans (congrArg some (by kernel_rfl))
 f172 := Tryz.func25.trans (congrArg some (by kernel_rfl))
 f205 := Tryz.func105.trans (congrArg some (by kernel_rfl))
 f243 := Tryz.func42.trans (congrArg some (by kernel_rfl))
 f244 := Tryz.func40.trans (congrArg some (by kernel_rfl))
 f245 := Tryz.func41.trans (congrArg some (by kernel_rfl))
 f246 := Tryz.func71.trans (congrArg some (by kernel_rfl))
 f247 := Tryz.func66.trans (congrArg some (by kernel_rfl))
 f279 := Tryz.func67.trans (congrArg some (by kernel_rfl))
 f280 := Tryz.func68.trans (congrArg some (by kernel_rfl))
 f281 := Tryz.func69.trans (congrArg some (by kernel_rfl))
 f282 := Tryz.func70.trans (congrArg some (by kernel_rfl))
 f283 := Tryz.func106.trans (congrArg some (by kernel_rfl))
 f284 := Tryz.func107.trans (congrArg some (by kernel_rfl))
 f285 := Tryz.func108.trans (congrArg some (by kernel_rfl))
 f286 := Tryz.func109.trans (congrArg some (by kernel_rfl))
 f287 := Tryz.func103.trans (congrArg some (by kernel_rfl))
 f316 := Tryz.func104.trans (congrArg some (by kernel_rfl))
 f317 := Tryz.func173.trans (congrArg some (by kernel_rfl))
 f318 := Tryz.func175.trans (congrArg some (by kernel_rfl))
 f319 := Tryz.func176.trans (congrArg some (by kernel_rfl))
 f320 := Tryz.func177.trans (congrArg some (by kernel_rfl))
 f321 := Tryz.func171.trans (congrArg some (by kernel_rfl))
 f322 := Tryz.func172.trans (congrArg some (by kernel_rfl))
 f337 := Tryz.func241.trans (congrArg some (by kernel_rfl))
 f338 := Tryz.func242.trans (congrArg some (by kernel_rfl))
 t0 := Tryz.underlying0
 a0 := Tryz.isAgg0
 z0 := Tryz.sizeOf0
 v0 := Tryz.zeroValue0
 t2 := Tryz.underlying2
 a2 := Tryz.isAgg2
 z2 := Tryz.sizeOf2
 v2 := Tryz.zeroValue2
 t3 := Tryz.underlying3
 a3 := Tryz.isAgg3
 z3 := Tryz.sizeOf3
 v3 := Tryz.zeroValue3
 t4 := Tryz.underlying4
 a4 := Tryz.isAgg4
 z4 := Tryz.sizeOf4
 v4 := Tryz.zeroValue4
 t5 := Tryz.underlying5
 a5 := Tryz.isAgg5
 z5 := Tryz.sizeOf5
 v5 := Tryz.zeroValue5
 t9 := Tryz.underlying9
 a9 := Tryz.isAgg9
 z9 := Tryz.sizeOf9
 v9 := Tryz.zeroValue9
 t20 := Tryz.underlying20
 a20 := Tryz.isAgg20
 z20 := Tryz.sizeOf20
 v20 := Tryz.zeroValue20
 t21 := Tryz.underlying21
 a21 := Tryz.isAgg21
 z21 := Tryz.sizeOf21
 v21 := Tryz.zeroValue21
 t37 := Tryz.underlying94
 a37 := Tryz.isAgg94
 z37 := Tryz.sizeOf94
 v37 := Tryz.zeroValue94
 t46 := Tryz.underlying188
 a46 := Tryz.isAgg188
 z46 := Tryz.sizeOf188
 v46 := Tryz.zeroValue188
 t51 := Tryz.underlying268
 a51 := Tryz.isAgg268
 z51 := Tryz.sizeOf268
 v51 := Tryz.zeroValue268
 t53 := Tryz.underlying191
 a53 := Tryz.isAgg191
 z53 := Tryz.sizeOf191
 v53 := Tryz.zeroValue191
 t75 := Tryz.underlying73
 a75 := Tryz.isAgg73
 z75 := Tryz.sizeOf73
 v75 := Tryz.zeroValue73
 t76 := Tryz.underlying74
 a76 := Tryz.isAgg74
 z76 := Tryz.sizeOf74
 v76 := Tryz.zeroValue74
 t85 := Tryz.underlying107
 a85 := Tryz.isAgg107
 z85 := Tryz.sizeOf107
 v85 := Tryz.zeroValue107
 t127 := Tryz.underlying272
 a127 := Tryz.isAgg272
 z127 := Tryz.sizeOf272
 v127 := Tryz.zeroValue272
 t143 := Tryz.underlying273
 a143 := Tryz.isAgg273
 z143 := Tryz.sizeOf273
 v143 := Tryz.zeroValue273
 t145 := Tryz.underlying275
 a145 := Tryz.isAgg275
 z145 := Tryz.sizeOf275
 v145 := Tryz.zeroValue275
 t167 := Tryz.underlying106
 a167 := Tryz.isAgg106
 z167 := Tryz.sizeOf106
 v167 := Tryz.zeroValue106
 t168 := Tryz.underlying109
 a168 := Tryz.isAgg109
 z168 := Tryz.sizeOf109
 v168 := Tryz.zeroValue109
 t171 := Tryz.underlying198
 a171 := Tryz.isAgg198
 z171 := Tryz.sizeOf198
 v171 := Tryz.zeroValue198
 t173 := Tryz.underlying201
 a173 := Tryz.isAgg201
 z173 := Tryz.sizeOf201
 v173 := Tryz.zeroValue201
 t175 := Tryz.underlying192
 a175 := Tryz.isAgg192
 z175 := Tryz.sizeOf192
 v175 := Tryz.zeroValue192
 t210 := Tryz.underlying196
 a210 := Tryz.isAgg196
 z210 := Tryz.sizeOf196
 v210 := Tryz.zeroValue196
 t212 := Tryz.underlying277
 a212 := Tryz.isAgg277
 z212 := Tryz.sizeOf277
 v212 := Tryz.zeroValue277
 t213 := Tryz.underlying278
 a213 := Tryz.isAgg278
 z213 := Tryz.sizeOf278
 t232 := Tryz.underlying412
 a232 := Tryz.isAgg412
 z232 := Tryz.sizeOf412
 v232 := Tryz.zeroValue412
 t233 := Tryz.underlying413
 a233 := Tryz.isAgg413
 z233 := Tryz.sizeOf413
 v233 := Tryz.zeroValue413
 g15 := by kernel_rfl
 g16 := by kernel_rfl
 g17 := by kernel_rfl
 g18 := by kernel_rfl
 g19 := by kernel_rfl
 t80 := Tryz.underlying437
 a80 := Tryz.isAgg437
 z80 := Tryz.sizeOf437
 v80 := Tryz.zeroValue437
 i0 := by kernel_rfl
 i2 := by kernel_rfl
 i3 := by kernel_rfl
 i4 := by kernel_rfl
 i5 := by kernel_rfl
 i9 := by kernel_rfl
 i20 := by kernel_rfl
 i21 := by kernel_rfl
 i37 := by kernel_rfl
 i46 := by kernel_rfl
 i51 := by kernel_rfl
 i53 := by kernel_rfl
 i75 := by kernel_rfl
 i76 := by kernel_rfl
 i80 := by kernel_rfl
 i85 := by kernel_rfl
 i127 := by kernel_rfl
 i143 := by kernel_rfl
 i145 := by kernel_rfl
 i167 := by kernel_rfl
 i168 := by kernel_rfl
 i171 := by kernel_rfl
 i173 := by kernel_rfl
 i175 := by kernel_rfl
 i210 := by kernel_rfl
 i212 := by kernel_rfl
 i232 := by kernel_rfl
 i233 := by kernel_rfl
 m15 := by kernel_rfl
 m16 := by kernel_rfl
 m17 := by kernel_rfl
 m18 := by kernel_rfl
 m19 := by kernel_rfl
 c0 := by kernel_rfl
 c2 := by kernel_rfl
 c3 := by kernel_rfl
 c4 := by kernel_rfl
 c5 := by kernel_rfl
 c9 := by kernel_rfl
 c20 := by kernel_rfl
 c21 := by kernel_rfl
 c37 := by kernel_rfl
 c46 := by kernel_rfl
 c51 := by kernel_rfl
 c53 := by kernel_rfl
 c75 := by kernel_rfl
 c76 := by kernel_rfl
 c80 := by kernel_rfl
 c85 := by kernel_rfl
 c127 := by kernel_rfl
 c143 := by kernel_rfl
 c145 := by kernel_rfl
 c167 := by kernel_rfl
 c168 := by kernel_rfl
 c171 := by kernel_rfl
 c173 := by kernel_rfl
 c175 := by kernel_rfl
 c210 := by kernel_rfl
 c212 := by kernel_rfl
 c213 := by kernel_rfl
 c232 := by kernel_rfl
 c233 := by kernel_rfl }
open Go.RowKit in
theorem Tryz.strconv_Atoi_ok (s : ByteArray) (hmax : s.size ≤ 9223372036854775806) (v : Int) (h : Lib.atoiAll s.data.toList = .ok v) (w : World) :
 Calls Tryz.prog 25 #[.string s] w fun e w' => e = .returned (.tuple #[.int .i64 v, .nilIface]) ∧ (w' = w ∨ ∃ t, w' = Lib.bytesWorld w 5 t) := Any.strconv_Atoi_ok Tryz.laysC172 s hmax v h w
open Go.RowKit in
theorem Tryz.strconv_Atoi_syntax (s : ByteArray) (hlim : s.size ≤ 281474976710656) (h : Lib.atoiAll s.data.toList = Lib.atoiAll []) (ev : Value) (w : World) (hv : w.cell? ⟨1, 0, none⟩ = some ev) (hev : ev = .nilIface ∨ ∃ te pe, ev = .iface te pe) :
 Calls Tryz.prog 25 #[.string s] w fun e w' => ∃ N, e = .returned (.tuple #[.int .i64 (0), .iface 109 (.pointer (some ⟨N, 0, none⟩))]) ∧ w.heap.size ≤ N ∧ w'.heap[N]? = some (.cells #[.string ⟨#[65, 116, 111, 105]⟩, .string s, ev] 196 (0, 0)) ∧ Below w.heap.size w w' := Any.strconv_Atoi_syntax Tryz.laysC172 s hlim h ev w hv hev
open Go.RowKit in
theorem Tryz.strconv_Atoi_range (s : ByteArray) (hlim : s.size ≤ 281474976710656) (h : Lib.atoiAll s.data.toList = .range) (ev : Value) (w : World) (hv : w.cell? ⟨2, 0, none⟩ = some ev) (hev : ev = .nilIface ∨ ∃ te pe, ev = .iface te pe) :
 Calls Tryz.prog 25 #[.string s] w fun e w' => ∃ N, e = .returned (.tuple #[.int .i64 (Lib.atoiSat s.data.toList), .iface 109 (.pointer (some ⟨N, 0, none⟩))]) ∧ w.heap.size ≤ N ∧ w'.heap[N]? = some (.cells #[.string ⟨#[65, 116, 111, 105]⟩, .string s, ev] 196 (0, 0)) ∧ Below w.heap.size w w' := Any.strconv_Atoi_range Tryz.laysC172 s hlim h ev w hv hev
def Tryz.lays145_ren : Go.Shelf.Ren := ⟨fun | 145 => 22 | 220 => 37 | 219 => 62 | 217 => 96 | 225 => 97 | 224 => 98 | 267 => 99 | 266 => 168 | 314 => 169 | n => n, fun | 9 => 9 | 4 => 4 | 59 => 68 | 3 => 3 | 5 => 5 | 46 => 188 | 146 => 269 | 51 => 268 | n => n, fun | 1 => 0 | n => n⟩
theorem Tryz.lays145 : Go.Proofs.Lays.n145 Tryz.prog Tryz.lays145_ren := {
 mixed := by kernel_rfl
 f145 := Tryz.func22.trans (congrArg some (by kernel_rfl))
 f217 := Tryz.func96.trans (congrArg some (by kernel_rfl))
 f219 := Tryz.func62.trans (congrArg some (by kernel_rfl))
 f220 := Tryz.func37.trans (congrArg some (by kernel_rfl))
 f224 := Tryz.func98.trans (congrArg some (by kernel_rfl))
 f225 := Tryz.func97.trans (congrArg some (by kernel_rfl))
 f266 := Tryz.func168.trans (congrArg some (by kernel_rfl))
 f267 := Tryz.func99.trans (congrArg some (by kernel_rfl))
 f314 := Tryz.func169.trans (congrArg some (by kernel_rfl))
 t3 := Tryz.underlying3
 a3 := Tryz.isAgg3
 z3 := Tryz.sizeOf3
 v3 := Tryz.zeroValue3
 t4 := Tryz.underlying4
 a4 := Tryz.isAgg4
 z4 := Tryz.sizeOf4
 v4 := Tryz.zeroValue4
 t5 := Tryz.underlying5
 a5 := Tryz.isAgg5
 z5 := Tryz.sizeOf5
 v5 := Tryz.zeroValue5
 t9 := Tryz.underlying9
 a9 := Tryz.isAgg9
 z9 := Tryz.sizeOf9
 v9 := Tryz.zeroValue9
 t46 := Tryz.underlying188
 a46 := Tryz.isAgg188
 z46 := Tryz.sizeOf188
 v46 := Tryz.zeroValue188
 t51 := Tryz.underlying268
 a51 := Tryz.isAgg268
 z51 := Tryz.sizeOf268
 v51 := Tryz.zeroValue268
 t59 := Tryz.underlying68
 a59 := Tryz.isAgg68
 z59 := Tryz.sizeOf68
 v59 := Tryz.zeroValue68
 t146 := Tryz.underlying269
 a146 := Tryz.isAgg269
 z146 := Tryz.sizeOf269
 v146 := Tryz.zeroValue269
 g1 := by kernel_rfl }
open Go.RowKit Go.Lib in
theorem Tryz.strings_Cut (s sep : ByteArray) (m : Int) (w : World) (hs : s.size < 4294967281) (hm : w.cell? ⟨0, 0, none⟩ = some (.int .i64 m)) :
 Calls Tryz.prog 22 #[.string s, .string sep] w fun e w' => e = .returned (.tuple #[.string ⟨(Lib.cut s.data.toList sep.data.toList).1.toArray⟩, .string ⟨(Lib.cut s.data.toList sep.data.toList).2.1.toArray⟩, .bool (Lib.cut s.data.toList sep.data.toList).2.2]) ∧ ∃ n, w' = w.drewN n := Any.strings_Cut Tryz.lays145 s sep m w hs hm
def Tryz.lays149_ren : Go.Shelf.Ren := ⟨fun | 149 => 23 | 222 => 38 | n => n, fun | 9 => 9 | 5 => 5 | 3 => 3 | 4 => 4 | n => n, fun | n => n⟩
theorem Tryz.lays149 : Go.Proofs.Lays.n149 Tryz.prog Tryz.lays149_ren := {
 mixed := by kernel_rfl
 f149 := Tryz.func23.trans (congrArg some (by kernel_rfl))
 f222 := Tryz.func38.trans (congrArg some (by kernel_rfl))
 t3 := Tryz.underlying3
 a3 := Tryz.isAgg3
 z3 := Tryz.sizeOf3
 v3 := Tryz.zeroValue3
 t4 := Tryz.underlying4
 a4 := Tryz.isAgg4
 z4 := Tryz.sizeOf4
 v4 := Tryz.zeroValue4
 t5 := Tryz.underlying5
 a5 := Tryz.isAgg5
 z5 := Tryz.sizeOf5
 v5 := Tryz.zeroValue5
 t9 := Tryz.underlying9
 a9 := Tryz.isAgg9
 z9 := Tryz.sizeOf9
 v9 := Tryz.zeroValue9 }
open Go.RowKit Go.Lib in
theorem Tryz.strings_LastIndexByte (s : ByteArray) (c : Int) (hs : s.size < 4611686018427387904) (w : World) :
 Calls Tryz.prog 23 #[.string s, .int .u8 c] w fun e w' => e = .returned (.int .i64 (Lib.lastIndexByte s c)) ∧ w' = w := Any.strings_LastIndexByte Tryz.lays149 s c hs w
def Tryz.lays146_ren : Go.Shelf.Ren := ⟨fun | 146 => 24 | 221 => 39 | 268 => 63 | 138 => 64 | 143 => 65 | 195 => 100 | 197 => 101 | 218 => 102 | 219 => 62 | 260 => 170 | 217 => 96 | 225 => 97 | 224 => 98 | 267 => 99 | 266 => 168 | 314 => 169 | n => n, fun | 9 => 9 | 31 => 41 | 3 => 3 | 4 => 4 | 0 => 0 | 105 => 189 | 21 => 21 | 5 => 5 | 46 => 188 | 119 => 359 | 139 => 362 | 138 => 361 | 146 => 269 | 51 => 268 | n => n, fun | 1 => 0 | 3 => 4 | 4 => 5 | n => n⟩
theorem Tryz.lays146 : Go.Proofs.Lays.n146 Tryz.prog Tryz.lays146_ren := {
 mixed := by kernel_rfl
 f138 := Tryz.func64.trans (congrArg some (by kernel_rfl))
 f143 := Tryz.func65.trans (congrArg some (by kernel_rfl))
 f146 := Tryz.func24.trans (congrArg some (by kernel_rfl))
 f195 := Tryz.func100.trans (congrArg some (by kernel_rfl))
 f197 := Tryz.func101.trans (congrArg some (by kernel_rfl))
 f217 := Tryz.func96.trans (congrArg some (by kernel_rfl))
 f218 := Tryz.func102.trans (congrArg some (by kernel_rfl))
 f219 := Tryz.func62.trans (congrArg some (by kernel_rfl))
 f221 := Tryz.func39.trans (congrArg some (by kernel_rfl))
 f224 := Tryz.func98.trans (congrArg some (by kernel_rfl))
 f225 := Tryz.func97.trans (congrArg some (by kernel_rfl))
 f260 := Tryz.func170.trans (congrArg some (by kernel_rfl))
 f266 := Tryz.func168.trans (congrArg some (by kernel_rfl))
 f267 := Tryz.func99.trans (congrArg some (by kernel_rfl))
 f268 := Tryz.func63.trans (congrArg some (by kernel_rfl))
 f314 := Tryz.func169.trans (congrArg some (by kernel_rfl))
 t0 := Tryz.underlying0
 a0 := Tryz.isAgg0
 z0 := Tryz.sizeOf0
 v0 := Tryz.zeroValue0
 t3 := Tryz.underlying3
 a3 := Tryz.isAgg3
 z3 := Tryz.sizeOf3
 v3 := Tryz.zeroValue3
 t4 := Tryz.underlying4
 a4 := Tryz.isAgg4
 z4 := Tryz.sizeOf4
 v4 := Tryz.zeroValue4
 t5 := Tryz.underlying5
 a5 := Tryz.isAgg5
 z5 := Tryz.sizeOf5
 v5 := Tryz.zeroValue5
 t9 := Tryz.underlying9
 a9 := Tryz.isAgg9
 z9 := Tryz.sizeOf9
 v9 := Tryz.zeroValue9
 t21 := Tryz.underlying21
 a21 := Tryz.isAgg21
 z21 := Tryz.sizeOf21
 v21 := Tryz.zeroValue21
 t31 := Tryz.underlying41
 a31 := Tryz.isAgg41
 z31 := Tryz.sizeOf41
 v31 := Tryz.zeroValue41
 t46 := Tryz.underlying188
 a46 := Tryz.isAgg188
 z46 := Tryz.sizeOf188
 v46 := Tryz.zeroValue188
 t51 := Tryz.underlying268
 a51 := Tryz.isAgg268
 z51 := Tryz.sizeOf268
 v51 := Tryz.zeroValue268
 t105 := Tryz.underlying189
 a105 := Tryz.isAgg189
 z105 := Tryz.sizeOf189
 v105 := Tryz.zeroValue189
 t119 := Tryz.underlying359
 a119 := Tryz.isAgg359
 z119 := Tryz.sizeOf359
 t138 := Tryz.underlying361
 a138 := Tryz.isAgg361
 z138 := Tryz.sizeOf361
 v138 := Tryz.zeroValue361
 t139 := Tryz.underlying362
 a139 := Tryz.isAgg362
 z139 := Tryz.sizeOf362
 v139 := Tryz.zeroValue362
 t146 := Tryz.underlying269
 a146 := Tryz.isAgg269
 z146 := Tryz.sizeOf269
 v146 := Tryz.zeroValue269
 g1 := by kernel_rfl
 g3 := by kernel_rfl
 g4 := by kernel_rfl }
open Go.RowKit Go.Lib in
theorem Tryz.strings_Split (s sep : ByteArray) (m : Int) (w : World) (hs : s.size < 4294967281) (hm : w.cell? ⟨0, 0, none⟩ = some (.int .i64 m)) (h1 : 1 ≤ sep.size) :
 Calls Tryz.prog 24 #[.string s, .string sep] w fun e w' =>
  e = .returned (.slice (some ⟨w.heap.size, 0, none⟩) (Lib.countB s sep + 1) (Lib.countB s sep + 1)) ∧ w' = w.alloc (.cells ((Lib.splitB sep 0 (Lib.countB s sep) s).map Value.string).toArray 9) := Any.strings_Split Tryz.lays146 (by kernel_rfl) s sep m w hs hm h1
end Go.Proofs
namespace Go.Proofs.YtfgnbkegdjkdmaaGreatDoor
set_option linter.all false
set_option linter.unusedVariables false
set_option linter.unusedSimpArgs false
open Go.RowKit Go.Lib
def Pow (w : World) : Prop := TabIs Tryz.prog w "internal/strconv.uint64pow10" .u64 pow10Tab
theorem Pow.chg {S : List Nat} {w0 w : World} (h : Pow w0) (hc : Chg S w0 w) (hS : ∀ g, Tryz.prog.globalNamed "internal/strconv.uint64pow10" = some g → g ∉ S) : Pow w := by
 unfold Pow TabIs World.var? at h ⊢
 cases hg : Tryz.prog.globalNamed "internal/strconv.uint64pow10" with
 | none => rw [hg] at h; exact h
 | some g =>
  rw [hg] at h
  simp only [Option.bind_some] at h ⊢
  have hlt : g < w0.heap.size := by
   rcases Nat.lt_or_ge g w0.heap.size with h' | h'
   · exact h'
   · simp [Array.getElem?_eq_none h'] at h
  rw [hc.block g hlt (hS g hg)]
  exact h
theorem itoa_any {n : Int} (h : -9223372036854775808 ≤ n ∧ n ≤ 9223372036854775807) {w : World} (hP : Pow w) : Calls Tryz.prog 27 #[.int .i64 n] w (Ret w (sv (itoa n))) := by
 refine Calls.mono (Tryz.strconv_Itoa n h.1 h.2 w hP) ?_
 rintro e w' ⟨rfl, k, os, rfl⟩
 refine ⟨rfl, ?_⟩
 exact ⟨rfl, rfl, rfl, by simp [Sort.grow, World.drewN], fun q hq => by simp [Sort.grow, World.drewN, Array.getElem?_append_left hq]⟩
theorem knots_any (w : World) : CallsK Tryz.prog 21 #[] [] w Nat (fun b => .func (.func 36) #[] #[.pointer (some ⟨b, 0, none⟩)]) (fun b => [.blk b 3 [.int .i64 23]]) := by
 refine K_enter (S := []) (K := []) Tryz.func21 rfl Tryz.ntmps21 rfl (Sat.start _) ?_
 refine TW.seq fun Y1 hY1 => TW.region ?_
 refine TL.p Pu.as ?_
 refine TL.nil (TQ.thenN (hY1 _ _ ?_))
 refine TW.seq fun Y2 hY2 => TW.region ?_
 refine TL.m (Mk.al ty_zr3) ?_
 intro b1
 first | refine TL.st ty_sz3 ?_ | refine TL.se ty_sz3 ?_
 refine TL.nil (TQ.thenN (hY2 _ _ ?_))
 refine TW.seq fun Y3 hY3 => TW.region ?_
 refine TL.p Pu.fn ?_
 refine TL.p Pu.as ?_
 refine TL.nil (TQ.thenN (hY3 _ _ ?_))
 refine TW.ret ?_
 refine TQ.ret Tryz.results21 rfl ((.tmp rfl .nil)) ?_
 exact fun w hw => ⟨b1, rfl, hw⟩
set_option maxRecDepth 100000 in
theorem knot1_any {b s : Nat} {t : List UInt8} {w : World} (hs : s < 8191) (ht : t.length ≤ 1000000000) (hb : Sat (feet [.blk b 3 [.int .i64 (s : Int)]]) w [.blk b 3 [.int .i64 (s : Int)]] w) :
  CallsK Tryz.prog 36 #[sv t, .pointer (some ⟨b, 0, none⟩)] [.blk b 3 [.int .i64 (s : Int)]] w Unit (fun _ => .int .i64 (ckL s t : Int)) (fun _ => [.blk b 3 [.int .i64 (ckL s t : Int)]]) := by
 refine K_enter (S := feet [.blk b 3 [.int .i64 (s : Int)]]) (K := [.blk b 3 [.int .i64 (s : Int)]]) Tryz.func36 rfl Tryz.ntmps36 rfl hb ?_
 refine TW.seq fun Y1 hY1 => TW.region ?_
 refine TL.p Pu.as ?_
 refine TL.nil (TQ.thenN (hY1 _ _ ?_))
 refine TW.seq fun Y2 hY2 => ?_
 refine TW.seq fun Y3 hY3 => TW.region ?_
 refine TL.p Pu.mv ?_
 refine TL.cvb Tryz.underlying9 Tryz.underlying94 Tryz.underlying5 ?_
 intro b1 c1
 refine TL.p (Pu.ln Tryz.underlying94) ?_
 refine TL.p Pu.mv ?_
 refine TL.nil (TQ.thenN (hY3 _ _ ?_))
 refine TW.block ?_
 refine TW.loop1 (fun (k : Nat) => [(9, .int .i64 (k : Int)), (8, .int .i64 (t.length : Int)), (7, .slice (some ⟨b1, 0, none⟩) t.length c1), (1, .pointer (some ⟨b, 0, none⟩))]) (fun k => [.pr [b1] (fun w => RdR w 1 (some ⟨b1, 0, none⟩) t.length (bR t)), .blk b 3 [.int .i64 (ckL s (t.take k) : Int)]]) (fun k => k ≤ t.length) (fun k => t.length - k) 0 fs9 ?_ ?_ ?_
 exact ks9
 exact Nat.zero_le _
 rintro k hk Z0 hZ0
 have hck : ckL s (t.take k) < 8191 := ckL_lt hs
 refine TW.seq fun Y4 hY4 => TW.region ?_
 refine TL.p Pu.lt ?_
 refine TL.nil (TQ.thenN (hY4 _ _ ?_))
 refine TW.seq fun Y5 hY5 => ?_
 refine TW.cond rfl (fun hc0 => ?_) (fun hc0 => ?_)
 try simp only [zcb9] at hc0
 have hkl : k < t.length := by omega
 have hbd := u8_bd (t.getD k 0)
 have hst : (37 * (ckL s (t.take k) : Int) + ((t.getD k 0).toNat : Int)) % 8191 = (ckL s (t.take (k + 1)) : Int) := by
  have hg : t[k]? = some (t.getD k 0) := by rw [List.getD_eq_getElem?_getD, List.getElem?_eq_getElem hkl]; rfl
  rw [List.take_succ, hg]
  show _ = (ckL s (t.take k ++ [t.getD k 0]) : Int)
  rw [ckL_snoc]
  unfold ckB
  omega
 refine TW.skip ?_
 refine TQ.thenN (hY5 _ _ ?_)
 refine TW.seq fun Y6 hY6 => ?_
 refine TW.block ?_
 refine TW.seq fun Y7 hY7 => TW.region ?_
 refine TL.p (Pu.el ty_et94 (q := k) (hk := by omega) (hA := CellsN.prr pk9 hkl SubL.nil)) ?_
 refine TL.p (Pu.ld ty_sc5 rfl (CellsN.prr pk9 hkl (SubL.take SubL.nil)).1) ?_
 refine TL.p Pu.as ?_
 refine TL.nil (TQ.thenN (hY7 _ _ ?_))
 refine TW.region ?_
 refine TL.p (by first | exact (Pu.ld ty_sc3) | exact (Pu.ldo ty_sc3)) ?_
 refine TL.p Pu.ml ?_
 refine TL.p Pu.mv ?_
 refine TL.p (Pu.cv (v := .int .i64 ((t.getD k 0).toNat : Int)) rfl (fun w => by go_simp; exact IntWalk.i64_in _ (by have h := u8_bd (t[k]'hkl); omega))) ?_
 refine TL.p Pu.ad ?_
 refine TL.p (Pu.iv Pu.rm hst) ?_
 first | refine TL.st ty_sz3 ?_ | refine TL.se ty_sz3 ?_
 refine TL.nil ?_
 refine TQ.blkN ?_
 refine TQ.thenN (hY6 _ _ ?_)
 refine TW.region ?_
 refine TL.p Pu.ad ?_
 refine TL.p Pu.mv ?_
 refine TL.nil ?_
 refine TQ.thenN (hZ0 (k + 1) _ _ ?_ ?_ fs9 ?_)
 exact (by omega)
 exact zom9
 exact ks9
 try simp only [zcb9] at hc0
 obtain rfl : k = t.length := by omega
 refine TW.exit ?_
 refine TQ.thenX ?_
 refine TQ.thenX ?_
 refine TQ.blkX ?_
 refine TQ.thenN (hY2 _ _ ?_)
 refine TW.seq fun Y8 hY8 => TW.region ?_
 refine TL.p (by first | exact (Pu.ld ty_sc3) | exact (Pu.ldo ty_sc3)) ?_
 refine TL.p Pu.as ?_
 refine TL.nil (TQ.thenN (hY8 _ _ ?_))
 refine TW.ret ?_
 refine TQ.ret Tryz.results36 rfl ((.tmp rfl .nil)) ?_
 exact fun w hw => ⟨(), by rw [List.take_length]; rfl, by rw [List.take_length] at hw; exact hw.sub ks9⟩
theorem lFrom1_any (x lo hi : Int) (b1 b2 : Nat) (w : World) (h1 : OldB w b1 [.int .i64 lo]) (h2 : OldB w b2 [.int .i64 hi]) :
  Calls Tryz.prog 44 #[.int .i64 x, .pointer (some ⟨b1, 0, none⟩), .pointer (some ⟨b2, 0, none⟩)] w (Ret w (.bool (!inB5 lo hi x))) := by
 refine K_enter (S := []) (K := []) Tryz.func44 rfl Tryz.ntmps44 rfl (Sat.start _) ?_
 refine TW.seq fun Y1 hY1 => TW.region ?_
 refine TL.p Pu.as ?_
 refine TL.nil (TQ.thenN (hY1 _ _ ?_))
 refine TW.seq fun Y2 hY2 => ?_
 refine TW.join [(4, .bool (decide (x < lo) || decide (hi < x)))] ?_ (fun hJ1 => ?_)
 refine TQ.thenN (hY2 _ _ ?_)
 refine TW.ret ?_
 refine TQ.ret Tryz.results44 rfl ((.tmp rfl .nil)) ?_
 exact fun w hw => ⟨ret_bool (by unfold inB5; rw [Bool.eq_iff_iff]; simp only [Bool.not_eq_true', Bool.and_eq_false_iff, Bool.or_eq_true, decide_eq_true_eq, decide_eq_false_iff_not]; omega), Chg.ext hw.chg⟩
 refine TW.region ?_
 refine TL.p Pu.mv ?_
 refine TL.p (by first | exact (Pu.ld ty_sc3) | exact (Pu.ldo ty_sc3)) ?_
 refine TL.p Pu.lt ?_
 refine TL.p Pu.mv ?_
 refine TL.guard (t := 8) rfl (fun hg1 => ?_) (fun hg1 => ?_)
 refine TL.gs ?_
 refine TL.gs ?_
 refine TL.gs ?_
 refine TL.p Pu.kt ?_
 refine TL.p Pu.as ?_
 refine TL.nil ?_
 exact TQ.sub (by repeat (first | exact trivial | refine ⟨rfl, ?_⟩ | refine ⟨trivial, ?_⟩ | refine ⟨(by show some (Value.bool _) = some (Value.bool _); first | (simp [hg1]; done) | (refine congrArg (fun z => some (Value.bool z)) (Bool.eq_iff_iff.2 ?_); simp [hg1]; omega)), ?_⟩)) ks9 hJ1
 refine TL.gd Pu.mv ?_
 refine TL.gd (by first | exact (Pu.ld ty_sc3) | exact (Pu.ldo ty_sc3)) ?_
 refine TL.gd Pu.gt ?_
 refine TL.p Pu.kf ?_
 refine TL.p Pu.as ?_
 refine TL.nil ?_
 exact TQ.sub (by repeat (first | exact trivial | refine ⟨rfl, ?_⟩ | refine ⟨trivial, ?_⟩ | refine ⟨(by show some (Value.bool _) = some (Value.bool _); first | (simp [hg1]; done) | (refine congrArg (fun z => some (Value.bool z)) (Bool.eq_iff_iff.2 ?_); simp [hg1]; omega)), ?_⟩)) ks9 hJ1
theorem lFrom_any (lo hi : Int) {A : Option Addr} {n cp : Nat} {v : Nat → Int} {w : World} (hn : n ≤ 9223372036854775807) (hR : RdR w 1 A n (fun k => [.int .i64 (v k)])) :
  Calls Tryz.prog 29 #[.int .i64 lo, .int .i64 hi, .slice A n cp] w (Ret w (.bool (allB n fun k => inB5 lo hi (v k)))) := by
 refine K_enter (S := []) (K := []) Tryz.func29 rfl Tryz.ntmps29 rfl (Sat.start _) ?_
 refine TW.seq fun Y1 hY1 => TW.region ?_
 refine TL.m Mk.bx ?_
 intro b1
 refine TL.m Mk.bx ?_
 intro b2
 refine TL.p Pu.as ?_
 refine TL.nil (TQ.thenN (hY1 _ _ ?_))
 refine TW.seq fun Y2 hY2 => TW.region ?_
 refine TL.p Pu.mv ?_
 refine TL.p Pu.fn ?_
 refine TL.cr rfl (enters Tryz.func43 rfl rfl) (fun w hw => by
   have h1 := OldB.of_blk (hw.holds (.blk b1 3 [.int .i64 lo]) (by simp))
   have h2 := OldB.of_blk (hw.holds (.blk b2 3 [.int .i64 hi]) (by simp))
   exact hasInt_any (fs := []) (p := fun k => !inB5 lo hi (v k)) (enters Tryz.func44 rfl rfl) hn (hR.sat hw Apart.nil) fun k hk w' hb => lFrom1_any _ _ _ b1 b2 w' (h1.ext hb) (h2.ext hb)) ?_
 refine TL.p Pu.no ?_
 refine TL.p Pu.as ?_
 refine TL.nil (TQ.thenN (hY2 _ _ ?_))
 refine TW.ret ?_
 refine TQ.ret Tryz.results29 rfl ((.tmp rfl .nil)) ?_
 exact fun w hw => ⟨ret_bool (by rw [not_anyB]; simp), Chg.ext hw.chg⟩
theorem allB_list {l : List Int} {p : Int → Bool} : allB l.length (fun k => p (l.getD k 0)) = l.all p := by
 rw [Bool.eq_iff_iff, allB_iff, List.all_eq_true]
 constructor
 · intro h x hx
   obtain ⟨i, hi, rfl⟩ := List.getElem_of_mem hx
   have := h i hi
   rwa [List.getD_eq_getElem?_getD, List.getElem?_eq_getElem hi] at this
 · exact fun h k hk => h _ (mem_getD hk)
theorem written_any {l : List Int} {A : Option Addr} {cp : Nat} {w : World} (hl : l.length ≤ 1000000000) (hR : RdR w 1 A l.length (iL l)) : Calls Tryz.prog 26 #[.slice A l.length cp] w (Ret w (.bool (l.all wrB))) := by
 refine K_enter (S := []) (K := []) Tryz.func26 rfl Tryz.ntmps26 rfl (Sat.start _) ?_
 refine TW.seq fun Y1 hY1 => TW.region ?_
 refine TL.p Pu.as ?_
 refine TL.nil (TQ.thenN (hY1 _ _ ?_))
 refine TW.seq fun Y2 hY2 => TW.region ?_
 refine TL.p Pu.mv ?_
 refine TL.cr rfl (enters Tryz.func29 rfl rfl) (fun w hw => by
  exact lFrom_any (-1000000000000) 1000000000000 (v := fun k => l.getD k 0) (by omega) (hR.sat hw Apart.nil)) ?_
 refine TL.p Pu.as ?_
 refine TL.nil (TQ.thenN (hY2 _ _ ?_))
 refine TW.ret ?_
 refine TQ.ret Tryz.results26 rfl ((.tmp rfl .nil)) ?_
 exact fun w hw => ⟨ret_bool (by rw [← allB_list]; rfl), Chg.ext hw.chg⟩
def ordV (n : Int) (f : FuncId) : Value := .agg #[.int .i64 n, .func (.func f) #[] #[]]
def ordL : List (List UInt8 × Value) := [([77, 65, 82, 67, 72], ordV 9 52), ([82, 69, 83, 84], ordV 4 53), ([77, 65, 82, 75], ordV 6 54), ([83, 84, 65, 82], ordV 2 55), ([78, 69, 65, 82], ordV 3 56), ([68, 82, 73, 78, 75], ordV 1 57), ([74, 79, 76, 84], ordV 2 58), ([83, 69, 84, 84, 76, 69], ordV 1 59), ([82, 79, 87], ordV 14 60), ([76, 69, 84, 84, 69, 82], ordV 8 61)]
set_option maxRecDepth 100000 in
theorem orders_any (w : World) : CallsK Tryz.prog 35 #[] [] w Nat (fun b => .map (some b)) (fun b => [.obj b (mapS ordL)]) := by
 refine K_enter (S := []) (K := []) Tryz.func35 rfl Tryz.ntmps35 rfl (Sat.start _) ?_
 refine TW.seq fun Y1 hY1 => TW.region ?_
 refine TL.p Pu.as ?_
 refine TL.nil (TQ.thenN (hY1 _ _ ?_))
 refine TW.seq fun Y2 hY2 => TW.region ?_
 refine TL.mms ?_
 intro b1
 refine TL.p Pu.bd ?_
 refine TL.mis Tryz.underlying92 Tryz.underlying9 ?_
 refine TL.p Pu.bd ?_
 refine TL.mis Tryz.underlying92 Tryz.underlying9 ?_
 refine TL.p Pu.bd ?_
 refine TL.mis Tryz.underlying92 Tryz.underlying9 ?_
 refine TL.p Pu.bd ?_
 refine TL.mis Tryz.underlying92 Tryz.underlying9 ?_
 refine TL.p Pu.bd ?_
 refine TL.mis Tryz.underlying92 Tryz.underlying9 ?_
 refine TL.p Pu.bd ?_
 refine TL.mis Tryz.underlying92 Tryz.underlying9 ?_
 refine TL.p Pu.bd ?_
 refine TL.mis Tryz.underlying92 Tryz.underlying9 ?_
 refine TL.p Pu.bd ?_
 refine TL.mis Tryz.underlying92 Tryz.underlying9 ?_
 refine TL.p Pu.bd ?_
 refine TL.mis Tryz.underlying92 Tryz.underlying9 ?_
 refine TL.p Pu.bd ?_
 refine TL.mis Tryz.underlying92 Tryz.underlying9 ?_
 refine TL.p Pu.mv ?_
 refine TL.p Pu.as ?_
 refine TL.nil (TQ.thenN (hY2 _ _ ?_))
 refine TW.ret ?_
 refine TQ.ret Tryz.results35 rfl ((.tmp rfl .nil)) ?_
 exact fun w hw => ⟨b1, rfl, hw⟩
theorem ord_look {wd : List UInt8} {n : Nat} : (slook wd ordL = none ∧ cmB wd n = false) ∨ ∃ m f, slook wd ordL = some (ordV (m : Nat) f) ∧ cmB wd n = decide (n = m) := by
 by_cases h : ∃ p, p ∈ cmT ∧ p.1 = wd
 · obtain ⟨⟨p, m⟩, hp, rfl⟩ := h
   refine .inr ⟨m, ?_⟩
   rw [cm_one hp]
   have h9 : ∀ q, q ∈ cmT → ∃ f, slook q.1 ordL = some (ordV (q.2 : Nat) f) := by
    intro q hq
    simp only [cmT, List.mem_cons, List.not_mem_nil, or_false] at hq
    rcases hq with rfl | rfl | rfl | rfl | rfl | rfl | rfl | rfl | rfl | rfl <;> exact ⟨_, rfl⟩
   obtain ⟨f, hf⟩ := h9 _ hp
   exact ⟨f, hf, rfl⟩
 · refine .inl ⟨?_, cm_none fun p hp e => h ⟨p, hp, e⟩⟩
   have h1 : ∀ p, p ∈ cmT → wd ≠ p.1 := fun p hp e => h ⟨p, hp, e.symm⟩
   simp only [cmT, List.mem_cons, List.not_mem_nil, or_false, forall_eq_or_imp, forall_eq] at h1
   obtain ⟨k1, k2, k3, k4, k5, k6, k7, k8, k9, k10⟩ := h1
   simp only [ordL, slook, k1, k2, k3, k4, k5, k6, k7, k8, k9, k10, if_false]
set_option maxRecDepth 100000 in
theorem known_any {wd : List UInt8} {A : Option Addr} {n cp : Nat} {w : World} (hn : n ≤ 1000000000) : Calls Tryz.prog 17 #[sv wd, .slice A n cp] w (Ret w (.bool (cmB wd n))) := by
 rcases ord_look (wd := wd) (n := n) with ⟨h1, h2⟩ | ⟨m, f, h1, h2⟩
 rw [h2]
 refine K_enter (S := []) (K := []) Tryz.func17 rfl Tryz.ntmps17 rfl (Sat.start _) ?_
 refine TW.seq fun Y1 hY1 => TW.region ?_
 refine TL.p Pu.as ?_
 refine TL.nil (TQ.thenN (hY1 _ _ ?_))
 refine TW.seq fun Y2 hY2 => TW.region ?_
 refine TL.call (M := []) rfl (enters Tryz.func35 rfl rfl) (List.Perm.refl _) rfl (fun w hw => by
  exact orders_any _) ?_
 rintro bm
 refine TL.p Pu.mv ?_
 refine TL.p (Pu.lksN Tryz.underlying92 Tryz.underlying9 ty_zv90 h1) ?_
 refine TL.p Pu.mv ?_
 refine TL.p Pu.ex ?_
 refine TL.p Pu.ex ?_
 refine TL.lit (t := 12) (b' := false) rfl (rfl) ?_
 refine TL.m (Mk.al ty_zr90) ?_
 intro b1
 first | refine TL.st ty_sz90 ?_ | refine TL.se ty_sz90 ?_
 refine TL.p Pu.as ?_
 refine TL.nil (TQ.thenN (hY2 _ _ ?_))
 refine TW.seq fun Y3 hY3 => TW.region ?_
 refine TL.p Pu.mv ?_
 refine TL.p Pu.mv ?_
 refine TL.gs ?_
 refine TL.gs ?_
 refine TL.gs ?_
 refine TL.gs ?_
 refine TL.gs ?_
 refine TL.p Pu.kf ?_
 refine TL.p Pu.as ?_
 refine TL.nil (TQ.thenN (hY3 _ _ ?_))
 refine TW.ret ?_
 refine TQ.ret Tryz.results17 rfl ((.tmp rfl .nil)) ?_
 exact fun w hw => Ret.of hw
 rw [h2]
 refine K_enter (S := []) (K := []) Tryz.func17 rfl Tryz.ntmps17 rfl (Sat.start _) ?_
 refine TW.seq fun Y1 hY1 => TW.region ?_
 refine TL.p Pu.as ?_
 refine TL.nil (TQ.thenN (hY1 _ _ ?_))
 refine TW.seq fun Y2 hY2 => TW.region ?_
 refine TL.call (M := []) rfl (enters Tryz.func35 rfl rfl) (List.Perm.refl _) rfl (fun w hw => by
  exact orders_any _) ?_
 rintro bm
 refine TL.p Pu.mv ?_
 refine TL.p (Pu.lksS Tryz.underlying92 Tryz.underlying9 ty_zv90 h1) ?_
 refine TL.p Pu.mv ?_
 refine TL.p Pu.ex ?_
 refine TL.p Pu.ex ?_
 refine TL.lit (t := 12) (b' := true) rfl (rfl) ?_
 refine TL.m (Mk.al ty_zr90) ?_
 intro b1
 first | refine TL.st ty_sz90 ?_ | refine TL.se ty_sz90 ?_
 refine TL.p Pu.as ?_
 refine TL.nil (TQ.thenN (hY2 _ _ ?_))
 refine TW.seq fun Y3 hY3 => TW.region ?_
 refine TL.p Pu.mv ?_
 refine TL.p Pu.mv ?_
 refine TL.gd Pu.mv ?_
 refine TL.gd (Pu.ln Tryz.underlying42) ?_
 refine TL.gd (by first | exact Pu.fb ty_fa90_0 | exact Pu.fe ty_fa90_0) ?_
 refine TL.gd (Pu.ld ty_sc3) ?_
 refine TL.gd Pu.eq ?_
 refine TL.p Pu.kt ?_
 refine TL.p Pu.as ?_
 refine TL.nil (TQ.thenN (hY3 _ _ ?_))
 refine TW.ret ?_
 refine TQ.ret Tryz.results17 rfl ((.tmp rfl .nil)) ?_
 exact fun w hw => ⟨ret_bool (by rw [Bool.eq_iff_iff, decide_eq_true_eq, decide_eq_true_eq]; omega), Chg.ext hw.chg⟩
end Go.Proofs.YtfgnbkegdjkdmaaGreatDoor
namespace Go.Proofs.YtfgnbkegdjkdmaaGreatDoor
set_option linter.all false
set_option linter.unusedVariables false
set_option linter.unusedSimpArgs false
open Go.RowKit Go.Lib
def strL (ls : List (List UInt8)) : Nat → List Value := fun i => [sv (ls.getD i [])]
theorem takeS {ls : List (List UInt8)} {k : Nat} (h : k < ls.length) : ls.take (k + 1) = ls.take k ++ [ls.getD k []] := by
 rw [List.take_succ, List.getD_eq_getElem?_getD, List.getElem?_eq_getElem h]
 rfl
theorem memS {ls : List (List UInt8)} {k : Nat} (h : k < ls.length) : ls.getD k [] ∈ ls := by
 rw [List.getD_eq_getElem?_getD, List.getElem?_eq_getElem h]
 exact List.getElem_mem h
section
variable {R L : Option Addr} {nr cr nl cl : Nat} {f : Nat → Nat → Int} {g : Nat → Ltr}
end
end Go.Proofs.YtfgnbkegdjkdmaaGreatDoor
namespace Go.Proofs.YtfgnbkegdjkdmaaGreatDoor
set_option linter.all false
set_option linter.unusedVariables false
set_option linter.unusedSimpArgs false
open Go.RowKit Go.Lib
structure LogIn (w : World) (A : Option Addr) (n : Nat) (e : Nat → Ent) (EA : Nat → Option Addr) (EC : Nat → Nat) : Prop where
 rd : RdR w 3 A n (fun i => enL (e i) (EA i) (EC i))
 args : ∀ i, i < n → RdR w 1 (EA i) (e i).args.length (iL (e i).args)
section
variable {A : Option Addr} {n cp : Nat} {e : Nat → Ent} {EA : Nat → Option Addr} {EC : Nat → Nat} {w : World}
theorem writtenOne_any {m : Int} {b E : Nat} {w : World} (h : Blk w b E #[.int .i64 m]) : Calls Tryz.prog 26 #[.slice (some ⟨b, 0, none⟩) 1 1] w (Ret w (.bool (wrB m))) := by
 have h9 := written_any (l := [m]) (cp := 1) (by simp) (RdR.blk (cs := [.int .i64 m]) h rfl (fun i hi => rfl))
 rw [show [m].all wrB = wrB m by simp] at h9
 exact h9
end
end Go.Proofs.YtfgnbkegdjkdmaaGreatDoor
namespace Go.Proofs.YtfgnbkegdjkdmaaGreatDoor
set_option linter.all false
set_option linter.unusedVariables false
set_option linter.unusedSimpArgs false
open Go.RowKit Go.Lib
def Far (S : List Nat) : Prop := ∀ g, g ∈ S → 4 ≤ g
theorem Far.nil : Far [] := fun _ h => by cases h
structure RdW (w : World) : Prop where
 pow : Pow w
 len : ∃ m : Int, w.cell? ⟨0, 0, none⟩ = some (.int .i64 m)
 syn : ∃ v, w.cell? ⟨1, 0, none⟩ = some v ∧ (v = .nilIface ∨ ∃ te pe, v = .iface te pe)
 ran : ∃ v, w.cell? ⟨2, 0, none⟩ = some v ∧ (v = .nilIface ∨ ∃ te pe, v = .iface te pe)
theorem pow_glob : Tryz.prog.globalNamed "internal/strconv.uint64pow10" = some 3 := by kernel_rfl
theorem RdW.size {w : World} (h : RdW w) : 4 ≤ w.heap.size := by
 have h1 := h.pow
 unfold Pow TabIs World.var? at h1
 rw [pow_glob] at h1
 simp only [Option.bind_some] at h1
 rcases Nat.lt_or_ge 3 w.heap.size with h' | h'
 · exact h'
 · simp [Array.getElem?_eq_none h'] at h1
theorem RdW.chg {S : List Nat} {w0 w : World} (h : RdW w0) (hc : Chg S w0 w) (hS : Far S) : RdW w := by
 have hn : ∀ g : Nat, g < 4 → g ∉ S := fun g hg hm => by have := hS g hm; omega
 have key : ∀ (g : Nat) (v : Value), g < 4 → w0.cell? ⟨g, 0, none⟩ = some v → w.cell? ⟨g, 0, none⟩ = some v := fun g v hg hv => by
  have h4 := h.size
  rw [hc.cell (by omega) (hn g hg)]
  exact hv
 obtain ⟨m, hm⟩ := h.len
 obtain ⟨v, hv, hv2⟩ := h.syn
 obtain ⟨u, hu, hu2⟩ := h.ran
 refine ⟨h.pow.chg hc fun g hg => ?_, ⟨m, key _ _ (by decide) hm⟩, ⟨v, key _ _ (by decide) hv, hv2⟩, ⟨u, key _ _ (by decide) hu, hu2⟩⟩
 rw [pow_glob] at hg
 cases hg
 exact hn 3 (by decide)
theorem RdW.sat {S : List Nat} {w0 w : World} {K : List Fact} (h : RdW w0) (hw : Sat S w0 K w) (hS : Far S) : RdW w := h.chg hw.chg hS
def errV (b : Bool) (N : Nat) : Value := if b then .nilIface else .iface 109 (.pointer (some ⟨N, 0, none⟩))
theorem Pu.en {c : Cx} {F : Fr} {K : List Fact} {d : Option Tmp} {ty xt yt : TypeId} {pos : String} {af : Array Edge} {g : Option (Nat × Bool)} {x : Operand} {b : Bool} {N : Nat} (hT : ∃ is, c.P.underlying xt = some (.interface is)) (hx : ev F x = some (errV b N) := by rfl) : Pu c F K ⟨d, .binOp .neq xt x (.const .nilIface) yt, ty, pos, af, g⟩ (.bool (!b)) := by
 obtain ⟨is, hT⟩ := hT
 refine Pu.bin hx rfl fun w => ?_
 have h1 : ∀ d : Nat, (Op.equalIn (d + 1) xt (.iface 109 (.pointer (some ⟨N, 0, none⟩))) .nilIface).run c.P w = .ok false w := fun d => by simp [Op.equalIn, run_underlying hT]
 have h2 : ∀ d : Nat, (Op.equalIn (d + 1) xt .nilIface .nilIface).run c.P w = .ok true w := fun d => by simp [Op.equalIn, run_underlying hT]
 cases b
 · simp only [errV, eqGuard, binOp]
   simp [Op.equal, Op.maxDepth, h1 9999]
 · simp only [errV, eqGuard, binOp]
   simp [Op.equal, Op.maxDepth, h2 9999]
theorem atoi_any {x : List UInt8} (hx : x.length ≤ 1000000) {w : World} (hE : RdW w) : CallsK Tryz.prog 25 #[sv x] [] w Nat (fun N => .tuple #[.int .i64 (atN x), errV (atB x) N]) (fun _ => []) := by
  unfold CallsK
  rcases h : atoiAll x with v | _ | _
  · refine Calls.mono (Tryz.strconv_Atoi_ok ⟨x.toArray⟩ (by rw [ba_size]; omega) v h w) ?_
    rintro e w' ⟨rfl, hw⟩
    refine ⟨0, by rw [show atN x = v by unfold atN; rw [h], show atB x = true by unfold atB; rw [h]]; rfl, ?_⟩
    rcases hw with rfl | ⟨t, rfl⟩
    · exact Sat.start _
    · exact Sat.nil (Chg.of_ext (bytesWorld_below _ _ _))
  · obtain ⟨v, hv, hev⟩ := hE.syn
    refine Calls.mono (Tryz.strconv_Atoi_syntax ⟨x.toArray⟩ (by rw [ba_size]; omega) h v w hv hev) ?_
    rintro e w' ⟨N, rfl, _, _, hb⟩
    exact ⟨N, by rw [show atN x = 0 by unfold atN; rw [h], show atB x = false by unfold atB; rw [h]]; rfl, Sat.nil (Chg.of_ext hb)⟩
  · obtain ⟨v, hv, hev⟩ := hE.ran
    refine Calls.mono (Tryz.strconv_Atoi_range ⟨x.toArray⟩ (by rw [ba_size]; omega) h v w hv hev) ?_
    rintro e w' ⟨N, rfl, _, _, hb⟩
    exact ⟨N, by rw [show atN x = atoiSat x by unfold atN; rw [h], show atB x = false by unfold atB; rw [h]]; rfl, Sat.nil (Chg.of_ext hb)⟩
theorem cut_any {t X R : List UInt8} {b : Bool} (ht : t.length ≤ 1000000) (E : cut t [10] = (X, R, b)) {w : World} (hE : RdW w) : Calls Tryz.prog 22 #[sv t, sv [10]] w (Ret w (.tuple #[sv X, sv R, .bool b])) := by
 obtain ⟨m, hm⟩ := hE.len
 refine Calls.mono (Tryz.strings_Cut ⟨t.toArray⟩ ⟨#[10]⟩ m w (by rw [ba_size]; omega) hm) ?_
 rintro e w' ⟨rfl, n, rfl⟩
 have E' : cut (⟨t.toArray⟩ : ByteArray).data.toList (⟨#[10]⟩ : ByteArray).data.toList = (X, R, b) := E
 rw [E']
 exact ⟨rfl, rfl, rfl, rfl, by simp [World.drewN], fun q hq => by simp [World.drewN]⟩
theorem cut_inv {t X R : List UInt8} {b : Bool} (E : cut t [10] = (X, R, b)) : (b = true ∧ t = X ++ 10 :: R ∧ 10 ∉ X) ∨ (b = false ∧ 10 ∉ t ∧ X = t) := by
 by_cases h : (10 : UInt8) ∈ t
 · obtain ⟨x, r, rfl, hx⟩ : ∃ x r, t = x ++ 10 :: r ∧ (10 : UInt8) ∉ x := by
    rcases idx_one (c := 10) (l := t) with ⟨_, h1⟩ | ⟨x, r, e, h1, _⟩
    · exact absurd h h1
    · exact ⟨x, r, e, h1⟩
   rw [cut_at hx] at E
   cases E
   exact .inl ⟨rfl, rfl, hx⟩
 · rw [cut_none h] at E
   cases E
   exact .inr ⟨rfl, h, rfl⟩
theorem lix_any {X : List UInt8} {L : Int} (hX : X.length ≤ 1000000) (E : lastIndexByte ⟨X.toArray⟩ 32 = L) (w : World) : Calls Tryz.prog 23 #[sv X, .int .u8 32] w (Ret w (.int .i64 L)) := by
 refine Calls.mono (Tryz.strings_LastIndexByte ⟨X.toArray⟩ 32 (by rw [ba_size]; omega) w) ?_
 rintro e w' ⟨rfl, rfl⟩
 exact ⟨by rw [E], Below.refl _ _⟩
theorem lix_inv {X : List UInt8} {L : Int} (E : lastIndexByte ⟨X.toArray⟩ 32 = L) : (L = -1 ∧ 32 ∉ X) ∨ ∃ a z, X = a ++ 32 :: z ∧ 32 ∉ z ∧ L = (a.length : Int) := by
 by_cases h : (32 : UInt8) ∈ X
 · obtain ⟨a, z, rfl, hz⟩ := last_at h
   rw [lix_at hz] at E
   exact .inr ⟨a, z, rfl, hz, E.symm⟩
 · rw [lix_none h] at E
   exact .inl ⟨E.symm, h⟩
theorem split_any {a : List UInt8} (ha : a.length ≤ 1000000) {w : World} (hE : RdW w) : CallsK Tryz.prog 24 #[sv a, sv [32]] [] w Nat (fun b => .slice (some ⟨b, 0, none⟩) (spW 32 a).length (spW 32 a).length) (fun b => [.blk b 9 ((spW 32 a).map sv)]) := by
 obtain ⟨m, hm⟩ := hE.len
 unfold CallsK
 refine Calls.mono (Tryz.strings_Split ⟨a.toArray⟩ ⟨#[32]⟩ m w (by rw [ba_size]; omega) hm (by decide)) ?_
 rintro e w' ⟨rfl, rfl⟩
 refine ⟨w.heap.size, by rw [countB_spW], ?_⟩
 have e : ((splitB ⟨#[32]⟩ 0 (countB ⟨a.toArray⟩ ⟨#[32]⟩) ⟨a.toArray⟩).map Value.string) = (spW 32 a).map sv := by rw [splitB_spW, List.map_map]; rfl
 rw [e]
 exact Sat.new (Sat.start w) 9 ((spW 32 a).map sv)
def NmR (ls : List (List UInt8)) (ok : Bool) (ms : List Int) : Prop := (ok = true ∧ nmsL ls = some ms) ∨ (ok = false ∧ nmsL ls = none ∧ ms = [])
theorem nmR_ex (ls : List (List UInt8)) : ∃ ok ms, NmR ls ok ms := by
 cases h : nmsL ls with
 | none => exact ⟨false, [], .inr ⟨rfl, h, rfl⟩⟩
 | some m => exact ⟨true, m, .inl ⟨rfl, h⟩⟩
theorem NmR.len {ls : List (List UInt8)} {ok : Bool} {ms : List Int} (h : NmR ls ok ms) : ms.length ≤ ls.length := by
 rcases h with ⟨_, h⟩ | ⟨_, _, rfl⟩
 · rw [nms_len h]; exact Nat.le_refl _
 · exact Nat.zero_le _
theorem nms_no {x : List UInt8} (hv : valL x = none) : ∀ {ls : List (List UInt8)}, x ∈ ls → nmsL ls = none
 | y :: l, h => by
  unfold nmsL
  rcases List.mem_cons.1 h with rfl | h
  · rw [hv]; rfl
  · rw [nms_no hv h]
    cases valL y <;> rfl
def okW (x : List UInt8) : Bool := atB x && wrB (atN x) && decide (itoa (atN x) = x)
theorem val_ok {x : List UInt8} (h : okW x = true) : valL x = some (atN x) := by
 rw [val_code, if_pos]
 simpa [okW, Bool.and_eq_true, and_assoc] using h
theorem val_no {x : List UInt8} (h : okW x = false) : valL x = none := by
 rw [val_code, if_neg]
 rintro ⟨h1, h2, h3⟩
 unfold okW at h
 rw [h1, h2, decide_eq_true h3] at h
 cases h
set_option maxRecDepth 100000 in
set_option maxHeartbeats 2000000 in
theorem numbers_any {ls : List (List UInt8)} {ok : Bool} {ms : List Int} {A : Option Addr} {n cp : Nat} {w : World} (hE : RdW w) (hN : NmR ls ok ms) (hn9 : n = ls.length) (hn : ls.length ≤ 100000) (hx : ∀ x, x ∈ ls → x.length ≤ 100000) (hR : RdR w 1 A n (strL ls)) :
  CallsK Tryz.prog 12 #[.slice A n cp] [] w (Option Addr × Nat) (fun x => .tuple #[.slice x.1 ms.length x.2, .bool ok]) (fun x => [.own x.1 ms.length x.2 3 1 (iL ms)]) := by
 subst hn9
 refine K_enter (S := []) (K := []) Tryz.func12 rfl Tryz.ntmps12 rfl (Sat.start _) ?_
 refine TW.seq fun Y1 hY1 => TW.region ?_
 refine TL.p Pu.as ?_
 refine TL.p Pu.as ?_
 refine TL.nil (TQ.thenN (hY1 _ _ ?_))
 refine TW.seq fun Y2 hY2 => TW.region ?_
 refine TL.m Mk.bl ?_
 intro b1
 refine TL.p Pu.as ?_
 refine TL.nil (TQ.thenN (hY2 _ _ ?_))
 refine TW.seq fun Y3 hY3 => ?_
 refine TW.seq fun Y4 hY4 => TW.region ?_
 refine TL.p Pu.mv ?_
 refine TL.p (Pu.ln Tryz.underlying41) ?_
 refine TL.p Pu.mv ?_
 refine TL.nil (TQ.thenN (hY4 _ _ ?_))
 refine TW.block ?_
 refine TW.loop4 (fun (k : Nat) (B : Option Addr) (c : Nat) (m : List Int) => [(12, .int .i64 (k : Int)), (11, .int .i64 (ls.length : Int)), (10, .slice A ls.length cp), (4, .slice B k c)]) (fun k B c m => [.own B k c 3 1 (iL m)]) (fun k B c m => k ≤ ls.length ∧ nmsL (ls.take k) = some m) (fun k B c m => ls.length - k) 0 (some ⟨b1, 0, none⟩) 0 [] fs9 ?_ ?_ ?_
 exact KSub.ofBlk pk9 rfl (fun i hi => rfl) rfl rfl KSub.nil
 exact ⟨Nat.zero_le _, rfl⟩
 rintro k B c m ⟨hk, hm⟩ Z0 hZ0
 obtain ⟨x, hx9⟩ : ∃ x, ls.getD k [] = x := ⟨_, rfl⟩
 have hml : m.length = k := by have h1 := nms_len hm; rw [List.length_take] at h1; omega
 refine TW.seq fun Y5 hY5 => TW.region ?_
 refine TL.p Pu.lt ?_
 refine TL.nil (TQ.thenN (hY5 _ _ ?_))
 refine TW.seq fun Y6 hY6 => ?_
 refine TW.cond rfl (fun hc0 => ?_) (fun hc0 => ?_)
 try simp only [zcb9] at hc0
 have hkl : k < ls.length := by omega
 have hxl : x.length ≤ 100000 := by rw [← hx9]; exact hx _ (memS hkl)
 have hxm : x ∈ ls := by rw [← hx9]; exact memS hkl
 have htk : ls.take (k + 1) = ls.take k ++ [x] := by rw [takeS hkl, hx9]
 refine TW.skip ?_
 refine TQ.thenN (hY6 _ _ ?_)
 refine TW.seq fun Y7 hY7 => ?_
 refine TW.block ?_
 refine TW.seq fun Y8 hY8 => TW.region ?_
 refine TL.p (Pu.el ty_et41) ?_
 refine TL.p (Pu.sw (a := ls.getD k []) (Pu.ld ty_sc9) hx9) ?_
 refine TL.p Pu.as ?_
 refine TL.nil (TQ.thenN (hY8 _ _ ?_))
 refine TW.seq fun Y9 hY9 => TW.region ?_
 refine TL.p Pu.mv ?_
 refine TL.call (M := []) rfl (enters Tryz.func25 rfl rfl) (List.Perm.refl _) rfl (fun w hw => by
   exact atoi_any (by omega) (hE.sat hw Far.nil)) ?_
 rintro N
 refine TL.p Pu.mv ?_
 refine TL.p Pu.ex ?_
 refine TL.p Pu.ex ?_
 refine TL.p Pu.as ?_
 refine TL.p Pu.as ?_
 refine TL.nil (TQ.thenN (hY9 _ _ ?_))
 refine TW.seq fun Y10 hY10 => ?_
 refine TW.seq fun Y11 hY11 => ?_
 refine TW.join [(34, .bool (!okW (x)))] ?_ (fun hJ1 => ?_)
 refine TQ.thenN (hY11 _ _ ?_)
 refine TW.cond rfl (fun hc1 => ?_) (fun hc1 => ?_)
 try simp only [zcb9] at hc1
 have hv := val_no (x := x) (by simpa using hc1)
 obtain ⟨rfl, rfl⟩ : ok = false ∧ ms = [] := by
  rcases hN with ⟨_, h⟩ | ⟨h1, _, h2⟩
  rw [nms_no hv hxm] at h; cases h
  exact ⟨h1, h2⟩
 refine TW.seq fun Y12 hY12 => TW.region ?_
 refine TL.p Pu.as ?_
 refine TL.p Pu.as ?_
 refine TL.nil (TQ.thenN (hY12 _ _ ?_))
 refine TW.ret ?_
 refine TQ.thenR ?_
 refine TQ.blkR ?_
 refine TQ.thenR ?_
 refine TQ.thenR ?_
 refine TQ.blkR ?_
 refine TQ.thenR ?_
 refine TQ.ret Tryz.results12 rfl ((.tmp rfl (.tmp rfl .nil))) ?_
 exact fun w hw => ⟨(none, 0), rfl, hw.sub (KSub.nilOwn KSub.nil)⟩
 try simp only [zcb9] at hc1
 have hv := val_ok (x := x) (by simpa using hc1)
 have hm2 : nmsL (ls.take (k + 1)) = some (m ++ [atN (x)]) := by rw [htk, nms_snoc, hm, hv]; rfl
 refine TW.skip ?_
 refine TQ.thenN (hY10 _ _ ?_)
 refine TW.region ?_
 refine TL.p Pu.mv ?_
 refine TL.p Pu.mv ?_
 refine TL.m Mk.bl ?_
 intro b2
 first | refine TL.a0 ty_et42 ?_ | refine TL.ap ty_et42 ?_
 intro A3 c3
 refine TL.p Pu.as ?_
 refine TL.nil ?_
 refine TQ.blkN ?_
 refine TQ.thenN (hY7 _ _ ?_)
 refine TW.region ?_
 refine TL.p Pu.ad ?_
 refine TL.p Pu.mv ?_
 refine TL.nil ?_
 refine TQ.thenN (hZ0 (k + 1) A3 c3 (m ++ [atN (x)]) _ _ ?_ ?_ fs9 ?_)
 exact ⟨by omega, hm2⟩
 exact zom9
 exact KSub.own pk9 (iL_app hml.symm rfl rfl) KSub.nil
 refine TW.region ?_
 refine TL.p Pu.mv ?_
 refine TL.p (Pu.en ⟨_, Tryz.underlying73⟩) ?_
 refine TL.p Pu.mv ?_
 refine TL.guard (t := 23) rfl (fun hg1 => ?_) (fun hg1 => ?_)
 refine TL.gs ?_
 refine TL.gs ?_
 refine TL.gs ?_
 refine TL.gs ?_
 refine TL.p Pu.kt ?_
 refine TL.p Pu.mv ?_
 refine TL.gs ?_
 refine TL.gs ?_
 refine TL.gs ?_
 refine TL.gs ?_
 refine TL.p Pu.kt ?_
 refine TL.nil ?_
 exact TQ.sub (by repeat (first | exact trivial | refine ⟨rfl, ?_⟩ | refine ⟨trivial, ?_⟩ | refine ⟨(by show some (Value.bool _) = some (Value.bool _); first | (simp [hg1, okW]; done) | (refine congrArg (fun z => some (Value.bool z)) (Bool.eq_iff_iff.2 ?_); simp [hg1, okW]; omega)), ?_⟩)) ks9 hJ1
 refine TL.gd Pu.mv ?_
 refine TL.gm Mk.bl ?_
 intro b4
 refine TL.cr rfl (enters Tryz.func26 rfl rfl) (fun w hw => by
   exact writtenOne_any (hw.holds (.blk _ 3 [.int .i64 (atN (x))]) (Pick.mem pk9))) ?_
 refine TL.gd Pu.no ?_
 refine TL.p Pu.kf ?_
 refine TL.p Pu.mv ?_
 refine TL.guard (t := 29) rfl (fun hg2 => ?_) (fun hg2 => ?_)
 refine TL.gs ?_
 refine TL.gs ?_
 refine TL.gs ?_
 refine TL.gs ?_
 refine TL.p Pu.kt ?_
 refine TL.nil ?_
 exact TQ.sub (by repeat (first | exact trivial | refine ⟨rfl, ?_⟩ | refine ⟨trivial, ?_⟩ | refine ⟨(by show some (Value.bool _) = some (Value.bool _); first | (simp [hg1, hg2, okW]; done) | (refine congrArg (fun z => some (Value.bool z)) (Bool.eq_iff_iff.2 ?_); simp [hg1, hg2, okW]; omega)), ?_⟩)) ks9 hJ1
 refine TL.gd Pu.mv ?_
 refine TL.cr rfl (enters Tryz.func27 rfl rfl) (fun w hw => by
   exact itoa_any (atN_bd _) (hE.sat hw Far.nil).pow) ?_
 refine TL.gd Pu.mv ?_
 refine TL.gd Pu.sne ?_
 refine TL.p Pu.kf ?_
 refine TL.nil ?_
 exact TQ.sub (by repeat (first | exact trivial | refine ⟨rfl, ?_⟩ | refine ⟨trivial, ?_⟩ | refine ⟨(by show some (Value.bool _) = some (Value.bool _); first | (simp [hg1, hg2, okW]; done) | (refine congrArg (fun z => some (Value.bool z)) (Bool.eq_iff_iff.2 ?_); simp [hg1, hg2, okW]; omega)), ?_⟩)) ks9 hJ1
 try simp only [zcb9] at hc0
 have hkl : k = ls.length := by omega
 obtain ⟨rfl, rfl⟩ : ok = true ∧ ms = m := by
  rw [hkl, List.take_length] at hm
  rcases hN with ⟨h1, h⟩ | ⟨_, h, _⟩
  rw [hm] at h; exact ⟨h1, (Option.some.inj h).symm⟩
  rw [hm] at h; cases h
 subst hml
 refine TW.exit ?_
 refine TQ.thenX ?_
 refine TQ.thenX ?_
 refine TQ.blkX ?_
 refine TQ.thenN (hY3 _ _ ?_)
 refine TW.seq fun Y13 hY13 => TW.region ?_
 refine TL.p Pu.mv ?_
 refine TL.p Pu.as ?_
 refine TL.p Pu.as ?_
 refine TL.nil (TQ.thenN (hY13 _ _ ?_))
 refine TW.ret ?_
 refine TQ.ret Tryz.results12 rfl ((.tmp rfl (.tmp rfl .nil))) ?_
 exact fun w hw => ⟨(B, c), rfl, hw⟩
end Go.Proofs.YtfgnbkegdjkdmaaGreatDoor
namespace Go.Proofs.YtfgnbkegdjkdmaaGreatDoor
set_option linter.all false
set_option linter.unusedVariables false
set_option linter.unusedSimpArgs false
open Go.ChangeShapes Go.WideShapes Go.ChangeAt Go.RowKit Go.Deep
theorem Tryz.own : ownKnob Tryz.prog.godebug = none := by kernel_rfl
theorem Tryz.laidOut : laidOutB Tryz.prog = true := by kernel_rfl
section
variable {H : Type} {enc : TypeId × Value → H} {w : World} {base : Nat} {spare : Nat → Bool} {held : Bool}
theorem sv_bytes {s : ByteArray} : Value.string s = sv s.data.toList := by
 cases s
 simp [sv]
end
end Go.Proofs.YtfgnbkegdjkdmaaGreatDoor
namespace Go.Proofs.YtfgnbkegdjkdmaaGreatDoor
set_option linter.all false
set_option linter.unusedVariables false
set_option linter.unusedSimpArgs false
open Go.RowKit Go.Lib
theorem RdR.same {w : World} {sz n : Nat} {A : Option Addr} {r r' : Nat → List Value} (h : RdR w sz A n r) (e : ∀ i, i < n → r i = r' i) : RdR w sz A n r' := ⟨h.rd.congr fun i j hi _ => by simp only [rowF, e i hi], fun i hi => by rw [← e i hi]; exact h.len i hi⟩
theorem RdR.numTail {w : World} {A : Option Addr} {n cp q : Nat} {l : List Int} (h : RdR w 1 A n (iL l)) (hn : n ≤ cp) (hq : q ≤ n) : RdR w 1 (slA A cp 1 q) (n - q) (iL (l.drop q)) :=
 (h.tail hn hq).same fun i _ => by simp only [iL, List.getD_eq_getElem?_getD, List.getElem?_drop]
theorem span_any {l : List Int} {A : Option Addr} {n cp : Nat} {w : World} (hn : 2 ≤ n) (hR : RdR w 1 A n (iL l)) : Calls Tryz.prog 28 #[.slice A n cp] w (Ret w (.agg #[.int .i64 (l.getD 0 0), .int .i64 (l.getD 1 0)])) := by
 refine K_enter (S := []) (K := []) Tryz.func28 rfl Tryz.ntmps28 rfl (Sat.start _) ?_
 refine TW.seq fun Y1 hY1 => TW.region ?_
 refine TL.m (Mk.al ty_zr46) ?_
 intro b1
 refine TL.nil (TQ.thenN (hY1 _ _ ?_))
 refine TW.seq fun Y2 hY2 => ?_
 refine TW.dw 7 ?_
 refine RK.tk Pu.mv ?_
 refine RK.tk (Pu.el (q := 0) ty_et42 (hk := rfl)) ?_
 refine RK.tk (Pu.ld ty_sc3) ?_
 refine RK.tk Pu.mv ?_
 refine RK.tk (Pu.el (q := 1) ty_et42 (hk := rfl)) ?_
 refine RK.tk (Pu.ld ty_sc3) ?_
 refine RK.tk Pu.bd ?_
 refine RK.ch [] ?_ trivial
 refine WK.n ?_
 first | refine TL.st ty_sz46 ?_ | refine TL.se ty_sz46 ?_
 refine TL.nil (TQ.thenN (hY2 _ _ ?_))
 refine TW.ret ?_
 refine TQ.ret Tryz.results28 rfl ((RV.cs ty_ag46 .nil)) ?_
 exact fun w hw => Ret.of hw
def rowF9 (l : List Int) : List Value := rwL fun j => l.getD j 0
set_option maxRecDepth 100000 in
set_option maxHeartbeats 4000000 in
theorem rowOf_any {l : List Int} {A : Option Addr} {n cp : Nat} {w : World} (hn : n = 14) (hcp : n ≤ cp) (hR : RdR w 1 A n (iL l)) : Calls Tryz.prog 13 #[.slice A n cp] w (Ret w (.agg #[.int .i64 (l.getD 0 0), .int .i64 (l.getD 1 0), .int .i64 (l.getD 2 0), .int .i64 (l.getD 3 0), .int .i64 (l.getD 4 0), .int .i64 (l.getD 5 0), .int .i64 (l.getD 6 0), .int .i64 (l.getD 7 0), .int .i64 (l.getD 8 0), .int .i64 (l.getD 9 0), .int .i64 (l.getD 10 0), .int .i64 (l.getD 11 0), .int .i64 (l.getD 12 0), .int .i64 (l.getD 13 0)])) := by
 subst hn
 refine K_enter (S := []) (K := []) Tryz.func13 rfl Tryz.ntmps13 rfl (Sat.start _) ?_
 refine TW.seq fun Y1 hY1 => TW.region ?_
 refine TL.m (Mk.al ty_zr48) ?_
 intro b1
 refine TL.nil (TQ.thenN (hY1 _ _ ?_))
 refine TW.seq fun Y2 hY2 => ?_
 refine TW.dw 21 ?_
 refine RK.tk Pu.mv ?_
 refine RK.keep ?_
 refine RK.tk Pu.mv ?_
 refine RK.tk (Pu.sf ty_et42) ?_
 refine RK.keep ?_
 refine RK.tk Pu.mv ?_
 refine RK.tk (Pu.sf ty_et42) ?_
 refine RK.keep ?_
 refine RK.tk Pu.mv ?_
 refine RK.tk (Pu.sf ty_et42) ?_
 refine RK.keep ?_
 refine RK.tk Pu.mv ?_
 refine RK.tk (Pu.sf ty_et42) ?_
 refine RK.keep ?_
 refine RK.tk Pu.mv ?_
 refine RK.tk (Pu.sf ty_et42) ?_
 refine RK.keep ?_
 refine RK.tk Pu.mv ?_
 refine RK.tk (Pu.sf ty_et42) ?_
 refine RK.keep ?_
 refine RK.keep ?_
 refine RK.ch [false, false, false, false, false, false, false, true] ?_ trivial
 refine WK.cr rfl (enters Tryz.func28 rfl rfl) (fun w hw => by
  exact span_any (by decide) (hR.sat hw Apart.nil)) ?_
 refine WK.cr rfl (enters Tryz.func28 rfl rfl) (fun w hw => by
  exact span_any (l := l.drop 2) (by decide) ((hR.sat hw Apart.nil).numTail hcp (by decide))) ?_
 refine WK.cr rfl (enters Tryz.func28 rfl rfl) (fun w hw => by
  exact span_any (l := l.drop 4) (by decide) ((hR.sat hw Apart.nil).numTail hcp (by decide))) ?_
 refine WK.cr rfl (enters Tryz.func28 rfl rfl) (fun w hw => by
  exact span_any (l := l.drop 6) (by decide) ((hR.sat hw Apart.nil).numTail hcp (by decide))) ?_
 refine WK.cr rfl (enters Tryz.func28 rfl rfl) (fun w hw => by
  exact span_any (l := l.drop 8) (by decide) ((hR.sat hw Apart.nil).numTail hcp (by decide))) ?_
 refine WK.cr rfl (enters Tryz.func28 rfl rfl) (fun w hw => by
  exact span_any (l := l.drop 10) (by decide) ((hR.sat hw Apart.nil).numTail hcp (by decide))) ?_
 refine WK.cr rfl (enters Tryz.func28 rfl rfl) (fun w hw => by
  exact span_any (l := l.drop 12) (by decide) ((hR.sat hw Apart.nil).numTail hcp (by decide))) ?_
 refine WK.p Pu.bd ?_
 refine WK.n ?_
 first | refine TL.st ty_sz48 ?_ | refine TL.se ty_sz48 ?_
 refine TL.nil (TQ.thenN (hY2 _ _ ?_))
 refine TW.ret ?_
 refine TQ.ret Tryz.results13 rfl ((RV.cs ty_ag48 .nil)) ?_
 exact fun w hw => Ret.of hw
theorem wrap_u8b {i : Int} (h : 0 ≤ i ∧ i ≤ 255) : IntKind.u8.wrap i = i := by
 have h1 : i = ((i.toNat : Nat) : Int) := by omega
 rw [h1]
 have h2 : i.toNat < 256 := by omega
 revert h2
 generalize i.toNat = n
 intro h2
 have h3 : ∀ m : Fin 256, IntKind.u8.wrap ((m.val : Nat) : Int) = ((m.val : Nat) : Int) := by decide +kernel
 exact h3 ⟨n, h2⟩
theorem fromOne_any {lo hi m : Int} {b E : Nat} {w : World} (h : Blk w b E #[.int .i64 m]) : Calls Tryz.prog 29 #[.int .i64 lo, .int .i64 hi, .slice (some ⟨b, 0, none⟩) 1 1] w (Ret w (.bool (inB5 lo hi m))) := by
 have h9 := lFrom_any lo hi (cp := 1) (v := fun _ => m) (n := 1) (by decide) (RdR.blk (cs := [.int .i64 m]) h rfl (fun i hi => rfl))
 rw [show (allB 1 fun _ => inB5 lo hi m) = inB5 lo hi m by simp [allB]] at h9
 exact h9
theorem lett_in (n : List Int) : lettB n = (inB5 0 255 (n.getD 2 0) && inB5 0 1 (n.getD 7 0)) := by
 unfold lettB inB5
 rw [Bool.eq_iff_iff]
 simp
def ltrW (n : List Int) : Ltr := ⟨n.getD 0 0, n.getD 1 0, IntKind.u8.wrap (n.getD 2 0), n.getD 3 0, n.getD 4 0, n.getD 5 0, n.getD 6 0, decide (n.getD 7 0 = 1)⟩
set_option maxRecDepth 100000 in
set_option maxHeartbeats 4000000 in
theorem letterOf_any {l : List Int} {A : Option Addr} {n cp : Nat} {w : World} (hn : n = 8) (hR : RdR w 1 A n (iL l)) : Calls Tryz.prog 14 #[.slice A n cp] w (Ret w (.tuple #[.agg #[.int .i64 (l.getD 0 0), .int .i64 (l.getD 1 0), .int .u8 (IntKind.u8.wrap (l.getD 2 0)), .int .i64 (l.getD 3 0), .int .i64 (l.getD 4 0), .int .i64 (l.getD 5 0), .int .i64 (l.getD 6 0), .bool (decide (l.getD 7 0 = 1))], .bool (lettB l)])) := by
 subst hn
 refine K_enter (S := []) (K := []) Tryz.func14 rfl Tryz.ntmps14 rfl (Sat.start _) ?_
 refine TW.seq fun Y1 hY1 => TW.region ?_
 refine TL.m (Mk.al ty_zr51) ?_
 intro b1
 refine TL.p Pu.as ?_
 refine TL.nil (TQ.thenN (hY1 _ _ ?_))
 refine TW.seq fun Y2 hY2 => ?_
 refine TW.dw 28 ?_
 refine RK.tk Pu.mv ?_
 refine RK.tk (Pu.el (q := 0) ty_et42 (hk := rfl)) ?_
 refine RK.tk (Pu.ld ty_sc3) ?_
 refine RK.tk Pu.mv ?_
 refine RK.tk (Pu.el (q := 1) ty_et42 (hk := rfl)) ?_
 refine RK.tk (Pu.ld ty_sc3) ?_
 refine RK.tk Pu.mv ?_
 refine RK.tk (Pu.el (q := 2) ty_et42 (hk := rfl)) ?_
 refine RK.tk (Pu.ld ty_sc3) ?_
 refine RK.tk Pu.cv ?_
 refine RK.tk Pu.mv ?_
 refine RK.tk (Pu.el (q := 3) ty_et42 (hk := rfl)) ?_
 refine RK.tk (Pu.ld ty_sc3) ?_
 refine RK.tk Pu.mv ?_
 refine RK.tk (Pu.el (q := 4) ty_et42 (hk := rfl)) ?_
 refine RK.tk (Pu.ld ty_sc3) ?_
 refine RK.tk Pu.mv ?_
 refine RK.tk (Pu.el (q := 5) ty_et42 (hk := rfl)) ?_
 refine RK.tk (Pu.ld ty_sc3) ?_
 refine RK.tk Pu.mv ?_
 refine RK.tk (Pu.el (q := 6) ty_et42 (hk := rfl)) ?_
 refine RK.tk (Pu.ld ty_sc3) ?_
 refine RK.tk Pu.mv ?_
 refine RK.tk (Pu.el (q := 7) ty_et42 (hk := rfl)) ?_
 refine RK.tk (Pu.ld ty_sc3) ?_
 refine RK.tk Pu.eq ?_
 refine RK.tk Pu.bd ?_
 refine RK.float [.int .i64 0, .int .i64 0, .int .u8 0, .int .i64 0, .int .i64 0, .int .i64 0, .int .i64 0, .bool false] ?_
 refine RK.ch [] ?_ ⟨ty_zr51, trivial⟩
 refine WK.n ?_
 intro b2
 first | refine TL.st ty_sz51 ?_ | refine TL.se ty_sz51 ?_
 refine TL.nil (TQ.thenN (hY2 _ _ ?_))
 refine TW.seq fun Y3 hY3 => ?_
 refine TW.ex0 (Drop.blk 2 rfl pk9 Drop.done) ?_
 refine RG.tk 0 rfl (Pu.lds ty_ag51) ?_
 refine RG.tk 1 rfl Pu.mv ?_
 refine RG.tk 2 rfl (Pu.el (q := 2) ty_et42 (hk := rfl)) ?_
 refine RG.tk 3 rfl (Pu.ld ty_sc3) ?_
 refine RG.a1 4 rfl (fun X4 hX4 => ?_)
 refine TL.m Mk.bl ?_
 intro b3
 refine TL.nil ?_
 refine TQ.nxt (hX4 _ _ hl9 ?_)
 refine RG.a1 5 rfl (fun X5 hX5 => ?_)
 refine TL.cr rfl (enters Tryz.func29 rfl rfl) (fun w hw => by
  exact fromOne_any (hw.holds (.blk _ 3 [.int .i64 (l.getD 2 0)]) (Pick.mem pk9))) ?_
 refine TL.nil ?_
 refine TQ.nxt (hX5 _ _ hl9 ?_)
 refine RG.tk 6 rfl Pu.mv ?_
 refine RG.a1 7 rfl (fun X7 hX7 => ?_)
 refine TL.guard (t := 38) rfl (fun hg1 => ?_) (fun hg1 => ?_)
 refine TL.gd Pu.mv ?_
 refine TL.nil ?_
 refine TQ.nxt (hX7 _ _ hl9 ?_)
 refine RG.tk 8 rfl (Pu.el (q := 7) ty_et42 (hk := rfl)) ?_
 refine RG.tk 9 rfl (Pu.ld ty_sc3) ?_
 refine RG.a1 10 rfl (fun X10 hX10 => ?_)
 refine TL.gm Mk.bl ?_
 intro b4
 refine TL.nil ?_
 refine TQ.nxt (hX10 _ _ hl9 ?_)
 refine RG.a1 11 rfl (fun X11 hX11 => ?_)
 refine TL.cr rfl (enters Tryz.func29 rfl rfl) (fun w hw => by
  exact fromOne_any (hw.holds (.blk _ 3 [.int .i64 (l.getD 7 0)]) (Pick.mem pk9))) ?_
 refine TL.nil ?_
 refine TQ.nxt (hX11 _ _ hl9 ?_)
 refine RG.tk 12 rfl Pu.kt ?_
 refine RG.a1 13 rfl (fun X13 hX13 => ?_)
 first | refine TL.st ty_sz51 ?_ | refine TL.se ty_sz51 ?_
 refine TL.nil ?_
 refine TQ.nxt (hX13 _ _ hl9 ?_)
 refine RG.tk 14 rfl Pu.as ?_
 refine RG.nil ?_ (by kernel_rfl)
 refine TQ.thenN (hY3 _ _ ?_)
 refine TW.ret ?_
 refine TQ.ret Tryz.results14 rfl ((RV.cs ty_ag51 (.tmp rfl .nil))) ?_
 exact fun w hw => by first | (have e : lettB l = inB5 0 1 (l.getD 7 0) := by rw [lett_in, hg1, Bool.true_and]); rw [e]; exact Ret.of hw | (have e : lettB l = false := by rw [lett_in, hg1, Bool.false_and]); rw [e]; exact Ret.of hw
 refine TL.gs ?_
 refine TL.nil ?_
 refine TQ.nxt (hX7 _ _ hl9 ?_)
 refine RG.a1 8 rfl (fun X8 hX8 => ?_)
 refine TL.gs ?_
 refine TL.nil ?_
 refine TQ.nxt (hX8 _ _ hl9 ?_)
 refine RG.a1 9 rfl (fun X9 hX9 => ?_)
 refine TL.gs ?_
 refine TL.nil ?_
 refine TQ.nxt (hX9 _ _ hl9 ?_)
 refine RG.a1 10 rfl (fun X10 hX10 => ?_)
 refine TL.gs ?_
 refine TL.nil ?_
 refine TQ.nxt (hX10 _ _ hl9 ?_)
 refine RG.a1 11 rfl (fun X11 hX11 => ?_)
 refine TL.gs ?_
 refine TL.nil ?_
 refine TQ.nxt (hX11 _ _ hl9 ?_)
 refine RG.tk 12 rfl Pu.kf ?_
 refine RG.a1 13 rfl (fun X13 hX13 => ?_)
 first | refine TL.st ty_sz51 ?_ | refine TL.se ty_sz51 ?_
 refine TL.nil ?_
 refine TQ.nxt (hX13 _ _ hl9 ?_)
 refine RG.tk 14 rfl Pu.as ?_
 refine RG.nil ?_ (by kernel_rfl)
 refine TQ.thenN (hY3 _ _ ?_)
 refine TW.ret ?_
 refine TQ.ret Tryz.results14 rfl ((RV.cs ty_ag51 (.tmp rfl .nil))) ?_
 exact fun w hw => by first | (have e : lettB l = inB5 0 1 (l.getD 7 0) := by rw [lett_in, hg1, Bool.true_and]); rw [e]; exact Ret.of hw | (have e : lettB l = false := by rw [lett_in, hg1, Bool.false_and]); rw [e]; exact Ret.of hw
def ltrX (n : List Int) : List Int := n.set 2 (IntKind.u8.wrap (n.getD 2 0))
theorem ltrX_ltr {n : List Int} (h : n.length = 8) : ltrO (ltrX n) = ltrW n := by
  obtain ⟨a0, a1, a2, a3, a4, a5, a6, a7, rfl⟩ : ∃ a0 a1 a2 a3 a4 a5 a6 a7, n = [a0, a1, a2, a3, a4, a5, a6, a7] := by
    match n, h with
    | [a0, a1, a2, a3, a4, a5, a6, a7], _ => exact ⟨_, _, _, _, _, _, _, _, rfl⟩
  rfl
theorem ltrX_ok {n : List Int} (h : n.length = 8) (hb : lettB n = true) : ltrX n = n := by
  unfold lettB at hb
  rw [Bool.and_eq_true, decide_eq_true_eq, decide_eq_true_eq] at hb
  have e : IntKind.u8.wrap (n.getD 2 0) = n.getD 2 0 := wrap_u8b (by omega)
  unfold ltrX
  rw [e]
  match n, h with
  | [a0, a1, a2, a3, a4, a5, a6, a7], _ => rfl
structure Bk where
 R : Option Addr
 cr : Nat
 rows : List (List Int)
 L : Option Addr
 cl : Nat
 lets : List (List Int)
def rwT (rows : List (List Int)) : Nat → List Value := fun i => rwL (fOf rows i)
def ltT (lets : List (List Int)) : Nat → List Value := fun i => ltL (gOf lets i)
def bkM (b : Nat) (S : Bk) : List Fact := [.blk b 25 [.slice S.R S.rows.length S.cr, .slice S.L S.lets.length S.cl], .own S.R S.rows.length S.cr 48 14 (rwT S.rows), .own S.L S.lets.length S.cl 51 8 (ltT S.lets)]
def Bk.cont (S : Bk) : Cont := ⟨S.rows, S.lets, []⟩
def CtOk (c : Cont) : Prop := c.rows.length + c.letters.length ≤ 300 ∧ c.log.length ≤ 200
def TkR (isLog : Bool) (c : Cont) (ls : List (List UInt8)) (ok : Bool) (c' : Cont) : Prop := match addL isLog c ls with
  | none => ok = false
  | some d => ok = true ∧ c' = d
theorem getD_snoc9 {α : Type} {l : List α} {m d : α} {i : Nat} (hi : i < l.length + 1) : (l ++ [m]).getD i d = if i < l.length then l.getD i d else m := by
  simp only [List.getD_eq_getElem?_getD]
  by_cases h : i < l.length
  · rw [if_pos h, List.getElem?_append_left h]
  · obtain rfl : i = l.length := by omega
    rw [if_neg h, List.getElem?_append_right (Nat.le_refl _), Nat.sub_self]
    rfl
theorem rwT_app {rows : List (List Int)} {m : List Int} {n : Nat} (hn : n = rows.length) : ∀ i, i < n + 1 → catR n (rwT rows) (fun _ => rowF9 m) i = rwT (rows ++ [m]) i := fun i hi => by
 subst hn
 show (if i < rows.length then rwL (fun j => (rows.getD i []).getD j 0) else rowF9 m) = rwL (fun j => ((rows ++ [m]).getD i []).getD j 0)
 rw [getD_snoc9 hi]
 split <;> rfl
theorem ltT_app {lets : List (List Int)} {m : List Int} {n : Nat} (hm : m.length = 8) (hn : n = lets.length) : ∀ i, i < n + 1 → catR n (ltT lets) (fun _ => ltL (ltrW m)) i = ltT (lets ++ [ltrX m]) i := fun i hi => by
 subst hn
 rw [← ltrX_ltr hm]
 show (if i < lets.length then ltL (ltrO (lets.getD i [])) else ltL (ltrO (ltrX m))) = ltL (ltrO ((lets ++ [ltrX m]).getD i []))
 rw [getD_snoc9 hi]
 split <;> rfl
section
variable {f : List UInt8} {l : List (List UInt8)} {S : Bk} {ms : List Int}
theorem addB_some (h : nmsL l = some ms) : addL false S.cont (f :: l) = if S.rows.length + S.lets.length = 300 then none
  else if f = [82] ∧ ms.length = 14 ∧ S.lets = [] then some { S.cont with rows := S.rows ++ [ms] }
  else if f = [76] ∧ ms.length = 8 ∧ lettB ms = true then some { S.cont with letters := S.lets ++ [ms] }
  else none := by
 show (nmsL l).bind _ = _
 rw [h]
 rfl
theorem tkB_no {ok : Bool} (hN : NmR l ok ms) (h : ok = false ∨ S.rows.length + S.lets.length = 300) (c' : Cont) : TkR false S.cont (f :: l) false c' := by
 have e : addL false S.cont (f :: l) = none := by
  rcases hN with ⟨h1, h2⟩ | ⟨_, h2, _⟩
  · rw [addB_some h2, if_pos]
    rcases h with h | h
    · rw [h1] at h; cases h
    · exact h
  · show (nmsL l).bind _ = none
    rw [h2]; rfl
 unfold TkR
 rw [e]
theorem nm_yes {ok : Bool} (hN : NmR l ok ms) (h : ok = true) : nmsL l = some ms := by
 rcases hN with ⟨_, h2⟩ | ⟨h1, _, _⟩
 · exact h2
 · rw [h1] at h; cases h
theorem tkB_row (hN : nmsL l = some ms) (h : ¬ S.rows.length + S.lets.length = 300) (h1 : f = [82] ∧ ms.length = 14 ∧ S.lets.length = 0) : TkR false S.cont (f :: l) true ⟨S.rows ++ [ms], S.lets, []⟩ := by
 have e : addL false S.cont (f :: l) = some ⟨S.rows ++ [ms], S.lets, []⟩ := by
  rw [addB_some hN, if_neg h, if_pos ⟨h1.1, h1.2.1, List.eq_nil_of_length_eq_zero h1.2.2⟩]
  rfl
 unfold TkR
 rw [e]
 exact ⟨rfl, rfl⟩
theorem tkB_let (hN : nmsL l = some ms) (h : ¬ S.rows.length + S.lets.length = 300) (h1 : f = [76] ∧ ms.length = 8) : TkR false S.cont (f :: l) (lettB ms) ⟨S.rows, S.lets ++ [ltrX ms], []⟩ := by
 have hf : ¬ (f = [82] ∧ ms.length = 14 ∧ S.lets = []) := fun e => by rw [h1.1] at e; exact absurd e.1 (by decide)
 unfold TkR
 rw [addB_some hN, if_neg h, if_neg hf]
 cases hb : lettB ms with
 | false =>
  rw [if_neg (fun e => by cases e.2.2)]
 | true =>
  rw [if_pos ⟨h1.1, h1.2, rfl⟩, ltrX_ok h1.2 hb]
  exact ⟨rfl, rfl⟩
theorem tkB_else (hN : nmsL l = some ms) (h : ¬ S.rows.length + S.lets.length = 300) (h1 : ¬ (f = [82] ∧ ms.length = 14 ∧ S.lets.length = 0)) (h2 : ¬ (f = [76] ∧ ms.length = 8)) (c' : Cont) : TkR false S.cont (f :: l) false c' := by
 unfold TkR
 rw [addB_some hN, if_neg h, if_neg (fun e => h1 ⟨e.1, e.2.1, by rw [e.2.2]; rfl⟩), if_neg (fun e => h2 ⟨e.1, e.2.1⟩)]
end
end Go.Proofs.YtfgnbkegdjkdmaaGreatDoor
namespace Go.Proofs.YtfgnbkegdjkdmaaGreatDoor
set_option linter.all false
set_option linter.unusedVariables false
set_option linter.unusedSimpArgs false
open Go.RowKit Go.Lib
theorem RdR.wordTail {w : World} {A : Option Addr} {n cp : Nat} {f : List UInt8} {l : List (List UInt8)} (h : RdR w 1 A n (strL (f :: l))) (hn : n = l.length + 1) (hc : n ≤ cp) : RdR w 1 (slA A cp 1 1) (n - 1) (strL l) := by
 have h1 := h.tail (q := 1) hc (by omega)
 exact h1.same fun i _ => by simp only [strL]; rw [Nat.add_comm, List.getD_cons_succ]
theorem OwnR.le {w : World} {A : Option Addr} {n c : Nat} {E : TypeId} {sz : Nat} {r : Nat → List Value} (h : OwnR w A n c E sz r) : n ≤ c := by
 rcases h.own.2 with ⟨e, h0⟩ | ⟨g, cap, cur, e, _⟩
 · omega
 · injection e with e1 e2 e3
   subst e3
   omega
theorem bkM_row {b c cl : Nat} {A L : Option Addr} {rows lets : List (List Int)} {m : List Int} : bkM b ⟨A, c, rows ++ [m], L, cl, lets⟩ = [.blk b 25 [.slice A (rows.length + 1) c, .slice L lets.length cl], .own A (rows.length + 1) c 48 14 (rwT (rows ++ [m])), .own L lets.length cl 51 8 (ltT lets)] := by
 simp only [bkM, List.length_append, List.length_cons, List.length_nil, Nat.zero_add]
theorem bkM_let {b c cl : Nat} {A L : Option Addr} {rows lets : List (List Int)} {m : List Int} : bkM b ⟨A, c, rows, L, cl, lets ++ [m]⟩ = [.blk b 25 [.slice A rows.length c, .slice L (lets.length + 1) cl], .own A rows.length c 48 14 (rwT rows), .own L (lets.length + 1) cl 51 8 (ltT (lets ++ [m]))] := by
 simp only [bkM, List.length_append, List.length_cons, List.length_nil, Nat.zero_add]
section
variable {f : List UInt8} {l : List (List UInt8)} {S : Bk}
set_option maxRecDepth 100000 in
set_option maxHeartbeats 4000000 in
theorem takeB_any {b n cp : Nat} {A : Option Addr} {w : World} (hE : RdW w) (hn : n = l.length + 1) (hl : l.length ≤ 100000) (hx : ∀ x, x ∈ l → x.length ≤ 100000) (hcp : n ≤ cp) (hS : CtOk S.cont)
  (hM : Sat (feet (bkM b S)) w (bkM b S) w) (hF : Far (feet (bkM b S))) (hW : RdR w 1 A n (strL (f :: l))) (hA : Apart (feet (bkM b S)) A) :
  CallsK Tryz.prog 11 #[.slice A n cp, .pointer (some ⟨b, 0, none⟩)] (bkM b S) w { x : Bool × Bk // TkR false S.cont (f :: l) x.1 x.2.cont } (fun x => .bool x.1.1) (fun x => bkM b x.1.2) := by
 obtain ⟨ok, ms, hN⟩ := nmR_ex l
 have hml := hN.len
 have hS1 : S.rows.length + S.lets.length ≤ 300 := hS.1
 refine K_enter (S := feet (bkM b S)) (K := [.blk b 25 [.slice S.R S.rows.length S.cr, .slice S.L S.lets.length S.cl], .own S.R S.rows.length S.cr 48 14 (rwT S.rows), .own S.L S.lets.length S.cl 51 8 (ltT S.lets)]) Tryz.func11 rfl Tryz.ntmps11 rfl hM ?_
 refine TW.seq fun Y1 hY1 => TW.region ?_
 refine TL.p Pu.as ?_
 refine TL.nil (TQ.thenN (hY1 _ _ ?_))
 refine TW.seq fun Y2 hY2 => TW.region ?_
 refine TL.p Pu.mv ?_
 refine TL.p (Pu.sf ty_et41) ?_
 refine TL.call (M := []) rfl (enters Tryz.func12 rfl rfl) (List.Perm.refl _) rfl (fun w hw => by
   exact numbers_any (ls := l) (hE.sat hw hF) hN (by omega) hl hx ((hW.sat hw hA).wordTail hn hcp)) ?_
 rintro ⟨B, c⟩
 refine TL.p Pu.mv ?_
 refine TL.p Pu.ex ?_
 refine TL.p Pu.ex ?_
 refine TL.p Pu.as ?_
 refine TL.p Pu.as ?_
 refine TL.nil (TQ.thenN (hY2 _ _ ?_))
 refine TW.seq fun Y3 hY3 => ?_
 refine TW.seq fun Y4 hY4 => ?_
 refine TW.join [(25, .bool (!ok || decide ((S.rows.length : Int) + (S.lets.length : Int) = 300)))] ?_ (fun hJ1 => ?_)
 refine TQ.thenN (hY4 _ _ ?_)
 refine TW.cond rfl (fun hc0 => ?_) (fun hc0 => ?_)
 try simp only [zcb9] at hc0
 have hno := tkB_no (S := S) (f := f) hN (by rcases hc0 with h | h; exact .inl (by simpa using h); exact .inr (by omega))
 refine TW.seq fun Y5 hY5 => TW.region ?_
 refine TL.p Pu.as ?_
 refine TL.nil (TQ.thenN (hY5 _ _ ?_))
 refine TW.ret ?_
 refine TQ.thenR ?_
 refine TQ.ret Tryz.results11 rfl ((.tmp rfl .nil)) ?_
 exact fun w hw => ⟨⟨(false, S), hno _⟩, rfl, hw.sub ks9⟩
 try simp only [zcb9] at hc0
 have hms := nm_yes hN (by simpa using hc0.1)
 have h300 : ¬ S.rows.length + S.lets.length = 300 := by have := hc0.2; omega
 refine TW.skip ?_
 refine TQ.thenN (hY3 _ _ ?_)
 refine TW.seq fun Y6 hY6 => ?_
 refine TW.block ?_
 refine TW.seq fun Y7 hY7 => ?_
 refine TW.join [(26, .bool (decide (f = [82]) && decide ((ms.length : Int) = 14) && decide ((S.lets.length : Int) = 0)))] ?_ (fun hJ2 => ?_)
 refine TQ.thenN (hY7 _ _ ?_)
 refine TW.cond rfl (fun hc1 => ?_) (fun hc1 => ?_)
 try simp only [zcb9] at hc1
 have h14 : f = [82] ∧ ms.length = 14 ∧ S.lets.length = 0 := ⟨hc1.1.1, by omega, by omega⟩
 refine TW.seq fun Y8 hY8 => ?_
 refine TW.dw 5 ?_
 refine RK.tk (by first | exact Pu.fb ty_fa25_0 | exact Pu.fe ty_fa25_0) ?_
 refine RK.tk (by first | exact (Pu.ld ty_sc22) | exact (Pu.ldo ty_sc22)) ?_
 refine RK.tk Pu.mv ?_
 refine RK.keep ?_
 refine RK.keep ?_
 refine RK.ch [false, false] ?_ trivial
 refine WK.cr rfl (enters Tryz.func13 rfl rfl) (fun w hw => by
   exact rowOf_any h14.2.1 (hw.own pk9).le (OwnR.rdr (hw.own pk9))) ?_
 refine WK.m Mk.bl ?_
 intro b1
 refine WK.n ?_
 refine TL.obn (b := b1) (n := 1) (sz := 14) (r := fun _ => rowF9 ms) pk9 (by simp [flatR, rowF9, rwL, h14.2.1]) (fun _ _ => rfl) ?_
 first | refine TL.a0 ty_et22 ?_ | refine TL.ap ty_et22 ?_
 intro A2 c2
 refine TL.p (by first | exact Pu.fb ty_fa25_0 | exact Pu.fe ty_fa25_0) ?_
 first | refine TL.st ty_sz22 ?_ | refine TL.se ty_sz22 ?_
 refine TL.nil (TQ.thenN (hY8 _ _ ?_))
 refine TW.seq fun Y9 hY9 => TW.region ?_
 refine TL.p Pu.as ?_
 refine TL.nil (TQ.thenN (hY9 _ _ ?_))
 refine TW.ret ?_
 refine TQ.blkR ?_
 refine TQ.thenR ?_
 refine TQ.ret Tryz.results11 rfl ((.tmp rfl .nil)) ?_
 exact fun w hw => ⟨⟨(true, ⟨A2, c2, S.rows ++ [ms], S.L, S.cl, S.lets⟩), tkB_row hms h300 h14⟩, rfl, by
  show Sat _ _ (bkM b ⟨A2, c2, S.rows ++ [ms], S.L, S.cl, S.lets⟩) _
  rw [bkM_row]
  exact hw.sub (KSub.cons pk9 (KSub.own pk9 (rwT_app rfl) (KSub.cons pk9 KSub.nil)))⟩
 try simp only [zcb9] at hc1
 have h14 : ¬ (f = [82] ∧ ms.length = 14 ∧ S.lets.length = 0) := by
  intro h
  rcases hc1 with (h1 | h1) | h1
  exact h1 h.1
  exact h1 (by omega)
  exact h1 (by omega)
 refine TW.seq fun Y10 hY10 => ?_
 refine TW.join [(49, .bool (decide (f = [76]) && decide ((ms.length : Int) = 8)))] ?_ (fun hJ3 => ?_)
 refine TQ.thenN (hY10 _ _ ?_)
 refine TW.cond rfl (fun hc2 => ?_) (fun hc2 => ?_)
 try simp only [zcb9] at hc2
 have h8 : f = [76] ∧ ms.length = 8 := ⟨hc2.1, by omega⟩
 refine TW.seq fun Y11 hY11 => TW.region ?_
 refine TL.p Pu.mv ?_
 refine TL.cr rfl (enters Tryz.func14 rfl rfl) (fun w hw => by
   exact letterOf_any h8.2 (OwnR.rdr (hw.own pk9))) ?_
 refine TL.p Pu.mv ?_
 refine TL.p Pu.ex ?_
 refine TL.p Pu.ex ?_
 refine TL.m (Mk.al ty_zr51) ?_
 intro b3
 first | refine TL.st ty_sz51 ?_ | refine TL.se ty_sz51 ?_
 refine TL.p Pu.as ?_
 refine TL.nil (TQ.thenN (hY11 _ _ ?_))
 refine TW.seq fun Y12 hY12 => TW.region ?_
 refine TL.p (by first | exact Pu.fb ty_fa25_1 | exact Pu.fe ty_fa25_1) ?_
 refine TL.p (by first | exact (Pu.ld ty_sc23) | exact (Pu.ldo ty_sc23)) ?_
 refine TL.p (by first | exact (Pu.lds ty_ag51) | exact (Pu.ldso ty_ag51)) ?_
 refine TL.m Mk.bl ?_
 intro b4
 refine TL.obn (b := b4) (n := 1) (sz := 8) (r := fun _ => ltL (ltrW ms)) pk9 (by simp [flatR, ltL, ltrW, h8.2]) (fun _ _ => rfl) ?_
 first | refine TL.a0 ty_et23 ?_ | refine TL.ap ty_et23 ?_
 intro A5 c5
 refine TL.p (by first | exact Pu.fb ty_fa25_1 | exact Pu.fe ty_fa25_1) ?_
 first | refine TL.st ty_sz23 ?_ | refine TL.se ty_sz23 ?_
 refine TL.nil (TQ.thenN (hY12 _ _ ?_))
 refine TW.seq fun Y13 hY13 => TW.region ?_
 refine TL.p Pu.mv ?_
 refine TL.p Pu.as ?_
 refine TL.nil (TQ.thenN (hY13 _ _ ?_))
 refine TW.ret ?_
 refine TQ.blkR ?_
 refine TQ.thenR ?_
 refine TQ.ret Tryz.results11 rfl ((.tmp rfl .nil)) ?_
 exact fun w hw => ⟨⟨(lettB ms, ⟨S.R, S.cr, S.rows, A5, c5, S.lets ++ [ltrX ms]⟩), tkB_let hms h300 h8⟩, rfl, by
  show Sat _ _ (bkM b ⟨S.R, S.cr, S.rows, A5, c5, S.lets ++ [ltrX ms]⟩) _
  rw [bkM_let]
  exact hw.sub (KSub.cons pk9 (KSub.cons pk9 (KSub.own pk9 (ltT_app h8.2 rfl) KSub.nil)))⟩
 try simp only [zcb9] at hc2
 have h8 : ¬ (f = [76] ∧ ms.length = 8) := by
  intro h
  rcases hc2 with h1 | h1
  exact h1 h.1
  exact h1 (by omega)
 refine TW.skip ?_
 refine TQ.blkN ?_
 refine TQ.thenN (hY6 _ _ ?_)
 refine TW.seq fun Y14 hY14 => TW.region ?_
 refine TL.p Pu.as ?_
 refine TL.nil (TQ.thenN (hY14 _ _ ?_))
 refine TW.ret ?_
 refine TQ.ret Tryz.results11 rfl ((.tmp rfl .nil)) ?_
 exact fun w hw => ⟨⟨(false, S), tkB_else hms h300 h14 h8 _⟩, rfl, hw.sub ks9⟩
 refine TW.region ?_
 refine TL.p Pu.mv ?_
 refine TL.p (Pu.el (q := 0) ty_et41 (hk := rfl)) ?_
 refine TL.p (Pu.sw (a := (f :: l).getD 0 []) (b := f) (Pu.ld ty_sc9) rfl) ?_
 refine TL.p Pu.seq_ ?_
 refine TL.p Pu.mv ?_
 refine TL.guard (t := 54) rfl (fun hg1 => ?_) (fun hg1 => ?_)
 refine TL.gd Pu.mv ?_
 refine TL.gd (Pu.ln Tryz.underlying42) ?_
 refine TL.gd Pu.eq ?_
 refine TL.p Pu.kt ?_
 refine TL.p Pu.as ?_
 refine TL.nil ?_
 exact TQ.sub (by repeat (first | exact trivial | refine ⟨rfl, ?_⟩ | refine ⟨trivial, ?_⟩ | refine ⟨(by show some (Value.bool _) = some (Value.bool _); first | (simp [hg1]; done) | (refine congrArg (fun z => some (Value.bool z)) (Bool.eq_iff_iff.2 ?_); simp [hg1]; omega)), ?_⟩)) ks9 hJ3
 refine TL.gs ?_
 refine TL.gs ?_
 refine TL.gs ?_
 refine TL.p Pu.kf ?_
 refine TL.p Pu.as ?_
 refine TL.nil ?_
 exact TQ.sub (by repeat (first | exact trivial | refine ⟨rfl, ?_⟩ | refine ⟨trivial, ?_⟩ | refine ⟨(by show some (Value.bool _) = some (Value.bool _); first | (simp [hg1]; done) | (refine congrArg (fun z => some (Value.bool z)) (Bool.eq_iff_iff.2 ?_); simp [hg1]; omega)), ?_⟩)) ks9 hJ3
 refine TW.region ?_
 refine TL.p Pu.mv ?_
 refine TL.p (Pu.el (q := 0) ty_et41 (hk := rfl)) ?_
 refine TL.p (Pu.sw (a := (f :: l).getD 0 []) (b := f) (Pu.ld ty_sc9) rfl) ?_
 refine TL.p Pu.seq_ ?_
 refine TL.p Pu.mv ?_
 refine TL.guard (t := 31) rfl (fun hg2 => ?_) (fun hg2 => ?_)
 refine TL.gd Pu.mv ?_
 refine TL.gd (Pu.ln Tryz.underlying42) ?_
 refine TL.gd Pu.eq ?_
 refine TL.p Pu.kt ?_
 refine TL.p Pu.mv ?_
 refine TL.guard (t := 36) rfl (fun hg3 => ?_) (fun hg3 => ?_)
 refine TL.gd (by first | exact Pu.fb ty_fa25_1 | exact Pu.fe ty_fa25_1) ?_
 refine TL.gd (by first | exact (Pu.ld ty_sc23) | exact (Pu.ldo ty_sc23)) ?_
 refine TL.gd (Pu.ln Tryz.underlying23) ?_
 refine TL.gd Pu.eq ?_
 refine TL.p Pu.kt ?_
 refine TL.p Pu.as ?_
 refine TL.nil ?_
 exact TQ.sub (by repeat (first | exact trivial | refine ⟨rfl, ?_⟩ | refine ⟨trivial, ?_⟩ | refine ⟨(by show some (Value.bool _) = some (Value.bool _); first | (simp [hg2, hg3]; done) | (refine congrArg (fun z => some (Value.bool z)) (Bool.eq_iff_iff.2 ?_); simp [hg2, hg3]; omega)), ?_⟩)) ks9 hJ2
 refine TL.gs ?_
 refine TL.gs ?_
 refine TL.gs ?_
 refine TL.gs ?_
 refine TL.p Pu.kf ?_
 refine TL.p Pu.as ?_
 refine TL.nil ?_
 exact TQ.sub (by repeat (first | exact trivial | refine ⟨rfl, ?_⟩ | refine ⟨trivial, ?_⟩ | refine ⟨(by show some (Value.bool _) = some (Value.bool _); first | (simp [hg2, hg3]; done) | (refine congrArg (fun z => some (Value.bool z)) (Bool.eq_iff_iff.2 ?_); simp [hg2, hg3]; omega)), ?_⟩)) ks9 hJ2
 refine TL.gs ?_
 refine TL.gs ?_
 refine TL.gs ?_
 refine TL.p Pu.kf ?_
 refine TL.p Pu.mv ?_
 refine TL.gs ?_
 refine TL.gs ?_
 refine TL.gs ?_
 refine TL.gs ?_
 refine TL.p Pu.kf ?_
 refine TL.p Pu.as ?_
 refine TL.nil ?_
 exact TQ.sub (by repeat (first | exact trivial | refine ⟨rfl, ?_⟩ | refine ⟨trivial, ?_⟩ | refine ⟨(by show some (Value.bool _) = some (Value.bool _); first | (simp [hg2]; done) | (refine congrArg (fun z => some (Value.bool z)) (Bool.eq_iff_iff.2 ?_); simp [hg2]; omega)), ?_⟩)) ks9 hJ2
 refine TW.region ?_
 refine TL.p Pu.mv ?_
 refine TL.p Pu.no ?_
 refine TL.p Pu.mv ?_
 refine TL.guard (t := 16) rfl (fun hg4 => ?_) (fun hg4 => ?_)
 refine TL.gs ?_
 refine TL.gs ?_
 refine TL.gs ?_
 refine TL.gs ?_
 refine TL.gs ?_
 refine TL.gs ?_
 refine TL.gs ?_
 refine TL.gs ?_
 refine TL.p Pu.kt ?_
 refine TL.nil ?_
 exact TQ.sub (by repeat (first | exact trivial | refine ⟨rfl, ?_⟩ | refine ⟨trivial, ?_⟩ | refine ⟨(by show some (Value.bool _) = some (Value.bool _); first | (simp [hg4]; done) | (refine congrArg (fun z => some (Value.bool z)) (Bool.eq_iff_iff.2 ?_); simp [hg4]; omega)), ?_⟩)) ks9 hJ1
 refine TL.gd (by first | exact Pu.fb ty_fa25_0 | exact Pu.fe ty_fa25_0) ?_
 refine TL.gd (by first | exact (Pu.ld ty_sc22) | exact (Pu.ldo ty_sc22)) ?_
 refine TL.gd (Pu.ln Tryz.underlying22) ?_
 refine TL.gd (by first | exact Pu.fb ty_fa25_1 | exact Pu.fe ty_fa25_1) ?_
 refine TL.gd (by first | exact (Pu.ld ty_sc23) | exact (Pu.ldo ty_sc23)) ?_
 refine TL.gd (Pu.ln Tryz.underlying23) ?_
 refine TL.gd Pu.ad ?_
 refine TL.gd Pu.eq ?_
 refine TL.p Pu.kf ?_
 refine TL.nil ?_
 exact TQ.sub (by repeat (first | exact trivial | refine ⟨rfl, ?_⟩ | refine ⟨trivial, ?_⟩ | refine ⟨(by show some (Value.bool _) = some (Value.bool _); first | (simp [hg4]; done) | (refine congrArg (fun z => some (Value.bool z)) (Bool.eq_iff_iff.2 ?_); simp [hg4]; omega)), ?_⟩)) ks9 hJ1
end
end Go.Proofs.YtfgnbkegdjkdmaaGreatDoor
