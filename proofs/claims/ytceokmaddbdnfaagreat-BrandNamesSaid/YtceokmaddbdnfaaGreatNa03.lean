/-
  Part 3 of the proof of brandNames_holds: declarations of several texts, in build order. No condition on a program.
-/
import Derived.Test.YtceokmaddbdnfaaGreatNa02
import Derived.MapKept
import Derived.Carry
import Derived.Lib.AppendZerosOnto
import Derived.Laws.OwnMore
import Derived.Test.YtceokmaddbdnfaaGreatNa01
namespace Go.Proofs.YtceokmaddbdnfaaGreat
set_option linter.all false
set_option linter.unusedVariables false
set_option linter.unusedSimpArgs false
open Go.RowKit Go.MapKept
def ents (kk : IntKind) : Nat → List (Int × Value) → List MapEntry
 | _, [] => []
 | s, (k, v) :: l => { key := .int kk k, val := v, born := s } :: ents kk (s + 1) l
def mapO (kk : IntKind) (l : List (Int × Value)) : Obj := .map (ents kk 0 l).toArray l.length
def mlook (i : Int) : List (Int × Value) → Option Value
 | [] => none
 | (k, v) :: l => if i = k then some v else mlook i l
def mput (i : Int) (v : Value) : List (Int × Value) → List (Int × Value)
 | [] => [(i, v)]
 | (k, u) :: l => if i = k then (k, v) :: l else (k, u) :: mput i v l
def mfind (i : Int) : Nat → List (Int × Value) → Option (Nat × Value)
 | _, [] => none
 | q, (k, v) :: l => if i = k then some (q, v) else mfind i (q + 1) l
theorem findNow_ents (kk : IntKind) (i : Int) : ∀ (l : List (Int × Value)) (s q : Nat), Instr.findNow (.int kk) (.int kk i) (ents kk s l) q = some (mfind i q l)
  | [], _, _ => rfl
  | (k, v) :: l, s, q => by
    by_cases h : i = k
    · subst h; simp [ents, Instr.findNow, Instr.sameNow, mfind]
    · have hb : (i == k) = false := by simpa using h
      simp [ents, Instr.findNow, Instr.sameNow, mfind, h, hb, findNow_ents kk i l (s + 1) (q + 1)]
theorem mfind_look (i : Int) : ∀ (l : List (Int × Value)) (q : Nat), (mfind i q l).map (·.2) = mlook i l
 | [], _ => rfl
 | (k, v) :: l, q => by
  by_cases h : i = k
  · simp [mfind, mlook, h]
  · simp [mfind, mlook, h, mfind_look i l (q + 1)]
theorem mput_none {i : Int} {v : Value} {kk : IntKind} : ∀ {l : List (Int × Value)} {q s : Nat}, mfind i q l = none → ents kk s (mput i v l) = ents kk s l ++ [{ key := .int kk i, val := v, born := s + l.length }] ∧ (mput i v l).length = l.length + 1
 | [], _, _, _ => ⟨rfl, rfl⟩
 | (k, u) :: l, q, s, h => by
  by_cases hk : i = k
  · simp [mfind, hk] at h
  · simp only [mfind, hk, if_false] at h
    obtain ⟨h1, h2⟩ := mput_none (v := v) (kk := kk) (s := s + 1) h
    simp only [mput, hk, if_false, ents, h1, List.length_cons, h2, List.cons_append, and_true]
    congr 3
    all_goals simp; try omega
theorem mput_some {i : Int} {v u : Value} {kk : IntKind} : ∀ {l : List (Int × Value)} {q s p : Nat}, mfind i q l = some (q + p, u) → (ents kk s (mput i v l)) = (ents kk s l).modify p (fun e => { e with key := .int kk i, val := v }) ∧ (mput i v l).length = l.length ∧ ∃ b, (ents kk s l)[p]? = some { key := .int kk i, val := u, born := b }
 | [], _, _, _, h => by simp [mfind] at h
 | (k, u') :: l, q, s, p, h => by
  by_cases hk : i = k
  · simp [mfind, hk] at h
    obtain ⟨h1, h2⟩ := h
    subst h1 h2 hk
    exact ⟨by simp [mput, ents], by simp [mput], s, by simp [ents]⟩
  · simp only [mfind, hk, if_false] at h
    have hp : 0 < p := by
      rcases Nat.eq_zero_or_pos p with rfl | hp
      · exfalso
        have := mfind_ge h
        omega
      · exact hp
    obtain ⟨p', rfl⟩ : ∃ p', p = p' + 1 := ⟨p - 1, by omega⟩
    rw [show q + (p' + 1) = (q + 1) + p' by omega] at h
    obtain ⟨h1, h2, b, h3⟩ := mput_some (v := v) (kk := kk) (s := s + 1) h
    exact ⟨by simp [mput, hk, ents, h1], by simp [mput, hk, h2], b, by simpa [ents] using h3⟩
where
 mfind_ge {i : Int} {u : Value} : ∀ {l : List (Int × Value)} {q p : Nat}, mfind i q l = some (p, u) → q ≤ p
  | [], _, _, h => by simp [mfind] at h
  | (k, u') :: l, q, p, h => by
    by_cases hk : i = k
    · simp [mfind, hk] at h; omega
    · simp only [mfind, hk, if_false] at h
      have := mfind_ge h
      omega
structure MapT (P : Program) (T kt et : TypeId) (kk : IntKind) : Prop where
 map : P.underlying T = some (.map kt et)
 key : P.underlying kt = some (.int kk)
theorem isKey_int (kk : IntKind) (i : Int) : IsKey (.int kk) (.int kk i) := by simp [IsKey]
theorem run_getObj_o {P : Program} {w : World} {b : Nat} {kk : IntKind} {l : List (Int × Value)} (hb : w.heap[b]? = some (mapO kk l)) : (getObj b).run P w = .ok (.map (ents kk 0 l).toArray l.length) w := by
 unfold mapO at hb
 exact Go.MapKept.run_getObj_map hb
theorem run_setObj_o {P : Program} {w : World} {b : Nat} {kk : IntKind} {l : List (Int × Value)} (o : Obj) (hb : w.heap[b]? = some (mapO kk l)) : (setObj b o).run P w = .ok () { w with heap := w.heap.setIfInBounds b o } := by
 unfold mapO at hb
 exact Go.MapKept.run_setObj_map o hb
theorem run_lookup_o {P : Program} {T kt et : TypeId} {kk : IntKind} {w : World} {b : Nat} {l : List (Int × Value)} {i : Int} {z : Value} (hT : MapT P T kt et kk) (hb : w.heap[b]? = some (mapO kk l)) (hz : (zeroValue et).run P w = .ok z w) (ok : Bool) :
  (Instr.lookup T (.map (some b)) (.int kk i) ok).run P w = .ok (if ok then .tuple #[(mlook i l).getD z, .bool (mlook i l).isSome] else (mlook i l).getD z) w := by
 have h0 := findNow_ents kk i l 0 0
 have hf : (Instr.findKey kt (.int kk i) (ents kk 0 l)).run P w = .ok (mfind i 0 l) w := run_findKey hT.key h0
 have hl := mfind_look i l 0
 unfold Instr.lookup
 simp only [Sem.run_bind, run_underlying hT.map, Result.andThen_ok, run_getObj_o hb, Sem.run_pure, run_checkKey hT.key (isKey_int kk i), hf]
 cases hm : mfind i 0 l with
 | none =>
  rw [hm] at hl
  have hl' : mlook i l = none := by simpa using hl.symm
  simp [hz, hl', Result.andThen_ok]
 | some x =>
  rw [hm] at hl
  have hl' : mlook i l = some x.2 := by simpa using hl.symm
  simp [hl', Result.andThen_ok]
theorem run_mapUpdate_o {P : Program} {T kt et : TypeId} {kk : IntKind} {w : World} {b : Nat} {l : List (Int × Value)} {i : Int} {v : Value} (hT : MapT P T kt et kk) (hb : w.heap[b]? = some (mapO kk l)) :
  (Instr.mapUpdate T (.map (some b)) (.int kk i) v).run P w = .ok () { w with heap := w.heap.setIfInBounds b (mapO kk (mput i v l)) } := by
 have h0 := findNow_ents kk i l 0 0
 have hf : (Instr.findKey kt (.int kk i) (ents kk 0 l)).run P w = .ok (mfind i 0 l) w := run_findKey hT.key h0
 unfold Instr.mapUpdate
 simp only [Sem.run_bind, run_underlying hT.map, Result.andThen_ok, run_getObj_o hb, run_checkKey hT.key (isKey_int kk i), hf]
 cases hm : mfind i 0 l with
 | none =>
  obtain ⟨h1, h2⟩ := mput_none (v := v) (kk := kk) (s := 0) hm
  simp only [run_setObj_o _ hb]
  unfold mapO
  rw [h1, h2]
  simp
 | some x =>
  obtain ⟨p, u⟩ := x
  obtain ⟨h1, h2, c, h3⟩ := mput_some (v := v) (kk := kk) (s := 0) (p := p) (q := 0) (by rw [hm, Nat.zero_add])
  have hk : ((((ents kk 0 l).toArray[p]?).map (·.key)).getD (Value.int kk i)) = .int kk i := by simp [h3]
  have hkeep : (Instr.keyThatStays (.int kk i) (.int kk i)).run P w = .ok (.int kk i) w := by simp [Instr.keyThatStays, Instr.sameBits]
  simp only [hk, hkeep, Sem.run_bind, Result.andThen_ok, run_setObj_o _ hb]
  unfold mapO
  rw [h1, h2]
  simp
section
variable {c : Cx} {Q : Exit → Act → World → Prop} {F F' : Fr} {K K' K0 : List Fact} {ops : Array Oper} {rest : List Oper} {d : Option Tmp} {ty : TypeId} {pos : String} {af : Array Edge} {g : Option (Nat × Bool)} {k fuel t nf : Nat} {pend : List (Nat × Oper)} {listed : Array Bool} {bs : List Bool} {fl : List Fl} {op : Op}
theorem Sat.newObj {S : List Nat} {w0 w : World} (h : Sat S w0 K w) (o : Obj) (ho : o.isCells = false) : Sat S w0 (.obj w.heap.size o :: K) (w.alloc o) :=
 h.add (L := [_]) (Sat.one (Chg.of_ext ((Below.refl _ _).alloc (Nat.le_refl _) _)) (by simp [Fact.foot]) (fun b hb => by simp [Fact.foot] at hb; subst hb; exact .inr (Nat.le_refl _)) ⟨(heap_alloc w o).1, ho⟩)
theorem TL.mm {T : TypeId} {kk : IntKind} (h : ∀ b, TL c ops Q rest ((t, .map (some b)) :: F) (.obj b (mapO kk []) :: K)) (hd : Nat.blt t c.n = true := by rfl) : TL c ops Q (⟨some t, .makeMap T none, ty, pos, af, none⟩ :: rest) F K := fun a w hF hK =>
 wpList_plain rfl fun Z hZ => by
  have hr : (execOp a.eval ⟨some t, .makeMap T none, ty, pos, af, none⟩).run c.P w = .ok (.value (.map (some w.heap.size))) (w.alloc (.map #[] 0)) := by
   simp [execOp, run_makeMap]
  unfold Oper.wp
  rw [hr]
  exact hZ _ _ (h _ _ _ (hF.put hd _) (hK.newObj _ rfl))
theorem TL.mu {m x y : Operand} {T kt et : TypeId} {kk : IntKind} {b : Nat} {i : Int} {v : Value} {l : List (Int × Value)} (hT : MapT c.P T kt et kk) (h : TL c ops Q rest F (.obj b (mapO kk (mput i v l)) :: K')) (hm : ev F m = some (.map (some b)) := by rfl) (hx : ev F x = some (.int kk i) := by rfl) (hy : ev F y = some v := by rfl)
    (hp : Pick K (.obj b (mapO kk l)) K' := by repeat (first | exact Pick.hd | apply Pick.tl)) : TL c ops Q (⟨none, .mapUpdate T m x y, ty, pos, af, none⟩ :: rest) F K := fun a w hF hK => by
  have hs := hK.pick hp
  have hb : w.heap[b]? = some (mapO kk l) := (hs.holds (.obj b (mapO kk l)) (by simp)).1
  have hr := run_mapUpdate_o (i := i) (v := v) hT hb
  refine wpList_skip rfl (w' := { w with heap := w.heap.setIfInBounds b (mapO kk (mput i v l)) }) ?_ (h a _ hF (hs.turn ?_ (by simp [Fact.foot]) (fun q hq => .inl hq) ⟨(heap_set hb).1, rfl⟩))
  · simp [execOp, hF.evl hm, hF.evl hx, hF.evl hy, hr]
  · exact ⟨rfl, rfl, rfl, by simp, fun q _ hq => (heap_set hb).2 q (by simpa [Fact.foot] using hq)⟩
theorem Pu.lk {x y : Operand} {T kt et : TypeId} {kk : IntKind} {b : Nat} {i : Int} {z : Value} {l : List (Int × Value)} (hT : MapT c.P T kt et kk) (hz : ∀ w, (zeroValue et).run c.P w = .ok z w) (hx : ev F x = some (.map (some b)) := by rfl) (hy : ev F y = some (.int kk i) := by rfl)
    (hp : Pick K (.obj b (mapO kk l)) K' := by repeat (first | exact Pick.hd | apply Pick.tl)) : Pu c F K ⟨d, .lookup T x y true, ty, pos, af, g⟩ (.tuple #[(mlook i l).getD z, .bool (mlook i l).isSome]) := fun a w hF hK => by
  have hb : w.heap[b]? = some (mapO kk l) := (hK.holds _ hp.mem).1
  have hr := run_lookup_o (i := i) hT hb (hz w) true
  simp [execOp, hF.evl hx, hF.evl hy, hr]
end
end Go.Proofs.YtceokmaddbdnfaaGreat
namespace Go.Proofs.YtceokmaddbdnfaaGreat
set_option linter.all false
set_option linter.unusedVariables false
set_option linter.unusedSimpArgs false
open Go.RowKit
theorem flat_take {sz : Nat} {f : Nat → Nat → Value} : ∀ {n m : Nat}, m ≤ n → (flat sz n f).take (m * sz) = flat sz m f
  | 0, m, h => by
    have : m = 0 := by omega
    subst this
    simp [flat]
  | n + 1, m, h => by
    by_cases hm : m = n + 1
    · subst hm
      exact List.take_of_length_le (by rw [flat_length]; exact Nat.le_refl _)
    · rw [flat_succ, List.take_append_of_le_length (by rw [flat_length]; exact Nat.mul_le_mul_right sz (by omega))]
      exact flat_take (by omega)
theorem own_feet {A : Option Addr} {n m cp : Nat} {E : TypeId} {sz : Nat} {r s : Nat → List Value} {K : List Fact} : feet (.own A n cp E sz r :: K) = feet (.own A m cp E sz s :: K) := by
 cases A <;> rfl
theorem OwnR.take {w : World} {A : Option Addr} {n m cp : Nat} {E : TypeId} {sz : Nat} {r : Nat → List Value} (h : OwnR w A n cp E sz r) (hm : m ≤ n) : OwnR w A m cp E sz r := by
 refine ⟨?_, fun i hi => h.len i (by omega)⟩
 rcases h.own.2 with ⟨e, h0⟩ | ⟨g, cap, cur, e, hg, hh, hnc, hcm, hcs, ht⟩
 · injection e with e1 e2 e3
   subst e1 e2 e3
   have : m = 0 := by omega
   subst this
   exact h.own
 · injection e with e1 e2 e3
   subst e1 e3
   refine ⟨by simp [flat_length], .inr ⟨g, cp, cur, rfl, hg, hh, by omega, hcm, hcs, ?_⟩⟩
   have h2 : (cur.toList.take (n * sz)).take (m * sz) = (flat sz n (rowF r)).take (m * sz) := by rw [ht]
   rw [List.take_take, Nat.min_eq_left (Nat.mul_le_mul_right sz hm)] at h2
   rw [h2]
   exact flat_take hm
theorem KSub.drop {φ : Fact} : ∀ {K L : List Fact}, KSub K L → KSub (φ :: K) L
 | _, _, .nil => .nil
 | _, _, .nilOwn h => .nilOwn (KSub.drop h)
 | _, _, .cons hp h => .cons (.tl hp) (KSub.drop h)
 | _, _, .own hp hr h => .own (.tl hp) hr (KSub.drop h)
 | _, _, .ofBlk hp h1 h2 h3 h4 h => .ofBlk (.tl hp) h1 h2 h3 h4 (KSub.drop h)
section
variable {c : Cx} {Q : Exit → Act → World → Prop} {F F' : Fr} {K K' K0 : List Fact} {ops : Array Oper} {rest : List Oper} {d : Option Tmp} {ty : TypeId} {pos : String} {af : Array Edge} {g : Option (Nat × Bool)} {t : Nat}
theorem Pu.sh {T E : TypeId} {sz bytes : Nat} {x y : Operand} {A : Option Addr} {n cp q : Nat} {i : Int} (hT : ElemT c.P T E sz bytes) (hx : ev F x = some (.slice A n cp) := by rfl) (hy : ev F y = some (.int .i64 i) := by rfl) (hk : i.toNat = q := by first | exact tnS _ | exact Int.toNat_natCast _ | rfl) (h0 : 0 ≤ i := by omega) (h1 : i ≤ cp := by omega) : Pu c F K ⟨d, .slice T x none (some y) none, ty, pos, af, g⟩ (.slice A q cp) := fun a w hF _ => by
 obtain ⟨i', z, hi, hz, hs, hb, hzs⟩ := hT.hi
 have hsz : (sizeOf E).run c.P w = .ok sz w := by simp [sizeOf, typeInfo, hi, hs]
 have hA : A.map (fun x => x.add 0) = A := by
  cases A with
  | none => rfl
  | some p => simp [Addr.add]
 subst hk
 simp [execOp, Instr.sliceAt, Instr.slice, hF.evl hx, hF.evl hy, run_underlying hT.ht, Instr.sliceBounds, Instr.sliceBound, asIntOf, h0, h1, hsz, hA]
theorem TL.take {A : Option Addr} {n m cp : Nat} {E : TypeId} {sz : Nat} {r : Nat → List Value} (hp : Pick K (.own A n cp E sz r) K') (hm : m ≤ n) (h : TL c ops Q rest F (.own A m cp E sz r :: K')) : TL c ops Q rest F K := fun a w hF hK => by
 have hs := hK.pick hp
 have hb : OwnR w A n cp E sz r := hs.holds (.own A n cp E sz r) (by simp)
 refine h a w hF ⟨hs.chg, by rw [own_feet]; exact hs.nd, by rw [own_feet]; exact hs.ge, fun φ hφ => ?_⟩
 rcases List.mem_cons.1 hφ with rfl | hφ
 · exact hb.take hm
 · exact hs.holds φ (by simp [hφ])
theorem made_flat {z : Array Value} {sz : Nat} (hz : z.size = sz) (hp : 0 < sz) (n : Nat) : (madeCells z (n * sz)).toList = flat sz n (rowF fun _ => z.toList) := by
 refine List.ext_getElem (by simp [madeCells, flat_length]) fun q h1 h2 => ?_
 have hq : q < n * sz := by simpa [flat_length] using h2
 have hdiv : q / sz < n := Nat.div_lt_of_lt_mul (by rw [Nat.mul_comm]; exact hq)
 have hmod : q % sz < sz := Nat.mod_lt _ hp
 have hg := flat_get (f := rowF fun _ => z.toList) hdiv hmod
 rw [Nat.mul_comm (q / sz), Nat.div_add_mod] at hg
 have h3 : (flat sz n (rowF fun _ => z.toList))[q]? = some ((flat sz n (rowF fun _ => z.toList))[q]) := List.getElem?_eq_getElem h2
 rw [hg] at h3
 injection h3 with h3
 rw [← h3]
 subst hz
 simp [madeCells, rowF, List.getD_eq_getElem?_getD, hmod]
theorem TL.ms {T E : TypeId} {sz bytes : Nat} {x y : Operand} {i : Int} {k : Nat} {zs : List Value} {kl kc : IntKind} (hT : ElemT c.P T E sz bytes) (hZ : Zr c.P E zs) (h : ∀ b, TL c ops Q rest (fput F d (.slice (some ⟨b, 0, none⟩) k k)) (.own (some ⟨b, 0, none⟩) k k E sz (fun _ => zs) :: K)) (hx : ev F x = some (.int kl i) := by rfl) (hy : ev F y = some (.int kc i) := by rfl) (hk : i.toNat = k := by first | exact Int.toNat_natCast _ | rfl) (h0 : 0 ≤ i := by omega) (h1 : i ≤ 1000000000 := by omega) (hby : bytes ≤ 10000 := by decide) (hd : dok d c.n = true := by rfl) :
    TL c ops Q (⟨d, .makeSlice T x y, ty, pos, af, none⟩ :: rest) F K := fun a w hF hK =>
  wpList_plain rfl fun Z hZ' => by
    subst hk
    obtain ⟨i', z, hi, hz, hs, hb, hzs⟩ := hT.hi
    obtain ⟨k, rfl⟩ : ∃ k : Nat, i = (k : Int) := ⟨i.toNat, by omega⟩
    simp only [Int.toNat_natCast] at *
    have hkb : bytes * k ≤ 10000 * 1000000000 := Nat.mul_le_mul hby (by omega)
    obtain ⟨w', hr, hown, hgr⟩ := run_make_full (P := c.P) w 0 T E i' z sz hT.ht hi hz hs kl kc k (by rw [hb]; omega) (by simp only [maxLen]; omega) (Nat.zero_le _)
    have hr2 : (execOp a.eval ⟨d, .makeSlice T x y, ty, pos, af, none⟩).run c.P w = .ok (.value (.slice (some ⟨w.heap.size, 0, none⟩) k k)) w' := by
      simp only [execOp, hF.evl hx, hF.evl hy, Sem.run_bind, hr, Result.andThen_ok, Sem.run_pure]
    unfold Oper.wp
    rw [hr2]
    have hzc : z.cells.toList = zs := by
      obtain ⟨z', h2, h3⟩ := hZ
      have h4 := h3 w
      simp [zeroValue, typeInfo, hi, hz] at h4
      rw [h4, h2]
    refine hZ' _ _ (h _ _ _ (hF.fput hd _) ?_)
    have hO : OwnR w' (some ⟨w.heap.size, 0, none⟩) k k E sz (fun _ => zs) := by
      refine ⟨?_, fun q _ => by rw [← hzc]; simpa using hzs⟩
      have := hown
      rw [made_flat hzs hT.pos, hzc] at this
      exact this
    exact hK.add (L := [_]) (Sat.one (Chg.grown hgr) (by simp [Fact.foot]) (fun b hb => by simp [Fact.foot] at hb; subst hb; exact .inr (Nat.le_refl _)) hO)
theorem TL.ob {b : Nat} {E : TypeId} {sz : Nat} {r : Nat → List Value} (hp : Pick K (.blk b E []) K') (hz : Nat.blt 0 sz = true) (h : TL c ops Q rest F (.own (some ⟨b, 0, none⟩) 0 0 E sz r :: K')) : TL c ops Q rest F K := fun a w hF hK => by
 have hs := hK.pick hp
 have hb : Blk w b E #[] := hs.holds (.blk b E []) (by simp)
 have ho : OwnR w (some ⟨b, 0, none⟩) 0 0 E sz r := OwnR.of_blk (cs := []) hb rfl (fun _ h => by omega) hz rfl
 refine h a w hF ⟨hs.chg, hs.nd, hs.ge, fun φ hφ => ?_⟩
 rcases List.mem_cons.1 hφ with rfl | hφ
 · exact ho
 · exact hs.holds φ (by simp [hφ])
end
end Go.Proofs.YtceokmaddbdnfaaGreat
namespace Go.Proofs.YtceokmaddbdnfaaGreat
set_option linter.all false
set_option linter.unusedVariables false
set_option linter.unusedSimpArgs false
open Go.RowKit
theorem ty_i3 : (Tryz.prog.info? 3).map (fun i => (i.zero, i.size, i.bytes)) = some (some (.int .i64 0), 1, 8) := by kernel_rfl
theorem ty_sz3 : Sz Tryz.prog 3 1 := fun w => by obtain ⟨i, h1, h2, h3, h4⟩ := info_parts ty_i3; simp [sizeOf, typeInfo, h1, h3]
theorem ty_zr3 : Zr Tryz.prog 3 [.int .i64 0] := ⟨.int .i64 0, rfl, fun w => by obtain ⟨i, h1, h2, h3, h4⟩ := info_parts ty_i3; simp [zeroValue, typeInfo, h1, h2]⟩
theorem ty_sc3 : Sc Tryz.prog 3 := fun w => by simp [isAgg, run_underlying Tryz.underlying3]
theorem ty_i4 : (Tryz.prog.info? 4).map (fun i => (i.zero, i.size, i.bytes)) = some (some (.bool false), 1, 1) := by kernel_rfl
theorem ty_sz4 : Sz Tryz.prog 4 1 := fun w => by obtain ⟨i, h1, h2, h3, h4⟩ := info_parts ty_i4; simp [sizeOf, typeInfo, h1, h3]
theorem ty_zr4 : Zr Tryz.prog 4 [.bool false] := ⟨.bool false, rfl, fun w => by obtain ⟨i, h1, h2, h3, h4⟩ := info_parts ty_i4; simp [zeroValue, typeInfo, h1, h2]⟩
theorem ty_sc4 : Sc Tryz.prog 4 := fun w => by simp [isAgg, run_underlying Tryz.underlying4]
theorem ty_i22 : (Tryz.prog.info? 22).map (fun i => (i.zero, i.size, i.bytes)) = some (some (.slice none 0 0), 1, 24) := by kernel_rfl
theorem ty_sz22 : Sz Tryz.prog 22 1 := fun w => by obtain ⟨i, h1, h2, h3, h4⟩ := info_parts ty_i22; simp [sizeOf, typeInfo, h1, h3]
theorem ty_sc22 : Sc Tryz.prog 22 := fun w => by simp [isAgg, run_underlying Tryz.underlying22]
theorem ty_i23 : (Tryz.prog.info? 23).map (fun i => (i.zero, i.size, i.bytes)) = some (some (.slice none 0 0), 1, 24) := by kernel_rfl
theorem ty_sz23 : Sz Tryz.prog 23 1 := fun w => by obtain ⟨i, h1, h2, h3, h4⟩ := info_parts ty_i23; simp [sizeOf, typeInfo, h1, h3]
theorem ty_sc23 : Sc Tryz.prog 23 := fun w => by simp [isAgg, run_underlying Tryz.underlying23]
theorem ty_i25 : (Tryz.prog.info? 25).map (fun i => (i.zero, i.size, i.bytes)) = some (some (.agg #[.int .i64 0, .int .i64 0]), 2, 16) := by kernel_rfl
theorem ty_sz25 : Sz Tryz.prog 25 2 := fun w => by obtain ⟨i, h1, h2, h3, h4⟩ := info_parts ty_i25; simp [sizeOf, typeInfo, h1, h3]
theorem ty_zr25 : Zr Tryz.prog 25 [.int .i64 0, .int .i64 0] := ⟨.agg #[.int .i64 0, .int .i64 0], rfl, fun w => by obtain ⟨i, h1, h2, h3, h4⟩ := info_parts ty_i25; simp [zeroValue, typeInfo, h1, h2]⟩
theorem ty_ag25 : Ag Tryz.prog 25 2 := ⟨fun w => by simp [isAgg, run_underlying Tryz.underlying25], ty_sz25⟩
theorem ty_fa25_0 : FieldAt Tryz.prog 25 0 0 := fieldAt_of 0 0 3 1 Tryz.underlying25 (by kernel_rfl) ty_sz3 (by kernel_rfl)
theorem ty_fa25_1 : FieldAt Tryz.prog 25 1 1 := fieldAt_of 1 1 3 1 Tryz.underlying25 (by kernel_rfl) ty_sz3 (by kernel_rfl)
theorem ty_i27 : (Tryz.prog.info? 27).map (fun i => (i.zero, i.size, i.bytes)) = some (some (.agg #[.slice none 0 0, .int .i64 0, .int .i64 0, .int .i64 0]), 4, 48) := by kernel_rfl
theorem ty_sz27 : Sz Tryz.prog 27 4 := fun w => by obtain ⟨i, h1, h2, h3, h4⟩ := info_parts ty_i27; simp [sizeOf, typeInfo, h1, h3]
theorem ty_ag27 : Ag Tryz.prog 27 4 := ⟨fun w => by simp [isAgg, run_underlying Tryz.underlying27], ty_sz27⟩
theorem ty_fa27_0 : FieldAt Tryz.prog 27 0 0 := fieldAt_of 0 0 23 1 Tryz.underlying27 (by kernel_rfl) ty_sz23 (by kernel_rfl)
theorem ty_fa27_1 : FieldAt Tryz.prog 27 1 1 := fieldAt_of 1 1 3 1 Tryz.underlying27 (by kernel_rfl) ty_sz3 (by kernel_rfl)
theorem ty_fa27_2 : FieldAt Tryz.prog 27 2 2 := fieldAt_of 2 2 25 2 Tryz.underlying27 (by kernel_rfl) ty_sz25 (by kernel_rfl)
theorem ty_sc28 : Sc Tryz.prog 28 := fun w => by simp [isAgg, run_underlying Tryz.underlying28]
theorem ty_sc29 : Sc Tryz.prog 29 := fun w => by simp [isAgg, run_underlying Tryz.underlying29]
theorem ty_i33 : (Tryz.prog.info? 33).map (fun i => (i.zero, i.size, i.bytes)) = some (some (.slice none 0 0), 1, 24) := by kernel_rfl
theorem ty_sz33 : Sz Tryz.prog 33 1 := fun w => by obtain ⟨i, h1, h2, h3, h4⟩ := info_parts ty_i33; simp [sizeOf, typeInfo, h1, h3]
theorem ty_zr33 : Zr Tryz.prog 33 [.slice none 0 0] := ⟨.slice none 0 0, rfl, fun w => by obtain ⟨i, h1, h2, h3, h4⟩ := info_parts ty_i33; simp [zeroValue, typeInfo, h1, h2]⟩
theorem ty_sc33 : Sc Tryz.prog 33 := fun w => by simp [isAgg, run_underlying Tryz.underlying33]
theorem ty_i34 : (Tryz.prog.info? 34).map (fun i => (i.zero, i.size, i.bytes)) = some (some (.int .i64 0), 1, 8) := by kernel_rfl
theorem ty_sz34 : Sz Tryz.prog 34 1 := fun w => by obtain ⟨i, h1, h2, h3, h4⟩ := info_parts ty_i34; simp [sizeOf, typeInfo, h1, h3]
theorem ty_zr34 : Zr Tryz.prog 34 [.int .i64 0] := ⟨.int .i64 0, rfl, fun w => by obtain ⟨i, h1, h2, h3, h4⟩ := info_parts ty_i34; simp [zeroValue, typeInfo, h1, h2]⟩
theorem ty_sc34 : Sc Tryz.prog 34 := fun w => by simp [isAgg, run_underlying Tryz.underlying34]
theorem ty_i39 : (Tryz.prog.info? 39).map (fun i => (i.zero, i.size, i.bytes)) = some (some (.slice none 0 0), 1, 24) := by kernel_rfl
theorem ty_sz39 : Sz Tryz.prog 39 1 := fun w => by obtain ⟨i, h1, h2, h3, h4⟩ := info_parts ty_i39; simp [sizeOf, typeInfo, h1, h3]
theorem ty_zr39 : Zr Tryz.prog 39 [.slice none 0 0] := ⟨.slice none 0 0, rfl, fun w => by obtain ⟨i, h1, h2, h3, h4⟩ := info_parts ty_i39; simp [zeroValue, typeInfo, h1, h2]⟩
theorem ty_sc39 : Sc Tryz.prog 39 := fun w => by simp [isAgg, run_underlying Tryz.underlying39]
theorem ty_i50 : (Tryz.prog.info? 50).map (fun i => (i.zero, i.size, i.bytes)) = some (some (.agg #[.int .i64 0, .int .i64 0]), 2, 16) := by kernel_rfl
theorem ty_sz50 : Sz Tryz.prog 50 2 := fun w => by obtain ⟨i, h1, h2, h3, h4⟩ := info_parts ty_i50; simp [sizeOf, typeInfo, h1, h3]
theorem ty_zr50 : Zr Tryz.prog 50 [.int .i64 0, .int .i64 0] := ⟨.agg #[.int .i64 0, .int .i64 0], rfl, fun w => by obtain ⟨i, h1, h2, h3, h4⟩ := info_parts ty_i50; simp [zeroValue, typeInfo, h1, h2]⟩
theorem ty_ag50 : Ag Tryz.prog 50 2 := ⟨fun w => by simp [isAgg, run_underlying Tryz.underlying50], ty_sz50⟩
theorem ty_q2_50 : Eq2 Tryz.prog 50 := fun w x y i j m n => by
 by_cases h1 : i = m
 · by_cases h2 : j = n
   · subst h1 h2; go_simp
   · subst h1; go_simp
 · by_cases h2 : j = n
   · subst h2; go_simp
   · go_simp
theorem ty_fa50_0 : FieldAt Tryz.prog 50 0 0 := fieldAt_of 0 0 3 1 Tryz.underlying50 (by kernel_rfl) ty_sz3 (by kernel_rfl)
theorem ty_fa50_1 : FieldAt Tryz.prog 50 1 1 := fieldAt_of 1 1 3 1 Tryz.underlying50 (by kernel_rfl) ty_sz3 (by kernel_rfl)
theorem ty_i53 : (Tryz.prog.info? 53).map (fun i => (i.zero, i.size, i.bytes)) = some (some (.int .u32 0), 1, 4) := by kernel_rfl
theorem ty_sc53 : Sc Tryz.prog 53 := fun w => by simp [isAgg, run_underlying Tryz.underlying53]
theorem ty_i57 : (Tryz.prog.info? 57).map (fun i => (i.zero, i.size, i.bytes)) = some (some (.slice none 0 0), 1, 24) := by kernel_rfl
theorem ty_sz57 : Sz Tryz.prog 57 1 := fun w => by obtain ⟨i, h1, h2, h3, h4⟩ := info_parts ty_i57; simp [sizeOf, typeInfo, h1, h3]
theorem ty_zr57 : Zr Tryz.prog 57 [.slice none 0 0] := ⟨.slice none 0 0, rfl, fun w => by obtain ⟨i, h1, h2, h3, h4⟩ := info_parts ty_i57; simp [zeroValue, typeInfo, h1, h2]⟩
theorem ty_sc57 : Sc Tryz.prog 57 := fun w => by simp [isAgg, run_underlying Tryz.underlying57]
theorem ty_i60 : (Tryz.prog.info? 60).map (fun i => (i.zero, i.size, i.bytes)) = some (some (.map none), 1, 8) := by kernel_rfl
theorem ty_sz60 : Sz Tryz.prog 60 1 := fun w => by obtain ⟨i, h1, h2, h3, h4⟩ := info_parts ty_i60; simp [sizeOf, typeInfo, h1, h3]
theorem ty_sc60 : Sc Tryz.prog 60 := fun w => by simp [isAgg, run_underlying Tryz.underlying60]
theorem ty_i63 : (Tryz.prog.info? 63).map (fun i => (i.zero, i.size, i.bytes)) = some (some (.slice none 0 0), 1, 24) := by kernel_rfl
theorem ty_sz63 : Sz Tryz.prog 63 1 := fun w => by obtain ⟨i, h1, h2, h3, h4⟩ := info_parts ty_i63; simp [sizeOf, typeInfo, h1, h3]
theorem ty_sc63 : Sc Tryz.prog 63 := fun w => by simp [isAgg, run_underlying Tryz.underlying63]
theorem ty_i65 : (Tryz.prog.info? 65).map (fun i => (i.zero, i.size, i.bytes)) = some (some (.agg #[.int .i64 0, .int .i64 0, .int .i64 0, .int .i64 0, .slice none 0 0]), 5, 56) := by kernel_rfl
theorem ty_sz65 : Sz Tryz.prog 65 5 := fun w => by obtain ⟨i, h1, h2, h3, h4⟩ := info_parts ty_i65; simp [sizeOf, typeInfo, h1, h3]
theorem ty_zr65 : Zr Tryz.prog 65 [.int .i64 0, .int .i64 0, .int .i64 0, .int .i64 0, .slice none 0 0] := ⟨.agg #[.int .i64 0, .int .i64 0, .int .i64 0, .int .i64 0, .slice none 0 0], rfl, fun w => by obtain ⟨i, h1, h2, h3, h4⟩ := info_parts ty_i65; simp [zeroValue, typeInfo, h1, h2]⟩
theorem ty_ag65 : Ag Tryz.prog 65 5 := ⟨fun w => by simp [isAgg, run_underlying Tryz.underlying65], ty_sz65⟩
theorem ty_fa65_0 : FieldAt Tryz.prog 65 0 0 := fieldAt_of 0 0 3 1 Tryz.underlying65 (by kernel_rfl) ty_sz3 (by kernel_rfl)
theorem ty_fa65_1 : FieldAt Tryz.prog 65 1 1 := fieldAt_of 1 1 3 1 Tryz.underlying65 (by kernel_rfl) ty_sz3 (by kernel_rfl)
theorem ty_fa65_2 : FieldAt Tryz.prog 65 2 2 := fieldAt_of 2 2 25 2 Tryz.underlying65 (by kernel_rfl) ty_sz25 (by kernel_rfl)
theorem ty_fa65_3 : FieldAt Tryz.prog 65 3 4 := fieldAt_of 3 4 63 1 Tryz.underlying65 (by kernel_rfl) ty_sz63 (by kernel_rfl)
theorem ty_i97 : (Tryz.prog.info? 97).map (fun i => (i.zero, i.size, i.bytes)) = some (some (.agg #[.int .i64 0, .int .i64 0]), 2, 16) := by kernel_rfl
theorem ty_sz97 : Sz Tryz.prog 97 2 := fun w => by obtain ⟨i, h1, h2, h3, h4⟩ := info_parts ty_i97; simp [sizeOf, typeInfo, h1, h3]
theorem ty_zr97 : Zr Tryz.prog 97 [.int .i64 0, .int .i64 0] := ⟨.agg #[.int .i64 0, .int .i64 0], rfl, fun w => by obtain ⟨i, h1, h2, h3, h4⟩ := info_parts ty_i97; simp [zeroValue, typeInfo, h1, h2]⟩
theorem ty_ag97 : Ag Tryz.prog 97 2 := ⟨fun w => by simp [isAgg, run_underlying Tryz.underlying97], ty_sz97⟩
theorem ty_fa97_0 : FieldAt Tryz.prog 97 0 0 := fieldAt_of 0 0 3 1 Tryz.underlying97 (by kernel_rfl) ty_sz3 (by kernel_rfl)
theorem ty_fa97_1 : FieldAt Tryz.prog 97 1 1 := fieldAt_of 1 1 3 1 Tryz.underlying97 (by kernel_rfl) ty_sz3 (by kernel_rfl)
theorem ty_i100 : (Tryz.prog.info? 100).map (fun i => (i.zero, i.size, i.bytes)) = some (some (.pointer none), 1, 8) := by kernel_rfl
theorem ty_sz100 : Sz Tryz.prog 100 1 := fun w => by obtain ⟨i, h1, h2, h3, h4⟩ := info_parts ty_i100; simp [sizeOf, typeInfo, h1, h3]
theorem ty_zr100 : Zr Tryz.prog 100 [.pointer none] := ⟨.pointer none, rfl, fun w => by obtain ⟨i, h1, h2, h3, h4⟩ := info_parts ty_i100; simp [zeroValue, typeInfo, h1, h2]⟩
theorem ty_sc100 : Sc Tryz.prog 100 := fun w => by simp [isAgg, run_underlying Tryz.underlying100]
theorem ty_i104 : (Tryz.prog.info? 104).map (fun i => (i.zero, i.size, i.bytes)) = some (some (.slice none 0 0), 1, 24) := by kernel_rfl
theorem ty_sz104 : Sz Tryz.prog 104 1 := fun w => by obtain ⟨i, h1, h2, h3, h4⟩ := info_parts ty_i104; simp [sizeOf, typeInfo, h1, h3]
theorem ty_sc104 : Sc Tryz.prog 104 := fun w => by simp [isAgg, run_underlying Tryz.underlying104]
theorem ty_fa106_0 : FieldAt Tryz.prog 106 0 0 := fieldAt_of 0 0 22 1 Tryz.underlying106 (by kernel_rfl) ty_sz22 (by kernel_rfl)
theorem ty_fa106_1 : FieldAt Tryz.prog 106 1 1 := fieldAt_of 1 1 60 1 Tryz.underlying106 (by kernel_rfl) ty_sz60 (by kernel_rfl)
theorem ty_fa106_2 : FieldAt Tryz.prog 106 2 2 := fieldAt_of 2 2 33 1 Tryz.underlying106 (by kernel_rfl) ty_sz33 (by kernel_rfl)
theorem ty_fa106_3 : FieldAt Tryz.prog 106 3 3 := fieldAt_of 3 3 104 1 Tryz.underlying106 (by kernel_rfl) ty_sz104 (by kernel_rfl)
theorem ty_i108 : (Tryz.prog.info? 108).map (fun i => (i.zero, i.size, i.bytes)) = some (some (.agg #[.int .i64 0, .int .i64 0, .int .i64 0, .int .i64 0, .int .i64 0, .int .i64 0, .int .i64 0, .int .i64 0]), 8, 64) := by kernel_rfl
theorem ty_sz108 : Sz Tryz.prog 108 8 := fun w => by obtain ⟨i, h1, h2, h3, h4⟩ := info_parts ty_i108; simp [sizeOf, typeInfo, h1, h3]
theorem ty_zr108 : Zr Tryz.prog 108 [.int .i64 0, .int .i64 0, .int .i64 0, .int .i64 0, .int .i64 0, .int .i64 0, .int .i64 0, .int .i64 0] := ⟨.agg #[.int .i64 0, .int .i64 0, .int .i64 0, .int .i64 0, .int .i64 0, .int .i64 0, .int .i64 0, .int .i64 0], rfl, fun w => by obtain ⟨i, h1, h2, h3, h4⟩ := info_parts ty_i108; simp [zeroValue, typeInfo, h1, h2]⟩
theorem ty_ag108 : Ag Tryz.prog 108 8 := ⟨fun w => by simp [isAgg, run_underlying Tryz.underlying108], ty_sz108⟩
theorem ty_i115 : (Tryz.prog.info? 115).map (fun i => (i.zero, i.size, i.bytes)) = some (some (.nilFunc), 1, 8) := by kernel_rfl
theorem ty_sz115 : Sz Tryz.prog 115 1 := fun w => by obtain ⟨i, h1, h2, h3, h4⟩ := info_parts ty_i115; simp [sizeOf, typeInfo, h1, h3]
theorem ty_zr115 : Zr Tryz.prog 115 [.nilFunc] := ⟨.nilFunc, rfl, fun w => by obtain ⟨i, h1, h2, h3, h4⟩ := info_parts ty_i115; simp [zeroValue, typeInfo, h1, h2]⟩
theorem ty_sc115 : Sc Tryz.prog 115 := fun w => by simp [isAgg, run_underlying Tryz.underlying115]
theorem ty_i118 : (Tryz.prog.info? 118).map (fun i => (i.zero, i.size, i.bytes)) = some (some (.nilFunc), 1, 8) := by kernel_rfl
theorem ty_sz118 : Sz Tryz.prog 118 1 := fun w => by obtain ⟨i, h1, h2, h3, h4⟩ := info_parts ty_i118; simp [sizeOf, typeInfo, h1, h3]
theorem ty_zr118 : Zr Tryz.prog 118 [.nilFunc] := ⟨.nilFunc, rfl, fun w => by obtain ⟨i, h1, h2, h3, h4⟩ := info_parts ty_i118; simp [zeroValue, typeInfo, h1, h2]⟩
theorem ty_sc118 : Sc Tryz.prog 118 := fun w => by simp [isAgg, run_underlying Tryz.underlying118]
theorem ty_i124 : (Tryz.prog.info? 124).map (fun i => (i.zero, i.size, i.bytes)) = some (some (.slice none 0 0), 1, 24) := by kernel_rfl
theorem ty_sz124 : Sz Tryz.prog 124 1 := fun w => by obtain ⟨i, h1, h2, h3, h4⟩ := info_parts ty_i124; simp [sizeOf, typeInfo, h1, h3]
theorem ty_zr124 : Zr Tryz.prog 124 [.slice none 0 0] := ⟨.slice none 0 0, rfl, fun w => by obtain ⟨i, h1, h2, h3, h4⟩ := info_parts ty_i124; simp [zeroValue, typeInfo, h1, h2]⟩
theorem ty_sc124 : Sc Tryz.prog 124 := fun w => by simp [isAgg, run_underlying Tryz.underlying124]
theorem ty_et22 : ElemT Tryz.prog 22 65 5 56 := elemT (z := .agg #[.int .i64 0, .int .i64 0, .int .i64 0, .int .i64 0, .slice none 0 0]) Tryz.underlying22 ty_i65 rfl (by decide)
theorem ty_et23 : ElemT Tryz.prog 23 53 1 4 := elemT (z := .int .u32 0) Tryz.underlying23 ty_i53 rfl (by decide)
theorem ty_et28 : ElemT Tryz.prog 28 27 4 48 := elemT (z := .agg #[.slice none 0 0, .int .i64 0, .int .i64 0, .int .i64 0]) Tryz.underlying28 ty_i27 rfl (by decide)
theorem ty_et29 : ElemT Tryz.prog 29 50 2 16 := elemT (z := .agg #[.int .i64 0, .int .i64 0]) Tryz.underlying29 ty_i50 rfl (by decide)
theorem ty_et33 : ElemT Tryz.prog 33 3 1 8 := elemT (z := .int .i64 0) Tryz.underlying33 ty_i3 rfl (by decide)
theorem ty_et39 : ElemT Tryz.prog 39 33 1 24 := elemT (z := .slice none 0 0) Tryz.underlying39 ty_i33 rfl (by decide)
theorem ty_et57 : ElemT Tryz.prog 57 25 2 16 := elemT (z := .agg #[.int .i64 0, .int .i64 0]) Tryz.underlying57 ty_i25 rfl (by decide)
theorem ty_et63 : ElemT Tryz.prog 63 97 2 16 := elemT (z := .agg #[.int .i64 0, .int .i64 0]) Tryz.underlying63 ty_i97 rfl (by decide)
theorem ty_et104 : ElemT Tryz.prog 104 108 8 64 := elemT (z := .agg #[.int .i64 0, .int .i64 0, .int .i64 0, .int .i64 0, .int .i64 0, .int .i64 0, .int .i64 0, .int .i64 0]) Tryz.underlying104 ty_i108 rfl (by decide)
theorem ty_et123 : ElemT Tryz.prog 123 124 1 24 := elemT (z := .slice none 0 0) Tryz.underlying123 ty_i124 rfl (by decide)
theorem ty_et124 : ElemT Tryz.prog 124 4 1 1 := elemT (z := .bool false) Tryz.underlying124 ty_i4 rfl (by decide)
theorem ty_mp60 : MapT Tryz.prog 60 3 3 .i64 := ⟨Tryz.underlying60, Tryz.underlying3⟩
theorem ty_zv3 : ∀ w, (zeroValue 3).run Tryz.prog w = .ok (.int .i64 0) w := fun w => by obtain ⟨i, h1, h2, h3, h4⟩ := info_parts ty_i3; simp [zeroValue, typeInfo, h1, h2]
end Go.Proofs.YtceokmaddbdnfaaGreat
namespace Go.Proofs.YtceokmaddbdnfaaGreat
set_option linter.all false
set_option linter.unusedVariables false
set_option linter.unusedSimpArgs false
open Go.RowKit
theorem KSub.dropL : ∀ (X : List Fact) {Y L : List Fact}, KSub Y L → KSub (X ++ Y) L
 | [], _, _, h => h
 | _ :: X, _, _, h => KSub.drop (KSub.dropL X h)
section
variable {c : Cx} {Q : Exit → Act → World → Prop} {F F' : Fr} {K K' : List Fact} {ops : Array Oper} {rest : List Oper} {d : Option Tmp} {ty : TypeId} {pos : String} {af : Array Edge} {g : Option (Nat × Bool)} {nf : Nat} {pend : List (Nat × Oper)} {fl : List Fl} {bs : List Bool}
theorem TW.expk {id : Nat} {l : List Oper} {X : Type} (K0 : List Fact) (Fj : X → Fr) (Kj : X → List Fact) (h1 : ∀ x, TQ c Q .normal (Fj x) (Kj x)) (h2 : (∀ x, TQ c Q .normal (Fj x) (Kj x)) → RG c l.toArray Q K0 [] (Array.replicate l.length false) l.length F K) (hm : c.P.follows .mixedOrders = true := by rfl) : TW c (.region id l.toArray true) Q F K := fun a w hF hK => by
 refine wp_region_any hm (wpAny_of_held (S := Sat c.S c.w0 K0) _ _ _ _ ?_)
 rw [List.size_toArray]
 exact h2 h1 (fun p hp => by cases hp) a w.drew hF (hK.ext (keep_drew w))
variable {K0 : List Fact} {listed : Array Bool} {fuel : Nat} {op : Op} {t : Nat}
theorem TW.ex0k {id : Nat} {l : List Oper} (K0 : List Fact) (h2 : RG c l.toArray Q K0 [] (Array.replicate l.length false) l.length F K) (hm : c.P.follows .mixedOrders = true := by rfl) : TW c (.region id l.toArray true) Q F K := fun a w hF hK => by
 refine wp_region_any hm (wpAny_of_held (S := Sat c.S c.w0 K0) _ _ _ _ ?_)
 rw [List.size_toArray]
 exact h2 (fun p hp => by cases hp) a w.drew hF (hK.ext (keep_drew w))
end
end Go.Proofs.YtceokmaddbdnfaaGreat
namespace Go.Proofs.YtceokmaddbdnfaaGreat
set_option linter.all false
set_option linter.unusedVariables false
set_option linter.unusedSimpArgs false
open Go.RowKit
section
variable {c : Cx} {Q : Exit → Act → World → Prop} {F : Fr} {K K' : List Fact} {ops : Array Oper} {rest : List Oper} {d : Option Tmp} {ty : TypeId} {pos : String} {af : Array Edge} {g : Option (Nat × Bool)} {nf : Nat} {fl : List Fl} {bs : List Bool} {pend : List (Nat × Oper)}
def slA (A : Option Addr) (cp sz q : Nat) : Option Addr := if cp = q then A else A.map fun a => a.add (q * sz)
theorem Pu.sf {T E : TypeId} {sz bytes : Nat} {x y : Operand} {A : Option Addr} {n cp q : Nat} {i : Int} (hT : ElemT c.P T E sz bytes) (hx : ev F x = some (.slice A n cp) := by rfl) (hy : ev F y = some (.int .i64 i) := by rfl) (hk : i.toNat = q := by first | exact tnS _ | exact Int.toNat_natCast _ | rfl) (h0 : 0 ≤ i := by omega) (h1 : i ≤ n := by omega) : Pu c F K ⟨d, .slice T x (some y) none none, ty, pos, af, g⟩ (.slice (slA A cp sz q) (n - q) (cp - q)) := fun a w hF _ => by
 obtain ⟨i', z, hi, hz, hs, hb, hzs⟩ := hT.hi
 have hsz : (sizeOf E).run c.P w = .ok sz w := by simp [sizeOf, typeInfo, hi, hs]
 subst hk
 simp [execOp, Instr.sliceAt, Instr.slice, hF.evl hx, hF.evl hy, run_underlying hT.ht, Instr.sliceBounds, Instr.sliceBound, asIntOf, h0, h1, hsz, slA]
end
end Go.Proofs.YtceokmaddbdnfaaGreat
namespace Go.Proofs.YtceokmaddbdnfaaGreat
set_option linter.all false
set_option linter.unusedVariables false
set_option linter.unusedSimpArgs false
open Go.RowKit
def TWi (l : Nat) (c : Cx) (code : Code) (Q : Exit → Act → World → Prop) (F : Fr) (K : List Fact) : Prop := ∀ a w, FS c.n c.D F a → Sat c.S c.w0 K w → code.wpIn (Fence.wide.inRound l) 0 c.P Q a w
theorem operIn {P : Program} {l m : Nat} {o : Oper} {a : Act} {w : World} {K K' : Act → World → Prop} {Q : Exit → Act → World → Prop} (hK : ∀ a w, K a w → K' a w) (hnd : ∀ c, o.op ≠ .defer c) (h : o.wp P a w K Q) : o.wpIn (Fence.wide.inRound l) m P a w K' Q := by
 refine ⟨fun _ _ => trivial, ?_⟩
 rw [Fence.inRound_round, Oper.semAt_some l a.eval o hnd]
 unfold Oper.wp at h
 generalize (execOp a.eval o).run P w = r at *
 cases r with
 | ok x w' =>
  cases x <;> simp only [Oper.upon] at h <;> simp only [Oper.uponIn]
  case value u => exact hK _ _ h
  case skip => exact hK _ _ h
  case defer d => exact hK _ _ h
  case enter f args =>
   refine ⟨fun h9 => (by simp [Fence.wide] at h9), CallsIn.inRound l (callsIn_wide.2 (Calls.mono h fun e w'' he => ?_))⟩
   cases e with
   | returned u => exact hK _ _ he
   | panicked ch => exact he
   | outgrown => exact he
  case row row args =>
   refine ⟨fun h9 => (by simp [Fence.wide] at h9), fun c cs _ => ?_⟩
   obtain ⟨v, w'', r1, s1⟩ := h c cs
   exact ⟨v, w'', hK _ _ r1, stepsIn_wide.2 s1⟩
 | halt x w' => cases x <;> simp only [Oper.upon] at h <;> exact h
theorem operWide {P : Program} {m : Nat} {o : Oper} {a : Act} {w : World} {Z K' : Act → World → Prop} {Q : Exit → Act → World → Prop} (hK : ∀ a w, Z a w → K' a w) (h : o.wp P a w Z (nxt Z Q)) : o.wpIn Fence.wide m P a w K' Q := by
 refine ⟨fun _ _ => trivial, ?_⟩
 rw [Fence.wide_round, Oper.semAt_none]
 unfold Oper.wp at h
 generalize (execOp a.eval o).run P w = r at *
 cases r with
 | ok x w' =>
  cases x <;> simp only [Oper.upon] at h <;> simp only [Oper.uponIn]
  case value u => exact hK _ _ h
  case skip => exact hK _ _ h
  case defer d => exact hK _ _ h
  case enter f args =>
   refine ⟨fun h9 => (by simp [Fence.wide] at h9), callsIn_wide.2 (Calls.mono h fun e w'' he => ?_)⟩
   cases e with
   | returned u => exact hK _ _ he
   | panicked ch => exact he
   | outgrown => obtain ⟨x, y, z⟩ := he; exact ⟨x, y, z⟩
  case row row args =>
   refine ⟨fun h9 => (by simp [Fence.wide] at h9), fun c cs _ => ?_⟩
   obtain ⟨v, w'', r1, s1⟩ := h c cs
   exact ⟨v, w'', hK _ _ r1, stepsIn_wide.2 s1⟩
 | halt x w' => cases x <;> simp only [Oper.upon] at h <;> exact h
def noDeferL (l : List Oper) : Bool := l.all fun o => match o.op with | .defer _ => false | _ => true
theorem listIn {P : Program} {ops : Array Oper} {Q : Exit → Act → World → Prop} {l m : Nat} (hL : ¬ LetsOut Q) : ∀ (rest : List Oper), noDeferL rest = true → ∀ a w, wpList P ops Q rest a w → wpListIn (Fence.wide.inRound l) m P ops Q rest a w
 | [], _, _, _, h => h
 | o :: rest, hn, a, w, h => by
  simp only [noDeferL, List.all_cons, Bool.and_eq_true] at hn
  unfold wpList at h
  unfold wpListIn
  split
  · rename_i hw
    rw [if_pos hw] at h
    rcases h with h | ⟨_, h⟩
    · exact operIn (fun a w h => listIn hL rest hn.2 a w h) (fun c e => by rw [e] at hn; simp at hn) h
    · exact absurd h hL
  · rename_i hw
    rw [if_neg hw] at h
    exact ⟨fun _ _ => trivial, listIn hL rest hn.2 _ _ h⟩
section
variable {l : Nat} {c : Cx} {Q : Exit → Act → World → Prop} {F F' : Fr} {K K' K0 : List Fact} {ops : Array Oper} {rest : List Oper} {d : Option Tmp} {ty : TypeId} {pos : String} {af : Array Edge} {g : Option (Nat × Bool)}
theorem TWi.seq {x y : Code} (h : ∀ Y : Act → World → Prop, (∀ F K, TWi l c y Q F K → TQ c (fun _ => Y) .normal F K) → TWi l c x (Exit.then Y Q) F K) : TWi l c (.seq x y) Q F K := fun a w hF hK =>
 wpIn_seq (h (y.wpIn (Fence.wide.inRound l) 0 c.P Q) (fun _ _ h => h) a w hF hK)
theorem TWi.block {i : Nat} {x : Code} (h : TWi l c x (Exit.inBlock i Q) F K) : TWi l c (.block i x) Q F K := fun a w hF hK => wpIn_block (h a w hF hK)
theorem TWi.ret (h : TQ c Q .ret F K) : TWi l c .ret Q F K := fun a w hF hK => wpIn_ret (h a w hF hK)
theorem TWi.skip (h : TQ c Q .normal F K) : TWi l c .skip Q F K := fun a w hF hK => wpIn_skip (h a w hF hK)
theorem TWi.cond {x : Operand} {s t : Code} {b : Bool} (hx : ev F x = some (.bool b)) (ht : b = true → TWi l c s Q F K) (hf : b = false → TWi l c t Q F K) : TWi l c (.cond x s t) Q F K := fun a w hF hK =>
 wpIn_cond_split (hF.evl hx) (fun e => ht e a w hF hK) (fun e => hf e a w hF hK)
theorem TWi.region {id : Nat} {os : List Oper} (h : TL c os.toArray Q os F K) (hnd : noDeferL os = true := by rfl) (hL : ¬ LetsOut Q := by (rintro ⟨_, _, h⟩; exact h)) : TWi l c (.region id os.toArray false) Q F K := fun a w hF hK => wpIn_region_lit (listIn hL os hnd a w (h a w hF hK))
theorem TWi.dw {id : Nat} {os : List Oper} (nf : Nat) (h : RK c os.toArray Q nf 0 (os.take nf) [] [] (Array.replicate nf false) nf F K) (hm : c.P.follows .mixedOrders = true := by rfl) (hT : tailOk os.toArray nf = true := by kernel_rfl) (hp : Pan Q := by (intro d _ _ _ _; cases d <;> exact Iff.rfl)) (hnd : noDefer os.toArray = true := by kernel_rfl) (hL : ¬ LetsOut Q := by (rintro ⟨_, _, h⟩; exact h)) : TWi l c (.region id os.toArray true) Q F K := fun a w hF hK =>
 RW.beginIn hm hT hp hnd hL fun hb => h a w _ hF hK hb
def TLi (c : Cx) (ops : Array Oper) (Q : Exit → Act → World → Prop) (rest : List Oper) (F : Fr) (K : List Fact) : Prop := ∀ a w, FS c.n c.D F a → Sat c.S c.w0 K w → wpListIn Fence.wide 1 c.P ops Q rest a w
theorem TW.regionI {id : Nat} {os : List Oper} (h : TLi c os.toArray Q os F K) : TW c (.region id os.toArray false) Q F K := fun a w hF hK => (wpIn_wide (n := 1)).1 (wpIn_region_lit (h a w hF hK))
theorem TLi.nil (h : TQ c Q .normal F K) : TLi c ops Q [] F K := fun a w hF hK => h a w hF hK
theorem TLi.op {o : Oper} (h : ∀ Z : Act → World → Prop, (∀ F2 K2, TLi c ops Q rest F2 K2 → TQ c (fun _ => Z) .normal F2 K2) → TL c ops (nxt Z Q) [o] F K) (hL : ¬ LetsOut Q := by (rintro ⟨_, _, h⟩; exact h)) : TLi c ops Q (o :: rest) F K := fun a w hF hK => by
 have h1 := h (wpListIn Fence.wide 1 c.P ops Q rest) (fun F2 K2 h2 a w h3 h4 => h2 a w h3 h4) a w hF hK
 unfold wpList at h1
 unfold wpListIn
 split
 · rename_i hw
   rw [if_pos hw] at h1
   rcases h1 with h1 | ⟨_, h2⟩
   · exact operWide (fun _ _ h => h) h1
   · obtain ⟨x, y, z⟩ := h2
     exact absurd ⟨x, y, z⟩ hL
 · rename_i hw
   rw [if_neg hw] at h1
   exact ⟨fun _ _ => trivial, h1⟩
theorem TLi.yi {l : Nat} {x : Operand} {xs : List Operand} {ts : Array TypeId} {us : List Value} {R1 R2 : Type} {K1 : R1 → List Fact} {K2 : R2 → List Fact} (hf : ev F x = some (.func (.yield l) #[] #[])) (hx : evs F xs = some us)
   (hy : ∀ w, Sat c.S c.w0 K w → YieldAt Fence.wide 0 c.P l us.toArray w fun e w' => (e = .returned (.bool true) ∧ ∃ r, Sat c.S c.w0 (K1 r) w') ∨ (e = .returned (.bool false) ∧ ∃ r, Sat c.S c.w0 (K2 r) w'))
   (h1 : ∀ r, TLi c ops Q rest (fput F d (.bool true)) (K1 r)) (h2 : ∀ r, TLi c ops Q rest (fput F d (.bool false)) (K2 r)) (hg : gdB F ops g = some true := by rfl) (hd : dok d c.n = true := by rfl) :
   TLi c ops Q (⟨d, .call { callee := .value x, args := xs.toArray, argTypes := ts }, ty, pos, af, g⟩ :: rest) F K := fun a w hF hK => by
 unfold wpListIn
 rw [if_pos (hF.wanted hg)]
 obtain ⟨fn, tmps, assign, body, hy1, hy2⟩ := hy w hK
 have e1 := hF.evl hf
 have e2 := hF.evsl hx
 have hr : (execOp a.eval ⟨d, .call { callee := .value x, args := xs.toArray, argTypes := ts }, ty, pos, af, g⟩).run c.P w = .ok (.round l fn tmps assign body) w := by
   simp only [execOp, resolve, e1, Deferred.ofValue, List.map_toArray, e2, Sem.run_bind, Sem.run_pure, Result.andThen_ok, invoke]
   simpa using hy1
 refine ⟨fun _ _ => trivial, ?_⟩
 rw [Fence.wide_round, Oper.semAt_none, hr, Oper.uponIn_round]
 refine ⟨fun h9 => (by simp [Fence.wide] at h9), hy2.mono ?_⟩
 rintro e w' (⟨rfl, r, hs⟩ | ⟨rfl, r, hs⟩)
 · exact h1 r _ _ (hF.fput hd _) hs
 · exact h2 r _ _ (hF.fput hd _) hs
theorem Sat.newO {S : List Nat} {w0 w : World} (h : Sat S w0 K w) (o : Obj) (ho : o.isCells = false) : Sat S w0 (.obj w.heap.size o :: K) (w.alloc o) :=
 h.add (L := [_]) (Sat.one (Chg.of_ext ((Below.refl _ _).alloc (Nat.le_refl _) _)) (by simp [Fact.foot]) (fun b hb => by simp [Fact.foot] at hb; subst hb; exact .inr (Nat.le_refl _)) ⟨World.alloc_heap_new w o, ho⟩)
theorem Sat.putO {S : List Nat} {w0 w : World} {b : Nat} {o o' : Obj} (h : Sat S w0 (.obj b o :: K) w) (ho : o'.isCells = false) : Sat S w0 (.obj b o' :: K) (w.putObj b o') :=
 h.turn (φ' := .obj b o') (Chg.grown (grownBy_putObj' w b o')) (by simp [Fact.foot]) (fun x hx => .inl hx) ⟨World.putObj_heap_same (lt_of_get (h.holds (.obj b o) (by simp)).1), ho⟩
def putF : List Tmp → List Value → Fr → Fr
 | p :: ps, v :: vs, F => putF ps vs ((p, v) :: F)
 | _, _, F => F
theorem FS.putF {n : Nat} : ∀ {ps : List Tmp} {vs : List Value} {F : Fr} {t : Array Value}, FS n [] F { tmps := t, defers := [] } → (ps.all fun p => Nat.blt p n) = true → FS n [] (Go.Proofs.YtceokmaddbdnfaaGreat.putF ps vs F) { tmps := (ps.zip vs).foldl (fun t (p, v) => t.setIfInBounds p v) t, defers := [] }
 | [], _, _, _, h, _ => by simpa [Go.Proofs.YtceokmaddbdnfaaGreat.putF] using h
 | _ :: _, [], _, _, h, _ => by simpa [Go.Proofs.YtceokmaddbdnfaaGreat.putF] using h
 | p :: ps, v :: vs, F, t, h, hp => by
  simp only [List.all_cons, Bool.and_eq_true] at hp
  have := FS.putF (ps := ps) (vs := vs) (h.put hp.1 v) hp.2
  simpa [Go.Proofs.YtceokmaddbdnfaaGreat.putF, Act.put] using this
def RB (c : Cx) {R Rx : Type} (KN : R → List Fact) (jx : Rx → Code) (KX : Rx → List Fact) : Exit → Act → World → Prop
 | .normal, _, w => ∃ r, Sat c.S c.w0 (KN r) w
 | .ret, _, w => ∃ x, jx x = .ret ∧ Sat c.S c.w0 (KX x) w
 | .exit i, _, w => ∃ x, jx x = .exit i ∧ Sat c.S c.w0 (KX x) w
 | _, _, _ => False
theorem TQ.rbN {R Rx : Type} {KN : R → List Fact} {jx : Rx → Code} {KX : Rx → List Fact} (r : R) (hK : KSub K (KN r)) : TQ c (RB c KN jx KX) .normal F K := fun _ _ _ h => ⟨r, h.sub hK⟩
theorem TQ.rbR {R Rx : Type} {KN : R → List Fact} {jx : Rx → Code} {KX : Rx → List Fact} (x : Rx) (hx : jx x = .ret) (hK : KSub K (KX x)) : TQ c (RB c KN jx KX) .ret F K := fun _ _ _ h => ⟨x, hx, h.sub hK⟩
def IterK (P : Program) (gf : FuncId) (lb : List Value) (M : List Fact) (G : Type) (enc : Nat → G → List Value) (Y Y' : Nat → G → List Fact) (N : Nat) (L : List Fact) (S : List Nat) (w0 : World) : Prop :=
 ∀ (l : Nat) (R Rx : Type) (J : Nat → R → List Fact) (Jx : Rx → List Fact) (r0 : R) (w : World), Sat S w0 (M ++ J 0 r0) w →
  (∀ q g r w', q < N → Sat S w0 (Y q g ++ J q r) w' → YieldAt Fence.wide 0 P l (enc q g).toArray w' fun e w'' => (e = .returned (.bool true) ∧ ∃ r', Sat S w0 (Y' q g ++ J (q + 1) r') w'') ∨ (e = .returned (.bool false) ∧ ∃ x, Sat S w0 (Y' q g ++ Jx x) w'')) →
  Calls P gf (.func (.yield l) #[] #[] :: lb).toArray w fun e w' => (∃ v, e = .returned v) ∧ ((∃ r, Sat S w0 (L ++ J N r) w') ∨ ∃ x, Sat S w0 (Jx x) w')
theorem perm_objs (A B : List Fact) (x y : Fact) : (A ++ (x :: y :: B)).Perm (x :: y :: (A ++ B)) := List.perm_middle.trans (List.Perm.cons _ List.perm_middle)
theorem K_enterM {P : Program} {f : FuncId} {fn : Func} {code : Code} {n : Nat} {args : List Value} {R : Ending → World → Prop} {w w0 : World} {S : List Nat} {K : List Fact} (hf : P.funcs[f]? = some fn) (hb : fn.body = some code) (hn : fn.ntmps = n) (hl : Nat.ble args.length n = true) (hS : Sat S w0 K w)
  (h : TW ⟨P, n, [], S, w0⟩ code (bodyPostM Fence.wide 2 P fn R) (zipF 0 args) K) : Calls P f args.toArray w R := by
 refine calls_of_marks hf hb ?_
 rw [hn]
 exact h _ _ (FS.start (Nat.le_of_ble_eq_true hl)) hS
theorem K_enterW {P : Program} {f : FuncId} {fn : Func} {code : Code} {n : Nat} {args : List Value} {R : Ending → World → Prop} {w w0 : World} {S : List Nat} {K : List Fact} (hf : P.funcs[f]? = some fn) (hb : fn.body = some code) (hn : fn.ntmps = n) (hl : Nat.ble args.length n = true) (hS : Sat S w0 K w)
  (h : TW ⟨P, n, [], S, w0⟩ code (bodyPost P fn R) (zipF 0 args) K) : Calls P f args.toArray w R := by
 refine calls_of_wp hf hb ?_
 rw [hn]
 exact h _ _ (FS.start (Nat.le_of_ble_eq_true hl)) hS
theorem TQ.retM0 {fn : Func} {R : Ending → World → Prop} {rs : List ResultVar} {vs : List Value} (hr : fn.results = rs.toArray) (hv : RV c F K rs vs) (h : ∀ w, Sat c.S c.w0 K w → R (.returned (retV vs)) w) (hD : c.D = [] := by rfl) : TQ c (bodyPostM Fence.wide 2 c.P fn R) .ret F K := fun a w hF hK => by
 obtain ⟨t, ds⟩ := a
 have e : ds = [] := hF.dfs.trans hD
 subst e
 exact ret_marks0 (hv.results hr hF hK) (h w hK)
end
end Go.Proofs.YtceokmaddbdnfaaGreat
namespace Go.Proofs.YtceokmaddbdnfaaGreat
set_option linter.all false
set_option linter.unusedVariables false
set_option linter.unusedSimpArgs false
open Go.RowKit
def spL (a b : Int) : List Value := [.int .i64 a, .int .i64 b]
def ordB5 (lo hi a b : Int) : Bool := decide (lo ≤ a) && decide (a ≤ b) && decide (b ≤ hi)
def inB5 (lo hi a : Int) : Bool := decide (lo ≤ a) && decide (a ≤ hi)
def Fst (p : Nat → Bool) (n : Nat) : Type := { k : Nat // k ≤ n ∧ (∀ j, j < k → p j = false) ∧ (k < n → p k = true) }
def aft (n k : Nat) : Nat := if k < n then k + 1 else n
theorem Fst.any {p : Nat → Bool} {n : Nat} (x : Fst p n) : decide (x.1 < n) = (List.range n).any p := by
 obtain ⟨k, h1, h2, h3⟩ := x
 by_cases h : k < n
 · have : (List.range n).any p = true := List.any_eq_true.2 ⟨k, List.mem_range.2 h, h3 h⟩
   rw [this]; simpa using h
 · have : (List.range n).any p = false := by
    rw [List.any_eq_false]
    intro j hj
    have := h2 j (by have := List.mem_range.1 hj; omega)
    simp [this]
   rw [this]; simpa using h
theorem RdR.blk {w : World} {b : Nat} {E : TypeId} {cs : List Value} {n sz : Nat} {r : Nat → List Value} (h : Blk w b E cs.toArray) (hr : flatR n r = cs) (hl : ∀ i, i < n → (r i).length = sz) (hz : Nat.blt 0 sz = true := by rfl) (hn : Nat.ble n 1000000 = true := by rfl) : RdR w sz (some ⟨b, 0, none⟩) n r :=
 (OwnR.of_blk h hr hl hz hn).rdr
end Go.Proofs.YtceokmaddbdnfaaGreat
namespace Go.Proofs.YtceokmaddbdnfaaGreat
set_option linter.all false
set_option linter.unusedVariables false
set_option linter.unusedSimpArgs false
open Go.RowKit
theorem indexInt_any {g : FuncId} {fs cs : List Value} {A : Option Addr} {n cp : Nat} {v : Nat → Int} {p : Nat → Bool} {M : Nat → List Fact} {w : World} (hen : Enters Tryz.prog g) (hn : n ≤ 9223372036854775807)
  (hR : RdR w 1 A n (fun k => [.int .i64 (v k)])) (hA : 0 < n → Apart (feet (M 0)) A) (hM : Sat (feet (M 0)) w (M 0) w) (hfe : ∀ k, feet (M k) = feet (M 0))
  (hg : ∀ k, k < n → (∀ j, j < k → p j = false) → ∀ w', Sat (feet (M 0)) w (M k) w' → CallsK Tryz.prog g (fs ++ [Value.int .i64 (v k)] ++ cs).toArray (M k) w' Unit (fun _ => .bool (p k)) (fun _ => M (k + 1))) :
  CallsK Tryz.prog 123 #[.slice A n cp, .func (.func g) fs.toArray cs.toArray] (M 0) w (Fst p n) (fun x => .int .i64 (if x.1 < n then (x.1 : Int) else -1)) (fun x => M (aft n x.1)) := by
 refine K_enter (S := feet (M 0)) (K := M 0) Tryz.func123 rfl Tryz.ntmps123 rfl hM ?_
 refine TW.seq fun Y1 hY1 => TW.region ?_
 refine TL.p Pu.as ?_
 refine TL.nil (TQ.thenN (hY1 _ _ ?_))
 refine TW.seq fun Y2 hY2 => ?_
 refine TW.seq fun Y3 hY3 => TW.region ?_
 refine TL.p Pu.mv ?_
 refine TL.p (Pu.ln Tryz.underlying33) ?_
 refine TL.p Pu.mv ?_
 refine TL.nil (TQ.thenN (hY3 _ _ ?_))
 refine TW.block ?_
 refine TW.loop1 (fun (k : Nat) => [(8, .int .i64 (k : Int)), (7, .int .i64 (n : Int)), (0, .slice A n cp), (1, .func (.func g) fs.toArray cs.toArray)]) (fun k => M k) (fun k => k ≤ n ∧ ∀ j, j < k → p j = false) (fun k => n - k) 0 fs9 ?_ ?_ ?_
 exact KSub.refl _
 exact ⟨by omega, fun j hj => by omega⟩
 rintro k ⟨hk, hall⟩ Z0 hZ0
 refine TW.seq fun Y4 hY4 => TW.region ?_
 refine TL.p Pu.lt ?_
 refine TL.nil (TQ.thenN (hY4 _ _ ?_))
 refine TW.seq fun Y5 hY5 => ?_
 refine TW.cond rfl (fun hc0 => ?_) (fun hc0 => ?_)
 try simp only [zcb9] at hc0
 have hkn : k < n := by omega
 have hA := hA (by omega)
 refine TW.skip ?_
 refine TQ.thenN (hY5 _ _ ?_)
 refine TW.seq fun Y6 hY6 => ?_
 refine TW.block ?_
 refine TW.seq fun Y7 hY7 => TW.region ?_
 refine TL.p Pu.mv ?_
 refine TL.p Pu.as ?_
 refine TL.nil (TQ.thenN (hY7 _ _ ?_))
 refine TW.seq fun Y8 hY8 => TW.region ?_
 refine TL.p Pu.mv ?_
 refine TL.p Pu.mv ?_
 refine TL.p Pu.mv ?_
 refine TL.p (Pu.el ty_et33) ?_
 refine TL.p (Pu.ld ty_sc3) ?_
 refine TL.cvk rfl rfl hen (by rw [List.append_nil]) (fun w hw => by
   exact hg k (by omega) hall w hw) ?_
 intro _
 refine TL.nil (TQ.thenN (hY8 _ _ ?_))
 refine TW.cond rfl (fun hc1 => ?_) (fun hc1 => ?_)
 try simp only [zcb9] at hc1
 refine TW.seq fun Y9 hY9 => TW.region ?_
 refine TL.p Pu.mv ?_
 refine TL.p Pu.as ?_
 refine TL.nil (TQ.thenN (hY9 _ _ ?_))
 refine TW.ret ?_
 refine TQ.blkR ?_
 refine TQ.thenR ?_
 refine TQ.thenR ?_
 refine TQ.blkR ?_
 refine TQ.thenR ?_
 refine TQ.ret Tryz.results123 rfl ((.tmp rfl .nil)) ?_
 exact fun w hw => ⟨⟨k, by omega, hall, fun _ => hc1⟩, by simp [hkn]; rfl, by simpa [aft, hkn] using hw⟩
 try simp only [zcb9] at hc1
 refine TW.skip ?_
 refine TQ.blkN ?_
 refine TQ.thenN (hY6 _ _ ?_)
 refine TW.region ?_
 refine TL.p Pu.ad ?_
 refine TL.p Pu.mv ?_
 refine TL.nil ?_
 refine TQ.thenN (hZ0 (k + 1) _ _ ?_ ?_ fs9 ?_)
 refine ⟨by omega, fun j hj => ?_⟩
 by_cases h : j = k
 subst h; exact hc1
 exact hall j (by omega)
 exact zom9
 rw [List.append_nil]; exact KSub.refl _
 try simp only [zcb9] at hc0
 have hkn : k = n := by omega
 refine TW.exit ?_
 refine TQ.thenX ?_
 refine TQ.thenX ?_
 refine TQ.blkX ?_
 refine TQ.thenN (hY2 _ _ ?_)
 refine TW.seq fun Y10 hY10 => TW.region ?_
 refine TL.p Pu.as ?_
 refine TL.nil (TQ.thenN (hY10 _ _ ?_))
 refine TW.ret ?_
 refine TQ.ret Tryz.results123 rfl ((.tmp rfl .nil)) ?_
 exact fun w hw => ⟨⟨k, by omega, hall, fun h => by omega⟩, by simp [hkn]; rfl, by simpa [aft, hkn] using hw⟩
theorem hasInt_st {g : FuncId} {fs cs : List Value} {A : Option Addr} {n cp : Nat} {v : Nat → Int} {p : Nat → Bool} {M : Nat → List Fact} {w : World} (hen : Enters Tryz.prog g) (hn : n ≤ 9223372036854775807)
  (hR : RdR w 1 A n (fun k => [.int .i64 (v k)])) (hA : 0 < n → Apart (feet (M 0)) A) (hM : Sat (feet (M 0)) w (M 0) w) (hfe : ∀ k, feet (M k) = feet (M 0))
  (hg : ∀ k, k < n → (∀ j, j < k → p j = false) → ∀ w', Sat (feet (M 0)) w (M k) w' → CallsK Tryz.prog g (fs ++ [Value.int .i64 (v k)] ++ cs).toArray (M k) w' Unit (fun _ => .bool (p k)) (fun _ => M (k + 1))) :
  CallsK Tryz.prog 103 #[.slice A n cp, .func (.func g) fs.toArray cs.toArray] (M 0) w (Fst p n) (fun x => .bool (decide (x.1 < n))) (fun x => M (aft n x.1)) := by
 refine K_enter (S := feet (M 0)) (K := M 0) Tryz.func103 rfl Tryz.ntmps103 rfl hM ?_
 refine TW.seq fun Y1 hY1 => TW.region ?_
 refine TL.p Pu.as ?_
 refine TL.nil (TQ.thenN (hY1 _ _ ?_))
 refine TW.seq fun Y2 hY2 => TW.region ?_
 refine TL.p Pu.mv ?_
 refine TL.p Pu.mv ?_
 refine TL.call rfl (enters Tryz.func123 rfl rfl) (by rw [List.append_nil]) rfl (fun w hw => by
   exact indexInt_any hen hn (hR.sat0 hw hA) hA hw.self hfe (fun k hk hp w' hw' => hg k hk hp w' (hw'.from hw.chg fun _ hb => .inl hb))) ?_
 intro x
 refine TL.p Pu.ge ?_
 refine TL.p Pu.as ?_
 refine TL.nil (TQ.thenN (hY2 _ _ ?_))
 refine TW.ret ?_
 refine TQ.ret Tryz.results103 rfl ((.tmp rfl .nil)) ?_
 exact fun w hw => ⟨x, by by_cases h : x.1 < n <;> simp [retV, h], by simpa using hw⟩
theorem hasInt_any {g : FuncId} {fs cs : List Value} {A : Option Addr} {n cp : Nat} {v : Nat → Int} {p : Nat → Bool} {w : World} (hen : Enters Tryz.prog g) (hn : n ≤ 9223372036854775807)
  (hR : RdR w 1 A n (fun k => [.int .i64 (v k)])) (hg : ∀ k, k < n → ∀ w', Below w.heap.size w w' → Calls Tryz.prog g (fs ++ [Value.int .i64 (v k)] ++ cs).toArray w' (Ret w' (.bool (p k)))) :
  Calls Tryz.prog 103 #[.slice A n cp, .func (.func g) fs.toArray cs.toArray] w (Ret w (.bool (anyB n p))) :=
 CallsK.retOf (hasInt_st (M := fun _ => []) hen hn hR (fun _ => Apart.nil) (Sat.start w) (fun _ => rfl) fun k hk _ w' hw' => CallsK.ret (hg k hk w' (Chg.ext hw'.chg))) fun x => by rw [x.any]; rfl
theorem indexSpan_any {g : FuncId} {fs cs : List Value} {A : Option Addr} {n cp : Nat} {v : Nat → Nat → Int} {p : Nat → Bool} {M : Nat → List Fact} {w : World} (hen : Enters Tryz.prog g) (hn : n ≤ 9223372036854775807)
  (hR : RdR w 2 A n (fun k => spL (v k 0) (v k 1))) (hA : 0 < n → Apart (feet (M 0)) A) (hM : Sat (feet (M 0)) w (M 0) w) (hfe : ∀ k, feet (M k) = feet (M 0))
  (hg : ∀ k, k < n → (∀ j, j < k → p j = false) → ∀ w', Sat (feet (M 0)) w (M k) w' → CallsK Tryz.prog g (fs ++ [Value.agg (spL (v k 0) (v k 1)).toArray] ++ cs).toArray (M k) w' Unit (fun _ => .bool (p k)) (fun _ => M (k + 1))) :
  CallsK Tryz.prog 128 #[.slice A n cp, .func (.func g) fs.toArray cs.toArray] (M 0) w (Fst p n) (fun x => .int .i64 (if x.1 < n then (x.1 : Int) else -1)) (fun x => M (aft n x.1)) := by
 refine K_enter (S := feet (M 0)) (K := M 0) Tryz.func128 rfl Tryz.ntmps128 rfl hM ?_
 refine TW.seq fun Y1 hY1 => TW.region ?_
 refine TL.p Pu.as ?_
 refine TL.nil (TQ.thenN (hY1 _ _ ?_))
 refine TW.seq fun Y2 hY2 => ?_
 refine TW.seq fun Y3 hY3 => TW.region ?_
 refine TL.p Pu.mv ?_
 refine TL.p (Pu.ln Tryz.underlying57) ?_
 refine TL.p Pu.mv ?_
 refine TL.nil (TQ.thenN (hY3 _ _ ?_))
 refine TW.block ?_
 refine TW.loop1 (fun (k : Nat) => [(8, .int .i64 (k : Int)), (7, .int .i64 (n : Int)), (0, .slice A n cp), (1, .func (.func g) fs.toArray cs.toArray)]) (fun k => M k) (fun k => k ≤ n ∧ ∀ j, j < k → p j = false) (fun k => n - k) 0 fs9 ?_ ?_ ?_
 exact KSub.refl _
 exact ⟨by omega, fun j hj => by omega⟩
 rintro k ⟨hk, hall⟩ Z0 hZ0
 refine TW.seq fun Y4 hY4 => TW.region ?_
 refine TL.p Pu.lt ?_
 refine TL.nil (TQ.thenN (hY4 _ _ ?_))
 refine TW.seq fun Y5 hY5 => ?_
 refine TW.cond rfl (fun hc0 => ?_) (fun hc0 => ?_)
 try simp only [zcb9] at hc0
 have hkn : k < n := by omega
 have hA := hA (by omega)
 refine TW.skip ?_
 refine TQ.thenN (hY5 _ _ ?_)
 refine TW.seq fun Y6 hY6 => ?_
 refine TW.block ?_
 refine TW.seq fun Y7 hY7 => TW.region ?_
 refine TL.p Pu.mv ?_
 refine TL.p Pu.as ?_
 refine TL.nil (TQ.thenN (hY7 _ _ ?_))
 refine TW.seq fun Y8 hY8 => TW.region ?_
 refine TL.p Pu.mv ?_
 refine TL.p Pu.mv ?_
 refine TL.p Pu.mv ?_
 refine TL.p (Pu.el ty_et57) ?_
 refine TL.p (Pu.lds ty_ag25) ?_
 refine TL.cvk rfl rfl hen (by rw [List.append_nil]) (fun w hw => by
   exact hg k (by omega) hall w hw) ?_
 intro _
 refine TL.nil (TQ.thenN (hY8 _ _ ?_))
 refine TW.cond rfl (fun hc1 => ?_) (fun hc1 => ?_)
 try simp only [zcb9] at hc1
 refine TW.seq fun Y9 hY9 => TW.region ?_
 refine TL.p Pu.mv ?_
 refine TL.p Pu.as ?_
 refine TL.nil (TQ.thenN (hY9 _ _ ?_))
 refine TW.ret ?_
 refine TQ.blkR ?_
 refine TQ.thenR ?_
 refine TQ.thenR ?_
 refine TQ.blkR ?_
 refine TQ.thenR ?_
 refine TQ.ret Tryz.results128 rfl ((.tmp rfl .nil)) ?_
 exact fun w hw => ⟨⟨k, by omega, hall, fun _ => hc1⟩, by simp [hkn]; rfl, by simpa [aft, hkn] using hw⟩
 try simp only [zcb9] at hc1
 refine TW.skip ?_
 refine TQ.blkN ?_
 refine TQ.thenN (hY6 _ _ ?_)
 refine TW.region ?_
 refine TL.p Pu.ad ?_
 refine TL.p Pu.mv ?_
 refine TL.nil ?_
 refine TQ.thenN (hZ0 (k + 1) _ _ ?_ ?_ fs9 ?_)
 refine ⟨by omega, fun j hj => ?_⟩
 by_cases h : j = k
 subst h; exact hc1
 exact hall j (by omega)
 exact zom9
 rw [List.append_nil]; exact KSub.refl _
 try simp only [zcb9] at hc0
 have hkn : k = n := by omega
 refine TW.exit ?_
 refine TQ.thenX ?_
 refine TQ.thenX ?_
 refine TQ.blkX ?_
 refine TQ.thenN (hY2 _ _ ?_)
 refine TW.seq fun Y10 hY10 => TW.region ?_
 refine TL.p Pu.as ?_
 refine TL.nil (TQ.thenN (hY10 _ _ ?_))
 refine TW.ret ?_
 refine TQ.ret Tryz.results128 rfl ((.tmp rfl .nil)) ?_
 exact fun w hw => ⟨⟨k, by omega, hall, fun h => by omega⟩, by simp [hkn]; rfl, by simpa [aft, hkn] using hw⟩
theorem hasSpan_st {g : FuncId} {fs cs : List Value} {A : Option Addr} {n cp : Nat} {v : Nat → Nat → Int} {p : Nat → Bool} {M : Nat → List Fact} {w : World} (hen : Enters Tryz.prog g) (hn : n ≤ 9223372036854775807)
  (hR : RdR w 2 A n (fun k => spL (v k 0) (v k 1))) (hA : 0 < n → Apart (feet (M 0)) A) (hM : Sat (feet (M 0)) w (M 0) w) (hfe : ∀ k, feet (M k) = feet (M 0))
  (hg : ∀ k, k < n → (∀ j, j < k → p j = false) → ∀ w', Sat (feet (M 0)) w (M k) w' → CallsK Tryz.prog g (fs ++ [Value.agg (spL (v k 0) (v k 1)).toArray] ++ cs).toArray (M k) w' Unit (fun _ => .bool (p k)) (fun _ => M (k + 1))) :
  CallsK Tryz.prog 112 #[.slice A n cp, .func (.func g) fs.toArray cs.toArray] (M 0) w (Fst p n) (fun x => .bool (decide (x.1 < n))) (fun x => M (aft n x.1)) := by
 refine K_enter (S := feet (M 0)) (K := M 0) Tryz.func112 rfl Tryz.ntmps112 rfl hM ?_
 refine TW.seq fun Y1 hY1 => TW.region ?_
 refine TL.p Pu.as ?_
 refine TL.nil (TQ.thenN (hY1 _ _ ?_))
 refine TW.seq fun Y2 hY2 => TW.region ?_
 refine TL.p Pu.mv ?_
 refine TL.p Pu.mv ?_
 refine TL.call rfl (enters Tryz.func128 rfl rfl) (by rw [List.append_nil]) rfl (fun w hw => by
   exact indexSpan_any hen hn (hR.sat0 hw hA) hA hw.self hfe (fun k hk hp w' hw' => hg k hk hp w' (hw'.from hw.chg fun _ hb => .inl hb))) ?_
 intro x
 refine TL.p Pu.ge ?_
 refine TL.p Pu.as ?_
 refine TL.nil (TQ.thenN (hY2 _ _ ?_))
 refine TW.ret ?_
 refine TQ.ret Tryz.results112 rfl ((.tmp rfl .nil)) ?_
 exact fun w hw => ⟨x, by by_cases h : x.1 < n <;> simp [retV, h], by simpa using hw⟩
theorem hasSpan_any {g : FuncId} {fs cs : List Value} {A : Option Addr} {n cp : Nat} {v : Nat → Nat → Int} {p : Nat → Bool} {w : World} (hen : Enters Tryz.prog g) (hn : n ≤ 9223372036854775807)
  (hR : RdR w 2 A n (fun k => spL (v k 0) (v k 1))) (hg : ∀ k, k < n → ∀ w', Below w.heap.size w w' → Calls Tryz.prog g (fs ++ [Value.agg (spL (v k 0) (v k 1)).toArray] ++ cs).toArray w' (Ret w' (.bool (p k)))) :
  Calls Tryz.prog 112 #[.slice A n cp, .func (.func g) fs.toArray cs.toArray] w (Ret w (.bool (anyB n p))) :=
 CallsK.retOf (hasSpan_st (M := fun _ => []) hen hn hR (fun _ => Apart.nil) (Sat.start w) (fun _ => rfl) fun k hk _ w' hw' => CallsK.ret (hg k hk w' (Chg.ext hw'.chg))) fun x => by rw [x.any]; rfl
end Go.Proofs.YtceokmaddbdnfaaGreat
namespace Go.Proofs.YtceokmaddbdnfaaGreat
set_option linter.all false
set_option linter.unusedVariables false
set_option linter.unusedSimpArgs false
def fst1 (p : Nat → Bool) : Nat → Nat
 | 0 => 0
 | n + 1 => if fst1 p n < n then fst1 p n else if p n then n else n + 1
section
variable {p : Nat → Bool} {n k : Nat}
theorem fst1_le : ∀ {n}, fst1 p n ≤ n
 | 0 => Nat.le_refl _
 | n + 1 => by
  have := fst1_le (n := n)
  unfold fst1
  split
  · omega
  · split <;> omega
theorem fst1_no : ∀ {n j}, j < fst1 p n → p j = false
 | 0, j, h => absurd h (Nat.not_lt_zero j)
 | n + 1, j, h => by
  have hl := fst1_le (p := p) (n := n)
  unfold fst1 at h
  split at h
  · exact fst1_no h
  · rename_i h1
    split at h
    · exact fst1_no (n := n) (by omega)
    · rename_i h2
      by_cases e : j = n
      · subst e; simpa using h2
      · exact fst1_no (n := n) (by omega)
theorem fst1_yes : ∀ {n}, fst1 p n < n → p (fst1 p n) = true
 | 0, h => absurd h (Nat.not_lt_zero _)
 | n + 1, h => by
  unfold fst1 at h ⊢
  split
  · rename_i h1; exact fst1_yes h1
  · rename_i h1
    rw [if_neg h1] at h
    split
    · assumption
    · rename_i h2; rw [if_neg h2] at h; omega
theorem fst1_uniq (h1 : k ≤ n) (h2 : ∀ j, j < k → p j = false) (h3 : k < n → p k = true) : fst1 p n = k := by
  rcases Nat.lt_trichotomy (fst1 p n) k with h | h | h
  · have := fst1_yes (p := p) (n := n) (by omega)
    rw [h2 _ h] at this; cases this
  · exact h
  · have := fst1_no h
    have hl := fst1_le (p := p) (n := n)
    rw [h3 (by omega)] at this; cases this
theorem fst1_lt : fst1 p n < n ↔ ∃ j, j < n ∧ p j = true := ⟨fun h => ⟨_, h, fst1_yes h⟩, fun ⟨j, hj, hp⟩ => by
  by_cases h : fst1 p n < n
  · exact h
  · have := fst1_no (p := p) (n := n) (j := j) (by omega)
    rw [hp] at this; cases this⟩
end
def atI (p : Nat → Bool) (n : Nat) : Int := if fst1 p n < n then (fst1 p n : Int) else -1
theorem atI_bd {p : Nat → Bool} {n : Nat} : -1 ≤ atI p n ∧ atI p n < n ∨ n = 0 ∧ atI p n = -1 := by unfold atI; split <;> omega
theorem atI_le {p : Nat → Bool} {n : Nat} (h : 0 ≤ atI p n) : (atI p n).toNat < n ∧ p (atI p n).toNat = true ∧ ((atI p n).toNat : Int) = atI p n := by
 unfold atI at h ⊢
 split
 · rename_i h1
   exact ⟨by simpa using h1, by simpa using fst1_yes h1, by simp⟩
 · rename_i h1; rw [if_neg h1] at h; omega
theorem atI_eq {p : Nat → Bool} {n k : Nat} (hk : k < n) (h : p k = true) (hn : ∀ j, j < k → p j = false) : atI p n = k := by
 have := fst1_uniq (p := p) (n := n) (k := k) (by omega) hn (fun _ => h)
 unfold atI
 rw [this, if_pos hk]
theorem atI_none {p : Nat → Bool} {n : Nat} (h : ∀ j, j < n → p j = false) : atI p n = -1 := by
 unfold atI
 rw [if_neg]
 intro h2
 have := fst1_yes h2
 rw [h _ h2] at this; cases this
theorem pigeon : ∀ (n : Nat) (f : Nat → Nat), (∀ k, k ≤ n → f k < n) → ∃ a b, a < b ∧ b ≤ n ∧ f a = f b
 | 0, f, h => absurd (h 0 (Nat.le_refl _)) (Nat.not_lt_zero _)
 | n + 1, f, h => by
  by_cases hv : ∃ a, a ≤ n ∧ f a = f (n + 1)
  · obtain ⟨a, h1, h2⟩ := hv
    exact ⟨a, n + 1, by omega, Nat.le_refl _, h2⟩
  · have hne : ∀ a, a ≤ n → f a ≠ f (n + 1) := fun a ha e => hv ⟨a, ha, e⟩
    have hl := h (n + 1) (Nat.le_refl _)
    obtain ⟨a, b, hab, hb, e⟩ := pigeon n (fun k => if f k = n then f (n + 1) else f k) fun k hk => by
     have h1 := h k (by omega)
     have h2 := hne k hk
     show (if f k = n then f (n + 1) else f k) < n
     split
     · omega
     · omega
    have ha := hne a (by omega)
    have hb2 := hne b (by omega)
    refine ⟨a, b, hab, by omega, ?_⟩
    have e : (if f a = n then f (n + 1) else f a) = (if f b = n then f (n + 1) else f b) := e
    split at e <;> split at e <;> omega
section
variable {f : Nat → Int} {n i s t : Nat}
def upH (f : Nat → Int) (i : Nat) : Nat → Int
 | 0 => i
 | s + 1 => if upH f i s < 0 then -1 else f (upH f i s).toNat
def Mo (f : Nat → Int) (n : Nat) : Prop := ∀ i, i < n → -1 ≤ f i ∧ f i < n
theorem upH_bd (hf : Mo f n) (hi : i < n) : ∀ s, -1 ≤ upH f i s ∧ upH f i s < n
 | 0 => by simp only [upH]; omega
 | s + 1 => by
  have h := upH_bd hf hi s
  simp only [upH]
  split
  · omega
  · exact hf _ (by omega)
theorem upH_neg (h : upH f i s < 0) : ∀ t, upH f i (s + 1 + t) = -1
 | 0 => by show upH f i (s + 1) = -1; simp only [upH]; rw [if_pos h]
 | t + 1 => by
  have := upH_neg h t
  show upH f i (s + 1 + t + 1) = -1
  simp only [upH]
  rw [if_pos (by omega)]
theorem upH_mono (h : upH f i s < 0) (hst : s ≤ t) : upH f i t < 0 := by
 by_cases e : s = t
 · subst e; exact h
 · have := upH_neg h (t - s - 1)
   rw [show s + 1 + (t - s - 1) = t by omega] at this
   omega
theorem upH_add (h : 0 ≤ upH f i s) : ∀ t, upH f i (s + t) = upH f (upH f i s).toNat t
 | 0 => by simp only [upH, Nat.add_zero]; omega
 | t + 1 => by
  show upH f i (s + t + 1) = _
  simp only [upH, upH_add h t]
theorem upH_one (h : 0 ≤ f i) : upH f i (s + 1) = upH f (f i).toNat s := by
 have h1 : upH f i 1 = f i := by
  show (if (i : Int) < 0 then -1 else f (i : Int).toNat) = f i
  rw [if_neg (by omega), Int.toNat_natCast]
 have := upH_add (f := f) (i := i) (s := 1) (by rw [h1]; exact h) s
 rw [h1, Nat.add_comm 1 s] at this
 exact this
theorem upH_cycle (hf : Mo f n) (hi : i < n) (h : 0 ≤ upH f i n) : ∀ s, 0 ≤ upH f i s := by
 have hb := upH_bd hf hi
 have hpos : ∀ k, k ≤ n → 0 ≤ upH f i k := fun k hk => by
  by_cases h2 : upH f i k < 0
  · have := upH_mono h2 hk; omega
  · omega
 obtain ⟨a, b, hab, hbn, e⟩ := pigeon n (fun k => (upH f i k).toNat) fun k hk => by
  have h1 := hb k
  have h2 := hpos k hk
  show (upH f i k).toNat < n
  omega
 have e' : upH f i a = upH f i b := by
  have h1 := hpos a (by omega)
  have h2 := hpos b hbn
  have e : (upH f i a).toNat = (upH f i b).toNat := e
  omega
 have hstep : ∀ t, upH f i (b + t) = upH f i (a + t) := fun t => by
  rw [upH_add (hpos b hbn), upH_add (hpos a (by omega)), e']
 intro s
 induction s using Nat.strongRecOn with
 | ind s ih =>
  by_cases hs : s ≤ n
  · exact hpos s hs
  · have := hstep (s - b)
    rw [show b + (s - b) = s by omega] at this
    rw [this]
    exact ih _ (by omega)
theorem upH_ends (hf : Mo f n) (hi : i < n) : upH f i (n + 1) < 0 ↔ upH f i n < 0 := ⟨fun h => by
 by_cases h2 : upH f i n < 0
 · exact h2
 · have := upH_cycle hf hi (by omega) (n + 1); omega, fun h => upH_mono h (by omega)⟩
def Acyc (f : Nat → Int) (n : Nat) : Prop := ∀ i, i < n → upH f i n < 0
def depH (f : Nat → Int) (n i : Nat) : Nat := fst1 (fun s => decide (upH f i s < 0)) n
theorem dep_in (h : s < depH f n i) : 0 ≤ upH f i s := by
 have := fst1_no h
 simp only [decide_eq_false_iff_not] at this
 omega
theorem dep_end (h : upH f i n < 0) : upH f i (depH f n i) < 0 := by
 by_cases h2 : depH f n i < n
 · have h3 : decide (upH f i (depH f n i) < 0) = true := fst1_yes (p := fun s => decide (upH f i s < 0)) h2
   exact of_decide_eq_true h3
 · have h3 : depH f n i ≤ n := fst1_le
   have : depH f n i = n := by omega
   rw [this]; exact h
theorem dep_le : depH f n i ≤ n := fst1_le
theorem dep_eq (h1 : ∀ t, t < s → 0 ≤ upH f i t) (h2 : upH f i s < 0) (hs : s ≤ n) : depH f n i = s :=
 fst1_uniq hs (fun j hj => by have := h1 j hj; simp only [decide_eq_false_iff_not]; omega) (fun _ => by simpa using h2)
theorem dep_mother (ha : Acyc f n) (hf : Mo f n) (hi : i < n) (h : 0 ≤ f i) : depH f n i = depH f n (f i).toNat + 1 := by
  have hm : (f i).toNat < n := by have := hf i hi; omega
  have e1 := dep_end (ha _ hm)
  have hi2 : upH f i (depH f n (f i).toNat + 1) < 0 := by rw [upH_one h]; exact e1
  have hin : ∀ t, t < depH f n (f i).toNat + 1 → 0 ≤ upH f i t := fun t ht => by
    cases t with
    | zero => simp only [upH]; omega
    | succ t => rw [upH_one h]; exact dep_in (n := n) (by omega)
  refine dep_eq hin hi2 ?_
  by_cases h9 : depH f n (f i).toNat + 1 ≤ n
  · exact h9
  · have := hin n (by omega)
    have := ha i hi
    omega
end
end Go.Proofs.YtceokmaddbdnfaaGreat
namespace Go.Proofs.YtceokmaddbdnfaaGreat
set_option linter.all false
set_option linter.unusedVariables false
set_option linter.unusedSimpArgs false
abbrev BSt := Nat → Int × Int
def Con (f : Nat → Int) (n : Nat) (C : BSt) : Prop := ∀ i, i < n → 0 ≤ f i → (C (f i).toNat).1 + 1400 ≤ (C i).1 ∧ (C i).2 ≤ (C (f i).toNat).2 + 10000 ∧ (C i).1 - 10000 ≤ (C (f i).toNat).1 ∧ (C (f i).toNat).2 ≤ (C i).2 - 1400
def SubS (n : Nat) (C S : BSt) : Prop := ∀ i, i < n → (S i).1 ≤ (C i).1 ∧ (C i).2 ≤ (S i).2
theorem SubS.refl {n : Nat} {S : BSt} : SubS n S S := fun _ _ => ⟨Int.le_refl _, Int.le_refl _⟩
theorem SubS.trans {n : Nat} {A B C : BSt} (h : SubS n A B) (k : SubS n B C) : SubS n A C := fun i hi => ⟨Int.le_trans (k i hi).1 (h i hi).1, Int.le_trans (h i hi).2 (k i hi).2⟩
structure Wid (f : Nat → Int) (n : Nat) (own R : BSt) : Prop where
 con : Con f n R
 sub : SubS n R own
 top : ∀ C, Con f n C → SubS n C own → SubS n C R
theorem Wid.uniq {f : Nat → Int} {n : Nat} {own R R' : BSt} (h : Wid f n own R) (k : Wid f n own R') : ∀ i, i < n → R i = R' i := fun i hi => by
 have h1 := k.top R h.con h.sub i hi
 have h2 := h.top R' k.con k.sub i hi
 exact Prod.ext (Int.le_antisymm h2.1 h1.1) (Int.le_antisymm h1.2 h2.2)
def putS1 (S : BSt) (i : Nat) (x : Int × Int) : BSt := fun j => if j = i then x else S j
theorem putS1_at {S : BSt} {i : Nat} {x : Int × Int} : putS1 S i x i = x := if_pos rfl
theorem putS1_ne {S : BSt} {i j : Nat} {x : Int × Int} (h : j ≠ i) : putS1 S i x j = S j := if_neg h
def comm (a b : Int × Int) : Int × Int := (max a.1 b.1, min a.2 b.2)
def shf (a : Int × Int) (lo hi : Int) : Int × Int := (a.1 + lo, a.2 + hi)
def upS (f : Nat → Int) (S : BSt) (i : Nat) : BSt := if 0 ≤ f i then putS1 S (f i).toNat (comm (S (f i).toNat) (shf (S i) (-10000) (-1400))) else S
def dnS (f : Nat → Int) (S : BSt) (i : Nat) : BSt := if 0 ≤ f i then putS1 S i (comm (S i) (shf (S (f i).toNat) 1400 10000)) else S
def upP (f : Nat → Int) (S : BSt) (L : List Nat) : BSt := L.foldl (upS f) S
def dnP (f : Nat → Int) (S : BSt) (L : List Nat) : BSt := L.foldl (dnS f) S
def bthP (f : Nat → Int) (S : BSt) (L : List Nat) : BSt := dnP f (upP f S L) L.reverse
structure Ordd (f : Nat → Int) (n : Nat) (L : List Nat) : Prop where
 mem : ∀ i, i ∈ L ↔ i < n
 nd : L.Nodup
 pw : L.Pairwise fun a b => depH f n b ≤ depH f n a
section
variable {f : Nat → Int} {n : Nat} {S C : BSt} {i : Nat}
theorem upS_sub (hf : Mo f n) (hi : i < n) : SubS n (upS f S i) S := fun j hj => by
 unfold upS
 split
 · by_cases e : j = (f i).toNat
   · subst e; rw [putS1_at]; unfold comm; dsimp only; omega
   · rw [putS1_ne e]; omega
 · omega
theorem dnS_sub : SubS n (dnS f S i) S := fun j hj => by
 unfold dnS
 split
 · by_cases e : j = i
   · subst e; rw [putS1_at]; unfold comm; dsimp only; omega
   · rw [putS1_ne e]; omega
 · omega
theorem upS_top (hc : Con f n C) (hi : i < n) (h : SubS n C S) : SubS n C (upS f S i) := fun j hj => by
 unfold upS
 split
 · rename_i h0
   by_cases e : j = (f i).toNat
   · have h1 := hc i hi h0
     have h2 := h i hi
     have h3 := h j hj
     rw [← e] at h1
     subst e; rw [putS1_at]; unfold comm shf; dsimp only; omega
   · rw [putS1_ne e]; exact h j hj
 · exact h j hj
theorem dnS_top (hf : Mo f n) (hc : Con f n C) (hi : i < n) (h : SubS n C S) : SubS n C (dnS f S i) := fun j hj => by
 unfold dnS
 split
 · rename_i h0
   by_cases e : j = i
   · have h1 := hc i hi h0
     have h2 := h i hi
     have h3 := h (f i).toNat (by have := hf i hi; omega)
     subst e; rw [putS1_at]; unfold comm shf; dsimp only; omega
   · rw [putS1_ne e]; exact h j hj
 · exact h j hj
theorem upP_sub (hf : Mo f n) : ∀ {L : List Nat} {S : BSt}, (∀ i ∈ L, i < n) → SubS n (upP f S L) S
 | [], S, _ => SubS.refl
 | i :: L, S, h => (upP_sub hf (L := L) (S := upS f S i) fun j hj => h j (by simp [hj])).trans (upS_sub hf (h i (by simp)))
theorem dnP_sub : ∀ {L : List Nat} {S : BSt}, SubS n (dnP f S L) S
 | [], S => SubS.refl
 | i :: L, S => (dnP_sub (L := L) (S := dnS f S i)).trans dnS_sub
theorem upP_top (hc : Con f n C) : ∀ {L : List Nat} {S : BSt}, (∀ i ∈ L, i < n) → SubS n C S → SubS n C (upP f S L)
 | [], S, _, h => h
 | i :: L, S, hL, h => upP_top hc (L := L) (S := upS f S i) (fun j hj => hL j (by simp [hj])) (upS_top hc (hL i (by simp)) h)
theorem dnP_top (hf : Mo f n) (hc : Con f n C) : ∀ {L : List Nat} {S : BSt}, (∀ i ∈ L, i < n) → SubS n C S → SubS n C (dnP f S L)
 | [], S, _, h => h
 | i :: L, S, hL, h => dnP_top hf hc (L := L) (S := dnS f S i) (fun j hj => hL j (by simp [hj])) (dnS_top hf hc (hL i (by simp)) h)
def UpOk (f : Nat → Int) (S : BSt) (i : Nat) : Prop := 0 ≤ f i → (S i).1 - 10000 ≤ (S (f i).toNat).1 ∧ (S (f i).toNat).2 ≤ (S i).2 - 1400
theorem upP_ok (hf : Mo f n) (ha : Acyc f n) : ∀ (L : List Nat) (S : BSt) (D : Nat → Prop), (∀ i ∈ L, i < n) → (∀ i, D i → i < n) → (∀ i, D i → ∀ q ∈ L, depH f n q ≤ depH f n i) → L.Pairwise (fun a b => depH f n b ≤ depH f n a) → (∀ i, D i → UpOk f S i) → ∀ i, (D i ∨ i ∈ L) → UpOk f (upP f S L) i
  | [], S, D, _, _, _, _, h, i, hi => h i (by simpa using hi)
  | q :: L, S, D, hL, hD, hDL, hp, h, i, hi => by
    have hq := hL q (by simp)
    refine upP_ok hf ha L (upS f S q) (fun i => D i ∨ i = q) (fun j hj => hL j (by simp [hj])) ?_ ?_ (List.pairwise_cons.1 hp).2 ?_ i ?_
    · rintro j (hj | rfl)
      · exact hD j hj
      · exact hq
    · rintro j (hj | rfl) r hr
      · exact hDL j hj r (by simp [hr])
      · exact (List.pairwise_cons.1 hp).1 r hr
    · intro j hj h0
      have hjn : j < n := by
        rcases hj with hj | rfl
        · exact hD j hj
        · exact hq
      unfold upS
      by_cases hfq : 0 ≤ f q
      · rw [if_pos hfq]
        have hdm := dep_mother ha hf hq hfq
        have hjm : j ≠ (f q).toNat := by
          rintro rfl
          rcases hj with hj | hj
          · have := hDL _ hj q (by simp)
            omega
          · rw [hj] at hdm; omega
        rw [putS1_ne hjm]
        rcases hj with hj | rfl
        · have h1 := h j hj h0
          by_cases e : (f j).toNat = (f q).toNat
          · rw [e, putS1_at]; rw [e] at h1; unfold comm; dsimp only; omega
          · rw [putS1_ne e]; exact h1
        · rw [putS1_at]; unfold comm shf; dsimp only; omega
      · rw [if_neg hfq]
        rcases hj with hj | rfl
        · exact h j hj h0
        · exact absurd h0 hfq
    · rcases hi with hi | hi
      · exact .inl (.inl hi)
      · rcases List.mem_cons.1 hi with rfl | hi
        · exact .inl (.inr rfl)
        · exact .inr hi
def DnOk (f : Nat → Int) (U S : BSt) (i : Nat) : Prop := (0 ≤ f i → S i = comm (U i) (shf (S (f i).toNat) 1400 10000)) ∧ (¬ 0 ≤ f i → S i = U i)
theorem dnP_ok (hf : Mo f n) (ha : Acyc f n) (U : BSt) : ∀ (L : List Nat) (S : BSt) (D : Nat → Prop), (∀ i ∈ L, i < n) → (∀ i, D i → i < n) → (∀ i, D i → i ∉ L) → (∀ i, D i → ∀ q ∈ L, depH f n i ≤ depH f n q) → L.Pairwise (fun a b => depH f n a ≤ depH f n b) → L.Nodup → (∀ i, D i → DnOk f U S i) → (∀ i, ¬ D i → S i = U i) → ∀ i, (D i ∨ i ∈ L) → DnOk f U (dnP f S L) i
 | [], S, D, _, _, _, _, _, _, h, _, i, hi => h i (by simpa using hi)
 | q :: L, S, D, hL, hD, hDn, hDL, hp, hnd, h, hU, i, hi => by
  have hq := hL q (by simp)
  have hqD : ¬ D q := fun hd => hDn q hd (by simp)
  have hn := List.nodup_cons.1 hnd
  refine dnP_ok hf ha U L (dnS f S q) (fun i => D i ∨ i = q) (fun j hj => hL j (by simp [hj])) ?_ ?_ ?_ (List.pairwise_cons.1 hp).2 hn.2 ?_ ?_ i ?_
  · rintro j (hj | rfl)
    · exact hD j hj
    · exact hq
  · rintro j (hj | rfl)
    · exact fun h9 => hDn j hj (by simp [h9])
    · exact hn.1
  · rintro j (hj | rfl) r hr
    · exact hDL j hj r (by simp [hr])
    · exact (List.pairwise_cons.1 hp).1 r hr
  · intro j hj
    unfold dnS
    by_cases hfq : 0 ≤ f q
    · rw [if_pos hfq]
      have hdm := dep_mother ha hf hq hfq
      rcases hj with hj | rfl
      · have hjq : j ≠ q := fun e => hqD (e ▸ hj)
        unfold DnOk
        rw [putS1_ne hjq]
        refine ⟨fun h0 => ?_, (h j hj).2⟩
        have hmq : (f j).toNat ≠ q := fun e => by
         have h1 := dep_mother ha hf (hD j hj) h0
         have h2 := hDL j hj q (by simp)
         rw [e] at h1; omega
        rw [putS1_ne hmq]
        exact (h j hj).1 h0
      · refine ⟨fun _ => ?_, fun h0 => absurd hfq h0⟩
        have hmj : (f j).toNat ≠ j := fun e => by rw [e] at hdm; omega
        rw [putS1_at, putS1_ne hmj, hU j hqD]
    · rw [if_neg hfq]
      rcases hj with hj | rfl
      · exact h j hj
      · exact ⟨fun h0 => absurd h0 hfq, fun _ => hU j hqD⟩
  · intro j hj
    have hjq : j ≠ q := fun e => hj (.inr e)
    unfold dnS
    split
    · rw [putS1_ne hjq]; exact hU j fun h9 => hj (.inl h9)
    · exact hU j fun h9 => hj (.inl h9)
  · rcases hi with hi | hi
    · exact .inl (.inl hi)
    · rcases List.mem_cons.1 hi with rfl | hi
      · exact .inl (.inr rfl)
      · exact .inr hi
theorem bth_wid (hf : Mo f n) (ha : Acyc f n) {L : List Nat} (hL : Ordd f n L) : Wid f n S (bthP f S L) := by
 have hm : ∀ i ∈ L, i < n := fun i hi => (hL.mem i).1 hi
 have hmr : ∀ i ∈ L.reverse, i < n := fun i hi => hm i (List.mem_reverse.1 hi)
 refine ⟨?_, ?_, fun C hc hs => dnP_top hf hc hmr (upP_top hc hm hs)⟩
 · have hU := upP_ok hf ha L S (fun _ => False) hm (fun _ h => h.elim) (fun _ h => h.elim) hL.pw (fun _ h => h.elim)
   have hD := dnP_ok hf ha (upP f S L) L.reverse (upP f S L) (fun _ => False) hmr (fun _ h => h.elim) (fun _ h => h.elim) (fun _ h => h.elim) (List.pairwise_reverse.2 hL.pw) ((List.reverse_perm L).nodup_iff.2 hL.nd) (fun _ h => h.elim) (fun _ _ => rfl)
   intro i hi h0
   have h1 := hU i (.inr ((hL.mem i).2 hi)) h0
   have h2 := (hD i (.inr (List.mem_reverse.2 ((hL.mem i).2 hi)))).1 h0
   have h3 := dnP_sub (f := f) (n := n) (L := L.reverse) (S := upP f S L) (f i).toNat (by have := hf i hi; omega)
   have e : bthP f S L = dnP f (upP f S L) L.reverse := rfl
   rw [e, h2]
   unfold comm shf
   dsimp only
   omega
 · exact (dnP_sub (L := L.reverse) (S := upP f S L)).trans (upP_sub hf hm)
end
def ordL (f : Nat → Int) (n : Nat) : Nat → List Nat
 | 0 => []
 | d + 1 => ((List.range n).filter fun i => decide (depH f n i = d)) ++ ordL f n d
theorem ordL_mem {f : Nat → Int} {n i : Nat} : ∀ {d}, i ∈ ordL f n d ↔ i < n ∧ depH f n i < d
 | 0 => by simp [ordL]
 | d + 1 => by
  simp only [ordL, List.mem_append, ordL_mem (d := d), List.mem_filter, List.mem_range, decide_eq_true_eq]
  omega
theorem ordL_ok {f : Nat → Int} {n : Nat} : Ordd f n (ordL f n (n + 1)) := by
 refine ⟨fun i => ⟨fun h => (ordL_mem.1 h).1, fun h => ordL_mem.2 ⟨h, by have := dep_le (f := f) (n := n) (i := i); omega⟩⟩, ?_, ?_⟩
 · suffices h : ∀ d, (ordL f n d).Nodup from h _
   intro d
   induction d with
   | zero => exact List.nodup_nil
   | succ d ih =>
    refine List.nodup_append.2 ⟨List.nodup_range.filter _, ih, fun a ha b hb e => ?_⟩
    subst e
    have h1 := (List.mem_filter.1 ha).2
    have h2 := (ordL_mem.1 hb).2
    simp only [decide_eq_true_eq] at h1
    omega
 · suffices h : ∀ d, (ordL f n d).Pairwise fun a b => depH f n b ≤ depH f n a from h _
   intro d
   induction d with
   | zero => exact List.Pairwise.nil
   | succ d ih =>
    refine List.pairwise_append.2 ⟨?_, ih, fun a ha b hb => ?_⟩
    · have : ∀ l : List Nat, (∀ a ∈ l, depH f n a = d) → l.Pairwise fun a b => depH f n b ≤ depH f n a := by
       intro l
       induction l with
       | nil => exact fun _ => List.Pairwise.nil
       | cons x l ih => exact fun h => List.pairwise_cons.2 ⟨fun b hb => by rw [h x (by simp), h b (by simp [hb])]; exact Nat.le_refl _, ih fun a ha => h a (by simp [ha])⟩
      exact this _ fun a ha => by simpa using (List.mem_filter.1 ha).2
    · have h1 := (List.mem_filter.1 ha).2
      have h2 := (ordL_mem.1 hb).2
      simp only [decide_eq_true_eq] at h1
      omega
def bth (f : Nat → Int) (n : Nat) (S : BSt) : BSt := bthP f S (ordL f n (n + 1))
def bthOk (f : Nat → Int) (n : Nat) (S : BSt) : Bool := (List.range n).all fun i => decide ((bth f n S i).1 ≤ (bth f n S i).2)
theorem bthOk_iff {f : Nat → Int} {n : Nat} {S : BSt} : bthOk f n S = true ↔ ∀ i, i < n → (bth f n S i).1 ≤ (bth f n S i).2 := by simp [bthOk]
section
variable {f : Nat → Int} {n : Nat} {S R : BSt}
theorem bth_w (hf : Mo f n) (ha : Acyc f n) : Wid f n S (bth f n S) := bth_wid hf ha ordL_ok
theorem bth_eq (hf : Mo f n) (ha : Acyc f n) (h : Wid f n S R) : ∀ i, i < n → R i = bth f n S i := h.uniq (bth_w hf ha)
def wid (S : BSt) : Nat → Nat
 | 0 => 0
 | n + 1 => wid S n + ((S n).2 - (S n).1 + 1).toNat
theorem wid_lt {S S' : BSt} : ∀ {n}, (∀ i, i < n → ((S' i).2 - (S' i).1 + 1).toNat ≤ ((S i).2 - (S i).1 + 1).toNat) → wid S' n ≤ wid S n ∧ ((∃ i, i < n ∧ ((S' i).2 - (S' i).1 + 1).toNat < ((S i).2 - (S i).1 + 1).toNat) → wid S' n < wid S n)
  | 0, _ => ⟨Nat.le_refl _, fun ⟨i, hi, _⟩ => absurd hi (Nat.not_lt_zero i)⟩
  | n + 1, h => by
    obtain ⟨h1, h2⟩ := wid_lt (S := S) (S' := S') (n := n) fun i hi => h i (by omega)
    have h3 := h n (by omega)
    refine ⟨by simp only [wid]; omega, fun ⟨i, hi, hlt⟩ => ?_⟩
    by_cases e : i = n
    · subst e; simp only [wid]; omega
    · have := h2 ⟨i, by omega, hlt⟩
      simp only [wid]; omega
def nrA (S : BSt) (i m : Nat) : Int × Int := comm (S i) (shf (S m) 1400 10000)
def nrB (S : BSt) (i m : Nat) : Int × Int := comm (S m) (shf (S i) (-10000) (-1400))
def nrS (S : BSt) (i m : Nat) : BSt := putS1 (putS1 S i (nrA S i m)) m (nrB S i m)
theorem nr_sub {i m : Nat} : SubS n (nrS S i m) S := fun j hj => by
 unfold nrS
 by_cases e : j = m
 · subst e; rw [putS1_at]; unfold nrB comm shf; dsimp only; omega
 · rw [putS1_ne e]
   by_cases e2 : j = i
   · subst e2; rw [putS1_at]; unfold nrA comm shf; dsimp only; omega
   · rw [putS1_ne e2]; omega
theorem nr_top {C : BSt} {i : Nat} (hf : Mo f n) (hc : Con f n C) (hi : i < n) (h0 : 0 ≤ f i) (h : SubS n C S) : SubS n C (nrS S i (f i).toNat) := fun j hj => by
 have h1 := hc i hi h0
 have h2 := h i hi
 have h3 := h (f i).toNat (by have := hf i hi; omega)
 unfold nrS
 by_cases e : j = (f i).toNat
 · rw [e, putS1_at]; unfold nrB comm shf; dsimp only; omega
 · rw [putS1_ne e]
   by_cases e2 : j = i
   · rw [e2, putS1_at]; unfold nrA comm shf; dsimp only; omega
   · rw [putS1_ne e2]; exact h j hj
theorem nr_wid {i m : Nat} (hi : i < n) (hm : m < n) (him : i ≠ m) (hA : (nrA S i m).1 ≤ (nrA S i m).2) (hB : (nrB S i m).1 ≤ (nrB S i m).2) (h : nrA S i m ≠ S i ∨ nrB S i m ≠ S m) : wid (nrS S i m) n < wid S n := by
 refine (wid_lt (S := S) (S' := nrS S i m) fun j hj => ?_).2 ?_
 · have := nr_sub (n := n) (S := S) (i := i) (m := m) j hj
   omega
 · have hai := nr_sub (n := n) (S := S) (i := i) (m := m) i hi
   have hbm := nr_sub (n := n) (S := S) (i := i) (m := m) m hm
   have ei : nrS S i m i = nrA S i m := by unfold nrS; rw [putS1_ne him, putS1_at]
   have em : nrS S i m m = nrB S i m := putS1_at
   rw [ei] at hai
   rw [em] at hbm
   rcases h with h | h
   · refine ⟨i, hi, ?_⟩
     rw [ei]
     have hne : ¬ ((nrA S i m).1 = (S i).1 ∧ (nrA S i m).2 = (S i).2) := fun e => h (Prod.ext e.1 e.2)
     omega
   · refine ⟨m, hm, ?_⟩
     rw [em]
     have hne : ¬ ((nrB S i m).1 = (S m).1 ∧ (nrB S i m).2 = (S m).2) := fun e => h (Prod.ext e.1 e.2)
     omega
theorem nr_same {i m : Nat} (h1 : nrA S i m = S i) (h2 : nrB S i m = S m) : ((S m).1 + 1400 ≤ (S i).1 ∧ (S i).2 ≤ (S m).2 + 10000 ∧ (S i).1 - 10000 ≤ (S m).1 ∧ (S m).2 ≤ (S i).2 - 1400) ∧ nrS S i m = S := by
 refine ⟨?_, ?_⟩
 · unfold nrA nrB comm shf at *
   have a1 := congrArg Prod.fst h1
   have a2 := congrArg Prod.snd h1
   have b1 := congrArg Prod.fst h2
   have b2 := congrArg Prod.snd h2
   dsimp only at *
   omega
 · funext j
   unfold nrS
   by_cases e : j = m
   · rw [e, putS1_at, h2]
   · rw [putS1_ne e]
     by_cases e2 : j = i
     · rw [e2, putS1_at, h1]
     · rw [putS1_ne e2]
end
end Go.Proofs.YtceokmaddbdnfaaGreat
namespace Go.Proofs.YtceokmaddbdnfaaGreat
set_option linter.all false
set_option linter.unusedVariables false
set_option linter.unusedSimpArgs false
structure Hd where
 n : Nat
 id : Nat → Int
 mo : Nat → Int
 lo : Nat → Int
 hi : Nat → Int
 ml : Nat → Nat
 sp : Nat → Nat → Int
 sg : Nat → Nat → Int
def atH (H : Hd) (x : Int) : Int := atI (fun i => decide (H.id i = x)) H.n
def moH (H : Hd) (i : Nat) : Int := if H.mo i = -1 then -1 else atH H (H.mo i)
def bornH (H : Hd) : BSt := fun i => (H.lo i, H.hi i)
def markB (H : Hd) (i k : Nat) : Bool := inB5 0 7 (H.sp i k) && inB5 1 20 (H.sg i k) && allB k fun j => !decide (H.sp i j = H.sp i k)
def marksB (H : Hd) (i : Nat) : Bool := allB (H.ml i) (markB H i)
def an1B (H : Hd) (i : Nat) : Bool := inB5 0 9999 (H.id i) && decide (atH H (H.id i) = (i : Int)) && ordB5 (-100000) 100000 (H.lo i) (H.hi i) && marksB H i
def an2B (H : Hd) (i : Nat) : Bool := decide (H.mo i = -1) || decide (0 ≤ atH H (H.mo i))
def endB (H : Hd) (i : Nat) : Bool := decide (upH (moH H) i H.n < 0)
def herdB (H : Hd) : Bool := decide ((H.n : Int) ≤ 16) && allB H.n (an1B H) && allB H.n (an2B H) && allB H.n (endB H)
def sgK (H : Hd) (i : Nat) : Nat → Nat → Int
 | 0 => fun _ => 0
 | k + 1 => fun s => if s = (H.sp i k).toNat then H.sg i k else sgK H i k s
def sgH (H : Hd) (i : Nat) : Nat → Int := sgK H i (H.ml i)
section
variable {H : Hd} {i k s : Nat} {x : Int}
theorem mo_bd (h : H.n ≠ 0) : -1 ≤ moH H i ∧ moH H i < H.n := by
 unfold moH
 split
 · omega
 · have h1 := atI_bd (p := fun j => decide (H.id j = H.mo i)) (n := H.n)
   unfold atH
   omega
theorem moH_Mo : Mo (moH H) H.n := fun i hi => mo_bd (by omega)
structure HOk (H : Hd) : Prop where
 n16 : H.n ≤ 16
 id : ∀ i, i < H.n → 0 ≤ H.id i ∧ H.id i ≤ 9999
 at_ : ∀ i, i < H.n → atH H (H.id i) = i
 bd : ∀ i, i < H.n → -100000 ≤ H.lo i ∧ H.lo i ≤ H.hi i ∧ H.hi i ≤ 100000
 mks : ∀ i, i < H.n → marksB H i = true
 mo : ∀ i, i < H.n → H.mo i = -1 ∨ 0 ≤ atH H (H.mo i)
 ac : Acyc (moH H) H.n
theorem herdB_ok : herdB H = true ↔ HOk H := by
 unfold herdB
 simp only [Bool.and_eq_true, decide_eq_true_eq, allB_iff]
 constructor
 · rintro ⟨⟨⟨h1, h2⟩, h3⟩, h4⟩
   have h2' := fun i hi => by
     have := h2 i hi
     unfold an1B at this
     simp only [inB5, ordB5, Bool.and_eq_true, decide_eq_true_eq] at this
     exact this
   refine ⟨by omega, fun i hi => (h2' i hi).1.1.1, fun i hi => (h2' i hi).1.1.2, fun i hi => ⟨(h2' i hi).1.2.1.1, (h2' i hi).1.2.1.2, (h2' i hi).1.2.2⟩, fun i hi => (h2' i hi).2, fun i hi => ?_, fun i hi => ?_⟩
   · have := h3 i hi
     unfold an2B at this
     simpa only [Bool.or_eq_true, decide_eq_true_eq] using this
   · have := h4 i hi
     unfold endB at this
     simpa only [decide_eq_true_eq] using this
 · intro h
   have h16 := h.n16
   refine ⟨⟨⟨by omega, fun i hi => ?_⟩, fun i hi => ?_⟩, fun i hi => ?_⟩
   · unfold an1B
     simp only [inB5, ordB5, Bool.and_eq_true, decide_eq_true_eq]
     exact ⟨⟨⟨h.id i hi, h.at_ i hi⟩, ⟨(h.bd i hi).1, (h.bd i hi).2.1⟩, (h.bd i hi).2.2⟩, h.mks i hi⟩
   · unfold an2B
     simp only [Bool.or_eq_true, decide_eq_true_eq]
     exact h.mo i hi
   · unfold endB
     simp only [decide_eq_true_eq]
     exact h.ac i hi
theorem HOk.inj (h : HOk H) {j : Nat} (hi : i < H.n) (hj : j < H.n) (e : H.id i = H.id j) : i = j := by
 have h1 := h.at_ i hi
 have h2 := h.at_ j hj
 rw [e, h2] at h1
 omega
theorem HOk.mid (h : HOk H) (hi : i < H.n) (h0 : 0 ≤ moH H i) : H.id (moH H i).toNat = H.mo i ∧ (moH H i).toNat < H.n ∧ moH H i = atH H (H.mo i) := by
 unfold moH at h0 ⊢
 split
 · rename_i h1; rw [if_pos h1] at h0; omega
 · rename_i h1
   rw [if_neg h1] at h0
   have := atI_le (p := fun j => decide (H.id j = H.mo i)) (n := H.n) h0
   exact ⟨of_decide_eq_true this.2.1, this.1, rfl⟩
theorem at_first (hi : i < H.n) : atH H (H.id i) = (i : Int) ↔ ∀ j, j < i → H.id j ≠ H.id i := by
 unfold atH
 constructor
 · intro h j hj e
   have h1 := atI_le (p := fun j => decide (H.id j = H.id i)) (n := H.n) (by omega)
   have h2 : fst1 (fun j => decide (H.id j = H.id i)) H.n = i := by
    unfold atI at h
    split at h <;> omega
   have := fst1_no (p := fun j => decide (H.id j = H.id i)) (n := H.n) (j := j) (by omega)
   simp only [decide_eq_false_iff_not] at this
   exact this e
 · intro h
   exact atI_eq hi (by simp) fun j hj => by simpa using h j hj
theorem sgK_pos (hm : ∀ j, j < k → inB5 0 7 (H.sp i j) = true ∧ inB5 1 20 (H.sg i j) = true) : 0 ≤ sgK H i k s ∧ sgK H i k s ≤ 20 ∧ (sgK H i k s ≠ 0 ↔ ∃ j, j < k ∧ (H.sp i j).toNat = s) := by
 induction k with
 | zero => simp [sgK]
 | succ k ih =>
  have ih := ih fun j hj => hm j (by omega)
  have h1 := hm k (by omega)
  simp only [inB5, Bool.and_eq_true, decide_eq_true_eq] at h1
  simp only [sgK]
  by_cases e : s = (H.sp i k).toNat
  · rw [if_pos e]
    refine ⟨by omega, by omega, ⟨fun _ => ⟨k, by omega, e.symm⟩, fun _ => by omega⟩⟩
  · rw [if_neg e]
    refine ⟨ih.1, ih.2.1, ih.2.2.trans ⟨fun ⟨j, hj, h⟩ => ⟨j, by omega, h⟩, fun ⟨j, hj, h⟩ => ?_⟩⟩
    by_cases e2 : j = k
    · subst e2; exact absurd h.symm e
    · exact ⟨j, by omega, h⟩
theorem mark_step (hm : ∀ j, j < k → markB H i j = true) (h7 : inB5 0 7 (H.sp i k) = true) (h20 : inB5 1 20 (H.sg i k) = true) : sgK H i k (H.sp i k).toNat = 0 ↔ markB H i k = true := by
 have hm2 : ∀ j, j < k → inB5 0 7 (H.sp i j) = true ∧ inB5 1 20 (H.sg i j) = true := fun j hj => by
   have := hm j hj
   unfold markB at this
   simp only [Bool.and_eq_true] at this
   exact this.1
 have h := (sgK_pos (s := (H.sp i k).toNat) hm2).2.2
 unfold markB
 rw [h7, h20, Bool.true_and, Bool.true_and, allB_iff]
 constructor
 · intro h0 j hj
   have h9 : ¬ ∃ j, j < k ∧ (H.sp i j).toNat = (H.sp i k).toNat := fun h9 => h.2 h9 h0
   simp only [Bool.not_eq_true', decide_eq_false_iff_not]
   exact fun e => h9 ⟨j, hj, by rw [e]⟩
 · intro h1
   by_cases h2 : sgK H i k (H.sp i k).toNat = 0
   · exact h2
   · obtain ⟨j, hj, e⟩ := h.1 h2
     have h3 := h1 j hj
     have h4 := (hm2 j hj).1
     simp only [inB5, Bool.and_eq_true, decide_eq_true_eq, Bool.not_eq_true', decide_eq_false_iff_not] at h3 h4 h7
     omega
theorem marks_no (hk : k < H.ml i) (h : markB H i k = false) : marksB H i = false := by
 cases h2 : marksB H i with
 | false => rfl
 | true =>
  have := allB_iff.1 h2 k hk
  rw [h] at this; cases this
end
end Go.Proofs.YtceokmaddbdnfaaGreat
namespace Go.Proofs.YtceokmaddbdnfaaGreat
set_option linter.all false
set_option linter.unusedVariables false
set_option linter.unusedSimpArgs false
open Go.RowKit
section
variable {l : Nat} {c : Cx} {Q : Exit → Act → World → Prop} {F F' : Fr} {K K' K0 : List Fact}
def IterR (P : Program) (gf : FuncId) (lb : List Value) (M : List Fact) (G : Type) (enc : Nat → G → List Value) (Y Y' : Nat → G → List Fact) (N : Nat) (L : List Fact) (S : List Nat) (w0 : World) (R : Type) (J : Nat → R → List Fact) : Prop :=
 ∀ (l : Nat) (Rx : Type) (Jx : Rx → List Fact) (r0 : R) (w : World), Sat S w0 (M ++ J 0 r0) w →
  (∀ q g r w', q < N → Sat S w0 (Y q g ++ J q r) w' → YieldAt Fence.wide 0 P l (enc q g).toArray w' fun e w'' => (e = .returned (.bool true) ∧ ∃ r', Sat S w0 (Y' q g ++ J (q + 1) r') w'') ∨ (e = .returned (.bool false) ∧ ∃ x, Sat S w0 (Y' q g ++ Jx x) w'')) →
  Calls P gf (.func (.yield l) #[] #[] :: lb).toArray w fun e w' => (∃ v, e = .returned v) ∧ ((∃ r, Sat S w0 (L ++ J N r) w') ∨ ∃ x, Sat S w0 (Jx x) w')
theorem IterK.at {P : Program} {gf : FuncId} {lb : List Value} {M L : List Fact} {G : Type} {enc : Nat → G → List Value} {Y Y' : Nat → G → List Fact} {N : Nat} {S : List Nat} {w0 : World} (h : IterK P gf lb M G enc Y Y' N L S w0) {R : Type} {J : Nat → R → List Fact} : IterR P gf lb M G enc Y Y' N L S w0 R J := fun l Rx Jx r0 w => h l R Rx J Jx r0 w
theorem TW.rangeR {g : Operand} {ps : List Tmp} {assign body : Code} {gf : Nat} {lb : List Value} {M L : List Fact} {G R Rx : Type} {enc : Nat → G → List Value} {Y Y' : Nat → G → List Fact} {N : Nat} (J : Nat → R → List Fact) (jx : Rx → Code) (Jx : Rx → List Fact) (r0 : R)
    (it : ∀ x y : Fact, IterR c.P gf lb M G enc Y Y' N L c.S c.w0 R fun q r => x :: y :: J q r) (hKs : KSub K (M ++ J 0 r0))
    (round : ∀ (l D : Nat) (o1 o1' o2 : Obj) (q : Nat) (g : G) (r : R), q < N → ∀ Z : Act → World → Prop,
      (∀ F2 K1 K2, Pick K1 (.obj l o1) K2 → TWi l { c with D := [] } body (RB { c with D := [] } (fun r' => .obj l o1' :: .obj D o2 :: (Y' q g ++ J (q + 1) r')) jx (fun x => .obj l o1' :: .obj D o2 :: (Y' q g ++ Jx x))) F2 (.obj l o1' :: K2) → TQ { c with D := [] } (fun _ => Z) .normal F2 K1) →
      TWi l { c with D := [] } assign (Exit.then Z (fun _ _ _ => False)) (putF ps (enc q g) F) (.obj l o1 :: .obj D o2 :: (Y q g ++ J q r)))
    (done : ∀ (D : Nat) (r : R), TQ { c with D := { target := .collected D, args := #[] } :: c.D } Q .normal F (.obj D (.deferred (some [])) :: (L ++ J N r)))
    (stop : ∀ (D : Nat) (x : Rx), TW { c with D := { target := .collected D, args := #[] } :: c.D } (jx x) Q F (.obj D (.deferred (some [])) :: Jx x))
    (hg : ev F g = some (.func (.func gf) #[] lb.toArray) := by rfl) (eg : Enters c.P gf) (hps : ∀ q g, (enc q g).length = ps.length := by (intro _ _; rfl)) (hpn : (ps.all fun p => Nat.blt p c.n) = true := by rfl) :
    TW c (.rangeFunc g ps.toArray assign body) Q F K := fun a w hF hK => by
  refine (wpIn_wide (n := 2)).1 (wpIn_rangeFunc fun fn _ => ?_)
  obtain ⟨rc, hrc⟩ : ∃ rc : LoopState → Option Code → Loop, rc = fun st pe => { state := st, pending := pe, fn, tmps := a.tmps, params := ps.toArray, assign, body, defers := w.heap.size } := ⟨_, rfl⟩
  obtain ⟨W1, hW1⟩ : ∃ W1, (w.alloc (.deferred (some []))).alloc (.loop (rc .ready none)) = W1 := ⟨_, rfl⟩
  have hs := ((hK.sub hKs).newO (.deferred (some [])) rfl).newO (.loop (rc .ready none)) rfl
  rw [World.size_alloc, hW1] at hs
  have hFr : FS c.n ({ target := .collected w.heap.size, args := #[] } :: c.D) F { a with defers := [{ target := .collected w.heap.size, args := #[] }] ++ a.defers } := ⟨hF.size, by rw [hF.dfs]; rfl, hF.get⟩
  refine ⟨w.heap.size + 1, [{ target := .collected w.heap.size, args := #[] }], W1, { target := .fn (.func gf) lb.toArray, args := #[.func (.yield (w.heap.size + 1)) #[] #[]] }, W1, gf, (.func (.yield (w.heap.size + 1)) #[] #[] :: lb).toArray, W1, ?_, ?_, fun _ _ => trivial, ?_, fun _ => by decide, ?_⟩
  · rw [← hW1, hrc]; exact run_enterLoop_outer _ _ _ _ _
  · have := hF.evl hg
    simp only [resolve, this]
    simp [go_sem]
  · have := eg (.func (.yield (w.heap.size + 1)) #[] #[] :: lb).toArray W1
    have e : #[Value.func (.yield (w.heap.size + 1)) #[] #[]] ++ lb.toArray = (.func (.yield (w.heap.size + 1)) #[] #[] :: lb).toArray := by simp
    simp only [invoke, e]
    exact this
  · refine callsIn_wide.2 (Calls.mono (it (.obj (w.heap.size + 1) (.loop (rc .ready none))) (.obj w.heap.size (.deferred (some []))) (w.heap.size + 1) Rx (fun x => .obj (w.heap.size + 1) (.loop (rc .done (some (jx x)))) :: .obj w.heap.size (.deferred (some [])) :: Jx x) r0 W1 (hs.perm (perm_objs M _ _ _).symm) ?_) ?_)
    · intro q g r w' hq hw'
      replace hw' := hw'.perm (perm_objs _ _ _ _)
      have hl : w'.heap[w.heap.size + 1]? = some (.loop (rc .ready none)) := (hw'.holds (.obj _ _) (by simp)).1
      have hy := run_yield (P := c.P) (args := (enc q g).toArray) hl (by rw [hrc]; simp [hps q g])
      rw [hrc] at hy
      refine ⟨fn, _, assign, body, hy, roundIn_of_wpIn trivial ?_⟩
      have hF0 : FS c.n [] F { tmps := a.tmps, defers := [] } := ⟨hF.size, rfl, hF.get⟩
      have hF1 := hF0.putF (vs := enc q g) hpn
      simp only [List.zip_toArray, List.foldl_toArray]
      refine round (w.heap.size + 1) w.heap.size (.loop (rc .ready none)) (.loop { rc .ready none with state := .busy }) (.deferred (some [])) q g r hq _ ?_ _ w' hF1 hw'
      intro F2 K1 K2 hp hb a1 w1 hF2 hK1
      have h1 := hK1.pick hp
      have hl1 : w1.heap[w.heap.size + 1]? = some (.loop (rc .ready none)) := (h1.holds (.obj _ _) (by simp)).1
      refine ⟨_, run_beginRound hl1 (by rw [hrc]), wpIn_mono (hb a1 _ hF2 (h1.putO rfl)) ?_⟩
      have fin : ∀ (jump : Option Code) (w3 : World), w3.heap[w.heap.size + 1]? = some (.loop { rc .ready none with state := .busy }) → (Instr.endRound (w.heap.size + 1) jump).run c.P w3 = .ok (.bool jump.isNone) (w3.putObj (w.heap.size + 1) (.loop (rc (if jump.isNone then .ready else .done) jump))) := fun jump w3 h3 => by
        have := run_endRound (P := c.P) jump h3
        rw [hrc] at this ⊢
        exact this
      rintro e a3 w3 he
      cases e with
      | normal =>
        obtain ⟨r', h3⟩ := he
        exact ⟨_, _, fin none w3 (h3.holds (.obj _ _) (by simp)).1, .inl ⟨rfl, r', (h3.putO rfl).perm (perm_objs _ _ _ _).symm⟩⟩
      | ret =>
        obtain ⟨x, hx, h3⟩ := he
        exact ⟨_, _, fin (some .ret) w3 (h3.holds (.obj _ _) (by simp)).1, .inr ⟨rfl, x, by rw [hx]; exact (h3.putO rfl).perm (perm_objs _ _ _ _).symm⟩⟩
      | exit i =>
        obtain ⟨x, hx, h3⟩ := he
        exact ⟨_, _, fin (some (.exit i)) w3 (h3.holds (.obj _ _) (by simp)).1, .inr ⟨rfl, x, by rw [hx]; exact (h3.putO rfl).perm (perm_objs _ _ _ _).symm⟩⟩
      | goto t => exact he.elim
      | panic ch => exact he.elim
      | outgrown => exact he.elim
    · rintro e w2 ⟨⟨v, rfl⟩, ⟨r, h2⟩ | ⟨x, h2⟩⟩
      · replace h2 := h2.perm (perm_objs _ _ _ _)
        have hl : w2.heap[w.heap.size + 1]? = some (.loop (rc .ready none)) := (h2.holds (.obj _ _) (by simp)).1
        refine ⟨none, _, by have := run_endLoop (P := c.P) hl (by rw [hrc]; simp); rw [hrc] at this; exact this, ?_⟩
        exact done w.heap.size r _ _ hFr ((h2.putO rfl).sub (KSub.drop (KSub.refl _)))
      · have hl : w2.heap[w.heap.size + 1]? = some (.loop (rc .done (some (jx x)))) := (h2.holds (.obj _ _) (by simp)).1
        refine ⟨some (jx x), _, by have := run_endLoop (P := c.P) hl (by rw [hrc]; simp); rw [hrc] at this; exact this, ?_⟩
        exact (wpIn_wide (n := 2)).2 (stop w.heap.size x _ _ hFr ((h2.putO rfl).sub (KSub.drop (KSub.refl _))))
end
end Go.Proofs.YtceokmaddbdnfaaGreat
namespace Go.Proofs.YtceokmaddbdnfaaGreat
set_option linter.all false
set_option linter.unusedVariables false
set_option linter.unusedSimpArgs false
open Go.RowKit
theorem OwnR.blk {w : World} {b n : Nat} {E : TypeId} {sz : Nat} {r : Nat → List Value} (h : OwnR w (some ⟨b, 0, none⟩) n n E sz r) : Blk w b E (flatR n r).toArray := by
 rw [flatR_spec h.len]
 rcases h.own.2 with ⟨e, _⟩ | ⟨g, cap, cur, e, _, hh, _, _, hcs, ht⟩
 · cases e
 · simp only [Value.slice.injEq, Option.some.injEq, Addr.mk.injEq, and_true, true_and] at e
   obtain ⟨rfl, rfl⟩ := e
   have e2 : cur.toList = flat sz n (rowF r) := by
    rw [← ht, List.take_of_length_le]
    rw [Array.length_toList, hcs]
    exact Nat.le_refl _
   show w.heap[b]? = _
   rw [hh, ← e2]
theorem KSub.valI {K K' L : List Fact} {b : Nat} {E : TypeId} {k : IntKind} {i j : Int} (hp : Pick K (.blk b E [.int k i]) K') (e : i = j) (h : KSub K' L) : KSub K (.blk b E [.int k j] :: L) := by
 subst e; exact .cons hp h
structure ArrT (P : Program) (t E : TypeId) (n sz : Nat) : Prop where
 ht : P.underlying t = some (.array n E)
 hs : ∀ w, (sizeOf E).run P w = .ok sz w
theorem Pu.ea {c : Cx} {F : Fr} {K : List Fact} {d : Option Tmp} {t E ty : TypeId} {pos : String} {af : Array Edge} {g : Option (Nat × Bool)} {x y : Operand} {b n sz q : Nat} {kk : IntKind} {i : Int} (hT : ArrT c.P t E n sz) (hx : ev F x = some (.pointer (some ⟨b, 0, none⟩)) := by rfl) (hy : ev F y = some (.int kk i) := by rfl) (hk : i.toNat = q := by first | exact Int.toNat_natCast _ | rfl) (h0 : 0 ≤ i := by omega) (h1 : i < n := by omega) :
    Pu c F K ⟨d, .indexAddr t x y, ty, pos, af, g⟩ (.pointer (elA (some ⟨b, 0, none⟩) q sz 0)) := fun a w hF _ => by
  simp [execOp, hF.evl hx, hF.evl hy, Instr.indexAt, asIntOf, run_underlying hT.ht, Instr.sureAddr, h0, h1, hT.hs, elA, hk]
section
variable {c : Cx} {Q : Exit → Act → World → Prop} {F : Fr} {K K' : List Fact} {ops : Array Oper} {rest : List Oper}
theorem Sat.bo {S : List Nat} {w0 w : World} {b n : Nat} {E : TypeId} {sz : Nat} {r : Nat → List Value} {cs : List Value} (h : Sat S w0 (.own (some ⟨b, 0, none⟩) n n E sz r :: K) w) (hc : flatR n r = cs) : Sat S w0 (.blk b E cs :: K) w := by
 have hb := OwnR.blk (h.holds (.own (some ⟨b, 0, none⟩) n n E sz r) (by simp))
 subst hc
 exact ⟨h.chg, h.nd, h.ge, fun φ hφ => by
  rcases List.mem_cons.1 hφ with rfl | hφ
  · exact hb
  · exact h.holds φ (by simp [hφ])⟩
theorem TL.bo {b n : Nat} {E : TypeId} {sz : Nat} {r : Nat → List Value} {cs : List Value} (hp : Pick K (.own (some ⟨b, 0, none⟩) n n E sz r) K') (hc : flatR n r = cs) (h : TL c ops Q rest F (.blk b E cs :: K')) : TL c ops Q rest F K := fun a w hF hK => h a w hF ((hK.pick hp).bo hc)
end
end Go.Proofs.YtceokmaddbdnfaaGreat
namespace Go.Proofs.YtceokmaddbdnfaaGreat
set_option linter.all false
set_option linter.unusedVariables false
set_option linter.unusedSimpArgs false
open Go.RowKit Go.MapKept
section
variable {c : Cx} {Q : Exit → Act → World → Prop} {F : Fr} {K K' : List Fact} {d : Option Tmp} {ty : TypeId} {pos : String} {af : Array Edge} {g : Option (Nat × Bool)}
theorem TW.rebase {x : Code} (h : ∀ w1, Sat c.S c.w0 K w1 → TW ⟨c.P, c.n, c.D, [], w1⟩ x Q F []) : TW c x Q F K := fun a w hF hK => h w hK a w hF (Sat.start w)
theorem Pu.lkV {x y : Operand} {T kt et : TypeId} {kk : IntKind} {b : Nat} {i : Int} {z : Value} (v : Value) (is : Bool) {l : List (Int × Value)} (hT : MapT c.P T kt et kk) (hz : ∀ w, (zeroValue et).run c.P w = .ok z w) (hv : (mlook i l).getD z = v) (hi : (mlook i l).isSome = is) (hx : ev F x = some (.map (some b)) := by rfl) (hy : ev F y = some (.int kk i) := by rfl)
    (hp : Pick K (.obj b (mapO kk l)) K' := by repeat (first | exact Pick.hd | apply Pick.tl)) : Pu c F K ⟨d, .lookup T x y true, ty, pos, af, g⟩ (.tuple #[v, .bool is]) := by
  have h := Pu.lk (c := c) (F := F) (d := d) (ty := ty) (pos := pos) (af := af) (g := g) hT hz hx hy hp
  rw [hv, hi] at h
  exact h
end
end Go.Proofs.YtceokmaddbdnfaaGreat
