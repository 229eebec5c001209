/-
  The layer's rules for operations that change memory, calls, and regions that draw their order. No condition on a program.
-/
import Derived.Test.YtckiagbllkdfdaaKb
namespace Go.Proofs.Ytckiagbllkdfdaa
set_option linter.all false
set_option linter.unusedVariables false
set_option linter.unusedSimpArgs false
open Go.RowKit
/-- A new variable of type T holds zs. -/
def Zr (P : Program) (T : TypeId) (zs : List Value) : Prop := ∃ z : Value, z.cells = zs.toArray ∧ ∀ w, (zeroValue T).run P w = .ok z w
/-- A variable of type T is m cells. -/
def Sz (P : Program) (T : TypeId) (m : Nat) : Prop := ∀ w, (sizeOf T).run P w = .ok m w
def evp (F : Fr) : List (Nat × Operand) → Option (List (Nat × Value))
  | [] => some []
  | p :: xs => match ev F p.2 with
    | some v => match evp F xs with
      | some vs => some ((p.1, v) :: vs)
      | none => none
    | none => none
theorem FS.evpl {n : Nat} {D : List Deferred} {F : Fr} {a : Act} (h : FS n D F a) : ∀ {xs : List (Nat × Operand)} {vs : List (Nat × Value)}, evp F xs = some vs → xs.map (fun (i, x) => (i, a.eval x)) = vs
  | [], vs, hx => by cases hx; rfl
  | p :: xs, vs, hx => by
    simp only [evp] at hx
    cases h1 : ev F p.2 with
    | none => rw [h1] at hx; cases hx
    | some v =>
      rw [h1] at hx
      cases h2 : evp F xs with
      | none => rw [h2] at hx; cases hx
      | some us =>
        rw [h2] at hx
        injection hx with hx
        subst hx
        have h3 := FS.evpl h h2
        obtain ⟨i, x⟩ := p
        rw [List.map_cons, h3]
        show (i, a.eval x) :: us = (i, v) :: us
        rw [h.evl h1]
def setAll : List Value → Nat → List Value → List Value
  | xs, _, [] => xs
  | xs, j, y :: ys => setAll (xs.set j y) (j + 1) ys
theorem setAll_cons (x : Value) : ∀ (ys xs : List Value) (j : Nat), setAll (x :: xs) (j + 1) ys = x :: setAll xs j ys
  | [], _, _ => rfl
  | y :: ys, xs, j => by rw [setAll, List.set_cons_succ, setAll_cons x ys, setAll]
theorem PutL.spec {xs ys zs : List Value} {j : Nat} (h : PutL xs j ys zs) : zs = setAll xs j ys ∧ j + ys.length ≤ xs.length := by
  induction h with
  | nil => exact ⟨rfl, by simp⟩
  | put h ih => obtain ⟨rfl, h2⟩ := ih; exact ⟨by rw [setAll, List.set_cons_zero, setAll_cons], by simp at h2 ⊢; omega⟩
  | pass h ih => obtain ⟨rfl, h2⟩ := ih; exact ⟨by rw [setAll_cons], by simp at h2 ⊢; omega⟩
theorem run_storeCells_blk {P : Program} {b : Nat} {t : TypeId} : ∀ (vs cs : List Value) (off i : Nat) (w : World), Blk w b t cs.toArray → off + i + vs.length ≤ cs.length → vs.all Value.oneCell' = true →
    ∃ w', (storeCells ⟨b, off, none⟩ vs i).run P w = .ok () w' ∧ Blk w' b t (setAll cs (off + i) vs).toArray ∧ Chg [b] w w'
  | [], cs, off, i, w, h, _, _ => ⟨w, rfl, h, Chg.refl _ _⟩
  | v :: vs, cs, off, i, w, h, hl, ho => by
    simp only [List.all_cons, Bool.and_eq_true, List.length_cons] at ho hl
    have ha : (⟨b, off, none⟩ : Addr).add i = ⟨b, off + i, none⟩ := by
      unfold Addr.add; split
      · rename_i h0; rw [h0]; rfl
      · rfl
    have hc : w.cell? ⟨b, off + i, none⟩ = some (cs[off + i]'(by omega)) := by rw [h.cell]; simp
    have hs : Blk (w.setCell ⟨b, off + i, none⟩ v) b t (cs.set (off + i) v).toArray := by have := h.set_ (off + i) v; simpa using this
    obtain ⟨w', h1, h2, h3⟩ := run_storeCells_blk vs (cs.set (off + i) v) off (i + 1) _ hs (by simp; omega) ho.2
    refine ⟨w', ?_, h2, (Chg.setCell w ⟨b, off + i, none⟩ v).trans h3⟩
    simp only [storeCells, Sem.run_bind]
    rw [ha, run_store P w ⟨b, off + i, none⟩ v .plain ho.1, hc]
    simp only [h.frozen, Bool.false_eq_true, if_false, Result.andThen_ok]
    exact h1
def fput (F : Fr) (d : Option Tmp) (v : Value) : Fr := match d with
  | some t => (t, v) :: F
  | none => F
def dok (d : Option Tmp) (n : Nat) : Bool := match d with
  | some t => Nat.blt t n
  | none => true
theorem FS.fput {n : Nat} {D : List Deferred} {F : Fr} {a : Act} (h : FS n D F a) {d : Option Tmp} (hd : dok d n = true) (v : Value) : FS n D (fput F d v) (a.put d v) := by
  cases d with
  | none => exact h
  | some t => exact h.put hd v
def catR (n : Nat) (r g : Nat → List Value) : Nat → List Value := fun i => if i < n then r i else g (i - n)
def updR (r : Nat → List Value) (k : Nat) (row : List Value) : Nat → List Value := fun i => if i = k then row else r i
/-- In each world that is met the slice holds the rows g. -/
def Src (c : Cx) (K : List Fact) (sz : Nat) (A : Option Addr) (m : Nat) (g : Nat → List Value) : Prop := ∀ w, Sat c.S c.w0 K w → RdR w sz A m g
/-- Contracts: what a call gives, as facts. M: the facts that it takes. -/
def CallsK (P : Program) (f : FuncId) (args : Array Value) (M : List Fact) (w : World) (X : Type) (val : X → Value) (L : X → List Fact) : Prop := Calls P f args w fun e w' => ∃ x : X, e = .returned (val x) ∧ Sat (feet M) w (L x) w'
section
variable {c : Cx} {Q : Exit → Act → World → Prop} {F F' : Fr} {K K' : List Fact} {ops : Array Oper} {rest : List Oper} {ty : TypeId} {pos : String} {af : Array Edge} {g : Option (Nat × Bool)}
theorem wpList_eff {P : Program} {o : Oper} {v : Value} {a : Act} {w w' : World} (hg : o.guard = none) (hr : (execOp a.eval o).run P w = .ok (.value v) w') (h : wpList P ops Q rest (a.put o.dst v) w') : wpList P ops Q (o :: rest) a w :=
  wpList_plain hg fun _ hK => by unfold Oper.wp; rw [hr]; exact hK _ _ h
theorem wpList_skip {P : Program} {o : Oper} {a : Act} {w w' : World} (hg : o.guard = none) (hr : (execOp a.eval o).run P w = .ok .skip w') (h : wpList P ops Q rest (a.put o.dst undef) w') : wpList P ops Q (o :: rest) a w :=
  wpList_plain hg fun _ hK => by unfold Oper.wp; rw [hr]; exact hK _ _ h
/-- An operation that makes a block. -/
def Mk (c : Cx) (F : Fr) (K : List Fact) (o : Oper) (v : Nat → Value) (t : TypeId) (cs : List Value) : Prop := ∀ a w, FS c.n c.D F a → Sat c.S c.w0 K w → (execOp a.eval o).run c.P w = .ok (.value (v w.heap.size)) (w.alloc (.cells cs.toArray t))
theorem Mk.alloc {d : Option Tmp} {T : TypeId} {zs : List Value} (hT : Zr c.P T zs) : Mk c F K ⟨d, .alloc T, ty, pos, af, g⟩ (fun b => .pointer (some ⟨b, 0, none⟩)) T zs := fun a w _ _ => by
  obtain ⟨z, h1, h2⟩ := hT
  simp only [execOp, Instr.alloc, newVar, newRow, Sem.run_bind, Sem.run_pure, h2 w, Result.andThen_ok, run_newObj, h1]
  rfl
theorem Mk.box {d : Option Tmp} {T : TypeId} {x : Operand} {v : Value} {vs : List Value} (hx : ev F x = some v) (hv : v.cells = vs.toArray) : Mk c F K ⟨d, .box T x, ty, pos, af, g⟩ (fun b => .pointer (some ⟨b, 0, none⟩)) T vs := fun a w hF _ => by
  simp only [execOp, Instr.box, newVar, newRow, Sem.run_bind, Sem.run_pure, Result.andThen_ok, run_newObj, hF.evl hx, hv]
  rfl
theorem Mk.bslice {d : Option Tmp} {T E : TypeId} {len : Nat} {ps : List (Nat × Operand)} {vs : List (Nat × Value)} {cs : List Value} (hx : evp F ps = some vs) (hr : ∀ w, (Instr.buildSlice T len vs.toArray).run c.P w = .ok (.slice (some ⟨w.heap.size, 0, none⟩) len len) (w.alloc (.cells cs.toArray E))) :
    Mk c F K ⟨d, .buildSlice T len ps.toArray, ty, pos, af, g⟩ (fun b => .slice (some ⟨b, 0, none⟩) len len) E cs := fun a w hF _ => by
  have := hF.evpl hx
  simp only [execOp, List.map_toArray, this, Sem.run_bind, hr w, Result.andThen_ok, Sem.run_pure]
theorem TL.mk {d : Option Tmp} {op : Op} {v : Nat → Value} {t : TypeId} {cs : List Value} (hm : Mk c F K ⟨d, op, ty, pos, af, none⟩ v t cs) (hd : dok d c.n = true) (h : ∀ b, TL c ops Q rest (fput F d (v b)) (.blk b t cs :: K)) : TL c ops Q (⟨d, op, ty, pos, af, none⟩ :: rest) F K := fun a w hF hK =>
  wpList_eff rfl (hm a w hF hK) (h _ _ _ (hF.fput hd _) (hK.new t cs))
theorem Pu.build {d : Option Tmp} {T : TypeId} {ps : List (Nat × Operand)} {vs : List (Nat × Value)} {v : Value} (hx : evp F ps = some vs) (hr : ∀ w, (Instr.build T vs.toArray).run c.P w = .ok v w) : Pu c F K ⟨d, .build T ps.toArray, ty, pos, af, g⟩ v := fun a w hF _ => by
  have := hF.evpl hx
  simp only [execOp, List.map_toArray, this, Sem.run_bind, hr w, Result.andThen_ok, Sem.run_pure]
theorem Pu.field {d : Option Tmp} {T i : Nat} {x : Operand} {u v : Value} (hx : ev F x = some u) (hr : ∀ w, (Instr.field T u i).run c.P w = .ok v w) : Pu c F K ⟨d, .field T x i, ty, pos, af, g⟩ v := fun a w hF _ => by
  simp only [execOp, hF.evl hx, Sem.run_bind, hr w, Result.andThen_ok, Sem.run_pure]
theorem Pu.index {d : Option Tmp} {T : TypeId} {x y : Operand} {u u' v : Value} (hx : ev F x = some u) (hy : ev F y = some u') (hr : ∀ w, (Instr.index T u u').run c.P w = .ok v w) : Pu c F K ⟨d, .index T x y, ty, pos, af, g⟩ v := fun a w hF _ => by
  simp only [execOp, hF.evl hx, hF.evl hy, Sem.run_bind, hr w, Result.andThen_ok, Sem.run_pure]
theorem Pu.conv {d : Option Tmp} {S T : TypeId} {x : Operand} {u v : Value} (hx : ev F x = some u) (hr : ∀ w, (convert S T u).run c.P w = .ok v w) : Pu c F K ⟨d, .convert S T x, ty, pos, af, g⟩ v := fun a w hF _ => by
  simp only [execOp, hF.evl hx, Sem.run_bind, hr w, Result.andThen_ok, Sem.run_pure]
theorem Pu.iface {d : Option Tmp} {T : TypeId} {x : Operand} {u v : Value} (hx : ev F x = some u) (hr : ∀ w, (Instr.makeInterface T u).run c.P w = .ok v w) : Pu c F K ⟨d, .makeInterface T x, ty, pos, af, g⟩ v := fun a w hF _ => by
  simp only [execOp, hF.evl hx, Sem.run_bind, hr w, Result.andThen_ok, Sem.run_pure]
theorem Pu.len {d : Option Tmp} {t : TypeId} {x : Operand} {A : Option Addr} {n cp : Nat} {E : TypeId} (ht : c.P.underlying t = some (.slice E)) (hx : ev F x = some (.slice A n cp)) : Pu c F K ⟨d, .call { callee := .builtin .len, args := #[x], argTypes := #[t] }, ty, pos, af, g⟩ (.int .i64 n) := fun a w hF _ => by
  simp [execOp, resolve, invoke, builtin, Builtin.len_, hF.evl hx, run_underlying ht, goInt]
theorem Pu.elem {d : Option Tmp} {t E : TypeId} {sz bytes : Nat} {x y : Operand} {A : Option Addr} {n cp k : Nat} {kk : IntKind} {i : Int} (T : ElemT c.P t E sz bytes) (hx : ev F x = some (.slice A n cp)) (hy : ev F y = some (.int kk i)) (hk : i.toNat = k) (h0 : 0 ≤ i) (h1 : i < n) {vs : List Value} (hA : Cells c K (elA A k sz 0) vs) :
    Pu c F K ⟨d, .indexAddr t x y, ty, pos, af, g⟩ (.pointer (elA A k sz 0)) := fun a w hF hK => by
  obtain ⟨b, off, h2, _⟩ := hA w hK
  cases A with
  | none => cases h2
  | some p =>
    obtain ⟨i', z, hi, hz, hs, hb, hzs⟩ := T.hi
    have h4 : (sizeOf E).run c.P w = .ok sz w := by simp [sizeOf, typeInfo, hi, hs]
    simp [execOp, hF.evl hx, hF.evl hy, Instr.indexAt, asIntOf, run_underlying T.ht, h0, h1, h4, elA, hk]
theorem TL.store {x y : Operand} {T : TypeId} {b off m : Nat} {v : Value} {vs cs cs' : List Value} {t : TypeId} (hx : ev F x = some (.pointer (some ⟨b, off, none⟩))) (hy : ev F y = some v) (hv : v.cells = vs.toArray) (h1 : vs.all Value.oneCell' = true) (hT : Sz c.P T m) (hm : vs.length = m)
    (hp : Pick K (.blk b t cs) K') (hput : PutL cs off vs cs') (h : TL c ops Q rest F (.blk b t cs' :: K')) : TL c ops Q (⟨none, .store T x y, ty, pos, af, none⟩ :: rest) F K := fun a w hF hK => by
  have hs := hK.pick hp
  have hb : Blk w b t cs.toArray := hs.holds (.blk b t cs) (by simp)
  obtain ⟨e, hl⟩ := hput.spec
  subst e
  obtain ⟨w', r1, r2, r3⟩ := run_storeCells_blk (P := c.P) vs cs off 0 w hb (by omega) h1
  refine wpList_skip rfl (w' := w') ?_ (h a w' hF (hs.turn r3 (by simp [Fact.foot]) (fun q hq => .inl hq) r2))
  simp [execOp, hF.evl hx, hF.evl hy, Instr.storeAt, Instr.sureAddr, storeVar, hT w, hv, hm, r1]
theorem TL.storeEl {x y : Operand} {T : TypeId} {A : Option Addr} {n cp k j m : Nat} {E : TypeId} {sz : Nat} {r : Nat → List Value} {v : Value} {vs row : List Value} (hx : ev F x = some (.pointer (elA A k sz j))) (hy : ev F y = some v) (hv : v.cells = vs.toArray) (h1 : vs.all Value.oneCell' = true) (hT : Sz c.P T m) (hm : vs.length = m)
    (hp : Pick K (.own A n cp E sz r) K') (hk : k < n) (hput : PutL (r k) j vs row) (h : TL c ops Q rest F (.own A n cp E sz (updR r k row) :: K')) : TL c ops Q (⟨none, .store T x y, ty, pos, af, none⟩ :: rest) F K := fun a w hF hK => by
  have hs := hK.pick hp
  have hb : OwnR w A n cp E sz r := hs.holds (.own A n cp E sz r) (by simp)
  obtain ⟨rfl, hl⟩ := hput.spec
  have hlen := hb.len k hk
  obtain ⟨g, c', e, _, hg, _, hcell, hfr⟩ := hb.own.form1 (by omega)
  injection e with e1 e2 e3
  subst e1
  have key : ∀ (vs : List Value) (j : Nat) (i : Nat) (r : Nat → List Value) (w : World), OwnR w (some ⟨g, 0, none⟩) n cp E sz r → (r k).length = sz → j + i + vs.length ≤ sz → vs.all Value.oneCell' = true →
      ∃ w', (storeCells ⟨g, k * sz + j, none⟩ vs i).run c.P w = .ok () w' ∧ OwnR w' (some ⟨g, 0, none⟩) n cp E sz (updR r k (setAll (r k) (j + i) vs)) ∧ Chg [g] w w' := by
    intro vs
    induction vs with
    | nil =>
      intro j i r w ho _ _ _
      refine ⟨w, rfl, ⟨ho.own.congr fun i' j' hi hj => ?_, fun i' hi => ?_⟩, Chg.refl _ _⟩
      · simp only [rowF, updR, setAll]; split
        · rename_i h; rw [h]
        · rfl
      · simp only [updR, setAll]; split
        · rename_i h; rw [← h]; exact ho.len i' hi
        · exact ho.len i' hi
    | cons v vs ih =>
      intro j i r w ho hrk hl ho1
      simp only [List.all_cons, Bool.and_eq_true, List.length_cons] at ho1 hl
      obtain ⟨_, c2, e9, _, hg', _, hcell, hfr⟩ := ho.own.form1 (by omega)
      injection e9 with e91
      injection e91 with e91
      injection e91 with e91
      subst e91
      have ha : (⟨g, k * sz + j, none⟩ : Addr).add i = ⟨g, k * sz + (j + i), none⟩ := by rw [add_plain, Nat.add_assoc]
      have hc := hcell k (j + i) hk (by omega)
      have hset := ho.own.set k (j + i) hk (by omega) v
      have ho2 : OwnR (w.setCell ⟨g, k * sz + (j + i), none⟩ v) (some ⟨g, 0, none⟩) n cp E sz (updR r k ((r k).set (j + i) v)) := by
        refine ⟨hset.congr fun i' j' hi hj => ?_, fun i' hi => ?_⟩
        · simp only [rowF, updR]
          by_cases h1 : i' = k
          · subst h1
            by_cases h2 : j' = j + i
            · subst h2
              have h3 : j + i < (r i').length := by omega
              simp [List.getD_eq_getElem?_getD, List.getElem?_set, h3]
            · simp [h2, List.getD_eq_getElem?_getD, List.getElem?_set, Ne.symm h2]
          · simp [h1]
        · simp only [updR]; split
          · rename_i h; rw [List.length_set, hrk]
          · exact ho.len i' hi
      obtain ⟨w', r1, r2, r3⟩ := ih j (i + 1) _ _ ho2 (by simp [updR, hrk]) (by omega) ho1.2
      refine ⟨w', ?_, ⟨r2.own.congr fun i' j' hi hj => ?_, fun i' hi => ?_⟩, (Chg.setCell w ⟨g, k * sz + (j + i), none⟩ v).trans r3⟩
      · simp only [storeCells, Sem.run_bind]
        rw [ha, run_store c.P w ⟨g, k * sz + (j + i), none⟩ v .plain ho1.1, hc]
        simp only [hfr, Bool.false_eq_true, if_false, Result.andThen_ok]
        exact r1
      · simp only [rowF, updR]; split
        · rename_i h; simp [updR, setAll, Nat.add_assoc]
        · rfl
      · have := r2.len i' hi
        simp only [updR] at this ⊢; split
        · rename_i h; simpa [h, updR, setAll, Nat.add_assoc] using this
        · rename_i h; simpa [h, updR] using this
  obtain ⟨w', r1, r2, r3⟩ := key vs j 0 r w hb hlen (by rw [← hlen]; simpa using hl) h1
  refine wpList_skip rfl (w' := w') ?_ (h a w' hF (hs.turn r3 (by simp [Fact.foot]) (fun q hq => .inl hq) r2))
  have e : elA (some ⟨g, 0, none⟩) k sz j = some ⟨g, k * sz + j, none⟩ := by simp [elA, add_plain]
  rw [e] at hx
  simp [execOp, hF.evl hx, hF.evl hy, Instr.storeAt, Instr.sureAddr, storeVar, hT w, hv, hm, r1]
/-- A nil slice owns nothing. -/
theorem TL.nilOwn (E : TypeId) (sz : Nat) (h : TL c ops Q rest F (.own none 0 0 E sz (fun _ => []) :: K)) : TL c ops Q rest F K := fun a w hF hK =>
  h a w hF (hK.add (L := [_]) (Sat.one (Chg.refl _ _) (by simp [Fact.foot]) (fun b hb => by simp [Fact.foot] at hb) ⟨Own.nil _ _ _ _ _, fun i hi => by omega⟩))
theorem Src.old {sz n : Nat} {A : Option Addr} {r : Nat → List Value} (h : RdR c.w0 sz A n r) (hS : Apart c.S A) : Src c K sz A n r := fun w hK => by
  refine ⟨fun hn => ?_, h.len⟩
  obtain ⟨b, off, h1, h2, h3⟩ := h.rd hn
  refine ⟨b, off, h1, Nat.lt_of_lt_of_le h2 hK.chg.size, fun i j hi hj => ?_⟩
  rw [hK.chg.cell h2 (hS b (by rw [h1]; rfl))]
  exact h3 i j hi hj
theorem Src.own {A : Option Addr} {n cp : Nat} {E : TypeId} {sz : Nat} {r : Nat → List Value} (hp : Pick K (.own A n cp E sz r) K') : Src c K sz A n r := fun w hK => OwnR.rdr (hK.holds _ hp.mem)
theorem Src.blk1 {b : Nat} {t : TypeId} {cs : List Value} {sz : Nat} (hp : Pick K (.blk b t cs) K') (hs : cs.length = sz) : Src c K sz (some ⟨b, 0, none⟩) 1 (fun _ => cs) := fun w hK => by
  have hb : Blk w b t cs.toArray := hK.holds (.blk b t cs) hp.mem
  refine ⟨Rd.of_blk hb (by simpa using hs) fun i j hi hj => ?_, fun i hi => hs⟩
  obtain rfl : i = 0 := by omega
  simp [rowF, Array.getD_eq_getD_getElem?, List.getD_eq_getElem?_getD]
theorem Src.none {sz : Nat} {A0 : Option Addr} {r : Nat → List Value} : Src c K sz A0 0 r := fun w hK => ⟨Rd.nil, fun i hi => by omega⟩
theorem TL.app {d : Option Tmp} {x y : Operand} {t E : TypeId} {sz bytes : Nat} {A A2 : Option Addr} {n cp m cp2 : Nat} {r s : Nat → List Value} (T : ElemT c.P t E sz bytes) (hx : ev F x = some (.slice A n cp)) (hy : ev F y = some (.slice A2 m cp2)) (hd : dok d c.n = true)
    (hp : Pick K (.own A n cp E sz r) K') (hsrc : Src c K sz A2 m s) (h1 : ∀ i, i < m → (s i).all Value.oneCell' = true) (hm : n + m ≤ 1000000000) (hby : bytes ≤ 10000)
    (h : ∀ A' cp', TL c ops Q rest (fput F d (.slice A' (n + m) cp')) (.own A' (n + m) cp' E sz (catR n r s) :: K')) : TL c ops Q (⟨d, .call { callee := .builtin .append, args := #[x, y], argTypes := #[t, t] }, ty, pos, af, none⟩ :: rest) F K := fun a w hF hK => by
  have hs := hK.pick hp
  have hb : OwnR w A n cp E sz r := hs.holds (.own A n cp E sz r) (by simp)
  have hr := hsrc w hK
  refine wpList_app rfl x y T rfl (hF.evl hx) hb.own (hF.evl hy) hr.rd (fun i j hi hj => ?_) hm hby (Nat.zero_le _) fun v' w' hown hg hbk => ?_
  · have := h1 i hi
    rw [List.all_eq_true] at this
    have hlen := hr.len i hi
    have e : rowF s i j = (s i)[j]'(by omega) := by simp [rowF, List.getD_eq_getElem?_getD, List.getElem?_eq_getElem (show j < (s i).length by omega)]
    rw [e]
    exact this _ (List.getElem_mem _)
  · obtain ⟨A', cp', rfl, _, _, _⟩ := hown.form
    have hc : Chg (Fact.own A n cp E sz r).foot w w' := by rw [own_foot]; exact Chg.grown hg
    refine h A' cp' _ w' (hF.fput hd _) (hs.turn hc (by rw [own_foot]; cases (Value.slice A' (n + m) cp').ownBlock <;> simp) (fun b hb => ?_) ⟨hown.congr fun i j hi hj => ?_, fun i hi => ?_⟩)
    · rw [own_foot] at hb ⊢
      rcases hbk with e | e
      · rw [e] at hb; exact .inl hb
      · rw [e] at hb; simp at hb; subst hb; exact .inr (Nat.le_refl _)
    · simp only [cat, rowF, catR]; split <;> rfl
    · simp only [catR]; split
      · exact hb.len i ‹_›
      · exact hr.len _ (by omega)
theorem TL.app0 {d : Option Tmp} {x y : Operand} {t E : TypeId} {sz bytes : Nat} {A A2 : Option Addr} {cp m cp2 : Nat} {r s : Nat → List Value} (T : ElemT c.P t E sz bytes) (hx : ev F x = some (.slice A 0 cp)) (hy : ev F y = some (.slice A2 m cp2)) (hd : dok d c.n = true)
    (hp : Pick K (.own A 0 cp E sz r) K') (hsrc : Src c K sz A2 m s) (h1 : ∀ i, i < m → (s i).all Value.oneCell' = true) (hm : m ≤ 1000000000) (hby : bytes ≤ 10000)
    (h : ∀ A' cp', TL c ops Q rest (fput F d (.slice A' m cp')) (.own A' m cp' E sz s :: K')) : TL c ops Q (⟨d, .call { callee := .builtin .append, args := #[x, y], argTypes := #[t, t] }, ty, pos, af, none⟩ :: rest) F K :=
  TL.app T hx hy hd hp hsrc h1 (by omega) hby fun A' cp' => by
    have e : catR 0 r s = s := by funext i; simp [catR]
    rw [e, Nat.zero_add]
    exact h A' cp'
theorem TL.subK (hK : KSub K K') (h : TL c ops Q rest F K') : TL c ops Q rest F K := fun a w hf hk => h a w hf (hk.sub hK)
theorem TW.subK {x : Code} (hK : KSub K K') (h : TW c x Q F K') : TW c x Q F K := fun a w hf hk => h a w hf (hk.sub hK)
theorem TL.lit {t : Nat} {b b' : Bool} (ht : fget F t = some (.bool b)) (hb : b = b') (h : TL c ops Q rest ((t, .bool b') :: F) K) : TL c ops Q rest F K := fun a w hF hK =>
  h a w ⟨hF.size, hF.dfs, fun u v hv => by
    simp only [fget] at hv
    cases h1 : Nat.beq t u with
    | true => rw [h1] at hv; have := beq_iff.1 h1; subst this; injection hv with hv; subst hv; rw [← hb]; exact hF.get _ _ ht
    | false => rw [h1] at hv; exact hF.get _ _ hv⟩ hK
theorem OwnR.noneZero {w : World} {n cp : Nat} {E : TypeId} {sz : Nat} {r : Nat → List Value} (h : OwnR w none n cp E sz r) : n = 0 ∧ cp = 0 := by
  rcases h.own.2 with ⟨e, h0⟩ | ⟨g, cap, cur, e, _⟩
  · injection e with _ e1 e2; exact ⟨e1, e2⟩
  · injection e with e1; cases e1
theorem Sat.own {S : List Nat} {w0 w : World} {A : Option Addr} {n cp : Nat} {E : TypeId} {sz : Nat} {r : Nat → List Value} (h : Sat S w0 K w) (hp : Pick K (.own A n cp E sz r) K') : OwnR w A n cp E sz r := h.holds (.own A n cp E sz r) hp.mem
theorem TL.call {d : Option Tmp} {f : FuncId} {xs : List Operand} {ts : Array TypeId} {us : List Value} {M : List Fact} {X : Type} {val : X → Value} {L : X → List Fact} (hx : evs F xs = some us) (hen : Enters c.P f) (hM : K.Perm (M ++ K')) (hd : dok d c.n = true)
    (hc : ∀ w, Sat c.S c.w0 K w → CallsK c.P f us.toArray M w X val L) (h : ∀ x, TL c ops Q rest (fput F d (val x)) (L x ++ K')) : TL c ops Q (⟨d, .call { callee := .value (.func f), args := xs.toArray, argTypes := ts }, ty, pos, af, none⟩ :: rest) F K := fun a w hF hK =>
  wpList_plain rfl fun Z hZ => by
    have hr : (execOp a.eval ⟨d, .call { callee := .value (.func f), args := xs.toArray, argTypes := ts }, ty, pos, af, none⟩).run c.P w = .ok (.enter f us.toArray) w := by
      have := hF.evsl hx
      have h9 := hen us.toArray w
      simp [execOp, resolve, invoke, Deferred.ofValue, Act.eval, this, h9]
    unfold Oper.wp
    rw [hr]
    refine Calls.mono (hc w hK) ?_
    rintro e w' ⟨x, rfl, hs⟩
    exact hZ _ _ (h x _ _ (hF.fput hd _) ((hK.perm hM).step hs))
end
end Go.Proofs.Ytckiagbllkdfdaa
