/-
  The layer's rules for operations that only yield a value. No condition on a program.
-/
import Derived.Test.YtckiagbllkdfdaaKa
namespace Go.Proofs.Ytckiagbllkdfdaa
set_option linter.all false
set_option linter.unusedVariables false
set_option linter.unusedSimpArgs false
open Go.RowKit
/-- A pointer to cell j of element k of a slice. -/
def elA (A : Option Addr) (k sz j : Nat) : Option Addr := A.map fun a => a.add (k * sz + j)
theorem add_plain (b o n : Nat) : (⟨b, o, none⟩ : Addr).add n = ⟨b, o + n, none⟩ := by
  unfold Addr.add; split
  · rename_i h; rw [h]; rfl
  · rfl
theorem add_add (p : Addr) (m n : Nat) : (p.add m).add n = p.add (m + n) := by
  unfold Addr.add
  by_cases h1 : m = 0
  · simp [h1]
  · by_cases h2 : n = 0
    · simp [h1, h2]
    · simp [h1, h2, Nat.add_assoc]
theorem elA_add (A : Option Addr) (k sz j o : Nat) : (elA A k sz j).map (·.add o) = elA A k sz (j + o) := by
  cases A with
  | none => rfl
  | some p => simp [elA, add_add, Nat.add_assoc]
/-- m cells of a row from j on. -/
inductive SubL : List Value → Nat → Nat → List Value → Prop
  | nil {xs : List Value} : SubL xs 0 0 []
  | take {x : Value} {xs vs : List Value} {m : Nat} : SubL xs 0 m vs → SubL (x :: xs) 0 (m + 1) (x :: vs)
  | drop {x : Value} {xs vs : List Value} {j m : Nat} : SubL xs j m vs → SubL (x :: xs) (j + 1) m vs
theorem SubL.spec {xs vs : List Value} {j m : Nat} (h : SubL xs j m vs) : vs.length = m ∧ ∀ q v, vs[q]? = some v → xs[j + q]? = some v := by
  induction h with
  | nil => exact ⟨rfl, fun q v hv => by simp at hv⟩
  | take h ih =>
    refine ⟨by simp [ih.1], fun q v hv => ?_⟩
    cases q with
    | zero => simpa using hv
    | succ q => have := ih.2 q v (by simpa using hv); simpa using this
  | @drop x xs vs j m h ih =>
    refine ⟨ih.1, fun q v hv => ?_⟩
    rw [show j + 1 + q = (j + q) + 1 by omega, List.getElem?_cons_succ]
    exact ih.2 q v hv
/-- Cells from off on become vs. -/
inductive PutL : List Value → Nat → List Value → List Value → Prop
  | nil {xs : List Value} : PutL xs 0 [] xs
  | put {x y : Value} {xs ys zs : List Value} : PutL xs 0 ys zs → PutL (x :: xs) 0 (y :: ys) (y :: zs)
  | pass {x : Value} {xs ys zs : List Value} {j : Nat} : PutL xs j ys zs → PutL (x :: xs) (j + 1) ys (x :: zs)
/-- Type T is one cell. -/
def Sc (P : Program) (T : TypeId) : Prop := ∀ w, (isAgg T).run P w = .ok false w
/-- Type T is a row of m cells. -/
def Ag (P : Program) (T : TypeId) (m : Nat) : Prop := (∀ w, (isAgg T).run P w = .ok true w) ∧ ∀ w, (sizeOf T).run P w = .ok m w
/-- Field i of struct type T lies o cells behind its head. -/
def FieldAt (P : Program) (T : TypeId) (i o : Nat) : Prop := ∀ w a, (Instr.fieldAt T (.pointer (some a)) i).run P w = .ok (.pointer (some ⟨a.block, a.off + o, none⟩)) w ∨ a.spot.isSome = true
/-- Memory holds vs at q. -/
def Cells (c : Cx) (K : List Fact) (q : Option Addr) (vs : List Value) : Prop := ∀ w, Sat c.S c.w0 K w → ∃ b off, q = some ⟨b, off, none⟩ ∧ ∀ j v, vs[j]? = some v → w.cell? ⟨b, off + j, none⟩ = some v
section
variable {c : Cx} {F : Fr} {K K' : List Fact} {d : Option Tmp} {ty : TypeId} {pos : String} {af : Array Edge} {g : Option (Nat × Bool)}
theorem Cells.blk {b off m : Nat} {t : TypeId} {cs vs : List Value} (hp : Pick K (.blk b t cs) K') (hs : SubL cs off m vs) : Cells c K (some ⟨b, off, none⟩) vs := fun w hK =>
  ⟨b, off, rfl, fun j v hv => by
    have h : Blk w b t cs.toArray := (hK.holds _ hp.mem)
    rw [h.cell]
    simpa using hs.spec.2 j v hv⟩
theorem RdR.cells {w : World} {sz n k j m : Nat} {A : Option Addr} {r : Nat → List Value} {vs : List Value} (h : RdR w sz A n r) (hk : k < n) (hs : SubL (r k) j m vs) : ∃ b off, elA A k sz j = some ⟨b, off, none⟩ ∧ b < w.heap.size ∧ A.map (·.block) = some b ∧ ∀ q v, vs[q]? = some v → w.cell? ⟨b, off + q, none⟩ = some v := by
  obtain ⟨b, o, rfl, hb, hA⟩ := h.rd.atn hk (Below.refl _ _)
  refine ⟨b, o + (k * sz + j), by simp [elA, add_plain], hb, rfl, fun q v hv => ?_⟩
  have h1 := hs.spec.2 q v hv
  have h2 : j + q < sz := by rw [← h.len k hk]; exact (List.getElem?_eq_some_iff.1 h1).1
  have h3 := hA (j + q) h2
  rw [show o + (k * sz + j) + q = o + k * sz + (j + q) by omega, h3]
  simp [rowF, List.getD_eq_getElem?_getD, h1]
theorem Chg.cell {S : List Nat} {w0 w : World} (h : Chg S w0 w) {b o : Nat} (hb : b < w0.heap.size) (hS : b ∉ S) : w.cell? ⟨b, o, none⟩ = w0.cell? ⟨b, o, none⟩ := World.cell?_of_block (w := w0) (h.block b hb hS)
/-- No block of S is the slice's. -/
def Apart (S : List Nat) (A : Option Addr) : Prop := ∀ b, A.map (·.block) = some b → b ∉ S
theorem Apart.nil {A : Option Addr} : Apart [] A := fun _ _ => by simp
theorem Cells.old {sz n k j m : Nat} {A : Option Addr} {r : Nat → List Value} {vs : List Value} (h : RdR c.w0 sz A n r) (hS : Apart c.S A) (hk : k < n) (hs : SubL (r k) j m vs) : Cells c K (elA A k sz j) vs := fun w hK => by
  obtain ⟨b, off, h1, h2, h3, h4⟩ := h.cells hk hs
  exact ⟨b, off, h1, fun q v hv => by rw [hK.chg.cell h2 (hS b h3)]; exact h4 q v hv⟩
theorem OwnR.rdr {w : World} {A : Option Addr} {n cp : Nat} {E : TypeId} {sz : Nat} {r : Nat → List Value} (h : OwnR w A n cp E sz r) : RdR w sz A n r := by
  obtain ⟨A', c', e, _, _, h'⟩ := h.own.form
  injection e with e1 e2 e3
  subst e1
  exact ⟨h', h.len⟩
theorem Cells.own {A : Option Addr} {n cp k j m : Nat} {E : TypeId} {sz : Nat} {r : Nat → List Value} {vs : List Value} (hp : Pick K (.own A n cp E sz r) K') (hk : k < n) (hs : SubL (r k) j m vs) : Cells c K (elA A k sz j) vs := fun w hK => by
  obtain ⟨b, off, h1, _, _, h4⟩ := (OwnR.rdr (hK.holds _ hp.mem)).cells hk hs
  exact ⟨b, off, h1, h4⟩
/-! ### Moving values -/
theorem Pu.move {x : Operand} {v : Value} (hx : ev F x = some v) : Pu c F K ⟨d, .move x, ty, pos, af, g⟩ v := fun a w hF _ => by
  show Result.ok (Next.value (a.eval x)) w = _; rw [hF.evl hx]
theorem Pu.assign {x : Operand} {v : Value} (hx : ev F x = some v) : Pu c F K ⟨d, .assign x, ty, pos, af, g⟩ v := fun a w hF _ => by
  show Result.ok (Next.value (a.eval x)) w = _; rw [hF.evl hx]
theorem Pu.pick {t x y : Operand} {b : Bool} {u v : Value} (ht : ev F t = some (.bool b)) (hx : ev F x = some u) (hy : ev F y = some v) : Pu c F K ⟨d, .pick t x y, ty, pos, af, g⟩ (if b then u else v) := fun a w hF _ => by
  simp only [execOp, hF.evl ht, hF.evl hx, hF.evl hy, asBool, Sem.run_bind, Sem.run_pure, Result.andThen_ok]
def notNil : Value → Bool
  | .pointer (some _) => true
  | .func (.func _) _ _ => true
  | _ => false
theorem Pu.nil {x : Operand} {v : Value} (hx : ev F x = some v) (hv : notNil v = true) : Pu c F K ⟨d, .nilCheck x, ty, pos, af, g⟩ v := fun a w hF _ => by
  simp only [execOp, hF.evl hx]
  match v, hv with
  | .pointer (some _), _ => rfl
  | .func (.func _) _ _, _ => rfl
theorem Pu.nilC {x : Operand} {q : Option Addr} {vs : List Value} (hx : ev F x = some (.pointer q)) (hq : Cells c K q vs) : Pu c F K ⟨d, .nilCheck x, ty, pos, af, g⟩ (.pointer q) := fun a w hF hK => by
  obtain ⟨b, off, rfl, _⟩ := hq w hK
  simp only [execOp, hF.evl hx]
  rfl
theorem Pu.extract {x : Operand} {vs : Array Value} {i : Nat} {v : Value} (hx : ev F x = some (.tuple vs)) (hv : vs[i]? = some v) : Pu c F K ⟨d, .extract x i, ty, pos, af, g⟩ v := fun a w hF _ => by
  simp only [execOp, hF.evl hx, Instr.extract, hv, Sem.run_bind, Sem.run_pure, Result.andThen_ok]
theorem Pu.func {fn : Fn} {xs ys : List Operand} {us vs : List Value} (hx : evs F xs = some us) (hy : evs F ys = some vs) : Pu c F K ⟨d, .makeFunc fn xs.toArray ys.toArray, ty, pos, af, g⟩ (.func fn us.toArray vs.toArray) := fun a w hF _ => by
  simp only [execOp, Instr.makeFunc, List.map_toArray, hF.evsl hx, hF.evsl hy, Sem.run_bind, Sem.run_pure, Result.andThen_ok]
/-! ### Numbers and tests -/
theorem Pu.bin {op : BinOp} {x y : Operand} {xt yt : TypeId} {u v r : Value} (hx : ev F x = some u) (hy : ev F y = some v) (hr : ∀ w, (do eqGuard op xt x y u v; binOp op xt u v : Sem Value).run c.P w = .ok r w) : Pu c F K ⟨d, .binOp op xt x y yt, ty, pos, af, g⟩ r := fun a w hF _ => by
  simp only [execOp, hF.evl hx, hF.evl hy]
  rw [Sem.run_bind, hr]
  rfl
section
variable {x y : Operand} {xt yt : TypeId} {i j : Int} {k : IntKind}
theorem Pu.arith {op : BinOp} {n : Int} (hx : ev F x = some (.int k i)) (hy : ev F y = some (.int k j)) (hop : ∀ w, (Op.intArith op k i j).run c.P w = .ok (.int k n) w) (h0 : match op with | .add | .sub | .mul => True | _ => False) : Pu c F K ⟨d, .binOp op xt x y yt, ty, pos, af, g⟩ (.int k n) :=
  Pu.bin hx hy fun w => by
    cases op <;> simp only at h0 <;> simp [eqGuard, binOp, hop]
theorem Pu.add (hx : ev F x = some (.int .i64 i)) (hy : ev F y = some (.int .i64 j)) (h : -9223372036854775808 ≤ i + j ∧ i + j ≤ 9223372036854775807) : Pu c F K ⟨d, .binOp .add xt x y yt, ty, pos, af, g⟩ (.int .i64 (i + j)) :=
  Pu.arith hx hy (fun w => by rw [Op.intArith, IntWalk.i64_in _ h]; rfl) trivial
theorem Pu.sub (hx : ev F x = some (.int .i64 i)) (hy : ev F y = some (.int .i64 j)) (h : -9223372036854775808 ≤ i - j ∧ i - j ≤ 9223372036854775807) : Pu c F K ⟨d, .binOp .sub xt x y yt, ty, pos, af, g⟩ (.int .i64 (i - j)) :=
  Pu.arith hx hy (fun w => by rw [Op.intArith, IntWalk.i64_in _ h]; rfl) trivial
theorem Pu.mul (hx : ev F x = some (.int .i64 i)) (hy : ev F y = some (.int .i64 j)) (h : -9223372036854775808 ≤ i * j ∧ i * j ≤ 9223372036854775807) : Pu c F K ⟨d, .binOp .mul xt x y yt, ty, pos, af, g⟩ (.int .i64 (i * j)) :=
  Pu.arith hx hy (fun w => by rw [Op.intArith, IntWalk.i64_in _ h]; rfl) trivial
theorem Pu.lss (hx : ev F x = some (.int k i)) (hy : ev F y = some (.int k j)) : Pu c F K ⟨d, .binOp .lss xt x y yt, ty, pos, af, g⟩ (.bool (decide (i < j))) := Pu.bin hx hy fun w => by simp [eqGuard, binOp, Op.intCmp]
theorem Pu.leq (hx : ev F x = some (.int k i)) (hy : ev F y = some (.int k j)) : Pu c F K ⟨d, .binOp .leq xt x y yt, ty, pos, af, g⟩ (.bool (decide (i ≤ j))) := Pu.bin hx hy fun w => by simp [eqGuard, binOp, Op.intCmp]
theorem Pu.gtr (hx : ev F x = some (.int k i)) (hy : ev F y = some (.int k j)) : Pu c F K ⟨d, .binOp .gtr xt x y yt, ty, pos, af, g⟩ (.bool (decide (j < i))) := Pu.bin hx hy fun w => by simp [eqGuard, binOp, Op.intCmp]
theorem Pu.geq (hx : ev F x = some (.int k i)) (hy : ev F y = some (.int k j)) : Pu c F K ⟨d, .binOp .geq xt x y yt, ty, pos, af, g⟩ (.bool (decide (j ≤ i))) := Pu.bin hx hy fun w => by simp [eqGuard, binOp, Op.intCmp]
theorem Pu.eql (hx : ev F x = some (.int k i)) (hy : ev F y = some (.int k j)) : Pu c F K ⟨d, .binOp .eql xt x y yt, ty, pos, af, g⟩ (.bool (decide (i = j))) := Pu.bin hx hy fun w => by
  simp [eqGuard, binOp, Op.intCmp]; rfl
theorem Pu.neq (hx : ev F x = some (.int k i)) (hy : ev F y = some (.int k j)) : Pu c F K ⟨d, .binOp .neq xt x y yt, ty, pos, af, g⟩ (.bool (!decide (i = j))) := Pu.bin hx hy fun w => by
  simp [eqGuard, binOp, Op.intCmp]; rfl
theorem Pu.not {b : Bool} (hx : ev F x = some (.bool b)) : Pu c F K ⟨d, .unOp .not xt x, ty, pos, af, g⟩ (.bool !b) := fun a w hF _ => by
  simp [execOp, hF.evl hx, Op.unary]
theorem Pu.neg (hx : ev F x = some (.int .i64 i)) (h : -9223372036854775807 ≤ i ∧ i ≤ 9223372036854775807) : Pu c F K ⟨d, .unOp .neg xt x, ty, pos, af, g⟩ (.int .i64 (-i)) := fun a w hF _ => by
  have h9 : IntKind.i64.wrap (0 - i) = -i := by rw [IntWalk.i64_in _ (by omega)]; omega
  simp [execOp, hF.evl hx, Op.unary, Op.intArith]
  rw [Int.zero_sub] at h9
  exact h9
theorem Pu.max (hx : ev F x = some (.int k i)) (hy : ev F y = some (.int k j)) {ts : Array TypeId} : Pu c F K ⟨d, .call { callee := .builtin .max, args := #[x, y], argTypes := ts }, ty, pos, af, g⟩ (.int k (max i j)) := fun a w hF _ => by
  have e : (if j > i then j else i) = Max.max i j := by simp only [Int.max_def]; split <;> split <;> omega
  simp [execOp, resolve, invoke, builtin, Builtin.max_, Builtin.max2, hF.evl hx, hF.evl hy]
  simpa using e
theorem Pu.min (hx : ev F x = some (.int k i)) (hy : ev F y = some (.int k j)) {ts : Array TypeId} : Pu c F K ⟨d, .call { callee := .builtin .min, args := #[x, y], argTypes := ts }, ty, pos, af, g⟩ (.int k (min i j)) := fun a w hF _ => by
  have e : (if j < i then j else i) = Min.min i j := by simp only [Int.min_def]; split <;> split <;> omega
  simp [execOp, resolve, invoke, builtin, Builtin.min_, Builtin.min2, hF.evl hx, hF.evl hy]
  simpa using e
end
/-! ### Addresses and loads -/
theorem Pu.fieldAt {x : Operand} {T i o b off : Nat} (hx : ev F x = some (.pointer (some ⟨b, off, none⟩))) (hf : FieldAt c.P T i o) : Pu c F K ⟨d, .fieldAddr T x i, ty, pos, af, g⟩ (.pointer (some ⟨b, off + o, none⟩)) := fun a w hF _ => by
  rcases hf w ⟨b, off, none⟩ with h | h
  · simp only [execOp, hF.evl hx, Sem.run_bind, h, Result.andThen_ok, Sem.run_pure]
  · cases h
theorem Pu.fieldEl {x : Operand} {T i o k sz j : Nat} {A : Option Addr} {vs : List Value} (hx : ev F x = some (.pointer (elA A k sz j))) (hf : FieldAt c.P T i o) (hq : Cells c K (elA A k sz j) vs) : Pu c F K ⟨d, .fieldAddr T x i, ty, pos, af, g⟩ (.pointer (elA A k sz (j + o))) := fun a w hF hK => by
  obtain ⟨b, off, h1, _⟩ := hq w hK
  have h2 : elA A k sz (j + o) = some ⟨b, off + o, none⟩ := by
    rw [← elA_add, h1, Option.map_some, add_plain]
  rcases hf w ⟨b, off, none⟩ with h | h
  · rw [h1] at hx
    rw [h2]
    simp only [execOp, hF.evl hx, Sem.run_bind, h, Result.andThen_ok, Sem.run_pure]
  · cases h
theorem Pu.load {x : Operand} {T : TypeId} {q : Option Addr} {v : Value} (hx : ev F x = some (.pointer q)) (hT : Sc c.P T) (hq : Cells c K q [v]) : Pu c F K ⟨d, .load T x, ty, pos, af, g⟩ v := fun a w hF hK => by
  obtain ⟨b, off, rfl, h⟩ := hq w hK
  have h1 := h 0 v rfl
  rw [Nat.add_zero] at h1
  simp only [execOp, hF.evl hx, Instr.loadAt, Instr.sureAddr, loadVar, Sem.run_bind, Sem.run_pure, Result.andThen_ok, hT w, Sem.run_ite, Bool.false_eq_true, if_false, run_load, h1]
theorem Pu.loads {x : Operand} {T : TypeId} {m : Nat} {q : Option Addr} {vs : List Value} (hx : ev F x = some (.pointer q)) (hT : Ag c.P T m) (hq : Cells c K q vs) (hm : vs.length = m) : Pu c F K ⟨d, .load T x, ty, pos, af, g⟩ (.agg vs.toArray) := fun a w hF hK => by
  obtain ⟨b, off, rfl, h⟩ := hq w hK
  have h1 := run_loadCells_list (P := c.P) (w := w) ⟨b, off, none⟩ vs (fun j v hv => by
    have := h j v hv
    unfold Addr.add
    split
    · rename_i h0; rw [h0, Nat.add_zero] at this; exact this
    · exact this)
  rw [hm] at h1
  simp only [execOp, hF.evl hx, Instr.loadAt, Instr.sureAddr, loadVar, Sem.run_bind, Sem.run_pure, Result.andThen_ok, hT.1 w, hT.2 w, Sem.run_ite, if_true, h1]
end
end Go.Proofs.Ytckiagbllkdfdaa
