/-
  The layer's rules: a method called on an interface value; what is left of a slice. No condition on a program.
-/
import Derived.Test.YtckiagbllkdfdaaKj
namespace Go.Proofs.Ytckiagbllkdfdaa
set_option linter.all false
set_option linter.unusedVariables false
set_option linter.unusedSimpArgs false
open Go.RowKit
/-- The method of a type that is no interface and embeds nothing. -/
def Meth (P : Program) (T : TypeId) (m : String) (f : FuncId) : Prop := ∀ v w, (method (P.types.size + Made.depth) T v m).run P w = .ok (f, v) w
theorem run_inv {P : Program} {f : FuncId} {T : TypeId} {m : String} {v : Value} {us : List Value} {w : World} {x : Operand} {xs : List Operand} {ts : Array TypeId} {o : Oper} {ρ : Operand → Value} (hf : ρ x = .iface T v) (hx : xs.map ρ = us) (hm : Meth P T m f) (hen : Enters P f) (ho : o.op = .call { callee := .invoke x m, args := xs.toArray, argTypes := ts }) :
    (execOp ρ o).run P w = .ok (.enter f (v :: us).toArray) w := by
  have h9 := hen (v :: us).toArray w
  have e : #[v] ++ us.toArray = (v :: us).toArray := by simp
  have e2 : (#[Value.iface T v] ++ us.toArray).extract 1 (#[Value.iface T v] ++ us.toArray).size = us.toArray := by simp
  have e1 : (#[Value.iface T v] ++ us.toArray)[0]? = some (.iface T v) := by simp
  simp only [execOp, ho, resolve, hf, List.map_toArray, hx, Sem.run_bind, Sem.run_pure, Result.andThen_ok, invoke, e1, e2, callMethod, run_program, hm v w, e]
  exact h9
section
variable {c : Cx} {Q : Exit → Act → World → Prop} {F : Fr} {K K' : List Fact} {ops : Array Oper} {rest : List Oper} {d : Option Tmp} {ty : TypeId} {pos : String} {af : Array Edge} {g : Option (Nat × Bool)} {nf : Nat} {fl : List Fl} {bs : List Bool} {pend : List (Nat × Oper)}
theorem TL.iv {f : FuncId} {T : TypeId} {m : String} {x : Operand} {xs : List Operand} {ts : Array TypeId} {us : List Value} {u v : Value} (hf : ev F x = some (.iface T u)) (hx : evs F xs = some us) (hm : Meth c.P T m f) (hen : Enters c.P f) (hc : ∀ w, Sat c.S c.w0 K w → Calls c.P f (u :: us).toArray w (Ret w v)) (h : TL c ops Q rest (fput F d v) K) (hg : gdB F ops g = some true := by rfl) (hd : dok d c.n = true := by rfl) :
    TL c ops Q (⟨d, .call { callee := .invoke x m, args := xs.toArray, argTypes := ts }, ty, pos, af, g⟩ :: rest) F K := fun a w hF hK => by
  unfold wpList
  rw [if_pos (hF.wanted hg)]
  refine .inl ?_
  unfold Oper.wp
  rw [run_inv (hF.evl hf) (hF.evsl hx) hm hen rfl]
  refine Calls.mono (hc w hK) ?_
  rintro e w' ⟨rfl, hb⟩
  exact h _ _ (hF.fput hd _) (hK.ext hb)
theorem WK.iv {i : Nat} {f : FuncId} {T : TypeId} {m : String} {x : Operand} {xs : List Operand} {ts : Array TypeId} {us : List Value} {u v : Value} (hf : ev F x = some (.iface T u)) (hx : evs F xs = some us) (hm : Meth c.P T m f) (hen : Enters c.P f) (hc : ∀ w, Sat c.S c.w0 K w → Calls c.P f (u :: us).toArray w (Ret w v)) (h : WK c ops Q nf fl bs pend (fput F d v) K) (hg : gdB F (frontOf ops nf) g = some true := by rfl) (hd : dok d c.n = true := by rfl) :
    WK c ops Q nf fl (false :: bs) ((i, ⟨d, .call { callee := .invoke x m, args := xs.toArray, argTypes := ts }, ty, pos, af, g⟩) :: pend) F K :=
  WK.act fun a w' K' hF hK ho hK' => by
    refine wpOp_of ho (hF.wanted hg) ?_
    unfold Oper.wp
    rw [run_inv (hF.evl hf) (hF.evsl hx) hm hen rfl]
    refine Calls.mono (hc w' hK) ?_
    rintro e w'' ⟨rfl, hb⟩
    exact hK' _ [] _ _ (Sat.nil (Chg.of_ext hb)) (hF.fput hd _) h
/-- Where a slice goes on behind its first q elements. -/
def slA (A : Option Addr) (cp sz q : Nat) : Option Addr := if cp = q then A else A.map fun a => a.add (q * sz)
theorem Pu.sf {T E : TypeId} {sz bytes : Nat} {x y : Operand} {A : Option Addr} {n cp q : Nat} {i : Int} (hT : ElemT c.P T E sz bytes) (hx : ev F x = some (.slice A n cp) := by rfl) (hy : ev F y = some (.int .i64 i) := by rfl) (hk : i.toNat = q := by first | exact tnS _ | exact Int.toNat_natCast _ | rfl) (h0 : 0 ≤ i := by omega) (h1 : i ≤ n := by omega) : Pu c F K ⟨d, .slice T x (some y) none none, ty, pos, af, g⟩ (.slice (slA A cp sz q) (n - q) (cp - q)) := fun a w hF _ => by
  obtain ⟨i', z, hi, hz, hs, hb, hzs⟩ := hT.hi
  have hsz : (sizeOf E).run c.P w = .ok sz w := by simp [sizeOf, typeInfo, hi, hs]
  subst hk
  simp [execOp, Instr.sliceAt, Instr.slice, hF.evl hx, hF.evl hy, run_underlying hT.ht, Instr.sliceBounds, Instr.sliceBound, asIntOf, h0, h1, hsz, slA]
end
theorem RdR.tail {w : World} {sz n cp q : Nat} {A : Option Addr} {r : Nat → List Value} (h : RdR w sz A n r) (hn : n ≤ cp) (hq : q ≤ n) : RdR w sz (slA A cp sz q) (n - q) (fun k => r (q + k)) := by
  refine ⟨fun h0 => ?_, fun i hi => h.len _ (by omega)⟩
  obtain ⟨b, off, rfl, h2, h3⟩ := h.rd (by omega)
  refine ⟨b, off + q * sz, ?_, h2, fun i j hi hj => ?_⟩
  · unfold slA
    rw [if_neg (by omega), Option.map_some, add_plain]
  · have := h3 (q + i) j (by omega) hj
    rw [show off + q * sz + i * sz + j = off + (q + i) * sz + j by rw [Nat.add_mul]; omega]
    exact this
end Go.Proofs.Ytckiagbllkdfdaa
