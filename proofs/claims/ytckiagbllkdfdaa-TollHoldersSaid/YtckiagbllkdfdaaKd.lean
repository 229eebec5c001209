/-
  The layer's rules for entering, returning, and regions that draw their order. No condition on a program.
-/
import Derived.Test.YtckiagbllkdfdaaKc
import Derived.Test.YtckiagbllkdfdaaCh2
namespace Go.Proofs.Ytckiagbllkdfdaa
set_option linter.all false
set_option linter.unusedVariables false
set_option linter.unusedSimpArgs false
open Go.RowKit
def zipF : Nat → List Value → Fr
  | _, [] => []
  | i, v :: vs => (i, v) :: zipF (i + 1) vs
theorem zipF_get : ∀ (vs : List Value) (i t : Nat) (v : Value), fget (zipF i vs) t = some v → i ≤ t ∧ vs[t - i]? = some v
  | [], _, _, _, h => by cases h
  | u :: vs, i, t, v, h => by
    simp only [zipF, fget] at h
    cases hb : Nat.beq i t with
    | true =>
      rw [hb] at h
      have := beq_iff.1 hb
      subst this
      exact ⟨Nat.le_refl _, by simpa using h⟩
    | false =>
      rw [hb] at h
      obtain ⟨h1, h2⟩ := zipF_get vs (i + 1) t v h
      exact ⟨by omega, by rw [show t - i = (t - (i + 1)) + 1 by omega, List.getElem?_cons_succ]; exact h2⟩
theorem FS.start {n : Nat} {args : List Value} (hn : args.length ≤ n) : FS n [] (zipF 0 args) { tmps := args.toArray ++ Array.replicate (n - args.toArray.size) undef, defers := [] } := by
  refine ⟨by simp; omega, rfl, fun t v hv => ?_⟩
  obtain ⟨_, h⟩ := zipF_get args 0 t v hv
  rw [Nat.sub_zero] at h
  have hlt := (List.getElem?_eq_some_iff.1 h).1
  have h2 : args[t] = v := by rw [List.getElem?_eq_getElem hlt] at h; injection h
  simp [Array.getD_eq_getD_getElem?, Array.getElem?_append, hlt, h2]
theorem K_enter {P : Program} {f : FuncId} {fn : Func} {code : Code} {n : Nat} {args : List Value} {R : Ending → World → Prop} {w : World} {S : List Nat} {K : List Fact} (hf : P.funcs[f]? = some fn) (hb : fn.body = some code) (hn : fn.ntmps = n) (hl : Nat.ble args.length n = true) (hS : Sat S w K w)
    (h : TW ⟨P, n, [], S, w⟩ code (bodyPost P fn R) (zipF 0 args) K) : Calls P f args.toArray w R := by
  refine calls_of_wp hf hb ?_
  rw [hn]
  exact h _ _ (FS.start (Nat.le_of_ble_eq_true hl)) hS
inductive RV (c : Cx) (F : Fr) (K : List Fact) : List ResultVar → List Value → Prop
  | nil : RV c F K [] []
  | tmp {t : Nat} {v : Value} {rs : List ResultVar} {vs : List Value} : fget F t = some v → RV c F K rs vs → RV c F K (.tmp t :: rs) (v :: vs)
  | cell {t : Nat} {T : TypeId} {q : Option Addr} {v : Value} {rs : List ResultVar} {vs : List Value} : fget F t = some (.pointer q) → Sc c.P T → Cells c K q [v] → RV c F K rs vs → RV c F K (.cell t T :: rs) (v :: vs)
  | cells {t m : Nat} {T : TypeId} {q : Option Addr} {us : List Value} {rs : List ResultVar} {vs : List Value} : fget F t = some (.pointer q) → Ag c.P T m → Cells c K q us → us.length = m → RV c F K rs vs → RV c F K (.cell t T :: rs) (.agg us.toArray :: vs)
def retV : List Value → Value
  | [v] => v
  | vs => .tuple vs.toArray
def resOne (t : Array Value) : ResultVar → Sem Value
  | .tmp i => pure (t.getD i undef)
  | .cell p T => do loadVar T (← asAddr (t.getD p undef))
theorem results_eq (fn : Func) (t : Array Value) : Go.results fn t = (do let vs ← fn.results.mapM (resOne t); pure (if h : vs.size = 1 then vs[0] else .tuple vs)) := by
  unfold Go.results
  congr 2
theorem RV.run {c : Cx} {F : Fr} {K : List Fact} {rs : List ResultVar} {vs : List Value} (h : RV c F K rs vs) {a : Act} {w : World} (hF : FS c.n c.D F a) (hK : Sat c.S c.w0 K w) : (rs.mapM (resOne a.tmps)).run c.P w = .ok vs w := by
  induction h with
  | nil => rfl
  | tmp h1 _ ih => simp only [List.mapM_cons, Sem.run_bind, Sem.run_pure, Result.andThen_ok, resOne, hF.get _ _ h1, ih]
  | cell h1 h2 h3 _ ih =>
    obtain ⟨b, off, rfl, h4⟩ := h3 w hK
    have h5 := h4 0 _ rfl
    rw [Nat.add_zero] at h5
    simp only [List.mapM_cons, Sem.run_bind, Sem.run_pure, Result.andThen_ok, resOne, hF.get _ _ h1, ih, asAddr, loadVar, h2 w, Sem.run_ite, Bool.false_eq_true, if_false, run_load, h5]
  | cells h1 h2 h3 h4 _ ih =>
    obtain ⟨b, off, rfl, h5⟩ := h3 w hK
    have h6 := run_loadCells_list (P := c.P) (w := w) ⟨b, off, none⟩ _ (fun j v hv => by rw [add_plain]; exact h5 j v hv)
    rw [h4] at h6
    simp only [List.mapM_cons, Sem.run_bind, Sem.run_pure, Result.andThen_ok, resOne, hF.get _ _ h1, ih, asAddr, loadVar, h2.1 w, h2.2 w, Sem.run_ite, if_true, h6]
theorem RV.results {c : Cx} {F : Fr} {K : List Fact} {rs : List ResultVar} {vs : List Value} {fn : Func} (hr : fn.results = rs.toArray) (h : RV c F K rs vs) {a : Act} {w : World} (hF : FS c.n c.D F a) (hK : Sat c.S c.w0 K w) : (results fn a.tmps).run c.P w = .ok (retV vs) w := by
  have h1 := h.run hF hK
  rw [results_eq, hr]
  simp only [List.mapM_toArray, Sem.run_bind, Sem.run_map, h1, Result.andThen_ok, Sem.run_pure]
  match vs with
  | [] => rfl
  | [v] => rfl
  | _ :: _ :: _ => simp [retV]
section
variable {c : Cx} {Q : Exit → Act → World → Prop} {F F' : Fr} {K K' : List Fact} {ty : TypeId} {pos : String} {af : Array Edge} {g : Option (Nat × Bool)}
theorem TQ.ret {fn : Func} {R : Ending → World → Prop} {rs : List ResultVar} {vs : List Value} (hr : fn.results = rs.toArray) (hD : c.D = []) (hv : RV c F K rs vs) (h : ∀ w, Sat c.S c.w0 K w → R (.returned (retV vs)) w) : TQ c (bodyPost c.P fn R) .ret F K := fun a w hF hK =>
  ⟨hF.dfs.trans hD, _, hv.results hr hF hK, h w hK⟩
theorem TQ.end {fn : Func} {R : Ending → World → Prop} {rs : List ResultVar} {vs : List Value} (hr : fn.results = rs.toArray) (hD : c.D = []) (hv : RV c F K rs vs) (h : ∀ w, Sat c.S c.w0 K w → R (.returned (retV vs)) w) : TQ c (bodyPost c.P fn R) .normal F K := fun a w hF hK =>
  ⟨hF.dfs.trans hD, _, hv.results hr hF hK, h w hK⟩
theorem fieldAt_of {P : Program} {T : Nat} {fs : Array Field} (i o ft m : Nat) (ht : P.underlying T = some (.struct fs)) (hf : (fs[i]?).map (fun f => (f.type, f.offset)) = some (ft, o)) (hs : Sz P ft m) (hm : Nat.beq m 0 = false) : FieldAt P T i o := fun w a => by
  obtain ⟨f, hf, e⟩ := Option.map_eq_some_iff.1 hf
  injection e with e1 e2
  have hs' : Sz P f.type m := by rw [e1]; exact hs
  rw [← e2]
  clear e1 hs
  have hm : m ≠ 0 := fun e => by rw [e] at hm; cases hm
  cases hsp : a.spot with
  | some s => exact .inr rfl
  | none =>
    refine .inl ?_
    have e : a.add f.offset = ⟨a.block, a.off + f.offset, none⟩ := by
      obtain ⟨b, o, sp⟩ := a
      simp only at hsp
      subst hsp
      exact add_plain b o _
    simp [Instr.fieldAt, run_underlying ht, hf, Instr.sureAddr, fieldPlace, hs' w, hm, e]
theorem tnS (n : Nat) : ((n : Int) + 1).toNat = n + 1 := by omega
theorem tnA (n m : Nat) : ((n : Int) + (m : Int)).toNat = n + m := by omega
/-! ### Regions that draw -/
def gdB (F : Fr) (ops : Array Oper) : Option (Nat × Bool) → Option Bool
  | none => some true
  | some (j, b) => match (ops[j]?).bind (·.dst) with
    | some t => match fget F t with
      | some (.bool b') => some (b' == b)
      | some (.tuple _) => some false
      | _ => none
    | none => none
theorem FS.wanted {n : Nat} {D : List Deferred} {a : Act} (h : FS n D F a) {ops : Array Oper} {o : Oper} {b : Bool} (hg : gdB F ops o.guard = some b) : Region.wanted o (yielded ops a.tmps) = b := by
  unfold Region.wanted
  cases ho : o.guard with
  | none => rw [ho] at hg; injection hg
  | some jb =>
    obtain ⟨j, b1⟩ := jb
    rw [ho] at hg
    simp only [gdB] at hg
    cases hd : (ops[j]?).bind (·.dst) with
    | none => rw [hd] at hg; cases hg
    | some t =>
      simp only [hd] at hg
      cases hf : fget F t with
      | none => simp [hf] at hg
      | some v =>
        simp only [hf] at hg
        have h1 := h.get t _ hf
        have h2 : a.tmps[t]? = some v ∨ (a.tmps[t]? = none ∧ v = undef) := by
          rw [Array.getD_eq_getD_getElem?] at h1
          cases h3 : a.tmps[t]? with
          | none => rw [h3] at h1; exact .inr ⟨rfl, by simpa using h1.symm⟩
          | some u => rw [h3] at h1; exact .inl (by simpa using h1)
        match v, hg, h2 with
        | .bool b2, hg, h2 =>
          rcases h2 with h2 | ⟨_, h2⟩
          · simp only [yielded, hd, Option.bind_some, h2]
            exact Option.some.inj hg
          · exact absurd h2 (by simp [undef])
        | .tuple vs, hg, h2 =>
          have hg := Option.some.inj hg
          subst hg
          rcases h2 with h2 | ⟨h2, _⟩ <;> simp [yielded, hd, h2]
def RK (c : Cx) (ops : Array Oper) (Q : Exit → Act → World → Prop) (nf k : Nat) (rest : List Oper) (pend : List (Nat × Oper)) (fl : List Fl) (listed : Array Bool) (fuel : Nat) (F : Fr) (K : List Fact) : Prop :=
  ∀ a W w, FS c.n c.D F a → Sat c.S c.w0 K W → Below W.heap.size W w → RW c.P ops Q nf (Below W.heap.size W) k rest pend fl listed fuel a w
def FLK (c : Cx) (ops : Array Oper) (Q : Exit → Act → World → Prop) (nf : Nat) : List Fl → Fr → List Fact → Prop
  | [], F, K => TL c ops Q (ops.toList.drop nf) F K
  | f :: fl, F, K => ∀ b, FLK c ops Q nf fl ((f.d, .pointer (some ⟨b, 0, none⟩)) :: F) (.blk b f.ty f.z.toList :: K)
def flagged (bs : List Bool) (pend : List (Nat × Oper)) : List (Nat × Bool) := List.zipWith (fun b p => (p.1, b)) bs pend
def WK (c : Cx) (ops : Array Oper) (Q : Exit → Act → World → Prop) (nf : Nat) (fl : List Fl) (bs : List Bool) (pend : List (Nat × Oper)) (F : Fr) (K : List Fact) : Prop :=
  ∀ W N a w, (∀ p ∈ pend, (frontOf ops nf)[p.1]? = some p.2) → c.w0.heap.size ≤ W.heap.size → FS c.n c.D F a → Sat c.S c.w0 K w → (∀ b ∈ feet K, b < W.heap.size ∨ ∃ q ∈ N, q.1 ≤ b ∧ b < q.2) → Below W.heap.size W w →
    wpChain2 c.P (frontOf ops nf) (tailPost c.P ops Q nf) (fun N a w => ∀ D, D.map (·.1) = fl → FlOk W.heap.size w N D → Ext W w → wpList c.P ops Q (ops.toList.drop nf) (puts D a) w) (flagged bs pend) N a w
variable {ops : Array Oper} {nf k fuel : Nat} {rest : List Oper} {pend : List (Nat × Oper)} {fl : List Fl} {listed : Array Bool} {bs : List Bool}
theorem TW.draw {id : Nat} {l : List Oper} (nf : Nat) (hm : c.P.follows .mixedOrders = true) (hT : tailOk l.toArray nf = true) (hp : Pan Q) (h : RK c l.toArray Q nf 0 (l.take nf) [] [] (Array.replicate nf false) nf F K) : TW c (.region id l.toArray true) Q F K := fun a w hF hK =>
  RW.begin hm hT hp fun hb => h a w _ hF hK hb
theorem RK.take {d : Nat} {op : Op} {v : Value} (hk : takeB ops nf listed k = true) (hg : gdB F (frontOf ops nf) g = some true) (hp : Pu c F K ⟨some d, op, ty, pos, af, g⟩ v) (hd : Nat.blt d c.n = true)
    (h : RK c ops Q nf (k + 1) rest pend fl (listed.setIfInBounds k true) fuel ((d, v) :: F) K) : RK c ops Q nf k (⟨some d, op, ty, pos, af, g⟩ :: rest) pend fl listed (fuel + 1) F K := fun a W w hF hK hb =>
  RW.take hb hk (hF.wanted hg) (fun w' hb' => hp a w' hF (hK.ext hb')) (h _ W w (hF.put hd v) hK hb)
theorem RK.skip {d : Nat} {op : Op} (hk : takeB ops nf listed k = true) (hg : gdB F (frontOf ops nf) g = some false) (hd : Nat.blt d c.n = true)
    (h : RK c ops Q nf (k + 1) rest pend fl (listed.setIfInBounds k true) fuel ((d, undef) :: F) K) : RK c ops Q nf k (⟨some d, op, ty, pos, af, g⟩ :: rest) pend fl listed (fuel + 1) F K := fun a W w hF hK hb =>
  RW.skip hb hk (hF.wanted hg) (h _ W w (hF.put hd _) hK hb)
theorem RK.keep {o : Oper} (h : RK c ops Q nf (k + 1) rest (pend ++ [(k, o)]) fl listed fuel F K) : RK c ops Q nf k (o :: rest) pend fl listed fuel F K := fun a W w hF hK hb => RW.keep (h a W w hF hK hb)
theorem RK.float {d : Tmp} {T : TypeId} (z : List Value) (h : RK c ops Q nf (k + 1) rest pend (fl ++ [⟨k, d, T, z.toArray⟩]) listed fuel F K) : RK c ops Q nf k (⟨some d, .alloc T, ty, pos, af, none⟩ :: rest) pend fl listed fuel F K := fun a W w hF hK hb => RW.float _ (h a W w hF hK hb)
def zrAll (P : Program) : List Fl → Prop
  | [] => True
  | f :: fl => Zr P f.ty f.z.toList ∧ zrAll P fl
theorem zrAll_spec {P : Program} : ∀ {fl : List Fl}, zrAll P fl → ∀ f ∈ fl, Zr P f.ty f.z.toList
  | f :: fl, h, g, hg => by
    rcases List.mem_cons.1 hg with rfl | hg
    · exact h.1
    · exact zrAll_spec h.2 g hg
theorem RK.chain (bs : List Bool) (hb : checkB2 (frontOf ops nf) listed (flagged bs pend) (keys fl) = true) (hfu : decide ((flagged bs pend).length + fl.length ≤ fuel) = true) (hz : zrAll c.P fl) (h : WK c ops Q nf fl bs pend F K) : RK c ops Q nf k [] pend fl listed fuel F K := fun a W w hF hK hb' _ h2 h3 => by
  refine chain2_begin (S := Below W.heap.size W) (B := W.heap.size) (fun w w' he hs => Ext.trans hs he) (flagged bs pend) fl hb (by simpa using hfu) (fun d v ch a w => h3 d v ch a w) (fun f hf ρ o w ho => by
    obtain ⟨z, h1, h2⟩ := zrAll_spec hz f hf
    simp only [execOp, ho, Instr.alloc, newVar, newRow, Sem.run_bind, Sem.run_pure, h2 w, Result.andThen_ok, run_newObj, h1]
    rfl) hb' (K := fun N a w => ∀ D, D.map (·.1) = fl → FlOk W.heap.size w N D → Ext W w → wpList c.P ops Q (ops.toList.drop nf) (puts D a) w) (fun N a w D e1 e2 e3 hk => tail_list (hk D e1 e2 e3)) hb'.size (h W [] a w h2 hK.chg.size hF (hK.ext hb') (fun b hb => .inl (hK.lt b hb)) hb')
theorem puts_cons (p : Fl × Nat) (D : List (Fl × Nat)) (a : Act) : puts (p :: D) a = puts D (a.put (some p.1.d) (.pointer (some ⟨p.2, 0, none⟩))) := rfl
theorem FLK.run : ∀ (fl : List Fl) (F : Fr) (K : List Fact) (D : List (Fl × Nat)) (a : Act) (w : World), FLK c ops Q nf fl F K → (fl.all fun f => Nat.blt f.d c.n) = true → D.map (·.1) = fl → FS c.n c.D F a → Sat c.S c.w0 K w →
    (∀ p ∈ D, c.w0.heap.size ≤ p.2 ∧ Blk w p.2 p.1.ty p.1.z ∧ p.2 ∉ feet K) → (D.map (·.2)).Nodup → wpList c.P ops Q (ops.toList.drop nf) (puts D a) w
  | [], F, K, D, a, w, h, _, hD, hF, hK, _, _ => by
    cases D with
    | nil => exact h a w hF hK
    | cons => cases hD
  | f :: fl, F, K, D, a, w, h, hok, hD, hF, hK, hb, hnd => by
    cases D with
    | nil => cases hD
    | cons p D =>
      simp only [List.map_cons, List.cons.injEq] at hD
      obtain ⟨rfl, hD⟩ := hD
      simp only [List.all_cons, Bool.and_eq_true] at hok
      simp only [List.map_cons, List.nodup_cons] at hnd
      obtain ⟨h1, h2, h3⟩ := hb p (by simp)
      rw [puts_cons]
      refine FLK.run fl _ _ D _ w (h p.2) hok.2 hD (hF.put hok.1 _) ?_ (fun q hq => ?_) hnd.2
      · refine ⟨hK.chg, ?_, fun b hb => ?_, fun ψ hψ => ?_⟩
        · rw [feet_cons]; simp only [Fact.foot, List.singleton_append, List.nodup_cons]; exact ⟨h3, hK.nd⟩
        · rw [feet_cons] at hb; simp only [Fact.foot, List.singleton_append, List.mem_cons] at hb
          rcases hb with rfl | hb
          · exact .inr h1
          · exact hK.ge b hb
        · rcases List.mem_cons.1 hψ with rfl | hψ
          · simpa [Fact.holds] using h2
          · exact hK.holds ψ hψ
      · obtain ⟨k1, k2, k3⟩ := hb q (by simp [hq])
        refine ⟨k1, k2, ?_⟩
        rw [feet_cons]; simp only [Fact.foot, List.singleton_append, List.mem_cons, not_or]
        exact ⟨fun e => hnd.1 (List.mem_map.2 ⟨q, hq, e⟩), k3⟩
theorem WK.nil (hok : (fl.all fun f => Nat.blt f.d c.n) = true) (h : FLK c ops Q nf fl F K) : WK c ops Q nf fl [] [] F K := fun W N a w _ h0 hF hK hN hb => by
  intro w' he D hD hO hE
  refine FLK.run fl F K D a w' h hok hD hF (hK.ext he) (fun p hp => ?_) hO.2
  obtain ⟨h1, h2, h3⟩ := hO.1 p hp
  refine ⟨Nat.le_trans h0 h1, h2, fun hm => ?_⟩
  rcases hN p.2 hm with h4 | ⟨q, hq, h4⟩
  · omega
  · have := h3 q hq; omega
theorem WK.feet {W w' w'' : World} {N : List (Nat × Nat)} {L : List Fact} (hN : ∀ b ∈ feet K, b < W.heap.size ∨ ∃ q ∈ N, q.1 ≤ b ∧ b < q.2) (hL : Sat [] w' L w'') : ∀ b ∈ feet (L ++ K), b < W.heap.size ∨ ∃ q ∈ (w'.heap.size, w''.heap.size) :: N, q.1 ≤ b ∧ b < q.2 := fun b hb => by
  rw [feet_append, List.mem_append] at hb
  rcases hb with hb | hb
  · rcases hL.ge b hb with h | h
    · cases h
    · exact .inr ⟨_, List.mem_cons_self, h, hL.lt b hb⟩
  · rcases hN b hb with h | ⟨q, hq, h⟩
    · exact .inl h
    · exact .inr ⟨q, by simp [hq], h⟩
/-- A step of the chain that acts. -/
theorem WK.act {i : Nat} {o : Oper} (h : ∀ (a : Act) (w' : World) (K' : Act → World → Prop), FS c.n c.D F a → Sat c.S c.w0 K w' → (frontOf ops nf)[i]? = some o →
      (∀ F2 L a' w'', Sat [] w' L w'' → FS c.n c.D F2 a' → WK c ops Q nf fl bs pend F2 (L ++ K) → K' a' w'') → wpOp c.P (frontOf ops nf) (tailPost c.P ops Q nf) i K' a w') : WK c ops Q nf fl (false :: bs) ((i, o) :: pend) F K := fun W N a w h2 h0 hF hK hN hb => by
  intro w' he
  refine h a w' _ hF (hK.ext he) (h2 (i, o) (by simp)) fun F2 L a' w'' hs hF2 hw => ?_
  have hE : Ext w' w'' := Chg.ext hs.chg
  exact ⟨hE, hw W _ _ _ (fun p hp => h2 p (by simp [hp])) h0 hF2 ((hK.ext he).add hs) (WK.feet hN hs) (Ext.trans (Ext.trans hb he) hE)⟩
theorem wpOp_of {P : Program} {front : Array Oper} {R : Exit → Act → World → Prop} {i : Nat} {o : Oper} {K' : Act → World → Prop} {a : Act} {w : World} (ho : front[i]? = some o) (hw : Region.wanted o (yielded front a.tmps) = true) (h : o.wp P a w K' R) : wpOp P front R i K' a w := by
  unfold wpOp
  simp only [ho, hw, if_true]
  exact .inl h
theorem WK.call {i : Nat} {d : Option Tmp} {f : FuncId} {xs : List Operand} {ts : Array TypeId} {us : List Value} {X : Type} {val : X → Value} {L : X → List Fact} (hx : evs F xs = some us) (hen : Enters c.P f) (hd : dok d c.n = true)
    (hc : ∀ w, Sat c.S c.w0 K w → CallsK c.P f us.toArray [] w X val L) (h : ∀ x, WK c ops Q nf fl bs pend (fput F d (val x)) (L x ++ K)) : WK c ops Q nf fl (false :: bs) ((i, ⟨d, .call { callee := .value (.func f), args := xs.toArray, argTypes := ts }, ty, pos, af, none⟩) :: pend) F K :=
  WK.act fun a w' K' hF hK ho hK' => by
    refine wpOp_of ho rfl ?_
    have hr : (execOp a.eval ⟨d, .call { callee := .value (.func f), args := xs.toArray, argTypes := ts }, ty, pos, af, none⟩).run c.P w' = .ok (.enter f us.toArray) w' := by
      have := hF.evsl hx
      have h9 := hen us.toArray w'
      simp [execOp, resolve, invoke, Deferred.ofValue, Act.eval, this, h9]
    unfold Oper.wp
    rw [hr]
    refine Calls.mono (hc w' hK) ?_
    rintro e w'' ⟨x, rfl, hs⟩
    exact hK' _ _ _ _ hs (hF.fput hd _) (h x)
theorem WK.mk {i : Nat} {d : Option Tmp} {op : Op} {v : Nat → Value} {t : TypeId} {cs : List Value} (hm : Mk c F K ⟨d, op, ty, pos, af, none⟩ v t cs) (hd : dok d c.n = true) (h : ∀ b, WK c ops Q nf fl bs pend (fput F d (v b)) (.blk b t cs :: K)) : WK c ops Q nf fl (false :: bs) ((i, ⟨d, op, ty, pos, af, none⟩) :: pend) F K :=
  WK.act fun a w' K' hF hK ho hK' => by
    refine wpOp_of ho rfl ?_
    have hr := hm a w' hF hK
    unfold Oper.wp
    rw [hr]
    have hs : Sat [] w' [.blk w'.heap.size t cs] (w'.alloc (.cells cs.toArray t)) := (Sat.start w').new t cs
    exact hK' _ [.blk w'.heap.size t cs] _ _ hs (hF.fput hd _) (h w'.heap.size)
/-! ### Guards -/
theorem TL.guard {t : Nat} {b : Bool} (ht : fget F t = some (.bool b)) (h1 : b = true → TL c ops Q rest ((t, .bool true) :: F) K) (h2 : b = false → TL c ops Q rest ((t, .bool false) :: F) K) : TL c ops Q rest F K := fun a w hF hK => by
  have key : ∀ b', b = b' → FS c.n c.D ((t, .bool b') :: F) a := fun b' e => ⟨hF.size, hF.dfs, fun u v hv => by
    subst e
    simp only [fget] at hv
    cases hb : Nat.beq t u with
    | true => rw [hb] at hv; have := beq_iff.1 hb; subst this; injection hv with hv; subst hv; exact hF.get _ _ ht
    | false => rw [hb] at hv; exact hF.get _ _ hv⟩
  cases hb : b
  · exact h2 hb a w (key _ hb) hK
  · exact h1 hb a w (key _ hb) hK
theorem wpList_no {P : Program} {o : Oper} {a : Act} {w : World} (hg : Region.wanted o (yielded ops a.tmps) = false) (h : wpList P ops Q rest (a.put o.dst undef) w) : wpList P ops Q (o :: rest) a w := by
  unfold wpList
  rw [if_neg (by simp [hg])]
  exact h
theorem wpList_yes {P : Program} {o : Oper} {v : Value} {a : Act} {w : World} (hg : Region.wanted o (yielded ops a.tmps) = true) (hr : (execOp a.eval o).run P w = .ok (.value v) w) (h : wpList P ops Q rest (a.put o.dst v) w) : wpList P ops Q (o :: rest) a w := by
  unfold wpList
  rw [if_pos hg]
  exact .inl (by unfold Oper.wp; rw [hr]; exact h)
theorem TL.gskip {d : Nat} {op : Op} (hg : gdB F ops g = some false) (hd : Nat.blt d c.n = true) (h : TL c ops Q rest ((d, undef) :: F) K) : TL c ops Q (⟨some d, op, ty, pos, af, g⟩ :: rest) F K := fun a w hF hK =>
  wpList_no (hF.wanted hg) (h _ w (hF.put hd _) hK)
theorem TL.gpure {d : Nat} {op : Op} {v : Value} (hg : gdB F ops g = some true) (hp : Pu c F K ⟨some d, op, ty, pos, af, g⟩ v) (hd : Nat.blt d c.n = true) (h : TL c ops Q rest ((d, v) :: F) K) : TL c ops Q (⟨some d, op, ty, pos, af, g⟩ :: rest) F K := fun a w hF hK =>
  wpList_yes (hF.wanted hg) (hp a w hF hK) (h _ w (hF.put hd v) hK)
theorem TL.gcall {d : Option Tmp} {f : FuncId} {xs : List Operand} {ts : Array TypeId} {us : List Value} {v : Value} (hg : gdB F ops g = some true) (hx : evs F xs = some us) (hen : Enters c.P f) (hd : dok d c.n = true)
    (hc : ∀ w, Sat c.S c.w0 K w → Calls c.P f us.toArray w (Ret w v)) (h : TL c ops Q rest (fput F d v) K) : TL c ops Q (⟨d, .call { callee := .value (.func f), args := xs.toArray, argTypes := ts }, ty, pos, af, g⟩ :: rest) F K := fun a w hF hK => by
  have hr : (execOp a.eval ⟨d, .call { callee := .value (.func f), args := xs.toArray, argTypes := ts }, ty, pos, af, g⟩).run c.P w = .ok (.enter f us.toArray) w := by
    have := hF.evsl hx
    have h9 := hen us.toArray w
    simp [execOp, resolve, invoke, Deferred.ofValue, Act.eval, this, h9]
  unfold wpList
  rw [if_pos (hF.wanted hg)]
  refine .inl ?_
  unfold Oper.wp
  rw [hr]
  refine Calls.mono (hc w hK) ?_
  rintro e w' ⟨rfl, hb⟩
  exact h _ _ (hF.fput hd _) (hK.ext hb)
theorem RK.guard {t : Nat} {b : Bool} (ht : fget F t = some (.bool b)) (h1 : b = true → RK c ops Q nf k rest pend fl listed fuel ((t, .bool true) :: F) K) (h2 : b = false → RK c ops Q nf k rest pend fl listed fuel ((t, .bool false) :: F) K) : RK c ops Q nf k rest pend fl listed fuel F K := fun a W w hF hK hb => by
  have key : ∀ b', b = b' → FS c.n c.D ((t, .bool b') :: F) a := fun b' e => ⟨hF.size, hF.dfs, fun u v hv => by
    subst e
    simp only [fget] at hv
    cases hb : Nat.beq t u with
    | true => rw [hb] at hv; have := beq_iff.1 hb; subst this; injection hv with hv; subst hv; exact hF.get _ _ ht
    | false => rw [hb] at hv; exact hF.get _ _ hv⟩
  cases hb' : b
  · exact h2 hb' a W w (key _ hb') hK hb
  · exact h1 hb' a W w (key _ hb') hK hb
theorem WK.guard {t : Nat} {b : Bool} (ht : fget F t = some (.bool b)) (h1 : b = true → WK c ops Q nf fl bs pend ((t, .bool true) :: F) K) (h2 : b = false → WK c ops Q nf fl bs pend ((t, .bool false) :: F) K) : WK c ops Q nf fl bs pend F K := fun W N a w hp h0 hF hK hN hb => by
  have key : ∀ b', b = b' → FS c.n c.D ((t, .bool b') :: F) a := fun b' e => ⟨hF.size, hF.dfs, fun u v hv => by
    subst e
    simp only [fget] at hv
    cases hb : Nat.beq t u with
    | true => rw [hb] at hv; have := beq_iff.1 hb; subst this; injection hv with hv; subst hv; exact hF.get _ _ ht
    | false => rw [hb] at hv; exact hF.get _ _ hv⟩
  cases hb' : b
  · exact h2 hb' W N a w hp h0 (key _ hb') hK hN hb
  · exact h1 hb' W N a w hp h0 (key _ hb') hK hN hb
theorem WK.lit {t : Nat} {b b' : Bool} (ht : fget F t = some (.bool b)) (hb : b = b') (h : WK c ops Q nf fl bs pend ((t, .bool b') :: F) K) : WK c ops Q nf fl bs pend F K := fun W N a w hp h0 hF hK hN hb9 =>
  h W N a w hp h0 ⟨hF.size, hF.dfs, fun u v hv => by
    simp only [fget] at hv
    cases h1 : Nat.beq t u with
    | true => rw [h1] at hv; have := beq_iff.1 h1; subst this; injection hv with hv; subst hv; rw [← hb]; exact hF.get _ _ ht
    | false => rw [h1] at hv; exact hF.get _ _ hv⟩ hK hN hb9
/-- An acting step that its guard passes over. -/
theorem WK.gskip {i d : Nat} {op : Op} (hg : gdB F (frontOf ops nf) g = some false) (hd : Nat.blt d c.n = true) (h : WK c ops Q nf fl bs pend ((d, undef) :: F) K) : WK c ops Q nf fl (false :: bs) ((i, ⟨some d, op, ty, pos, af, g⟩) :: pend) F K :=
  WK.act fun a w' K' hF hK ho hK' => by
    have hwn := hF.wanted (ops := frontOf ops nf) (o := ⟨some d, op, ty, pos, af, g⟩) hg
    have hk := hK' _ [] _ _ (Sat.start w') (hF.put hd undef) h
    unfold wpOp
    simp only [ho, hwn, Bool.false_eq_true, if_false]
    exact hk
/-- A quiet step. -/
theorem WK.quiet {i : Nat} {o : Oper} {v : Value} {F2 : Fr} (hF2 : ∀ a, FS c.n c.D F a → FS c.n c.D F2 (a.put o.dst v)) (hy : ∀ a w, FS c.n c.D F a → Sat c.S c.w0 K w → YieldsIf c.P (frontOf ops nf) (fun w3 => Ext w w3) o v a) (h : WK c ops Q nf fl bs pend F2 K) : WK c ops Q nf fl (true :: bs) ((i, o) :: pend) F K := fun W N a w hp h0 hF hK hN hb => by
  intro w' he o' ho'
  have : o = o' := by
    have := hp (i, o) (by simp)
    rw [this] at ho'; injection ho'
  subst this
  exact ⟨v, hy a w' hF (hK.ext he), h W N _ w' (fun p hp' => hp p (by simp [hp'])) h0 (hF2 a hF) (hK.ext he) hN (Ext.trans hb he)⟩
theorem WK.pure {i d : Nat} {op : Op} {v : Value} (hg : gdB F (frontOf ops nf) g = some true) (hp : Pu c F K ⟨some d, op, ty, pos, af, g⟩ v) (hd : Nat.blt d c.n = true) (h : WK c ops Q nf fl bs pend ((d, v) :: F) K) : WK c ops Q nf fl (true :: bs) ((i, ⟨some d, op, ty, pos, af, g⟩) :: pend) F K :=
  WK.quiet (fun a hF => hF.put hd v) (fun a w hF hK => .inl ⟨hF.wanted hg, fun w3 h3 => hp a w3 hF (hK.ext h3)⟩) h
theorem WK.pskip {i d : Nat} {op : Op} (hg : gdB F (frontOf ops nf) g = some false) (hd : Nat.blt d c.n = true) (h : WK c ops Q nf fl bs pend ((d, undef) :: F) K) : WK c ops Q nf fl (true :: bs) ((i, ⟨some d, op, ty, pos, af, g⟩) :: pend) F K :=
  WK.quiet (fun a hF => hF.put hd undef) (fun a w hF hK => .inr ⟨hF.wanted hg, rfl⟩) h
theorem WK.gcall {i : Nat} {d : Option Tmp} {f : FuncId} {xs : List Operand} {ts : Array TypeId} {us : List Value} {v : Value} (hg : gdB F (frontOf ops nf) g = some true) (hx : evs F xs = some us) (hen : Enters c.P f) (hd : dok d c.n = true)
    (hc : ∀ w, Sat c.S c.w0 K w → Calls c.P f us.toArray w (Ret w v)) (h : WK c ops Q nf fl bs pend (fput F d v) K) : WK c ops Q nf fl (false :: bs) ((i, ⟨d, .call { callee := .value (.func f), args := xs.toArray, argTypes := ts }, ty, pos, af, g⟩) :: pend) F K :=
  WK.act fun a w' K' hF hK ho hK' => by
    refine wpOp_of ho (hF.wanted hg) ?_
    have hr : (execOp a.eval ⟨d, .call { callee := .value (.func f), args := xs.toArray, argTypes := ts }, ty, pos, af, g⟩).run c.P w' = .ok (.enter f us.toArray) w' := by
      have := hF.evsl hx
      have h9 := hen us.toArray w'
      simp [execOp, resolve, invoke, Deferred.ofValue, Act.eval, this, h9]
    unfold Oper.wp
    rw [hr]
    refine Calls.mono (hc w' hK) ?_
    rintro e w'' ⟨rfl, hb⟩
    exact hK' _ [] _ _ (Sat.nil (Chg.of_ext hb)) (hF.fput hd _) h
/-- Ways that meet: what lies behind is shown once. -/
theorem TW.join {x : Code} (E : Fr) (h : TQ c Q .normal (E ++ F) K) (r : TQ c Q .normal (E ++ F) K → TW c x Q F K) : TW c x Q F K := r h
theorem Pu.pickT {d : Option Tmp} {t x y : Operand} {u : Value} (ht : ev F t = some (.bool true)) (hx : ev F x = some u) : Pu c F K ⟨d, .pick t x y, ty, pos, af, g⟩ u := fun a w hF _ => by
  simp only [execOp, hF.evl ht, hF.evl hx, asBool, Sem.run_bind, Sem.run_pure, Result.andThen_ok, if_true]
theorem Pu.pickF {d : Option Tmp} {t x y : Operand} {u : Value} (ht : ev F t = some (.bool false)) (hy : ev F y = some u) : Pu c F K ⟨d, .pick t x y, ty, pos, af, g⟩ u := fun a w hF _ => by
  simp only [execOp, hF.evl ht, hF.evl hy, asBool, Sem.run_bind, Sem.run_pure, Result.andThen_ok, Bool.false_eq_true, if_false]
theorem CallsK.ret {P : Program} {f : FuncId} {args : Array Value} {w : World} {v : Value} (h : Calls P f args w (Ret w v)) : CallsK P f args [] w Unit (fun _ => v) (fun _ => []) :=
  Calls.mono h fun e w' ⟨h1, h2⟩ => ⟨(), h1, Sat.nil (Chg.of_ext h2)⟩
theorem TL.callR {d : Option Tmp} {f : FuncId} {xs : List Operand} {ts : Array TypeId} {us : List Value} {v : Value} (hx : evs F xs = some us) (hen : Enters c.P f) (hd : dok d c.n = true)
    (hc : ∀ w, Sat c.S c.w0 K w → Calls c.P f us.toArray w (Ret w v)) (h : TL c ops Q rest (fput F d v) K) : TL c ops Q (⟨d, .call { callee := .value (.func f), args := xs.toArray, argTypes := ts }, ty, pos, af, none⟩ :: rest) F K := TL.gcall rfl hx hen hd hc h
theorem Ret.of {w w' : World} {v : Value} {L : List Fact} (h : Sat [] w L w') : Ret w v (.returned v) w' := ⟨rfl, Chg.ext h.chg⟩
end
end Go.Proofs.Ytckiagbllkdfdaa
