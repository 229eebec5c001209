/-
  Part 3 of the proof of alive_any,ready2_any,has2_any,choose2_any,inside2_any,place2_any,lw_names,lw_fits,lw_has,open_herd,open_looksB,open_calves,open_u8b,open_u32sB,open_u32b,law_post,TW.meet,TL.unb,TW.ocap,rLooks2_any,bBirths_any,rSign_any,lks_in: declarations of several texts, in build order. No condition on a program.
-/
import Derived.Test.YtbenhafhklfhmaaGreatAl02
import Derived.MapKept
import Derived.Carry
import Derived.Lib.AppendZerosOnto
import Derived.Laws.OwnMore
import Derived.Test.YtbenhafhklfhmaaGreatAl01
namespace Go.Proofs.YtbenhafhklfhmaaGreat
set_option linter.all false
set_option linter.unusedVariables false
set_option linter.unusedSimpArgs false
open Go.RowKit
def zipF : Nat → List Value → Fr
  | _, [] => []
  | i, v :: vs => (i, v) :: zipF (i + 1) vs
theorem zipF_get : ∀ (vs : List Value) (i t : Nat) (v : Value), fget (zipF i vs) t = some v → i ≤ t ∧ vs[t - i]? = some v
  | [], _, _, _, h => by cases h
  | u :: vs, i, t, v, h => by
    simp only [zipF, fget] at h
    cases hb : Nat.beq i t with
    | true =>
      rw [hb] at h
      have := beq_iff.1 hb
      subst this
      exact ⟨Nat.le_refl _, by simpa using h⟩
    | false =>
      rw [hb] at h
      obtain ⟨h1, h2⟩ := zipF_get vs (i + 1) t v h
      exact ⟨by omega, by rw [show t - i = (t - (i + 1)) + 1 by omega, List.getElem?_cons_succ]; exact h2⟩
theorem FS.start {n : Nat} {args : List Value} (hn : args.length ≤ n) : FS n [] (zipF 0 args) { tmps := args.toArray ++ Array.replicate (n - args.toArray.size) undef, defers := [] } := by
  refine ⟨by simp; omega, rfl, fun t v hv => ?_⟩
  obtain ⟨_, h⟩ := zipF_get args 0 t v hv
  rw [Nat.sub_zero] at h
  have hlt := (List.getElem?_eq_some_iff.1 h).1
  have h2 : args[t] = v := by rw [List.getElem?_eq_getElem hlt] at h; injection h
  simp [Array.getD_eq_getD_getElem?, Array.getElem?_append, hlt, h2]
theorem K_enter {P : Program} {f : FuncId} {fn : Func} {code : Code} {n : Nat} {args : List Value} {R : Ending → World → Prop} {w : World} {S : List Nat} {K : List Fact} (hf : P.funcs[f]? = some fn) (hb : fn.body = some code) (hn : fn.ntmps = n) (hl : Nat.ble args.length n = true) (hS : Sat S w K w)
    (h : TW ⟨P, n, [], S, w⟩ code (bodyPost P fn R) (zipF 0 args) K) : Calls P f args.toArray w R := by
  refine calls_of_wp hf hb ?_
  rw [hn]
  exact h _ _ (FS.start (Nat.le_of_ble_eq_true hl)) hS
inductive RV (c : Cx) (F : Fr) (K : List Fact) : List ResultVar → List Value → Prop
  | nil : RV c F K [] []
  | tmp {t : Nat} {v : Value} {rs : List ResultVar} {vs : List Value} : fget F t = some v → RV c F K rs vs → RV c F K (.tmp t :: rs) (v :: vs)
  | cell {t : Nat} {T : TypeId} {q : Option Addr} {v : Value} {rs : List ResultVar} {vs : List Value} : fget F t = some (.pointer q) → Sc c.P T → Cells c K q [v] → RV c F K rs vs → RV c F K (.cell t T :: rs) (v :: vs)
  | cells {t m : Nat} {T : TypeId} {q : Option Addr} {us : List Value} {rs : List ResultVar} {vs : List Value} : fget F t = some (.pointer q) → Ag c.P T m → Cells c K q us → us.length = m → RV c F K rs vs → RV c F K (.cell t T :: rs) (.agg us.toArray :: vs)
def retV : List Value → Value
  | [v] => v
  | vs => .tuple vs.toArray
def resOne (t : Array Value) : ResultVar → Sem Value
  | .tmp i => pure (t.getD i undef)
  | .cell p T => do loadVar T (← asAddr (t.getD p undef))
theorem results_eq (fn : Func) (t : Array Value) : Go.results fn t = (do let vs ← fn.results.mapM (resOne t); pure (if h : vs.size = 1 then vs[0] else .tuple vs)) := by
  unfold Go.results
  congr 2
theorem RV.run {c : Cx} {F : Fr} {K : List Fact} {rs : List ResultVar} {vs : List Value} (h : RV c F K rs vs) {a : Act} {w : World} (hF : FS c.n c.D F a) (hK : Sat c.S c.w0 K w) : (rs.mapM (resOne a.tmps)).run c.P w = .ok vs w := by
  induction h with
  | nil => rfl
  | tmp h1 _ ih => simp only [List.mapM_cons, Sem.run_bind, Sem.run_pure, Result.andThen_ok, resOne, hF.get _ _ h1, ih]
  | cell h1 h2 h3 _ ih =>
    obtain ⟨b, off, rfl, h4⟩ := h3 w hK
    have h5 := h4 0 _ rfl
    rw [Nat.add_zero] at h5
    simp only [List.mapM_cons, Sem.run_bind, Sem.run_pure, Result.andThen_ok, resOne, hF.get _ _ h1, ih, asAddr, loadVar, h2 w, Sem.run_ite, Bool.false_eq_true, if_false, run_load, h5]
  | cells h1 h2 h3 h4 _ ih =>
    obtain ⟨b, off, rfl, h5⟩ := h3 w hK
    have h6 := run_loadCells_list (P := c.P) (w := w) ⟨b, off, none⟩ _ (fun j v hv => by rw [add_plain]; exact h5 j v hv)
    rw [h4] at h6
    simp only [List.mapM_cons, Sem.run_bind, Sem.run_pure, Result.andThen_ok, resOne, hF.get _ _ h1, ih, asAddr, loadVar, h2.1 w, h2.2 w, Sem.run_ite, if_true, h6]
theorem RV.results {c : Cx} {F : Fr} {K : List Fact} {rs : List ResultVar} {vs : List Value} {fn : Func} (hr : fn.results = rs.toArray) (h : RV c F K rs vs) {a : Act} {w : World} (hF : FS c.n c.D F a) (hK : Sat c.S c.w0 K w) : (results fn a.tmps).run c.P w = .ok (retV vs) w := by
  have h1 := h.run hF hK
  rw [results_eq, hr]
  simp only [List.mapM_toArray, Sem.run_bind, Sem.run_map, h1, Result.andThen_ok, Sem.run_pure]
  match vs with
  | [] => rfl
  | [v] => rfl
  | _ :: _ :: _ => simp [retV]
section
variable {c : Cx} {Q : Exit → Act → World → Prop} {F F' : Fr} {K K' : List Fact} {ty : TypeId} {pos : String} {af : Array Edge} {g : Option (Nat × Bool)}
theorem TQ.ret {fn : Func} {R : Ending → World → Prop} {rs : List ResultVar} {vs : List Value} (hr : fn.results = rs.toArray) (hD : c.D = []) (hv : RV c F K rs vs) (h : ∀ w, Sat c.S c.w0 K w → R (.returned (retV vs)) w) : TQ c (bodyPost c.P fn R) .ret F K := fun a w hF hK =>
  ⟨hF.dfs.trans hD, _, hv.results hr hF hK, h w hK⟩
theorem TQ.end {fn : Func} {R : Ending → World → Prop} {rs : List ResultVar} {vs : List Value} (hr : fn.results = rs.toArray) (hD : c.D = []) (hv : RV c F K rs vs) (h : ∀ w, Sat c.S c.w0 K w → R (.returned (retV vs)) w) : TQ c (bodyPost c.P fn R) .normal F K := fun a w hF hK =>
  ⟨hF.dfs.trans hD, _, hv.results hr hF hK, h w hK⟩
theorem fieldAt_of {P : Program} {T : Nat} {fs : Array Field} (i o ft m : Nat) (ht : P.underlying T = some (.struct fs)) (hf : (fs[i]?).map (fun f => (f.type, f.offset)) = some (ft, o)) (hs : Sz P ft m) (hm : Nat.beq m 0 = false) : FieldAt P T i o := fun w a => by
  obtain ⟨f, hf, e⟩ := Option.map_eq_some_iff.1 hf
  injection e with e1 e2
  have hs' : Sz P f.type m := by rw [e1]; exact hs
  rw [← e2]
  clear e1 hs
  have hm : m ≠ 0 := fun e => by rw [e] at hm; cases hm
  cases hsp : a.spot with
  | some s => exact .inr rfl
  | none =>
    refine .inl ?_
    have e : a.add f.offset = ⟨a.block, a.off + f.offset, none⟩ := by
      obtain ⟨b, o, sp⟩ := a
      simp only at hsp
      subst hsp
      exact add_plain b o _
    simp [Instr.fieldAt, run_underlying ht, hf, Instr.sureAddr, fieldPlace, hs' w, hm, e]
def gdB (F : Fr) (ops : Array Oper) : Option (Nat × Bool) → Option Bool
  | none => some true
  | some (j, b) => match (ops[j]?).bind (·.dst) with
    | some t => match fget F t with
      | some (.bool b') => some (b' == b)
      | some (.tuple _) => some false
      | _ => none
    | none => none
theorem FS.wanted {n : Nat} {D : List Deferred} {a : Act} (h : FS n D F a) {ops : Array Oper} {o : Oper} {b : Bool} (hg : gdB F ops o.guard = some b) : Region.wanted o (yielded ops a.tmps) = b := by
  unfold Region.wanted
  cases ho : o.guard with
  | none => rw [ho] at hg; injection hg
  | some jb =>
    obtain ⟨j, b1⟩ := jb
    rw [ho] at hg
    simp only [gdB] at hg
    cases hd : (ops[j]?).bind (·.dst) with
    | none => rw [hd] at hg; cases hg
    | some t =>
      simp only [hd] at hg
      cases hf : fget F t with
      | none => simp [hf] at hg
      | some v =>
        simp only [hf] at hg
        have h1 := h.get t _ hf
        have h2 : a.tmps[t]? = some v ∨ (a.tmps[t]? = none ∧ v = undef) := by
          rw [Array.getD_eq_getD_getElem?] at h1
          cases h3 : a.tmps[t]? with
          | none => rw [h3] at h1; exact .inr ⟨rfl, by simpa using h1.symm⟩
          | some u => rw [h3] at h1; exact .inl (by simpa using h1)
        match v, hg, h2 with
        | .bool b2, hg, h2 =>
          rcases h2 with h2 | ⟨_, h2⟩
          · simp only [yielded, hd, Option.bind_some, h2]
            exact Option.some.inj hg
          · exact absurd h2 (by simp [undef])
        | .tuple vs, hg, h2 =>
          have hg := Option.some.inj hg
          subst hg
          rcases h2 with h2 | ⟨h2, _⟩ <;> simp [yielded, hd, h2]
def RK (c : Cx) (ops : Array Oper) (Q : Exit → Act → World → Prop) (nf k : Nat) (rest : List Oper) (pend : List (Nat × Oper)) (fl : List Fl) (listed : Array Bool) (fuel : Nat) (F : Fr) (K : List Fact) : Prop :=
  ∀ a W w, FS c.n c.D F a → Sat c.S c.w0 K W → Below W.heap.size W w → RW c.P ops Q nf (Below W.heap.size W) k rest pend fl listed fuel a w
def FLK (c : Cx) (ops : Array Oper) (Q : Exit → Act → World → Prop) (nf : Nat) : List Fl → Fr → List Fact → Prop
  | [], F, K => TL c ops Q (ops.toList.drop nf) F K
  | f :: fl, F, K => ∀ b, FLK c ops Q nf fl ((f.d, .pointer (some ⟨b, 0, none⟩)) :: F) (.blk b f.ty f.z.toList :: K)
def flagged (bs : List Bool) (pend : List (Nat × Oper)) : List (Nat × Bool) := List.zipWith (fun b p => (p.1, b)) bs pend
def WK (c : Cx) (ops : Array Oper) (Q : Exit → Act → World → Prop) (nf : Nat) (fl : List Fl) (bs : List Bool) (pend : List (Nat × Oper)) (F : Fr) (K : List Fact) : Prop :=
  ∀ W N a w, (∀ p ∈ pend, (frontOf ops nf)[p.1]? = some p.2) → c.w0.heap.size ≤ W.heap.size → FS c.n c.D F a → Sat c.S c.w0 K w → (∀ b ∈ feet K, b < W.heap.size ∨ ∃ q ∈ N, q.1 ≤ b ∧ b < q.2) → Below W.heap.size W w →
    wpChain2 c.P (frontOf ops nf) (tailPost c.P ops Q nf) (fun N a w => ∀ D, D.map (·.1) = fl → FlOk W.heap.size w N D → Ext W w → wpList c.P ops Q (ops.toList.drop nf) (puts D a) w) (flagged bs pend) N a w
variable {ops : Array Oper} {nf k fuel : Nat} {rest : List Oper} {pend : List (Nat × Oper)} {fl : List Fl} {listed : Array Bool} {bs : List Bool}
theorem TW.draw {id : Nat} {l : List Oper} (nf : Nat) (hm : c.P.follows .mixedOrders = true) (hT : tailOk l.toArray nf = true) (hp : Pan Q) (h : RK c l.toArray Q nf 0 (l.take nf) [] [] (Array.replicate nf false) nf F K) : TW c (.region id l.toArray true) Q F K := fun a w hF hK =>
  RW.begin hm hT hp fun hb => h a w _ hF hK hb
theorem RK.take {d : Nat} {op : Op} {v : Value} (hk : takeB ops nf listed k = true) (hg : gdB F (frontOf ops nf) g = some true) (hp : Pu c F K ⟨some d, op, ty, pos, af, g⟩ v) (hd : Nat.blt d c.n = true)
    (h : RK c ops Q nf (k + 1) rest pend fl (listed.setIfInBounds k true) fuel ((d, v) :: F) K) : RK c ops Q nf k (⟨some d, op, ty, pos, af, g⟩ :: rest) pend fl listed (fuel + 1) F K := fun a W w hF hK hb =>
  RW.take hb hk (hF.wanted hg) (fun w' hb' => hp a w' hF (hK.ext hb')) (h _ W w (hF.put hd v) hK hb)
theorem RK.skip {d : Nat} {op : Op} (hk : takeB ops nf listed k = true) (hg : gdB F (frontOf ops nf) g = some false) (hd : Nat.blt d c.n = true)
    (h : RK c ops Q nf (k + 1) rest pend fl (listed.setIfInBounds k true) fuel ((d, undef) :: F) K) : RK c ops Q nf k (⟨some d, op, ty, pos, af, g⟩ :: rest) pend fl listed (fuel + 1) F K := fun a W w hF hK hb =>
  RW.skip hb hk (hF.wanted hg) (h _ W w (hF.put hd _) hK hb)
theorem RK.keep {o : Oper} (h : RK c ops Q nf (k + 1) rest (pend ++ [(k, o)]) fl listed fuel F K) : RK c ops Q nf k (o :: rest) pend fl listed fuel F K := fun a W w hF hK hb => RW.keep (h a W w hF hK hb)
theorem RK.float {d : Tmp} {T : TypeId} (z : List Value) (h : RK c ops Q nf (k + 1) rest pend (fl ++ [⟨k, d, T, z.toArray⟩]) listed fuel F K) : RK c ops Q nf k (⟨some d, .alloc T, ty, pos, af, none⟩ :: rest) pend fl listed fuel F K := fun a W w hF hK hb => RW.float _ (h a W w hF hK hb)
def zrAll (P : Program) : List Fl → Prop
  | [] => True
  | f :: fl => Zr P f.ty f.z.toList ∧ zrAll P fl
theorem zrAll_spec {P : Program} : ∀ {fl : List Fl}, zrAll P fl → ∀ f ∈ fl, Zr P f.ty f.z.toList
  | f :: fl, h, g, hg => by
    rcases List.mem_cons.1 hg with rfl | hg
    · exact h.1
    · exact zrAll_spec h.2 g hg
theorem RK.chain (bs : List Bool) (hb : checkB2 (frontOf ops nf) listed (flagged bs pend) (keys fl) = true) (hfu : decide ((flagged bs pend).length + fl.length ≤ fuel) = true) (hz : zrAll c.P fl) (h : WK c ops Q nf fl bs pend F K) : RK c ops Q nf k [] pend fl listed fuel F K := fun a W w hF hK hb' _ h2 h3 => by
  refine chain2_begin (S := Below W.heap.size W) (B := W.heap.size) (fun w w' he hs => Ext.trans hs he) (flagged bs pend) fl hb (by simpa using hfu) (fun d v ch a w => h3 d v ch a w) (fun f hf ρ o w ho => by
    obtain ⟨z, h1, h2⟩ := zrAll_spec hz f hf
    simp only [execOp, ho, Instr.alloc, newVar, newRow, Sem.run_bind, Sem.run_pure, h2 w, Result.andThen_ok, run_newObj, h1]
    rfl) hb' (K := fun N a w => ∀ D, D.map (·.1) = fl → FlOk W.heap.size w N D → Ext W w → wpList c.P ops Q (ops.toList.drop nf) (puts D a) w) (fun N a w D e1 e2 e3 hk => tail_list (hk D e1 e2 e3)) hb'.size (h W [] a w h2 hK.chg.size hF (hK.ext hb') (fun b hb => .inl (hK.lt b hb)) hb')
theorem puts_cons (p : Fl × Nat) (D : List (Fl × Nat)) (a : Act) : puts (p :: D) a = puts D (a.put (some p.1.d) (.pointer (some ⟨p.2, 0, none⟩))) := rfl
theorem FLK.run : ∀ (fl : List Fl) (F : Fr) (K : List Fact) (D : List (Fl × Nat)) (a : Act) (w : World), FLK c ops Q nf fl F K → (fl.all fun f => Nat.blt f.d c.n) = true → D.map (·.1) = fl → FS c.n c.D F a → Sat c.S c.w0 K w →
    (∀ p ∈ D, c.w0.heap.size ≤ p.2 ∧ Blk w p.2 p.1.ty p.1.z ∧ p.2 ∉ feet K) → (D.map (·.2)).Nodup → wpList c.P ops Q (ops.toList.drop nf) (puts D a) w
  | [], F, K, D, a, w, h, _, hD, hF, hK, _, _ => by
    cases D with
    | nil => exact h a w hF hK
    | cons => cases hD
  | f :: fl, F, K, D, a, w, h, hok, hD, hF, hK, hb, hnd => by
    cases D with
    | nil => cases hD
    | cons p D =>
      simp only [List.map_cons, List.cons.injEq] at hD
      obtain ⟨rfl, hD⟩ := hD
      simp only [List.all_cons, Bool.and_eq_true] at hok
      simp only [List.map_cons, List.nodup_cons] at hnd
      obtain ⟨h1, h2, h3⟩ := hb p (by simp)
      rw [puts_cons]
      refine FLK.run fl _ _ D _ w (h p.2) hok.2 hD (hF.put hok.1 _) ?_ (fun q hq => ?_) hnd.2
      · refine ⟨hK.chg, ?_, fun b hb => ?_, fun ψ hψ => ?_⟩
        · rw [feet_cons]; simp only [Fact.foot, List.singleton_append, List.nodup_cons]; exact ⟨h3, hK.nd⟩
        · rw [feet_cons] at hb; simp only [Fact.foot, List.singleton_append, List.mem_cons] at hb
          rcases hb with rfl | hb
          · exact .inr h1
          · exact hK.ge b hb
        · rcases List.mem_cons.1 hψ with rfl | hψ
          · simpa [Fact.holds] using h2
          · exact hK.holds ψ hψ
      · obtain ⟨k1, k2, k3⟩ := hb q (by simp [hq])
        refine ⟨k1, k2, ?_⟩
        rw [feet_cons]; simp only [Fact.foot, List.singleton_append, List.mem_cons, not_or]
        exact ⟨fun e => hnd.1 (List.mem_map.2 ⟨q, hq, e⟩), k3⟩
theorem WK.nil (hok : (fl.all fun f => Nat.blt f.d c.n) = true) (h : FLK c ops Q nf fl F K) : WK c ops Q nf fl [] [] F K := fun W N a w _ h0 hF hK hN hb => by
  intro w' he D hD hO hE
  refine FLK.run fl F K D a w' h hok hD hF (hK.ext he) (fun p hp => ?_) hO.2
  obtain ⟨h1, h2, h3⟩ := hO.1 p hp
  refine ⟨Nat.le_trans h0 h1, h2, fun hm => ?_⟩
  rcases hN p.2 hm with h4 | ⟨q, hq, h4⟩
  · omega
  · have := h3 q hq; omega
theorem WK.feet {W w' w'' : World} {N : List (Nat × Nat)} {L : List Fact} (hN : ∀ b ∈ feet K, b < W.heap.size ∨ ∃ q ∈ N, q.1 ≤ b ∧ b < q.2) (hL : Sat [] w' L w'') : ∀ b ∈ feet (L ++ K), b < W.heap.size ∨ ∃ q ∈ (w'.heap.size, w''.heap.size) :: N, q.1 ≤ b ∧ b < q.2 := fun b hb => by
  rw [feet_append, List.mem_append] at hb
  rcases hb with hb | hb
  · rcases hL.ge b hb with h | h
    · cases h
    · exact .inr ⟨_, List.mem_cons_self, h, hL.lt b hb⟩
  · rcases hN b hb with h | ⟨q, hq, h⟩
    · exact .inl h
    · exact .inr ⟨q, by simp [hq], h⟩
theorem WK.act {i : Nat} {o : Oper} (h : ∀ (a : Act) (w' : World) (K' : Act → World → Prop), FS c.n c.D F a → Sat c.S c.w0 K w' → (frontOf ops nf)[i]? = some o →
      (∀ F2 L a' w'', Sat [] w' L w'' → FS c.n c.D F2 a' → WK c ops Q nf fl bs pend F2 (L ++ K) → K' a' w'') → wpOp c.P (frontOf ops nf) (tailPost c.P ops Q nf) i K' a w') : WK c ops Q nf fl (false :: bs) ((i, o) :: pend) F K := fun W N a w h2 h0 hF hK hN hb => by
  intro w' he
  refine h a w' _ hF (hK.ext he) (h2 (i, o) (by simp)) fun F2 L a' w'' hs hF2 hw => ?_
  have hE : Ext w' w'' := Chg.ext hs.chg
  exact ⟨hE, hw W _ _ _ (fun p hp => h2 p (by simp [hp])) h0 hF2 ((hK.ext he).add hs) (WK.feet hN hs) (Ext.trans (Ext.trans hb he) hE)⟩
theorem wpOp_of {P : Program} {front : Array Oper} {R : Exit → Act → World → Prop} {i : Nat} {o : Oper} {K' : Act → World → Prop} {a : Act} {w : World} (ho : front[i]? = some o) (hw : Region.wanted o (yielded front a.tmps) = true) (h : o.wp P a w K' R) : wpOp P front R i K' a w := by
  unfold wpOp
  simp only [ho, hw, if_true]
  exact .inl h
theorem WK.call {i : Nat} {d : Option Tmp} {f : FuncId} {xs : List Operand} {ts : Array TypeId} {us : List Value} {X : Type} {val : X → Value} {L : X → List Fact} (hx : evs F xs = some us) (hen : Enters c.P f) (hd : dok d c.n = true)
    (hc : ∀ w, Sat c.S c.w0 K w → CallsK c.P f us.toArray [] w X val L) (h : ∀ x, WK c ops Q nf fl bs pend (fput F d (val x)) (L x ++ K)) : WK c ops Q nf fl (false :: bs) ((i, ⟨d, .call { callee := .value (.func f), args := xs.toArray, argTypes := ts }, ty, pos, af, none⟩) :: pend) F K :=
  WK.act fun a w' K' hF hK ho hK' => by
    refine wpOp_of ho rfl ?_
    have hr : (execOp a.eval ⟨d, .call { callee := .value (.func f), args := xs.toArray, argTypes := ts }, ty, pos, af, none⟩).run c.P w' = .ok (.enter f us.toArray) w' := by
      have := hF.evsl hx
      have h9 := hen us.toArray w'
      simp [execOp, resolve, invoke, Deferred.ofValue, Act.eval, this, h9]
    unfold Oper.wp
    rw [hr]
    refine Calls.mono (hc w' hK) ?_
    rintro e w'' ⟨x, rfl, hs⟩
    exact hK' _ _ _ _ hs (hF.fput hd _) (h x)
theorem TL.guard {t : Nat} {b : Bool} (ht : fget F t = some (.bool b)) (h1 : b = true → TL c ops Q rest ((t, .bool true) :: F) K) (h2 : b = false → TL c ops Q rest ((t, .bool false) :: F) K) : TL c ops Q rest F K := fun a w hF hK => by
  have key : ∀ b', b = b' → FS c.n c.D ((t, .bool b') :: F) a := fun b' e => ⟨hF.size, hF.dfs, fun u v hv => by
    subst e
    simp only [fget] at hv
    cases hb : Nat.beq t u with
    | true => rw [hb] at hv; have := beq_iff.1 hb; subst this; injection hv with hv; subst hv; exact hF.get _ _ ht
    | false => rw [hb] at hv; exact hF.get _ _ hv⟩
  cases hb : b
  · exact h2 hb a w (key _ hb) hK
  · exact h1 hb a w (key _ hb) hK
theorem wpList_no {P : Program} {o : Oper} {a : Act} {w : World} (hg : Region.wanted o (yielded ops a.tmps) = false) (h : wpList P ops Q rest (a.put o.dst undef) w) : wpList P ops Q (o :: rest) a w := by
  unfold wpList
  rw [if_neg (by simp [hg])]
  exact h
theorem wpList_yes {P : Program} {o : Oper} {v : Value} {a : Act} {w : World} (hg : Region.wanted o (yielded ops a.tmps) = true) (hr : (execOp a.eval o).run P w = .ok (.value v) w) (h : wpList P ops Q rest (a.put o.dst v) w) : wpList P ops Q (o :: rest) a w := by
  unfold wpList
  rw [if_pos hg]
  exact .inl (by unfold Oper.wp; rw [hr]; exact h)
theorem TL.gskip {d : Nat} {op : Op} (hg : gdB F ops g = some false) (hd : Nat.blt d c.n = true) (h : TL c ops Q rest ((d, undef) :: F) K) : TL c ops Q (⟨some d, op, ty, pos, af, g⟩ :: rest) F K := fun a w hF hK =>
  wpList_no (hF.wanted hg) (h _ w (hF.put hd _) hK)
theorem TL.gpure {d : Nat} {op : Op} {v : Value} (hg : gdB F ops g = some true) (hp : Pu c F K ⟨some d, op, ty, pos, af, g⟩ v) (hd : Nat.blt d c.n = true) (h : TL c ops Q rest ((d, v) :: F) K) : TL c ops Q (⟨some d, op, ty, pos, af, g⟩ :: rest) F K := fun a w hF hK =>
  wpList_yes (hF.wanted hg) (hp a w hF hK) (h _ w (hF.put hd v) hK)
theorem TL.gcall {d : Option Tmp} {f : FuncId} {xs : List Operand} {ts : Array TypeId} {us : List Value} {v : Value} (hg : gdB F ops g = some true) (hx : evs F xs = some us) (hen : Enters c.P f) (hd : dok d c.n = true)
    (hc : ∀ w, Sat c.S c.w0 K w → Calls c.P f us.toArray w (Ret w v)) (h : TL c ops Q rest (fput F d v) K) : TL c ops Q (⟨d, .call { callee := .value (.func f), args := xs.toArray, argTypes := ts }, ty, pos, af, g⟩ :: rest) F K := fun a w hF hK => by
  have hr : (execOp a.eval ⟨d, .call { callee := .value (.func f), args := xs.toArray, argTypes := ts }, ty, pos, af, g⟩).run c.P w = .ok (.enter f us.toArray) w := by
    have := hF.evsl hx
    have h9 := hen us.toArray w
    simp [execOp, resolve, invoke, Deferred.ofValue, Act.eval, this, h9]
  unfold wpList
  rw [if_pos (hF.wanted hg)]
  refine .inl ?_
  unfold Oper.wp
  rw [hr]
  refine Calls.mono (hc w hK) ?_
  rintro e w' ⟨rfl, hb⟩
  exact h _ _ (hF.fput hd _) (hK.ext hb)
theorem RK.guard {t : Nat} {b : Bool} (ht : fget F t = some (.bool b)) (h1 : b = true → RK c ops Q nf k rest pend fl listed fuel ((t, .bool true) :: F) K) (h2 : b = false → RK c ops Q nf k rest pend fl listed fuel ((t, .bool false) :: F) K) : RK c ops Q nf k rest pend fl listed fuel F K := fun a W w hF hK hb => by
  have key : ∀ b', b = b' → FS c.n c.D ((t, .bool b') :: F) a := fun b' e => ⟨hF.size, hF.dfs, fun u v hv => by
    subst e
    simp only [fget] at hv
    cases hb : Nat.beq t u with
    | true => rw [hb] at hv; have := beq_iff.1 hb; subst this; injection hv with hv; subst hv; exact hF.get _ _ ht
    | false => rw [hb] at hv; exact hF.get _ _ hv⟩
  cases hb' : b
  · exact h2 hb' a W w (key _ hb') hK hb
  · exact h1 hb' a W w (key _ hb') hK hb
theorem WK.guard {t : Nat} {b : Bool} (ht : fget F t = some (.bool b)) (h1 : b = true → WK c ops Q nf fl bs pend ((t, .bool true) :: F) K) (h2 : b = false → WK c ops Q nf fl bs pend ((t, .bool false) :: F) K) : WK c ops Q nf fl bs pend F K := fun W N a w hp h0 hF hK hN hb => by
  have key : ∀ b', b = b' → FS c.n c.D ((t, .bool b') :: F) a := fun b' e => ⟨hF.size, hF.dfs, fun u v hv => by
    subst e
    simp only [fget] at hv
    cases hb : Nat.beq t u with
    | true => rw [hb] at hv; have := beq_iff.1 hb; subst this; injection hv with hv; subst hv; exact hF.get _ _ ht
    | false => rw [hb] at hv; exact hF.get _ _ hv⟩
  cases hb' : b
  · exact h2 hb' W N a w hp h0 (key _ hb') hK hN hb
  · exact h1 hb' W N a w hp h0 (key _ hb') hK hN hb
theorem WK.gskip {i d : Nat} {op : Op} (hg : gdB F (frontOf ops nf) g = some false) (hd : Nat.blt d c.n = true) (h : WK c ops Q nf fl bs pend ((d, undef) :: F) K) : WK c ops Q nf fl (false :: bs) ((i, ⟨some d, op, ty, pos, af, g⟩) :: pend) F K :=
  WK.act fun a w' K' hF hK ho hK' => by
    have hwn := hF.wanted (ops := frontOf ops nf) (o := ⟨some d, op, ty, pos, af, g⟩) hg
    have hk := hK' _ [] _ _ (Sat.start w') (hF.put hd undef) h
    unfold wpOp
    simp only [ho, hwn, Bool.false_eq_true, if_false]
    exact hk
theorem WK.quiet {i : Nat} {o : Oper} {v : Value} {F2 : Fr} (hF2 : ∀ a, FS c.n c.D F a → FS c.n c.D F2 (a.put o.dst v)) (hy : ∀ a w, FS c.n c.D F a → Sat c.S c.w0 K w → YieldsIf c.P (frontOf ops nf) (fun w3 => Ext w w3) o v a) (h : WK c ops Q nf fl bs pend F2 K) : WK c ops Q nf fl (true :: bs) ((i, o) :: pend) F K := fun W N a w hp h0 hF hK hN hb => by
  intro w' he o' ho'
  have : o = o' := by
    have := hp (i, o) (by simp)
    rw [this] at ho'; injection ho'
  subst this
  exact ⟨v, hy a w' hF (hK.ext he), h W N _ w' (fun p hp' => hp p (by simp [hp'])) h0 (hF2 a hF) (hK.ext he) hN (Ext.trans hb he)⟩
theorem WK.pure {i d : Nat} {op : Op} {v : Value} (hg : gdB F (frontOf ops nf) g = some true) (hp : Pu c F K ⟨some d, op, ty, pos, af, g⟩ v) (hd : Nat.blt d c.n = true) (h : WK c ops Q nf fl bs pend ((d, v) :: F) K) : WK c ops Q nf fl (true :: bs) ((i, ⟨some d, op, ty, pos, af, g⟩) :: pend) F K :=
  WK.quiet (fun a hF => hF.put hd v) (fun a w hF hK => .inl ⟨hF.wanted hg, fun w3 h3 => hp a w3 hF (hK.ext h3)⟩) h
theorem WK.pskip {i d : Nat} {op : Op} (hg : gdB F (frontOf ops nf) g = some false) (hd : Nat.blt d c.n = true) (h : WK c ops Q nf fl bs pend ((d, undef) :: F) K) : WK c ops Q nf fl (true :: bs) ((i, ⟨some d, op, ty, pos, af, g⟩) :: pend) F K :=
  WK.quiet (fun a hF => hF.put hd undef) (fun a w hF hK => .inr ⟨hF.wanted hg, rfl⟩) h
theorem WK.gcall {i : Nat} {d : Option Tmp} {f : FuncId} {xs : List Operand} {ts : Array TypeId} {us : List Value} {v : Value} (hg : gdB F (frontOf ops nf) g = some true) (hx : evs F xs = some us) (hen : Enters c.P f) (hd : dok d c.n = true)
    (hc : ∀ w, Sat c.S c.w0 K w → Calls c.P f us.toArray w (Ret w v)) (h : WK c ops Q nf fl bs pend (fput F d v) K) : WK c ops Q nf fl (false :: bs) ((i, ⟨d, .call { callee := .value (.func f), args := xs.toArray, argTypes := ts }, ty, pos, af, g⟩) :: pend) F K :=
  WK.act fun a w' K' hF hK ho hK' => by
    refine wpOp_of ho (hF.wanted hg) ?_
    have hr : (execOp a.eval ⟨d, .call { callee := .value (.func f), args := xs.toArray, argTypes := ts }, ty, pos, af, g⟩).run c.P w' = .ok (.enter f us.toArray) w' := by
      have := hF.evsl hx
      have h9 := hen us.toArray w'
      simp [execOp, resolve, invoke, Deferred.ofValue, Act.eval, this, h9]
    unfold Oper.wp
    rw [hr]
    refine Calls.mono (hc w' hK) ?_
    rintro e w'' ⟨rfl, hb⟩
    exact hK' _ [] _ _ (Sat.nil (Chg.of_ext hb)) (hF.fput hd _) h
theorem TW.join {x : Code} (E : Fr) (h : TQ c Q .normal (E ++ F) K) (r : TQ c Q .normal (E ++ F) K → TW c x Q F K) : TW c x Q F K := r h
theorem Pu.pickT {d : Option Tmp} {t x y : Operand} {u : Value} (ht : ev F t = some (.bool true)) (hx : ev F x = some u) : Pu c F K ⟨d, .pick t x y, ty, pos, af, g⟩ u := fun a w hF _ => by
  simp only [execOp, hF.evl ht, hF.evl hx, asBool, Sem.run_bind, Sem.run_pure, Result.andThen_ok, if_true]
theorem Pu.pickF {d : Option Tmp} {t x y : Operand} {u : Value} (ht : ev F t = some (.bool false)) (hy : ev F y = some u) : Pu c F K ⟨d, .pick t x y, ty, pos, af, g⟩ u := fun a w hF _ => by
  simp only [execOp, hF.evl ht, hF.evl hy, asBool, Sem.run_bind, Sem.run_pure, Result.andThen_ok, Bool.false_eq_true, if_false]
theorem CallsK.ret {P : Program} {f : FuncId} {args : Array Value} {w : World} {v : Value} (h : Calls P f args w (Ret w v)) : CallsK P f args [] w Unit (fun _ => v) (fun _ => []) :=
  Calls.mono h fun e w' ⟨h1, h2⟩ => ⟨(), h1, Sat.nil (Chg.of_ext h2)⟩
theorem Ret.of {w w' : World} {v : Value} {L : List Fact} (h : Sat [] w L w') : Ret w v (.returned v) w' := ⟨rfl, Chg.ext h.chg⟩
end
end Go.Proofs.YtbenhafhklfhmaaGreat
namespace Go.Proofs.YtbenhafhklfhmaaGreat
set_option linter.all false
set_option linter.unusedVariables false
set_option linter.unusedSimpArgs false
open Go.RowKit
section
variable {c : Cx} {Q : Exit → Act → World → Prop} {F F' : Fr} {K K' : List Fact} {ops : Array Oper} {rest : List Oper} {d : Option Tmp} {ty : TypeId} {pos : String} {af : Array Edge} {g : Option (Nat × Bool)} {nf k fuel : Nat} {pend : List (Nat × Oper)} {fl : List Fl} {listed : Array Bool} {bs : List Bool} {op : Op} {t : Nat}
theorem TL.p {v : Value} (hp : Pu c F K ⟨some t, op, ty, pos, af, none⟩ v) (h : TL c ops Q rest ((t, v) :: F) K) (hd : Nat.blt t c.n = true := by rfl) : TL c ops Q (⟨some t, op, ty, pos, af, none⟩ :: rest) F K := TL.pure hp hd h
theorem TL.gd {v : Value} (hp : Pu c F K ⟨some t, op, ty, pos, af, g⟩ v) (h : TL c ops Q rest ((t, v) :: F) K) (hg : gdB F ops g = some true := by rfl) (hd : Nat.blt t c.n = true := by rfl) : TL c ops Q (⟨some t, op, ty, pos, af, g⟩ :: rest) F K := TL.gpure hg hp hd h
theorem TL.gs (h : TL c ops Q rest ((t, undef) :: F) K) (hg : gdB F ops g = some false := by rfl) (hd : Nat.blt t c.n = true := by rfl) : TL c ops Q (⟨some t, op, ty, pos, af, g⟩ :: rest) F K := TL.gskip hg hd h
theorem TL.m {v : Nat → Value} {T : TypeId} {cs : List Value} (hm : Mk c F K ⟨d, op, ty, pos, af, none⟩ v T cs) (h : ∀ b, TL c ops Q rest (fput F d (v b)) (.blk b T cs :: K)) (hd : dok d c.n = true := by rfl) : TL c ops Q (⟨d, op, ty, pos, af, none⟩ :: rest) F K := TL.mk hm hd h
theorem RK.tk {v : Value} (hp : Pu c F K ⟨some t, op, ty, pos, af, g⟩ v) (h : RK c ops Q nf (k + 1) rest pend fl (listed.setIfInBounds k true) fuel ((t, v) :: F) K) (hk : takeB ops nf listed k = true := by kernel_rfl) (hg : gdB F (frontOf ops nf) g = some true := by rfl) (hd : Nat.blt t c.n = true := by rfl) :
    RK c ops Q nf k (⟨some t, op, ty, pos, af, g⟩ :: rest) pend fl listed (fuel + 1) F K := RK.take hk hg hp hd h
theorem RK.s (h : RK c ops Q nf (k + 1) rest pend fl (listed.setIfInBounds k true) fuel ((t, undef) :: F) K) (hk : takeB ops nf listed k = true := by kernel_rfl) (hg : gdB F (frontOf ops nf) g = some false := by rfl) (hd : Nat.blt t c.n = true := by rfl) :
    RK c ops Q nf k (⟨some t, op, ty, pos, af, g⟩ :: rest) pend fl listed (fuel + 1) F K := RK.skip hk hg hd h
theorem WK.p {i : Nat} {v : Value} (hp : Pu c F K ⟨some t, op, ty, pos, af, g⟩ v) (h : WK c ops Q nf fl bs pend ((t, v) :: F) K) (hg : gdB F (frontOf ops nf) g = some true := by rfl) (hd : Nat.blt t c.n = true := by rfl) : WK c ops Q nf fl (true :: bs) ((i, ⟨some t, op, ty, pos, af, g⟩) :: pend) F K := WK.pure hg hp hd h
theorem RK.ch (bs : List Bool) (h : WK c ops Q nf fl bs pend F K) (hz : zrAll c.P fl) (hb : checkB2 (frontOf ops nf) listed (flagged bs pend) (keys fl) = true := by kernel_rfl) (hfu : decide ((flagged bs pend).length + fl.length ≤ fuel) = true := by kernel_rfl) : RK c ops Q nf k [] pend fl listed fuel F K := RK.chain bs hb hfu hz h
theorem WK.ps {i : Nat} (h : WK c ops Q nf fl bs pend ((t, undef) :: F) K) (hg : gdB F (frontOf ops nf) g = some false := by rfl) (hd : Nat.blt t c.n = true := by rfl) : WK c ops Q nf fl (true :: bs) ((i, ⟨some t, op, ty, pos, af, g⟩) :: pend) F K := WK.pskip hg hd h
theorem WK.gs {i : Nat} (h : WK c ops Q nf fl bs pend ((t, undef) :: F) K) (hg : gdB F (frontOf ops nf) g = some false := by rfl) (hd : Nat.blt t c.n = true := by rfl) : WK c ops Q nf fl (false :: bs) ((i, ⟨some t, op, ty, pos, af, g⟩) :: pend) F K := WK.gskip hg hd h
theorem TW.dw {id : Nat} {l : List Oper} (nf : Nat) (h : RK c l.toArray Q nf 0 (l.take nf) [] [] (Array.replicate nf false) nf F K) (hm : c.P.follows .mixedOrders = true := by rfl) (hT : tailOk l.toArray nf = true := by kernel_rfl) (hp : Pan Q := by (intro d _ _ _ _; cases d <;> exact Iff.rfl)) : TW c (.region id l.toArray true) Q F K := TW.draw nf hm hT hp h
theorem Pu.mv {x : Operand} {v : Value} (hx : ev F x = some v := by rfl) : Pu c F K ⟨d, .move x, ty, pos, af, g⟩ v := Pu.move hx
theorem Pu.as {x : Operand} {v : Value} (hx : ev F x = some v := by rfl) : Pu c F K ⟨d, .assign x, ty, pos, af, g⟩ v := Pu.assign hx
theorem Pu.ex {x : Operand} {vs : Array Value} {i : Nat} {v : Value} (hx : ev F x = some (.tuple vs) := by rfl) (hv : vs[i]? = some v := by rfl) : Pu c F K ⟨d, .extract x i, ty, pos, af, g⟩ v := Pu.extract hx hv
theorem Pu.fn {f : Fn} {xs ys : List Operand} {us vs : List Value} (hx : evs F xs = some us := by rfl) (hy : evs F ys = some vs := by rfl) : Pu c F K ⟨d, .makeFunc f xs.toArray ys.toArray, ty, pos, af, g⟩ (.func f us.toArray vs.toArray) := Pu.func hx hy
theorem Pu.ld {x : Operand} {T : TypeId} {q : Option Addr} {v : Value} (hT : Sc c.P T) (hx : ev F x = some (.pointer q) := by rfl) (hq : Cells c K q [v] := by first | exact Cells.blk (m := 1) (by repeat (first | exact Pick.hd | apply Pick.tl)) (by repeat (first | exact SubL.nil | apply SubL.take | apply SubL.drop)) | exact Cells.old (m := 1) (by assumption) (by first | exact Apart.nil | assumption) (by omega) (by repeat (first | exact SubL.nil | apply SubL.take | apply SubL.drop)) | exact Cells.own (m := 1) (by repeat (first | exact Pick.hd | apply Pick.tl)) (by omega) (by repeat (first | exact SubL.nil | apply SubL.take | apply SubL.drop))) :
    Pu c F K ⟨d, .load T x, ty, pos, af, g⟩ v := Pu.load hx hT hq
def CellsN (c : Cx) (K : List Fact) (q : Option Addr) (m : Nat) (vs : List Value) : Prop := Cells c K q vs ∧ vs.length = m
theorem CellsN.blk {b off m : Nat} {T : TypeId} {cs vs : List Value} (hp : Pick K (.blk b T cs) K') (hs : SubL cs off m vs) : CellsN c K (some ⟨b, off, none⟩) m vs := ⟨Cells.blk hp hs, hs.spec.1⟩
theorem CellsN.old {sz n i j m : Nat} {A : Option Addr} {r : Nat → List Value} {vs : List Value} (h : RdR c.w0 sz A n r) (hS : Apart c.S A) (hk : i < n) (hs : SubL (r i) j m vs) : CellsN c K (elA A i sz j) m vs := ⟨Cells.old h hS hk hs, hs.spec.1⟩
theorem CellsN.own {A : Option Addr} {n cp i j m : Nat} {E : TypeId} {sz : Nat} {r : Nat → List Value} {vs : List Value} (hp : Pick K (.own A n cp E sz r) K') (hk : i < n) (hs : SubL (r i) j m vs) : CellsN c K (elA A i sz j) m vs := ⟨Cells.own hp hk hs, hs.spec.1⟩
theorem Pu.lds {x : Operand} {T : TypeId} {m : Nat} {q : Option Addr} {vs : List Value} (hT : Ag c.P T m) (hx : ev F x = some (.pointer q) := by rfl) (hq : CellsN c K q m vs := by first | exact CellsN.blk (by repeat (first | exact Pick.hd | apply Pick.tl)) (by repeat (first | exact SubL.nil | apply SubL.take | apply SubL.drop)) | exact CellsN.old (by assumption) (by first | exact Apart.nil | assumption) (by omega) (by repeat (first | exact SubL.nil | apply SubL.take | apply SubL.drop)) | exact CellsN.own (by repeat (first | exact Pick.hd | apply Pick.tl)) (by omega) (by repeat (first | exact SubL.nil | apply SubL.take | apply SubL.drop))) :
    Pu c F K ⟨d, .load T x, ty, pos, af, g⟩ (.agg vs.toArray) := Pu.loads hx hT hq.1 hq.2
theorem Pu.nn {x : Operand} {v : Value} (hx : ev F x = some v := by rfl) (hv : notNil v = true := by rfl) : Pu c F K ⟨d, .nilCheck x, ty, pos, af, g⟩ v := Pu.nil hx hv
theorem Pu.fb {x : Operand} {T i o b off : Nat} (hf : FieldAt c.P T i o) (hx : ev F x = some (.pointer (some ⟨b, off, none⟩)) := by rfl) : Pu c F K ⟨d, .fieldAddr T x i, ty, pos, af, g⟩ (.pointer (some ⟨b, off + o, none⟩)) := Pu.fieldAt hx hf
theorem Pu.fe {x : Operand} {T i o j sz q : Nat} {A : Option Addr} (hf : FieldAt c.P T i o) (hx : ev F x = some (.pointer (elA A q sz j)) := by rfl) {vs : List Value} (hq : CellsN c K (elA A q sz j) 0 vs := by first | exact CellsN.old (by assumption) (by first | exact Apart.nil | assumption) (by omega) (by repeat (first | exact SubL.nil | apply SubL.take | apply SubL.drop)) | exact CellsN.own (by repeat (first | exact Pick.hd | apply Pick.tl)) (by omega) (by repeat (first | exact SubL.nil | apply SubL.take | apply SubL.drop))) : Pu c F K ⟨d, .fieldAddr T x i, ty, pos, af, g⟩ (.pointer (elA A q sz (j + o))) := Pu.fieldEl hx hf hq.1
theorem Pu.el {T E : TypeId} {sz bytes : Nat} {x y : Operand} {A : Option Addr} {n cp q : Nat} {kk : IntKind} {i : Int} (hT : ElemT c.P T E sz bytes) (hx : ev F x = some (.slice A n cp) := by rfl) (hy : ev F y = some (.int kk i) := by rfl) (hk : i.toNat = q := by first | exact tnS _ | exact Int.toNat_natCast _ | exact tnA _ _ | rfl) (h0 : 0 ≤ i := by omega) (h1 : i < n := by omega) {vs : List Value}
    (hA : CellsN c K (elA A q sz 0) 0 vs := by first | exact CellsN.old (by assumption) (by first | exact Apart.nil | assumption) (by omega) SubL.nil | exact CellsN.own (by repeat (first | exact Pick.hd | apply Pick.tl)) (by omega) SubL.nil) : Pu c F K ⟨d, .indexAddr T x y, ty, pos, af, g⟩ (.pointer (elA A q sz 0)) := Pu.elem hT hx hy hk h0 h1 hA.1
theorem Pu.ln {T E : TypeId} {x : Operand} {A : Option Addr} {n cp : Nat} (ht : c.P.underlying T = some (.slice E)) (hx : ev F x = some (.slice A n cp) := by rfl) : Pu c F K ⟨d, .call { callee := .builtin .len, args := #[x], argTypes := #[T] }, ty, pos, af, g⟩ (.int .i64 n) := Pu.len ht hx
section
variable {x y : Operand} {xt yt : TypeId} {i j : Int} {kk : IntKind}
theorem Pu.ad (hx : ev F x = some (.int .i64 i) := by rfl) (hy : ev F y = some (.int .i64 j) := by rfl) (h : -9223372036854775808 ≤ i + j ∧ i + j ≤ 9223372036854775807 := by omega) : Pu c F K ⟨d, .binOp .add xt x y yt, ty, pos, af, g⟩ (.int .i64 (i + j)) := Pu.add hx hy h
theorem Pu.sb (hx : ev F x = some (.int .i64 i) := by rfl) (hy : ev F y = some (.int .i64 j) := by rfl) (h : -9223372036854775808 ≤ i - j ∧ i - j ≤ 9223372036854775807 := by omega) : Pu c F K ⟨d, .binOp .sub xt x y yt, ty, pos, af, g⟩ (.int .i64 (i - j)) := Pu.sub hx hy h
theorem Pu.lt (hx : ev F x = some (.int kk i) := by rfl) (hy : ev F y = some (.int kk j) := by rfl) : Pu c F K ⟨d, .binOp .lss xt x y yt, ty, pos, af, g⟩ (.bool (decide (i < j))) := Pu.lss hx hy
theorem Pu.le (hx : ev F x = some (.int kk i) := by rfl) (hy : ev F y = some (.int kk j) := by rfl) : Pu c F K ⟨d, .binOp .leq xt x y yt, ty, pos, af, g⟩ (.bool (decide (i ≤ j))) := Pu.leq hx hy
theorem Pu.gt (hx : ev F x = some (.int kk i) := by rfl) (hy : ev F y = some (.int kk j) := by rfl) : Pu c F K ⟨d, .binOp .gtr xt x y yt, ty, pos, af, g⟩ (.bool (decide (j < i))) := Pu.gtr hx hy
theorem Pu.ge (hx : ev F x = some (.int kk i) := by rfl) (hy : ev F y = some (.int kk j) := by rfl) : Pu c F K ⟨d, .binOp .geq xt x y yt, ty, pos, af, g⟩ (.bool (decide (j ≤ i))) := Pu.geq hx hy
theorem Pu.eq (hx : ev F x = some (.int kk i) := by rfl) (hy : ev F y = some (.int kk j) := by rfl) : Pu c F K ⟨d, .binOp .eql xt x y yt, ty, pos, af, g⟩ (.bool (decide (i = j))) := Pu.eql hx hy
theorem Pu.ne (hx : ev F x = some (.int kk i) := by rfl) (hy : ev F y = some (.int kk j) := by rfl) : Pu c F K ⟨d, .binOp .neq xt x y yt, ty, pos, af, g⟩ (.bool (!decide (i = j))) := Pu.neq hx hy
theorem Pu.no {b : Bool} (hx : ev F x = some (.bool b) := by rfl) : Pu c F K ⟨d, .unOp .not xt x, ty, pos, af, g⟩ (.bool !b) := Pu.not hx
theorem Pu.mx (hx : ev F x = some (.int kk i) := by rfl) (hy : ev F y = some (.int kk j) := by rfl) {ts : Array TypeId} : Pu c F K ⟨d, .call { callee := .builtin .max, args := #[x, y], argTypes := ts }, ty, pos, af, g⟩ (.int kk (Max.max i j)) := Pu.max hx hy
theorem Pu.mn (hx : ev F x = some (.int kk i) := by rfl) (hy : ev F y = some (.int kk j) := by rfl) {ts : Array TypeId} : Pu c F K ⟨d, .call { callee := .builtin .min, args := #[x, y], argTypes := ts }, ty, pos, af, g⟩ (.int kk (Min.min i j)) := Pu.min hx hy
theorem Pu.bn {op : BinOp} {u v r : Value} (hx : ev F x = some u := by rfl) (hy : ev F y = some v := by rfl) (hr : ∀ w, (do eqGuard op xt x y u v; binOp op xt u v : Sem Value).run c.P w = .ok r w := by (intro w; go_simp; rfl)) : Pu c F K ⟨d, .binOp op xt x y yt, ty, pos, af, g⟩ r := Pu.bin hx hy hr
theorem Pu.kt {z : Operand} {u : Value} (hz : ev F z = some (.bool true) := by rfl) (hx : ev F x = some u := by rfl) : Pu c F K ⟨d, .pick z x y, ty, pos, af, g⟩ u := Pu.pickT hz hx
theorem Pu.kf {z : Operand} {u : Value} (hz : ev F z = some (.bool false) := by rfl) (hy : ev F y = some u := by rfl) : Pu c F K ⟨d, .pick z x y, ty, pos, af, g⟩ u := Pu.pickF hz hy
end
theorem Pu.bd {T : TypeId} {ps : List (Nat × Operand)} {vs : List (Nat × Value)} {v : Value} (hx : evp F ps = some vs := by rfl) (hr : ∀ w, (Instr.build T vs.toArray).run c.P w = .ok v w := by (intro w; go_simp; rfl)) : Pu c F K ⟨d, .build T ps.toArray, ty, pos, af, g⟩ v := Pu.build hx hr
theorem Pu.ix {T : TypeId} {x y : Operand} {u u' v : Value} (hx : ev F x = some u := by rfl) (hy : ev F y = some u' := by rfl) (hr : ∀ w, (Instr.index T u u').run c.P w = .ok v w := by (intro w; go_simp; rfl)) : Pu c F K ⟨d, .index T x y, ty, pos, af, g⟩ v := Pu.index hx hy hr
theorem Pu.cv {S T : TypeId} {x : Operand} {u v : Value} (hx : ev F x = some u := by rfl) (hr : ∀ w, (convert S T u).run c.P w = .ok v w := by (intro w; go_simp; rfl)) : Pu c F K ⟨d, .convert S T x, ty, pos, af, g⟩ v := Pu.conv hx hr
theorem Mk.al {T : TypeId} {zs : List Value} (hT : Zr c.P T zs) : Mk c F K ⟨d, .alloc T, ty, pos, af, g⟩ (fun b => .pointer (some ⟨b, 0, none⟩)) T zs := Mk.alloc hT
theorem Mk.bx {T : TypeId} {x : Operand} {v : Value} {vs : List Value} (hx : ev F x = some v := by rfl) (hv : v.cells = vs.toArray := by rfl) : Mk c F K ⟨d, .box T x, ty, pos, af, g⟩ (fun b => .pointer (some ⟨b, 0, none⟩)) T vs := Mk.box hx hv
theorem Mk.bl {T E : TypeId} {len : Nat} {ps : List (Nat × Operand)} {vs : List (Nat × Value)} {cs : List Value} (hx : evp F ps = some vs := by rfl) (hr : ∀ w, (Instr.buildSlice T len vs.toArray).run c.P w = .ok (.slice (some ⟨w.heap.size, 0, none⟩) len len) (w.alloc (.cells cs.toArray E)) := by (intro w; go_simp; rfl)) :
    Mk c F K ⟨d, .buildSlice T len ps.toArray, ty, pos, af, g⟩ (fun b => .slice (some ⟨b, 0, none⟩) len len) E cs := Mk.bslice hx hr
theorem TL.st {x y : Operand} {T : TypeId} {b off m : Nat} {v : Value} {vs cs cs' : List Value} {E : TypeId} (hT : Sz c.P T m) (h : TL c ops Q rest F (.blk b E cs' :: K')) (hx : ev F x = some (.pointer (some ⟨b, off, none⟩)) := by rfl) (hy : ev F y = some v := by rfl) (hv : v.cells = vs.toArray := by rfl) (h1 : vs.all Value.oneCell' = true := by rfl) (hm : vs.length = m := by rfl)
    (hp : Pick K (.blk b E cs) K' := by repeat (first | exact Pick.hd | apply Pick.tl)) (hput : PutL cs off vs cs' := by repeat (first | exact PutL.nil | apply PutL.put | apply PutL.pass)) : TL c ops Q (⟨none, .store T x y, ty, pos, af, none⟩ :: rest) F K := TL.store hx hy hv h1 hT hm hp hput h
theorem TL.se {x y : Operand} {T : TypeId} {A : Option Addr} {n cp i j m : Nat} {E : TypeId} {sz : Nat} {r : Nat → List Value} {v : Value} {vs row : List Value} (hT : Sz c.P T m) (h : TL c ops Q rest F (.own A n cp E sz (updR r i row) :: K')) (hx : ev F x = some (.pointer (elA A i sz j)) := by rfl) (hy : ev F y = some v := by rfl) (hv : v.cells = vs.toArray := by rfl) (h1 : vs.all Value.oneCell' = true := by rfl) (hm : vs.length = m := by rfl)
    (hp : Pick K (.own A n cp E sz r) K' := by repeat (first | exact Pick.hd | apply Pick.tl)) (hk : i < n := by omega) (hput : PutL (r i) j vs row := by repeat (first | exact PutL.nil | apply PutL.put | apply PutL.pass)) : TL c ops Q (⟨none, .store T x y, ty, pos, af, none⟩ :: rest) F K := TL.storeEl hx hy hv h1 hT hm hp hk hput h
theorem TL.a0 {x y : Operand} {T E : TypeId} {sz bytes : Nat} {A A2 : Option Addr} {cp m cp2 : Nat} {r s : Nat → List Value} (hT : ElemT c.P T E sz bytes) (h : ∀ A' cp', TL c ops Q rest (fput F d (.slice A' m cp')) (.own A' m cp' E sz s :: K')) (hx : ev F x = some (.slice A 0 cp) := by rfl) (hy : ev F y = some (.slice A2 m cp2) := by rfl) (hd : dok d c.n = true := by rfl)
    (hp : Pick K (.own A 0 cp E sz r) K' := by repeat (first | exact Pick.hd | apply Pick.tl)) (hsrc : Src c K sz A2 m s := by first | exact Src.blk1 (by repeat (first | exact Pick.hd | apply Pick.tl)) rfl | exact Src.old (by assumption) (by first | exact Apart.nil | assumption) | exact Src.own (by repeat (first | exact Pick.hd | apply Pick.tl))) (h1 : ∀ i, i < m → (s i).all Value.oneCell' = true := by first | (intro i hi; rfl) | assumption) (hm : m ≤ 1000000000 := by omega) (hby : bytes ≤ 10000 := by decide) :
    TL c ops Q (⟨d, .call { callee := .builtin .append, args := #[x, y], argTypes := #[T, T] }, ty, pos, af, none⟩ :: rest) F K := TL.app0 hT hx hy hd hp hsrc h1 hm hby h
theorem TL.ap {x y : Operand} {T E : TypeId} {sz bytes : Nat} {A A2 : Option Addr} {n cp m cp2 : Nat} {r s : Nat → List Value} (hT : ElemT c.P T E sz bytes) (h : ∀ A' cp', TL c ops Q rest (fput F d (.slice A' (n + m) cp')) (.own A' (n + m) cp' E sz (catR n r s) :: K')) (hx : ev F x = some (.slice A n cp) := by rfl) (hy : ev F y = some (.slice A2 m cp2) := by rfl) (hd : dok d c.n = true := by rfl)
    (hp : Pick K (.own A n cp E sz r) K' := by repeat (first | exact Pick.hd | apply Pick.tl)) (hsrc : Src c K sz A2 m s := by first | exact Src.blk1 (by repeat (first | exact Pick.hd | apply Pick.tl)) rfl | exact Src.old (by assumption) (by first | exact Apart.nil | assumption) | exact Src.own (by repeat (first | exact Pick.hd | apply Pick.tl))) (h1 : ∀ i, i < m → (s i).all Value.oneCell' = true := by first | (intro i hi; rfl) | assumption) (hm : n + m ≤ 1000000000 := by omega) (hby : bytes ≤ 10000 := by decide) :
    TL c ops Q (⟨d, .call { callee := .builtin .append, args := #[x, y], argTypes := #[T, T] }, ty, pos, af, none⟩ :: rest) F K := TL.app hT hx hy hd hp hsrc h1 hm hby h
theorem TL.cr {f : FuncId} {xs : List Operand} {ts : Array TypeId} {us : List Value} {v : Value} (hx : evs F xs = some us) (hen : Enters c.P f) (hc : ∀ w, Sat c.S c.w0 K w → Calls c.P f us.toArray w (Ret w v)) (h : TL c ops Q rest (fput F d v) K) (hg : gdB F ops g = some true := by rfl) (hd : dok d c.n = true := by rfl) :
    TL c ops Q (⟨d, .call { callee := .value (.func f), args := xs.toArray, argTypes := ts }, ty, pos, af, g⟩ :: rest) F K := TL.gcall hg hx hen hd hc h
theorem WK.cr {i : Nat} {f : FuncId} {xs : List Operand} {ts : Array TypeId} {us : List Value} {v : Value} (hx : evs F xs = some us) (hen : Enters c.P f) (hc : ∀ w, Sat c.S c.w0 K w → Calls c.P f us.toArray w (Ret w v)) (h : WK c ops Q nf fl bs pend (fput F d v) K) (hg : gdB F (frontOf ops nf) g = some true := by rfl) (hd : dok d c.n = true := by rfl) :
    WK c ops Q nf fl (false :: bs) ((i, ⟨d, .call { callee := .value (.func f), args := xs.toArray, argTypes := ts }, ty, pos, af, g⟩) :: pend) F K := WK.gcall hg hx hen hd hc h
theorem WK.n (h : FLK c ops Q nf fl F K) (hok : (fl.all fun f => Nat.blt f.d c.n) = true := by rfl) : WK c ops Q nf fl [] [] F K := WK.nil hok h
theorem RV.c1 {T : TypeId} {q : Option Addr} {v : Value} {rs : List ResultVar} {vs : List Value} (hT : Sc c.P T) (h : RV c F K rs vs) (hx : fget F t = some (.pointer q) := by rfl) (hq : CellsN c K q 1 [v] := by first | exact CellsN.blk (by repeat (first | exact Pick.hd | apply Pick.tl)) (by repeat (first | exact SubL.nil | apply SubL.take | apply SubL.drop))) : RV c F K (.cell t T :: rs) (v :: vs) := .cell hx hT hq.1 h
theorem RV.cs {m : Nat} {T : TypeId} {q : Option Addr} {us : List Value} {rs : List ResultVar} {vs : List Value} (hT : Ag c.P T m) (h : RV c F K rs vs) (hx : fget F t = some (.pointer q) := by rfl) (hq : CellsN c K q m us := by first | exact CellsN.blk (by repeat (first | exact Pick.hd | apply Pick.tl)) (by repeat (first | exact SubL.nil | apply SubL.take | apply SubL.drop))) : RV c F K (.cell t T :: rs) (.agg us.toArray :: vs) := .cells hx hT hq.1 hq.2 h
end
end Go.Proofs.YtbenhafhklfhmaaGreat
namespace Go.Proofs.YtbenhafhklfhmaaGreat
set_option linter.all false
set_option linter.unusedVariables false
set_option linter.unusedSimpArgs false
open Go.RowKit
inductive Drop (F : Fr) : List Fact → List Fact → Prop
  | done {K : List Fact} : Drop F K K
  | blk {K K1 K0 : List Fact} {b o : Nat} {T : TypeId} {cs : List Value} (x : Nat) : fget F x = some (.pointer (some ⟨b, o, none⟩)) → Pick K (.blk b T cs) K1 → Drop F K1 K0 → Drop F K K0
  | own {K K1 K0 : List Fact} {A : Option Addr} {n cp sz : Nat} {E : TypeId} {r : Nat → List Value} (x : Nat) : fget F x = some (.slice A n cp) → Pick K (.own A n cp E sz r) K1 → Drop F K1 K0 → Drop F K K0
theorem KSub.refl : ∀ K : List Fact, KSub K K
  | [] => .nil
  | _ :: K => .cons .hd (KSub.refl K)
def Has (K K0 : List Fact) : Prop := ∃ R, K.Perm (K0 ++ R)
theorem Has.sat {S : List Nat} {w0 w : World} {K K0 : List Fact} (h : Has K K0) (hs : Sat S w0 K w) : Sat S w0 K0 w := by
  obtain ⟨R, hp⟩ := h
  have h1 := hs.perm hp
  refine ⟨h1.chg, (List.nodup_append.1 (feet_append K0 R ▸ h1.nd)).1, fun b hb => h1.ge b (by rw [feet_append]; simp [hb]), fun φ hφ => h1.holds φ (by simp [hφ])⟩
inductive HasL : List Fact → List Fact → Prop
  | nil {K : List Fact} : HasL K []
  | cons {K K1 L : List Fact} {φ : Fact} : Pick K φ K1 → HasL K1 L → HasL K (φ :: L)
theorem HasL.has {K L : List Fact} (h : HasL K L) : Has K L := by
  induction h with
  | @nil K => exact ⟨K, by simp⟩
  | cons hp _ ih => obtain ⟨R, hR⟩ := ih; exact ⟨R, hp.perm.trans (hR.cons _)⟩
section
variable {c : Cx} {Q : Exit → Act → World → Prop} {F F' : Fr} {K K' K0 : List Fact} {ops : Array Oper} {rest : List Oper} {d : Option Tmp} {ty : TypeId} {pos : String} {af : Array Edge} {g : Option (Nat × Bool)} {k fuel t : Nat} {pend : List (Nat × Oper)} {listed : Array Bool} {op : Op}
theorem Pu.rm {x y : Operand} {xt yt : TypeId} {i j : Int} (hx : ev F x = some (.int .i64 i) := by rfl) (hy : ev F y = some (.int .i64 j) := by rfl) (h0 : 0 ≤ i ∧ 0 < j := by omega) : Pu c F K ⟨d, .binOp .rem xt x y yt, ty, pos, af, g⟩ (.int .i64 (i % j)) := Pu.bin hx hy fun w => by
  obtain ⟨h0, h2⟩ := h0
  have hj : j ≠ 0 := by omega
  have e : i.tmod j = i % j := Int.tmod_eq_emod_of_nonneg h0
  simp only [eqGuard, binOp, Op.intDiv, hj, if_false, e]
  rfl
def RF (c : Cx) (ops : Array Oper) (Q : Exit → Act → World → Prop) (K0 : List Fact) (k : Nat) (rest : List Oper) (pend : List (Nat × Oper)) (listed : Array Bool) (fuel : Nat) (F : Fr) (K : List Fact) : Prop :=
  ops.toList.drop k = rest → (∀ p ∈ pend, ops[p.1]? = some p.2) → Pan Q → ∀ a w, FS c.n c.D F a → Sat c.S c.w0 K w → wpAnyH c.P .any ops Q (Sat c.S c.w0 K0) fuel listed a w
theorem TW.rf {id : Nat} {l : List Oper} (hd : Drop F K K0) (h : RF c l.toArray Q K0 0 l [] (Array.replicate l.length false) l.length F K) (hm : c.P.follows .mixedOrders = true := by rfl) (hp : Pan Q := by (intro d _ _ _ _; cases d <;> exact Iff.rfl)) : TW c (.region id l.toArray true) Q F K := fun a w hF hK => by
  refine wp_region_any hm (wpAny_of_held (S := Sat c.S c.w0 K0) _ _ _ _ ?_)
  have := h rfl (fun p hp => by cases hp) hp a w.drew hF (hK.ext (keep_drew w))
  rw [List.size_toArray]
  exact this
theorem RF.head {o : Oper} (h : ops.toList.drop k = o :: rest) : ops[k]? = some o ∧ ops.toList.drop (k + 1) = rest := by
  constructor
  · have := congrArg (·[0]?) h
    simpa [List.getElem?_drop] using this
  · have := congrArg List.tail h
    simpa [List.drop_drop, Nat.add_comm] using this
def takeA (ops : Array Oper) (l : Array Bool) (i : Nat) : Bool := Region.noSelect ops && Region.free .any ops l i && (Region.ready .any ops l).contains i
theorem RF.tk {v : Value} (hp : Pu c F K0 ⟨some t, op, ty, pos, af, g⟩ v) (h : RF c ops Q K0 (k + 1) rest pend (listed.setIfInBounds k true) fuel ((t, v) :: F) K) (hh : HasL K K0 := by repeat (first | exact HasL.nil | refine HasL.cons (by repeat (first | exact Pick.hd | apply Pick.tl)) ?_)) (hk : takeA ops listed k = true := by kernel_rfl) (hg : gdB F ops g = some true := by rfl) (hd : Nat.blt t c.n = true := by rfl) :
    RF c ops Q K0 k (⟨some t, op, ty, pos, af, g⟩ :: rest) pend listed (fuel + 1) F K := fun h1 h2 h3 a w hF hK => by
  obtain ⟨e1, e2⟩ := RF.head h1
  simp only [takeA, Bool.and_eq_true] at hk
  exact wpAnyH_take e1 hk.1.1 hk.1.2 hk.2 (fun ch a w h => (h3 _ v ch a w).1 h) (.inl ⟨hF.wanted hg, fun w' hS => hp a w' hF hS⟩) (hh.has.sat hK) (h e2 h2 h3 _ w (hF.put hd v) hK)
theorem RF.ks {o : Oper} (h : RF c ops Q K0 (k + 1) rest (pend ++ [(k, o)]) listed fuel F K) : RF c ops Q K0 k (o :: rest) pend listed fuel F K := fun h1 h2 h3 a w hF hK => by
  obtain ⟨e1, e2⟩ := RF.head h1
  exact h e2 (fun p hp => by
    rcases List.mem_append.1 hp with hp | hp
    · exact h2 p hp
    · simp only [List.mem_singleton] at hp; subst hp; exact e1) h3 a w hF hK
def RG (c : Cx) (ops : Array Oper) (Q : Exit → Act → World → Prop) (K0 : List Fact) (pend : List (Nat × Oper)) (listed : Array Bool) (fuel : Nat) (F : Fr) (K : List Fact) : Prop :=
  (∀ p ∈ pend, ops[p.1]? = some p.2) → ∀ a w, FS c.n c.D F a → Sat c.S c.w0 K w → wpAnyH c.P .any ops Q (Sat c.S c.w0 K0) fuel listed a w
theorem RF.go (h : RG c ops Q K0 pend listed fuel F K) : RF c ops Q K0 k [] pend listed fuel F K := fun _ h2 _ a w hF hK => h h2 a w hF hK
theorem RG.nil (h : TQ c Q .normal F K) (hr : (Region.ready .any ops listed).isEmpty = true := by kernel_rfl) : RG c ops Q K0 [] listed fuel F K := fun _ a w hF hK => wpAnyH_done (List.isEmpty_iff.1 hr) (h a w hF hK) fuel
def nxt (Z : Act → World → Prop) (Q : Exit → Act → World → Prop) : Exit → Act → World → Prop
  | .normal, a, w => Z a w
  | e, a, w => Q e a w
theorem RG.step {i : Nat} {o : Oper} (h : ∀ Z : Act → World → Prop, (∀ F2 K2, HasL K2 K0 → RG c ops Q K0 pend (listed.setIfInBounds i true) fuel F2 K2 → TQ c (fun _ => Z) .normal F2 K2) → TL c ops (nxt Z Q) [o] F K) (hr : (Region.ready .any ops listed == [i]) = true := by kernel_rfl) : RG c ops Q K0 ((i, o) :: pend) listed (fuel + 1) F K := fun h2 a w hF hK => by
  have hr' : Region.ready .any ops listed = [i] := by simpa using hr
  refine wpAnyH_all hr' (by simp) fun j hj => ?_
  simp only [List.mem_singleton] at hj
  subst hj
  have h1 := h (fun a' w' => Sat c.S c.w0 K0 w' ∧ wpAnyH c.P .any ops Q (Sat c.S c.w0 K0) fuel (listed.setIfInBounds j true) a' w') (fun F2 K2 hh hg a' w' hF2 hK2 => ⟨hh.has.sat hK2, hg (fun p hp => h2 p (by simp [hp])) a' w' hF2 hK2⟩) a w hF hK
  unfold wpList at h1
  unfold wpOp
  simp only [h2 (j, o) (by simp)]
  split
  · rename_i hw
    rw [if_pos hw] at h1
    rcases h1 with h1 | ⟨hA, hL⟩
    · refine .inl ?_
      unfold Oper.wp at *
      generalize (execOp a.eval o).run c.P w = r at *
      cases r with
      | ok x w' =>
        cases x <;> simp only [Oper.upon] at h1 ⊢ <;> first
          | exact h1
          | exact Calls.mono h1 (fun e w'' he => by
              cases e with
              | returned v => exact he
              | panicked ch => exact he
              | outgrown => obtain ⟨x, y, z⟩ := he; exact ⟨x, y, z⟩)
          | exact Rows.mono h1 (fun _ _ he => he)
      | halt x w' => cases x <;> simp only [Oper.upon] at h1 ⊢ <;> exact h1
    · obtain ⟨x, y, z⟩ := hL
      exact .inr ⟨hA, x, y, z⟩
  · rename_i hw
    rw [if_neg hw] at h1
    exact h1
theorem TQ.nxt {Z : Act → World → Prop} (h : TQ c (fun _ => Z) .normal F K) : TQ c (nxt Z Q) .normal F K := h
end
end Go.Proofs.YtbenhafhklfhmaaGreat
namespace Go.Proofs.YtbenhafhklfhmaaGreat
set_option linter.all false
set_option linter.unusedVariables false
set_option linter.unusedSimpArgs false
open Go.RowKit
section
variable {c : Cx} {Q : Exit → Act → World → Prop} {F F' : Fr} {K K' K0 : List Fact} {ops : Array Oper} {rest : List Oper} {d : Option Tmp} {ty : TypeId} {pos : String} {af : Array Edge} {g : Option (Nat × Bool)} {k fuel t nf : Nat} {pend : List (Nat × Oper)} {listed : Array Bool} {bs : List Bool} {fl : List Fl} {op : Op}
theorem wpList_yes' {P : Program} {o : Oper} {v : Value} {a : Act} {w w' : World} (hg : Region.wanted o (yielded ops a.tmps) = true) (hr : (execOp a.eval o).run P w = .ok (.value v) w') (h : wpList P ops Q rest (a.put o.dst v) w') : wpList P ops Q (o :: rest) a w := by
  unfold wpList
  rw [if_pos hg]
  exact .inl (by unfold Oper.wp; rw [hr]; exact h)
theorem TL.gm {v : Nat → Value} {T : TypeId} {cs : List Value} (hm : Mk c F K ⟨d, op, ty, pos, af, g⟩ v T cs) (h : ∀ b, TL c ops Q rest (fput F d (v b)) (.blk b T cs :: K)) (hg : gdB F ops g = some true := by rfl) (hd : dok d c.n = true := by rfl) : TL c ops Q (⟨d, op, ty, pos, af, g⟩ :: rest) F K := fun a w hF hK =>
  wpList_yes' (hF.wanted hg) (hm a w hF hK) (h _ _ _ (hF.fput hd _) (hK.new T cs))
theorem run_callv {P : Program} {f : FuncId} {fs us cs : List Value} {w : World} {x : Operand} {xs : List Operand} {ts : Array TypeId} {o : Oper} {ρ : Operand → Value} (hf : ρ x = .func (.func f) fs.toArray cs.toArray) (hx : xs.map ρ = us) (hen : Enters P f) (ho : o.op = .call { callee := .value x, args := xs.toArray, argTypes := ts }) :
    (execOp ρ o).run P w = .ok (.enter f (fs ++ us ++ cs).toArray) w := by
  have h9 := hen (fs ++ us ++ cs).toArray w
  have e : fs.toArray ++ us.toArray ++ cs.toArray = (fs ++ us ++ cs).toArray := by simp
  simp only [execOp, ho, resolve, hf, Deferred.ofValue, List.map_toArray, hx, Sem.run_bind, Sem.run_pure, Result.andThen_ok, invoke, e]
  exact h9
theorem TL.cv {f : FuncId} {x : Operand} {xs : List Operand} {ts : Array TypeId} {us fs cs : List Value} {v : Value} (hf : ev F x = some (.func (.func f) fs.toArray cs.toArray)) (hx : evs F xs = some us) (hen : Enters c.P f) (hc : ∀ w, Sat c.S c.w0 K w → Calls c.P f (fs ++ us ++ cs).toArray w (Ret w v)) (h : TL c ops Q rest (fput F d v) K) (hg : gdB F ops g = some true := by rfl) (hd : dok d c.n = true := by rfl) :
    TL c ops Q (⟨d, .call { callee := .value x, args := xs.toArray, argTypes := ts }, ty, pos, af, g⟩ :: rest) F K := fun a w hF hK => by
  unfold wpList
  rw [if_pos (hF.wanted hg)]
  refine .inl ?_
  unfold Oper.wp
  rw [run_callv (hF.evl hf) (hF.evsl hx) hen rfl]
  refine Calls.mono (hc w hK) ?_
  rintro e w' ⟨rfl, hb⟩
  exact h _ _ (hF.fput hd _) (hK.ext hb)
theorem TL.cvk {f : FuncId} {x : Operand} {xs : List Operand} {ts : Array TypeId} {us fs cs : List Value} {M : List Fact} {X : Type} {val : X → Value} {L : X → List Fact} (hf : ev F x = some (.func (.func f) fs.toArray cs.toArray)) (hx : evs F xs = some us) (hen : Enters c.P f) (hM : K.Perm (M ++ K'))
    (hc : ∀ w, Sat c.S c.w0 K w → CallsK c.P f (fs ++ us ++ cs).toArray M w X val L) (h : ∀ x, TL c ops Q rest (fput F d (val x)) (L x ++ K')) (hd : dok d c.n = true := by rfl) : TL c ops Q (⟨d, .call { callee := .value x, args := xs.toArray, argTypes := ts }, ty, pos, af, none⟩ :: rest) F K := fun a w hF hK =>
  wpList_plain rfl fun Z hZ => by
    unfold Oper.wp
    rw [run_callv (hF.evl hf) (hF.evsl hx) hen rfl]
    refine Calls.mono (hc w hK) ?_
    rintro e w' ⟨x, rfl, hs⟩
    exact hZ _ _ (h x _ _ (hF.fput hd _) ((hK.perm hM).step hs))
def OldB (w0 : World) (b : Nat) (cs : List Value) : Prop := b < w0.heap.size ∧ ∀ j v, cs[j]? = some v → w0.cell? ⟨b, j, none⟩ = some v
theorem CellsN.ob {b off m : Nat} {cs vs : List Value} (h : OldB c.w0 b cs) (hS : Apart c.S (some ⟨b, 0, none⟩)) (hs : SubL cs off m vs) : CellsN c K (some ⟨b, off, none⟩) m vs := ⟨fun w hK => ⟨b, off, rfl, fun j v hv => by
  rw [hK.chg.cell h.1 (hS b rfl)]
  exact h.2 _ _ (hs.spec.2 j v hv)⟩, hs.spec.1⟩
theorem OldB.of_blk {w0 : World} {b : Nat} {T : TypeId} {cs : List Value} (h : Blk w0 b T cs.toArray) : OldB w0 b cs := ⟨h.lt, fun j v hv => by rw [h.cell]; simpa using hv⟩
theorem OldB.ext {w w' : World} {b : Nat} {cs : List Value} (h : OldB w b cs) (he : Below w.heap.size w w') : OldB w' b cs := ⟨Nat.lt_of_lt_of_le h.1 he.size, fun j v hv => by rw [he.cell (p := ⟨b, j, none⟩) h.1]; exact h.2 j v hv⟩
theorem OldB.sat {w w0 : World} {S : List Nat} {b : Nat} {cs : List Value} (h : OldB w0 b cs) (hs : Sat S w0 K w) (hb : b ∉ S) : OldB w b cs := ⟨Nat.lt_of_lt_of_le h.1 hs.chg.size, fun j v hv => by rw [hs.chg.cell h.1 hb]; exact h.2 j v hv⟩
theorem Pu.ldo {x : Operand} {T : TypeId} {q : Option Addr} {v : Value} (hT : Sc c.P T) (hx : ev F x = some (.pointer q) := by rfl) (hq : CellsN c K q 1 [v] := by exact CellsN.ob (by assumption) (by first | exact Apart.nil | assumption) (by repeat (first | exact SubL.nil | apply SubL.take | apply SubL.drop))) : Pu c F K ⟨d, .load T x, ty, pos, af, g⟩ v := Pu.load hx hT hq.1
end
theorem Rd.chg {w w' : World} {S : List Nat} {sz n : Nat} {A : Option Addr} {f : Nat → Nat → Value} (h : Rd w sz A n f) (hc : Chg S w w') (hA : Apart S A) : Rd w' sz A n f := fun hn => by
  obtain ⟨b, o, rfl, hb, hcell⟩ := h hn
  exact ⟨b, o, rfl, Nat.lt_of_lt_of_le hb hc.size, fun i j hi hj => by rw [hc.cell hb (hA b rfl)]; exact hcell i j hi hj⟩
theorem RdR.chg {w w' : World} {S : List Nat} {sz n : Nat} {A : Option Addr} {r : Nat → List Value} (h : RdR w sz A n r) (hc : Chg S w w') (hA : Apart S A) : RdR w' sz A n r := ⟨h.rd.chg hc hA, h.len⟩
theorem RdR.sat {w w' : World} {S : List Nat} {K : List Fact} {sz n : Nat} {A : Option Addr} {r : Nat → List Value} (h : RdR w sz A n r) (hs : Sat S w K w') (hA : Apart S A) : RdR w' sz A n r := h.chg hs.chg hA
theorem RdR.sat0 {w w' : World} {S : List Nat} {K : List Fact} {sz n : Nat} {A : Option Addr} {r : Nat → List Value} (h : RdR w sz A n r) (hs : Sat S w K w') (hA : 0 < n → Apart S A) : RdR w' sz A n r :=
  ⟨fun hn => h.rd.chg hs.chg (hA hn) hn, h.len⟩
theorem Sat.self {S : List Nat} {w0 w : World} {K : List Fact} (h : Sat S w0 K w) : Sat (feet K) w K w := ⟨Chg.refl _ _, h.nd, fun _ hb => .inl hb, h.holds⟩
theorem Sat.from {S T : List Nat} {w0 w1 w : World} {K : List Fact} (h : Sat T w1 K w) (hc : Chg S w0 w1) (hT : ∀ b ∈ T, b ∈ S ∨ w0.heap.size ≤ b) : Sat S w0 K w :=
  ⟨⟨h.chg.os.trans hc.os, h.chg.tape.trans hc.tape, h.chg.output.trans hc.output, Nat.le_trans hc.size h.chg.size, fun i hi hS => (h.chg.block i (Nat.lt_of_lt_of_le hi hc.size) (fun hm => by
      rcases hT i hm with h1 | h1
      · exact hS h1
      · omega)).trans (hc.block i hi hS)⟩, h.nd, fun b hb => by
    rcases h.ge b hb with h1 | h1
    · exact hT b h1
    · exact .inr (Nat.le_trans hc.size h1), h.holds⟩
theorem CallsK.retOf {P : Program} {f : FuncId} {args : Array Value} {w : World} {X : Type} {val : X → Value} {v : Value} (h : CallsK P f args [] w X val (fun _ => [])) (hv : ∀ x, val x = v) : Calls P f args w (Ret w v) :=
  Calls.mono h fun e w' ⟨x, he, hs⟩ => ⟨by rw [he, hv x], Chg.ext hs.chg⟩
section
variable {c : Cx} {Q : Exit → Act → World → Prop} {F F' : Fr} {K K' K0 : List Fact} {ops : Array Oper} {listed : Array Bool} {fuel : Nat}
def RGo (c : Cx) (ops : Array Oper) (Q : Exit → Act → World → Prop) (K0 : List Fact) (listed : Array Bool) (fuel : Nat) (F : Fr) (K : List Fact) (i : Nat) (o : Oper) : Prop :=
  ∀ Z : Act → World → Prop, (∀ F2 K2, HasL K2 K0 → RG c ops Q K0 [] (listed.setIfInBounds i true) fuel F2 K2 → TQ c (fun _ => Z) .normal F2 K2) → TL c ops (nxt Z Q) [o] F K
theorem RG.all {l : List Nat} (hr : Region.ready .any ops listed = l) (hne : l ≠ []) (h : ∀ i ∈ l, ∃ o, ops[i]? = some o ∧ RGo c ops Q K0 listed fuel F K i o) : RG c ops Q K0 [] listed (fuel + 1) F K := fun _ a w hF hK => by
  refine wpAnyH_all hr hne fun j hj => ?_
  obtain ⟨o, ho, h⟩ := h j hj
  have h1 := h (fun a' w' => Sat c.S c.w0 K0 w' ∧ wpAnyH c.P .any ops Q (Sat c.S c.w0 K0) fuel (listed.setIfInBounds j true) a' w') (fun F2 K2 hh hg a' w' hF2 hK2 => ⟨hh.has.sat hK2, hg (fun p hp => by cases hp) a' w' hF2 hK2⟩) a w hF hK
  unfold wpList at h1
  unfold wpOp
  simp only [ho]
  split
  · rename_i hw
    rw [if_pos hw] at h1
    rcases h1 with h1 | ⟨hA, hL⟩
    · refine .inl ?_
      unfold Oper.wp at *
      generalize (execOp a.eval o).run c.P w = r at *
      cases r with
      | ok x w' =>
        cases x <;> simp only [Oper.upon] at h1 ⊢ <;> first
          | exact h1
          | exact Calls.mono h1 (fun e w'' he => by
              cases e with
              | returned v => exact he
              | panicked ch => exact he
              | outgrown => obtain ⟨x, y, z⟩ := he; exact ⟨x, y, z⟩)
          | exact Rows.mono h1 (fun _ _ he => he)
      | halt x w' => cases x <;> simp only [Oper.upon] at h1 ⊢ <;> exact h1
    · obtain ⟨x, y, z⟩ := hL
      exact .inr ⟨hA, x, y, z⟩
  · rename_i hw
    rw [if_neg hw] at h1
    exact h1
theorem RG.a1 (i : Nat) {o : Oper} (ho : ops[i]? = some o) (h : RGo c ops Q K0 listed fuel F K i o) (hr : Region.ready .any ops listed = [i] := by kernel_rfl) : RG c ops Q K0 [] listed (fuel + 1) F K :=
  RG.all hr (by simp) fun j hj => by
    simp only [List.mem_singleton] at hj; subst hj; exact ⟨o, ho, h⟩
theorem RG.a2 (i j : Nat) {o o' : Oper} (ho : ops[i]? = some o) (ho' : ops[j]? = some o') (h : RGo c ops Q K0 listed fuel F K i o) (h' : RGo c ops Q K0 listed fuel F K j o') (hr : Region.ready .any ops listed = [i, j] := by kernel_rfl) : RG c ops Q K0 [] listed (fuel + 1) F K :=
  RG.all hr (by simp) fun k hk => by
    simp only [List.mem_cons, List.not_mem_nil, or_false] at hk
    rcases hk with rfl | rfl
    · exact ⟨o, ho, h⟩
    · exact ⟨o', ho', h'⟩
theorem RG.tk (i : Nat) {op : Op} {ty : TypeId} {pos : String} {af : Array Edge} {g : Option (Nat × Bool)} {t : Nat} {v : Value} (ho : ops[i]? = some ⟨some t, op, ty, pos, af, g⟩) (hp : Pu c F K0 ⟨some t, op, ty, pos, af, g⟩ v) (h : RG c ops Q K0 [] (listed.setIfInBounds i true) fuel ((t, v) :: F) K) (hh : HasL K K0 := by repeat (first | exact HasL.nil | refine HasL.cons (by repeat (first | exact Pick.hd | apply Pick.tl)) ?_)) (hk : takeA ops listed i = true := by kernel_rfl) (hg : gdB F ops g = some true := by rfl) (hd : Nat.blt t c.n = true := by rfl) (hpan : Pan Q := by (intro d _ _ _ _; cases d <;> exact Iff.rfl)) :
    RG c ops Q K0 [] listed (fuel + 1) F K := fun h1 a w hF hK => by
  simp only [takeA, Bool.and_eq_true] at hk
  exact wpAnyH_take ho hk.1.1 hk.1.2 hk.2 (fun ch a w h => (hpan _ v ch a w).1 h) (.inl ⟨hF.wanted hg, fun w' hS => hp a w' hF hS⟩) (hh.has.sat hK) (h h1 _ w (hF.put hd v) hK)
end
theorem zcb9 : (∀ (p : Prop) [Decidable p], (decide p = true) = p) ∧ (∀ (p : Prop) [Decidable p], decide p = false ↔ ¬p) ∧ (∀ b, ((!b) = true) = (b = false)) ∧ (∀ b, ((!b) = false) = (b = true)) ∧ (∀ a b : Bool, ((a && b) = true) = (a = true ∧ b = true)) ∧ (∀ a b : Bool, ((a || b) = true) = (a = true ∨ b = true)) ∧ (∀ a b : Bool, (a && b) = false ↔ a = false ∨ b = false) ∧ (∀ a b : Bool, (a || b) = false ↔ a = false ∧ b = false) ∧ (∀ a b : Int, ¬a < b ↔ b ≤ a) ∧ (∀ a b : Int, ¬a ≤ b ↔ b < a) :=
  ⟨@decide_eq_true_eq, @decide_eq_false_iff_not, Bool.not_eq_true', Bool.not_eq_false', Bool.and_eq_true, Bool.or_eq_true, @Bool.and_eq_false_iff, @Bool.or_eq_false_iff, @Int.not_lt, @Int.not_le⟩
theorem zgb9 : (∀ (p : Prop) [Decidable p], (decide p = true) = p) ∧ (∀ (p : Prop) [Decidable p], decide p = false ↔ ¬p) ∧ (∀ b, ((!b) = true) = (b = false)) ∧ (∀ b, ((!b) = false) = (b = true)) ∧ (∀ n : Nat, 0 < (n : Int) ↔ 0 < n) :=
  ⟨@decide_eq_true_eq, @decide_eq_false_iff_not, Bool.not_eq_true', Bool.not_eq_false', @Int.natCast_pos⟩
theorem zom9 {p : Prop} (h : p := by first | omega | (simp only []; omega) | (simp; omega)) : p := h
theorem pk9 {K K2 : List Fact} {φ : Fact} (h : Pick K φ K2 := by repeat (first | exact Pick.hd | apply Pick.tl)) : Pick K φ K2 := h
theorem fs9 {F G : Fr} (h : fsub F G := by repeat (first | exact trivial | refine ⟨rfl, ?_⟩ | refine ⟨trivial, ?_⟩)) : fsub F G := h
theorem ks9 {K L : List Fact} (h : KSub K L := by repeat (first | exact KSub.nil | refine KSub.cons (by repeat (first | exact Pick.hd | apply Pick.tl)) ?_)) : KSub K L := h
theorem kt9 {K L : List Fact} (h : KSub K L := by repeat (first | exact KSub.nil | refine KSub.cons (by repeat (first | exact Pick.hd | apply Pick.tl)) ?_ | exact KSub.refl _ | refine KSub.drop ?_)) : KSub K L := h
theorem hl9 {K L : List Fact} (h : HasL K L := by repeat (first | exact HasL.nil | refine HasL.cons (by repeat (first | exact Pick.hd | apply Pick.tl)) ?_)) : HasL K L := h
end Go.Proofs.YtbenhafhklfhmaaGreat
namespace Go.Proofs.YtbenhafhklfhmaaGreat
set_option linter.all false
set_option linter.unusedVariables false
set_option linter.unusedSimpArgs false
open Go.RowKit Go.MapKept
def ents (kk : IntKind) : Nat → List (Int × Value) → List MapEntry
 | _, [] => []
 | s, (k, v) :: l => { key := .int kk k, val := v, born := s } :: ents kk (s + 1) l
def mapO (kk : IntKind) (l : List (Int × Value)) : Obj := .map (ents kk 0 l).toArray l.length
def mlook (i : Int) : List (Int × Value) → Option Value
 | [] => none
 | (k, v) :: l => if i = k then some v else mlook i l
def mput (i : Int) (v : Value) : List (Int × Value) → List (Int × Value)
 | [] => [(i, v)]
 | (k, u) :: l => if i = k then (k, v) :: l else (k, u) :: mput i v l
def mfind (i : Int) : Nat → List (Int × Value) → Option (Nat × Value)
 | _, [] => none
 | q, (k, v) :: l => if i = k then some (q, v) else mfind i (q + 1) l
theorem findNow_ents (kk : IntKind) (i : Int) : ∀ (l : List (Int × Value)) (s q : Nat), Instr.findNow (.int kk) (.int kk i) (ents kk s l) q = some (mfind i q l)
  | [], _, _ => rfl
  | (k, v) :: l, s, q => by
    by_cases h : i = k
    · subst h; simp [ents, Instr.findNow, Instr.sameNow, mfind]
    · have hb : (i == k) = false := by simpa using h
      simp [ents, Instr.findNow, Instr.sameNow, mfind, h, hb, findNow_ents kk i l (s + 1) (q + 1)]
theorem mfind_look (i : Int) : ∀ (l : List (Int × Value)) (q : Nat), (mfind i q l).map (·.2) = mlook i l
 | [], _ => rfl
 | (k, v) :: l, q => by
  by_cases h : i = k
  · simp [mfind, mlook, h]
  · simp [mfind, mlook, h, mfind_look i l (q + 1)]
theorem mput_none {i : Int} {v : Value} {kk : IntKind} : ∀ {l : List (Int × Value)} {q s : Nat}, mfind i q l = none → ents kk s (mput i v l) = ents kk s l ++ [{ key := .int kk i, val := v, born := s + l.length }] ∧ (mput i v l).length = l.length + 1
 | [], _, _, _ => ⟨rfl, rfl⟩
 | (k, u) :: l, q, s, h => by
  by_cases hk : i = k
  · simp [mfind, hk] at h
  · simp only [mfind, hk, if_false] at h
    obtain ⟨h1, h2⟩ := mput_none (v := v) (kk := kk) (s := s + 1) h
    simp only [mput, hk, if_false, ents, h1, List.length_cons, h2, List.cons_append, and_true]
    congr 3
    all_goals simp; try omega
theorem mput_some {i : Int} {v u : Value} {kk : IntKind} : ∀ {l : List (Int × Value)} {q s p : Nat}, mfind i q l = some (q + p, u) → (ents kk s (mput i v l)) = (ents kk s l).modify p (fun e => { e with key := .int kk i, val := v }) ∧ (mput i v l).length = l.length ∧ ∃ b, (ents kk s l)[p]? = some { key := .int kk i, val := u, born := b }
 | [], _, _, _, h => by simp [mfind] at h
 | (k, u') :: l, q, s, p, h => by
  by_cases hk : i = k
  · simp [mfind, hk] at h
    obtain ⟨h1, h2⟩ := h
    subst h1 h2 hk
    exact ⟨by simp [mput, ents], by simp [mput], s, by simp [ents]⟩
  · simp only [mfind, hk, if_false] at h
    have hp : 0 < p := by
      rcases Nat.eq_zero_or_pos p with rfl | hp
      · exfalso
        have := mfind_ge h
        omega
      · exact hp
    obtain ⟨p', rfl⟩ : ∃ p', p = p' + 1 := ⟨p - 1, by omega⟩
    rw [show q + (p' + 1) = (q + 1) + p' by omega] at h
    obtain ⟨h1, h2, b, h3⟩ := mput_some (v := v) (kk := kk) (s := s + 1) h
    exact ⟨by simp [mput, hk, ents, h1], by simp [mput, hk, h2], b, by simpa [ents] using h3⟩
where
 mfind_ge {i : Int} {u : Value} : ∀ {l : List (Int × Value)} {q p : Nat}, mfind i q l = some (p, u) → q ≤ p
  | [], _, _, h => by simp [mfind] at h
  | (k, u') :: l, q, p, h => by
    by_cases hk : i = k
    · simp [mfind, hk] at h; omega
    · simp only [mfind, hk, if_false] at h
      have := mfind_ge h
      omega
structure MapT (P : Program) (T kt et : TypeId) (kk : IntKind) : Prop where
 map : P.underlying T = some (.map kt et)
 key : P.underlying kt = some (.int kk)
theorem isKey_int (kk : IntKind) (i : Int) : IsKey (.int kk) (.int kk i) := by simp [IsKey]
theorem run_getObj_o {P : Program} {w : World} {b : Nat} {kk : IntKind} {l : List (Int × Value)} (hb : w.heap[b]? = some (mapO kk l)) : (getObj b).run P w = .ok (.map (ents kk 0 l).toArray l.length) w := by
 unfold mapO at hb
 exact Go.MapKept.run_getObj_map hb
theorem run_setObj_o {P : Program} {w : World} {b : Nat} {kk : IntKind} {l : List (Int × Value)} (o : Obj) (hb : w.heap[b]? = some (mapO kk l)) : (setObj b o).run P w = .ok () { w with heap := w.heap.setIfInBounds b o } := by
 unfold mapO at hb
 exact Go.MapKept.run_setObj_map o hb
theorem run_lookup_o {P : Program} {T kt et : TypeId} {kk : IntKind} {w : World} {b : Nat} {l : List (Int × Value)} {i : Int} {z : Value} (hT : MapT P T kt et kk) (hb : w.heap[b]? = some (mapO kk l)) (hz : (zeroValue et).run P w = .ok z w) (ok : Bool) :
  (Instr.lookup T (.map (some b)) (.int kk i) ok).run P w = .ok (if ok then .tuple #[(mlook i l).getD z, .bool (mlook i l).isSome] else (mlook i l).getD z) w := by
 have h0 := findNow_ents kk i l 0 0
 have hf : (Instr.findKey kt (.int kk i) (ents kk 0 l)).run P w = .ok (mfind i 0 l) w := run_findKey hT.key h0
 have hl := mfind_look i l 0
 unfold Instr.lookup
 simp only [Sem.run_bind, run_underlying hT.map, Result.andThen_ok, run_getObj_o hb, Sem.run_pure, run_checkKey hT.key (isKey_int kk i), hf]
 cases hm : mfind i 0 l with
 | none =>
  rw [hm] at hl
  have hl' : mlook i l = none := by simpa using hl.symm
  simp [hz, hl', Result.andThen_ok]
 | some x =>
  rw [hm] at hl
  have hl' : mlook i l = some x.2 := by simpa using hl.symm
  simp [hl', Result.andThen_ok]
theorem run_mapUpdate_o {P : Program} {T kt et : TypeId} {kk : IntKind} {w : World} {b : Nat} {l : List (Int × Value)} {i : Int} {v : Value} (hT : MapT P T kt et kk) (hb : w.heap[b]? = some (mapO kk l)) :
  (Instr.mapUpdate T (.map (some b)) (.int kk i) v).run P w = .ok () { w with heap := w.heap.setIfInBounds b (mapO kk (mput i v l)) } := by
 have h0 := findNow_ents kk i l 0 0
 have hf : (Instr.findKey kt (.int kk i) (ents kk 0 l)).run P w = .ok (mfind i 0 l) w := run_findKey hT.key h0
 unfold Instr.mapUpdate
 simp only [Sem.run_bind, run_underlying hT.map, Result.andThen_ok, run_getObj_o hb, run_checkKey hT.key (isKey_int kk i), hf]
 cases hm : mfind i 0 l with
 | none =>
  obtain ⟨h1, h2⟩ := mput_none (v := v) (kk := kk) (s := 0) hm
  simp only [run_setObj_o _ hb]
  unfold mapO
  rw [h1, h2]
  simp
 | some x =>
  obtain ⟨p, u⟩ := x
  obtain ⟨h1, h2, c, h3⟩ := mput_some (v := v) (kk := kk) (s := 0) (p := p) (q := 0) (by rw [hm, Nat.zero_add])
  have hk : ((((ents kk 0 l).toArray[p]?).map (·.key)).getD (Value.int kk i)) = .int kk i := by simp [h3]
  have hkeep : (Instr.keyThatStays (.int kk i) (.int kk i)).run P w = .ok (.int kk i) w := by simp [Instr.keyThatStays, Instr.sameBits]
  simp only [hk, hkeep, Sem.run_bind, Result.andThen_ok, run_setObj_o _ hb]
  unfold mapO
  rw [h1, h2]
  simp
section
variable {c : Cx} {Q : Exit → Act → World → Prop} {F F' : Fr} {K K' K0 : List Fact} {ops : Array Oper} {rest : List Oper} {d : Option Tmp} {ty : TypeId} {pos : String} {af : Array Edge} {g : Option (Nat × Bool)} {k fuel t nf : Nat} {pend : List (Nat × Oper)} {listed : Array Bool} {bs : List Bool} {fl : List Fl} {op : Op}
theorem Sat.newObj {S : List Nat} {w0 w : World} (h : Sat S w0 K w) (o : Obj) (ho : o.isCells = false) : Sat S w0 (.obj w.heap.size o :: K) (w.alloc o) :=
 h.add (L := [_]) (Sat.one (Chg.of_ext ((Below.refl _ _).alloc (Nat.le_refl _) _)) (by simp [Fact.foot]) (fun b hb => by simp [Fact.foot] at hb; subst hb; exact .inr (Nat.le_refl _)) ⟨(heap_alloc w o).1, ho⟩)
theorem TL.mm {T : TypeId} {kk : IntKind} (h : ∀ b, TL c ops Q rest ((t, .map (some b)) :: F) (.obj b (mapO kk []) :: K)) (hd : Nat.blt t c.n = true := by rfl) : TL c ops Q (⟨some t, .makeMap T none, ty, pos, af, none⟩ :: rest) F K := fun a w hF hK =>
 wpList_plain rfl fun Z hZ => by
  have hr : (execOp a.eval ⟨some t, .makeMap T none, ty, pos, af, none⟩).run c.P w = .ok (.value (.map (some w.heap.size))) (w.alloc (.map #[] 0)) := by
   simp [execOp, run_makeMap]
  unfold Oper.wp
  rw [hr]
  exact hZ _ _ (h _ _ _ (hF.put hd _) (hK.newObj _ rfl))
theorem TL.mu {m x y : Operand} {T kt et : TypeId} {kk : IntKind} {b : Nat} {i : Int} {v : Value} {l : List (Int × Value)} (hT : MapT c.P T kt et kk) (h : TL c ops Q rest F (.obj b (mapO kk (mput i v l)) :: K')) (hm : ev F m = some (.map (some b)) := by rfl) (hx : ev F x = some (.int kk i) := by rfl) (hy : ev F y = some v := by rfl)
    (hp : Pick K (.obj b (mapO kk l)) K' := by repeat (first | exact Pick.hd | apply Pick.tl)) : TL c ops Q (⟨none, .mapUpdate T m x y, ty, pos, af, none⟩ :: rest) F K := fun a w hF hK => by
  have hs := hK.pick hp
  have hb : w.heap[b]? = some (mapO kk l) := (hs.holds (.obj b (mapO kk l)) (by simp)).1
  have hr := run_mapUpdate_o (i := i) (v := v) hT hb
  refine wpList_skip rfl (w' := { w with heap := w.heap.setIfInBounds b (mapO kk (mput i v l)) }) ?_ (h a _ hF (hs.turn ?_ (by simp [Fact.foot]) (fun q hq => .inl hq) ⟨(heap_set hb).1, rfl⟩))
  · simp [execOp, hF.evl hm, hF.evl hx, hF.evl hy, hr]
  · exact ⟨rfl, rfl, rfl, by simp, fun q _ hq => (heap_set hb).2 q (by simpa [Fact.foot] using hq)⟩
theorem Pu.lk {x y : Operand} {T kt et : TypeId} {kk : IntKind} {b : Nat} {i : Int} {z : Value} {l : List (Int × Value)} (hT : MapT c.P T kt et kk) (hz : ∀ w, (zeroValue et).run c.P w = .ok z w) (hx : ev F x = some (.map (some b)) := by rfl) (hy : ev F y = some (.int kk i) := by rfl)
    (hp : Pick K (.obj b (mapO kk l)) K' := by repeat (first | exact Pick.hd | apply Pick.tl)) : Pu c F K ⟨d, .lookup T x y true, ty, pos, af, g⟩ (.tuple #[(mlook i l).getD z, .bool (mlook i l).isSome]) := fun a w hF hK => by
  have hb : w.heap[b]? = some (mapO kk l) := (hK.holds _ hp.mem).1
  have hr := run_lookup_o (i := i) hT hb (hz w) true
  simp [execOp, hF.evl hx, hF.evl hy, hr]
end
end Go.Proofs.YtbenhafhklfhmaaGreat
namespace Go.Proofs.YtbenhafhklfhmaaGreat
set_option linter.all false
set_option linter.unusedVariables false
set_option linter.unusedSimpArgs false
open Go.RowKit
theorem flat_take {sz : Nat} {f : Nat → Nat → Value} : ∀ {n m : Nat}, m ≤ n → (flat sz n f).take (m * sz) = flat sz m f
  | 0, m, h => by
    have : m = 0 := by omega
    subst this
    simp [flat]
  | n + 1, m, h => by
    by_cases hm : m = n + 1
    · subst hm
      exact List.take_of_length_le (by rw [flat_length]; exact Nat.le_refl _)
    · rw [flat_succ, List.take_append_of_le_length (by rw [flat_length]; exact Nat.mul_le_mul_right sz (by omega))]
      exact flat_take (by omega)
theorem own_feet {A : Option Addr} {n m cp : Nat} {E : TypeId} {sz : Nat} {r s : Nat → List Value} {K : List Fact} : feet (.own A n cp E sz r :: K) = feet (.own A m cp E sz s :: K) := by
 cases A <;> rfl
theorem OwnR.take {w : World} {A : Option Addr} {n m cp : Nat} {E : TypeId} {sz : Nat} {r : Nat → List Value} (h : OwnR w A n cp E sz r) (hm : m ≤ n) : OwnR w A m cp E sz r := by
 refine ⟨?_, fun i hi => h.len i (by omega)⟩
 rcases h.own.2 with ⟨e, h0⟩ | ⟨g, cap, cur, e, hg, hh, hnc, hcm, hcs, ht⟩
 · injection e with e1 e2 e3
   subst e1 e2 e3
   have : m = 0 := by omega
   subst this
   exact h.own
 · injection e with e1 e2 e3
   subst e1 e3
   refine ⟨by simp [flat_length], .inr ⟨g, cp, cur, rfl, hg, hh, by omega, hcm, hcs, ?_⟩⟩
   have h2 : (cur.toList.take (n * sz)).take (m * sz) = (flat sz n (rowF r)).take (m * sz) := by rw [ht]
   rw [List.take_take, Nat.min_eq_left (Nat.mul_le_mul_right sz hm)] at h2
   rw [h2]
   exact flat_take hm
theorem KSub.drop {φ : Fact} : ∀ {K L : List Fact}, KSub K L → KSub (φ :: K) L
 | _, _, .nil => .nil
 | _, _, .nilOwn h => .nilOwn (KSub.drop h)
 | _, _, .cons hp h => .cons (.tl hp) (KSub.drop h)
 | _, _, .own hp hr h => .own (.tl hp) hr (KSub.drop h)
 | _, _, .ofBlk hp h1 h2 h3 h4 h => .ofBlk (.tl hp) h1 h2 h3 h4 (KSub.drop h)
section
variable {c : Cx} {Q : Exit → Act → World → Prop} {F F' : Fr} {K K' K0 : List Fact} {ops : Array Oper} {rest : List Oper} {d : Option Tmp} {ty : TypeId} {pos : String} {af : Array Edge} {g : Option (Nat × Bool)} {t : Nat}
theorem Pu.sh {T E : TypeId} {sz bytes : Nat} {x y : Operand} {A : Option Addr} {n cp q : Nat} {i : Int} (hT : ElemT c.P T E sz bytes) (hx : ev F x = some (.slice A n cp) := by rfl) (hy : ev F y = some (.int .i64 i) := by rfl) (hk : i.toNat = q := by first | exact tnS _ | exact Int.toNat_natCast _ | rfl) (h0 : 0 ≤ i := by omega) (h1 : i ≤ cp := by omega) : Pu c F K ⟨d, .slice T x none (some y) none, ty, pos, af, g⟩ (.slice A q cp) := fun a w hF _ => by
 obtain ⟨i', z, hi, hz, hs, hb, hzs⟩ := hT.hi
 have hsz : (sizeOf E).run c.P w = .ok sz w := by simp [sizeOf, typeInfo, hi, hs]
 have hA : A.map (fun x => x.add 0) = A := by
  cases A with
  | none => rfl
  | some p => simp [Addr.add]
 subst hk
 simp [execOp, Instr.sliceAt, Instr.slice, hF.evl hx, hF.evl hy, run_underlying hT.ht, Instr.sliceBounds, Instr.sliceBound, asIntOf, h0, h1, hsz, hA]
theorem TL.take {A : Option Addr} {n m cp : Nat} {E : TypeId} {sz : Nat} {r : Nat → List Value} (hp : Pick K (.own A n cp E sz r) K') (hm : m ≤ n) (h : TL c ops Q rest F (.own A m cp E sz r :: K')) : TL c ops Q rest F K := fun a w hF hK => by
 have hs := hK.pick hp
 have hb : OwnR w A n cp E sz r := hs.holds (.own A n cp E sz r) (by simp)
 refine h a w hF ⟨hs.chg, by rw [own_feet]; exact hs.nd, by rw [own_feet]; exact hs.ge, fun φ hφ => ?_⟩
 rcases List.mem_cons.1 hφ with rfl | hφ
 · exact hb.take hm
 · exact hs.holds φ (by simp [hφ])
theorem made_flat {z : Array Value} {sz : Nat} (hz : z.size = sz) (hp : 0 < sz) (n : Nat) : (madeCells z (n * sz)).toList = flat sz n (rowF fun _ => z.toList) := by
 refine List.ext_getElem (by simp [madeCells, flat_length]) fun q h1 h2 => ?_
 have hq : q < n * sz := by simpa [flat_length] using h2
 have hdiv : q / sz < n := Nat.div_lt_of_lt_mul (by rw [Nat.mul_comm]; exact hq)
 have hmod : q % sz < sz := Nat.mod_lt _ hp
 have hg := flat_get (f := rowF fun _ => z.toList) hdiv hmod
 rw [Nat.mul_comm (q / sz), Nat.div_add_mod] at hg
 have h3 : (flat sz n (rowF fun _ => z.toList))[q]? = some ((flat sz n (rowF fun _ => z.toList))[q]) := List.getElem?_eq_getElem h2
 rw [hg] at h3
 injection h3 with h3
 rw [← h3]
 subst hz
 simp [madeCells, rowF, List.getD_eq_getElem?_getD, hmod]
theorem TL.ms {T E : TypeId} {sz bytes : Nat} {x y : Operand} {i : Int} {k : Nat} {zs : List Value} {kl kc : IntKind} (hT : ElemT c.P T E sz bytes) (hZ : Zr c.P E zs) (h : ∀ b, TL c ops Q rest (fput F d (.slice (some ⟨b, 0, none⟩) k k)) (.own (some ⟨b, 0, none⟩) k k E sz (fun _ => zs) :: K)) (hx : ev F x = some (.int kl i) := by rfl) (hy : ev F y = some (.int kc i) := by rfl) (hk : i.toNat = k := by first | exact Int.toNat_natCast _ | rfl) (h0 : 0 ≤ i := by omega) (h1 : i ≤ 1000000000 := by omega) (hby : bytes ≤ 10000 := by decide) (hd : dok d c.n = true := by rfl) :
    TL c ops Q (⟨d, .makeSlice T x y, ty, pos, af, none⟩ :: rest) F K := fun a w hF hK =>
  wpList_plain rfl fun Z hZ' => by
    subst hk
    obtain ⟨i', z, hi, hz, hs, hb, hzs⟩ := hT.hi
    obtain ⟨k, rfl⟩ : ∃ k : Nat, i = (k : Int) := ⟨i.toNat, by omega⟩
    simp only [Int.toNat_natCast] at *
    have hkb : bytes * k ≤ 10000 * 1000000000 := Nat.mul_le_mul hby (by omega)
    obtain ⟨w', hr, hown, hgr⟩ := run_make_full (P := c.P) w 0 T E i' z sz hT.ht hi hz hs kl kc k (by rw [hb]; omega) (by simp only [maxLen]; omega) (Nat.zero_le _)
    have hr2 : (execOp a.eval ⟨d, .makeSlice T x y, ty, pos, af, none⟩).run c.P w = .ok (.value (.slice (some ⟨w.heap.size, 0, none⟩) k k)) w' := by
      simp only [execOp, hF.evl hx, hF.evl hy, Sem.run_bind, hr, Result.andThen_ok, Sem.run_pure]
    unfold Oper.wp
    rw [hr2]
    have hzc : z.cells.toList = zs := by
      obtain ⟨z', h2, h3⟩ := hZ
      have h4 := h3 w
      simp [zeroValue, typeInfo, hi, hz] at h4
      rw [h4, h2]
    refine hZ' _ _ (h _ _ _ (hF.fput hd _) ?_)
    have hO : OwnR w' (some ⟨w.heap.size, 0, none⟩) k k E sz (fun _ => zs) := by
      refine ⟨?_, fun q _ => by rw [← hzc]; simpa using hzs⟩
      have := hown
      rw [made_flat hzs hT.pos, hzc] at this
      exact this
    exact hK.add (L := [_]) (Sat.one (Chg.grown hgr) (by simp [Fact.foot]) (fun b hb => by simp [Fact.foot] at hb; subst hb; exact .inr (Nat.le_refl _)) hO)
end
end Go.Proofs.YtbenhafhklfhmaaGreat
namespace Go.Proofs.YtbenhafhklfhmaaGreat
set_option linter.all false
set_option linter.unusedVariables false
set_option linter.unusedSimpArgs false
open Go.RowKit
theorem ty_i3 : (Tryz.prog.info? 3).map (fun i => (i.zero, i.size, i.bytes)) = some (some (.int .i64 0), 1, 8) := by kernel_rfl
theorem ty_sz3 : Sz Tryz.prog 3 1 := fun w => by obtain ⟨i, h1, h2, h3, h4⟩ := info_parts ty_i3; simp [sizeOf, typeInfo, h1, h3]
theorem ty_zr3 : Zr Tryz.prog 3 [.int .i64 0] := ⟨.int .i64 0, rfl, fun w => by obtain ⟨i, h1, h2, h3, h4⟩ := info_parts ty_i3; simp [zeroValue, typeInfo, h1, h2]⟩
theorem ty_sc3 : Sc Tryz.prog 3 := fun w => by simp [isAgg, run_underlying Tryz.underlying3]
theorem ty_i4 : (Tryz.prog.info? 4).map (fun i => (i.zero, i.size, i.bytes)) = some (some (.bool false), 1, 1) := by kernel_rfl
theorem ty_sz4 : Sz Tryz.prog 4 1 := fun w => by obtain ⟨i, h1, h2, h3, h4⟩ := info_parts ty_i4; simp [sizeOf, typeInfo, h1, h3]
theorem ty_zr4 : Zr Tryz.prog 4 [.bool false] := ⟨.bool false, rfl, fun w => by obtain ⟨i, h1, h2, h3, h4⟩ := info_parts ty_i4; simp [zeroValue, typeInfo, h1, h2]⟩
theorem ty_sc4 : Sc Tryz.prog 4 := fun w => by simp [isAgg, run_underlying Tryz.underlying4]
theorem ty_i22 : (Tryz.prog.info? 22).map (fun i => (i.zero, i.size, i.bytes)) = some (some (.slice none 0 0), 1, 24) := by kernel_rfl
theorem ty_sz22 : Sz Tryz.prog 22 1 := fun w => by obtain ⟨i, h1, h2, h3, h4⟩ := info_parts ty_i22; simp [sizeOf, typeInfo, h1, h3]
theorem ty_sc22 : Sc Tryz.prog 22 := fun w => by simp [isAgg, run_underlying Tryz.underlying22]
theorem ty_i24 : (Tryz.prog.info? 24).map (fun i => (i.zero, i.size, i.bytes)) = some (some (.slice none 0 0), 1, 24) := by kernel_rfl
theorem ty_sz24 : Sz Tryz.prog 24 1 := fun w => by obtain ⟨i, h1, h2, h3, h4⟩ := info_parts ty_i24; simp [sizeOf, typeInfo, h1, h3]
theorem ty_sc24 : Sc Tryz.prog 24 := fun w => by simp [isAgg, run_underlying Tryz.underlying24]
theorem ty_i25 : (Tryz.prog.info? 25).map (fun i => (i.zero, i.size, i.bytes)) = some (some (.int .u32 0), 1, 4) := by kernel_rfl
theorem ty_sc25 : Sc Tryz.prog 25 := fun w => by simp [isAgg, run_underlying Tryz.underlying25]
theorem ty_i28 : (Tryz.prog.info? 28).map (fun i => (i.zero, i.size, i.bytes)) = some (some (.slice none 0 0), 1, 24) := by kernel_rfl
theorem ty_sz28 : Sz Tryz.prog 28 1 := fun w => by obtain ⟨i, h1, h2, h3, h4⟩ := info_parts ty_i28; simp [sizeOf, typeInfo, h1, h3]
theorem ty_zr28 : Zr Tryz.prog 28 [.slice none 0 0] := ⟨.slice none 0 0, rfl, fun w => by obtain ⟨i, h1, h2, h3, h4⟩ := info_parts ty_i28; simp [zeroValue, typeInfo, h1, h2]⟩
theorem ty_sc28 : Sc Tryz.prog 28 := fun w => by simp [isAgg, run_underlying Tryz.underlying28]
theorem ty_i31 : (Tryz.prog.info? 31).map (fun i => (i.zero, i.size, i.bytes)) = some (some (.slice none 0 0), 1, 24) := by kernel_rfl
theorem ty_sz31 : Sz Tryz.prog 31 1 := fun w => by obtain ⟨i, h1, h2, h3, h4⟩ := info_parts ty_i31; simp [sizeOf, typeInfo, h1, h3]
theorem ty_zr31 : Zr Tryz.prog 31 [.slice none 0 0] := ⟨.slice none 0 0, rfl, fun w => by obtain ⟨i, h1, h2, h3, h4⟩ := info_parts ty_i31; simp [zeroValue, typeInfo, h1, h2]⟩
theorem ty_sc31 : Sc Tryz.prog 31 := fun w => by simp [isAgg, run_underlying Tryz.underlying31]
theorem ty_i32 : (Tryz.prog.info? 32).map (fun i => (i.zero, i.size, i.bytes)) = some (some (.int .i64 0), 1, 8) := by kernel_rfl
theorem ty_sz32 : Sz Tryz.prog 32 1 := fun w => by obtain ⟨i, h1, h2, h3, h4⟩ := info_parts ty_i32; simp [sizeOf, typeInfo, h1, h3]
theorem ty_zr32 : Zr Tryz.prog 32 [.int .i64 0] := ⟨.int .i64 0, rfl, fun w => by obtain ⟨i, h1, h2, h3, h4⟩ := info_parts ty_i32; simp [zeroValue, typeInfo, h1, h2]⟩
theorem ty_sc32 : Sc Tryz.prog 32 := fun w => by simp [isAgg, run_underlying Tryz.underlying32]
theorem ty_i36 : (Tryz.prog.info? 36).map (fun i => (i.zero, i.size, i.bytes)) = some (some (.agg #[.int .i64 0, .int .i64 0]), 2, 16) := by kernel_rfl
theorem ty_sz36 : Sz Tryz.prog 36 2 := fun w => by obtain ⟨i, h1, h2, h3, h4⟩ := info_parts ty_i36; simp [sizeOf, typeInfo, h1, h3]
theorem ty_zr36 : Zr Tryz.prog 36 [.int .i64 0, .int .i64 0] := ⟨.agg #[.int .i64 0, .int .i64 0], rfl, fun w => by obtain ⟨i, h1, h2, h3, h4⟩ := info_parts ty_i36; simp [zeroValue, typeInfo, h1, h2]⟩
theorem ty_ag36 : Ag Tryz.prog 36 2 := ⟨fun w => by simp [isAgg, run_underlying Tryz.underlying36], ty_sz36⟩
theorem ty_fa36_0 : FieldAt Tryz.prog 36 0 0 := fieldAt_of 0 0 3 1 Tryz.underlying36 (by kernel_rfl) ty_sz3 (by kernel_rfl)
theorem ty_fa36_1 : FieldAt Tryz.prog 36 1 1 := fieldAt_of 1 1 3 1 Tryz.underlying36 (by kernel_rfl) ty_sz3 (by kernel_rfl)
theorem ty_sc37 : Sc Tryz.prog 37 := fun w => by simp [isAgg, run_underlying Tryz.underlying37]
theorem ty_sc38 : Sc Tryz.prog 38 := fun w => by simp [isAgg, run_underlying Tryz.underlying38]
theorem ty_i39 : (Tryz.prog.info? 39).map (fun i => (i.zero, i.size, i.bytes)) = some (some (.map none), 1, 8) := by kernel_rfl
theorem ty_sz39 : Sz Tryz.prog 39 1 := fun w => by obtain ⟨i, h1, h2, h3, h4⟩ := info_parts ty_i39; simp [sizeOf, typeInfo, h1, h3]
theorem ty_sc39 : Sc Tryz.prog 39 := fun w => by simp [isAgg, run_underlying Tryz.underlying39]
theorem ty_i42 : (Tryz.prog.info? 42).map (fun i => (i.zero, i.size, i.bytes)) = some (some (.agg #[.slice none 0 0, .int .i64 0, .int .i64 0, .int .i64 0]), 4, 48) := by kernel_rfl
theorem ty_sz42 : Sz Tryz.prog 42 4 := fun w => by obtain ⟨i, h1, h2, h3, h4⟩ := info_parts ty_i42; simp [sizeOf, typeInfo, h1, h3]
theorem ty_zr42 : Zr Tryz.prog 42 [.slice none 0 0, .int .i64 0, .int .i64 0, .int .i64 0] := ⟨.agg #[.slice none 0 0, .int .i64 0, .int .i64 0, .int .i64 0], rfl, fun w => by obtain ⟨i, h1, h2, h3, h4⟩ := info_parts ty_i42; simp [zeroValue, typeInfo, h1, h2]⟩
theorem ty_ag42 : Ag Tryz.prog 42 4 := ⟨fun w => by simp [isAgg, run_underlying Tryz.underlying42], ty_sz42⟩
theorem ty_fa42_0 : FieldAt Tryz.prog 42 0 0 := fieldAt_of 0 0 24 1 Tryz.underlying42 (by kernel_rfl) ty_sz24 (by kernel_rfl)
theorem ty_fa42_1 : FieldAt Tryz.prog 42 1 1 := fieldAt_of 1 1 3 1 Tryz.underlying42 (by kernel_rfl) ty_sz3 (by kernel_rfl)
theorem ty_fa42_2 : FieldAt Tryz.prog 42 2 2 := fieldAt_of 2 2 36 2 Tryz.underlying42 (by kernel_rfl) ty_sz36 (by kernel_rfl)
theorem ty_i44 : (Tryz.prog.info? 44).map (fun i => (i.zero, i.size, i.bytes)) = some (some (.slice none 0 0), 1, 24) := by kernel_rfl
theorem ty_sz44 : Sz Tryz.prog 44 1 := fun w => by obtain ⟨i, h1, h2, h3, h4⟩ := info_parts ty_i44; simp [sizeOf, typeInfo, h1, h3]
theorem ty_sc44 : Sc Tryz.prog 44 := fun w => by simp [isAgg, run_underlying Tryz.underlying44]
theorem ty_i46 : (Tryz.prog.info? 46).map (fun i => (i.zero, i.size, i.bytes)) = some (some (.agg #[.int .i64 0, .int .i64 0, .int .i64 0, .int .i64 0, .slice none 0 0]), 5, 56) := by kernel_rfl
theorem ty_sz46 : Sz Tryz.prog 46 5 := fun w => by obtain ⟨i, h1, h2, h3, h4⟩ := info_parts ty_i46; simp [sizeOf, typeInfo, h1, h3]
theorem ty_zr46 : Zr Tryz.prog 46 [.int .i64 0, .int .i64 0, .int .i64 0, .int .i64 0, .slice none 0 0] := ⟨.agg #[.int .i64 0, .int .i64 0, .int .i64 0, .int .i64 0, .slice none 0 0], rfl, fun w => by obtain ⟨i, h1, h2, h3, h4⟩ := info_parts ty_i46; simp [zeroValue, typeInfo, h1, h2]⟩
theorem ty_ag46 : Ag Tryz.prog 46 5 := ⟨fun w => by simp [isAgg, run_underlying Tryz.underlying46], ty_sz46⟩
theorem ty_fa46_0 : FieldAt Tryz.prog 46 0 0 := fieldAt_of 0 0 3 1 Tryz.underlying46 (by kernel_rfl) ty_sz3 (by kernel_rfl)
theorem ty_fa46_1 : FieldAt Tryz.prog 46 1 1 := fieldAt_of 1 1 3 1 Tryz.underlying46 (by kernel_rfl) ty_sz3 (by kernel_rfl)
theorem ty_fa46_2 : FieldAt Tryz.prog 46 2 2 := fieldAt_of 2 2 36 2 Tryz.underlying46 (by kernel_rfl) ty_sz36 (by kernel_rfl)
theorem ty_fa46_3 : FieldAt Tryz.prog 46 3 4 := fieldAt_of 3 4 44 1 Tryz.underlying46 (by kernel_rfl) ty_sz44 (by kernel_rfl)
theorem ty_i51 : (Tryz.prog.info? 51).map (fun i => (i.zero, i.size, i.bytes)) = some (some (.agg #[.int .i64 0, .int .i64 0]), 2, 16) := by kernel_rfl
theorem ty_sz51 : Sz Tryz.prog 51 2 := fun w => by obtain ⟨i, h1, h2, h3, h4⟩ := info_parts ty_i51; simp [sizeOf, typeInfo, h1, h3]
theorem ty_zr51 : Zr Tryz.prog 51 [.int .i64 0, .int .i64 0] := ⟨.agg #[.int .i64 0, .int .i64 0], rfl, fun w => by obtain ⟨i, h1, h2, h3, h4⟩ := info_parts ty_i51; simp [zeroValue, typeInfo, h1, h2]⟩
theorem ty_ag51 : Ag Tryz.prog 51 2 := ⟨fun w => by simp [isAgg, run_underlying Tryz.underlying51], ty_sz51⟩
theorem ty_fa51_0 : FieldAt Tryz.prog 51 0 0 := fieldAt_of 0 0 3 1 Tryz.underlying51 (by kernel_rfl) ty_sz3 (by kernel_rfl)
theorem ty_fa51_1 : FieldAt Tryz.prog 51 1 1 := fieldAt_of 1 1 3 1 Tryz.underlying51 (by kernel_rfl) ty_sz3 (by kernel_rfl)
theorem ty_i52 : (Tryz.prog.info? 52).map (fun i => (i.zero, i.size, i.bytes)) = some (some (.slice none 0 0), 1, 24) := by kernel_rfl
theorem ty_sz52 : Sz Tryz.prog 52 1 := fun w => by obtain ⟨i, h1, h2, h3, h4⟩ := info_parts ty_i52; simp [sizeOf, typeInfo, h1, h3]
theorem ty_zr52 : Zr Tryz.prog 52 [.slice none 0 0] := ⟨.slice none 0 0, rfl, fun w => by obtain ⟨i, h1, h2, h3, h4⟩ := info_parts ty_i52; simp [zeroValue, typeInfo, h1, h2]⟩
theorem ty_sc52 : Sc Tryz.prog 52 := fun w => by simp [isAgg, run_underlying Tryz.underlying52]
theorem ty_i71 : (Tryz.prog.info? 71).map (fun i => (i.zero, i.size, i.bytes)) = some (some (.agg #[.int .i64 0, .int .i64 0, .int .i64 0, .int .i64 0, .int .i64 0, .int .i64 0, .int .i64 0, .int .i64 0, .int .i64 0, .int .i64 0, .int .i64 0, .int .i64 0, .int .i64 0, .int .i64 0]), 14, 112) := by kernel_rfl
theorem ty_sz71 : Sz Tryz.prog 71 14 := fun w => by obtain ⟨i, h1, h2, h3, h4⟩ := info_parts ty_i71; simp [sizeOf, typeInfo, h1, h3]
theorem ty_zr71 : Zr Tryz.prog 71 [.int .i64 0, .int .i64 0, .int .i64 0, .int .i64 0, .int .i64 0, .int .i64 0, .int .i64 0, .int .i64 0, .int .i64 0, .int .i64 0, .int .i64 0, .int .i64 0, .int .i64 0, .int .i64 0] := ⟨.agg #[.int .i64 0, .int .i64 0, .int .i64 0, .int .i64 0, .int .i64 0, .int .i64 0, .int .i64 0, .int .i64 0, .int .i64 0, .int .i64 0, .int .i64 0, .int .i64 0, .int .i64 0, .int .i64 0], rfl, fun w => by obtain ⟨i, h1, h2, h3, h4⟩ := info_parts ty_i71; simp [zeroValue, typeInfo, h1, h2]⟩
theorem ty_ag71 : Ag Tryz.prog 71 14 := ⟨fun w => by simp [isAgg, run_underlying Tryz.underlying71], ty_sz71⟩
theorem ty_fa71_3 : FieldAt Tryz.prog 71 3 6 := fieldAt_of 3 6 36 2 Tryz.underlying71 (by kernel_rfl) ty_sz36 (by kernel_rfl)
theorem ty_i87 : (Tryz.prog.info? 87).map (fun i => (i.zero, i.size, i.bytes)) = some (some (.agg #[.int .i64 0, .int .i64 0]), 2, 16) := by kernel_rfl
theorem ty_sz87 : Sz Tryz.prog 87 2 := fun w => by obtain ⟨i, h1, h2, h3, h4⟩ := info_parts ty_i87; simp [sizeOf, typeInfo, h1, h3]
theorem ty_zr87 : Zr Tryz.prog 87 [.int .i64 0, .int .i64 0] := ⟨.agg #[.int .i64 0, .int .i64 0], rfl, fun w => by obtain ⟨i, h1, h2, h3, h4⟩ := info_parts ty_i87; simp [zeroValue, typeInfo, h1, h2]⟩
theorem ty_ag87 : Ag Tryz.prog 87 2 := ⟨fun w => by simp [isAgg, run_underlying Tryz.underlying87], ty_sz87⟩
theorem ty_fa87_0 : FieldAt Tryz.prog 87 0 0 := fieldAt_of 0 0 3 1 Tryz.underlying87 (by kernel_rfl) ty_sz3 (by kernel_rfl)
theorem ty_fa87_1 : FieldAt Tryz.prog 87 1 1 := fieldAt_of 1 1 3 1 Tryz.underlying87 (by kernel_rfl) ty_sz3 (by kernel_rfl)
theorem ty_i96 : (Tryz.prog.info? 96).map (fun i => (i.zero, i.size, i.bytes)) = some (some (.pointer none), 1, 8) := by kernel_rfl
theorem ty_sz96 : Sz Tryz.prog 96 1 := fun w => by obtain ⟨i, h1, h2, h3, h4⟩ := info_parts ty_i96; simp [sizeOf, typeInfo, h1, h3]
theorem ty_zr96 : Zr Tryz.prog 96 [.pointer none] := ⟨.pointer none, rfl, fun w => by obtain ⟨i, h1, h2, h3, h4⟩ := info_parts ty_i96; simp [zeroValue, typeInfo, h1, h2]⟩
theorem ty_sc96 : Sc Tryz.prog 96 := fun w => by simp [isAgg, run_underlying Tryz.underlying96]
theorem ty_i100 : (Tryz.prog.info? 100).map (fun i => (i.zero, i.size, i.bytes)) = some (some (.nilFunc), 1, 8) := by kernel_rfl
theorem ty_sz100 : Sz Tryz.prog 100 1 := fun w => by obtain ⟨i, h1, h2, h3, h4⟩ := info_parts ty_i100; simp [sizeOf, typeInfo, h1, h3]
theorem ty_zr100 : Zr Tryz.prog 100 [.nilFunc] := ⟨.nilFunc, rfl, fun w => by obtain ⟨i, h1, h2, h3, h4⟩ := info_parts ty_i100; simp [zeroValue, typeInfo, h1, h2]⟩
theorem ty_sc100 : Sc Tryz.prog 100 := fun w => by simp [isAgg, run_underlying Tryz.underlying100]
theorem ty_i104 : (Tryz.prog.info? 104).map (fun i => (i.zero, i.size, i.bytes)) = some (some (.slice none 0 0), 1, 24) := by kernel_rfl
theorem ty_sz104 : Sz Tryz.prog 104 1 := fun w => by obtain ⟨i, h1, h2, h3, h4⟩ := info_parts ty_i104; simp [sizeOf, typeInfo, h1, h3]
theorem ty_sc104 : Sc Tryz.prog 104 := fun w => by simp [isAgg, run_underlying Tryz.underlying104]
theorem ty_fa106_0 : FieldAt Tryz.prog 106 0 0 := fieldAt_of 0 0 22 1 Tryz.underlying106 (by kernel_rfl) ty_sz22 (by kernel_rfl)
theorem ty_fa106_1 : FieldAt Tryz.prog 106 1 1 := fieldAt_of 1 1 39 1 Tryz.underlying106 (by kernel_rfl) ty_sz39 (by kernel_rfl)
theorem ty_fa106_2 : FieldAt Tryz.prog 106 2 2 := fieldAt_of 2 2 28 1 Tryz.underlying106 (by kernel_rfl) ty_sz28 (by kernel_rfl)
theorem ty_fa106_3 : FieldAt Tryz.prog 106 3 3 := fieldAt_of 3 3 104 1 Tryz.underlying106 (by kernel_rfl) ty_sz104 (by kernel_rfl)
theorem ty_i107 : (Tryz.prog.info? 107).map (fun i => (i.zero, i.size, i.bytes)) = some (some (.nilFunc), 1, 8) := by kernel_rfl
theorem ty_sz107 : Sz Tryz.prog 107 1 := fun w => by obtain ⟨i, h1, h2, h3, h4⟩ := info_parts ty_i107; simp [sizeOf, typeInfo, h1, h3]
theorem ty_zr107 : Zr Tryz.prog 107 [.nilFunc] := ⟨.nilFunc, rfl, fun w => by obtain ⟨i, h1, h2, h3, h4⟩ := info_parts ty_i107; simp [zeroValue, typeInfo, h1, h2]⟩
theorem ty_sc107 : Sc Tryz.prog 107 := fun w => by simp [isAgg, run_underlying Tryz.underlying107]
theorem ty_i111 : (Tryz.prog.info? 111).map (fun i => (i.zero, i.size, i.bytes)) = some (some (.agg #[.int .i64 0, .int .i64 0, .int .i64 0, .int .i64 0, .int .i64 0, .int .i64 0, .int .i64 0, .int .i64 0]), 8, 64) := by kernel_rfl
theorem ty_sz111 : Sz Tryz.prog 111 8 := fun w => by obtain ⟨i, h1, h2, h3, h4⟩ := info_parts ty_i111; simp [sizeOf, typeInfo, h1, h3]
theorem ty_zr111 : Zr Tryz.prog 111 [.int .i64 0, .int .i64 0, .int .i64 0, .int .i64 0, .int .i64 0, .int .i64 0, .int .i64 0, .int .i64 0] := ⟨.agg #[.int .i64 0, .int .i64 0, .int .i64 0, .int .i64 0, .int .i64 0, .int .i64 0, .int .i64 0, .int .i64 0], rfl, fun w => by obtain ⟨i, h1, h2, h3, h4⟩ := info_parts ty_i111; simp [zeroValue, typeInfo, h1, h2]⟩
theorem ty_ag111 : Ag Tryz.prog 111 8 := ⟨fun w => by simp [isAgg, run_underlying Tryz.underlying111], ty_sz111⟩
theorem ty_et22 : ElemT Tryz.prog 22 46 5 56 := elemT (z := .agg #[.int .i64 0, .int .i64 0, .int .i64 0, .int .i64 0, .slice none 0 0]) Tryz.underlying22 ty_i46 rfl (by decide)
theorem ty_et24 : ElemT Tryz.prog 24 25 1 4 := elemT (z := .int .u32 0) Tryz.underlying24 ty_i25 rfl (by decide)
theorem ty_et28 : ElemT Tryz.prog 28 3 1 8 := elemT (z := .int .i64 0) Tryz.underlying28 ty_i3 rfl (by decide)
theorem ty_et31 : ElemT Tryz.prog 31 36 2 16 := elemT (z := .agg #[.int .i64 0, .int .i64 0]) Tryz.underlying31 ty_i36 rfl (by decide)
theorem ty_et37 : ElemT Tryz.prog 37 42 4 48 := elemT (z := .agg #[.slice none 0 0, .int .i64 0, .int .i64 0, .int .i64 0]) Tryz.underlying37 ty_i42 rfl (by decide)
theorem ty_et38 : ElemT Tryz.prog 38 51 2 16 := elemT (z := .agg #[.int .i64 0, .int .i64 0]) Tryz.underlying38 ty_i51 rfl (by decide)
theorem ty_et44 : ElemT Tryz.prog 44 87 2 16 := elemT (z := .agg #[.int .i64 0, .int .i64 0]) Tryz.underlying44 ty_i87 rfl (by decide)
theorem ty_et52 : ElemT Tryz.prog 52 28 1 24 := elemT (z := .slice none 0 0) Tryz.underlying52 ty_i28 rfl (by decide)
theorem ty_et69 : ElemT Tryz.prog 69 71 14 112 := elemT (z := .agg #[.int .i64 0, .int .i64 0, .int .i64 0, .int .i64 0, .int .i64 0, .int .i64 0, .int .i64 0, .int .i64 0, .int .i64 0, .int .i64 0, .int .i64 0, .int .i64 0, .int .i64 0, .int .i64 0]) Tryz.underlying69 ty_i71 rfl (by decide)
theorem ty_et104 : ElemT Tryz.prog 104 111 8 64 := elemT (z := .agg #[.int .i64 0, .int .i64 0, .int .i64 0, .int .i64 0, .int .i64 0, .int .i64 0, .int .i64 0, .int .i64 0]) Tryz.underlying104 ty_i111 rfl (by decide)
theorem ty_mp39 : MapT Tryz.prog 39 3 3 .i64 := ⟨Tryz.underlying39, Tryz.underlying3⟩
theorem ty_zv3 : ∀ w, (zeroValue 3).run Tryz.prog w = .ok (.int .i64 0) w := fun w => by obtain ⟨i, h1, h2, h3, h4⟩ := info_parts ty_i3; simp [zeroValue, typeInfo, h1, h2]
end Go.Proofs.YtbenhafhklfhmaaGreat
namespace Go.Proofs.YtbenhafhklfhmaaGreat
set_option linter.all false
set_option linter.unusedVariables false
set_option linter.unusedSimpArgs false
open Go.RowKit
set_option maxHeartbeats 400000 in
theorem indexFunc_int (A : Option Addr) (n c : Nat) (f : Nat → Nat → Value) (g : FuncId) (caps : Array Value) (w : World) (p : Nat → Bool) (h : Rd w 1 A n f) (hn : n ≤ 9223372036854775807) (hg : Enters Tryz.prog g)
    (hp : ∀ i, i < n → ∀ w1, Below w.heap.size w w1 → Calls Tryz.prog g (#[f i 0] ++ caps) w1 (Ret w1 (.bool (p i)))) :
    Calls Tryz.prog 108 #[.slice A n c, .func (.func g) #[] caps] w fun e w' => ∃ r : Int, e = .returned (.int .i64 r) ∧ decide (0 ≤ r) = anyB n p ∧ Below w.heap.size w w' := by
  have H := hid hp
  clear hp
  unfold Enters at hg
  have HR := hid h
  clear h
  go_enter Tryz.func108, Tryz.ntmps108
  go_wp2
  go_loopw [5, 8] (fun _ i wr => ∃ k : Nat, k ≤ n ∧ i = .int .i64 k ∧ Below w.heap.size w wr ∧ ∀ j, j < k → p j = false) (fun _ i _ => n - (intOf i).toNat)
  case atStart => exact ⟨0, by omega, rfl, Below.refl _ _, fun j hj => by omega⟩
  case round =>
    obtain ⟨k, hk, rfl, hbel, hall⟩ := hrel
    have Hall := hid hall
    clear hall
    by_cases hlt : k < n
    · have i1 : (0 : Int) ≤ (k : Int) := by omega
      have i2 : (k : Int) < (n : Int) := by omega
      obtain ⟨b, off, rfl, cB, cA⟩ := HR.out.atn hlt hbel
      have c0 : wr.cell? ⟨b, off + k, none⟩ = some (f k 0) := by simpa using cA 0 (by omega)
      clear cA
      cases hpk : p k
      all_goals
        have Hpk := hid hpk
        clear hpk
        go_wp2_with fail
        refine (H.out k hlt _ hbel).mono ?_
        rintro e w2 ⟨rfl, hb2⟩
        rw [Hpk.out]
        go_wp2
      · go_roundw
        case rel => exact ⟨k + 1, by omega, by go_num, hbel.trans (hb2.mono hbel.size), fun j hj => by
            by_cases hjk : j = k
            · subst hjk; exact Hpk.out
            · exact Hall.out j (by omega)⟩
        case measure => simp [intOf]; omega
      · go_ret
        refine ⟨k, rfl, ?_, hbel.trans (hb2.mono hbel.size)⟩
        have : anyB n p = true := anyB_iff.2 ⟨k, hlt, Hpk.out⟩
        rw [this]; simp
    · go_wp2
      go_ret
      refine ⟨-1, rfl, ?_, hbel⟩
      have : anyB n p = false := anyB_false.2 fun i hi => Hall.out i (by omega)
      rw [this]; simp
set_option maxHeartbeats 400000 in
theorem containsFunc_int (A : Option Addr) (n c : Nat) (f : Nat → Nat → Value) (g : FuncId) (caps : Array Value) (w : World) (p : Nat → Bool) (h : Rd w 1 A n f) (hn : n ≤ 9223372036854775807) (hg : Enters Tryz.prog g)
  (hp : ∀ i, i < n → ∀ w1, Below w.heap.size w w1 → Calls Tryz.prog g (#[f i 0] ++ caps) w1 (Ret w1 (.bool (p i)))) :
  Calls Tryz.prog 85 #[.slice A n c, .func (.func g) #[] caps] w (Ret w (.bool (anyB n p))) := by
 have HI := hid (indexFunc_int A n c f g caps w p h hn hg hp)
 clear hp h hg
 go_enter Tryz.func85, Tryz.ntmps85
 go_wp2_with fail
 refine HI.out.mono ?_
 rintro e w1 ⟨r, rfl, hr, hb⟩
 have Hr := hid hr
 clear hr
 go_wp2
 go_ret
 exact ⟨ret_bool Hr.out.symm, hb⟩
set_option maxHeartbeats 400000 in
theorem indexFunc_span (A : Option Addr) (n c : Nat) (f : Nat → Nat → Value) (g : FuncId) (caps : Array Value) (w : World) (p : Nat → Bool) (h : Rd w 2 A n f) (hn : n ≤ 9223372036854775807) (hg : Enters Tryz.prog g)
    (hp : ∀ i, i < n → ∀ w1, Below w.heap.size w w1 → Calls Tryz.prog g (#[.agg #[f i 0, f i 1]] ++ caps) w1 (Ret w1 (.bool (p i)))) :
    Calls Tryz.prog 114 #[.slice A n c, .func (.func g) #[] caps] w fun e w' => ∃ r : Int, e = .returned (.int .i64 r) ∧ decide (0 ≤ r) = anyB n p ∧ Below w.heap.size w w' := by
  have H := hid hp
  clear hp
  unfold Enters at hg
  have HR := hid h
  clear h
  go_enter Tryz.func114, Tryz.ntmps114
  go_wp2
  go_loopw [5, 8] (fun _ i wr => ∃ k : Nat, k ≤ n ∧ i = .int .i64 k ∧ Below w.heap.size w wr ∧ ∀ j, j < k → p j = false) (fun _ i _ => n - (intOf i).toNat)
  case atStart => exact ⟨0, by omega, rfl, Below.refl _ _, fun j hj => by omega⟩
  case round =>
    obtain ⟨k, hk, rfl, hbel, hall⟩ := hrel
    have Hall := hid hall
    clear hall
    by_cases hlt : k < n
    · have i1 : (0 : Int) ≤ (k : Int) := by omega
      have i2 : (k : Int) < (n : Int) := by omega
      obtain ⟨b, off, rfl, cB, cA⟩ := HR.out.atn hlt hbel
      have c0 : wr.cell? ⟨b, off + k * 2, none⟩ = some (f k 0) := by simpa using cA 0 (by omega)
      have c1 : wr.cell? ⟨b, off + k * 2 + 1, none⟩ = some (f k 1) := by simpa using cA 1 (by omega)
      clear cA
      cases hpk : p k
      all_goals
        have Hpk := hid hpk
        clear hpk
        go_wp2_with fail
        refine (H.out k hlt _ hbel).mono ?_
        rintro e w2 ⟨rfl, hb2⟩
        rw [Hpk.out]
        go_wp2
      · go_roundw
        case rel => exact ⟨k + 1, by omega, by go_num, hbel.trans (hb2.mono hbel.size), fun j hj => by
            by_cases hjk : j = k
            · subst hjk; exact Hpk.out
            · exact Hall.out j (by omega)⟩
        case measure => simp [intOf]; omega
      · go_ret
        refine ⟨k, rfl, ?_, hbel.trans (hb2.mono hbel.size)⟩
        have : anyB n p = true := anyB_iff.2 ⟨k, hlt, Hpk.out⟩
        rw [this]; simp
    · go_wp2
      go_ret
      refine ⟨-1, rfl, ?_, hbel⟩
      have : anyB n p = false := anyB_false.2 fun i hi => Hall.out i (by omega)
      rw [this]; simp
set_option maxHeartbeats 400000 in
theorem containsFunc_span (A : Option Addr) (n c : Nat) (f : Nat → Nat → Value) (g : FuncId) (caps : Array Value) (w : World) (p : Nat → Bool) (h : Rd w 2 A n f) (hn : n ≤ 9223372036854775807) (hg : Enters Tryz.prog g)
  (hp : ∀ i, i < n → ∀ w1, Below w.heap.size w w1 → Calls Tryz.prog g (#[.agg #[f i 0, f i 1]] ++ caps) w1 (Ret w1 (.bool (p i)))) :
  Calls Tryz.prog 96 #[.slice A n c, .func (.func g) #[] caps] w (Ret w (.bool (anyB n p))) := by
 have HI := hid (indexFunc_span A n c f g caps w p h hn hg hp)
 clear hp h hg
 go_enter Tryz.func96, Tryz.ntmps96
 go_wp2_with fail
 refine HI.out.mono ?_
 rintro e w1 ⟨r, rfl, hr, hb⟩
 have Hr := hid hr
 clear hr
 go_wp2
 go_ret
 exact ⟨ret_bool Hr.out.symm, hb⟩
end Go.Proofs.YtbenhafhklfhmaaGreat
namespace Go.Proofs.YtbenhafhklfhmaaGreat
set_option linter.all false
set_option linter.unusedVariables false
set_option linter.unusedSimpArgs false
open Go.RowKit
theorem in1_any (x lo hi : Int) (p q : Addr) (w : World) (hl : w.cell? p = some (.int .i64 lo)) (hh : w.cell? q = some (.int .i64 hi)) :
   Calls Tryz.prog 86 #[.int .i64 x, .pointer (some p), .pointer (some q)] w (Ret w (.bool (decide (x < lo) || decide (hi < x)))) := by
 by_cases h1 : x < lo
 · go_enter Tryz.func86, Tryz.ntmps86
   go_wp2
   go_ret
   exact ⟨ret_bool (by simp [h1]), Below.refl _ _⟩
 · by_cases h2 : hi < x
   all_goals
    go_enter Tryz.func86, Tryz.ntmps86
    go_wp2
    go_ret
    exact ⟨ret_bool (by simp [h1, h2]), Below.refl _ _⟩
def inB (lo hi : Int) (n : Nat) (g : Nat → Int) : Bool := allB n fun i => decide (lo ≤ g i) && decide (g i ≤ hi)
theorem in_any (lo hi : Int) (A : Option Addr) (n c : Nat) (g : Nat → Int) (w : World) (h : Rd w 1 A n fun i _ => .int .i64 (g i)) (hn : n ≤ 9223372036854775807) :
   Calls Tryz.prog 48 #[.int .i64 lo, .int .i64 hi, .slice A n c] w (Ret w (.bool (inB lo hi n g))) := by
 have h2 := hid ((h.alloc (.cells #[.int .i64 lo] 3)).alloc (.cells #[.int .i64 hi] 3))
 clear h
 go_enter Tryz.func48, Tryz.ntmps48
 go_wp2_with fail
 refine (containsFunc_int A n c _ _ _ _ (fun i => decide (g i < lo) || decide (hi < g i)) h2.out hn (enters Tryz.func86 rfl rfl) ?_).mono ?_
 · intro i hi w1 hb1
   obtain ⟨hc1, hf1⟩ := bcell hb1
   exact in1_any _ _ _ _ _ _ (by rw [hc1 _ _ (by simp; omega)]; simp [go_sem]) (by rw [hc1 _ _ (by simp)]; simp [go_sem])
 rintro e w1 ⟨rfl, hb1⟩
 go_wp2
 go_ret
 refine ⟨ret_bool ?_, ?_⟩
 · rw [not_anyB]
   exact allB_congr fun i hi => by simp only [Bool.not_or, decide_not, ← Int.not_lt]
 · exact ((((Below.refl _ _).alloc (Nat.le_refl _) _).alloc (by simp) _)).trans (hb1.mono (by simp; omega))
def properB (lo hi : Int) (n : Nat) (s : Nat → Nat → Int) : Bool := allB n fun i => decide (s i 0 ≤ s i 1) && decide (lo ≤ s i 0) && decide (s i 1 ≤ hi)
theorem inB2 (lo hi : Int) (g : Nat → Int) : inB lo hi 2 g = (decide (lo ≤ g 0) && decide (g 0 ≤ hi) && (decide (lo ≤ g 1) && decide (g 1 ≤ hi))) := by
 simp [inB, allB, List.range_succ]
theorem proper1_any (a b lo hi : Int) (bp op bq oq : Nat) (w : World) (hl : w.cell? ⟨bp, op, none⟩ = some (.int .i64 lo)) (hh : w.cell? ⟨bq, oq, none⟩ = some (.int .i64 hi)) :
    Calls Tryz.prog 104 #[.agg #[.int .i64 a, .int .i64 b], .pointer (some ⟨bp, op, none⟩), .pointer (some ⟨bq, oq, none⟩)] w (Ret w (.bool !(decide (a ≤ b) && decide (lo ≤ a) && decide (b ≤ hi)))) := by
  by_cases h1 : b < a
  · go_enter Tryz.func104, Tryz.ntmps104
    go_wp2
    go_ret
    exact ⟨ret_bool (by simp [h1]), (Below.refl _ _).alloc (Nat.le_refl _) _⟩
  · have l1 := cell_lt hl
    have l2 := cell_lt hh
    go_enter Tryz.func104, Tryz.ntmps104
    go_wp2_with fail
    refine (in_any lo hi _ _ _ (fun i => if i = 0 then a else b) _ ?_ (by omega)).mono ?_
    · refine Rd.of_new (by simp) rfl fun i j hi hj => ?_
      have : i = 0 ∨ i = 1 := by omega
      rcases this with rfl | rfl <;> obtain rfl : j = 0 := by omega
      · rfl
      · rfl
    rintro e w1 ⟨rfl, hb1⟩
    go_wp2
    go_ret
    refine ⟨ret_bool ?_, ((((Below.refl _ _).alloc (Nat.le_refl _) _).alloc (by simp) _)).trans (hb1.mono (by simp; omega))⟩
    rw [inB2]
    by_cases h2 : lo ≤ a <;> by_cases h3 : b ≤ hi <;> simp [h1, h2, h3] <;> omega
end Go.Proofs.YtbenhafhklfhmaaGreat
