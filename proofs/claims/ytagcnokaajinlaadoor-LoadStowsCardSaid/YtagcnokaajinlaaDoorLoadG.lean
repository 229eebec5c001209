/-
  load: trying: the error that stopped what was done.
-/
import Derived.Test.YtagcnokaajinlaaDoorLoadF
import Derived.Recover
namespace Go.Proofs.YtagcnokaajinlaaDoor
set_option linter.all false
set_option linter.unusedVariables false
set_option linter.unusedSimpArgs false
open Go.RowKit
def errV (code : Int) : Value := .iface 31 (.int .i64 code)
/-- The chain of a panic with an error. -/
def errs (code : Int) : List PanicEntry := [{ v := errV code, recovered := false }]
set_option maxRecDepth 100000 in
theorem catch_idle (b : Nat) (w : World) :
    CallsD Tryd.prog 70 #[.pointer (some ⟨b, 0, none⟩)] .returning w fun e u' w' => e = .returned (.tuple #[]) ∧ u' = .returning ∧ w' = w := by
  refine callsD_of_wpS Tryd.func70 rfl fun c₀ cs hu => ?_
  apply wpS_seq
  apply wpS_region
  simp [wpOpsS, go_sem, recoverD, hu, Tryd.ntmps70, Exit.thenS]
  apply wpS_seq
  apply wpS_region
  simp [wpOpsS, go_sem, Exit.thenS]
  refine wpS_cond (t := false) (by simp [Act.eval, Array.replicate]) ?_
  simp only [Bool.false_eq_true, if_false]
  refine wpS_of_wp (wp_skip ?_)
  cases c₀
  simp_all [bodyPostS, results, Tryd.results70, Exit.thenS]
theorem Pu.ty {c : Cx} {F : Fr} {K : List Fact} {d : Option Tmp} {t ty : TypeId} {pos : String} {af : Array Edge} {g : Option (Nat × Bool)} {x : Operand} {xt : TypeId} {ok : Bool} {u v : Value} (h : ∀ w, (Instr.typeAssert u xt t ok).run c.P w = .ok v w) (hx : ev F x = some u := by rfl) : Pu c F K ⟨d, .typeAssert x xt t ok, ty, pos, af, g⟩ v := fun a w hF _ => by
  simp [execOp, hF.evl hx, h w]
set_option maxRecDepth 100000 in
theorem catch_yes (b : Nat) (code old : Int) (w : World) (hB : Blk w b 31 #[.int .i64 old]) :
    CallsD Tryd.prog 70 #[.pointer (some ⟨b, 0, none⟩)] (.panicking (errs code)) w fun e u' w' => e = .returned (.tuple #[]) ∧ u' = .panicking [{ v := errV code, recovered := true }] ∧ Blk w' b 31 #[.int .i64 code] ∧ Chg [b] w w' := by
  have hA : ∀ w, (Instr.typeAssert (errV code) 20 31 true).run Tryd.prog w = .ok (.tuple #[.int .i64 code, .bool true]) w := fun w => by
    unfold Instr.typeAssert errV
    simp only [Sem.run_bind, run_underlying Tryd.underlying31, Result.andThen_ok, if_true, Sem.run_pure]
  refine callsD_of_wpS Tryd.func70 rfl fun c₀ cs hu => ?_
  have hF := FS.start (n := 16) (args := [.pointer (some ⟨b, 0, none⟩)]) (by simp)
  rw [Tryd.ntmps70]
  generalize ({ tmps := _, defers := [] } : Act) = a0 at *
  have hF1 := hF.put (d := 4) rfl (errV code)
  have hF2 := hF1.put (d := 1) rfl (errV code)
  have h1 : (a0.put (some 4) (errV code)).eval (.tmp 4) = errV code := hF1.evl rfl
  apply wpS_seq
  apply wpS_region
  have h4 : 4 < a0.tmps.size := by rw [hF.size]; decide
  simp [wpOpsS, go_sem, recoverD, hu, errs, h1, h4, Exit.thenS]
  refine wpS_of_wp ?_
  have hS : Sat [b] w [.blk b 31 [.int .i64 old]] w := Sat.one (Chg.refl _ _) (by simp [Fact.foot]) (fun q hq => .inl hq) hB
  refine (show TW ⟨Tryd.prog, 16, [], [b], w⟩ _ _ _ _ from ?_) ((a0.put (some 4) (errV code)).put (some 1) (errV code)) w hF2 hS
  refine TW.seq fun Y1 hY1 => ?_
  refine TW.region ?_
  refine TL.p Pu.mv ?_
  refine TL.p Pu.bn ?_
  refine TL.nil ?_
  refine TQ.thenN (hY1 _ _ ?_)
  refine TW.condT rfl (rfl) ?_
  refine TW.seq fun Y2 hY2 => ?_
  refine TW.region ?_
  refine TL.p Pu.mv ?_
  refine TL.p (Pu.ty hA) ?_
  refine TL.p Pu.mv ?_
  refine TL.p Pu.ex ?_
  refine TL.p Pu.ex ?_
  refine TL.p Pu.as ?_
  refine TL.p Pu.as ?_
  refine TL.nil ?_
  refine TQ.thenN (hY2 _ _ ?_)
  refine TW.seq fun Y3 hY3 => ?_
  refine TW.seq fun Y4 hY4 => ?_
  refine TW.region ?_
  refine TL.p Pu.mv ?_
  refine TL.p Pu.no ?_
  refine TL.nil ?_
  refine TQ.thenN (hY4 _ _ ?_)
  refine TW.condF rfl (rfl) ?_
  refine TW.skip ?_
  refine TQ.thenN (hY3 _ _ ?_)
  refine TW.region ?_
  refine TL.p Pu.mv ?_
  first | refine TL.st ty_sz31 ?_ | refine TL.se ty_sz31 ?_
  refine TL.nil ?_
  exact fun a w hF hK => ⟨hF.dfs, .panicking [{ v := errV code, recovered := true }], rfl, .tuple #[], by simp [results, Tryd.results70], rfl, rfl, hK.holds (.blk b 31 [.int .i64 code]) (by simp), hK.chg⟩
theorem invoke_cl {P : Program} {g : FuncId} {args : List Value} (hen : Enters P g) (cs : List Value) (w : World) : (invoke (.fn (.func g) cs.toArray) args.toArray).run P w = .ok (.enter g (args ++ cs).toArray) w := by
  have h9 := hen (args ++ cs).toArray w
  simp only [invoke, List.append_toArray]
  exact h9
theorem Pick.mid : ∀ (L : List Fact) {φ : Fact} {R : List Fact}, Pick (L ++ φ :: R) φ (L ++ R)
  | [], _, _ => .hd
  | _ :: L, _, _ => .tl (Pick.mid L)
/-- Something that is done under 'trying': it ends at code 0, or panics with an error; facts M turn to L. -/
def Doing (P : Program) (g : FuncId) (args : Array Value) (M : List Fact) (X : Type) (L : X → List Fact) (code : Int) (w : World) : Prop := Calls P g args w fun e w' => ∃ x : X, Sat (feet M) w (L x) w' ∧ e = if code = 0 then .returned (.tuple #[]) else .panicked (errs code)
section
variable {c : Cx} {Q : Exit → Act → World → Prop} {F F' : Fr} {K K' K0 : List Fact} {ops : Array Oper} {rest : List Oper} {d : Option Tmp} {ty : TypeId} {pos : String} {af : Array Edge} {g : Option (Nat × Bool)}
/-- A call of something that is done. -/
theorem TL.dg {f : FuncId} {x : Operand} {xs : List Operand} {ts : Array TypeId} {us fs cs : List Value} {M : List Fact} {X : Type} {L : X → List Fact} {code : Int} (hf : ev F x = some (.func (.func f) fs.toArray cs.toArray)) (hx : evs F xs = some us) (hen : Enters c.P f) (hM : K.Perm (M ++ K'))
    (hc : ∀ w, Sat c.S c.w0 K w → Doing c.P f (fs ++ us ++ cs).toArray M X L code w) (h0 : ∀ x, code = 0 → TL c ops Q rest (fput F d (.tuple #[])) (L x ++ K')) (h1 : ∀ x, code ≠ 0 → TQ c Q (.panic (errs code)) F (L x ++ K')) (hg : gdB F ops g = some true := by rfl) (hd : dok d c.n = true := by rfl) :
    TL c ops Q (⟨d, .call { callee := .value x, args := xs.toArray, argTypes := ts }, ty, pos, af, g⟩ :: rest) F K := fun a w hF hK => by
  unfold wpList
  rw [if_pos (hF.wanted hg)]
  refine .inl ?_
  unfold Oper.wp
  rw [run_callv (hF.evl hf) (hF.evsl hx) hen rfl]
  refine Calls.mono (hc w hK) ?_
  rintro e w' ⟨x, hs, rfl⟩
  by_cases h : code = 0
  · simp only [h, if_true]
    exact h0 x h _ _ (hF.fput hd _) ((hK.perm hM).step hs)
  · simp only [h, if_false]
    exact h1 x h _ _ hF ((hK.perm hM).step hs)
end
set_option maxRecDepth 100000 in
theorem trying_any {g : FuncId} {fs cs : List Value} {M : List Fact} {X : Type} {L : X → List Fact} {code : Int} {w : World} (hen : Enters Tryd.prog g) (hM : Sat (feet M) w M w) (hg : ∀ w', Sat (feet M) w M w' → Doing Tryd.prog g (fs ++ cs).toArray M X L code w') :
    CallsK Tryd.prog 29 #[.func (.func g) fs.toArray cs.toArray] M w X (fun _ => .int .i64 code) L := by
  refine calls_of_wp_defers Tryd.func29 rfl ?_
  rw [Tryd.ntmps29]
  have hF := FS.start (n := 6) (args := [.func (.func g) fs.toArray cs.toArray]) (by simp)
  refine (show TW ⟨Tryd.prog, 6, [], feet M, w⟩ _ _ _ _ from ?_) _ w hF hM
  refine TW.seq fun Y1 hY1 => ?_
  refine TW.region ?_
  refine TL.m (Mk.al ty_zr31) ?_
  intro b1
  refine TL.nil ?_
  refine TQ.thenN (hY1 _ _ ?_)
  intro a2 w2 hF2 hK2
  refine wp_seq ?_
  refine (show TW ⟨Tryd.prog, 6, [], feet M, w⟩ _ _ _ _ from ?_) a2 w2 hF2 hK2
  refine TW.region ?_
  refine TL.p Pu.fn ?_
  intro a3 w3 hF3 hK3
  have hr : (execOp a3.eval { dst := none, op := Go.Op.defer { callee := Go.Callee.value (Go.Operand.tmp 3), args := #[], argTypes := #[] }, type := 0, pos := "load.go:33", after := #[{ on := 0, ground := Go.Ground.data }], guard := none }).run Tryd.prog w3 = .ok (.defer { target := .fn (.func 70) #[.pointer (some ⟨b1, 0, none⟩)], args := #[] }) w3 := by
    simp [execOp, resolve, hF3.evl (show ev _ (.tmp 3) = some (.func (.func 70) #[] #[.pointer (some ⟨b1, 0, none⟩)]) from rfl), Deferred.ofValue]
  refine wpList_plain rfl fun Z hZ => ?_
  unfold Oper.wp
  rw [hr]
  refine hZ _ _ ?_
  have hF4 : FS 6 [{ target := .fn (.func 70) #[.pointer (some ⟨b1, 0, none⟩)], args := #[] }] _ ({ a3 with defers := { target := .fn (.func 70) #[.pointer (some ⟨b1, 0, none⟩)], args := #[] } :: a3.defers } : Act) := ⟨hF3.size, by rw [hF3.dfs], hF3.get⟩
  refine (show TW ⟨Tryd.prog, 6, [{ target := .fn (.func 70) #[.pointer (some ⟨b1, 0, none⟩)], args := #[] }], feet M, w⟩ _ _ _ _ from ?_) _ w3 hF4 hK3
  refine TW.seq fun Y3 hY3 => ?_
  refine TW.region ?_
  refine TL.p Pu.mv ?_
  refine TL.dg (M := M) (X := X) (L := L) (code := code) (K' := [.blk b1 31 [.int .i64 0]]) rfl rfl hen (List.perm_append_comm (l₁ := [_])) (fun w hw => by
      simpa using hg w ((Has.sat ⟨[_], List.perm_append_comm (l₁ := [_])⟩ hw))) (fun x h0 => ?_) (fun x h1 => ?_)
  · refine TL.nil ?_
    refine TQ.thenN (hY3 _ _ ?_)
    refine TW.seq fun Y4 hY4 => ?_
    refine TW.region ?_
    refine TL.st (K' := L x) ty_sz31 ?_ rfl rfl rfl rfl rfl (hp := by
      have : Pick (L x ++ [.blk b1 31 [.int .i64 0]]) (.blk b1 31 [.int .i64 0]) (L x ++ []) := Pick.mid (L x)
      simpa using this)
    refine TL.nil ?_
    refine TQ.thenN (hY4 _ _ ?_)
    refine TW.ret ?_
    intro a5 w5 hF5 hK5
    show Leaves Tryd.prog _ a5.tmps _ a5.defers .returning w5
    rw [hF5.dfs]
    refine leaves_cons (f := 70) (args := #[.pointer (some ⟨b1, 0, none⟩)]) (by simp) (invoke_cl (args := []) (enters Tryd.func70 rfl rfl) [.pointer (some ⟨b1, 0, none⟩)] w5) ?_
    refine (catch_idle b1 w5).mono ?_
    rintro e u' w' ⟨rfl, rfl, rfl⟩
    refine ⟨_, RV.results (c := ⟨Tryd.prog, 6, [_], feet M, w⟩) (vs := [.int .i64 0]) Tryd.results29 (RV.c1 ty_sc31 .nil) hF5 hK5, x, by rw [h0]; rfl, Has.sat ⟨[_], List.perm_append_comm (l₁ := [_])⟩ hK5⟩
  · intro a5 w5 hF5 hK5
    have hK6 := hK5.perm (List.perm_append_comm (l₂ := [_]))
    have hB : Blk w5 b1 31 #[.int .i64 0] := hK6.holds (.blk b1 31 [.int .i64 0]) (by simp)
    show Leaves Tryd.prog _ a5.tmps _ a5.defers (.panicking (errs code)) w5
    rw [hF5.dfs]
    refine leaves_cons (f := 70) (args := #[.pointer (some ⟨b1, 0, none⟩)]) (by simp) (invoke_cl (args := []) (enters Tryd.func70 rfl rfl) [.pointer (some ⟨b1, 0, none⟩)] w5) ?_
    refine (catch_yes b1 code 0 w5 hB).mono ?_
    rintro e u' w' ⟨rfl, rfl, hB', hc⟩
    have hK7 : Sat (feet M) w (.blk b1 31 [.int .i64 code] :: L x) w' := Sat.turn (φ' := .blk b1 31 [.int .i64 code]) hK6 hc (by simp [Fact.foot]) (fun q hq => .inl hq) hB'
    refine ⟨_, RV.results (c := ⟨Tryd.prog, 6, [_], feet M, w⟩) (vs := [.int .i64 code]) Tryd.results29 (RV.c1 ty_sc31 .nil) hF5 hK7, x, rfl, Has.sat ⟨[_], List.perm_append_comm (l₁ := [_])⟩ hK7⟩
end Go.Proofs.YtagcnokaajinlaaDoor
