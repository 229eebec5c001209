/-
  Part 3 of the proof of loadTraded_holds: declarations of several texts, in build order. No condition on a program.
-/
import Derived.Test.YtljhdcclajikiaaGreatDoorTrac02
import Derived.MapKept
import Derived.Carry
import Derived.Lib.AppendZerosOnto
import Derived.Laws.OwnMore
namespace Go.Proofs.YtljhdcclajikiaaGreatDoor
set_option linter.all false
set_option linter.unusedVariables false
set_option linter.unusedSimpArgs false
open Go.RowKit
inductive Drop (F : Fr) : List Fact → List Fact → Prop
  | done {K : List Fact} : Drop F K K
  | blk {K K1 K0 : List Fact} {b o : Nat} {T : TypeId} {cs : List Value} (x : Nat) : fget F x = some (.pointer (some ⟨b, o, none⟩)) → Pick K (.blk b T cs) K1 → Drop F K1 K0 → Drop F K K0
  | own {K K1 K0 : List Fact} {A : Option Addr} {n cp sz : Nat} {E : TypeId} {r : Nat → List Value} (x : Nat) : fget F x = some (.slice A n cp) → Pick K (.own A n cp E sz r) K1 → Drop F K1 K0 → Drop F K K0
theorem KSub.refl : ∀ K : List Fact, KSub K K
  | [] => .nil
  | _ :: K => .cons .hd (KSub.refl K)
def Has (K K0 : List Fact) : Prop := ∃ R, K.Perm (K0 ++ R)
theorem Has.sat {S : List Nat} {w0 w : World} {K K0 : List Fact} (h : Has K K0) (hs : Sat S w0 K w) : Sat S w0 K0 w := by
  obtain ⟨R, hp⟩ := h
  have h1 := hs.perm hp
  refine ⟨h1.chg, (List.nodup_append.1 (feet_append K0 R ▸ h1.nd)).1, fun b hb => h1.ge b (by rw [feet_append]; simp [hb]), fun φ hφ => h1.holds φ (by simp [hφ])⟩
theorem Drop.has {F : Fr} {K K0 : List Fact} (h : Drop F K K0) : Has K K0 := by
  induction h with
  | done => exact ⟨[], by simp⟩
  | blk x _ hp _ ih => obtain ⟨R, hR⟩ := ih; exact ⟨_ :: R, hp.perm.trans ((hR.cons _).trans List.perm_middle.symm)⟩
  | own x _ hp _ ih => obtain ⟨R, hR⟩ := ih; exact ⟨_ :: R, hp.perm.trans ((hR.cons _).trans List.perm_middle.symm)⟩
inductive HasL : List Fact → List Fact → Prop
  | nil {K : List Fact} : HasL K []
  | cons {K K1 L : List Fact} {φ : Fact} : Pick K φ K1 → HasL K1 L → HasL K (φ :: L)
theorem HasL.has {K L : List Fact} (h : HasL K L) : Has K L := by
  induction h with
  | @nil K => exact ⟨K, by simp⟩
  | cons hp _ ih => obtain ⟨R, hR⟩ := ih; exact ⟨R, hp.perm.trans (hR.cons _)⟩
section
variable {c : Cx} {Q : Exit → Act → World → Prop} {F F' : Fr} {K K' K0 : List Fact} {ops : Array Oper} {rest : List Oper} {d : Option Tmp} {ty : TypeId} {pos : String} {af : Array Edge} {g : Option (Nat × Bool)} {k fuel t : Nat} {pend : List (Nat × Oper)} {listed : Array Bool} {op : Op}
def Eq2 (P : Program) (T : TypeId) : Prop := ∀ (w : World) (x y : Operand) (i j m n : Int), (do eqGuard .eql T x y (.agg #[.int .i64 i, .int .i64 j]) (.agg #[.int .i64 m, .int .i64 n]); binOp .eql T (.agg #[.int .i64 i, .int .i64 j]) (.agg #[.int .i64 m, .int .i64 n]) : Sem Value).run P w = .ok (.bool (decide (i = m) && decide (j = n))) w
theorem Pu.q2 {x y : Operand} {xt yt : TypeId} {i j m n : Int} (hT : Eq2 c.P xt) (hx : ev F x = some (.agg #[.int .i64 i, .int .i64 j]) := by rfl) (hy : ev F y = some (.agg #[.int .i64 m, .int .i64 n]) := by rfl) : Pu c F K ⟨d, .binOp .eql xt x y yt, ty, pos, af, g⟩ (.bool (decide (i = m) && decide (j = n))) := Pu.bin hx hy fun w => hT w x y i j m n
theorem Pu.qu {x y : Operand} {xt yt : TypeId} {i j : Int} (hx : ev F x = some (.int .i64 i) := by rfl) (hy : ev F y = some (.int .i64 j) := by rfl) (h0 : 0 ≤ i ∧ i ≤ 9223372036854775807 ∧ 0 < j := by omega) : Pu c F K ⟨d, .binOp .quo xt x y yt, ty, pos, af, g⟩ (.int .i64 (i / j)) := Pu.bin hx hy fun w => by
  obtain ⟨h0, h1, h2⟩ := h0
  have hj : j ≠ 0 := by omega
  have e : i.tdiv j = i / j := Int.tdiv_eq_ediv_of_nonneg h0
  have h3 : 0 ≤ i / j := Int.ediv_nonneg h0 (by omega)
  have h4 : i / j ≤ i := Int.ediv_le_self j h0
  simp only [eqGuard, binOp, Op.intDiv, hj, if_false, e, IntWalk.i64_in (i / j) (by omega)]
  rfl
theorem Pu.rm {x y : Operand} {xt yt : TypeId} {i j : Int} (hx : ev F x = some (.int .i64 i) := by rfl) (hy : ev F y = some (.int .i64 j) := by rfl) (h0 : 0 ≤ i ∧ 0 < j := by omega) : Pu c F K ⟨d, .binOp .rem xt x y yt, ty, pos, af, g⟩ (.int .i64 (i % j)) := Pu.bin hx hy fun w => by
  obtain ⟨h0, h2⟩ := h0
  have hj : j ≠ 0 := by omega
  have e : i.tmod j = i % j := Int.tmod_eq_emod_of_nonneg h0
  simp only [eqGuard, binOp, Op.intDiv, hj, if_false, e]
  rfl
def RF (c : Cx) (ops : Array Oper) (Q : Exit → Act → World → Prop) (K0 : List Fact) (k : Nat) (rest : List Oper) (pend : List (Nat × Oper)) (listed : Array Bool) (fuel : Nat) (F : Fr) (K : List Fact) : Prop :=
  ops.toList.drop k = rest → (∀ p ∈ pend, ops[p.1]? = some p.2) → Pan Q → ∀ a w, FS c.n c.D F a → Sat c.S c.w0 K w → wpAnyH c.P .any ops Q (Sat c.S c.w0 K0) fuel listed a w
theorem TW.rf {id : Nat} {l : List Oper} (hd : Drop F K K0) (h : RF c l.toArray Q K0 0 l [] (Array.replicate l.length false) l.length F K) (hm : c.P.follows .mixedOrders = true := by rfl) (hp : Pan Q := by (intro d _ _ _ _; cases d <;> exact Iff.rfl)) : TW c (.region id l.toArray true) Q F K := fun a w hF hK => by
  refine wp_region_any hm (wpAny_of_held (S := Sat c.S c.w0 K0) _ _ _ _ ?_)
  have := h rfl (fun p hp => by cases hp) hp a w.drew hF (hK.ext (keep_drew w))
  rw [List.size_toArray]
  exact this
theorem RF.head {o : Oper} (h : ops.toList.drop k = o :: rest) : ops[k]? = some o ∧ ops.toList.drop (k + 1) = rest := by
  constructor
  · have := congrArg (·[0]?) h
    simpa [List.getElem?_drop] using this
  · have := congrArg List.tail h
    simpa [List.drop_drop, Nat.add_comm] using this
def takeA (ops : Array Oper) (l : Array Bool) (i : Nat) : Bool := Region.noSelect ops && Region.free .any ops l i && (Region.ready .any ops l).contains i
theorem RF.tk {v : Value} (hp : Pu c F K0 ⟨some t, op, ty, pos, af, g⟩ v) (h : RF c ops Q K0 (k + 1) rest pend (listed.setIfInBounds k true) fuel ((t, v) :: F) K) (hh : HasL K K0 := by repeat (first | exact HasL.nil | refine HasL.cons (by repeat (first | exact Pick.hd | apply Pick.tl)) ?_)) (hk : takeA ops listed k = true := by kernel_rfl) (hg : gdB F ops g = some true := by rfl) (hd : Nat.blt t c.n = true := by rfl) :
    RF c ops Q K0 k (⟨some t, op, ty, pos, af, g⟩ :: rest) pend listed (fuel + 1) F K := fun h1 h2 h3 a w hF hK => by
  obtain ⟨e1, e2⟩ := RF.head h1
  simp only [takeA, Bool.and_eq_true] at hk
  exact wpAnyH_take e1 hk.1.1 hk.1.2 hk.2 (fun ch a w h => (h3 _ v ch a w).1 h) (.inl ⟨hF.wanted hg, fun w' hS => hp a w' hF hS⟩) (hh.has.sat hK) (h e2 h2 h3 _ w (hF.put hd v) hK)
theorem RF.ks {o : Oper} (h : RF c ops Q K0 (k + 1) rest (pend ++ [(k, o)]) listed fuel F K) : RF c ops Q K0 k (o :: rest) pend listed fuel F K := fun h1 h2 h3 a w hF hK => by
  obtain ⟨e1, e2⟩ := RF.head h1
  exact h e2 (fun p hp => by
    rcases List.mem_append.1 hp with hp | hp
    · exact h2 p hp
    · simp only [List.mem_singleton] at hp; subst hp; exact e1) h3 a w hF hK
def RG (c : Cx) (ops : Array Oper) (Q : Exit → Act → World → Prop) (K0 : List Fact) (pend : List (Nat × Oper)) (listed : Array Bool) (fuel : Nat) (F : Fr) (K : List Fact) : Prop :=
  (∀ p ∈ pend, ops[p.1]? = some p.2) → ∀ a w, FS c.n c.D F a → Sat c.S c.w0 K w → wpAnyH c.P .any ops Q (Sat c.S c.w0 K0) fuel listed a w
theorem RF.go (h : RG c ops Q K0 pend listed fuel F K) : RF c ops Q K0 k [] pend listed fuel F K := fun _ h2 _ a w hF hK => h h2 a w hF hK
theorem RG.nil (h : TQ c Q .normal F K) (hr : (Region.ready .any ops listed).isEmpty = true := by kernel_rfl) : RG c ops Q K0 [] listed fuel F K := fun _ a w hF hK => wpAnyH_done (List.isEmpty_iff.1 hr) (h a w hF hK) fuel
def nxt (Z : Act → World → Prop) (Q : Exit → Act → World → Prop) : Exit → Act → World → Prop
  | .normal, a, w => Z a w
  | e, a, w => Q e a w
theorem RG.step {i : Nat} {o : Oper} (h : ∀ Z : Act → World → Prop, (∀ F2 K2, HasL K2 K0 → RG c ops Q K0 pend (listed.setIfInBounds i true) fuel F2 K2 → TQ c (fun _ => Z) .normal F2 K2) → TL c ops (nxt Z Q) [o] F K) (hr : (Region.ready .any ops listed == [i]) = true := by kernel_rfl) : RG c ops Q K0 ((i, o) :: pend) listed (fuel + 1) F K := fun h2 a w hF hK => by
  have hr' : Region.ready .any ops listed = [i] := by simpa using hr
  refine wpAnyH_all hr' (by simp) fun j hj => ?_
  simp only [List.mem_singleton] at hj
  subst hj
  have h1 := h (fun a' w' => Sat c.S c.w0 K0 w' ∧ wpAnyH c.P .any ops Q (Sat c.S c.w0 K0) fuel (listed.setIfInBounds j true) a' w') (fun F2 K2 hh hg a' w' hF2 hK2 => ⟨hh.has.sat hK2, hg (fun p hp => h2 p (by simp [hp])) a' w' hF2 hK2⟩) a w hF hK
  unfold wpList at h1
  unfold wpOp
  simp only [h2 (j, o) (by simp)]
  split
  · rename_i hw
    rw [if_pos hw] at h1
    rcases h1 with h1 | ⟨hA, hL⟩
    · refine .inl ?_
      unfold Oper.wp at *
      generalize (execOp a.eval o).run c.P w = r at *
      cases r with
      | ok x w' =>
        cases x <;> simp only [Oper.upon] at h1 ⊢ <;> first
          | exact h1
          | exact Calls.mono h1 (fun e w'' he => by
              cases e with
              | returned v => exact he
              | panicked ch => exact he
              | outgrown => obtain ⟨x, y, z⟩ := he; exact ⟨x, y, z⟩)
          | exact Rows.mono h1 (fun _ _ he => he)
      | halt x w' => cases x <;> simp only [Oper.upon] at h1 ⊢ <;> exact h1
    · obtain ⟨x, y, z⟩ := hL
      exact .inr ⟨hA, x, y, z⟩
  · rename_i hw
    rw [if_neg hw] at h1
    exact h1
theorem TQ.nxt {Z : Act → World → Prop} (h : TQ c (fun _ => Z) .normal F K) : TQ c (nxt Z Q) .normal F K := h
end
end Go.Proofs.YtljhdcclajikiaaGreatDoor
namespace Go.Proofs.YtljhdcclajikiaaGreatDoor
set_option linter.all false
set_option linter.unusedVariables false
set_option linter.unusedSimpArgs false
open Go.RowKit
section
variable {c : Cx} {Q : Exit → Act → World → Prop} {F F' : Fr} {K K' K0 : List Fact} {ops : Array Oper} {rest : List Oper} {d : Option Tmp} {ty : TypeId} {pos : String} {af : Array Edge} {g : Option (Nat × Bool)} {k fuel t nf : Nat} {pend : List (Nat × Oper)} {listed : Array Bool} {bs : List Bool} {fl : List Fl} {op : Op}
theorem wpList_yes' {P : Program} {o : Oper} {v : Value} {a : Act} {w w' : World} (hg : Region.wanted o (yielded ops a.tmps) = true) (hr : (execOp a.eval o).run P w = .ok (.value v) w') (h : wpList P ops Q rest (a.put o.dst v) w') : wpList P ops Q (o :: rest) a w := by
  unfold wpList
  rw [if_pos hg]
  exact .inl (by unfold Oper.wp; rw [hr]; exact h)
theorem TL.gm {v : Nat → Value} {T : TypeId} {cs : List Value} (hm : Mk c F K ⟨d, op, ty, pos, af, g⟩ v T cs) (h : ∀ b, TL c ops Q rest (fput F d (v b)) (.blk b T cs :: K)) (hg : gdB F ops g = some true := by rfl) (hd : dok d c.n = true := by rfl) : TL c ops Q (⟨d, op, ty, pos, af, g⟩ :: rest) F K := fun a w hF hK =>
  wpList_yes' (hF.wanted hg) (hm a w hF hK) (h _ _ _ (hF.fput hd _) (hK.new T cs))
theorem run_callv {P : Program} {f : FuncId} {fs us cs : List Value} {w : World} {x : Operand} {xs : List Operand} {ts : Array TypeId} {o : Oper} {ρ : Operand → Value} (hf : ρ x = .func (.func f) fs.toArray cs.toArray) (hx : xs.map ρ = us) (hen : Enters P f) (ho : o.op = .call { callee := .value x, args := xs.toArray, argTypes := ts }) :
    (execOp ρ o).run P w = .ok (.enter f (fs ++ us ++ cs).toArray) w := by
  have h9 := hen (fs ++ us ++ cs).toArray w
  have e : fs.toArray ++ us.toArray ++ cs.toArray = (fs ++ us ++ cs).toArray := by simp
  simp only [execOp, ho, resolve, hf, Deferred.ofValue, List.map_toArray, hx, Sem.run_bind, Sem.run_pure, Result.andThen_ok, invoke, e]
  exact h9
theorem TL.cv {f : FuncId} {x : Operand} {xs : List Operand} {ts : Array TypeId} {us fs cs : List Value} {v : Value} (hf : ev F x = some (.func (.func f) fs.toArray cs.toArray)) (hx : evs F xs = some us) (hen : Enters c.P f) (hc : ∀ w, Sat c.S c.w0 K w → Calls c.P f (fs ++ us ++ cs).toArray w (Ret w v)) (h : TL c ops Q rest (fput F d v) K) (hg : gdB F ops g = some true := by rfl) (hd : dok d c.n = true := by rfl) :
    TL c ops Q (⟨d, .call { callee := .value x, args := xs.toArray, argTypes := ts }, ty, pos, af, g⟩ :: rest) F K := fun a w hF hK => by
  unfold wpList
  rw [if_pos (hF.wanted hg)]
  refine .inl ?_
  unfold Oper.wp
  rw [run_callv (hF.evl hf) (hF.evsl hx) hen rfl]
  refine Calls.mono (hc w hK) ?_
  rintro e w' ⟨rfl, hb⟩
  exact h _ _ (hF.fput hd _) (hK.ext hb)
theorem WK.cv {i : Nat} {f : FuncId} {x : Operand} {xs : List Operand} {ts : Array TypeId} {us fs cs : List Value} {v : Value} (hf : ev F x = some (.func (.func f) fs.toArray cs.toArray)) (hx : evs F xs = some us) (hen : Enters c.P f) (hc : ∀ w, Sat c.S c.w0 K w → Calls c.P f (fs ++ us ++ cs).toArray w (Ret w v)) (h : WK c ops Q nf fl bs pend (fput F d v) K) (hg : gdB F (frontOf ops nf) g = some true := by rfl) (hd : dok d c.n = true := by rfl) :
    WK c ops Q nf fl (false :: bs) ((i, ⟨d, .call { callee := .value x, args := xs.toArray, argTypes := ts }, ty, pos, af, g⟩) :: pend) F K :=
  WK.act fun a w' K' hF hK ho hK' => by
    refine wpOp_of ho (hF.wanted hg) ?_
    unfold Oper.wp
    rw [run_callv (hF.evl hf) (hF.evsl hx) hen rfl]
    refine Calls.mono (hc w' hK) ?_
    rintro e w'' ⟨rfl, hb⟩
    exact hK' _ [] _ _ (Sat.nil (Chg.of_ext hb)) (hF.fput hd _) h
theorem TL.cvk {f : FuncId} {x : Operand} {xs : List Operand} {ts : Array TypeId} {us fs cs : List Value} {M : List Fact} {X : Type} {val : X → Value} {L : X → List Fact} (hf : ev F x = some (.func (.func f) fs.toArray cs.toArray)) (hx : evs F xs = some us) (hen : Enters c.P f) (hM : K.Perm (M ++ K'))
    (hc : ∀ w, Sat c.S c.w0 K w → CallsK c.P f (fs ++ us ++ cs).toArray M w X val L) (h : ∀ x, TL c ops Q rest (fput F d (val x)) (L x ++ K')) (hd : dok d c.n = true := by rfl) : TL c ops Q (⟨d, .call { callee := .value x, args := xs.toArray, argTypes := ts }, ty, pos, af, none⟩ :: rest) F K := fun a w hF hK =>
  wpList_plain rfl fun Z hZ => by
    unfold Oper.wp
    rw [run_callv (hF.evl hf) (hF.evsl hx) hen rfl]
    refine Calls.mono (hc w hK) ?_
    rintro e w' ⟨x, rfl, hs⟩
    exact hZ _ _ (h x _ _ (hF.fput hd _) ((hK.perm hM).step hs))
def Try (w : World) (pan : Int → List PanicEntry) (code : Int) (v : Value) (e : Ending) (w' : World) : Prop := Below w.heap.size w w' ∧ e = if code = 0 then .returned v else .panicked (pan code)
theorem TL.ct {f : FuncId} {xs : List Operand} {ts : Array TypeId} {us : List Value} {v : Value} {pan : Int → List PanicEntry} {code : Int} (hx : evs F xs = some us) (hen : Enters c.P f) (hc : ∀ w, Sat c.S c.w0 K w → Calls c.P f us.toArray w (Try w pan code v)) (h0 : code = 0 → TL c ops Q rest (fput F d v) K) (h1 : code ≠ 0 → TQ c Q (.panic (pan code)) F K) (hg : gdB F ops g = some true := by rfl) (hd : dok d c.n = true := by rfl) :
    TL c ops Q (⟨d, .call { callee := .value (.func f), args := xs.toArray, argTypes := ts }, ty, pos, af, g⟩ :: rest) F K := fun a w hF hK => by
  unfold wpList
  rw [if_pos (hF.wanted hg)]
  refine .inl ?_
  unfold Oper.wp
  rw [run_callv (fs := []) (cs := []) (x := .func f) rfl (hF.evsl hx) hen rfl]
  rw [show ([] ++ us ++ [] : List Value) = us by simp]
  refine Calls.mono (hc w hK) ?_
  rintro e w' ⟨hb, rfl⟩
  by_cases h : code = 0
  · simp only [h, if_true]
    exact h0 h _ _ (hF.fput hd _) (hK.ext hb)
  · simp only [h, if_false]
    exact h1 h _ _ hF (hK.ext hb)
theorem TQ.thenP {Y : Act → World → Prop} {ch : List PanicEntry} (h : TQ c Q (.panic ch) F K) : TQ c (Exit.then Y Q) (.panic ch) F K := h
theorem TQ.blkP {i : Nat} {ch : List PanicEntry} (h : TQ c Q (.panic ch) F K) : TQ c (Exit.inBlock i Q) (.panic ch) F K := h
theorem TQ.nxtP {Z : Act → World → Prop} {ch : List PanicEntry} (h : TQ c Q (.panic ch) F K) : TQ c (Go.Proofs.YtljhdcclajikiaaGreatDoor.nxt Z Q) (.panic ch) F K := h
theorem TQ.pan {fn : Func} {R : Ending → World → Prop} {ch : List PanicEntry} (hD : c.D = []) (h : ∀ w, Sat c.S c.w0 K w → R (.panicked ch) w) : TQ c (bodyPost c.P fn R) (.panic ch) F K := fun a w hF hK => ⟨hF.dfs.trans hD, h w hK⟩
theorem Try.ok {w w' : World} {pan : Int → List PanicEntry} {code : Int} {v : Value} {L : List Fact} (hc : code = 0) (h : Sat [] w L w') : Try w pan code v (.returned v) w' := ⟨Chg.ext h.chg, by rw [if_pos hc]⟩
theorem Try.no {w w' : World} {pan : Int → List PanicEntry} {code : Int} {v : Value} {L : List Fact} (hc : code ≠ 0) (h : Sat [] w L w') : Try w pan code v (.panicked (pan code)) w' := ⟨Chg.ext h.chg, by rw [if_neg hc]⟩
theorem TL.pn {x : Operand} {v : Value} (hx : ev F x = some v) (hr : ∀ w, (Instr.panic v).run c.P w = .halt (.panic v) w) (h : TQ c Q (.panic [{ v, recovered := false }]) F K) : TL c ops Q (⟨d, .panic x, ty, pos, af, none⟩ :: rest) F K := fun a w hF hK =>
  wpList_plain rfl fun Z hZ => by
    unfold Oper.wp
    have e : (execOp a.eval ⟨d, .panic x, ty, pos, af, none⟩).run c.P w = .halt (.panic v) w := by
      simp only [execOp, hF.evl hx, Sem.run_bind, hr w, Result.andThen_halt]
    rw [e]
    exact h a w hF hK
def OldB (w0 : World) (b : Nat) (cs : List Value) : Prop := b < w0.heap.size ∧ ∀ j v, cs[j]? = some v → w0.cell? ⟨b, j, none⟩ = some v
theorem CellsN.ob {b off m : Nat} {cs vs : List Value} (h : OldB c.w0 b cs) (hS : Apart c.S (some ⟨b, 0, none⟩)) (hs : SubL cs off m vs) : CellsN c K (some ⟨b, off, none⟩) m vs := ⟨fun w hK => ⟨b, off, rfl, fun j v hv => by
  rw [hK.chg.cell h.1 (hS b rfl)]
  exact h.2 _ _ (hs.spec.2 j v hv)⟩, hs.spec.1⟩
theorem OldB.of_blk {w0 : World} {b : Nat} {T : TypeId} {cs : List Value} (h : Blk w0 b T cs.toArray) : OldB w0 b cs := ⟨h.lt, fun j v hv => by rw [h.cell]; simpa using hv⟩
theorem OldB.ext {w w' : World} {b : Nat} {cs : List Value} (h : OldB w b cs) (he : Below w.heap.size w w') : OldB w' b cs := ⟨Nat.lt_of_lt_of_le h.1 he.size, fun j v hv => by rw [he.cell (p := ⟨b, j, none⟩) h.1]; exact h.2 j v hv⟩
theorem OldB.sat {w w0 : World} {S : List Nat} {b : Nat} {cs : List Value} (h : OldB w0 b cs) (hs : Sat S w0 K w) (hb : b ∉ S) : OldB w b cs := ⟨Nat.lt_of_lt_of_le h.1 hs.chg.size, fun j v hv => by rw [hs.chg.cell h.1 hb]; exact h.2 j v hv⟩
theorem Pu.ldo {x : Operand} {T : TypeId} {q : Option Addr} {v : Value} (hT : Sc c.P T) (hx : ev F x = some (.pointer q) := by rfl) (hq : CellsN c K q 1 [v] := by exact CellsN.ob (by assumption) (by first | exact Apart.nil | assumption) (by repeat (first | exact SubL.nil | apply SubL.take | apply SubL.drop))) : Pu c F K ⟨d, .load T x, ty, pos, af, g⟩ v := Pu.load hx hT hq.1
theorem Pu.ldso {x : Operand} {T : TypeId} {m : Nat} {q : Option Addr} {vs : List Value} (hT : Ag c.P T m) (hx : ev F x = some (.pointer q) := by rfl) (hq : CellsN c K q m vs := by exact CellsN.ob (by assumption) (by first | exact Apart.nil | assumption) (by repeat (first | exact SubL.nil | apply SubL.take | apply SubL.drop))) : Pu c F K ⟨d, .load T x, ty, pos, af, g⟩ (.agg vs.toArray) := Pu.loads hx hT hq.1 hq.2
end
theorem Rd.chg {w w' : World} {S : List Nat} {sz n : Nat} {A : Option Addr} {f : Nat → Nat → Value} (h : Rd w sz A n f) (hc : Chg S w w') (hA : Apart S A) : Rd w' sz A n f := fun hn => by
  obtain ⟨b, o, rfl, hb, hcell⟩ := h hn
  exact ⟨b, o, rfl, Nat.lt_of_lt_of_le hb hc.size, fun i j hi hj => by rw [hc.cell hb (hA b rfl)]; exact hcell i j hi hj⟩
theorem RdR.chg {w w' : World} {S : List Nat} {sz n : Nat} {A : Option Addr} {r : Nat → List Value} (h : RdR w sz A n r) (hc : Chg S w w') (hA : Apart S A) : RdR w' sz A n r := ⟨h.rd.chg hc hA, h.len⟩
theorem RdR.sat {w w' : World} {S : List Nat} {K : List Fact} {sz n : Nat} {A : Option Addr} {r : Nat → List Value} (h : RdR w sz A n r) (hs : Sat S w K w') (hA : Apart S A) : RdR w' sz A n r := h.chg hs.chg hA
theorem RdR.sat0 {w w' : World} {S : List Nat} {K : List Fact} {sz n : Nat} {A : Option Addr} {r : Nat → List Value} (h : RdR w sz A n r) (hs : Sat S w K w') (hA : 0 < n → Apart S A) : RdR w' sz A n r :=
  ⟨fun hn => h.rd.chg hs.chg (hA hn) hn, h.len⟩
theorem RdR.apart {w : World} {S : List Nat} {sz n : Nat} {A : Option Addr} {r : Nat → List Value} (h : RdR w sz A n r) (hS : ∀ b ∈ S, w.heap.size ≤ b) (hn : 0 < n) : Apart S A := fun b hb hm => by
  obtain ⟨q, o, e, hq, _⟩ := h.rd hn
  subst e
  cases hb
  have : w.heap.size ≤ q := hS _ hm
  omega
theorem Sat.self {S : List Nat} {w0 w : World} {K : List Fact} (h : Sat S w0 K w) : Sat (feet K) w K w := ⟨Chg.refl _ _, h.nd, fun _ hb => .inl hb, h.holds⟩
theorem Sat.from {S T : List Nat} {w0 w1 w : World} {K : List Fact} (h : Sat T w1 K w) (hc : Chg S w0 w1) (hT : ∀ b ∈ T, b ∈ S ∨ w0.heap.size ≤ b) : Sat S w0 K w :=
  ⟨⟨h.chg.os.trans hc.os, h.chg.tape.trans hc.tape, h.chg.output.trans hc.output, Nat.le_trans hc.size h.chg.size, fun i hi hS => (h.chg.block i (Nat.lt_of_lt_of_le hi hc.size) (fun hm => by
      rcases hT i hm with h1 | h1
      · exact hS h1
      · omega)).trans (hc.block i hi hS)⟩, h.nd, fun b hb => by
    rcases h.ge b hb with h1 | h1
    · exact hT b h1
    · exact .inr (Nat.le_trans hc.size h1), h.holds⟩
theorem CallsK.retOf {P : Program} {f : FuncId} {args : Array Value} {w : World} {X : Type} {val : X → Value} {v : Value} (h : CallsK P f args [] w X val (fun _ => [])) (hv : ∀ x, val x = v) : Calls P f args w (Ret w v) :=
  Calls.mono h fun e w' ⟨x, he, hs⟩ => ⟨by rw [he, hv x], Chg.ext hs.chg⟩
section
variable {c : Cx} {Q : Exit → Act → World → Prop} {F F' : Fr} {K K' K0 : List Fact} {ops : Array Oper} {listed : Array Bool} {fuel : Nat}
def RGo (c : Cx) (ops : Array Oper) (Q : Exit → Act → World → Prop) (K0 : List Fact) (listed : Array Bool) (fuel : Nat) (F : Fr) (K : List Fact) (i : Nat) (o : Oper) : Prop :=
  ∀ Z : Act → World → Prop, (∀ F2 K2, HasL K2 K0 → RG c ops Q K0 [] (listed.setIfInBounds i true) fuel F2 K2 → TQ c (fun _ => Z) .normal F2 K2) → TL c ops (nxt Z Q) [o] F K
theorem RG.all {l : List Nat} (hr : Region.ready .any ops listed = l) (hne : l ≠ []) (h : ∀ i ∈ l, ∃ o, ops[i]? = some o ∧ RGo c ops Q K0 listed fuel F K i o) : RG c ops Q K0 [] listed (fuel + 1) F K := fun _ a w hF hK => by
  refine wpAnyH_all hr hne fun j hj => ?_
  obtain ⟨o, ho, h⟩ := h j hj
  have h1 := h (fun a' w' => Sat c.S c.w0 K0 w' ∧ wpAnyH c.P .any ops Q (Sat c.S c.w0 K0) fuel (listed.setIfInBounds j true) a' w') (fun F2 K2 hh hg a' w' hF2 hK2 => ⟨hh.has.sat hK2, hg (fun p hp => by cases hp) a' w' hF2 hK2⟩) a w hF hK
  unfold wpList at h1
  unfold wpOp
  simp only [ho]
  split
  · rename_i hw
    rw [if_pos hw] at h1
    rcases h1 with h1 | ⟨hA, hL⟩
    · refine .inl ?_
      unfold Oper.wp at *
      generalize (execOp a.eval o).run c.P w = r at *
      cases r with
      | ok x w' =>
        cases x <;> simp only [Oper.upon] at h1 ⊢ <;> first
          | exact h1
          | exact Calls.mono h1 (fun e w'' he => by
              cases e with
              | returned v => exact he
              | panicked ch => exact he
              | outgrown => obtain ⟨x, y, z⟩ := he; exact ⟨x, y, z⟩)
          | exact Rows.mono h1 (fun _ _ he => he)
      | halt x w' => cases x <;> simp only [Oper.upon] at h1 ⊢ <;> exact h1
    · obtain ⟨x, y, z⟩ := hL
      exact .inr ⟨hA, x, y, z⟩
  · rename_i hw
    rw [if_neg hw] at h1
    exact h1
theorem RG.a1 (i : Nat) {o : Oper} (ho : ops[i]? = some o) (h : RGo c ops Q K0 listed fuel F K i o) (hr : Region.ready .any ops listed = [i] := by kernel_rfl) : RG c ops Q K0 [] listed (fuel + 1) F K :=
  RG.all hr (by simp) fun j hj => by
    simp only [List.mem_singleton] at hj; subst hj; exact ⟨o, ho, h⟩
theorem RG.a2 (i j : Nat) {o o' : Oper} (ho : ops[i]? = some o) (ho' : ops[j]? = some o') (h : RGo c ops Q K0 listed fuel F K i o) (h' : RGo c ops Q K0 listed fuel F K j o') (hr : Region.ready .any ops listed = [i, j] := by kernel_rfl) : RG c ops Q K0 [] listed (fuel + 1) F K :=
  RG.all hr (by simp) fun k hk => by
    simp only [List.mem_cons, List.not_mem_nil, or_false] at hk
    rcases hk with rfl | rfl
    · exact ⟨o, ho, h⟩
    · exact ⟨o', ho', h'⟩
theorem RG.a3 (i j k : Nat) {o o' o'' : Oper} (ho : ops[i]? = some o) (ho' : ops[j]? = some o') (ho'' : ops[k]? = some o'') (h : RGo c ops Q K0 listed fuel F K i o) (h' : RGo c ops Q K0 listed fuel F K j o') (h'' : RGo c ops Q K0 listed fuel F K k o'') (hr : Region.ready .any ops listed = [i, j, k] := by kernel_rfl) : RG c ops Q K0 [] listed (fuel + 1) F K :=
  RG.all hr (by simp) fun k hk => by
    simp only [List.mem_cons, List.not_mem_nil, or_false] at hk
    rcases hk with rfl | rfl | rfl
    · exact ⟨o, ho, h⟩
    · exact ⟨o', ho', h'⟩
    · exact ⟨o'', ho'', h''⟩
theorem RG.tk (i : Nat) {op : Op} {ty : TypeId} {pos : String} {af : Array Edge} {g : Option (Nat × Bool)} {t : Nat} {v : Value} (ho : ops[i]? = some ⟨some t, op, ty, pos, af, g⟩) (hp : Pu c F K0 ⟨some t, op, ty, pos, af, g⟩ v) (h : RG c ops Q K0 [] (listed.setIfInBounds i true) fuel ((t, v) :: F) K) (hh : HasL K K0 := by repeat (first | exact HasL.nil | refine HasL.cons (by repeat (first | exact Pick.hd | apply Pick.tl)) ?_)) (hk : takeA ops listed i = true := by kernel_rfl) (hg : gdB F ops g = some true := by rfl) (hd : Nat.blt t c.n = true := by rfl) (hpan : Pan Q := by (intro d _ _ _ _; cases d <;> exact Iff.rfl)) :
    RG c ops Q K0 [] listed (fuel + 1) F K := fun h1 a w hF hK => by
  simp only [takeA, Bool.and_eq_true] at hk
  exact wpAnyH_take ho hk.1.1 hk.1.2 hk.2 (fun ch a w h => (hpan _ v ch a w).1 h) (.inl ⟨hF.wanted hg, fun w' hS => hp a w' hF hS⟩) (hh.has.sat hK) (h h1 _ w (hF.put hd v) hK)
theorem TW.ex0 {id : Nat} {l : List Oper} (hd : Drop F K K0) (h2 : RG c l.toArray Q K0 [] (Array.replicate l.length false) l.length F K) (hm : c.P.follows .mixedOrders = true := by rfl) : TW c (.region id l.toArray true) Q F K := fun a w hF hK => by
  refine wp_region_any hm (wpAny_of_held (S := Sat c.S c.w0 K0) _ _ _ _ ?_)
  rw [List.size_toArray]
  exact h2 (fun p hp => by cases hp) a w.drew hF (hK.ext (keep_drew w))
theorem TW.expl {id : Nat} {l : List Oper} {X : Type} (Fj : X → Fr) (Kj : X → List Fact) (hd : Drop F K K0) (h1 : ∀ x, TQ c Q .normal (Fj x) (Kj x)) (h2 : (∀ x, TQ c Q .normal (Fj x) (Kj x)) → RG c l.toArray Q K0 [] (Array.replicate l.length false) l.length F K) (hm : c.P.follows .mixedOrders = true := by rfl) : TW c (.region id l.toArray true) Q F K := TW.ex0 hd (h2 h1) hm
end
end Go.Proofs.YtljhdcclajikiaaGreatDoor
namespace Go.Proofs.YtljhdcclajikiaaGreatDoor
set_option linter.all false
set_option linter.unusedVariables false
set_option linter.unusedSimpArgs false
open Go.RowKit Go.MapKept
def ents (kk : IntKind) : Nat → List (Int × Value) → List MapEntry
  | _, [] => []
  | s, (k, v) :: l => { key := .int kk k, val := v, born := s } :: ents kk (s + 1) l
def mapO (kk : IntKind) (l : List (Int × Value)) : Obj := .map (ents kk 0 l).toArray l.length
def mlook (i : Int) : List (Int × Value) → Option Value
  | [] => none
  | (k, v) :: l => if i = k then some v else mlook i l
def mput (i : Int) (v : Value) : List (Int × Value) → List (Int × Value)
  | [] => [(i, v)]
  | (k, u) :: l => if i = k then (k, v) :: l else (k, u) :: mput i v l
def mfind (i : Int) : Nat → List (Int × Value) → Option (Nat × Value)
  | _, [] => none
  | q, (k, v) :: l => if i = k then some (q, v) else mfind i (q + 1) l
theorem findNow_ents (kk : IntKind) (i : Int) : ∀ (l : List (Int × Value)) (s q : Nat), Instr.findNow (.int kk) (.int kk i) (ents kk s l) q = some (mfind i q l)
  | [], _, _ => rfl
  | (k, v) :: l, s, q => by
    by_cases h : i = k
    · subst h; simp [ents, Instr.findNow, Instr.sameNow, mfind]
    · have hb : (i == k) = false := by simpa using h
      simp [ents, Instr.findNow, Instr.sameNow, mfind, h, hb, findNow_ents kk i l (s + 1) (q + 1)]
theorem mfind_look (i : Int) : ∀ (l : List (Int × Value)) (q : Nat), (mfind i q l).map (·.2) = mlook i l
  | [], _ => rfl
  | (k, v) :: l, q => by
    by_cases h : i = k
    · simp [mfind, mlook, h]
    · simp [mfind, mlook, h, mfind_look i l (q + 1)]
theorem ents_length (kk : IntKind) : ∀ (l : List (Int × Value)) (s : Nat), (ents kk s l).length = l.length
  | [], _ => rfl
  | (k, v) :: l, s => by simp [ents, ents_length kk l (s + 1)]
theorem mput_none {i : Int} {v : Value} {kk : IntKind} : ∀ {l : List (Int × Value)} {q s : Nat}, mfind i q l = none → ents kk s (mput i v l) = ents kk s l ++ [{ key := .int kk i, val := v, born := s + l.length }] ∧ (mput i v l).length = l.length + 1
  | [], _, _, _ => ⟨rfl, rfl⟩
  | (k, u) :: l, q, s, h => by
    by_cases hk : i = k
    · simp [mfind, hk] at h
    · simp only [mfind, hk, if_false] at h
      obtain ⟨h1, h2⟩ := mput_none (v := v) (kk := kk) (s := s + 1) h
      simp only [mput, hk, if_false, ents, h1, List.length_cons, h2, List.cons_append, and_true]
      congr 3
      all_goals simp; try omega
theorem mput_some {i : Int} {v u : Value} {kk : IntKind} : ∀ {l : List (Int × Value)} {q s p : Nat}, mfind i q l = some (q + p, u) → (ents kk s (mput i v l)) = (ents kk s l).modify p (fun e => { e with key := .int kk i, val := v }) ∧ (mput i v l).length = l.length ∧ ∃ b, (ents kk s l)[p]? = some { key := .int kk i, val := u, born := b }
  | [], _, _, _, h => by simp [mfind] at h
  | (k, u') :: l, q, s, p, h => by
    by_cases hk : i = k
    · simp [mfind, hk] at h
      obtain ⟨h1, h2⟩ := h
      subst h1 h2 hk
      exact ⟨by simp [mput, ents], by simp [mput], s, by simp [ents]⟩
    · simp only [mfind, hk, if_false] at h
      have hp : 0 < p := by
        rcases Nat.eq_zero_or_pos p with rfl | hp
        · exfalso
          have := mfind_ge h
          omega
        · exact hp
      obtain ⟨p', rfl⟩ : ∃ p', p = p' + 1 := ⟨p - 1, by omega⟩
      rw [show q + (p' + 1) = (q + 1) + p' by omega] at h
      obtain ⟨h1, h2, b, h3⟩ := mput_some (v := v) (kk := kk) (s := s + 1) h
      exact ⟨by simp [mput, hk, ents, h1], by simp [mput, hk, h2], b, by simpa [ents] using h3⟩
where
  mfind_ge {i : Int} {u : Value} : ∀ {l : List (Int × Value)} {q p : Nat}, mfind i q l = some (p, u) → q ≤ p
    | [], _, _, h => by simp [mfind] at h
    | (k, u') :: l, q, p, h => by
      by_cases hk : i = k
      · simp [mfind, hk] at h; omega
      · simp only [mfind, hk, if_false] at h
        have := mfind_ge h
        omega
structure MapT (P : Program) (T kt et : TypeId) (kk : IntKind) : Prop where
  map : P.underlying T = some (.map kt et)
  key : P.underlying kt = some (.int kk)
theorem isKey_int (kk : IntKind) (i : Int) : IsKey (.int kk) (.int kk i) := by simp [IsKey]
theorem run_getObj_o {P : Program} {w : World} {b : Nat} {kk : IntKind} {l : List (Int × Value)} (hb : w.heap[b]? = some (mapO kk l)) : (getObj b).run P w = .ok (.map (ents kk 0 l).toArray l.length) w := by
  unfold mapO at hb
  exact Go.MapKept.run_getObj_map hb
theorem run_setObj_o {P : Program} {w : World} {b : Nat} {kk : IntKind} {l : List (Int × Value)} (o : Obj) (hb : w.heap[b]? = some (mapO kk l)) : (setObj b o).run P w = .ok () { w with heap := w.heap.setIfInBounds b o } := by
  unfold mapO at hb
  exact Go.MapKept.run_setObj_map o hb
theorem run_lookup_o {P : Program} {T kt et : TypeId} {kk : IntKind} {w : World} {b : Nat} {l : List (Int × Value)} {i : Int} {z : Value} (hT : MapT P T kt et kk) (hb : w.heap[b]? = some (mapO kk l)) (hz : (zeroValue et).run P w = .ok z w) (ok : Bool) :
    (Instr.lookup T (.map (some b)) (.int kk i) ok).run P w = .ok (if ok then .tuple #[(mlook i l).getD z, .bool (mlook i l).isSome] else (mlook i l).getD z) w := by
  have h0 := findNow_ents kk i l 0 0
  have hf : (Instr.findKey kt (.int kk i) (ents kk 0 l)).run P w = .ok (mfind i 0 l) w := run_findKey hT.key h0
  have hl := mfind_look i l 0
  unfold Instr.lookup
  simp only [Sem.run_bind, run_underlying hT.map, Result.andThen_ok, run_getObj_o hb, Sem.run_pure, run_checkKey hT.key (isKey_int kk i), hf]
  cases hm : mfind i 0 l with
  | none =>
    rw [hm] at hl
    have hl' : mlook i l = none := by simpa using hl.symm
    simp [hz, hl', Result.andThen_ok]
  | some x =>
    rw [hm] at hl
    have hl' : mlook i l = some x.2 := by simpa using hl.symm
    simp [hl', Result.andThen_ok]
theorem run_mapUpdate_o {P : Program} {T kt et : TypeId} {kk : IntKind} {w : World} {b : Nat} {l : List (Int × Value)} {i : Int} {v : Value} (hT : MapT P T kt et kk) (hb : w.heap[b]? = some (mapO kk l)) :
    (Instr.mapUpdate T (.map (some b)) (.int kk i) v).run P w = .ok () { w with heap := w.heap.setIfInBounds b (mapO kk (mput i v l)) } := by
  have h0 := findNow_ents kk i l 0 0
  have hf : (Instr.findKey kt (.int kk i) (ents kk 0 l)).run P w = .ok (mfind i 0 l) w := run_findKey hT.key h0
  unfold Instr.mapUpdate
  simp only [Sem.run_bind, run_underlying hT.map, Result.andThen_ok, run_getObj_o hb, run_checkKey hT.key (isKey_int kk i), hf]
  cases hm : mfind i 0 l with
  | none =>
    obtain ⟨h1, h2⟩ := mput_none (v := v) (kk := kk) (s := 0) hm
    simp only [run_setObj_o _ hb]
    unfold mapO
    rw [h1, h2]
    simp
  | some x =>
    obtain ⟨p, u⟩ := x
    obtain ⟨h1, h2, c, h3⟩ := mput_some (v := v) (kk := kk) (s := 0) (p := p) (q := 0) (by rw [hm, Nat.zero_add])
    have hk : ((((ents kk 0 l).toArray[p]?).map (·.key)).getD (Value.int kk i)) = .int kk i := by simp [h3]
    have hkeep : (Instr.keyThatStays (.int kk i) (.int kk i)).run P w = .ok (.int kk i) w := by simp [Instr.keyThatStays, Instr.sameBits]
    simp only [hk, hkeep, Sem.run_bind, Result.andThen_ok, run_setObj_o _ hb]
    unfold mapO
    rw [h1, h2]
    simp
section
variable {c : Cx} {Q : Exit → Act → World → Prop} {F F' : Fr} {K K' K0 : List Fact} {ops : Array Oper} {rest : List Oper} {d : Option Tmp} {ty : TypeId} {pos : String} {af : Array Edge} {g : Option (Nat × Bool)} {k fuel t nf : Nat} {pend : List (Nat × Oper)} {listed : Array Bool} {bs : List Bool} {fl : List Fl} {op : Op}
theorem Sat.newObj {S : List Nat} {w0 w : World} (h : Sat S w0 K w) (o : Obj) (ho : o.isCells = false) : Sat S w0 (.obj w.heap.size o :: K) (w.alloc o) :=
  h.add (L := [_]) (Sat.one (Chg.of_ext ((Below.refl _ _).alloc (Nat.le_refl _) _)) (by simp [Fact.foot]) (fun b hb => by simp [Fact.foot] at hb; subst hb; exact .inr (Nat.le_refl _)) ⟨(heap_alloc w o).1, ho⟩)
theorem TL.mm {T : TypeId} {kk : IntKind} (h : ∀ b, TL c ops Q rest ((t, .map (some b)) :: F) (.obj b (mapO kk []) :: K)) (hd : Nat.blt t c.n = true := by rfl) : TL c ops Q (⟨some t, .makeMap T none, ty, pos, af, none⟩ :: rest) F K := fun a w hF hK =>
  wpList_plain rfl fun Z hZ => by
    have hr : (execOp a.eval ⟨some t, .makeMap T none, ty, pos, af, none⟩).run c.P w = .ok (.value (.map (some w.heap.size))) (w.alloc (.map #[] 0)) := by
      simp [execOp, run_makeMap]
    unfold Oper.wp
    rw [hr]
    exact hZ _ _ (h _ _ _ (hF.put hd _) (hK.newObj _ rfl))
theorem TL.mu {m x y : Operand} {T kt et : TypeId} {kk : IntKind} {b : Nat} {i : Int} {v : Value} {l : List (Int × Value)} (hT : MapT c.P T kt et kk) (h : TL c ops Q rest F (.obj b (mapO kk (mput i v l)) :: K')) (hm : ev F m = some (.map (some b)) := by rfl) (hx : ev F x = some (.int kk i) := by rfl) (hy : ev F y = some v := by rfl)
    (hp : Pick K (.obj b (mapO kk l)) K' := by repeat (first | exact Pick.hd | apply Pick.tl)) : TL c ops Q (⟨none, .mapUpdate T m x y, ty, pos, af, none⟩ :: rest) F K := fun a w hF hK => by
  have hs := hK.pick hp
  have hb : w.heap[b]? = some (mapO kk l) := (hs.holds (.obj b (mapO kk l)) (by simp)).1
  have hr := run_mapUpdate_o (i := i) (v := v) hT hb
  refine wpList_skip rfl (w' := { w with heap := w.heap.setIfInBounds b (mapO kk (mput i v l)) }) ?_ (h a _ hF (hs.turn ?_ (by simp [Fact.foot]) (fun q hq => .inl hq) ⟨(heap_set hb).1, rfl⟩))
  · simp [execOp, hF.evl hm, hF.evl hx, hF.evl hy, hr]
  · exact ⟨rfl, rfl, rfl, by simp, fun q _ hq => (heap_set hb).2 q (by simpa [Fact.foot] using hq)⟩
theorem TL.mi {m x y : Operand} {T kt et : TypeId} {kk : IntKind} {b : Nat} {i : Int} {v : Value} {l : List (Int × Value)} (hT : MapT c.P T kt et kk) (h : TL c ops Q rest F (.obj b (mapO kk (mput i v l)) :: K')) (hm : ev F m = some (.map (some b)) := by rfl) (hx : ev F x = some (.int kk i) := by rfl) (hy : ev F y = some v := by rfl)
    (hp : Pick K (.obj b (mapO kk l)) K' := by repeat (first | exact Pick.hd | apply Pick.tl)) : TL c ops Q (⟨none, .insert T m x y, ty, pos, af, none⟩ :: rest) F K := fun a w hF hK => by
  have hs := hK.pick hp
  have hb : w.heap[b]? = some (mapO kk l) := (hs.holds (.obj b (mapO kk l)) (by simp)).1
  have hr := run_mapUpdate_o (i := i) (v := v) hT hb
  refine wpList_skip rfl (w' := { w with heap := w.heap.setIfInBounds b (mapO kk (mput i v l)) }) ?_ (h a _ hF (hs.turn ?_ (by simp [Fact.foot]) (fun q hq => .inl hq) ⟨(heap_set hb).1, rfl⟩))
  · simp [execOp, hF.evl hm, hF.evl hx, hF.evl hy, hr]
  · exact ⟨rfl, rfl, rfl, by simp, fun q _ hq => (heap_set hb).2 q (by simpa [Fact.foot] using hq)⟩
theorem Pu.lkS {x y : Operand} {T kt et : TypeId} {kk : IntKind} {b : Nat} {i : Int} {z v : Value} {l : List (Int × Value)} (hT : MapT c.P T kt et kk) (hz : ∀ w, (zeroValue et).run c.P w = .ok z w) (hl : mlook i l = some v) (hx : ev F x = some (.map (some b)) := by rfl) (hy : ev F y = some (.int kk i) := by rfl)
    (hp : Pick K (.obj b (mapO kk l)) K' := by repeat (first | exact Pick.hd | apply Pick.tl)) : Pu c F K ⟨d, .lookup T x y true, ty, pos, af, g⟩ (.tuple #[v, .bool true]) := fun a w hF hK => by
  have hb : w.heap[b]? = some (mapO kk l) := (hK.holds _ hp.mem).1
  have hr := run_lookup_o (i := i) hT hb (hz w) true
  simp [execOp, hF.evl hx, hF.evl hy, hr, hl]
theorem Pu.lkN {x y : Operand} {T kt et : TypeId} {kk : IntKind} {b : Nat} {i : Int} {z : Value} {l : List (Int × Value)} (hT : MapT c.P T kt et kk) (hz : ∀ w, (zeroValue et).run c.P w = .ok z w) (hl : mlook i l = none) (hx : ev F x = some (.map (some b)) := by rfl) (hy : ev F y = some (.int kk i) := by rfl)
    (hp : Pick K (.obj b (mapO kk l)) K' := by repeat (first | exact Pick.hd | apply Pick.tl)) : Pu c F K ⟨d, .lookup T x y true, ty, pos, af, g⟩ (.tuple #[z, .bool false]) := fun a w hF hK => by
  have hb : w.heap[b]? = some (mapO kk l) := (hK.holds _ hp.mem).1
  have hr := run_lookup_o (i := i) hT hb (hz w) true
  simp [execOp, hF.evl hx, hF.evl hy, hr, hl]
theorem Pu.l1S {x y : Operand} {T kt et : TypeId} {kk : IntKind} {b : Nat} {i : Int} {z v : Value} {l : List (Int × Value)} (hT : MapT c.P T kt et kk) (hz : ∀ w, (zeroValue et).run c.P w = .ok z w) (hl : mlook i l = some v) (hx : ev F x = some (.map (some b)) := by rfl) (hy : ev F y = some (.int kk i) := by rfl)
    (hp : Pick K (.obj b (mapO kk l)) K' := by repeat (first | exact Pick.hd | apply Pick.tl)) : Pu c F K ⟨d, .lookup T x y false, ty, pos, af, g⟩ v := fun a w hF hK => by
  have hb : w.heap[b]? = some (mapO kk l) := (hK.holds _ hp.mem).1
  have hr := run_lookup_o (i := i) hT hb (hz w) false
  simp [execOp, hF.evl hx, hF.evl hy, hr, hl]
theorem Pu.l1 {x y : Operand} {T kt et : TypeId} {kk : IntKind} {b : Nat} {i : Int} {z : Value} {l : List (Int × Value)} (hT : MapT c.P T kt et kk) (hz : ∀ w, (zeroValue et).run c.P w = .ok z w) (hx : ev F x = some (.map (some b)) := by rfl) (hy : ev F y = some (.int kk i) := by rfl)
    (hp : Pick K (.obj b (mapO kk l)) K' := by repeat (first | exact Pick.hd | apply Pick.tl)) : Pu c F K ⟨d, .lookup T x y false, ty, pos, af, g⟩ ((mlook i l).getD z) := fun a w hF hK => by
  have hb : w.heap[b]? = some (mapO kk l) := (hK.holds _ hp.mem).1
  have hr := run_lookup_o (i := i) hT hb (hz w) false
  simp [execOp, hF.evl hx, hF.evl hy, hr]
theorem Pu.ml' {x : Operand} {T kt et : TypeId} {kk : IntKind} {b : Nat} {l : List (Int × Value)} (hT : MapT c.P T kt et kk) (hx : ev F x = some (.map (some b)) := by rfl)
    (hp : Pick K (.obj b (mapO kk l)) K' := by repeat (first | exact Pick.hd | apply Pick.tl)) : Pu c F K ⟨d, .call { callee := .builtin .len, args := #[x], argTypes := #[T] }, ty, pos, af, g⟩ (.int .i64 l.length) := fun a w hF hK => by
  have hb : w.heap[b]? = some (mapO kk l) := (hK.holds _ hp.mem).1
  have hg := run_getObj_o (P := c.P) hb
  simp [execOp, resolve, invoke, builtin, Builtin.len_, hF.evl hx, run_underlying hT.map, goInt, hg, ents_length]
end
end Go.Proofs.YtljhdcclajikiaaGreatDoor
namespace Go.Proofs.YtljhdcclajikiaaGreatDoor
set_option linter.all false
set_option linter.unusedVariables false
set_option linter.unusedSimpArgs false
open Go.RowKit
theorem flat_take {sz : Nat} {f : Nat → Nat → Value} : ∀ {n m : Nat}, m ≤ n → (flat sz n f).take (m * sz) = flat sz m f
  | 0, m, h => by
    have : m = 0 := by omega
    subst this
    simp [flat]
  | n + 1, m, h => by
    by_cases hm : m = n + 1
    · subst hm
      exact List.take_of_length_le (by rw [flat_length]; exact Nat.le_refl _)
    · rw [flat_succ, List.take_append_of_le_length (by rw [flat_length]; exact Nat.mul_le_mul_right sz (by omega))]
      exact flat_take (by omega)
theorem own_feet {A : Option Addr} {n m cp : Nat} {E : TypeId} {sz : Nat} {r s : Nat → List Value} {K : List Fact} : feet (.own A n cp E sz r :: K) = feet (.own A m cp E sz s :: K) := by
  cases A <;> rfl
theorem OwnR.take {w : World} {A : Option Addr} {n m cp : Nat} {E : TypeId} {sz : Nat} {r : Nat → List Value} (h : OwnR w A n cp E sz r) (hm : m ≤ n) : OwnR w A m cp E sz r := by
  refine ⟨?_, fun i hi => h.len i (by omega)⟩
  rcases h.own.2 with ⟨e, h0⟩ | ⟨g, cap, cur, e, hg, hh, hnc, hcm, hcs, ht⟩
  · injection e with e1 e2 e3
    subst e1 e2 e3
    have : m = 0 := by omega
    subst this
    exact h.own
  · injection e with e1 e2 e3
    subst e1 e3
    refine ⟨by simp [flat_length], .inr ⟨g, cp, cur, rfl, hg, hh, by omega, hcm, hcs, ?_⟩⟩
    have h2 : (cur.toList.take (n * sz)).take (m * sz) = (flat sz n (rowF r)).take (m * sz) := by rw [ht]
    rw [List.take_take, Nat.min_eq_left (Nat.mul_le_mul_right sz hm)] at h2
    rw [h2]
    exact flat_take hm
theorem KSub.drop {φ : Fact} : ∀ {K L : List Fact}, KSub K L → KSub (φ :: K) L
  | _, _, .nil => .nil
  | _, _, .nilOwn h => .nilOwn (KSub.drop h)
  | _, _, .cons hp h => .cons (.tl hp) (KSub.drop h)
  | _, _, .own hp hr h => .own (.tl hp) hr (KSub.drop h)
  | _, _, .ofBlk hp h1 h2 h3 h4 h => .ofBlk (.tl hp) h1 h2 h3 h4 (KSub.drop h)
section
variable {c : Cx} {Q : Exit → Act → World → Prop} {F F' : Fr} {K K' K0 : List Fact} {ops : Array Oper} {rest : List Oper} {d : Option Tmp} {ty : TypeId} {pos : String} {af : Array Edge} {g : Option (Nat × Bool)} {t : Nat}
theorem Pu.cp {T E : TypeId} {x : Operand} {A : Option Addr} {n cp : Nat} (ht : c.P.underlying T = some (.slice E)) (hx : ev F x = some (.slice A n cp) := by rfl) : Pu c F K ⟨d, .call { callee := .builtin .cap, args := #[x], argTypes := #[T] }, ty, pos, af, g⟩ (.int .i64 cp) := fun a w hF _ => by
  simp [execOp, resolve, invoke, builtin, Builtin.cap_, hF.evl hx, run_underlying ht, goInt]
theorem Pu.sh {T E : TypeId} {sz bytes : Nat} {x y : Operand} {A : Option Addr} {n cp q : Nat} {i : Int} (hT : ElemT c.P T E sz bytes) (hx : ev F x = some (.slice A n cp) := by rfl) (hy : ev F y = some (.int .i64 i) := by rfl) (hk : i.toNat = q := by first | exact tnS _ | exact Int.toNat_natCast _ | rfl) (h0 : 0 ≤ i := by omega) (h1 : i ≤ cp := by omega) : Pu c F K ⟨d, .slice T x none (some y) none, ty, pos, af, g⟩ (.slice A q cp) := fun a w hF _ => by
  obtain ⟨i', z, hi, hz, hs, hb, hzs⟩ := hT.hi
  have hsz : (sizeOf E).run c.P w = .ok sz w := by simp [sizeOf, typeInfo, hi, hs]
  have hA : A.map (fun x => x.add 0) = A := by
    cases A with
    | none => rfl
    | some p => simp [Addr.add]
  subst hk
  simp [execOp, Instr.sliceAt, Instr.slice, hF.evl hx, hF.evl hy, run_underlying hT.ht, Instr.sliceBounds, Instr.sliceBound, asIntOf, h0, h1, hsz, hA]
theorem TL.take {A : Option Addr} {n m cp : Nat} {E : TypeId} {sz : Nat} {r : Nat → List Value} (hp : Pick K (.own A n cp E sz r) K') (hm : m ≤ n) (h : TL c ops Q rest F (.own A m cp E sz r :: K')) : TL c ops Q rest F K := fun a w hF hK => by
  have hs := hK.pick hp
  have hb : OwnR w A n cp E sz r := hs.holds (.own A n cp E sz r) (by simp)
  refine h a w hF ⟨hs.chg, by rw [own_feet]; exact hs.nd, by rw [own_feet]; exact hs.ge, fun φ hφ => ?_⟩
  rcases List.mem_cons.1 hφ with rfl | hφ
  · exact hb.take hm
  · exact hs.holds φ (by simp [hφ])
theorem made_flat {z : Array Value} {sz : Nat} (hz : z.size = sz) (hp : 0 < sz) (n : Nat) : (madeCells z (n * sz)).toList = flat sz n (rowF fun _ => z.toList) := by
  refine List.ext_getElem (by simp [madeCells, flat_length]) fun q h1 h2 => ?_
  have hq : q < n * sz := by simpa [flat_length] using h2
  have hdiv : q / sz < n := Nat.div_lt_of_lt_mul (by rw [Nat.mul_comm]; exact hq)
  have hmod : q % sz < sz := Nat.mod_lt _ hp
  have hg := flat_get (f := rowF fun _ => z.toList) hdiv hmod
  rw [Nat.mul_comm (q / sz), Nat.div_add_mod] at hg
  have h3 : (flat sz n (rowF fun _ => z.toList))[q]? = some ((flat sz n (rowF fun _ => z.toList))[q]) := List.getElem?_eq_getElem h2
  rw [hg] at h3
  injection h3 with h3
  rw [← h3]
  subst hz
  simp [madeCells, rowF, List.getD_eq_getElem?_getD, hmod]
theorem TL.ms {T E : TypeId} {sz bytes : Nat} {x y : Operand} {i : Int} {k : Nat} {zs : List Value} {kl kc : IntKind} (hT : ElemT c.P T E sz bytes) (hZ : Zr c.P E zs) (h : ∀ b, TL c ops Q rest (fput F d (.slice (some ⟨b, 0, none⟩) k k)) (.own (some ⟨b, 0, none⟩) k k E sz (fun _ => zs) :: K)) (hx : ev F x = some (.int kl i) := by rfl) (hy : ev F y = some (.int kc i) := by rfl) (hk : i.toNat = k := by first | exact Int.toNat_natCast _ | rfl) (h0 : 0 ≤ i := by omega) (h1 : i ≤ 1000000000 := by omega) (hby : bytes ≤ 10000 := by decide) (hd : dok d c.n = true := by rfl) :
    TL c ops Q (⟨d, .makeSlice T x y, ty, pos, af, none⟩ :: rest) F K := fun a w hF hK =>
  wpList_plain rfl fun Z hZ' => by
    subst hk
    obtain ⟨i', z, hi, hz, hs, hb, hzs⟩ := hT.hi
    obtain ⟨k, rfl⟩ : ∃ k : Nat, i = (k : Int) := ⟨i.toNat, by omega⟩
    simp only [Int.toNat_natCast] at *
    have hkb : bytes * k ≤ 10000 * 1000000000 := Nat.mul_le_mul hby (by omega)
    obtain ⟨w', hr, hown, hgr⟩ := run_make_full (P := c.P) w 0 T E i' z sz hT.ht hi hz hs kl kc k (by rw [hb]; omega) (by simp only [maxLen]; omega) (Nat.zero_le _)
    have hr2 : (execOp a.eval ⟨d, .makeSlice T x y, ty, pos, af, none⟩).run c.P w = .ok (.value (.slice (some ⟨w.heap.size, 0, none⟩) k k)) w' := by
      simp only [execOp, hF.evl hx, hF.evl hy, Sem.run_bind, hr, Result.andThen_ok, Sem.run_pure]
    unfold Oper.wp
    rw [hr2]
    have hzc : z.cells.toList = zs := by
      obtain ⟨z', h2, h3⟩ := hZ
      have h4 := h3 w
      simp [zeroValue, typeInfo, hi, hz] at h4
      rw [h4, h2]
    refine hZ' _ _ (h _ _ _ (hF.fput hd _) ?_)
    have hO : OwnR w' (some ⟨w.heap.size, 0, none⟩) k k E sz (fun _ => zs) := by
      refine ⟨?_, fun q _ => by rw [← hzc]; simpa using hzs⟩
      have := hown
      rw [made_flat hzs hT.pos, hzc] at this
      exact this
    exact hK.add (L := [_]) (Sat.one (Chg.grown hgr) (by simp [Fact.foot]) (fun b hb => by simp [Fact.foot] at hb; subst hb; exact .inr (Nat.le_refl _)) hO)
theorem TL.mid (j : Nat) (F2 : Fr) (h1 : TL c ops Q (ops.toList.drop j) (F2 ++ F) K) (h2 : TL c ops Q (ops.toList.drop j) (F2 ++ F) K → TL c ops Q rest F K) : TL c ops Q rest F K := h2 h1
theorem TL.az {T N E : TypeId} {sz bytes : Nat} {x y : Operand} {i : Int} {k : Nat} {r : Nat → List Value} {kn : IntKind} (hT : ElemT c.P T E sz bytes) (hN : c.P.underlying N = some (.int kn)) (h : ∀ b cp, k ≤ cp → cp ≤ maxLen → TL c ops Q rest (fput F d (.slice (some ⟨b, 0, none⟩) k cp)) (.own (some ⟨b, 0, none⟩) 0 cp E sz r :: K)) (hx : ev F x = some (.slice none 0 0) := by rfl) (hy : ev F y = some (.int .i64 i) := by rfl) (hk : i.toNat = k := by first | exact tnS _ | exact Int.toNat_natCast _ | rfl) (h0 : 0 < i := by omega) (h1 : i ≤ 1000000000 := by omega) (hby : bytes ≤ 10000 := by decide) (hd : dok d c.n = true := by rfl) :
    TL c ops Q (⟨d, .call { callee := .builtin .append, args := #[x, y], argTypes := #[T, N] }, ty, pos, af, none⟩ :: rest) F K := fun a w hF hK =>
  wpList_plain rfl fun Z hZ => by
    subst hk
    obtain ⟨i', z, hi, hz, hs, hb, hzs⟩ := hT.hi
    obtain ⟨k, rfl⟩ : ∃ k : Nat, i = (k : Int) := ⟨i.toNat, by omega⟩
    have hk0 : 0 < k := by omega
    have hk1 : k ≤ 1000000000 := by omega
    have hpos := hT.pos
    have hcap := nextslicecap_zero hk0
    have hkb : k * bytes ≤ 1000000000 * 10000 := Nat.mul_le_mul hk1 hby
    have hr := Go.Lib.run_append_grow_zeros (P := c.P) w T N ty E i' z .i64 kn hT.ht hN hi hz none 0 0 [] rfl k hk0 (by omega) (by omega) (by omega) (by rw [hb]; omega) (by rw [Nat.zero_add, hcap, hb]; omega)
    simp only [Nat.zero_add] at hr
    have hr2 : (execOp a.eval ⟨d, .call { callee := .builtin .append, args := #[x, y], argTypes := #[T, N] }, ty, pos, af, none⟩).run c.P w = .ok (.value (.slice (some ⟨w.heap.size, 0, none⟩) k (grownCap w k 0 E))) (w.drew.alloc (.cells (#[] ++ Builtin.zeroCells z.cells k ++ Builtin.zeroCells z.cells (grownCap w k 0 E - k)) E)) := by
      simp only [execOp, resolve, invoke, builtin, Sem.run_bind, Sem.run_pure, Result.andThen_ok, List.map_toArray, List.map_cons, List.map_nil, hF.evl hx, hF.evl hy, hr]
    unfold Oper.wp
    rw [hr2]
    have hge := grownCap_ge w k 0 E
    have hml := grownCap_le_maxLen w k 0 E (by simp only [maxLen]; omega)
    refine hZ _ _ (h _ _ hge hml _ _ (hF.fput hd _) ?_)
    have hown : OwnR (w.drew.alloc (.cells (#[] ++ Builtin.zeroCells z.cells k ++ Builtin.zeroCells z.cells (grownCap w k 0 E - k)) E)) (some ⟨w.heap.size, 0, none⟩) 0 (grownCap w k 0 E) E sz r := ⟨World.ownsRow_made (size := sz) w.drew _ _ (Nat.zero_le _) hml (by
      simp only [Array.size_append, size_zeroCells, hzs]
      show 0 + k * sz + (grownCap w k 0 E - k) * sz = _
      rw [Nat.zero_add, ← Nat.add_mul, Nat.add_sub_cancel' hge]), fun _ h => by omega⟩
    exact (hK.ext (keep_drew w)).add (L := [_]) (Sat.one (Chg.of_ext ((Below.refl _ _).alloc (Nat.le_refl _) _)) (by simp [Fact.foot]) (fun b hb => by simp [Fact.foot] at hb; subst hb; exact .inr (Nat.le_refl _)) hown)
end
end Go.Proofs.YtljhdcclajikiaaGreatDoor
namespace Go.Proofs.YtljhdcclajikiaaGreatDoor
set_option linter.all false
set_option linter.unusedVariables false
set_option linter.unusedSimpArgs false
open Go.RowKit
theorem ty_i3 : (Tryz.prog.info? 3).map (fun i => (i.zero, i.size, i.bytes)) = some (some (.int .i64 0), 1, 8) := by kernel_rfl
theorem ty_sz3 : Sz Tryz.prog 3 1 := fun w => by obtain ⟨i, h1, h2, h3, h4⟩ := info_parts ty_i3; simp [sizeOf, typeInfo, h1, h3]
theorem ty_zr3 : Zr Tryz.prog 3 [.int .i64 0] := ⟨.int .i64 0, rfl, fun w => by obtain ⟨i, h1, h2, h3, h4⟩ := info_parts ty_i3; simp [zeroValue, typeInfo, h1, h2]⟩
theorem ty_sc3 : Sc Tryz.prog 3 := fun w => by simp [isAgg, run_underlying Tryz.underlying3]
theorem ty_i4 : (Tryz.prog.info? 4).map (fun i => (i.zero, i.size, i.bytes)) = some (some (.bool false), 1, 1) := by kernel_rfl
theorem ty_sz4 : Sz Tryz.prog 4 1 := fun w => by obtain ⟨i, h1, h2, h3, h4⟩ := info_parts ty_i4; simp [sizeOf, typeInfo, h1, h3]
theorem ty_zr4 : Zr Tryz.prog 4 [.bool false] := ⟨.bool false, rfl, fun w => by obtain ⟨i, h1, h2, h3, h4⟩ := info_parts ty_i4; simp [zeroValue, typeInfo, h1, h2]⟩
theorem ty_sc4 : Sc Tryz.prog 4 := fun w => by simp [isAgg, run_underlying Tryz.underlying4]
theorem ty_i5 : (Tryz.prog.info? 5).map (fun i => (i.zero, i.size, i.bytes)) = some (some (.int .u8 0), 1, 1) := by kernel_rfl
theorem ty_sz5 : Sz Tryz.prog 5 1 := fun w => by obtain ⟨i, h1, h2, h3, h4⟩ := info_parts ty_i5; simp [sizeOf, typeInfo, h1, h3]
theorem ty_zr5 : Zr Tryz.prog 5 [.int .u8 0] := ⟨.int .u8 0, rfl, fun w => by obtain ⟨i, h1, h2, h3, h4⟩ := info_parts ty_i5; simp [zeroValue, typeInfo, h1, h2]⟩
theorem ty_sc5 : Sc Tryz.prog 5 := fun w => by simp [isAgg, run_underlying Tryz.underlying5]
theorem ty_sc22 : Sc Tryz.prog 22 := fun w => by simp [isAgg, run_underlying Tryz.underlying22]
theorem ty_i23 : (Tryz.prog.info? 23).map (fun i => (i.zero, i.size, i.bytes)) = some (some (.slice none 0 0), 1, 24) := by kernel_rfl
theorem ty_sz23 : Sz Tryz.prog 23 1 := fun w => by obtain ⟨i, h1, h2, h3, h4⟩ := info_parts ty_i23; simp [sizeOf, typeInfo, h1, h3]
theorem ty_zr23 : Zr Tryz.prog 23 [.slice none 0 0] := ⟨.slice none 0 0, rfl, fun w => by obtain ⟨i, h1, h2, h3, h4⟩ := info_parts ty_i23; simp [zeroValue, typeInfo, h1, h2]⟩
theorem ty_sc23 : Sc Tryz.prog 23 := fun w => by simp [isAgg, run_underlying Tryz.underlying23]
theorem ty_i24 : (Tryz.prog.info? 24).map (fun i => (i.zero, i.size, i.bytes)) = some (some (.slice none 0 0), 1, 24) := by kernel_rfl
theorem ty_sz24 : Sz Tryz.prog 24 1 := fun w => by obtain ⟨i, h1, h2, h3, h4⟩ := info_parts ty_i24; simp [sizeOf, typeInfo, h1, h3]
theorem ty_zr24 : Zr Tryz.prog 24 [.slice none 0 0] := ⟨.slice none 0 0, rfl, fun w => by obtain ⟨i, h1, h2, h3, h4⟩ := info_parts ty_i24; simp [zeroValue, typeInfo, h1, h2]⟩
theorem ty_sc24 : Sc Tryz.prog 24 := fun w => by simp [isAgg, run_underlying Tryz.underlying24]
theorem ty_sc25 : Sc Tryz.prog 25 := fun w => by simp [isAgg, run_underlying Tryz.underlying25]
theorem ty_i29 : (Tryz.prog.info? 29).map (fun i => (i.zero, i.size, i.bytes)) = some (some (.int .i64 0), 1, 8) := by kernel_rfl
theorem ty_sz29 : Sz Tryz.prog 29 1 := fun w => by obtain ⟨i, h1, h2, h3, h4⟩ := info_parts ty_i29; simp [sizeOf, typeInfo, h1, h3]
theorem ty_zr29 : Zr Tryz.prog 29 [.int .i64 0] := ⟨.int .i64 0, rfl, fun w => by obtain ⟨i, h1, h2, h3, h4⟩ := info_parts ty_i29; simp [zeroValue, typeInfo, h1, h2]⟩
theorem ty_sc29 : Sc Tryz.prog 29 := fun w => by simp [isAgg, run_underlying Tryz.underlying29]
theorem ty_i34 : (Tryz.prog.info? 34).map (fun i => (i.zero, i.size, i.bytes)) = some (some (.agg #[.slice none 0 0, .slice none 0 0, .slice none 0 0]), 3, 72) := by kernel_rfl
theorem ty_sz34 : Sz Tryz.prog 34 3 := fun w => by obtain ⟨i, h1, h2, h3, h4⟩ := info_parts ty_i34; simp [sizeOf, typeInfo, h1, h3]
theorem ty_zr34 : Zr Tryz.prog 34 [.slice none 0 0, .slice none 0 0, .slice none 0 0] := ⟨.agg #[.slice none 0 0, .slice none 0 0, .slice none 0 0], rfl, fun w => by obtain ⟨i, h1, h2, h3, h4⟩ := info_parts ty_i34; simp [zeroValue, typeInfo, h1, h2]⟩
theorem ty_ag34 : Ag Tryz.prog 34 3 := ⟨fun w => by simp [isAgg, run_underlying Tryz.underlying34], ty_sz34⟩
theorem ty_fa34_0 : FieldAt Tryz.prog 34 0 0 := fieldAt_of 0 0 24 1 Tryz.underlying34 (by kernel_rfl) ty_sz24 (by kernel_rfl)
theorem ty_fa34_1 : FieldAt Tryz.prog 34 1 1 := fieldAt_of 1 1 24 1 Tryz.underlying34 (by kernel_rfl) ty_sz24 (by kernel_rfl)
theorem ty_fa34_2 : FieldAt Tryz.prog 34 2 2 := fieldAt_of 2 2 24 1 Tryz.underlying34 (by kernel_rfl) ty_sz24 (by kernel_rfl)
theorem ty_i35 : (Tryz.prog.info? 35).map (fun i => (i.zero, i.size, i.bytes)) = some (some (.agg #[.slice none 0 0, .slice none 0 0, .slice none 0 0]), 3, 72) := by kernel_rfl
theorem ty_sz35 : Sz Tryz.prog 35 3 := fun w => by obtain ⟨i, h1, h2, h3, h4⟩ := info_parts ty_i35; simp [sizeOf, typeInfo, h1, h3]
theorem ty_zr35 : Zr Tryz.prog 35 [.slice none 0 0, .slice none 0 0, .slice none 0 0] := ⟨.agg #[.slice none 0 0, .slice none 0 0, .slice none 0 0], rfl, fun w => by obtain ⟨i, h1, h2, h3, h4⟩ := info_parts ty_i35; simp [zeroValue, typeInfo, h1, h2]⟩
theorem ty_ag35 : Ag Tryz.prog 35 3 := ⟨fun w => by simp [isAgg, run_underlying Tryz.underlying35], ty_sz35⟩
theorem ty_i37 : (Tryz.prog.info? 37).map (fun i => (i.zero, i.size, i.bytes)) = some (some (.agg #[.int .i64 0, .int .i64 0, .int .u8 0]), 3, 24) := by kernel_rfl
theorem ty_sz37 : Sz Tryz.prog 37 3 := fun w => by obtain ⟨i, h1, h2, h3, h4⟩ := info_parts ty_i37; simp [sizeOf, typeInfo, h1, h3]
theorem ty_zr37 : Zr Tryz.prog 37 [.int .i64 0, .int .i64 0, .int .u8 0] := ⟨.agg #[.int .i64 0, .int .i64 0, .int .u8 0], rfl, fun w => by obtain ⟨i, h1, h2, h3, h4⟩ := info_parts ty_i37; simp [zeroValue, typeInfo, h1, h2]⟩
theorem ty_ag37 : Ag Tryz.prog 37 3 := ⟨fun w => by simp [isAgg, run_underlying Tryz.underlying37], ty_sz37⟩
theorem ty_fa37_0 : FieldAt Tryz.prog 37 0 0 := fieldAt_of 0 0 3 1 Tryz.underlying37 (by kernel_rfl) ty_sz3 (by kernel_rfl)
theorem ty_fa37_1 : FieldAt Tryz.prog 37 1 1 := fieldAt_of 1 1 3 1 Tryz.underlying37 (by kernel_rfl) ty_sz3 (by kernel_rfl)
theorem ty_fa37_2 : FieldAt Tryz.prog 37 2 2 := fieldAt_of 2 2 5 1 Tryz.underlying37 (by kernel_rfl) ty_sz5 (by kernel_rfl)
theorem ty_i47 : (Tryz.prog.info? 47).map (fun i => (i.zero, i.size, i.bytes)) = some (some (.agg #[.int .i64 0, .int .i64 0]), 2, 16) := by kernel_rfl
theorem ty_sz47 : Sz Tryz.prog 47 2 := fun w => by obtain ⟨i, h1, h2, h3, h4⟩ := info_parts ty_i47; simp [sizeOf, typeInfo, h1, h3]
theorem ty_zr47 : Zr Tryz.prog 47 [.int .i64 0, .int .i64 0] := ⟨.agg #[.int .i64 0, .int .i64 0], rfl, fun w => by obtain ⟨i, h1, h2, h3, h4⟩ := info_parts ty_i47; simp [zeroValue, typeInfo, h1, h2]⟩
theorem ty_ag47 : Ag Tryz.prog 47 2 := ⟨fun w => by simp [isAgg, run_underlying Tryz.underlying47], ty_sz47⟩
theorem ty_q2_47 : Eq2 Tryz.prog 47 := fun w x y i j m n => by
  by_cases h1 : i = m
  · by_cases h2 : j = n
    · subst h1 h2; go_simp
    · subst h1; go_simp
  · by_cases h2 : j = n
    · subst h2; go_simp
    · go_simp
theorem ty_fa47_0 : FieldAt Tryz.prog 47 0 0 := fieldAt_of 0 0 3 1 Tryz.underlying47 (by kernel_rfl) ty_sz3 (by kernel_rfl)
theorem ty_fa47_1 : FieldAt Tryz.prog 47 1 1 := fieldAt_of 1 1 3 1 Tryz.underlying47 (by kernel_rfl) ty_sz3 (by kernel_rfl)
theorem ty_i58 : (Tryz.prog.info? 58).map (fun i => (i.zero, i.size, i.bytes)) = some (some (.agg #[.int .u8 0, .int .i64 0, .int .i64 0, .int .i64 0, .int .i64 0, .int .i64 0, .int .i64 0, .int .i64 0, .int .i64 0, .int .i64 0, .int .i64 0]), 11, 88) := by kernel_rfl
theorem ty_sz58 : Sz Tryz.prog 58 11 := fun w => by obtain ⟨i, h1, h2, h3, h4⟩ := info_parts ty_i58; simp [sizeOf, typeInfo, h1, h3]
theorem ty_zr58 : Zr Tryz.prog 58 [.int .u8 0, .int .i64 0, .int .i64 0, .int .i64 0, .int .i64 0, .int .i64 0, .int .i64 0, .int .i64 0, .int .i64 0, .int .i64 0, .int .i64 0] := ⟨.agg #[.int .u8 0, .int .i64 0, .int .i64 0, .int .i64 0, .int .i64 0, .int .i64 0, .int .i64 0, .int .i64 0, .int .i64 0, .int .i64 0, .int .i64 0], rfl, fun w => by obtain ⟨i, h1, h2, h3, h4⟩ := info_parts ty_i58; simp [zeroValue, typeInfo, h1, h2]⟩
theorem ty_ag58 : Ag Tryz.prog 58 11 := ⟨fun w => by simp [isAgg, run_underlying Tryz.underlying58], ty_sz58⟩
theorem ty_fa58_0 : FieldAt Tryz.prog 58 0 0 := fieldAt_of 0 0 5 1 Tryz.underlying58 (by kernel_rfl) ty_sz5 (by kernel_rfl)
theorem ty_fa58_1 : FieldAt Tryz.prog 58 1 1 := fieldAt_of 1 1 47 2 Tryz.underlying58 (by kernel_rfl) ty_sz47 (by kernel_rfl)
theorem ty_fa58_2 : FieldAt Tryz.prog 58 2 3 := fieldAt_of 2 3 47 2 Tryz.underlying58 (by kernel_rfl) ty_sz47 (by kernel_rfl)
theorem ty_fa58_3 : FieldAt Tryz.prog 58 3 5 := fieldAt_of 3 5 47 2 Tryz.underlying58 (by kernel_rfl) ty_sz47 (by kernel_rfl)
theorem ty_fa58_4 : FieldAt Tryz.prog 58 4 7 := fieldAt_of 4 7 47 2 Tryz.underlying58 (by kernel_rfl) ty_sz47 (by kernel_rfl)
theorem ty_fa58_5 : FieldAt Tryz.prog 58 5 9 := fieldAt_of 5 9 3 1 Tryz.underlying58 (by kernel_rfl) ty_sz3 (by kernel_rfl)
theorem ty_fa58_6 : FieldAt Tryz.prog 58 6 10 := fieldAt_of 6 10 3 1 Tryz.underlying58 (by kernel_rfl) ty_sz3 (by kernel_rfl)
theorem ty_i65 : (Tryz.prog.info? 65).map (fun i => (i.zero, i.size, i.bytes)) = some (some (.agg #[.int .i64 0, .int .i64 0, .int .i64 0, .int .i64 0, .int .i64 0, .int .i64 0, .int .i64 0, .int .i64 0, .int .i64 0, .int .i64 0, .int .i64 0, .int .i64 0, .int .i64 0, .int .i64 0, .int .i64 0, .int .i64 0, .int .i64 0]), 17, 136) := by kernel_rfl
theorem ty_sz65 : Sz Tryz.prog 65 17 := fun w => by obtain ⟨i, h1, h2, h3, h4⟩ := info_parts ty_i65; simp [sizeOf, typeInfo, h1, h3]
theorem ty_zr65 : Zr Tryz.prog 65 [.int .i64 0, .int .i64 0, .int .i64 0, .int .i64 0, .int .i64 0, .int .i64 0, .int .i64 0, .int .i64 0, .int .i64 0, .int .i64 0, .int .i64 0, .int .i64 0, .int .i64 0, .int .i64 0, .int .i64 0, .int .i64 0, .int .i64 0] := ⟨.agg #[.int .i64 0, .int .i64 0, .int .i64 0, .int .i64 0, .int .i64 0, .int .i64 0, .int .i64 0, .int .i64 0, .int .i64 0, .int .i64 0, .int .i64 0, .int .i64 0, .int .i64 0, .int .i64 0, .int .i64 0, .int .i64 0, .int .i64 0], rfl, fun w => by obtain ⟨i, h1, h2, h3, h4⟩ := info_parts ty_i65; simp [zeroValue, typeInfo, h1, h2]⟩
theorem ty_ag65 : Ag Tryz.prog 65 17 := ⟨fun w => by simp [isAgg, run_underlying Tryz.underlying65], ty_sz65⟩
theorem ty_fa65_0 : FieldAt Tryz.prog 65 0 0 := fieldAt_of 0 0 3 1 Tryz.underlying65 (by kernel_rfl) ty_sz3 (by kernel_rfl)
theorem ty_fa65_1 : FieldAt Tryz.prog 65 1 1 := fieldAt_of 1 1 3 1 Tryz.underlying65 (by kernel_rfl) ty_sz3 (by kernel_rfl)
theorem ty_fa65_2 : FieldAt Tryz.prog 65 2 2 := fieldAt_of 2 2 47 2 Tryz.underlying65 (by kernel_rfl) ty_sz47 (by kernel_rfl)
theorem ty_fa65_3 : FieldAt Tryz.prog 65 3 4 := fieldAt_of 3 4 47 2 Tryz.underlying65 (by kernel_rfl) ty_sz47 (by kernel_rfl)
theorem ty_fa65_4 : FieldAt Tryz.prog 65 4 6 := fieldAt_of 4 6 47 2 Tryz.underlying65 (by kernel_rfl) ty_sz47 (by kernel_rfl)
theorem ty_fa65_5 : FieldAt Tryz.prog 65 5 8 := fieldAt_of 5 8 47 2 Tryz.underlying65 (by kernel_rfl) ty_sz47 (by kernel_rfl)
theorem ty_fa65_6 : FieldAt Tryz.prog 65 6 10 := fieldAt_of 6 10 47 2 Tryz.underlying65 (by kernel_rfl) ty_sz47 (by kernel_rfl)
theorem ty_fa65_7 : FieldAt Tryz.prog 65 7 12 := fieldAt_of 7 12 47 2 Tryz.underlying65 (by kernel_rfl) ty_sz47 (by kernel_rfl)
theorem ty_fa65_8 : FieldAt Tryz.prog 65 8 14 := fieldAt_of 8 14 3 1 Tryz.underlying65 (by kernel_rfl) ty_sz3 (by kernel_rfl)
theorem ty_fa65_9 : FieldAt Tryz.prog 65 9 15 := fieldAt_of 9 15 47 2 Tryz.underlying65 (by kernel_rfl) ty_sz47 (by kernel_rfl)
theorem ty_i67 : (Tryz.prog.info? 67).map (fun i => (i.zero, i.size, i.bytes)) = some (some (.agg #[.int .i64 0, .int .i64 0, .int .i64 0, .int .i64 0, .int .i64 0, .int .i64 0, .bool false]), 7, 56) := by kernel_rfl
theorem ty_sz67 : Sz Tryz.prog 67 7 := fun w => by obtain ⟨i, h1, h2, h3, h4⟩ := info_parts ty_i67; simp [sizeOf, typeInfo, h1, h3]
theorem ty_zr67 : Zr Tryz.prog 67 [.int .i64 0, .int .i64 0, .int .i64 0, .int .i64 0, .int .i64 0, .int .i64 0, .bool false] := ⟨.agg #[.int .i64 0, .int .i64 0, .int .i64 0, .int .i64 0, .int .i64 0, .int .i64 0, .bool false], rfl, fun w => by obtain ⟨i, h1, h2, h3, h4⟩ := info_parts ty_i67; simp [zeroValue, typeInfo, h1, h2]⟩
theorem ty_ag67 : Ag Tryz.prog 67 7 := ⟨fun w => by simp [isAgg, run_underlying Tryz.underlying67], ty_sz67⟩
theorem ty_fa67_0 : FieldAt Tryz.prog 67 0 0 := fieldAt_of 0 0 47 2 Tryz.underlying67 (by kernel_rfl) ty_sz47 (by kernel_rfl)
theorem ty_fa67_1 : FieldAt Tryz.prog 67 1 2 := fieldAt_of 1 2 47 2 Tryz.underlying67 (by kernel_rfl) ty_sz47 (by kernel_rfl)
theorem ty_fa67_2 : FieldAt Tryz.prog 67 2 4 := fieldAt_of 2 4 47 2 Tryz.underlying67 (by kernel_rfl) ty_sz47 (by kernel_rfl)
theorem ty_i81 : (Tryz.prog.info? 81).map (fun i => (i.zero, i.size, i.bytes)) = some (some (.slice none 0 0), 1, 24) := by kernel_rfl
theorem ty_sz81 : Sz Tryz.prog 81 1 := fun w => by obtain ⟨i, h1, h2, h3, h4⟩ := info_parts ty_i81; simp [sizeOf, typeInfo, h1, h3]
theorem ty_zr81 : Zr Tryz.prog 81 [.slice none 0 0] := ⟨.slice none 0 0, rfl, fun w => by obtain ⟨i, h1, h2, h3, h4⟩ := info_parts ty_i81; simp [zeroValue, typeInfo, h1, h2]⟩
theorem ty_sc81 : Sc Tryz.prog 81 := fun w => by simp [isAgg, run_underlying Tryz.underlying81]
theorem ty_i84 : (Tryz.prog.info? 84).map (fun i => (i.zero, i.size, i.bytes)) = some (some (.agg #[.slice none 0 0, .slice none 0 0, .slice none 0 0, .slice none 0 0]), 4, 96) := by kernel_rfl
theorem ty_sz84 : Sz Tryz.prog 84 4 := fun w => by obtain ⟨i, h1, h2, h3, h4⟩ := info_parts ty_i84; simp [sizeOf, typeInfo, h1, h3]
theorem ty_zr84 : Zr Tryz.prog 84 [.slice none 0 0, .slice none 0 0, .slice none 0 0, .slice none 0 0] := ⟨.agg #[.slice none 0 0, .slice none 0 0, .slice none 0 0, .slice none 0 0], rfl, fun w => by obtain ⟨i, h1, h2, h3, h4⟩ := info_parts ty_i84; simp [zeroValue, typeInfo, h1, h2]⟩
theorem ty_ag84 : Ag Tryz.prog 84 4 := ⟨fun w => by simp [isAgg, run_underlying Tryz.underlying84], ty_sz84⟩
theorem ty_fa84_0 : FieldAt Tryz.prog 84 0 0 := fieldAt_of 0 0 34 3 Tryz.underlying84 (by kernel_rfl) ty_sz34 (by kernel_rfl)
theorem ty_fa84_1 : FieldAt Tryz.prog 84 1 3 := fieldAt_of 1 3 81 1 Tryz.underlying84 (by kernel_rfl) ty_sz81 (by kernel_rfl)
theorem ty_i91 : (Tryz.prog.info? 91).map (fun i => (i.zero, i.size, i.bytes)) = some (some (.slice none 0 0), 1, 24) := by kernel_rfl
theorem ty_sz91 : Sz Tryz.prog 91 1 := fun w => by obtain ⟨i, h1, h2, h3, h4⟩ := info_parts ty_i91; simp [sizeOf, typeInfo, h1, h3]
theorem ty_zr91 : Zr Tryz.prog 91 [.slice none 0 0] := ⟨.slice none 0 0, rfl, fun w => by obtain ⟨i, h1, h2, h3, h4⟩ := info_parts ty_i91; simp [zeroValue, typeInfo, h1, h2]⟩
theorem ty_sc91 : Sc Tryz.prog 91 := fun w => by simp [isAgg, run_underlying Tryz.underlying91]
theorem ty_i92 : (Tryz.prog.info? 92).map (fun i => (i.zero, i.size, i.bytes)) = some (some (.nilFunc), 1, 8) := by kernel_rfl
theorem ty_sz92 : Sz Tryz.prog 92 1 := fun w => by obtain ⟨i, h1, h2, h3, h4⟩ := info_parts ty_i92; simp [sizeOf, typeInfo, h1, h3]
theorem ty_zr92 : Zr Tryz.prog 92 [.nilFunc] := ⟨.nilFunc, rfl, fun w => by obtain ⟨i, h1, h2, h3, h4⟩ := info_parts ty_i92; simp [zeroValue, typeInfo, h1, h2]⟩
theorem ty_sc92 : Sc Tryz.prog 92 := fun w => by simp [isAgg, run_underlying Tryz.underlying92]
theorem ty_i95 : (Tryz.prog.info? 95).map (fun i => (i.zero, i.size, i.bytes)) = some (some (.nilFunc), 1, 8) := by kernel_rfl
theorem ty_sz95 : Sz Tryz.prog 95 1 := fun w => by obtain ⟨i, h1, h2, h3, h4⟩ := info_parts ty_i95; simp [sizeOf, typeInfo, h1, h3]
theorem ty_sc95 : Sc Tryz.prog 95 := fun w => by simp [isAgg, run_underlying Tryz.underlying95]
theorem ty_i99 : (Tryz.prog.info? 99).map (fun i => (i.zero, i.size, i.bytes)) = some (some (.agg #[.nilFunc, .nilFunc]), 2, 16) := by kernel_rfl
theorem ty_sz99 : Sz Tryz.prog 99 2 := fun w => by obtain ⟨i, h1, h2, h3, h4⟩ := info_parts ty_i99; simp [sizeOf, typeInfo, h1, h3]
theorem ty_zr99 : Zr Tryz.prog 99 [.nilFunc, .nilFunc] := ⟨.agg #[.nilFunc, .nilFunc], rfl, fun w => by obtain ⟨i, h1, h2, h3, h4⟩ := info_parts ty_i99; simp [zeroValue, typeInfo, h1, h2]⟩
theorem ty_fa99_0 : FieldAt Tryz.prog 99 0 0 := fieldAt_of 0 0 95 1 Tryz.underlying99 (by kernel_rfl) ty_sz95 (by kernel_rfl)
theorem ty_sc111 : Sc Tryz.prog 111 := fun w => by simp [isAgg, run_underlying Tryz.underlying111]
theorem ty_sc115 : Sc Tryz.prog 115 := fun w => by simp [isAgg, run_underlying Tryz.underlying115]
theorem ty_i131 : (Tryz.prog.info? 131).map (fun i => (i.zero, i.size, i.bytes)) = some (some (.agg #[.int .i64 0, .int .i64 0, .int .i64 0, .int .i64 0, .int .i64 0, .int .i64 0, .int .i64 0, .int .i64 0, .int .i64 0, .int .i64 0, .int .i64 0, .int .i64 0, .int .i64 0, .int .i64 0, .int .i64 0, .int .i64 0, .int .i64 0, .int .i64 0, .int .i64 0, .int .i64 0, .int .i64 0, .int .i64 0, .int .i64 0, .bool false]), 24, 192) := by kernel_rfl
theorem ty_sz131 : Sz Tryz.prog 131 24 := fun w => by obtain ⟨i, h1, h2, h3, h4⟩ := info_parts ty_i131; simp [sizeOf, typeInfo, h1, h3]
theorem ty_ag131 : Ag Tryz.prog 131 24 := ⟨fun w => by simp [isAgg, run_underlying Tryz.underlying131], ty_sz131⟩
theorem ty_fa131_0 : FieldAt Tryz.prog 131 0 0 := fieldAt_of 0 0 65 17 Tryz.underlying131 (by kernel_rfl) ty_sz65 (by kernel_rfl)
theorem ty_fa131_1 : FieldAt Tryz.prog 131 1 17 := fieldAt_of 1 17 67 7 Tryz.underlying131 (by kernel_rfl) ty_sz67 (by kernel_rfl)
theorem ty_et22 : ElemT Tryz.prog 22 58 11 88 := elemT (z := .agg #[.int .u8 0, .int .i64 0, .int .i64 0, .int .i64 0, .int .i64 0, .int .i64 0, .int .i64 0, .int .i64 0, .int .i64 0, .int .i64 0, .int .i64 0]) Tryz.underlying22 ty_i58 rfl (by decide)
theorem ty_et23 : ElemT Tryz.prog 23 34 3 72 := elemT (z := .agg #[.slice none 0 0, .slice none 0 0, .slice none 0 0]) Tryz.underlying23 ty_i34 rfl (by decide)
theorem ty_et24 : ElemT Tryz.prog 24 3 1 8 := elemT (z := .int .i64 0) Tryz.underlying24 ty_i3 rfl (by decide)
theorem ty_et25 : ElemT Tryz.prog 25 37 3 24 := elemT (z := .agg #[.int .i64 0, .int .i64 0, .int .u8 0]) Tryz.underlying25 ty_i37 rfl (by decide)
theorem ty_et81 : ElemT Tryz.prog 81 47 2 16 := elemT (z := .agg #[.int .i64 0, .int .i64 0]) Tryz.underlying81 ty_i47 rfl (by decide)
theorem ty_et91 : ElemT Tryz.prog 91 24 1 24 := elemT (z := .slice none 0 0) Tryz.underlying91 ty_i24 rfl (by decide)
theorem ty_et104 : ElemT Tryz.prog 104 4 1 1 := elemT (z := .bool false) Tryz.underlying104 ty_i4 rfl (by decide)
theorem ty_mp32 : MapT Tryz.prog 32 3 3 .i64 := ⟨Tryz.underlying32, Tryz.underlying3⟩
theorem ty_zv3 : ∀ w, (zeroValue 3).run Tryz.prog w = .ok (.int .i64 0) w := fun w => by obtain ⟨i, h1, h2, h3, h4⟩ := info_parts ty_i3; simp [zeroValue, typeInfo, h1, h2]
theorem ty_mp100 : MapT Tryz.prog 100 5 99 .u8 := ⟨Tryz.underlying100, Tryz.underlying5⟩
theorem ty_zv99 : ∀ w, (zeroValue 99).run Tryz.prog w = .ok (.agg #[.nilFunc, .nilFunc]) w := fun w => by obtain ⟨i, h1, h2, h3, h4⟩ := info_parts ty_i99; simp [zeroValue, typeInfo, h1, h2]
theorem ty_mp108 : MapT Tryz.prog 108 3 4 .i64 := ⟨Tryz.underlying108, Tryz.underlying3⟩
theorem ty_zv4 : ∀ w, (zeroValue 4).run Tryz.prog w = .ok (.bool false) w := fun w => by obtain ⟨i, h1, h2, h3, h4⟩ := info_parts ty_i4; simp [zeroValue, typeInfo, h1, h2]
end Go.Proofs.YtljhdcclajikiaaGreatDoor
namespace Go.Proofs.YtljhdcclajikiaaGreatDoor
set_option linter.all false
set_option linter.unusedVariables false
set_option linter.unusedSimpArgs false
open Go.RowKit
def spL (a b : Int) : List Value := [.int .i64 a, .int .i64 b]
def packL (f : Nat → Int) : List Value := [.int .u8 (f 0), .int .i64 (f 1), .int .i64 (f 2), .int .i64 (f 3), .int .i64 (f 4), .int .i64 (f 5), .int .i64 (f 6), .int .i64 (f 7), .int .i64 (f 8), .int .i64 (f 9), .int .i64 (f 10)]
def ordB5 (lo hi a b : Int) : Bool := decide (lo ≤ a) && decide (a ≤ b) && decide (b ≤ hi)
def inB5 (lo hi a : Int) : Bool := decide (lo ≤ a) && decide (a ≤ hi)
def nilB (a b : Int) : Bool := decide (a = 0) && decide (b = 0)
def packOk (f : Nat → Int) : Bool := ordB5 0 1000000 (f 1) (f 2) && inB5 0 6000000 (f 9) && inB5 0 100000 (f 10) &&
  (if f 0 = 1 then ordB5 1 100000 (f 3) (f 4) && ordB5 0 1000 (f 5) (f 6) && nilB (f 7) (f 8)
  else if f 0 = 2 then nilB (f 3) (f 4) && nilB (f 5) (f 6) && nilB (f 7) (f 8)
  else decide (f 0 = 3) && nilB (f 3) (f 4) && nilB (f 5) (f 6) && ordB5 0 1000000 (f 7) (f 8))
theorem refOrdered_any (a b lo hi : Int) (w : World) :
    Calls Tryz.prog 82 #[.agg #[.int .i64 a, .int .i64 b], .int .i64 lo, .int .i64 hi] w (Ret w (.bool (ordB5 lo hi a b))) := by
  refine K_enter (S := []) (K := []) Tryz.func82 rfl Tryz.ntmps82 rfl (Sat.start _) ?_
  refine TW.seq fun Y1 hY1 => ?_
  refine TW.region ?_
  refine TL.m Mk.bx ?_
  intro b1
  refine TL.p Pu.as ?_
  refine TL.nil ?_
  refine TQ.thenN (hY1 _ _ ?_)
  refine TW.seq fun Y2 hY2 => ?_
  refine TW.join [(6, .bool (ordB5 lo hi a b))] ?_ (fun hJ1 => ?_)
  · refine TQ.thenN (hY2 _ _ ?_)
    refine TW.ret ?_
    refine TQ.ret Tryz.results82 rfl ((.tmp rfl .nil)) ?_
    exact fun w hw => Ret.of hw
  refine TW.region ?_
  refine TL.p (by first | exact Pu.fb ty_fa47_0 | exact Pu.fe ty_fa47_0) ?_
  refine TL.p (Pu.ld ty_sc3) ?_
  refine TL.p Pu.mv ?_
  refine TL.p Pu.ge ?_
  refine TL.p Pu.mv ?_
  refine TL.guard (t := 11) rfl (fun hg1 => ?_) (fun hg1 => ?_)
  · refine TL.gd (by first | exact Pu.fb ty_fa47_0 | exact Pu.fe ty_fa47_0) ?_
    refine TL.gd (Pu.ld ty_sc3) ?_
    refine TL.gd (by first | exact Pu.fb ty_fa47_1 | exact Pu.fe ty_fa47_1) ?_
    refine TL.gd (Pu.ld ty_sc3) ?_
    refine TL.gd Pu.le ?_
    refine TL.p Pu.kt ?_
    refine TL.p Pu.mv ?_
    refine TL.guard (t := 18) rfl (fun hg2 => ?_) (fun hg2 => ?_)
    · refine TL.gd (by first | exact Pu.fb ty_fa47_1 | exact Pu.fe ty_fa47_1) ?_
      refine TL.gd (Pu.ld ty_sc3) ?_
      refine TL.gd Pu.mv ?_
      refine TL.gd Pu.le ?_
      refine TL.p Pu.kt ?_
      refine TL.p Pu.as ?_
      refine TL.nil ?_
      exact TQ.sub (by repeat (first | exact trivial | refine ⟨rfl, ?_⟩ | refine ⟨trivial, ?_⟩ | refine ⟨(by show some (Value.bool _) = some (Value.bool _); simp [hg1, hg2, ordB5]), ?_⟩)) (by repeat (first | exact KSub.nil | refine KSub.cons (by repeat (first | exact Pick.hd | apply Pick.tl)) ?_)) hJ1
    · refine TL.gs ?_
      refine TL.gs ?_
      refine TL.gs ?_
      refine TL.gs ?_
      refine TL.p Pu.kf ?_
      refine TL.p Pu.as ?_
      refine TL.nil ?_
      exact TQ.sub (by repeat (first | exact trivial | refine ⟨rfl, ?_⟩ | refine ⟨trivial, ?_⟩ | refine ⟨(by show some (Value.bool _) = some (Value.bool _); simp [hg1, hg2, ordB5]), ?_⟩)) (by repeat (first | exact KSub.nil | refine KSub.cons (by repeat (first | exact Pick.hd | apply Pick.tl)) ?_)) hJ1
  · refine TL.gs ?_
    refine TL.gs ?_
    refine TL.gs ?_
    refine TL.gs ?_
    refine TL.gs ?_
    refine TL.p Pu.kf ?_
    refine TL.p Pu.mv ?_
    refine TL.gs ?_
    refine TL.gs ?_
    refine TL.gs ?_
    refine TL.gs ?_
    refine TL.p Pu.kf ?_
    refine TL.p Pu.as ?_
    refine TL.nil ?_
    exact TQ.sub (by repeat (first | exact trivial | refine ⟨rfl, ?_⟩ | refine ⟨trivial, ?_⟩ | refine ⟨(by show some (Value.bool _) = some (Value.bool _); simp [hg1, ordB5]), ?_⟩)) (by repeat (first | exact KSub.nil | refine KSub.cons (by repeat (first | exact Pick.hd | apply Pick.tl)) ?_)) hJ1
theorem refWithin_any (a lo hi : Int) (w : World) :
    Calls Tryz.prog 83 #[.int .i64 a, .int .i64 lo, .int .i64 hi] w (Ret w (.bool (inB5 lo hi a))) := by
  refine K_enter (S := []) (K := []) Tryz.func83 rfl Tryz.ntmps83 rfl (Sat.start _) ?_
  refine TW.seq fun Y1 hY1 => ?_
  refine TW.region ?_
  refine TL.p Pu.as ?_
  refine TL.nil ?_
  refine TQ.thenN (hY1 _ _ ?_)
  refine TW.seq fun Y2 hY2 => ?_
  refine TW.join [(6, .bool (inB5 lo hi a))] ?_ (fun hJ1 => ?_)
  · refine TQ.thenN (hY2 _ _ ?_)
    refine TW.ret ?_
    refine TQ.ret Tryz.results83 rfl ((.tmp rfl .nil)) ?_
    exact fun w hw => Ret.of hw
  refine TW.region ?_
  refine TL.p Pu.mv ?_
  refine TL.p Pu.mv ?_
  refine TL.p Pu.ge ?_
  refine TL.p Pu.mv ?_
  refine TL.guard (t := 10) rfl (fun hg1 => ?_) (fun hg1 => ?_)
  · refine TL.gd Pu.mv ?_
    refine TL.gd Pu.mv ?_
    refine TL.gd Pu.le ?_
    refine TL.p Pu.kt ?_
    refine TL.p Pu.as ?_
    refine TL.nil ?_
    exact TQ.sub (by repeat (first | exact trivial | refine ⟨rfl, ?_⟩ | refine ⟨trivial, ?_⟩ | refine ⟨(by show some (Value.bool _) = some (Value.bool _); simp [hg1, inB5]), ?_⟩)) (by repeat (first | exact KSub.nil | refine KSub.cons (by repeat (first | exact Pick.hd | apply Pick.tl)) ?_)) hJ1
  · refine TL.gs ?_
    refine TL.gs ?_
    refine TL.gs ?_
    refine TL.p Pu.kf ?_
    refine TL.p Pu.as ?_
    refine TL.nil ?_
    exact TQ.sub (by repeat (first | exact trivial | refine ⟨rfl, ?_⟩ | refine ⟨trivial, ?_⟩ | refine ⟨(by show some (Value.bool _) = some (Value.bool _); simp [hg1, inB5]), ?_⟩)) (by repeat (first | exact KSub.nil | refine KSub.cons (by repeat (first | exact Pick.hd | apply Pick.tl)) ?_)) hJ1
set_option maxRecDepth 100000 in
theorem refPack_any (f : Nat → Int) (w : World) :
    Calls Tryz.prog 52 #[.agg (packL f).toArray] w (Ret w (.bool (packOk f))) := by
  refine K_enter (S := []) (K := []) Tryz.func52 rfl Tryz.ntmps52 rfl (Sat.start _) ?_
  refine TW.seq fun Y1 hY1 => ?_
  refine TW.region ?_
  refine TL.m Mk.bx ?_
  intro b1
  refine TL.p Pu.as ?_
  refine TL.nil ?_
  refine TQ.thenN (hY1 _ _ ?_)
  refine TW.seq fun Y2 hY2 => ?_
  refine TW.seq fun Y3 hY3 => ?_
  refine TW.join [(19, .bool (!(ordB5 0 1000000 (f 1) (f 2) && inB5 0 6000000 (f 9) && inB5 0 100000 (f 10))))] ?_ (fun hJ1 => ?_)
  · refine TQ.thenN (hY3 _ _ ?_)
    refine TW.cond rfl (fun hc0 => ?_) (fun hc0 => ?_)
    · try simp only [decide_eq_true_eq, decide_eq_false_iff_not, Bool.not_eq_true', Bool.not_eq_false', Bool.and_eq_true, Bool.or_eq_true, Bool.and_eq_false_iff, Bool.or_eq_false_iff, Int.not_lt, Int.not_le] at hc0
      have hno : (ordB5 0 1000000 (f 1) (f 2) && inB5 0 6000000 (f 9) && inB5 0 100000 (f 10)) = false := by simp only [Bool.and_eq_false_iff]; exact hc0
      refine TW.seq fun Y4 hY4 => ?_
      refine TW.region ?_
      refine TL.p Pu.as ?_
      refine TL.nil ?_
      refine TQ.thenN (hY4 _ _ ?_)
      refine TW.ret ?_
      refine TQ.thenR ?_
      refine TQ.ret Tryz.results52 rfl ((.tmp rfl .nil)) ?_
      exact fun w hw => ⟨ret_bool (by unfold packOk; rw [hno]; rfl), Chg.ext hw.chg⟩
    · try simp only [decide_eq_true_eq, decide_eq_false_iff_not, Bool.not_eq_true', Bool.not_eq_false', Bool.and_eq_true, Bool.or_eq_true, Bool.and_eq_false_iff, Bool.or_eq_false_iff, Int.not_lt, Int.not_le] at hc0
      have hyes : (ordB5 0 1000000 (f 1) (f 2) && inB5 0 6000000 (f 9) && inB5 0 100000 (f 10)) = true := by simpa using hc0
      refine TW.skip ?_
      refine TQ.thenN (hY2 _ _ ?_)
      refine TW.seq fun Y5 hY5 => ?_
      refine TW.region ?_
      refine TL.p Pu.bd ?_
      refine TL.m (Mk.al ty_zr47) ?_
      intro b2
      first | refine TL.st ty_sz47 ?_ | refine TL.se ty_sz47 ?_
      refine TL.nil ?_
      refine TQ.thenN (hY5 _ _ ?_)
      refine TW.seq fun Y6 hY6 => ?_
      refine TW.seq fun Y7 hY7 => ?_
      refine TW.region ?_
      refine TL.p (by first | exact Pu.fb ty_fa58_0 | exact Pu.fe ty_fa58_0) ?_
      refine TL.p (Pu.ld ty_sc5) ?_
      refine TL.p Pu.eq ?_
      refine TL.nil ?_
      refine TQ.thenN (hY7 _ _ ?_)
      refine TW.cond rfl (fun hc1 => ?_) (fun hc1 => ?_)
      · try simp only [decide_eq_true_eq, decide_eq_false_iff_not, Bool.not_eq_true', Bool.not_eq_false', Bool.and_eq_true, Bool.or_eq_true, Bool.and_eq_false_iff, Bool.or_eq_false_iff, Int.not_lt, Int.not_le] at hc1
        refine TW.seq fun Y8 hY8 => ?_
        refine TW.join [(2, .bool (ordB5 1 100000 (f 3) (f 4) && ordB5 0 1000 (f 5) (f 6) && nilB (f 7) (f 8)))] ?_ (fun hJ2 => ?_)
        · refine TQ.thenN (hY8 _ _ ?_)
          refine TW.ret ?_
          refine TQ.thenR ?_
          refine TQ.ret Tryz.results52 rfl ((.tmp rfl .nil)) ?_
          exact fun w hw => ⟨ret_bool (by unfold packOk; rw [hyes, hc1]; simp), Chg.ext hw.chg⟩
        refine TW.region ?_
        refine TL.p (by first | exact Pu.fb ty_fa58_2 | exact Pu.fe ty_fa58_2) ?_
        refine TL.p (Pu.lds ty_ag47) ?_
        refine TL.cr rfl (enters Tryz.func82 rfl rfl) (fun w hw => by
            exact refOrdered_any _ _ _ _ _) ?_
        refine TL.p Pu.mv ?_
        refine TL.guard (t := 27) rfl (fun hg1 => ?_) (fun hg1 => ?_)
        · refine TL.gd (by first | exact Pu.fb ty_fa58_3 | exact Pu.fe ty_fa58_3) ?_
          refine TL.gd (Pu.lds ty_ag47) ?_
          refine TL.cr rfl (enters Tryz.func82 rfl rfl) (fun w hw => by
              exact refOrdered_any _ _ _ _ _) ?_
          refine TL.p Pu.kt ?_
          refine TL.p Pu.mv ?_
          refine TL.guard (t := 32) rfl (fun hg2 => ?_) (fun hg2 => ?_)
          · refine TL.gd (by first | exact Pu.fb ty_fa58_4 | exact Pu.fe ty_fa58_4) ?_
            refine TL.gd (Pu.lds ty_ag47) ?_
            refine TL.gd (Pu.lds ty_ag47) ?_
            refine TL.gd (Pu.q2 ty_q2_47) ?_
            refine TL.p Pu.kt ?_
            refine TL.p Pu.as ?_
            refine TL.nil ?_
            exact TQ.sub (by repeat (first | exact trivial | refine ⟨rfl, ?_⟩ | refine ⟨trivial, ?_⟩ | refine ⟨(by show some (Value.bool _) = some (Value.bool _); simp [hg1, hg2, nilB]), ?_⟩)) (by repeat (first | exact KSub.nil | refine KSub.cons (by repeat (first | exact Pick.hd | apply Pick.tl)) ?_)) hJ2
          · refine TL.gs ?_
            refine TL.gs ?_
            refine TL.gs ?_
            refine TL.gs ?_
            refine TL.p Pu.kf ?_
            refine TL.p Pu.as ?_
            refine TL.nil ?_
            exact TQ.sub (by repeat (first | exact trivial | refine ⟨rfl, ?_⟩ | refine ⟨trivial, ?_⟩ | refine ⟨(by show some (Value.bool _) = some (Value.bool _); simp [hg1, hg2, nilB]), ?_⟩)) (by repeat (first | exact KSub.nil | refine KSub.cons (by repeat (first | exact Pick.hd | apply Pick.tl)) ?_)) hJ2
        · refine TL.gs ?_
          refine TL.gs ?_
          refine TL.gs ?_
          refine TL.p Pu.kf ?_
          refine TL.p Pu.mv ?_
          refine TL.gs ?_
          refine TL.gs ?_
          refine TL.gs ?_
          refine TL.gs ?_
          refine TL.p Pu.kf ?_
          refine TL.p Pu.as ?_
          refine TL.nil ?_
          exact TQ.sub (by repeat (first | exact trivial | refine ⟨rfl, ?_⟩ | refine ⟨trivial, ?_⟩ | refine ⟨(by show some (Value.bool _) = some (Value.bool _); simp [hg1, nilB]), ?_⟩)) (by repeat (first | exact KSub.nil | refine KSub.cons (by repeat (first | exact Pick.hd | apply Pick.tl)) ?_)) hJ2
      · try simp only [decide_eq_true_eq, decide_eq_false_iff_not, Bool.not_eq_true', Bool.not_eq_false', Bool.and_eq_true, Bool.or_eq_true, Bool.and_eq_false_iff, Bool.or_eq_false_iff, Int.not_lt, Int.not_le] at hc1
        refine TW.skip ?_
        refine TQ.thenN (hY6 _ _ ?_)
        refine TW.seq fun Y9 hY9 => ?_
        refine TW.seq fun Y10 hY10 => ?_
        refine TW.region ?_
        refine TL.p (by first | exact Pu.fb ty_fa58_0 | exact Pu.fe ty_fa58_0) ?_
        refine TL.p (Pu.ld ty_sc5) ?_
        refine TL.p Pu.eq ?_
        refine TL.nil ?_
        refine TQ.thenN (hY10 _ _ ?_)
        refine TW.cond rfl (fun hc2 => ?_) (fun hc2 => ?_)
        · try simp only [decide_eq_true_eq, decide_eq_false_iff_not, Bool.not_eq_true', Bool.not_eq_false', Bool.and_eq_true, Bool.or_eq_true, Bool.and_eq_false_iff, Bool.or_eq_false_iff, Int.not_lt, Int.not_le] at hc2
          refine TW.seq fun Y11 hY11 => ?_
          refine TW.join [(2, .bool (nilB (f 3) (f 4) && nilB (f 5) (f 6) && nilB (f 7) (f 8)))] ?_ (fun hJ3 => ?_)
          · refine TQ.thenN (hY11 _ _ ?_)
            refine TW.ret ?_
            refine TQ.thenR ?_
            refine TQ.ret Tryz.results52 rfl ((.tmp rfl .nil)) ?_
            exact fun w hw => ⟨ret_bool (by unfold packOk; rw [hyes, hc2]; simp), Chg.ext hw.chg⟩
          refine TW.region ?_
          refine TL.p (by first | exact Pu.fb ty_fa58_2 | exact Pu.fe ty_fa58_2) ?_
          refine TL.p (Pu.lds ty_ag47) ?_
          refine TL.p (Pu.lds ty_ag47) ?_
          refine TL.p (Pu.q2 ty_q2_47) ?_
          refine TL.p Pu.mv ?_
          refine TL.guard (t := 45) rfl (fun hg3 => ?_) (fun hg3 => ?_)
          · refine TL.gd (by first | exact Pu.fb ty_fa58_3 | exact Pu.fe ty_fa58_3) ?_
            refine TL.gd (Pu.lds ty_ag47) ?_
            refine TL.gd (Pu.lds ty_ag47) ?_
            refine TL.gd (Pu.q2 ty_q2_47) ?_
            refine TL.p Pu.kt ?_
            refine TL.p Pu.mv ?_
            refine TL.guard (t := 51) rfl (fun hg4 => ?_) (fun hg4 => ?_)
            · refine TL.gd (by first | exact Pu.fb ty_fa58_4 | exact Pu.fe ty_fa58_4) ?_
              refine TL.gd (Pu.lds ty_ag47) ?_
              refine TL.gd (Pu.lds ty_ag47) ?_
              refine TL.gd (Pu.q2 ty_q2_47) ?_
              refine TL.p Pu.kt ?_
              refine TL.p Pu.as ?_
              refine TL.nil ?_
              exact TQ.sub (by repeat (first | exact trivial | refine ⟨rfl, ?_⟩ | refine ⟨trivial, ?_⟩ | refine ⟨(by show some (Value.bool _) = some (Value.bool _); simp [hg3, hg4, nilB]), ?_⟩)) (by repeat (first | exact KSub.nil | refine KSub.cons (by repeat (first | exact Pick.hd | apply Pick.tl)) ?_)) hJ3
            · refine TL.gs ?_
              refine TL.gs ?_
              refine TL.gs ?_
              refine TL.gs ?_
              refine TL.p Pu.kf ?_
              refine TL.p Pu.as ?_
              refine TL.nil ?_
              exact TQ.sub (by repeat (first | exact trivial | refine ⟨rfl, ?_⟩ | refine ⟨trivial, ?_⟩ | refine ⟨(by show some (Value.bool _) = some (Value.bool _); simp [hg3, hg4, nilB]), ?_⟩)) (by repeat (first | exact KSub.nil | refine KSub.cons (by repeat (first | exact Pick.hd | apply Pick.tl)) ?_)) hJ3
          · refine TL.gs ?_
            refine TL.gs ?_
            refine TL.gs ?_
            refine TL.gs ?_
            refine TL.p Pu.kf ?_
            refine TL.p Pu.mv ?_
            refine TL.gs ?_
            refine TL.gs ?_
            refine TL.gs ?_
            refine TL.gs ?_
            refine TL.p Pu.kf ?_
            refine TL.p Pu.as ?_
            refine TL.nil ?_
            exact TQ.sub (by repeat (first | exact trivial | refine ⟨rfl, ?_⟩ | refine ⟨trivial, ?_⟩ | refine ⟨(by show some (Value.bool _) = some (Value.bool _); simp [hg3, nilB]), ?_⟩)) (by repeat (first | exact KSub.nil | refine KSub.cons (by repeat (first | exact Pick.hd | apply Pick.tl)) ?_)) hJ3
        · try simp only [decide_eq_true_eq, decide_eq_false_iff_not, Bool.not_eq_true', Bool.not_eq_false', Bool.and_eq_true, Bool.or_eq_true, Bool.and_eq_false_iff, Bool.or_eq_false_iff, Int.not_lt, Int.not_le] at hc2
          refine TW.skip ?_
          refine TQ.thenN (hY9 _ _ ?_)
          refine TW.seq fun Y12 hY12 => ?_
          refine TW.join [(2, .bool (decide (f 0 = 3) && nilB (f 3) (f 4) && nilB (f 5) (f 6) && ordB5 0 1000000 (f 7) (f 8)))] ?_ (fun hJ4 => ?_)
          · refine TQ.thenN (hY12 _ _ ?_)
            refine TW.ret ?_
            refine TQ.ret Tryz.results52 rfl ((.tmp rfl .nil)) ?_
            exact fun w hw => ⟨ret_bool (by unfold packOk; rw [hyes]; simp [hc1, hc2]), Chg.ext hw.chg⟩
          refine TW.region ?_
          refine TL.p (by first | exact Pu.fb ty_fa58_0 | exact Pu.fe ty_fa58_0) ?_
          refine TL.p (Pu.ld ty_sc5) ?_
          refine TL.p Pu.eq ?_
          refine TL.p Pu.mv ?_
          refine TL.guard (t := 60) rfl (fun hg5 => ?_) (fun hg5 => ?_)
          · refine TL.gd (by first | exact Pu.fb ty_fa58_2 | exact Pu.fe ty_fa58_2) ?_
            refine TL.gd (Pu.lds ty_ag47) ?_
            refine TL.gd (Pu.lds ty_ag47) ?_
            refine TL.gd (Pu.q2 ty_q2_47) ?_
            refine TL.p Pu.kt ?_
            refine TL.p Pu.mv ?_
            refine TL.guard (t := 66) rfl (fun hg6 => ?_) (fun hg6 => ?_)
            · refine TL.gd (by first | exact Pu.fb ty_fa58_3 | exact Pu.fe ty_fa58_3) ?_
              refine TL.gd (Pu.lds ty_ag47) ?_
              refine TL.gd (Pu.lds ty_ag47) ?_
              refine TL.gd (Pu.q2 ty_q2_47) ?_
              refine TL.p Pu.kt ?_
              refine TL.p Pu.mv ?_
              refine TL.guard (t := 72) rfl (fun hg7 => ?_) (fun hg7 => ?_)
              · refine TL.gd (by first | exact Pu.fb ty_fa58_4 | exact Pu.fe ty_fa58_4) ?_
                refine TL.gd (Pu.lds ty_ag47) ?_
                refine TL.cr rfl (enters Tryz.func82 rfl rfl) (fun w hw => by
                    exact refOrdered_any _ _ _ _ _) ?_
                refine TL.p Pu.kt ?_
                refine TL.p Pu.as ?_
                refine TL.nil ?_
                exact TQ.sub (by repeat (first | exact trivial | refine ⟨rfl, ?_⟩ | refine ⟨trivial, ?_⟩ | refine ⟨(by show some (Value.bool _) = some (Value.bool _); simp [hg5, hg6, hg7, nilB]), ?_⟩)) (by repeat (first | exact KSub.nil | refine KSub.cons (by repeat (first | exact Pick.hd | apply Pick.tl)) ?_)) hJ4
              · refine TL.gs ?_
                refine TL.gs ?_
                refine TL.gs ?_
                refine TL.p Pu.kf ?_
                refine TL.p Pu.as ?_
                refine TL.nil ?_
                exact TQ.sub (by repeat (first | exact trivial | refine ⟨rfl, ?_⟩ | refine ⟨trivial, ?_⟩ | refine ⟨(by show some (Value.bool _) = some (Value.bool _); simp [hg5, hg6, hg7, nilB]), ?_⟩)) (by repeat (first | exact KSub.nil | refine KSub.cons (by repeat (first | exact Pick.hd | apply Pick.tl)) ?_)) hJ4
            · refine TL.gs ?_
              refine TL.gs ?_
              refine TL.gs ?_
              refine TL.gs ?_
              refine TL.p Pu.kf ?_
              refine TL.p Pu.mv ?_
              refine TL.gs ?_
              refine TL.gs ?_
              refine TL.gs ?_
              refine TL.p Pu.kf ?_
              refine TL.p Pu.as ?_
              refine TL.nil ?_
              exact TQ.sub (by repeat (first | exact trivial | refine ⟨rfl, ?_⟩ | refine ⟨trivial, ?_⟩ | refine ⟨(by show some (Value.bool _) = some (Value.bool _); simp [hg5, hg6, nilB]), ?_⟩)) (by repeat (first | exact KSub.nil | refine KSub.cons (by repeat (first | exact Pick.hd | apply Pick.tl)) ?_)) hJ4
          · refine TL.gs ?_
            refine TL.gs ?_
            refine TL.gs ?_
            refine TL.gs ?_
            refine TL.p Pu.kf ?_
            refine TL.p Pu.mv ?_
            refine TL.gs ?_
            refine TL.gs ?_
            refine TL.gs ?_
            refine TL.gs ?_
            refine TL.p Pu.kf ?_
            refine TL.p Pu.mv ?_
            refine TL.gs ?_
            refine TL.gs ?_
            refine TL.gs ?_
            refine TL.p Pu.kf ?_
            refine TL.p Pu.as ?_
            refine TL.nil ?_
            exact TQ.sub (by repeat (first | exact trivial | refine ⟨rfl, ?_⟩ | refine ⟨trivial, ?_⟩ | refine ⟨(by show some (Value.bool _) = some (Value.bool _); simp [hg5, nilB]), ?_⟩)) (by repeat (first | exact KSub.nil | refine KSub.cons (by repeat (first | exact Pick.hd | apply Pick.tl)) ?_)) hJ4
  refine TW.region ?_
  refine TL.p (by first | exact Pu.fb ty_fa58_1 | exact Pu.fe ty_fa58_1) ?_
  refine TL.p (Pu.lds ty_ag47) ?_
  refine TL.cr rfl (enters Tryz.func82 rfl rfl) (fun w hw => by
      exact refOrdered_any _ _ _ _ _) ?_
  refine TL.p Pu.no ?_
  refine TL.p Pu.mv ?_
  refine TL.guard (t := 8) rfl (fun hg8 => ?_) (fun hg8 => ?_)
  · refine TL.gs ?_
    refine TL.gs ?_
    refine TL.gs ?_
    refine TL.gs ?_
    refine TL.p Pu.kt ?_
    refine TL.p Pu.mv ?_
    refine TL.gs ?_
    refine TL.gs ?_
    refine TL.gs ?_
    refine TL.gs ?_
    refine TL.p Pu.kt ?_
    refine TL.nil ?_
    exact TQ.sub (by repeat (first | exact trivial | refine ⟨rfl, ?_⟩ | refine ⟨trivial, ?_⟩ | refine ⟨(by show some (Value.bool _) = some (Value.bool _); simp [hg8]), ?_⟩)) (by repeat (first | exact KSub.nil | refine KSub.cons (by repeat (first | exact Pick.hd | apply Pick.tl)) ?_)) hJ1
  · refine TL.gd (by first | exact Pu.fb ty_fa58_5 | exact Pu.fe ty_fa58_5) ?_
    refine TL.gd (Pu.ld ty_sc3) ?_
    refine TL.cr rfl (enters Tryz.func83 rfl rfl) (fun w hw => by
        exact refWithin_any _ _ _ _) ?_
    refine TL.gd Pu.no ?_
    refine TL.p Pu.kf ?_
    refine TL.p Pu.mv ?_
    refine TL.guard (t := 14) rfl (fun hg9 => ?_) (fun hg9 => ?_)
    · refine TL.gs ?_
      refine TL.gs ?_
      refine TL.gs ?_
      refine TL.gs ?_
      refine TL.p Pu.kt ?_
      refine TL.nil ?_
      exact TQ.sub (by repeat (first | exact trivial | refine ⟨rfl, ?_⟩ | refine ⟨trivial, ?_⟩ | refine ⟨(by show some (Value.bool _) = some (Value.bool _); simp [hg8, hg9]), ?_⟩)) (by repeat (first | exact KSub.nil | refine KSub.cons (by repeat (first | exact Pick.hd | apply Pick.tl)) ?_)) hJ1
    · refine TL.gd (by first | exact Pu.fb ty_fa58_6 | exact Pu.fe ty_fa58_6) ?_
      refine TL.gd (Pu.ld ty_sc3) ?_
      refine TL.cr rfl (enters Tryz.func83 rfl rfl) (fun w hw => by
          exact refWithin_any _ _ _ _) ?_
      refine TL.gd Pu.no ?_
      refine TL.p Pu.kf ?_
      refine TL.nil ?_
      exact TQ.sub (by repeat (first | exact trivial | refine ⟨rfl, ?_⟩ | refine ⟨trivial, ?_⟩ | refine ⟨(by show some (Value.bool _) = some (Value.bool _); simp [hg8, hg9]), ?_⟩)) (by repeat (first | exact KSub.nil | refine KSub.cons (by repeat (first | exact Pick.hd | apply Pick.tl)) ?_)) hJ1
end Go.Proofs.YtljhdcclajikiaaGreatDoor
namespace Go.Proofs.YtljhdcclajikiaaGreatDoor
set_option linter.all false
set_option linter.unusedVariables false
set_option linter.unusedSimpArgs false
open Go.RowKit
theorem mulB {a b A B : Int} (ha : 0 ≤ a) (hA : a ≤ A) (hb : 0 ≤ b) (hB : b ≤ B) : 0 ≤ a * b ∧ a * b ≤ A * B :=
  ⟨Int.mul_nonneg ha hb, Int.mul_le_mul hA hB hb (Int.le_trans ha hA)⟩
def restV (f : Nat → Int) : List Int :=
  if f 0 = 3 then [max 0 (f 1 - f 8 * f 10), max 0 (f 2 - f 7 * f 10), min (f 1) (f 7 * f 10), min (f 2) (f 8 * f 10), 0]
  else if f 0 = 2 ∨ f 9 < f 3 then [f 1, f 2, 0, 0, 0]
  else if f 9 < f 4 then [f 1 * (1000 - f 6) / 1000, f 2, 0, (f 2 * f 6 + 999) / 1000, 1]
  else [f 1 * (1000 - f 6) / 1000, (f 2 * (1000 - f 5) + 999) / 1000, f 1 * f 5 / 1000, (f 2 * f 6 + 999) / 1000, 2]
def restC (l : List Int) : List Value := [.agg #[.int .i64 (l.getD 0 0), .int .i64 (l.getD 1 0)], .agg #[.int .i64 (l.getD 2 0), .int .i64 (l.getD 3 0)], .int .u8 (l.getD 4 0)]
def okF (f : Nat → Int) : Prop := 0 ≤ f 1 ∧ f 1 ≤ f 2 ∧ f 2 ≤ 1000000 ∧ 0 ≤ f 9 ∧ f 9 ≤ 6000000 ∧ 0 ≤ f 10 ∧ f 10 ≤ 100000
theorem packOk_iff (f : Nat → Int) : packOk f = true ↔ okF f ∧
    ((f 0 = 1 ∧ 1 ≤ f 3 ∧ f 3 ≤ f 4 ∧ f 4 ≤ 100000 ∧ 0 ≤ f 5 ∧ f 5 ≤ f 6 ∧ f 6 ≤ 1000 ∧ f 7 = 0 ∧ f 8 = 0) ∨
     (f 0 = 2 ∧ f 3 = 0 ∧ f 4 = 0 ∧ f 5 = 0 ∧ f 6 = 0 ∧ f 7 = 0 ∧ f 8 = 0) ∨
     (f 0 = 3 ∧ f 3 = 0 ∧ f 4 = 0 ∧ f 5 = 0 ∧ f 6 = 0 ∧ 0 ≤ f 7 ∧ f 7 ≤ f 8 ∧ f 8 ≤ 1000000)) := by
  unfold packOk okF ordB5 inB5 nilB
  split
  · simp only [Bool.and_eq_true, decide_eq_true_eq]; omega
  · split
    · simp only [Bool.and_eq_true, decide_eq_true_eq]; omega
    · simp only [Bool.and_eq_true, decide_eq_true_eq]; omega
def restK (f : Nat → Int) : List Value := if packOk f then restC (restV f) ++ [.int .i64 0] else restC [0, 0, 0, 0, 0] ++ [.int .i64 50]
end Go.Proofs.YtljhdcclajikiaaGreatDoor
namespace Go.Proofs.YtljhdcclajikiaaGreatDoor
set_option linter.all false
set_option linter.unusedVariables false
set_option linter.unusedSimpArgs false
open Go.RowKit
def Fst (p : Nat → Bool) (n : Nat) : Type := { k : Nat // k ≤ n ∧ (∀ j, j < k → p j = false) ∧ (k < n → p k = true) }
def aft (n k : Nat) : Nat := if k < n then k + 1 else n
theorem Fst.any {p : Nat → Bool} {n : Nat} (x : Fst p n) : decide (x.1 < n) = (List.range n).any p := by
  obtain ⟨k, h1, h2, h3⟩ := x
  by_cases h : k < n
  · have : (List.range n).any p = true := List.any_eq_true.2 ⟨k, List.mem_range.2 h, h3 h⟩
    rw [this]; simpa using h
  · have : (List.range n).any p = false := by
      rw [List.any_eq_false]
      intro j hj
      have := h2 j (by have := List.mem_range.1 hj; omega)
      simp [this]
    rw [this]; simpa using h
theorem indexInt_any {g : FuncId} {fs cs : List Value} {A : Option Addr} {n cp : Nat} {v : Nat → Int} {p : Nat → Bool} {M : Nat → List Fact} {w : World} (hen : Enters Tryz.prog g) (hn : n ≤ 9223372036854775807)
    (hR : RdR w 1 A n (fun k => [.int .i64 (v k)])) (hA : 0 < n → Apart (feet (M 0)) A) (hM : Sat (feet (M 0)) w (M 0) w) (hfe : ∀ k, feet (M k) = feet (M 0))
    (hg : ∀ k, k < n → (∀ j, j < k → p j = false) → ∀ w', Sat (feet (M 0)) w (M k) w' → CallsK Tryz.prog g (fs ++ [Value.int .i64 (v k)] ++ cs).toArray (M k) w' Unit (fun _ => .bool (p k)) (fun _ => M (k + 1))) :
    CallsK Tryz.prog 88 #[.slice A n cp, .func (.func g) fs.toArray cs.toArray] (M 0) w (Fst p n) (fun x => .int .i64 (if x.1 < n then (x.1 : Int) else -1)) (fun x => M (aft n x.1)) := by
  refine K_enter (S := feet (M 0)) (K := M 0) Tryz.func88 rfl Tryz.ntmps88 rfl hM ?_
  refine TW.seq fun Y1 hY1 => ?_
  refine TW.region ?_
  refine TL.p Pu.as ?_
  refine TL.nil ?_
  refine TQ.thenN (hY1 _ _ ?_)
  refine TW.seq fun Y2 hY2 => ?_
  refine TW.seq fun Y3 hY3 => ?_
  refine TW.region ?_
  refine TL.p Pu.mv ?_
  refine TL.p (Pu.ln Tryz.underlying24) ?_
  refine TL.p Pu.mv ?_
  refine TL.nil ?_
  refine TQ.thenN (hY3 _ _ ?_)
  refine TW.block ?_
  refine TW.loop1 (fun (k : Nat) => [(8, .int .i64 (k : Int)), (7, .int .i64 (n : Int)), (0, .slice A n cp), (1, .func (.func g) fs.toArray cs.toArray)]) (fun k => M k) (fun k => k ≤ n ∧ ∀ j, j < k → p j = false) (fun k => n - k) 0 (by repeat (first | exact trivial | refine ⟨rfl, ?_⟩ | refine ⟨trivial, ?_⟩)) ?_ ?_ ?_
  · exact KSub.refl _
  · exact ⟨by omega, fun j hj => by omega⟩
  rintro k ⟨hk, hall⟩ Z0 hZ0
  refine TW.seq fun Y4 hY4 => ?_
  refine TW.region ?_
  refine TL.p Pu.lt ?_
  refine TL.nil ?_
  refine TQ.thenN (hY4 _ _ ?_)
  refine TW.seq fun Y5 hY5 => ?_
  refine TW.cond rfl (fun hc0 => ?_) (fun hc0 => ?_)
  · try simp only [decide_eq_true_eq, decide_eq_false_iff_not, Bool.not_eq_true', Bool.not_eq_false', Bool.and_eq_true, Bool.or_eq_true, Bool.and_eq_false_iff, Bool.or_eq_false_iff, Int.not_lt, Int.not_le] at hc0
    have hkn : k < n := by omega
    have hA := hA (by omega)
    refine TW.skip ?_
    refine TQ.thenN (hY5 _ _ ?_)
    refine TW.seq fun Y6 hY6 => ?_
    refine TW.block ?_
    refine TW.seq fun Y7 hY7 => ?_
    refine TW.region ?_
    refine TL.p Pu.mv ?_
    refine TL.p Pu.as ?_
    refine TL.nil ?_
    refine TQ.thenN (hY7 _ _ ?_)
    refine TW.seq fun Y8 hY8 => ?_
    refine TW.region ?_
    refine TL.p Pu.mv ?_
    refine TL.p Pu.mv ?_
    refine TL.p Pu.mv ?_
    refine TL.p (Pu.el ty_et24) ?_
    refine TL.p (Pu.ld ty_sc3) ?_
    refine TL.cvk rfl rfl hen (by rw [List.append_nil]) (fun w hw => by
        exact hg k (by omega) hall w hw) ?_
    intro _
    refine TL.nil ?_
    refine TQ.thenN (hY8 _ _ ?_)
    refine TW.cond rfl (fun hc1 => ?_) (fun hc1 => ?_)
    · try simp only [decide_eq_true_eq, decide_eq_false_iff_not, Bool.not_eq_true', Bool.not_eq_false', Bool.and_eq_true, Bool.or_eq_true, Bool.and_eq_false_iff, Bool.or_eq_false_iff, Int.not_lt, Int.not_le] at hc1
      refine TW.seq fun Y9 hY9 => ?_
      refine TW.region ?_
      refine TL.p Pu.mv ?_
      refine TL.p Pu.as ?_
      refine TL.nil ?_
      refine TQ.thenN (hY9 _ _ ?_)
      refine TW.ret ?_
      refine TQ.blkR ?_
      refine TQ.thenR ?_
      refine TQ.thenR ?_
      refine TQ.blkR ?_
      refine TQ.thenR ?_
      refine TQ.ret Tryz.results88 rfl ((.tmp rfl .nil)) ?_
      exact fun w hw => ⟨⟨k, by omega, hall, fun _ => hc1⟩, by simp [hkn]; rfl, by simpa [aft, hkn] using hw⟩
    · try simp only [decide_eq_true_eq, decide_eq_false_iff_not, Bool.not_eq_true', Bool.not_eq_false', Bool.and_eq_true, Bool.or_eq_true, Bool.and_eq_false_iff, Bool.or_eq_false_iff, Int.not_lt, Int.not_le] at hc1
      refine TW.skip ?_
      refine TQ.blkN ?_
      refine TQ.thenN (hY6 _ _ ?_)
      refine TW.region ?_
      refine TL.p Pu.ad ?_
      refine TL.p Pu.mv ?_
      refine TL.nil ?_
      refine TQ.thenN (hZ0 (k + 1) _ _ ?_ ?_ (by repeat (first | exact trivial | refine ⟨rfl, ?_⟩ | refine ⟨trivial, ?_⟩)) ?_)
      · refine ⟨by omega, fun j hj => ?_⟩
        by_cases h : j = k
        · subst h; exact hc1
        · exact hall j (by omega)
      · exact (by first | omega | (simp only []; omega) | (simp; omega))
      · rw [List.append_nil]; exact KSub.refl _
  · try simp only [decide_eq_true_eq, decide_eq_false_iff_not, Bool.not_eq_true', Bool.not_eq_false', Bool.and_eq_true, Bool.or_eq_true, Bool.and_eq_false_iff, Bool.or_eq_false_iff, Int.not_lt, Int.not_le] at hc0
    have hkn : k = n := by omega
    refine TW.exit ?_
    refine TQ.thenX ?_
    refine TQ.thenX ?_
    refine TQ.blkX ?_
    refine TQ.thenN (hY2 _ _ ?_)
    refine TW.seq fun Y10 hY10 => ?_
    refine TW.region ?_
    refine TL.p Pu.as ?_
    refine TL.nil ?_
    refine TQ.thenN (hY10 _ _ ?_)
    refine TW.ret ?_
    refine TQ.ret Tryz.results88 rfl ((.tmp rfl .nil)) ?_
    exact fun w hw => ⟨⟨k, by omega, hall, fun h => by omega⟩, by simp [hkn]; rfl, by simpa [aft, hkn] using hw⟩
theorem hasInt_st {g : FuncId} {fs cs : List Value} {A : Option Addr} {n cp : Nat} {v : Nat → Int} {p : Nat → Bool} {M : Nat → List Fact} {w : World} (hen : Enters Tryz.prog g) (hn : n ≤ 9223372036854775807)
    (hR : RdR w 1 A n (fun k => [.int .i64 (v k)])) (hA : 0 < n → Apart (feet (M 0)) A) (hM : Sat (feet (M 0)) w (M 0) w) (hfe : ∀ k, feet (M k) = feet (M 0))
    (hg : ∀ k, k < n → (∀ j, j < k → p j = false) → ∀ w', Sat (feet (M 0)) w (M k) w' → CallsK Tryz.prog g (fs ++ [Value.int .i64 (v k)] ++ cs).toArray (M k) w' Unit (fun _ => .bool (p k)) (fun _ => M (k + 1))) :
    CallsK Tryz.prog 70 #[.slice A n cp, .func (.func g) fs.toArray cs.toArray] (M 0) w (Fst p n) (fun x => .bool (decide (x.1 < n))) (fun x => M (aft n x.1)) := by
  refine K_enter (S := feet (M 0)) (K := M 0) Tryz.func70 rfl Tryz.ntmps70 rfl hM ?_
  refine TW.seq fun Y1 hY1 => ?_
  refine TW.region ?_
  refine TL.p Pu.as ?_
  refine TL.nil ?_
  refine TQ.thenN (hY1 _ _ ?_)
  refine TW.seq fun Y2 hY2 => ?_
  refine TW.region ?_
  refine TL.p Pu.mv ?_
  refine TL.p Pu.mv ?_
  refine TL.call rfl (enters Tryz.func88 rfl rfl) (by rw [List.append_nil]) rfl (fun w hw => by
      exact indexInt_any hen hn (hR.sat0 hw hA) hA hw.self hfe (fun k hk hp w' hw' => hg k hk hp w' (hw'.from hw.chg fun _ hb => .inl hb))) ?_
  intro x
  refine TL.p Pu.ge ?_
  refine TL.p Pu.as ?_
  refine TL.nil ?_
  refine TQ.thenN (hY2 _ _ ?_)
  refine TW.ret ?_
  refine TQ.ret Tryz.results70 rfl ((.tmp rfl .nil)) ?_
  exact fun w hw => ⟨x, by by_cases h : x.1 < n <;> simp [retV, h], by simpa using hw⟩
end Go.Proofs.YtljhdcclajikiaaGreatDoor
namespace Go.Proofs.YtljhdcclajikiaaGreatDoor
set_option linter.all false
set_option linter.unusedVariables false
set_option linter.unusedSimpArgs false
open Go.RowKit
theorem hasInt_any {g : FuncId} {fs cs : List Value} {A : Option Addr} {n cp : Nat} {v : Nat → Int} {p : Nat → Bool} {w : World} (hen : Enters Tryz.prog g) (hn : n ≤ 9223372036854775807)
    (hR : RdR w 1 A n (fun k => [.int .i64 (v k)])) (hg : ∀ k, k < n → ∀ w', Below w.heap.size w w' → Calls Tryz.prog g (fs ++ [Value.int .i64 (v k)] ++ cs).toArray w' (Ret w' (.bool (p k)))) :
    Calls Tryz.prog 70 #[.slice A n cp, .func (.func g) fs.toArray cs.toArray] w (Ret w (.bool (anyB n p))) :=
  CallsK.retOf (hasInt_st (M := fun _ => []) hen hn hR (fun _ => Apart.nil) (Sat.start w) (fun _ => rfl) fun k hk _ w' hw' => CallsK.ret (hg k hk w' (Chg.ext hw'.chg))) fun x => by rw [x.any]; rfl
theorem in1_any (x lo hi : Int) (b1 b2 : Nat) (w : World) (h1 : OldB w b1 [.int .i64 lo]) (h2 : OldB w b2 [.int .i64 hi]) :
    Calls Tryz.prog 71 #[.int .i64 x, .pointer (some ⟨b1, 0, none⟩), .pointer (some ⟨b2, 0, none⟩)] w (Ret w (.bool (!inB5 lo hi x))) := by
  refine K_enter (S := []) (K := []) Tryz.func71 rfl Tryz.ntmps71 rfl (Sat.start _) ?_
  refine TW.seq fun Y1 hY1 => ?_
  refine TW.region ?_
  refine TL.p Pu.as ?_
  refine TL.nil ?_
  refine TQ.thenN (hY1 _ _ ?_)
  refine TW.seq fun Y2 hY2 => ?_
  refine TW.join [(4, .bool (decide (x < lo) || decide (hi < x)))] ?_ (fun hJ1 => ?_)
  · refine TQ.thenN (hY2 _ _ ?_)
    refine TW.ret ?_
    refine TQ.ret Tryz.results71 rfl ((.tmp rfl .nil)) ?_
    exact fun w hw => ⟨ret_bool (by unfold inB5; rw [Bool.eq_iff_iff]; simp only [Bool.not_eq_true', Bool.and_eq_false_iff, Bool.or_eq_true, decide_eq_true_eq, decide_eq_false_iff_not]; omega), Chg.ext hw.chg⟩
  refine TW.region ?_
  refine TL.p Pu.mv ?_
  refine TL.p (by first | exact (Pu.ld ty_sc3) | exact (Pu.ldo ty_sc3)) ?_
  refine TL.p Pu.lt ?_
  refine TL.p Pu.mv ?_
  refine TL.guard (t := 8) rfl (fun hg1 => ?_) (fun hg1 => ?_)
  · refine TL.gs ?_
    refine TL.gs ?_
    refine TL.gs ?_
    refine TL.p Pu.kt ?_
    refine TL.p Pu.as ?_
    refine TL.nil ?_
    exact TQ.sub (by repeat (first | exact trivial | refine ⟨rfl, ?_⟩ | refine ⟨trivial, ?_⟩ | refine ⟨(by show some (Value.bool _) = some (Value.bool _); simp [hg1]), ?_⟩)) (by repeat (first | exact KSub.nil | refine KSub.cons (by repeat (first | exact Pick.hd | apply Pick.tl)) ?_)) hJ1
  · refine TL.gd Pu.mv ?_
    refine TL.gd (by first | exact (Pu.ld ty_sc3) | exact (Pu.ldo ty_sc3)) ?_
    refine TL.gd Pu.gt ?_
    refine TL.p Pu.kf ?_
    refine TL.p Pu.as ?_
    refine TL.nil ?_
    exact TQ.sub (by repeat (first | exact trivial | refine ⟨rfl, ?_⟩ | refine ⟨trivial, ?_⟩ | refine ⟨(by show some (Value.bool _) = some (Value.bool _); simp [hg1]), ?_⟩)) (by repeat (first | exact KSub.nil | refine KSub.cons (by repeat (first | exact Pick.hd | apply Pick.tl)) ?_)) hJ1
theorem in_any (lo hi : Int) {A : Option Addr} {n cp : Nat} {v : Nat → Int} {w : World} (hn : n ≤ 9223372036854775807) (hR : RdR w 1 A n (fun k => [.int .i64 (v k)])) :
    Calls Tryz.prog 41 #[.int .i64 lo, .int .i64 hi, .slice A n cp] w (Ret w (.bool (allB n fun k => inB5 lo hi (v k)))) := by
  refine K_enter (S := []) (K := []) Tryz.func41 rfl Tryz.ntmps41 rfl (Sat.start _) ?_
  refine TW.seq fun Y1 hY1 => ?_
  refine TW.region ?_
  refine TL.m Mk.bx ?_
  intro b1
  refine TL.m Mk.bx ?_
  intro b2
  refine TL.p Pu.as ?_
  refine TL.nil ?_
  refine TQ.thenN (hY1 _ _ ?_)
  refine TW.seq fun Y2 hY2 => ?_
  refine TW.region ?_
  refine TL.p Pu.mv ?_
  refine TL.p Pu.fn ?_
  refine TL.cr rfl (enters Tryz.func70 rfl rfl) (fun w hw => by
      have h1 := OldB.of_blk (hw.holds (.blk b1 3 [.int .i64 lo]) (by simp))
      have h2 := OldB.of_blk (hw.holds (.blk b2 3 [.int .i64 hi]) (by simp))
      exact hasInt_any (fs := []) (p := fun k => !inB5 lo hi (v k)) (enters Tryz.func71 rfl rfl) hn (hR.sat hw Apart.nil) fun k hk w' hb => in1_any _ _ _ b1 b2 w' (h1.ext hb) (h2.ext hb)) ?_
  refine TL.p Pu.no ?_
  refine TL.p Pu.as ?_
  refine TL.nil ?_
  refine TQ.thenN (hY2 _ _ ?_)
  refine TW.ret ?_
  refine TQ.ret Tryz.results41 rfl ((.tmp rfl .nil)) ?_
  exact fun w hw => ⟨ret_bool (by rw [not_anyB]; simp), Chg.ext hw.chg⟩
theorem RdR.blk {w : World} {b : Nat} {E : TypeId} {cs : List Value} {n sz : Nat} {r : Nat → List Value} (h : Blk w b E cs.toArray) (hr : flatR n r = cs) (hl : ∀ i, i < n → (r i).length = sz) (hz : Nat.blt 0 sz = true := by rfl) (hn : Nat.ble n 1000000 = true := by rfl) : RdR w sz (some ⟨b, 0, none⟩) n r :=
  (OwnR.of_blk h hr hl hz hn).rdr
theorem inOne_any (lo hi x : Int) {b E : Nat} {w : World} (h : Blk w b E #[.int .i64 x]) :
    Calls Tryz.prog 41 #[.int .i64 lo, .int .i64 hi, .slice (some ⟨b, 0, none⟩) 1 1] w (Ret w (.bool (inB5 lo hi x))) := by
  have := in_any lo hi (n := 1) (cp := 1) (v := fun _ => x) (by decide) (RdR.blk (cs := [.int .i64 x]) h rfl (fun _ _ => rfl))
  simpa [allB] using this
theorem inTwo_any (lo hi x y : Int) {b E : Nat} {w : World} (h : Blk w b E #[.int .i64 x, .int .i64 y]) :
    Calls Tryz.prog 41 #[.int .i64 lo, .int .i64 hi, .slice (some ⟨b, 0, none⟩) 2 2] w (Ret w (.bool (inB5 lo hi x && inB5 lo hi y))) := by
  have := in_any lo hi (n := 2) (cp := 2) (v := fun k => if k = 0 then x else y) (by decide) (RdR.blk (cs := [.int .i64 x, .int .i64 y]) h rfl (fun _ _ => rfl))
  simpa [allB, List.range_succ] using this
theorem proper_any (a b lo hi : Int) (w : World) :
    Calls Tryz.prog 73 #[.agg #[.int .i64 a, .int .i64 b], .int .i64 lo, .int .i64 hi] w (Ret w (.bool (ordB5 lo hi a b))) := by
  refine K_enter (S := []) (K := []) Tryz.func73 rfl Tryz.ntmps73 rfl (Sat.start _) ?_
  refine TW.seq fun Y1 hY1 => ?_
  refine TW.region ?_
  refine TL.m Mk.bx ?_
  intro b1
  refine TL.p Pu.as ?_
  refine TL.nil ?_
  refine TQ.thenN (hY1 _ _ ?_)
  refine TW.seq fun Y2 hY2 => ?_
  refine TW.join [(6, .bool (decide (a ≤ b) && (inB5 lo hi a && inB5 lo hi b)))] ?_ (fun hJ1 => ?_)
  · refine TQ.thenN (hY2 _ _ ?_)
    refine TW.ret ?_
    refine TQ.ret Tryz.results73 rfl ((.tmp rfl .nil)) ?_
    exact fun w hw => ⟨ret_bool (by unfold ordB5 inB5; rw [Bool.eq_iff_iff]; simp only [Bool.and_eq_true, decide_eq_true_eq]; omega), Chg.ext hw.chg⟩
  refine TW.region ?_
  refine TL.p (by first | exact Pu.fb ty_fa47_0 | exact Pu.fe ty_fa47_0) ?_
  refine TL.p (Pu.ld ty_sc3) ?_
  refine TL.p (by first | exact Pu.fb ty_fa47_1 | exact Pu.fe ty_fa47_1) ?_
  refine TL.p (Pu.ld ty_sc3) ?_
  refine TL.p Pu.le ?_
  refine TL.p Pu.mv ?_
  refine TL.guard (t := 12) rfl (fun hg1 => ?_) (fun hg1 => ?_)
  · refine TL.gd Pu.mv ?_
    refine TL.gd Pu.mv ?_
    refine TL.gd (by first | exact Pu.fb ty_fa47_0 | exact Pu.fe ty_fa47_0) ?_
    refine TL.gd (Pu.ld ty_sc3) ?_
    refine TL.gd (by first | exact Pu.fb ty_fa47_1 | exact Pu.fe ty_fa47_1) ?_
    refine TL.gd (Pu.ld ty_sc3) ?_
    refine TL.gm Mk.bl ?_
    intro b2
    refine TL.cr rfl (enters Tryz.func41 rfl rfl) (fun w hw => by
        exact inTwo_any _ _ _ _ (hw.holds _ (List.mem_cons_self ..))) ?_
    refine TL.p Pu.kt ?_
    refine TL.p Pu.as ?_
    refine TL.nil ?_
    exact TQ.sub (by repeat (first | exact trivial | refine ⟨rfl, ?_⟩ | refine ⟨trivial, ?_⟩ | refine ⟨(by show some (Value.bool _) = some (Value.bool _); simp [hg1]), ?_⟩)) (by repeat (first | exact KSub.nil | refine KSub.cons (by repeat (first | exact Pick.hd | apply Pick.tl)) ?_)) hJ1
  · refine TL.gs ?_
    refine TL.gs ?_
    refine TL.gs ?_
    refine TL.gs ?_
    refine TL.gs ?_
    refine TL.gs ?_
    refine TL.gs ?_
    refine TL.gs ?_
    refine TL.p Pu.kf ?_
    refine TL.p Pu.as ?_
    refine TL.nil ?_
    exact TQ.sub (by repeat (first | exact trivial | refine ⟨rfl, ?_⟩ | refine ⟨trivial, ?_⟩ | refine ⟨(by show some (Value.bool _) = some (Value.bool _); simp [hg1]), ?_⟩)) (by repeat (first | exact KSub.nil | refine KSub.cons (by repeat (first | exact Pick.hd | apply Pick.tl)) ?_)) hJ1
end Go.Proofs.YtljhdcclajikiaaGreatDoor
