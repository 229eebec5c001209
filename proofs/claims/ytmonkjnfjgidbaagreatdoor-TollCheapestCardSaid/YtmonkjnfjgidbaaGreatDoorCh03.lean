/-
  Part 3 of the proof of tollCheapest_holds: declarations of several texts, in build order. No condition on a program.
-/
import Derived.Test.YtmonkjnfjgidbaaGreatDoorCh02
import Derived.MapKept
import Derived.Carry
import Derived.Lib.AppendZerosOnto
import Derived.Laws.OwnMore
namespace Go.Proofs.YtmonkjnfjgidbaaGreatDoor
set_option linter.all false
set_option linter.unusedVariables false
set_option linter.unusedSimpArgs false
open Go.RowKit
inductive Drop (F : Fr) : List Fact → List Fact → Prop
  | done {K : List Fact} : Drop F K K
  | blk {K K1 K0 : List Fact} {b o : Nat} {T : TypeId} {cs : List Value} (x : Nat) : fget F x = some (.pointer (some ⟨b, o, none⟩)) → Pick K (.blk b T cs) K1 → Drop F K1 K0 → Drop F K K0
  | own {K K1 K0 : List Fact} {A : Option Addr} {n cp sz : Nat} {E : TypeId} {r : Nat → List Value} (x : Nat) : fget F x = some (.slice A n cp) → Pick K (.own A n cp E sz r) K1 → Drop F K1 K0 → Drop F K K0
theorem KSub.refl : ∀ K : List Fact, KSub K K
  | [] => .nil
  | _ :: K => .cons .hd (KSub.refl K)
def Has (K K0 : List Fact) : Prop := ∃ R, K.Perm (K0 ++ R)
theorem Has.sat {S : List Nat} {w0 w : World} {K K0 : List Fact} (h : Has K K0) (hs : Sat S w0 K w) : Sat S w0 K0 w := by
  obtain ⟨R, hp⟩ := h
  have h1 := hs.perm hp
  refine ⟨h1.chg, (List.nodup_append.1 (feet_append K0 R ▸ h1.nd)).1, fun b hb => h1.ge b (by rw [feet_append]; simp [hb]), fun φ hφ => h1.holds φ (by simp [hφ])⟩
theorem Drop.has {F : Fr} {K K0 : List Fact} (h : Drop F K K0) : Has K K0 := by
  induction h with
  | done => exact ⟨[], by simp⟩
  | blk x _ hp _ ih => obtain ⟨R, hR⟩ := ih; exact ⟨_ :: R, hp.perm.trans ((hR.cons _).trans List.perm_middle.symm)⟩
  | own x _ hp _ ih => obtain ⟨R, hR⟩ := ih; exact ⟨_ :: R, hp.perm.trans ((hR.cons _).trans List.perm_middle.symm)⟩
inductive HasL : List Fact → List Fact → Prop
  | nil {K : List Fact} : HasL K []
  | cons {K K1 L : List Fact} {φ : Fact} : Pick K φ K1 → HasL K1 L → HasL K (φ :: L)
theorem HasL.has {K L : List Fact} (h : HasL K L) : Has K L := by
  induction h with
  | @nil K => exact ⟨K, by simp⟩
  | cons hp _ ih => obtain ⟨R, hR⟩ := ih; exact ⟨R, hp.perm.trans (hR.cons _)⟩
section
variable {c : Cx} {Q : Exit → Act → World → Prop} {F F' : Fr} {K K' K0 : List Fact} {ops : Array Oper} {rest : List Oper} {d : Option Tmp} {ty : TypeId} {pos : String} {af : Array Edge} {g : Option (Nat × Bool)} {k fuel t : Nat} {pend : List (Nat × Oper)} {listed : Array Bool} {op : Op}
def Eq2 (P : Program) (T : TypeId) : Prop := ∀ (w : World) (x y : Operand) (i j m n : Int), (do eqGuard .eql T x y (.agg #[.int .i64 i, .int .i64 j]) (.agg #[.int .i64 m, .int .i64 n]); binOp .eql T (.agg #[.int .i64 i, .int .i64 j]) (.agg #[.int .i64 m, .int .i64 n]) : Sem Value).run P w = .ok (.bool (decide (i = m) && decide (j = n))) w
theorem Pu.q2 {x y : Operand} {xt yt : TypeId} {i j m n : Int} (hT : Eq2 c.P xt) (hx : ev F x = some (.agg #[.int .i64 i, .int .i64 j]) := by rfl) (hy : ev F y = some (.agg #[.int .i64 m, .int .i64 n]) := by rfl) : Pu c F K ⟨d, .binOp .eql xt x y yt, ty, pos, af, g⟩ (.bool (decide (i = m) && decide (j = n))) := Pu.bin hx hy fun w => hT w x y i j m n
theorem Pu.qu {x y : Operand} {xt yt : TypeId} {i j : Int} (hx : ev F x = some (.int .i64 i) := by rfl) (hy : ev F y = some (.int .i64 j) := by rfl) (h0 : 0 ≤ i ∧ i ≤ 9223372036854775807 ∧ 0 < j := by omega) : Pu c F K ⟨d, .binOp .quo xt x y yt, ty, pos, af, g⟩ (.int .i64 (i / j)) := Pu.bin hx hy fun w => by
  obtain ⟨h0, h1, h2⟩ := h0
  have hj : j ≠ 0 := by omega
  have e : i.tdiv j = i / j := Int.tdiv_eq_ediv_of_nonneg h0
  have h3 : 0 ≤ i / j := Int.ediv_nonneg h0 (by omega)
  have h4 : i / j ≤ i := Int.ediv_le_self j h0
  simp only [eqGuard, binOp, Op.intDiv, hj, if_false, e, IntWalk.i64_in (i / j) (by omega)]
  rfl
theorem Pu.rm {x y : Operand} {xt yt : TypeId} {i j : Int} (hx : ev F x = some (.int .i64 i) := by rfl) (hy : ev F y = some (.int .i64 j) := by rfl) (h0 : 0 ≤ i ∧ 0 < j := by omega) : Pu c F K ⟨d, .binOp .rem xt x y yt, ty, pos, af, g⟩ (.int .i64 (i % j)) := Pu.bin hx hy fun w => by
  obtain ⟨h0, h2⟩ := h0
  have hj : j ≠ 0 := by omega
  have e : i.tmod j = i % j := Int.tmod_eq_emod_of_nonneg h0
  simp only [eqGuard, binOp, Op.intDiv, hj, if_false, e]
  rfl
def RF (c : Cx) (ops : Array Oper) (Q : Exit → Act → World → Prop) (K0 : List Fact) (k : Nat) (rest : List Oper) (pend : List (Nat × Oper)) (listed : Array Bool) (fuel : Nat) (F : Fr) (K : List Fact) : Prop :=
  ops.toList.drop k = rest → (∀ p ∈ pend, ops[p.1]? = some p.2) → Pan Q → ∀ a w, FS c.n c.D F a → Sat c.S c.w0 K w → wpAnyH c.P .any ops Q (Sat c.S c.w0 K0) fuel listed a w
theorem TW.rf {id : Nat} {l : List Oper} (hd : Drop F K K0) (h : RF c l.toArray Q K0 0 l [] (Array.replicate l.length false) l.length F K) (hm : c.P.follows .mixedOrders = true := by rfl) (hp : Pan Q := by (intro d _ _ _ _; cases d <;> exact Iff.rfl)) : TW c (.region id l.toArray true) Q F K := fun a w hF hK => by
  refine wp_region_any hm (wpAny_of_held (S := Sat c.S c.w0 K0) _ _ _ _ ?_)
  have := h rfl (fun p hp => by cases hp) hp a w.drew hF (hK.ext (keep_drew w))
  rw [List.size_toArray]
  exact this
theorem RF.head {o : Oper} (h : ops.toList.drop k = o :: rest) : ops[k]? = some o ∧ ops.toList.drop (k + 1) = rest := by
  constructor
  · have := congrArg (·[0]?) h
    simpa [List.getElem?_drop] using this
  · have := congrArg List.tail h
    simpa [List.drop_drop, Nat.add_comm] using this
def takeA (ops : Array Oper) (l : Array Bool) (i : Nat) : Bool := Region.noSelect ops && Region.free .any ops l i && (Region.ready .any ops l).contains i
theorem RF.tk {v : Value} (hp : Pu c F K0 ⟨some t, op, ty, pos, af, g⟩ v) (h : RF c ops Q K0 (k + 1) rest pend (listed.setIfInBounds k true) fuel ((t, v) :: F) K) (hh : HasL K K0 := by repeat (first | exact HasL.nil | refine HasL.cons (by repeat (first | exact Pick.hd | apply Pick.tl)) ?_)) (hk : takeA ops listed k = true := by kernel_rfl) (hg : gdB F ops g = some true := by rfl) (hd : Nat.blt t c.n = true := by rfl) :
    RF c ops Q K0 k (⟨some t, op, ty, pos, af, g⟩ :: rest) pend listed (fuel + 1) F K := fun h1 h2 h3 a w hF hK => by
  obtain ⟨e1, e2⟩ := RF.head h1
  simp only [takeA, Bool.and_eq_true] at hk
  exact wpAnyH_take e1 hk.1.1 hk.1.2 hk.2 (fun ch a w h => (h3 _ v ch a w).1 h) (.inl ⟨hF.wanted hg, fun w' hS => hp a w' hF hS⟩) (hh.has.sat hK) (h e2 h2 h3 _ w (hF.put hd v) hK)
theorem RF.ks {o : Oper} (h : RF c ops Q K0 (k + 1) rest (pend ++ [(k, o)]) listed fuel F K) : RF c ops Q K0 k (o :: rest) pend listed fuel F K := fun h1 h2 h3 a w hF hK => by
  obtain ⟨e1, e2⟩ := RF.head h1
  exact h e2 (fun p hp => by
    rcases List.mem_append.1 hp with hp | hp
    · exact h2 p hp
    · simp only [List.mem_singleton] at hp; subst hp; exact e1) h3 a w hF hK
def RG (c : Cx) (ops : Array Oper) (Q : Exit → Act → World → Prop) (K0 : List Fact) (pend : List (Nat × Oper)) (listed : Array Bool) (fuel : Nat) (F : Fr) (K : List Fact) : Prop :=
  (∀ p ∈ pend, ops[p.1]? = some p.2) → ∀ a w, FS c.n c.D F a → Sat c.S c.w0 K w → wpAnyH c.P .any ops Q (Sat c.S c.w0 K0) fuel listed a w
theorem RF.go (h : RG c ops Q K0 pend listed fuel F K) : RF c ops Q K0 k [] pend listed fuel F K := fun _ h2 _ a w hF hK => h h2 a w hF hK
theorem RG.nil (h : TQ c Q .normal F K) (hr : (Region.ready .any ops listed).isEmpty = true := by kernel_rfl) : RG c ops Q K0 [] listed fuel F K := fun _ a w hF hK => wpAnyH_done (List.isEmpty_iff.1 hr) (h a w hF hK) fuel
def nxt (Z : Act → World → Prop) (Q : Exit → Act → World → Prop) : Exit → Act → World → Prop
  | .normal, a, w => Z a w
  | e, a, w => Q e a w
theorem RG.step {i : Nat} {o : Oper} (h : ∀ Z : Act → World → Prop, (∀ F2 K2, HasL K2 K0 → RG c ops Q K0 pend (listed.setIfInBounds i true) fuel F2 K2 → TQ c (fun _ => Z) .normal F2 K2) → TL c ops (nxt Z Q) [o] F K) (hr : (Region.ready .any ops listed == [i]) = true := by kernel_rfl) : RG c ops Q K0 ((i, o) :: pend) listed (fuel + 1) F K := fun h2 a w hF hK => by
  have hr' : Region.ready .any ops listed = [i] := by simpa using hr
  refine wpAnyH_all hr' (by simp) fun j hj => ?_
  simp only [List.mem_singleton] at hj
  subst hj
  have h1 := h (fun a' w' => Sat c.S c.w0 K0 w' ∧ wpAnyH c.P .any ops Q (Sat c.S c.w0 K0) fuel (listed.setIfInBounds j true) a' w') (fun F2 K2 hh hg a' w' hF2 hK2 => ⟨hh.has.sat hK2, hg (fun p hp => h2 p (by simp [hp])) a' w' hF2 hK2⟩) a w hF hK
  unfold wpList at h1
  unfold wpOp
  simp only [h2 (j, o) (by simp)]
  split
  · rename_i hw
    rw [if_pos hw] at h1
    rcases h1 with h1 | ⟨hA, hL⟩
    · refine .inl ?_
      unfold Oper.wp at *
      generalize (execOp a.eval o).run c.P w = r at *
      cases r with
      | ok x w' =>
        cases x <;> simp only [Oper.upon] at h1 ⊢ <;> first
          | exact h1
          | exact Calls.mono h1 (fun e w'' he => by
              cases e with
              | returned v => exact he
              | panicked ch => exact he
              | outgrown => obtain ⟨x, y, z⟩ := he; exact ⟨x, y, z⟩)
          | exact Rows.mono h1 (fun _ _ he => he)
      | halt x w' => cases x <;> simp only [Oper.upon] at h1 ⊢ <;> exact h1
    · obtain ⟨x, y, z⟩ := hL
      exact .inr ⟨hA, x, y, z⟩
  · rename_i hw
    rw [if_neg hw] at h1
    exact h1
theorem TQ.nxt {Z : Act → World → Prop} (h : TQ c (fun _ => Z) .normal F K) : TQ c (nxt Z Q) .normal F K := h
end
end Go.Proofs.YtmonkjnfjgidbaaGreatDoor
namespace Go.Proofs.YtmonkjnfjgidbaaGreatDoor
set_option linter.all false
set_option linter.unusedVariables false
set_option linter.unusedSimpArgs false
open Go.RowKit
section
variable {c : Cx} {Q : Exit → Act → World → Prop} {F F' : Fr} {K K' K0 : List Fact} {ops : Array Oper} {rest : List Oper} {d : Option Tmp} {ty : TypeId} {pos : String} {af : Array Edge} {g : Option (Nat × Bool)} {k fuel t nf : Nat} {pend : List (Nat × Oper)} {listed : Array Bool} {bs : List Bool} {fl : List Fl} {op : Op}
theorem wpList_yes' {P : Program} {o : Oper} {v : Value} {a : Act} {w w' : World} (hg : Region.wanted o (yielded ops a.tmps) = true) (hr : (execOp a.eval o).run P w = .ok (.value v) w') (h : wpList P ops Q rest (a.put o.dst v) w') : wpList P ops Q (o :: rest) a w := by
  unfold wpList
  rw [if_pos hg]
  exact .inl (by unfold Oper.wp; rw [hr]; exact h)
theorem TL.gm {v : Nat → Value} {T : TypeId} {cs : List Value} (hm : Mk c F K ⟨d, op, ty, pos, af, g⟩ v T cs) (h : ∀ b, TL c ops Q rest (fput F d (v b)) (.blk b T cs :: K)) (hg : gdB F ops g = some true := by rfl) (hd : dok d c.n = true := by rfl) : TL c ops Q (⟨d, op, ty, pos, af, g⟩ :: rest) F K := fun a w hF hK =>
  wpList_yes' (hF.wanted hg) (hm a w hF hK) (h _ _ _ (hF.fput hd _) (hK.new T cs))
theorem run_callv {P : Program} {f : FuncId} {fs us cs : List Value} {w : World} {x : Operand} {xs : List Operand} {ts : Array TypeId} {o : Oper} {ρ : Operand → Value} (hf : ρ x = .func (.func f) fs.toArray cs.toArray) (hx : xs.map ρ = us) (hen : Enters P f) (ho : o.op = .call { callee := .value x, args := xs.toArray, argTypes := ts }) :
    (execOp ρ o).run P w = .ok (.enter f (fs ++ us ++ cs).toArray) w := by
  have h9 := hen (fs ++ us ++ cs).toArray w
  have e : fs.toArray ++ us.toArray ++ cs.toArray = (fs ++ us ++ cs).toArray := by simp
  simp only [execOp, ho, resolve, hf, Deferred.ofValue, List.map_toArray, hx, Sem.run_bind, Sem.run_pure, Result.andThen_ok, invoke, e]
  exact h9
theorem TL.cv {f : FuncId} {x : Operand} {xs : List Operand} {ts : Array TypeId} {us fs cs : List Value} {v : Value} (hf : ev F x = some (.func (.func f) fs.toArray cs.toArray)) (hx : evs F xs = some us) (hen : Enters c.P f) (hc : ∀ w, Sat c.S c.w0 K w → Calls c.P f (fs ++ us ++ cs).toArray w (Ret w v)) (h : TL c ops Q rest (fput F d v) K) (hg : gdB F ops g = some true := by rfl) (hd : dok d c.n = true := by rfl) :
    TL c ops Q (⟨d, .call { callee := .value x, args := xs.toArray, argTypes := ts }, ty, pos, af, g⟩ :: rest) F K := fun a w hF hK => by
  unfold wpList
  rw [if_pos (hF.wanted hg)]
  refine .inl ?_
  unfold Oper.wp
  rw [run_callv (hF.evl hf) (hF.evsl hx) hen rfl]
  refine Calls.mono (hc w hK) ?_
  rintro e w' ⟨rfl, hb⟩
  exact h _ _ (hF.fput hd _) (hK.ext hb)
theorem WK.cv {i : Nat} {f : FuncId} {x : Operand} {xs : List Operand} {ts : Array TypeId} {us fs cs : List Value} {v : Value} (hf : ev F x = some (.func (.func f) fs.toArray cs.toArray)) (hx : evs F xs = some us) (hen : Enters c.P f) (hc : ∀ w, Sat c.S c.w0 K w → Calls c.P f (fs ++ us ++ cs).toArray w (Ret w v)) (h : WK c ops Q nf fl bs pend (fput F d v) K) (hg : gdB F (frontOf ops nf) g = some true := by rfl) (hd : dok d c.n = true := by rfl) :
    WK c ops Q nf fl (false :: bs) ((i, ⟨d, .call { callee := .value x, args := xs.toArray, argTypes := ts }, ty, pos, af, g⟩) :: pend) F K :=
  WK.act fun a w' K' hF hK ho hK' => by
    refine wpOp_of ho (hF.wanted hg) ?_
    unfold Oper.wp
    rw [run_callv (hF.evl hf) (hF.evsl hx) hen rfl]
    refine Calls.mono (hc w' hK) ?_
    rintro e w'' ⟨rfl, hb⟩
    exact hK' _ [] _ _ (Sat.nil (Chg.of_ext hb)) (hF.fput hd _) h
theorem TL.cvk {f : FuncId} {x : Operand} {xs : List Operand} {ts : Array TypeId} {us fs cs : List Value} {M : List Fact} {X : Type} {val : X → Value} {L : X → List Fact} (hf : ev F x = some (.func (.func f) fs.toArray cs.toArray)) (hx : evs F xs = some us) (hen : Enters c.P f) (hM : K.Perm (M ++ K'))
    (hc : ∀ w, Sat c.S c.w0 K w → CallsK c.P f (fs ++ us ++ cs).toArray M w X val L) (h : ∀ x, TL c ops Q rest (fput F d (val x)) (L x ++ K')) (hd : dok d c.n = true := by rfl) : TL c ops Q (⟨d, .call { callee := .value x, args := xs.toArray, argTypes := ts }, ty, pos, af, none⟩ :: rest) F K := fun a w hF hK =>
  wpList_plain rfl fun Z hZ => by
    unfold Oper.wp
    rw [run_callv (hF.evl hf) (hF.evsl hx) hen rfl]
    refine Calls.mono (hc w hK) ?_
    rintro e w' ⟨x, rfl, hs⟩
    exact hZ _ _ (h x _ _ (hF.fput hd _) ((hK.perm hM).step hs))
def Try (w : World) (pan : Int → List PanicEntry) (code : Int) (v : Value) (e : Ending) (w' : World) : Prop := Below w.heap.size w w' ∧ e = if code = 0 then .returned v else .panicked (pan code)
theorem TQ.pan {fn : Func} {R : Ending → World → Prop} {ch : List PanicEntry} (hD : c.D = []) (h : ∀ w, Sat c.S c.w0 K w → R (.panicked ch) w) : TQ c (bodyPost c.P fn R) (.panic ch) F K := fun a w hF hK => ⟨hF.dfs.trans hD, h w hK⟩
theorem Try.ok {w w' : World} {pan : Int → List PanicEntry} {code : Int} {v : Value} {L : List Fact} (hc : code = 0) (h : Sat [] w L w') : Try w pan code v (.returned v) w' := ⟨Chg.ext h.chg, by rw [if_pos hc]⟩
theorem Try.no {w w' : World} {pan : Int → List PanicEntry} {code : Int} {v : Value} {L : List Fact} (hc : code ≠ 0) (h : Sat [] w L w') : Try w pan code v (.panicked (pan code)) w' := ⟨Chg.ext h.chg, by rw [if_neg hc]⟩
def OldB (w0 : World) (b : Nat) (cs : List Value) : Prop := b < w0.heap.size ∧ ∀ j v, cs[j]? = some v → w0.cell? ⟨b, j, none⟩ = some v
theorem CellsN.ob {b off m : Nat} {cs vs : List Value} (h : OldB c.w0 b cs) (hS : Apart c.S (some ⟨b, 0, none⟩)) (hs : SubL cs off m vs) : CellsN c K (some ⟨b, off, none⟩) m vs := ⟨fun w hK => ⟨b, off, rfl, fun j v hv => by
  rw [hK.chg.cell h.1 (hS b rfl)]
  exact h.2 _ _ (hs.spec.2 j v hv)⟩, hs.spec.1⟩
theorem OldB.of_blk {w0 : World} {b : Nat} {T : TypeId} {cs : List Value} (h : Blk w0 b T cs.toArray) : OldB w0 b cs := ⟨h.lt, fun j v hv => by rw [h.cell]; simpa using hv⟩
theorem OldB.ext {w w' : World} {b : Nat} {cs : List Value} (h : OldB w b cs) (he : Below w.heap.size w w') : OldB w' b cs := ⟨Nat.lt_of_lt_of_le h.1 he.size, fun j v hv => by rw [he.cell (p := ⟨b, j, none⟩) h.1]; exact h.2 j v hv⟩
theorem OldB.sat {w w0 : World} {S : List Nat} {b : Nat} {cs : List Value} (h : OldB w0 b cs) (hs : Sat S w0 K w) (hb : b ∉ S) : OldB w b cs := ⟨Nat.lt_of_lt_of_le h.1 hs.chg.size, fun j v hv => by rw [hs.chg.cell h.1 hb]; exact h.2 j v hv⟩
theorem Pu.ldo {x : Operand} {T : TypeId} {q : Option Addr} {v : Value} (hT : Sc c.P T) (hx : ev F x = some (.pointer q) := by rfl) (hq : CellsN c K q 1 [v] := by exact CellsN.ob (by assumption) (by first | exact Apart.nil | assumption) (by repeat (first | exact SubL.nil | apply SubL.take | apply SubL.drop))) : Pu c F K ⟨d, .load T x, ty, pos, af, g⟩ v := Pu.load hx hT hq.1
theorem Pu.ldso {x : Operand} {T : TypeId} {m : Nat} {q : Option Addr} {vs : List Value} (hT : Ag c.P T m) (hx : ev F x = some (.pointer q) := by rfl) (hq : CellsN c K q m vs := by exact CellsN.ob (by assumption) (by first | exact Apart.nil | assumption) (by repeat (first | exact SubL.nil | apply SubL.take | apply SubL.drop))) : Pu c F K ⟨d, .load T x, ty, pos, af, g⟩ (.agg vs.toArray) := Pu.loads hx hT hq.1 hq.2
end
theorem Rd.chg {w w' : World} {S : List Nat} {sz n : Nat} {A : Option Addr} {f : Nat → Nat → Value} (h : Rd w sz A n f) (hc : Chg S w w') (hA : Apart S A) : Rd w' sz A n f := fun hn => by
  obtain ⟨b, o, rfl, hb, hcell⟩ := h hn
  exact ⟨b, o, rfl, Nat.lt_of_lt_of_le hb hc.size, fun i j hi hj => by rw [hc.cell hb (hA b rfl)]; exact hcell i j hi hj⟩
theorem RdR.chg {w w' : World} {S : List Nat} {sz n : Nat} {A : Option Addr} {r : Nat → List Value} (h : RdR w sz A n r) (hc : Chg S w w') (hA : Apart S A) : RdR w' sz A n r := ⟨h.rd.chg hc hA, h.len⟩
theorem RdR.sat {w w' : World} {S : List Nat} {K : List Fact} {sz n : Nat} {A : Option Addr} {r : Nat → List Value} (h : RdR w sz A n r) (hs : Sat S w K w') (hA : Apart S A) : RdR w' sz A n r := h.chg hs.chg hA
theorem RdR.sat0 {w w' : World} {S : List Nat} {K : List Fact} {sz n : Nat} {A : Option Addr} {r : Nat → List Value} (h : RdR w sz A n r) (hs : Sat S w K w') (hA : 0 < n → Apart S A) : RdR w' sz A n r :=
  ⟨fun hn => h.rd.chg hs.chg (hA hn) hn, h.len⟩
theorem RdR.apart {w : World} {S : List Nat} {sz n : Nat} {A : Option Addr} {r : Nat → List Value} (h : RdR w sz A n r) (hS : ∀ b ∈ S, w.heap.size ≤ b) (hn : 0 < n) : Apart S A := fun b hb hm => by
  obtain ⟨q, o, e, hq, _⟩ := h.rd hn
  subst e
  cases hb
  have : w.heap.size ≤ q := hS _ hm
  omega
theorem Sat.self {S : List Nat} {w0 w : World} {K : List Fact} (h : Sat S w0 K w) : Sat (feet K) w K w := ⟨Chg.refl _ _, h.nd, fun _ hb => .inl hb, h.holds⟩
theorem Sat.from {S T : List Nat} {w0 w1 w : World} {K : List Fact} (h : Sat T w1 K w) (hc : Chg S w0 w1) (hT : ∀ b ∈ T, b ∈ S ∨ w0.heap.size ≤ b) : Sat S w0 K w :=
  ⟨⟨h.chg.os.trans hc.os, h.chg.tape.trans hc.tape, h.chg.output.trans hc.output, Nat.le_trans hc.size h.chg.size, fun i hi hS => (h.chg.block i (Nat.lt_of_lt_of_le hi hc.size) (fun hm => by
      rcases hT i hm with h1 | h1
      · exact hS h1
      · omega)).trans (hc.block i hi hS)⟩, h.nd, fun b hb => by
    rcases h.ge b hb with h1 | h1
    · exact hT b h1
    · exact .inr (Nat.le_trans hc.size h1), h.holds⟩
theorem CallsK.retOf {P : Program} {f : FuncId} {args : Array Value} {w : World} {X : Type} {val : X → Value} {v : Value} (h : CallsK P f args [] w X val (fun _ => [])) (hv : ∀ x, val x = v) : Calls P f args w (Ret w v) :=
  Calls.mono h fun e w' ⟨x, he, hs⟩ => ⟨by rw [he, hv x], Chg.ext hs.chg⟩
section
variable {c : Cx} {Q : Exit → Act → World → Prop} {F F' : Fr} {K K' K0 : List Fact} {ops : Array Oper} {listed : Array Bool} {fuel : Nat}
def RGo (c : Cx) (ops : Array Oper) (Q : Exit → Act → World → Prop) (K0 : List Fact) (listed : Array Bool) (fuel : Nat) (F : Fr) (K : List Fact) (i : Nat) (o : Oper) : Prop :=
  ∀ Z : Act → World → Prop, (∀ F2 K2, HasL K2 K0 → RG c ops Q K0 [] (listed.setIfInBounds i true) fuel F2 K2 → TQ c (fun _ => Z) .normal F2 K2) → TL c ops (nxt Z Q) [o] F K
theorem RG.all {l : List Nat} (hr : Region.ready .any ops listed = l) (hne : l ≠ []) (h : ∀ i ∈ l, ∃ o, ops[i]? = some o ∧ RGo c ops Q K0 listed fuel F K i o) : RG c ops Q K0 [] listed (fuel + 1) F K := fun _ a w hF hK => by
  refine wpAnyH_all hr hne fun j hj => ?_
  obtain ⟨o, ho, h⟩ := h j hj
  have h1 := h (fun a' w' => Sat c.S c.w0 K0 w' ∧ wpAnyH c.P .any ops Q (Sat c.S c.w0 K0) fuel (listed.setIfInBounds j true) a' w') (fun F2 K2 hh hg a' w' hF2 hK2 => ⟨hh.has.sat hK2, hg (fun p hp => by cases hp) a' w' hF2 hK2⟩) a w hF hK
  unfold wpList at h1
  unfold wpOp
  simp only [ho]
  split
  · rename_i hw
    rw [if_pos hw] at h1
    rcases h1 with h1 | ⟨hA, hL⟩
    · refine .inl ?_
      unfold Oper.wp at *
      generalize (execOp a.eval o).run c.P w = r at *
      cases r with
      | ok x w' =>
        cases x <;> simp only [Oper.upon] at h1 ⊢ <;> first
          | exact h1
          | exact Calls.mono h1 (fun e w'' he => by
              cases e with
              | returned v => exact he
              | panicked ch => exact he
              | outgrown => obtain ⟨x, y, z⟩ := he; exact ⟨x, y, z⟩)
          | exact Rows.mono h1 (fun _ _ he => he)
      | halt x w' => cases x <;> simp only [Oper.upon] at h1 ⊢ <;> exact h1
    · obtain ⟨x, y, z⟩ := hL
      exact .inr ⟨hA, x, y, z⟩
  · rename_i hw
    rw [if_neg hw] at h1
    exact h1
theorem RG.a1 (i : Nat) {o : Oper} (ho : ops[i]? = some o) (h : RGo c ops Q K0 listed fuel F K i o) (hr : Region.ready .any ops listed = [i] := by kernel_rfl) : RG c ops Q K0 [] listed (fuel + 1) F K :=
  RG.all hr (by simp) fun j hj => by
    simp only [List.mem_singleton] at hj; subst hj; exact ⟨o, ho, h⟩
theorem RG.a2 (i j : Nat) {o o' : Oper} (ho : ops[i]? = some o) (ho' : ops[j]? = some o') (h : RGo c ops Q K0 listed fuel F K i o) (h' : RGo c ops Q K0 listed fuel F K j o') (hr : Region.ready .any ops listed = [i, j] := by kernel_rfl) : RG c ops Q K0 [] listed (fuel + 1) F K :=
  RG.all hr (by simp) fun k hk => by
    simp only [List.mem_cons, List.not_mem_nil, or_false] at hk
    rcases hk with rfl | rfl
    · exact ⟨o, ho, h⟩
    · exact ⟨o', ho', h'⟩
theorem RG.tk (i : Nat) {op : Op} {ty : TypeId} {pos : String} {af : Array Edge} {g : Option (Nat × Bool)} {t : Nat} {v : Value} (ho : ops[i]? = some ⟨some t, op, ty, pos, af, g⟩) (hp : Pu c F K0 ⟨some t, op, ty, pos, af, g⟩ v) (h : RG c ops Q K0 [] (listed.setIfInBounds i true) fuel ((t, v) :: F) K) (hh : HasL K K0 := by repeat (first | exact HasL.nil | refine HasL.cons (by repeat (first | exact Pick.hd | apply Pick.tl)) ?_)) (hk : takeA ops listed i = true := by kernel_rfl) (hg : gdB F ops g = some true := by rfl) (hd : Nat.blt t c.n = true := by rfl) (hpan : Pan Q := by (intro d _ _ _ _; cases d <;> exact Iff.rfl)) :
    RG c ops Q K0 [] listed (fuel + 1) F K := fun h1 a w hF hK => by
  simp only [takeA, Bool.and_eq_true] at hk
  exact wpAnyH_take ho hk.1.1 hk.1.2 hk.2 (fun ch a w h => (hpan _ v ch a w).1 h) (.inl ⟨hF.wanted hg, fun w' hS => hp a w' hF hS⟩) (hh.has.sat hK) (h h1 _ w (hF.put hd v) hK)
theorem TW.ex0 {id : Nat} {l : List Oper} (hd : Drop F K K0) (h2 : RG c l.toArray Q K0 [] (Array.replicate l.length false) l.length F K) (hm : c.P.follows .mixedOrders = true := by rfl) : TW c (.region id l.toArray true) Q F K := fun a w hF hK => by
  refine wp_region_any hm (wpAny_of_held (S := Sat c.S c.w0 K0) _ _ _ _ ?_)
  rw [List.size_toArray]
  exact h2 (fun p hp => by cases hp) a w.drew hF (hK.ext (keep_drew w))
theorem TW.expl {id : Nat} {l : List Oper} {X : Type} (Fj : X → Fr) (Kj : X → List Fact) (hd : Drop F K K0) (h1 : ∀ x, TQ c Q .normal (Fj x) (Kj x)) (h2 : (∀ x, TQ c Q .normal (Fj x) (Kj x)) → RG c l.toArray Q K0 [] (Array.replicate l.length false) l.length F K) (hm : c.P.follows .mixedOrders = true := by rfl) : TW c (.region id l.toArray true) Q F K := TW.ex0 hd (h2 h1) hm
end
theorem pk9 {K K2 : List Fact} {φ : Fact} (h : Pick K φ K2 := by repeat (first | exact Pick.hd | apply Pick.tl)) : Pick K φ K2 := h
theorem fs9 {F G : Fr} (h : fsub F G := by repeat (first | exact trivial | refine ⟨rfl, ?_⟩ | refine ⟨trivial, ?_⟩)) : fsub F G := h
theorem ks9 {K L : List Fact} (h : KSub K L := by repeat (first | exact KSub.nil | refine KSub.cons (by repeat (first | exact Pick.hd | apply Pick.tl)) ?_)) : KSub K L := h
theorem kt9 {K L : List Fact} (h : KSub K L := by repeat (first | exact KSub.nil | refine KSub.cons (by repeat (first | exact Pick.hd | apply Pick.tl)) ?_ | exact KSub.refl _ | refine KSub.drop ?_)) : KSub K L := h
theorem hl9 {K L : List Fact} (h : HasL K L := by repeat (first | exact HasL.nil | refine HasL.cons (by repeat (first | exact Pick.hd | apply Pick.tl)) ?_)) : HasL K L := h
end Go.Proofs.YtmonkjnfjgidbaaGreatDoor
namespace Go.Proofs.YtmonkjnfjgidbaaGreatDoor
set_option linter.all false
set_option linter.unusedVariables false
set_option linter.unusedSimpArgs false
open Go.RowKit Go.MapKept
def ents (kk : IntKind) : Nat → List (Int × Value) → List MapEntry
  | _, [] => []
  | s, (k, v) :: l => { key := .int kk k, val := v, born := s } :: ents kk (s + 1) l
def mapO (kk : IntKind) (l : List (Int × Value)) : Obj := .map (ents kk 0 l).toArray l.length
def mlook (i : Int) : List (Int × Value) → Option Value
  | [] => none
  | (k, v) :: l => if i = k then some v else mlook i l
def mput (i : Int) (v : Value) : List (Int × Value) → List (Int × Value)
  | [] => [(i, v)]
  | (k, u) :: l => if i = k then (k, v) :: l else (k, u) :: mput i v l
def mfind (i : Int) : Nat → List (Int × Value) → Option (Nat × Value)
  | _, [] => none
  | q, (k, v) :: l => if i = k then some (q, v) else mfind i (q + 1) l
theorem findNow_ents (kk : IntKind) (i : Int) : ∀ (l : List (Int × Value)) (s q : Nat), Instr.findNow (.int kk) (.int kk i) (ents kk s l) q = some (mfind i q l)
  | [], _, _ => rfl
  | (k, v) :: l, s, q => by
    by_cases h : i = k
    · subst h; simp [ents, Instr.findNow, Instr.sameNow, mfind]
    · have hb : (i == k) = false := by simpa using h
      simp [ents, Instr.findNow, Instr.sameNow, mfind, h, hb, findNow_ents kk i l (s + 1) (q + 1)]
theorem mfind_look (i : Int) : ∀ (l : List (Int × Value)) (q : Nat), (mfind i q l).map (·.2) = mlook i l
  | [], _ => rfl
  | (k, v) :: l, q => by
    by_cases h : i = k
    · simp [mfind, mlook, h]
    · simp [mfind, mlook, h, mfind_look i l (q + 1)]
theorem mput_none {i : Int} {v : Value} {kk : IntKind} : ∀ {l : List (Int × Value)} {q s : Nat}, mfind i q l = none → ents kk s (mput i v l) = ents kk s l ++ [{ key := .int kk i, val := v, born := s + l.length }] ∧ (mput i v l).length = l.length + 1
  | [], _, _, _ => ⟨rfl, rfl⟩
  | (k, u) :: l, q, s, h => by
    by_cases hk : i = k
    · simp [mfind, hk] at h
    · simp only [mfind, hk, if_false] at h
      obtain ⟨h1, h2⟩ := mput_none (v := v) (kk := kk) (s := s + 1) h
      simp only [mput, hk, if_false, ents, h1, List.length_cons, h2, List.cons_append, and_true]
      congr 3
      all_goals simp; try omega
theorem mput_some {i : Int} {v u : Value} {kk : IntKind} : ∀ {l : List (Int × Value)} {q s p : Nat}, mfind i q l = some (q + p, u) → (ents kk s (mput i v l)) = (ents kk s l).modify p (fun e => { e with key := .int kk i, val := v }) ∧ (mput i v l).length = l.length ∧ ∃ b, (ents kk s l)[p]? = some { key := .int kk i, val := u, born := b }
  | [], _, _, _, h => by simp [mfind] at h
  | (k, u') :: l, q, s, p, h => by
    by_cases hk : i = k
    · simp [mfind, hk] at h
      obtain ⟨h1, h2⟩ := h
      subst h1 h2 hk
      exact ⟨by simp [mput, ents], by simp [mput], s, by simp [ents]⟩
    · simp only [mfind, hk, if_false] at h
      have hp : 0 < p := by
        rcases Nat.eq_zero_or_pos p with rfl | hp
        · exfalso
          have := mfind_ge h
          omega
        · exact hp
      obtain ⟨p', rfl⟩ : ∃ p', p = p' + 1 := ⟨p - 1, by omega⟩
      rw [show q + (p' + 1) = (q + 1) + p' by omega] at h
      obtain ⟨h1, h2, b, h3⟩ := mput_some (v := v) (kk := kk) (s := s + 1) h
      exact ⟨by simp [mput, hk, ents, h1], by simp [mput, hk, h2], b, by simpa [ents] using h3⟩
where
  mfind_ge {i : Int} {u : Value} : ∀ {l : List (Int × Value)} {q p : Nat}, mfind i q l = some (p, u) → q ≤ p
    | [], _, _, h => by simp [mfind] at h
    | (k, u') :: l, q, p, h => by
      by_cases hk : i = k
      · simp [mfind, hk] at h; omega
      · simp only [mfind, hk, if_false] at h
        have := mfind_ge h
        omega
structure MapT (P : Program) (T kt et : TypeId) (kk : IntKind) : Prop where
  map : P.underlying T = some (.map kt et)
  key : P.underlying kt = some (.int kk)
theorem isKey_int (kk : IntKind) (i : Int) : IsKey (.int kk) (.int kk i) := by simp [IsKey]
theorem run_getObj_o {P : Program} {w : World} {b : Nat} {kk : IntKind} {l : List (Int × Value)} (hb : w.heap[b]? = some (mapO kk l)) : (getObj b).run P w = .ok (.map (ents kk 0 l).toArray l.length) w := by
  unfold mapO at hb
  exact Go.MapKept.run_getObj_map hb
theorem run_setObj_o {P : Program} {w : World} {b : Nat} {kk : IntKind} {l : List (Int × Value)} (o : Obj) (hb : w.heap[b]? = some (mapO kk l)) : (setObj b o).run P w = .ok () { w with heap := w.heap.setIfInBounds b o } := by
  unfold mapO at hb
  exact Go.MapKept.run_setObj_map o hb
theorem run_lookup_o {P : Program} {T kt et : TypeId} {kk : IntKind} {w : World} {b : Nat} {l : List (Int × Value)} {i : Int} {z : Value} (hT : MapT P T kt et kk) (hb : w.heap[b]? = some (mapO kk l)) (hz : (zeroValue et).run P w = .ok z w) (ok : Bool) :
    (Instr.lookup T (.map (some b)) (.int kk i) ok).run P w = .ok (if ok then .tuple #[(mlook i l).getD z, .bool (mlook i l).isSome] else (mlook i l).getD z) w := by
  have h0 := findNow_ents kk i l 0 0
  have hf : (Instr.findKey kt (.int kk i) (ents kk 0 l)).run P w = .ok (mfind i 0 l) w := run_findKey hT.key h0
  have hl := mfind_look i l 0
  unfold Instr.lookup
  simp only [Sem.run_bind, run_underlying hT.map, Result.andThen_ok, run_getObj_o hb, Sem.run_pure, run_checkKey hT.key (isKey_int kk i), hf]
  cases hm : mfind i 0 l with
  | none =>
    rw [hm] at hl
    have hl' : mlook i l = none := by simpa using hl.symm
    simp [hz, hl', Result.andThen_ok]
  | some x =>
    rw [hm] at hl
    have hl' : mlook i l = some x.2 := by simpa using hl.symm
    simp [hl', Result.andThen_ok]
theorem run_mapUpdate_o {P : Program} {T kt et : TypeId} {kk : IntKind} {w : World} {b : Nat} {l : List (Int × Value)} {i : Int} {v : Value} (hT : MapT P T kt et kk) (hb : w.heap[b]? = some (mapO kk l)) :
    (Instr.mapUpdate T (.map (some b)) (.int kk i) v).run P w = .ok () { w with heap := w.heap.setIfInBounds b (mapO kk (mput i v l)) } := by
  have h0 := findNow_ents kk i l 0 0
  have hf : (Instr.findKey kt (.int kk i) (ents kk 0 l)).run P w = .ok (mfind i 0 l) w := run_findKey hT.key h0
  unfold Instr.mapUpdate
  simp only [Sem.run_bind, run_underlying hT.map, Result.andThen_ok, run_getObj_o hb, run_checkKey hT.key (isKey_int kk i), hf]
  cases hm : mfind i 0 l with
  | none =>
    obtain ⟨h1, h2⟩ := mput_none (v := v) (kk := kk) (s := 0) hm
    simp only [run_setObj_o _ hb]
    unfold mapO
    rw [h1, h2]
    simp
  | some x =>
    obtain ⟨p, u⟩ := x
    obtain ⟨h1, h2, c, h3⟩ := mput_some (v := v) (kk := kk) (s := 0) (p := p) (q := 0) (by rw [hm, Nat.zero_add])
    have hk : ((((ents kk 0 l).toArray[p]?).map (·.key)).getD (Value.int kk i)) = .int kk i := by simp [h3]
    have hkeep : (Instr.keyThatStays (.int kk i) (.int kk i)).run P w = .ok (.int kk i) w := by simp [Instr.keyThatStays, Instr.sameBits]
    simp only [hk, hkeep, Sem.run_bind, Result.andThen_ok, run_setObj_o _ hb]
    unfold mapO
    rw [h1, h2]
    simp
section
variable {c : Cx} {Q : Exit → Act → World → Prop} {F F' : Fr} {K K' K0 : List Fact} {ops : Array Oper} {rest : List Oper} {d : Option Tmp} {ty : TypeId} {pos : String} {af : Array Edge} {g : Option (Nat × Bool)} {k fuel t nf : Nat} {pend : List (Nat × Oper)} {listed : Array Bool} {bs : List Bool} {fl : List Fl} {op : Op}
theorem Sat.newObj {S : List Nat} {w0 w : World} (h : Sat S w0 K w) (o : Obj) (ho : o.isCells = false) : Sat S w0 (.obj w.heap.size o :: K) (w.alloc o) :=
  h.add (L := [_]) (Sat.one (Chg.of_ext ((Below.refl _ _).alloc (Nat.le_refl _) _)) (by simp [Fact.foot]) (fun b hb => by simp [Fact.foot] at hb; subst hb; exact .inr (Nat.le_refl _)) ⟨(heap_alloc w o).1, ho⟩)
theorem TL.mm {T : TypeId} {kk : IntKind} (h : ∀ b, TL c ops Q rest ((t, .map (some b)) :: F) (.obj b (mapO kk []) :: K)) (hd : Nat.blt t c.n = true := by rfl) : TL c ops Q (⟨some t, .makeMap T none, ty, pos, af, none⟩ :: rest) F K := fun a w hF hK =>
  wpList_plain rfl fun Z hZ => by
    have hr : (execOp a.eval ⟨some t, .makeMap T none, ty, pos, af, none⟩).run c.P w = .ok (.value (.map (some w.heap.size))) (w.alloc (.map #[] 0)) := by
      simp [execOp, run_makeMap]
    unfold Oper.wp
    rw [hr]
    exact hZ _ _ (h _ _ _ (hF.put hd _) (hK.newObj _ rfl))
theorem TL.mu {m x y : Operand} {T kt et : TypeId} {kk : IntKind} {b : Nat} {i : Int} {v : Value} {l : List (Int × Value)} (hT : MapT c.P T kt et kk) (h : TL c ops Q rest F (.obj b (mapO kk (mput i v l)) :: K')) (hm : ev F m = some (.map (some b)) := by rfl) (hx : ev F x = some (.int kk i) := by rfl) (hy : ev F y = some v := by rfl)
    (hp : Pick K (.obj b (mapO kk l)) K' := by repeat (first | exact Pick.hd | apply Pick.tl)) : TL c ops Q (⟨none, .mapUpdate T m x y, ty, pos, af, none⟩ :: rest) F K := fun a w hF hK => by
  have hs := hK.pick hp
  have hb : w.heap[b]? = some (mapO kk l) := (hs.holds (.obj b (mapO kk l)) (by simp)).1
  have hr := run_mapUpdate_o (i := i) (v := v) hT hb
  refine wpList_skip rfl (w' := { w with heap := w.heap.setIfInBounds b (mapO kk (mput i v l)) }) ?_ (h a _ hF (hs.turn ?_ (by simp [Fact.foot]) (fun q hq => .inl hq) ⟨(heap_set hb).1, rfl⟩))
  · simp [execOp, hF.evl hm, hF.evl hx, hF.evl hy, hr]
  · exact ⟨rfl, rfl, rfl, by simp, fun q _ hq => (heap_set hb).2 q (by simpa [Fact.foot] using hq)⟩
theorem Pu.l1 {x y : Operand} {T kt et : TypeId} {kk : IntKind} {b : Nat} {i : Int} {z : Value} {l : List (Int × Value)} (hT : MapT c.P T kt et kk) (hz : ∀ w, (zeroValue et).run c.P w = .ok z w) (hx : ev F x = some (.map (some b)) := by rfl) (hy : ev F y = some (.int kk i) := by rfl)
    (hp : Pick K (.obj b (mapO kk l)) K' := by repeat (first | exact Pick.hd | apply Pick.tl)) : Pu c F K ⟨d, .lookup T x y false, ty, pos, af, g⟩ ((mlook i l).getD z) := fun a w hF hK => by
  have hb : w.heap[b]? = some (mapO kk l) := (hK.holds _ hp.mem).1
  have hr := run_lookup_o (i := i) hT hb (hz w) false
  simp [execOp, hF.evl hx, hF.evl hy, hr]
end
end Go.Proofs.YtmonkjnfjgidbaaGreatDoor
namespace Go.Proofs.YtmonkjnfjgidbaaGreatDoor
set_option linter.all false
set_option linter.unusedVariables false
set_option linter.unusedSimpArgs false
open Go.RowKit
theorem flat_take {sz : Nat} {f : Nat → Nat → Value} : ∀ {n m : Nat}, m ≤ n → (flat sz n f).take (m * sz) = flat sz m f
  | 0, m, h => by
    have : m = 0 := by omega
    subst this
    simp [flat]
  | n + 1, m, h => by
    by_cases hm : m = n + 1
    · subst hm
      exact List.take_of_length_le (by rw [flat_length]; exact Nat.le_refl _)
    · rw [flat_succ, List.take_append_of_le_length (by rw [flat_length]; exact Nat.mul_le_mul_right sz (by omega))]
      exact flat_take (by omega)
theorem own_feet {A : Option Addr} {n m cp : Nat} {E : TypeId} {sz : Nat} {r s : Nat → List Value} {K : List Fact} : feet (.own A n cp E sz r :: K) = feet (.own A m cp E sz s :: K) := by
  cases A <;> rfl
theorem OwnR.take {w : World} {A : Option Addr} {n m cp : Nat} {E : TypeId} {sz : Nat} {r : Nat → List Value} (h : OwnR w A n cp E sz r) (hm : m ≤ n) : OwnR w A m cp E sz r := by
  refine ⟨?_, fun i hi => h.len i (by omega)⟩
  rcases h.own.2 with ⟨e, h0⟩ | ⟨g, cap, cur, e, hg, hh, hnc, hcm, hcs, ht⟩
  · injection e with e1 e2 e3
    subst e1 e2 e3
    have : m = 0 := by omega
    subst this
    exact h.own
  · injection e with e1 e2 e3
    subst e1 e3
    refine ⟨by simp [flat_length], .inr ⟨g, cp, cur, rfl, hg, hh, by omega, hcm, hcs, ?_⟩⟩
    have h2 : (cur.toList.take (n * sz)).take (m * sz) = (flat sz n (rowF r)).take (m * sz) := by rw [ht]
    rw [List.take_take, Nat.min_eq_left (Nat.mul_le_mul_right sz hm)] at h2
    rw [h2]
    exact flat_take hm
theorem KSub.drop {φ : Fact} : ∀ {K L : List Fact}, KSub K L → KSub (φ :: K) L
  | _, _, .nil => .nil
  | _, _, .nilOwn h => .nilOwn (KSub.drop h)
  | _, _, .cons hp h => .cons (.tl hp) (KSub.drop h)
  | _, _, .own hp hr h => .own (.tl hp) hr (KSub.drop h)
  | _, _, .ofBlk hp h1 h2 h3 h4 h => .ofBlk (.tl hp) h1 h2 h3 h4 (KSub.drop h)
section
variable {c : Cx} {Q : Exit → Act → World → Prop} {F F' : Fr} {K K' K0 : List Fact} {ops : Array Oper} {rest : List Oper} {d : Option Tmp} {ty : TypeId} {pos : String} {af : Array Edge} {g : Option (Nat × Bool)} {t : Nat}
theorem Pu.cp {T E : TypeId} {x : Operand} {A : Option Addr} {n cp : Nat} (ht : c.P.underlying T = some (.slice E)) (hx : ev F x = some (.slice A n cp) := by rfl) : Pu c F K ⟨d, .call { callee := .builtin .cap, args := #[x], argTypes := #[T] }, ty, pos, af, g⟩ (.int .i64 cp) := fun a w hF _ => by
  simp [execOp, resolve, invoke, builtin, Builtin.cap_, hF.evl hx, run_underlying ht, goInt]
theorem Pu.sh {T E : TypeId} {sz bytes : Nat} {x y : Operand} {A : Option Addr} {n cp q : Nat} {i : Int} (hT : ElemT c.P T E sz bytes) (hx : ev F x = some (.slice A n cp) := by rfl) (hy : ev F y = some (.int .i64 i) := by rfl) (hk : i.toNat = q := by first | exact tnS _ | exact Int.toNat_natCast _ | rfl) (h0 : 0 ≤ i := by omega) (h1 : i ≤ cp := by omega) : Pu c F K ⟨d, .slice T x none (some y) none, ty, pos, af, g⟩ (.slice A q cp) := fun a w hF _ => by
  obtain ⟨i', z, hi, hz, hs, hb, hzs⟩ := hT.hi
  have hsz : (sizeOf E).run c.P w = .ok sz w := by simp [sizeOf, typeInfo, hi, hs]
  have hA : A.map (fun x => x.add 0) = A := by
    cases A with
    | none => rfl
    | some p => simp [Addr.add]
  subst hk
  simp [execOp, Instr.sliceAt, Instr.slice, hF.evl hx, hF.evl hy, run_underlying hT.ht, Instr.sliceBounds, Instr.sliceBound, asIntOf, h0, h1, hsz, hA]
theorem TL.take {A : Option Addr} {n m cp : Nat} {E : TypeId} {sz : Nat} {r : Nat → List Value} (hp : Pick K (.own A n cp E sz r) K') (hm : m ≤ n) (h : TL c ops Q rest F (.own A m cp E sz r :: K')) : TL c ops Q rest F K := fun a w hF hK => by
  have hs := hK.pick hp
  have hb : OwnR w A n cp E sz r := hs.holds (.own A n cp E sz r) (by simp)
  refine h a w hF ⟨hs.chg, by rw [own_feet]; exact hs.nd, by rw [own_feet]; exact hs.ge, fun φ hφ => ?_⟩
  rcases List.mem_cons.1 hφ with rfl | hφ
  · exact hb.take hm
  · exact hs.holds φ (by simp [hφ])
theorem made_flat {z : Array Value} {sz : Nat} (hz : z.size = sz) (hp : 0 < sz) (n : Nat) : (madeCells z (n * sz)).toList = flat sz n (rowF fun _ => z.toList) := by
  refine List.ext_getElem (by simp [madeCells, flat_length]) fun q h1 h2 => ?_
  have hq : q < n * sz := by simpa [flat_length] using h2
  have hdiv : q / sz < n := Nat.div_lt_of_lt_mul (by rw [Nat.mul_comm]; exact hq)
  have hmod : q % sz < sz := Nat.mod_lt _ hp
  have hg := flat_get (f := rowF fun _ => z.toList) hdiv hmod
  rw [Nat.mul_comm (q / sz), Nat.div_add_mod] at hg
  have h3 : (flat sz n (rowF fun _ => z.toList))[q]? = some ((flat sz n (rowF fun _ => z.toList))[q]) := List.getElem?_eq_getElem h2
  rw [hg] at h3
  injection h3 with h3
  rw [← h3]
  subst hz
  simp [madeCells, rowF, List.getD_eq_getElem?_getD, hmod]
theorem TL.ms {T E : TypeId} {sz bytes : Nat} {x y : Operand} {i : Int} {k : Nat} {zs : List Value} {kl kc : IntKind} (hT : ElemT c.P T E sz bytes) (hZ : Zr c.P E zs) (h : ∀ b, TL c ops Q rest (fput F d (.slice (some ⟨b, 0, none⟩) k k)) (.own (some ⟨b, 0, none⟩) k k E sz (fun _ => zs) :: K)) (hx : ev F x = some (.int kl i) := by rfl) (hy : ev F y = some (.int kc i) := by rfl) (hk : i.toNat = k := by first | exact Int.toNat_natCast _ | rfl) (h0 : 0 ≤ i := by omega) (h1 : i ≤ 1000000000 := by omega) (hby : bytes ≤ 10000 := by decide) (hd : dok d c.n = true := by rfl) :
    TL c ops Q (⟨d, .makeSlice T x y, ty, pos, af, none⟩ :: rest) F K := fun a w hF hK =>
  wpList_plain rfl fun Z hZ' => by
    subst hk
    obtain ⟨i', z, hi, hz, hs, hb, hzs⟩ := hT.hi
    obtain ⟨k, rfl⟩ : ∃ k : Nat, i = (k : Int) := ⟨i.toNat, by omega⟩
    simp only [Int.toNat_natCast] at *
    have hkb : bytes * k ≤ 10000 * 1000000000 := Nat.mul_le_mul hby (by omega)
    obtain ⟨w', hr, hown, hgr⟩ := run_make_full (P := c.P) w 0 T E i' z sz hT.ht hi hz hs kl kc k (by rw [hb]; omega) (by simp only [maxLen]; omega) (Nat.zero_le _)
    have hr2 : (execOp a.eval ⟨d, .makeSlice T x y, ty, pos, af, none⟩).run c.P w = .ok (.value (.slice (some ⟨w.heap.size, 0, none⟩) k k)) w' := by
      simp only [execOp, hF.evl hx, hF.evl hy, Sem.run_bind, hr, Result.andThen_ok, Sem.run_pure]
    unfold Oper.wp
    rw [hr2]
    have hzc : z.cells.toList = zs := by
      obtain ⟨z', h2, h3⟩ := hZ
      have h4 := h3 w
      simp [zeroValue, typeInfo, hi, hz] at h4
      rw [h4, h2]
    refine hZ' _ _ (h _ _ _ (hF.fput hd _) ?_)
    have hO : OwnR w' (some ⟨w.heap.size, 0, none⟩) k k E sz (fun _ => zs) := by
      refine ⟨?_, fun q _ => by rw [← hzc]; simpa using hzs⟩
      have := hown
      rw [made_flat hzs hT.pos, hzc] at this
      exact this
    exact hK.add (L := [_]) (Sat.one (Chg.grown hgr) (by simp [Fact.foot]) (fun b hb => by simp [Fact.foot] at hb; subst hb; exact .inr (Nat.le_refl _)) hO)
theorem TL.ob {b : Nat} {E : TypeId} {sz : Nat} {r : Nat → List Value} (hp : Pick K (.blk b E []) K') (hz : Nat.blt 0 sz = true) (h : TL c ops Q rest F (.own (some ⟨b, 0, none⟩) 0 0 E sz r :: K')) : TL c ops Q rest F K := fun a w hF hK => by
  have hs := hK.pick hp
  have hb : Blk w b E #[] := hs.holds (.blk b E []) (by simp)
  have ho : OwnR w (some ⟨b, 0, none⟩) 0 0 E sz r := OwnR.of_blk (cs := []) hb rfl (fun _ h => by omega) hz rfl
  refine h a w hF ⟨hs.chg, hs.nd, hs.ge, fun φ hφ => ?_⟩
  rcases List.mem_cons.1 hφ with rfl | hφ
  · exact ho
  · exact hs.holds φ (by simp [hφ])
theorem TL.az {T N E : TypeId} {sz bytes : Nat} {x y : Operand} {i : Int} {k : Nat} {r : Nat → List Value} {kn : IntKind} (hT : ElemT c.P T E sz bytes) (hN : c.P.underlying N = some (.int kn)) (h : ∀ b cp, k ≤ cp → cp ≤ maxLen → TL c ops Q rest (fput F d (.slice (some ⟨b, 0, none⟩) k cp)) (.own (some ⟨b, 0, none⟩) 0 cp E sz r :: K)) (hx : ev F x = some (.slice none 0 0) := by rfl) (hy : ev F y = some (.int .i64 i) := by rfl) (hk : i.toNat = k := by first | exact tnS _ | exact Int.toNat_natCast _ | rfl) (h0 : 0 < i := by omega) (h1 : i ≤ 1000000000 := by omega) (hby : bytes ≤ 10000 := by decide) (hd : dok d c.n = true := by rfl) :
    TL c ops Q (⟨d, .call { callee := .builtin .append, args := #[x, y], argTypes := #[T, N] }, ty, pos, af, none⟩ :: rest) F K := fun a w hF hK =>
  wpList_plain rfl fun Z hZ => by
    subst hk
    obtain ⟨i', z, hi, hz, hs, hb, hzs⟩ := hT.hi
    obtain ⟨k, rfl⟩ : ∃ k : Nat, i = (k : Int) := ⟨i.toNat, by omega⟩
    have hk0 : 0 < k := by omega
    have hk1 : k ≤ 1000000000 := by omega
    have hpos := hT.pos
    have hcap := nextslicecap_zero hk0
    have hkb : k * bytes ≤ 1000000000 * 10000 := Nat.mul_le_mul hk1 hby
    have hr := Go.Lib.run_append_grow_zeros (P := c.P) w T N ty E i' z .i64 kn hT.ht hN hi hz none 0 0 [] rfl k hk0 (by omega) (by omega) (by omega) (by rw [hb]; omega) (by rw [Nat.zero_add, hcap, hb]; omega)
    simp only [Nat.zero_add] at hr
    have hr2 : (execOp a.eval ⟨d, .call { callee := .builtin .append, args := #[x, y], argTypes := #[T, N] }, ty, pos, af, none⟩).run c.P w = .ok (.value (.slice (some ⟨w.heap.size, 0, none⟩) k (grownCap w k 0 E))) (w.drew.alloc (.cells (#[] ++ Builtin.zeroCells z.cells k ++ Builtin.zeroCells z.cells (grownCap w k 0 E - k)) E)) := by
      simp only [execOp, resolve, invoke, builtin, Sem.run_bind, Sem.run_pure, Result.andThen_ok, List.map_toArray, List.map_cons, List.map_nil, hF.evl hx, hF.evl hy, hr]
    unfold Oper.wp
    rw [hr2]
    have hge := grownCap_ge w k 0 E
    have hml := grownCap_le_maxLen w k 0 E (by simp only [maxLen]; omega)
    refine hZ _ _ (h _ _ hge hml _ _ (hF.fput hd _) ?_)
    have hown : OwnR (w.drew.alloc (.cells (#[] ++ Builtin.zeroCells z.cells k ++ Builtin.zeroCells z.cells (grownCap w k 0 E - k)) E)) (some ⟨w.heap.size, 0, none⟩) 0 (grownCap w k 0 E) E sz r := ⟨World.ownsRow_made (size := sz) w.drew _ _ (Nat.zero_le _) hml (by
      simp only [Array.size_append, size_zeroCells, hzs]
      show 0 + k * sz + (grownCap w k 0 E - k) * sz = _
      rw [Nat.zero_add, ← Nat.add_mul, Nat.add_sub_cancel' hge]), fun _ h => by omega⟩
    exact (hK.ext (keep_drew w)).add (L := [_]) (Sat.one (Chg.of_ext ((Below.refl _ _).alloc (Nat.le_refl _) _)) (by simp [Fact.foot]) (fun b hb => by simp [Fact.foot] at hb; subst hb; exact .inr (Nat.le_refl _)) hown)
end
end Go.Proofs.YtmonkjnfjgidbaaGreatDoor
namespace Go.Proofs.YtmonkjnfjgidbaaGreatDoor
set_option linter.all false
set_option linter.unusedVariables false
set_option linter.unusedSimpArgs false
open Go.RowKit
theorem ty_i3 : (Tryz.prog.info? 3).map (fun i => (i.zero, i.size, i.bytes)) = some (some (.int .i64 0), 1, 8) := by kernel_rfl
theorem ty_sz3 : Sz Tryz.prog 3 1 := fun w => by obtain ⟨i, h1, h2, h3, h4⟩ := info_parts ty_i3; simp [sizeOf, typeInfo, h1, h3]
theorem ty_zr3 : Zr Tryz.prog 3 [.int .i64 0] := ⟨.int .i64 0, rfl, fun w => by obtain ⟨i, h1, h2, h3, h4⟩ := info_parts ty_i3; simp [zeroValue, typeInfo, h1, h2]⟩
theorem ty_sc3 : Sc Tryz.prog 3 := fun w => by simp [isAgg, run_underlying Tryz.underlying3]
theorem ty_i4 : (Tryz.prog.info? 4).map (fun i => (i.zero, i.size, i.bytes)) = some (some (.bool false), 1, 1) := by kernel_rfl
theorem ty_sz4 : Sz Tryz.prog 4 1 := fun w => by obtain ⟨i, h1, h2, h3, h4⟩ := info_parts ty_i4; simp [sizeOf, typeInfo, h1, h3]
theorem ty_zr4 : Zr Tryz.prog 4 [.bool false] := ⟨.bool false, rfl, fun w => by obtain ⟨i, h1, h2, h3, h4⟩ := info_parts ty_i4; simp [zeroValue, typeInfo, h1, h2]⟩
theorem ty_sc4 : Sc Tryz.prog 4 := fun w => by simp [isAgg, run_underlying Tryz.underlying4]
theorem ty_i5 : (Tryz.prog.info? 5).map (fun i => (i.zero, i.size, i.bytes)) = some (some (.int .u8 0), 1, 1) := by kernel_rfl
theorem ty_sz5 : Sz Tryz.prog 5 1 := fun w => by obtain ⟨i, h1, h2, h3, h4⟩ := info_parts ty_i5; simp [sizeOf, typeInfo, h1, h3]
theorem ty_zr5 : Zr Tryz.prog 5 [.int .u8 0] := ⟨.int .u8 0, rfl, fun w => by obtain ⟨i, h1, h2, h3, h4⟩ := info_parts ty_i5; simp [zeroValue, typeInfo, h1, h2]⟩
theorem ty_sc5 : Sc Tryz.prog 5 := fun w => by simp [isAgg, run_underlying Tryz.underlying5]
theorem ty_i22 : (Tryz.prog.info? 22).map (fun i => (i.zero, i.size, i.bytes)) = some (some (.slice none 0 0), 1, 24) := by kernel_rfl
theorem ty_sz22 : Sz Tryz.prog 22 1 := fun w => by obtain ⟨i, h1, h2, h3, h4⟩ := info_parts ty_i22; simp [sizeOf, typeInfo, h1, h3]
theorem ty_sc22 : Sc Tryz.prog 22 := fun w => by simp [isAgg, run_underlying Tryz.underlying22]
theorem ty_i23 : (Tryz.prog.info? 23).map (fun i => (i.zero, i.size, i.bytes)) = some (some (.slice none 0 0), 1, 24) := by kernel_rfl
theorem ty_sz23 : Sz Tryz.prog 23 1 := fun w => by obtain ⟨i, h1, h2, h3, h4⟩ := info_parts ty_i23; simp [sizeOf, typeInfo, h1, h3]
theorem ty_sc23 : Sc Tryz.prog 23 := fun w => by simp [isAgg, run_underlying Tryz.underlying23]
theorem ty_i25 : (Tryz.prog.info? 25).map (fun i => (i.zero, i.size, i.bytes)) = some (some (.agg #[.slice none 0 0, .slice none 0 0]), 2, 48) := by kernel_rfl
theorem ty_sz25 : Sz Tryz.prog 25 2 := fun w => by obtain ⟨i, h1, h2, h3, h4⟩ := info_parts ty_i25; simp [sizeOf, typeInfo, h1, h3]
theorem ty_zr25 : Zr Tryz.prog 25 [.slice none 0 0, .slice none 0 0] := ⟨.agg #[.slice none 0 0, .slice none 0 0], rfl, fun w => by obtain ⟨i, h1, h2, h3, h4⟩ := info_parts ty_i25; simp [zeroValue, typeInfo, h1, h2]⟩
theorem ty_ag25 : Ag Tryz.prog 25 2 := ⟨fun w => by simp [isAgg, run_underlying Tryz.underlying25], ty_sz25⟩
theorem ty_fa25_0 : FieldAt Tryz.prog 25 0 0 := fieldAt_of 0 0 22 1 Tryz.underlying25 (by kernel_rfl) ty_sz22 (by kernel_rfl)
theorem ty_fa25_1 : FieldAt Tryz.prog 25 1 1 := fieldAt_of 1 1 23 1 Tryz.underlying25 (by kernel_rfl) ty_sz23 (by kernel_rfl)
theorem ty_i26 : (Tryz.prog.info? 26).map (fun i => (i.zero, i.size, i.bytes)) = some (some (.slice none 0 0), 1, 24) := by kernel_rfl
theorem ty_sz26 : Sz Tryz.prog 26 1 := fun w => by obtain ⟨i, h1, h2, h3, h4⟩ := info_parts ty_i26; simp [sizeOf, typeInfo, h1, h3]
theorem ty_sc26 : Sc Tryz.prog 26 := fun w => by simp [isAgg, run_underlying Tryz.underlying26]
theorem ty_i27 : (Tryz.prog.info? 27).map (fun i => (i.zero, i.size, i.bytes)) = some (some (.slice none 0 0), 1, 24) := by kernel_rfl
theorem ty_sz27 : Sz Tryz.prog 27 1 := fun w => by obtain ⟨i, h1, h2, h3, h4⟩ := info_parts ty_i27; simp [sizeOf, typeInfo, h1, h3]
theorem ty_sc27 : Sc Tryz.prog 27 := fun w => by simp [isAgg, run_underlying Tryz.underlying27]
theorem ty_i28 : (Tryz.prog.info? 28).map (fun i => (i.zero, i.size, i.bytes)) = some (some (.slice none 0 0), 1, 24) := by kernel_rfl
theorem ty_sz28 : Sz Tryz.prog 28 1 := fun w => by obtain ⟨i, h1, h2, h3, h4⟩ := info_parts ty_i28; simp [sizeOf, typeInfo, h1, h3]
theorem ty_sc28 : Sc Tryz.prog 28 := fun w => by simp [isAgg, run_underlying Tryz.underlying28]
theorem ty_i30 : (Tryz.prog.info? 30).map (fun i => (i.zero, i.size, i.bytes)) = some (some (.agg #[.slice none 0 0, .slice none 0 0, .slice none 0 0]), 3, 72) := by kernel_rfl
theorem ty_sz30 : Sz Tryz.prog 30 3 := fun w => by obtain ⟨i, h1, h2, h3, h4⟩ := info_parts ty_i30; simp [sizeOf, typeInfo, h1, h3]
theorem ty_zr30 : Zr Tryz.prog 30 [.slice none 0 0, .slice none 0 0, .slice none 0 0] := ⟨.agg #[.slice none 0 0, .slice none 0 0, .slice none 0 0], rfl, fun w => by obtain ⟨i, h1, h2, h3, h4⟩ := info_parts ty_i30; simp [zeroValue, typeInfo, h1, h2]⟩
theorem ty_ag30 : Ag Tryz.prog 30 3 := ⟨fun w => by simp [isAgg, run_underlying Tryz.underlying30], ty_sz30⟩
theorem ty_fa30_0 : FieldAt Tryz.prog 30 0 0 := fieldAt_of 0 0 26 1 Tryz.underlying30 (by kernel_rfl) ty_sz26 (by kernel_rfl)
theorem ty_fa30_1 : FieldAt Tryz.prog 30 1 1 := fieldAt_of 1 1 27 1 Tryz.underlying30 (by kernel_rfl) ty_sz27 (by kernel_rfl)
theorem ty_fa30_2 : FieldAt Tryz.prog 30 2 2 := fieldAt_of 2 2 28 1 Tryz.underlying30 (by kernel_rfl) ty_sz28 (by kernel_rfl)
theorem ty_i31 : (Tryz.prog.info? 31).map (fun i => (i.zero, i.size, i.bytes)) = some (some (.slice none 0 0), 1, 24) := by kernel_rfl
theorem ty_sz31 : Sz Tryz.prog 31 1 := fun w => by obtain ⟨i, h1, h2, h3, h4⟩ := info_parts ty_i31; simp [sizeOf, typeInfo, h1, h3]
theorem ty_zr31 : Zr Tryz.prog 31 [.slice none 0 0] := ⟨.slice none 0 0, rfl, fun w => by obtain ⟨i, h1, h2, h3, h4⟩ := info_parts ty_i31; simp [zeroValue, typeInfo, h1, h2]⟩
theorem ty_sc31 : Sc Tryz.prog 31 := fun w => by simp [isAgg, run_underlying Tryz.underlying31]
theorem ty_i33 : (Tryz.prog.info? 33).map (fun i => (i.zero, i.size, i.bytes)) = some (some (.agg #[.int .i64 0, .int .i64 0, .slice none 0 0, .slice none 0 0, .slice none 0 0]), 5, 88) := by kernel_rfl
theorem ty_sz33 : Sz Tryz.prog 33 5 := fun w => by obtain ⟨i, h1, h2, h3, h4⟩ := info_parts ty_i33; simp [sizeOf, typeInfo, h1, h3]
theorem ty_zr33 : Zr Tryz.prog 33 [.int .i64 0, .int .i64 0, .slice none 0 0, .slice none 0 0, .slice none 0 0] := ⟨.agg #[.int .i64 0, .int .i64 0, .slice none 0 0, .slice none 0 0, .slice none 0 0], rfl, fun w => by obtain ⟨i, h1, h2, h3, h4⟩ := info_parts ty_i33; simp [zeroValue, typeInfo, h1, h2]⟩
theorem ty_ag33 : Ag Tryz.prog 33 5 := ⟨fun w => by simp [isAgg, run_underlying Tryz.underlying33], ty_sz33⟩
theorem ty_fa33_0 : FieldAt Tryz.prog 33 0 0 := fieldAt_of 0 0 3 1 Tryz.underlying33 (by kernel_rfl) ty_sz3 (by kernel_rfl)
theorem ty_fa33_1 : FieldAt Tryz.prog 33 1 1 := fieldAt_of 1 1 3 1 Tryz.underlying33 (by kernel_rfl) ty_sz3 (by kernel_rfl)
theorem ty_fa33_2 : FieldAt Tryz.prog 33 2 2 := fieldAt_of 2 2 31 1 Tryz.underlying33 (by kernel_rfl) ty_sz31 (by kernel_rfl)
theorem ty_fa33_3 : FieldAt Tryz.prog 33 3 3 := fieldAt_of 3 3 31 1 Tryz.underlying33 (by kernel_rfl) ty_sz31 (by kernel_rfl)
theorem ty_fa33_4 : FieldAt Tryz.prog 33 4 4 := fieldAt_of 4 4 31 1 Tryz.underlying33 (by kernel_rfl) ty_sz31 (by kernel_rfl)
theorem ty_i35 : (Tryz.prog.info? 35).map (fun i => (i.zero, i.size, i.bytes)) = some (some (.agg #[.int .i64 0, .int .i64 0]), 2, 16) := by kernel_rfl
theorem ty_sz35 : Sz Tryz.prog 35 2 := fun w => by obtain ⟨i, h1, h2, h3, h4⟩ := info_parts ty_i35; simp [sizeOf, typeInfo, h1, h3]
theorem ty_zr35 : Zr Tryz.prog 35 [.int .i64 0, .int .i64 0] := ⟨.agg #[.int .i64 0, .int .i64 0], rfl, fun w => by obtain ⟨i, h1, h2, h3, h4⟩ := info_parts ty_i35; simp [zeroValue, typeInfo, h1, h2]⟩
theorem ty_ag35 : Ag Tryz.prog 35 2 := ⟨fun w => by simp [isAgg, run_underlying Tryz.underlying35], ty_sz35⟩
theorem ty_q2_35 : Eq2 Tryz.prog 35 := fun w x y i j m n => by
  by_cases h1 : i = m
  · by_cases h2 : j = n
    · subst h1 h2; go_simp
    · subst h1; go_simp
  · by_cases h2 : j = n
    · subst h2; go_simp
    · go_simp
theorem ty_fa35_0 : FieldAt Tryz.prog 35 0 0 := fieldAt_of 0 0 3 1 Tryz.underlying35 (by kernel_rfl) ty_sz3 (by kernel_rfl)
theorem ty_fa35_1 : FieldAt Tryz.prog 35 1 1 := fieldAt_of 1 1 3 1 Tryz.underlying35 (by kernel_rfl) ty_sz3 (by kernel_rfl)
theorem ty_i58 : (Tryz.prog.info? 58).map (fun i => (i.zero, i.size, i.bytes)) = some (some (.slice none 0 0), 1, 24) := by kernel_rfl
theorem ty_sz58 : Sz Tryz.prog 58 1 := fun w => by obtain ⟨i, h1, h2, h3, h4⟩ := info_parts ty_i58; simp [sizeOf, typeInfo, h1, h3]
theorem ty_sc58 : Sc Tryz.prog 58 := fun w => by simp [isAgg, run_underlying Tryz.underlying58]
theorem ty_i62 : (Tryz.prog.info? 62).map (fun i => (i.zero, i.size, i.bytes)) = some (some (.agg #[.int .i64 0, .int .i64 0, .int .i64 0, .int .i64 0, .int .i64 0, .int .i64 0]), 6, 48) := by kernel_rfl
theorem ty_sz62 : Sz Tryz.prog 62 6 := fun w => by obtain ⟨i, h1, h2, h3, h4⟩ := info_parts ty_i62; simp [sizeOf, typeInfo, h1, h3]
theorem ty_zr62 : Zr Tryz.prog 62 [.int .i64 0, .int .i64 0, .int .i64 0, .int .i64 0, .int .i64 0, .int .i64 0] := ⟨.agg #[.int .i64 0, .int .i64 0, .int .i64 0, .int .i64 0, .int .i64 0, .int .i64 0], rfl, fun w => by obtain ⟨i, h1, h2, h3, h4⟩ := info_parts ty_i62; simp [zeroValue, typeInfo, h1, h2]⟩
theorem ty_ag62 : Ag Tryz.prog 62 6 := ⟨fun w => by simp [isAgg, run_underlying Tryz.underlying62], ty_sz62⟩
theorem ty_fa62_0 : FieldAt Tryz.prog 62 0 0 := fieldAt_of 0 0 3 1 Tryz.underlying62 (by kernel_rfl) ty_sz3 (by kernel_rfl)
theorem ty_fa62_2 : FieldAt Tryz.prog 62 2 2 := fieldAt_of 2 2 35 2 Tryz.underlying62 (by kernel_rfl) ty_sz35 (by kernel_rfl)
theorem ty_fa62_3 : FieldAt Tryz.prog 62 3 4 := fieldAt_of 3 4 35 2 Tryz.underlying62 (by kernel_rfl) ty_sz35 (by kernel_rfl)
theorem ty_i71 : (Tryz.prog.info? 71).map (fun i => (i.zero, i.size, i.bytes)) = some (some (.agg #[.int .i64 0, .int .i64 0, .int .i64 0, .int .i64 0, .int .i64 0, .int .i64 0, .bool false]), 7, 56) := by kernel_rfl
theorem ty_sz71 : Sz Tryz.prog 71 7 := fun w => by obtain ⟨i, h1, h2, h3, h4⟩ := info_parts ty_i71; simp [sizeOf, typeInfo, h1, h3]
theorem ty_zr71 : Zr Tryz.prog 71 [.int .i64 0, .int .i64 0, .int .i64 0, .int .i64 0, .int .i64 0, .int .i64 0, .bool false] := ⟨.agg #[.int .i64 0, .int .i64 0, .int .i64 0, .int .i64 0, .int .i64 0, .int .i64 0, .bool false], rfl, fun w => by obtain ⟨i, h1, h2, h3, h4⟩ := info_parts ty_i71; simp [zeroValue, typeInfo, h1, h2]⟩
theorem ty_ag71 : Ag Tryz.prog 71 7 := ⟨fun w => by simp [isAgg, run_underlying Tryz.underlying71], ty_sz71⟩
theorem ty_fa71_0 : FieldAt Tryz.prog 71 0 0 := fieldAt_of 0 0 3 1 Tryz.underlying71 (by kernel_rfl) ty_sz3 (by kernel_rfl)
theorem ty_fa71_1 : FieldAt Tryz.prog 71 1 1 := fieldAt_of 1 1 3 1 Tryz.underlying71 (by kernel_rfl) ty_sz3 (by kernel_rfl)
theorem ty_fa71_2 : FieldAt Tryz.prog 71 2 2 := fieldAt_of 2 2 3 1 Tryz.underlying71 (by kernel_rfl) ty_sz3 (by kernel_rfl)
theorem ty_fa71_3 : FieldAt Tryz.prog 71 3 3 := fieldAt_of 3 3 3 1 Tryz.underlying71 (by kernel_rfl) ty_sz3 (by kernel_rfl)
theorem ty_fa71_4 : FieldAt Tryz.prog 71 4 4 := fieldAt_of 4 4 3 1 Tryz.underlying71 (by kernel_rfl) ty_sz3 (by kernel_rfl)
theorem ty_fa71_5 : FieldAt Tryz.prog 71 5 5 := fieldAt_of 5 5 3 1 Tryz.underlying71 (by kernel_rfl) ty_sz3 (by kernel_rfl)
theorem ty_fa71_6 : FieldAt Tryz.prog 71 6 6 := fieldAt_of 6 6 4 1 Tryz.underlying71 (by kernel_rfl) ty_sz4 (by kernel_rfl)
theorem ty_i73 : (Tryz.prog.info? 73).map (fun i => (i.zero, i.size, i.bytes)) = some (some (.agg #[.int .i64 0, .int .i64 0, .int .i64 0, .int .i64 0]), 4, 32) := by kernel_rfl
theorem ty_sz73 : Sz Tryz.prog 73 4 := fun w => by obtain ⟨i, h1, h2, h3, h4⟩ := info_parts ty_i73; simp [sizeOf, typeInfo, h1, h3]
theorem ty_zr73 : Zr Tryz.prog 73 [.int .i64 0, .int .i64 0, .int .i64 0, .int .i64 0] := ⟨.agg #[.int .i64 0, .int .i64 0, .int .i64 0, .int .i64 0], rfl, fun w => by obtain ⟨i, h1, h2, h3, h4⟩ := info_parts ty_i73; simp [zeroValue, typeInfo, h1, h2]⟩
theorem ty_ag73 : Ag Tryz.prog 73 4 := ⟨fun w => by simp [isAgg, run_underlying Tryz.underlying73], ty_sz73⟩
theorem ty_fa73_0 : FieldAt Tryz.prog 73 0 0 := fieldAt_of 0 0 3 1 Tryz.underlying73 (by kernel_rfl) ty_sz3 (by kernel_rfl)
theorem ty_fa73_1 : FieldAt Tryz.prog 73 1 1 := fieldAt_of 1 1 3 1 Tryz.underlying73 (by kernel_rfl) ty_sz3 (by kernel_rfl)
theorem ty_fa73_2 : FieldAt Tryz.prog 73 2 2 := fieldAt_of 2 2 3 1 Tryz.underlying73 (by kernel_rfl) ty_sz3 (by kernel_rfl)
theorem ty_fa73_3 : FieldAt Tryz.prog 73 3 3 := fieldAt_of 3 3 3 1 Tryz.underlying73 (by kernel_rfl) ty_sz3 (by kernel_rfl)
theorem ty_i75 : (Tryz.prog.info? 75).map (fun i => (i.zero, i.size, i.bytes)) = some (some (.agg #[.int .i64 0, .int .i64 0, .int .i64 0]), 3, 24) := by kernel_rfl
theorem ty_sz75 : Sz Tryz.prog 75 3 := fun w => by obtain ⟨i, h1, h2, h3, h4⟩ := info_parts ty_i75; simp [sizeOf, typeInfo, h1, h3]
theorem ty_zr75 : Zr Tryz.prog 75 [.int .i64 0, .int .i64 0, .int .i64 0] := ⟨.agg #[.int .i64 0, .int .i64 0, .int .i64 0], rfl, fun w => by obtain ⟨i, h1, h2, h3, h4⟩ := info_parts ty_i75; simp [zeroValue, typeInfo, h1, h2]⟩
theorem ty_ag75 : Ag Tryz.prog 75 3 := ⟨fun w => by simp [isAgg, run_underlying Tryz.underlying75], ty_sz75⟩
theorem ty_fa75_0 : FieldAt Tryz.prog 75 0 0 := fieldAt_of 0 0 3 1 Tryz.underlying75 (by kernel_rfl) ty_sz3 (by kernel_rfl)
theorem ty_fa75_1 : FieldAt Tryz.prog 75 1 1 := fieldAt_of 1 1 3 1 Tryz.underlying75 (by kernel_rfl) ty_sz3 (by kernel_rfl)
theorem ty_fa75_2 : FieldAt Tryz.prog 75 2 2 := fieldAt_of 2 2 3 1 Tryz.underlying75 (by kernel_rfl) ty_sz3 (by kernel_rfl)
theorem ty_i78 : (Tryz.prog.info? 78).map (fun i => (i.zero, i.size, i.bytes)) = some (some (.agg #[.int .i64 0, .int .i64 0, .int .i64 0, .int .i64 0]), 4, 32) := by kernel_rfl
theorem ty_sz78 : Sz Tryz.prog 78 4 := fun w => by obtain ⟨i, h1, h2, h3, h4⟩ := info_parts ty_i78; simp [sizeOf, typeInfo, h1, h3]
theorem ty_ag78 : Ag Tryz.prog 78 4 := ⟨fun w => by simp [isAgg, run_underlying Tryz.underlying78], ty_sz78⟩
theorem ty_i80 : (Tryz.prog.info? 80).map (fun i => (i.zero, i.size, i.bytes)) = some (some (.agg #[.int .i64 0, .int .i64 0]), 2, 16) := by kernel_rfl
theorem ty_sz80 : Sz Tryz.prog 80 2 := fun w => by obtain ⟨i, h1, h2, h3, h4⟩ := info_parts ty_i80; simp [sizeOf, typeInfo, h1, h3]
theorem ty_ag80 : Ag Tryz.prog 80 2 := ⟨fun w => by simp [isAgg, run_underlying Tryz.underlying80], ty_sz80⟩
theorem ty_sc90 : Sc Tryz.prog 90 := fun w => by simp [isAgg, run_underlying Tryz.underlying90]
theorem ty_sc93 : Sc Tryz.prog 93 := fun w => by simp [isAgg, run_underlying Tryz.underlying93]
theorem ty_i95 : (Tryz.prog.info? 95).map (fun i => (i.zero, i.size, i.bytes)) = some (some (.agg #[.int .i64 0, .int .i64 0]), 2, 16) := by kernel_rfl
theorem ty_sz95 : Sz Tryz.prog 95 2 := fun w => by obtain ⟨i, h1, h2, h3, h4⟩ := info_parts ty_i95; simp [sizeOf, typeInfo, h1, h3]
theorem ty_zr95 : Zr Tryz.prog 95 [.int .i64 0, .int .i64 0] := ⟨.agg #[.int .i64 0, .int .i64 0], rfl, fun w => by obtain ⟨i, h1, h2, h3, h4⟩ := info_parts ty_i95; simp [zeroValue, typeInfo, h1, h2]⟩
theorem ty_ag95 : Ag Tryz.prog 95 2 := ⟨fun w => by simp [isAgg, run_underlying Tryz.underlying95], ty_sz95⟩
theorem ty_fa95_0 : FieldAt Tryz.prog 95 0 0 := fieldAt_of 0 0 3 1 Tryz.underlying95 (by kernel_rfl) ty_sz3 (by kernel_rfl)
theorem ty_fa95_1 : FieldAt Tryz.prog 95 1 1 := fieldAt_of 1 1 3 1 Tryz.underlying95 (by kernel_rfl) ty_sz3 (by kernel_rfl)
theorem ty_i113 : (Tryz.prog.info? 113).map (fun i => (i.zero, i.size, i.bytes)) = some (some (.slice none 0 0), 1, 24) := by kernel_rfl
theorem ty_sz113 : Sz Tryz.prog 113 1 := fun w => by obtain ⟨i, h1, h2, h3, h4⟩ := info_parts ty_i113; simp [sizeOf, typeInfo, h1, h3]
theorem ty_zr113 : Zr Tryz.prog 113 [.slice none 0 0] := ⟨.slice none 0 0, rfl, fun w => by obtain ⟨i, h1, h2, h3, h4⟩ := info_parts ty_i113; simp [zeroValue, typeInfo, h1, h2]⟩
theorem ty_sc113 : Sc Tryz.prog 113 := fun w => by simp [isAgg, run_underlying Tryz.underlying113]
theorem ty_i120 : (Tryz.prog.info? 120).map (fun i => (i.zero, i.size, i.bytes)) = some (some (.slice none 0 0), 1, 24) := by kernel_rfl
theorem ty_sz120 : Sz Tryz.prog 120 1 := fun w => by obtain ⟨i, h1, h2, h3, h4⟩ := info_parts ty_i120; simp [sizeOf, typeInfo, h1, h3]
theorem ty_sc120 : Sc Tryz.prog 120 := fun w => by simp [isAgg, run_underlying Tryz.underlying120]
theorem ty_i122 : (Tryz.prog.info? 122).map (fun i => (i.zero, i.size, i.bytes)) = some (some (.agg #[.int .i64 0, .int .i64 0, .int .i64 0, .int .i64 0, .slice none 0 0]), 5, 56) := by kernel_rfl
theorem ty_sz122 : Sz Tryz.prog 122 5 := fun w => by obtain ⟨i, h1, h2, h3, h4⟩ := info_parts ty_i122; simp [sizeOf, typeInfo, h1, h3]
theorem ty_zr122 : Zr Tryz.prog 122 [.int .i64 0, .int .i64 0, .int .i64 0, .int .i64 0, .slice none 0 0] := ⟨.agg #[.int .i64 0, .int .i64 0, .int .i64 0, .int .i64 0, .slice none 0 0], rfl, fun w => by obtain ⟨i, h1, h2, h3, h4⟩ := info_parts ty_i122; simp [zeroValue, typeInfo, h1, h2]⟩
theorem ty_ag122 : Ag Tryz.prog 122 5 := ⟨fun w => by simp [isAgg, run_underlying Tryz.underlying122], ty_sz122⟩
theorem ty_fa122_0 : FieldAt Tryz.prog 122 0 0 := fieldAt_of 0 0 3 1 Tryz.underlying122 (by kernel_rfl) ty_sz3 (by kernel_rfl)
theorem ty_fa122_1 : FieldAt Tryz.prog 122 1 1 := fieldAt_of 1 1 3 1 Tryz.underlying122 (by kernel_rfl) ty_sz3 (by kernel_rfl)
theorem ty_fa122_2 : FieldAt Tryz.prog 122 2 2 := fieldAt_of 2 2 35 2 Tryz.underlying122 (by kernel_rfl) ty_sz35 (by kernel_rfl)
theorem ty_fa122_3 : FieldAt Tryz.prog 122 3 4 := fieldAt_of 3 4 120 1 Tryz.underlying122 (by kernel_rfl) ty_sz120 (by kernel_rfl)
theorem ty_sc124 : Sc Tryz.prog 124 := fun w => by simp [isAgg, run_underlying Tryz.underlying124]
theorem ty_i136 : (Tryz.prog.info? 136).map (fun i => (i.zero, i.size, i.bytes)) = some (some (.agg #[.int .i64 0, .int .i64 0, .int .i64 0, .int .i64 0, .int .i64 0, .int .i64 0, .int .i64 0, .int .i64 0, .int .i64 0]), 9, 72) := by kernel_rfl
theorem ty_sz136 : Sz Tryz.prog 136 9 := fun w => by obtain ⟨i, h1, h2, h3, h4⟩ := info_parts ty_i136; simp [sizeOf, typeInfo, h1, h3]
theorem ty_zr136 : Zr Tryz.prog 136 [.int .i64 0, .int .i64 0, .int .i64 0, .int .i64 0, .int .i64 0, .int .i64 0, .int .i64 0, .int .i64 0, .int .i64 0] := ⟨.agg #[.int .i64 0, .int .i64 0, .int .i64 0, .int .i64 0, .int .i64 0, .int .i64 0, .int .i64 0, .int .i64 0, .int .i64 0], rfl, fun w => by obtain ⟨i, h1, h2, h3, h4⟩ := info_parts ty_i136; simp [zeroValue, typeInfo, h1, h2]⟩
theorem ty_ag136 : Ag Tryz.prog 136 9 := ⟨fun w => by simp [isAgg, run_underlying Tryz.underlying136], ty_sz136⟩
theorem ty_fa136_0 : FieldAt Tryz.prog 136 0 0 := fieldAt_of 0 0 3 1 Tryz.underlying136 (by kernel_rfl) ty_sz3 (by kernel_rfl)
theorem ty_fa136_1 : FieldAt Tryz.prog 136 1 1 := fieldAt_of 1 1 3 1 Tryz.underlying136 (by kernel_rfl) ty_sz3 (by kernel_rfl)
theorem ty_fa136_2 : FieldAt Tryz.prog 136 2 2 := fieldAt_of 2 2 3 1 Tryz.underlying136 (by kernel_rfl) ty_sz3 (by kernel_rfl)
theorem ty_fa136_3 : FieldAt Tryz.prog 136 3 3 := fieldAt_of 3 3 35 2 Tryz.underlying136 (by kernel_rfl) ty_sz35 (by kernel_rfl)
theorem ty_fa136_4 : FieldAt Tryz.prog 136 4 5 := fieldAt_of 4 5 3 1 Tryz.underlying136 (by kernel_rfl) ty_sz3 (by kernel_rfl)
theorem ty_fa136_5 : FieldAt Tryz.prog 136 5 6 := fieldAt_of 5 6 35 2 Tryz.underlying136 (by kernel_rfl) ty_sz35 (by kernel_rfl)
theorem ty_fa136_6 : FieldAt Tryz.prog 136 6 8 := fieldAt_of 6 8 3 1 Tryz.underlying136 (by kernel_rfl) ty_sz3 (by kernel_rfl)
theorem ty_i138 : (Tryz.prog.info? 138).map (fun i => (i.zero, i.size, i.bytes)) = some (some (.agg #[.int .i64 0, .int .i64 0, .int .i64 0, .int .i64 0]), 4, 32) := by kernel_rfl
theorem ty_sz138 : Sz Tryz.prog 138 4 := fun w => by obtain ⟨i, h1, h2, h3, h4⟩ := info_parts ty_i138; simp [sizeOf, typeInfo, h1, h3]
theorem ty_zr138 : Zr Tryz.prog 138 [.int .i64 0, .int .i64 0, .int .i64 0, .int .i64 0] := ⟨.agg #[.int .i64 0, .int .i64 0, .int .i64 0, .int .i64 0], rfl, fun w => by obtain ⟨i, h1, h2, h3, h4⟩ := info_parts ty_i138; simp [zeroValue, typeInfo, h1, h2]⟩
theorem ty_ag138 : Ag Tryz.prog 138 4 := ⟨fun w => by simp [isAgg, run_underlying Tryz.underlying138], ty_sz138⟩
theorem ty_fa138_0 : FieldAt Tryz.prog 138 0 0 := fieldAt_of 0 0 35 2 Tryz.underlying138 (by kernel_rfl) ty_sz35 (by kernel_rfl)
theorem ty_fa138_1 : FieldAt Tryz.prog 138 1 2 := fieldAt_of 1 2 35 2 Tryz.underlying138 (by kernel_rfl) ty_sz35 (by kernel_rfl)
theorem ty_i152 : (Tryz.prog.info? 152).map (fun i => (i.zero, i.size, i.bytes)) = some (some (.nilFunc), 1, 8) := by kernel_rfl
theorem ty_sz152 : Sz Tryz.prog 152 1 := fun w => by obtain ⟨i, h1, h2, h3, h4⟩ := info_parts ty_i152; simp [sizeOf, typeInfo, h1, h3]
theorem ty_zr152 : Zr Tryz.prog 152 [.nilFunc] := ⟨.nilFunc, rfl, fun w => by obtain ⟨i, h1, h2, h3, h4⟩ := info_parts ty_i152; simp [zeroValue, typeInfo, h1, h2]⟩
theorem ty_sc152 : Sc Tryz.prog 152 := fun w => by simp [isAgg, run_underlying Tryz.underlying152]
theorem ty_fa155_2 : FieldAt Tryz.prog 155 2 2 := fieldAt_of 2 2 3 1 Tryz.underlying155 (by kernel_rfl) ty_sz3 (by kernel_rfl)
theorem ty_fa155_3 : FieldAt Tryz.prog 155 3 3 := fieldAt_of 3 3 3 1 Tryz.underlying155 (by kernel_rfl) ty_sz3 (by kernel_rfl)
theorem ty_sc156 : Sc Tryz.prog 156 := fun w => by simp [isAgg, run_underlying Tryz.underlying156]
theorem ty_fa158_2 : FieldAt Tryz.prog 158 2 2 := fieldAt_of 2 2 3 1 Tryz.underlying158 (by kernel_rfl) ty_sz3 (by kernel_rfl)
theorem ty_fa158_3 : FieldAt Tryz.prog 158 3 3 := fieldAt_of 3 3 3 1 Tryz.underlying158 (by kernel_rfl) ty_sz3 (by kernel_rfl)
theorem ty_sc159 : Sc Tryz.prog 159 := fun w => by simp [isAgg, run_underlying Tryz.underlying159]
theorem ty_fa161_1 : FieldAt Tryz.prog 161 1 1 := fieldAt_of 1 1 3 1 Tryz.underlying161 (by kernel_rfl) ty_sz3 (by kernel_rfl)
theorem ty_fa161_2 : FieldAt Tryz.prog 161 2 2 := fieldAt_of 2 2 3 1 Tryz.underlying161 (by kernel_rfl) ty_sz3 (by kernel_rfl)
theorem ty_sc162 : Sc Tryz.prog 162 := fun w => by simp [isAgg, run_underlying Tryz.underlying162]
theorem ty_i164 : (Tryz.prog.info? 164).map (fun i => (i.zero, i.size, i.bytes)) = some (some (.agg #[.slice none 0 0, .slice none 0 0, .int .i64 0, .int .i64 0]), 4, 64) := by kernel_rfl
theorem ty_sz164 : Sz Tryz.prog 164 4 := fun w => by obtain ⟨i, h1, h2, h3, h4⟩ := info_parts ty_i164; simp [sizeOf, typeInfo, h1, h3]
theorem ty_zr164 : Zr Tryz.prog 164 [.slice none 0 0, .slice none 0 0, .int .i64 0, .int .i64 0] := ⟨.agg #[.slice none 0 0, .slice none 0 0, .int .i64 0, .int .i64 0], rfl, fun w => by obtain ⟨i, h1, h2, h3, h4⟩ := info_parts ty_i164; simp [zeroValue, typeInfo, h1, h2]⟩
theorem ty_ag164 : Ag Tryz.prog 164 4 := ⟨fun w => by simp [isAgg, run_underlying Tryz.underlying164], ty_sz164⟩
theorem ty_fa164_0 : FieldAt Tryz.prog 164 0 0 := fieldAt_of 0 0 25 2 Tryz.underlying164 (by kernel_rfl) ty_sz25 (by kernel_rfl)
theorem ty_fa164_1 : FieldAt Tryz.prog 164 1 2 := fieldAt_of 1 2 35 2 Tryz.underlying164 (by kernel_rfl) ty_sz35 (by kernel_rfl)
theorem ty_i168 : (Tryz.prog.info? 168).map (fun i => (i.zero, i.size, i.bytes)) = some (some (.map none), 1, 8) := by kernel_rfl
theorem ty_sz168 : Sz Tryz.prog 168 1 := fun w => by obtain ⟨i, h1, h2, h3, h4⟩ := info_parts ty_i168; simp [sizeOf, typeInfo, h1, h3]
theorem ty_zr168 : Zr Tryz.prog 168 [.map none] := ⟨.map none, rfl, fun w => by obtain ⟨i, h1, h2, h3, h4⟩ := info_parts ty_i168; simp [zeroValue, typeInfo, h1, h2]⟩
theorem ty_sc168 : Sc Tryz.prog 168 := fun w => by simp [isAgg, run_underlying Tryz.underlying168]
theorem ty_i169 : (Tryz.prog.info? 169).map (fun i => (i.zero, i.size, i.bytes)) = some (some (.nilFunc), 1, 8) := by kernel_rfl
theorem ty_sz169 : Sz Tryz.prog 169 1 := fun w => by obtain ⟨i, h1, h2, h3, h4⟩ := info_parts ty_i169; simp [sizeOf, typeInfo, h1, h3]
theorem ty_zr169 : Zr Tryz.prog 169 [.nilFunc] := ⟨.nilFunc, rfl, fun w => by obtain ⟨i, h1, h2, h3, h4⟩ := info_parts ty_i169; simp [zeroValue, typeInfo, h1, h2]⟩
theorem ty_sc169 : Sc Tryz.prog 169 := fun w => by simp [isAgg, run_underlying Tryz.underlying169]
theorem ty_fa171_0 : FieldAt Tryz.prog 171 0 0 := fieldAt_of 0 0 3 1 Tryz.underlying171 (by kernel_rfl) ty_sz3 (by kernel_rfl)
theorem ty_fa171_1 : FieldAt Tryz.prog 171 1 1 := fieldAt_of 1 1 3 1 Tryz.underlying171 (by kernel_rfl) ty_sz3 (by kernel_rfl)
theorem ty_i176 : (Tryz.prog.info? 176).map (fun i => (i.zero, i.size, i.bytes)) = some (some (.agg #[.int .i64 0, .int .i64 0]), 2, 16) := by kernel_rfl
theorem ty_sz176 : Sz Tryz.prog 176 2 := fun w => by obtain ⟨i, h1, h2, h3, h4⟩ := info_parts ty_i176; simp [sizeOf, typeInfo, h1, h3]
theorem ty_zr176 : Zr Tryz.prog 176 [.int .i64 0, .int .i64 0] := ⟨.agg #[.int .i64 0, .int .i64 0], rfl, fun w => by obtain ⟨i, h1, h2, h3, h4⟩ := info_parts ty_i176; simp [zeroValue, typeInfo, h1, h2]⟩
theorem ty_ag176 : Ag Tryz.prog 176 2 := ⟨fun w => by simp [isAgg, run_underlying Tryz.underlying176], ty_sz176⟩
theorem ty_i180 : (Tryz.prog.info? 180).map (fun i => (i.zero, i.size, i.bytes)) = some (some (.agg #[.int .i64 0, .int .i64 0, .slice none 0 0, .slice none 0 0, .slice none 0 0, .slice none 0 0, .slice none 0 0, .slice none 0 0, .slice none 0 0]), 9, 184) := by kernel_rfl
theorem ty_sz180 : Sz Tryz.prog 180 9 := fun w => by obtain ⟨i, h1, h2, h3, h4⟩ := info_parts ty_i180; simp [sizeOf, typeInfo, h1, h3]
theorem ty_zr180 : Zr Tryz.prog 180 [.int .i64 0, .int .i64 0, .slice none 0 0, .slice none 0 0, .slice none 0 0, .slice none 0 0, .slice none 0 0, .slice none 0 0, .slice none 0 0] := ⟨.agg #[.int .i64 0, .int .i64 0, .slice none 0 0, .slice none 0 0, .slice none 0 0, .slice none 0 0, .slice none 0 0, .slice none 0 0, .slice none 0 0], rfl, fun w => by obtain ⟨i, h1, h2, h3, h4⟩ := info_parts ty_i180; simp [zeroValue, typeInfo, h1, h2]⟩
theorem ty_ag180 : Ag Tryz.prog 180 9 := ⟨fun w => by simp [isAgg, run_underlying Tryz.underlying180], ty_sz180⟩
theorem ty_fa180_0 : FieldAt Tryz.prog 180 0 0 := fieldAt_of 0 0 33 5 Tryz.underlying180 (by kernel_rfl) ty_sz33 (by kernel_rfl)
theorem ty_fa180_1 : FieldAt Tryz.prog 180 1 5 := fieldAt_of 1 5 30 3 Tryz.underlying180 (by kernel_rfl) ty_sz30 (by kernel_rfl)
theorem ty_fa180_2 : FieldAt Tryz.prog 180 2 8 := fieldAt_of 2 8 58 1 Tryz.underlying180 (by kernel_rfl) ty_sz58 (by kernel_rfl)
theorem ty_sc193 : Sc Tryz.prog 193 := fun w => by simp [isAgg, run_underlying Tryz.underlying193]
theorem ty_i205 : (Tryz.prog.info? 205).map (fun i => (i.zero, i.size, i.bytes)) = some (some (.nilIface), 1, 16) := by kernel_rfl
theorem ty_sc205 : Sc Tryz.prog 205 := fun w => by simp [isAgg, run_underlying Tryz.underlying205]
theorem ty_i215 : (Tryz.prog.info? 215).map (fun i => (i.zero, i.size, i.bytes)) = some (some (.agg #[.nilFunc, .nilFunc, .nilFunc, .nilFunc]), 4, 32) := by kernel_rfl
theorem ty_sz215 : Sz Tryz.prog 215 4 := fun w => by obtain ⟨i, h1, h2, h3, h4⟩ := info_parts ty_i215; simp [sizeOf, typeInfo, h1, h3]
theorem ty_ag215 : Ag Tryz.prog 215 4 := ⟨fun w => by simp [isAgg, run_underlying Tryz.underlying215], ty_sz215⟩
theorem ty_i221 : (Tryz.prog.info? 221).map (fun i => (i.zero, i.size, i.bytes)) = some (some (.map none), 1, 8) := by kernel_rfl
theorem ty_sz221 : Sz Tryz.prog 221 1 := fun w => by obtain ⟨i, h1, h2, h3, h4⟩ := info_parts ty_i221; simp [sizeOf, typeInfo, h1, h3]
theorem ty_zr221 : Zr Tryz.prog 221 [.map none] := ⟨.map none, rfl, fun w => by obtain ⟨i, h1, h2, h3, h4⟩ := info_parts ty_i221; simp [zeroValue, typeInfo, h1, h2]⟩
theorem ty_sc221 : Sc Tryz.prog 221 := fun w => by simp [isAgg, run_underlying Tryz.underlying221]
theorem ty_et22 : ElemT Tryz.prog 22 136 9 72 := elemT (z := .agg #[.int .i64 0, .int .i64 0, .int .i64 0, .int .i64 0, .int .i64 0, .int .i64 0, .int .i64 0, .int .i64 0, .int .i64 0]) Tryz.underlying22 ty_i136 rfl (by decide)
theorem ty_et23 : ElemT Tryz.prog 23 122 5 56 := elemT (z := .agg #[.int .i64 0, .int .i64 0, .int .i64 0, .int .i64 0, .slice none 0 0]) Tryz.underlying23 ty_i122 rfl (by decide)
theorem ty_et26 : ElemT Tryz.prog 26 71 7 56 := elemT (z := .agg #[.int .i64 0, .int .i64 0, .int .i64 0, .int .i64 0, .int .i64 0, .int .i64 0, .bool false]) Tryz.underlying26 ty_i71 rfl (by decide)
theorem ty_et27 : ElemT Tryz.prog 27 73 4 32 := elemT (z := .agg #[.int .i64 0, .int .i64 0, .int .i64 0, .int .i64 0]) Tryz.underlying27 ty_i73 rfl (by decide)
theorem ty_et28 : ElemT Tryz.prog 28 75 3 24 := elemT (z := .agg #[.int .i64 0, .int .i64 0, .int .i64 0]) Tryz.underlying28 ty_i75 rfl (by decide)
theorem ty_et31 : ElemT Tryz.prog 31 3 1 8 := elemT (z := .int .i64 0) Tryz.underlying31 ty_i3 rfl (by decide)
theorem ty_et45 : ElemT Tryz.prog 45 78 4 32 := elemT (z := .agg #[.int .i64 0, .int .i64 0, .int .i64 0, .int .i64 0]) Tryz.underlying45 ty_i78 rfl (by decide)
theorem ty_et58 : ElemT Tryz.prog 58 62 6 48 := elemT (z := .agg #[.int .i64 0, .int .i64 0, .int .i64 0, .int .i64 0, .int .i64 0, .int .i64 0]) Tryz.underlying58 ty_i62 rfl (by decide)
theorem ty_et86 : ElemT Tryz.prog 86 80 2 16 := elemT (z := .agg #[.int .i64 0, .int .i64 0]) Tryz.underlying86 ty_i80 rfl (by decide)
theorem ty_et90 : ElemT Tryz.prog 90 95 2 16 := elemT (z := .agg #[.int .i64 0, .int .i64 0]) Tryz.underlying90 ty_i95 rfl (by decide)
theorem ty_et113 : ElemT Tryz.prog 113 31 1 24 := elemT (z := .slice none 0 0) Tryz.underlying113 ty_i31 rfl (by decide)
theorem ty_et120 : ElemT Tryz.prog 120 138 4 32 := elemT (z := .agg #[.int .i64 0, .int .i64 0, .int .i64 0, .int .i64 0]) Tryz.underlying120 ty_i138 rfl (by decide)
theorem ty_et232 : ElemT Tryz.prog 232 35 2 16 := elemT (z := .agg #[.int .i64 0, .int .i64 0]) Tryz.underlying232 ty_i35 rfl (by decide)
theorem ty_et235 : ElemT Tryz.prog 235 205 1 16 := elemT (z := .nilIface) Tryz.underlying235 ty_i205 rfl (by decide)
theorem ty_et237 : ElemT Tryz.prog 237 5 1 1 := elemT (z := .int .u8 0) Tryz.underlying237 ty_i5 rfl (by decide)
theorem ty_mp168 : MapT Tryz.prog 168 3 4 .i64 := ⟨Tryz.underlying168, Tryz.underlying3⟩
theorem ty_zv4 : ∀ w, (zeroValue 4).run Tryz.prog w = .ok (.bool false) w := fun w => by obtain ⟨i, h1, h2, h3, h4⟩ := info_parts ty_i4; simp [zeroValue, typeInfo, h1, h2]
theorem ty_mp221 : MapT Tryz.prog 221 3 31 .i64 := ⟨Tryz.underlying221, Tryz.underlying3⟩
theorem ty_zv31 : ∀ w, (zeroValue 31).run Tryz.prog w = .ok (.slice none 0 0) w := fun w => by obtain ⟨i, h1, h2, h3, h4⟩ := info_parts ty_i31; simp [zeroValue, typeInfo, h1, h2]
end Go.Proofs.YtmonkjnfjgidbaaGreatDoor
namespace Go.Proofs.YtmonkjnfjgidbaaGreatDoor
set_option linter.all false
set_option linter.unusedVariables false
set_option linter.unusedSimpArgs false
open Go.RowKit
theorem TL.perm {c : Cx} {Q : Exit → Act → World → Prop} {F : Fr} {K K2 : List Fact} {ops : Array Oper} {rest : List Oper} (hp : K.Perm K2) (h : TL c ops Q rest F K2) : TL c ops Q rest F K := fun a w hF hK => h a w hF (hK.perm hp)
theorem KSub.perm : ∀ {L K : List Fact}, K.Perm L → KSub K L
  | [], K, _ => .nil
  | φ :: L, K, h => by
    have hm : φ ∈ K := h.mem_iff.2 (by simp)
    obtain ⟨K1, hp⟩ : ∃ K1, Pick K φ K1 := by
      clear h
      induction K with
      | nil => cases hm
      | cons ψ K ih =>
        rcases List.mem_cons.1 hm with rfl | hm
        · exact ⟨K, .hd⟩
        · obtain ⟨K1, h1⟩ := ih hm
          exact ⟨ψ :: K1, .tl h1⟩
    exact .cons hp (KSub.perm ((hp.perm.symm.trans h).cons_inv))
theorem KSub.dropL : ∀ (X : List Fact) {Y L : List Fact}, KSub Y L → KSub (X ++ Y) L
  | [], _, _, h => h
  | _ :: X, _, _, h => KSub.drop (KSub.dropL X h)
section
variable {c : Cx} {Q : Exit → Act → World → Prop} {F F' : Fr} {K K' : List Fact} {ops : Array Oper} {rest : List Oper} {d : Option Tmp} {ty : TypeId} {pos : String} {af : Array Edge} {g : Option (Nat × Bool)} {nf : Nat} {pend : List (Nat × Oper)} {fl : List Fl} {bs : List Bool}
theorem TW.expk {id : Nat} {l : List Oper} {X : Type} (K0 : List Fact) (Fj : X → Fr) (Kj : X → List Fact) (h1 : ∀ x, TQ c Q .normal (Fj x) (Kj x)) (h2 : (∀ x, TQ c Q .normal (Fj x) (Kj x)) → RG c l.toArray Q K0 [] (Array.replicate l.length false) l.length F K) (hm : c.P.follows .mixedOrders = true := by rfl) : TW c (.region id l.toArray true) Q F K := fun a w hF hK => by
  refine wp_region_any hm (wpAny_of_held (S := Sat c.S c.w0 K0) _ _ _ _ ?_)
  rw [List.size_toArray]
  exact h2 h1 (fun p hp => by cases hp) a w.drew hF (hK.ext (keep_drew w))
theorem WK.gck {i : Nat} {f : FuncId} {xs : List Operand} {ts : Array TypeId} {us : List Value} {X : Type} {val : X → Value} {L : X → List Fact} (hx : evs F xs = some us) (hen : Enters c.P f)
    (hc : ∀ w, Sat c.S c.w0 K w → CallsK c.P f us.toArray [] w X val L) (h : ∀ x, WK c ops Q nf fl bs pend (fput F d (val x)) (L x ++ K)) (hg : gdB F (frontOf ops nf) g = some true := by rfl) (hd : dok d c.n = true := by rfl) :
    WK c ops Q nf fl (false :: bs) ((i, ⟨d, .call { callee := .value (.func f), args := xs.toArray, argTypes := ts }, ty, pos, af, g⟩) :: pend) F K :=
  WK.act fun a w' K' hF hK ho hK' => by
    refine wpOp_of ho (hF.wanted hg) ?_
    have hr : (execOp a.eval ⟨d, .call { callee := .value (.func f), args := xs.toArray, argTypes := ts }, ty, pos, af, g⟩).run c.P w' = .ok (.enter f us.toArray) w' := by
      have := hF.evsl hx
      have h9 := hen us.toArray w'
      simp [execOp, resolve, invoke, Deferred.ofValue, Act.eval, this, h9]
    unfold Oper.wp
    rw [hr]
    refine Calls.mono (hc w' hK) ?_
    rintro e w'' ⟨x, rfl, hs⟩
    exact hK' _ _ _ _ hs (hF.fput hd _) (h x)
theorem TL.gck {f : FuncId} {xs : List Operand} {ts : Array TypeId} {us : List Value} {X : Type} {val : X → Value} {L : X → List Fact} (hx : evs F xs = some us) (hen : Enters c.P f)
    (hc : ∀ w, Sat c.S c.w0 K w → CallsK c.P f us.toArray [] w X val L) (h : ∀ x, TL c ops Q rest (fput F d (val x)) (L x ++ K)) (hg : gdB F ops g = some true := by rfl) (hd : dok d c.n = true := by rfl) :
    TL c ops Q (⟨d, .call { callee := .value (.func f), args := xs.toArray, argTypes := ts }, ty, pos, af, g⟩ :: rest) F K := fun a w hF hK => by
  unfold wpList
  rw [if_pos (hF.wanted hg)]
  refine .inl ?_
  have hr : (execOp a.eval ⟨d, .call { callee := .value (.func f), args := xs.toArray, argTypes := ts }, ty, pos, af, g⟩).run c.P w = .ok (.enter f us.toArray) w := by
    have := hF.evsl hx
    have h9 := hen us.toArray w
    simp [execOp, resolve, invoke, Deferred.ofValue, Act.eval, this, h9]
  unfold Oper.wp
  rw [hr]
  refine Calls.mono (hc w hK) ?_
  rintro e w' ⟨x, rfl, hs⟩
  exact h x _ _ (hF.fput hd _) (hK.add hs)
variable {K0 : List Fact} {listed : Array Bool} {fuel : Nat} {op : Op} {t : Nat}
theorem TW.ex0k {id : Nat} {l : List Oper} (K0 : List Fact) (h2 : RG c l.toArray Q K0 [] (Array.replicate l.length false) l.length F K) (hm : c.P.follows .mixedOrders = true := by rfl) : TW c (.region id l.toArray true) Q F K := fun a w hF hK => by
  refine wp_region_any hm (wpAny_of_held (S := Sat c.S c.w0 K0) _ _ _ _ ?_)
  rw [List.size_toArray]
  exact h2 (fun p hp => by cases hp) a w.drew hF (hK.ext (keep_drew w))
theorem RG.guard {b : Bool} (ht : fget F t = some (.bool b)) (h1 : b = true → RG c ops Q K0 [] listed fuel ((t, .bool true) :: F) K) (h2 : b = false → RG c ops Q K0 [] listed fuel ((t, .bool false) :: F) K) : RG c ops Q K0 [] listed fuel F K := fun hp a w hF hK => by
  have key : ∀ b', b = b' → FS c.n c.D ((t, .bool b') :: F) a := fun b' e => ⟨hF.size, hF.dfs, fun u v hv => by
    subst e
    simp only [fget] at hv
    cases hb : Nat.beq t u with
    | true => rw [hb] at hv; have := beq_iff.1 hb; subst this; injection hv with hv; subst hv; exact hF.get _ _ ht
    | false => rw [hb] at hv; exact hF.get _ _ hv⟩
  cases hb : b
  · exact h2 hb hp a w (key _ hb) hK
  · exact h1 hb hp a w (key _ hb) hK
theorem RG.ts (i : Nat) (ho : ops[i]? = some ⟨some t, op, ty, pos, af, g⟩) (h : RG c ops Q K0 [] (listed.setIfInBounds i true) fuel ((t, undef) :: F) K) (hh : HasL K K0 := by repeat (first | exact HasL.nil | refine HasL.cons pk9 ?_)) (hk : takeA ops listed i = true := by kernel_rfl) (hg : gdB F ops g = some false := by rfl) (hd : Nat.blt t c.n = true := by rfl) (hpan : Pan Q := by (intro d _ _ _ _; cases d <;> exact Iff.rfl)) :
    RG c ops Q K0 [] listed (fuel + 1) F K := fun h1 a w hF hK => by
  simp only [takeA, Bool.and_eq_true] at hk
  exact wpAnyH_take ho hk.1.1 hk.1.2 hk.2 (fun ch a w h => (hpan _ undef ch a w).1 h) (.inr ⟨hF.wanted hg, rfl⟩) (hh.has.sat hK) (h h1 _ w (hF.put hd undef) hK)
end
end Go.Proofs.YtmonkjnfjgidbaaGreatDoor
namespace Go.Proofs.YtmonkjnfjgidbaaGreatDoor
set_option linter.all false
set_option linter.unusedVariables false
set_option linter.unusedSimpArgs false
open Go.RowKit
def Meth (P : Program) (T : TypeId) (m : String) (f : FuncId) : Prop := ∀ v w, (method (P.types.size + Made.depth) T v m).run P w = .ok (f, v) w
theorem run_inv {P : Program} {f : FuncId} {T : TypeId} {m : String} {v : Value} {us : List Value} {w : World} {x : Operand} {xs : List Operand} {ts : Array TypeId} {o : Oper} {ρ : Operand → Value} (hf : ρ x = .iface T v) (hx : xs.map ρ = us) (hm : Meth P T m f) (hen : Enters P f) (ho : o.op = .call { callee := .invoke x m, args := xs.toArray, argTypes := ts }) :
    (execOp ρ o).run P w = .ok (.enter f (v :: us).toArray) w := by
  have h9 := hen (v :: us).toArray w
  have e : #[v] ++ us.toArray = (v :: us).toArray := by simp
  have e2 : (#[Value.iface T v] ++ us.toArray).extract 1 (#[Value.iface T v] ++ us.toArray).size = us.toArray := by simp
  have e1 : (#[Value.iface T v] ++ us.toArray)[0]? = some (.iface T v) := by simp
  simp only [execOp, ho, resolve, hf, List.map_toArray, hx, Sem.run_bind, Sem.run_pure, Result.andThen_ok, invoke, e1, e2, callMethod, run_program, hm v w, e]
  exact h9
section
variable {c : Cx} {Q : Exit → Act → World → Prop} {F : Fr} {K K' : List Fact} {ops : Array Oper} {rest : List Oper} {d : Option Tmp} {ty : TypeId} {pos : String} {af : Array Edge} {g : Option (Nat × Bool)} {nf : Nat} {fl : List Fl} {bs : List Bool} {pend : List (Nat × Oper)}
theorem TL.iv {f : FuncId} {T : TypeId} {m : String} {x : Operand} {xs : List Operand} {ts : Array TypeId} {us : List Value} {u v : Value} (hf : ev F x = some (.iface T u)) (hx : evs F xs = some us) (hm : Meth c.P T m f) (hen : Enters c.P f) (hc : ∀ w, Sat c.S c.w0 K w → Calls c.P f (u :: us).toArray w (Ret w v)) (h : TL c ops Q rest (fput F d v) K) (hg : gdB F ops g = some true := by rfl) (hd : dok d c.n = true := by rfl) :
    TL c ops Q (⟨d, .call { callee := .invoke x m, args := xs.toArray, argTypes := ts }, ty, pos, af, g⟩ :: rest) F K := fun a w hF hK => by
  unfold wpList
  rw [if_pos (hF.wanted hg)]
  refine .inl ?_
  unfold Oper.wp
  rw [run_inv (hF.evl hf) (hF.evsl hx) hm hen rfl]
  refine Calls.mono (hc w hK) ?_
  rintro e w' ⟨rfl, hb⟩
  exact h _ _ (hF.fput hd _) (hK.ext hb)
theorem WK.iv {i : Nat} {f : FuncId} {T : TypeId} {m : String} {x : Operand} {xs : List Operand} {ts : Array TypeId} {us : List Value} {u v : Value} (hf : ev F x = some (.iface T u)) (hx : evs F xs = some us) (hm : Meth c.P T m f) (hen : Enters c.P f) (hc : ∀ w, Sat c.S c.w0 K w → Calls c.P f (u :: us).toArray w (Ret w v)) (h : WK c ops Q nf fl bs pend (fput F d v) K) (hg : gdB F (frontOf ops nf) g = some true := by rfl) (hd : dok d c.n = true := by rfl) :
    WK c ops Q nf fl (false :: bs) ((i, ⟨d, .call { callee := .invoke x m, args := xs.toArray, argTypes := ts }, ty, pos, af, g⟩) :: pend) F K :=
  WK.act fun a w' K' hF hK ho hK' => by
    refine wpOp_of ho (hF.wanted hg) ?_
    unfold Oper.wp
    rw [run_inv (hF.evl hf) (hF.evsl hx) hm hen rfl]
    refine Calls.mono (hc w' hK) ?_
    rintro e w'' ⟨rfl, hb⟩
    exact hK' _ [] _ _ (Sat.nil (Chg.of_ext hb)) (hF.fput hd _) h
def slA (A : Option Addr) (cp sz q : Nat) : Option Addr := if cp = q then A else A.map fun a => a.add (q * sz)
theorem Pu.sf {T E : TypeId} {sz bytes : Nat} {x y : Operand} {A : Option Addr} {n cp q : Nat} {i : Int} (hT : ElemT c.P T E sz bytes) (hx : ev F x = some (.slice A n cp) := by rfl) (hy : ev F y = some (.int .i64 i) := by rfl) (hk : i.toNat = q := by first | exact tnS _ | exact Int.toNat_natCast _ | rfl) (h0 : 0 ≤ i := by omega) (h1 : i ≤ n := by omega) : Pu c F K ⟨d, .slice T x (some y) none none, ty, pos, af, g⟩ (.slice (slA A cp sz q) (n - q) (cp - q)) := fun a w hF _ => by
  obtain ⟨i', z, hi, hz, hs, hb, hzs⟩ := hT.hi
  have hsz : (sizeOf E).run c.P w = .ok sz w := by simp [sizeOf, typeInfo, hi, hs]
  subst hk
  simp [execOp, Instr.sliceAt, Instr.slice, hF.evl hx, hF.evl hy, run_underlying hT.ht, Instr.sliceBounds, Instr.sliceBound, asIntOf, h0, h1, hsz, slA]
end
theorem RdR.tail {w : World} {sz n cp q : Nat} {A : Option Addr} {r : Nat → List Value} (h : RdR w sz A n r) (hn : n ≤ cp) (hq : q ≤ n) : RdR w sz (slA A cp sz q) (n - q) (fun k => r (q + k)) := by
  refine ⟨fun h0 => ?_, fun i hi => h.len _ (by omega)⟩
  obtain ⟨b, off, rfl, h2, h3⟩ := h.rd (by omega)
  refine ⟨b, off + q * sz, ?_, h2, fun i j hi hj => ?_⟩
  · unfold slA
    rw [if_neg (by omega), Option.map_some, add_plain]
  · have := h3 (q + i) j (by omega) hj
    rw [show off + q * sz + i * sz + j = off + (q + i) * sz + j by rw [Nat.add_mul]; omega]
    exact this
end Go.Proofs.YtmonkjnfjgidbaaGreatDoor
