/-
  The layer's rules for closures' calls, guarded new blocks, and panics. No condition on a program.
-/
import Derived.Test.YtckiagbllkdfdaaKf
namespace Go.Proofs.Ytckiagbllkdfdaa
set_option linter.all false
set_option linter.unusedVariables false
set_option linter.unusedSimpArgs false
open Go.RowKit
section
variable {c : Cx} {Q : Exit → Act → World → Prop} {F F' : Fr} {K K' K0 : List Fact} {ops : Array Oper} {rest : List Oper} {d : Option Tmp} {ty : TypeId} {pos : String} {af : Array Edge} {g : Option (Nat × Bool)} {k fuel t nf : Nat} {pend : List (Nat × Oper)} {listed : Array Bool} {bs : List Bool} {fl : List Fl} {op : Op}
theorem wpList_yes' {P : Program} {o : Oper} {v : Value} {a : Act} {w w' : World} (hg : Region.wanted o (yielded ops a.tmps) = true) (hr : (execOp a.eval o).run P w = .ok (.value v) w') (h : wpList P ops Q rest (a.put o.dst v) w') : wpList P ops Q (o :: rest) a w := by
  unfold wpList
  rw [if_pos hg]
  exact .inl (by unfold Oper.wp; rw [hr]; exact h)
theorem TL.gm {v : Nat → Value} {T : TypeId} {cs : List Value} (hm : Mk c F K ⟨d, op, ty, pos, af, g⟩ v T cs) (h : ∀ b, TL c ops Q rest (fput F d (v b)) (.blk b T cs :: K)) (hg : gdB F ops g = some true := by rfl) (hd : dok d c.n = true := by rfl) : TL c ops Q (⟨d, op, ty, pos, af, g⟩ :: rest) F K := fun a w hF hK =>
  wpList_yes' (hF.wanted hg) (hm a w hF hK) (h _ _ _ (hF.fput hd _) (hK.new T cs))
theorem run_callv {P : Program} {f : FuncId} {fs us cs : List Value} {w : World} {x : Operand} {xs : List Operand} {ts : Array TypeId} {o : Oper} {ρ : Operand → Value} (hf : ρ x = .func (.func f) fs.toArray cs.toArray) (hx : xs.map ρ = us) (hen : Enters P f) (ho : o.op = .call { callee := .value x, args := xs.toArray, argTypes := ts }) :
    (execOp ρ o).run P w = .ok (.enter f (fs ++ us ++ cs).toArray) w := by
  have h9 := hen (fs ++ us ++ cs).toArray w
  have e : fs.toArray ++ us.toArray ++ cs.toArray = (fs ++ us ++ cs).toArray := by simp
  simp only [execOp, ho, resolve, hf, Deferred.ofValue, List.map_toArray, hx, Sem.run_bind, Sem.run_pure, Result.andThen_ok, invoke, e]
  exact h9
/-- A call of a function value: v is returned, old memory stays. -/
theorem TL.cv {f : FuncId} {x : Operand} {xs : List Operand} {ts : Array TypeId} {us fs cs : List Value} {v : Value} (hf : ev F x = some (.func (.func f) fs.toArray cs.toArray)) (hx : evs F xs = some us) (hen : Enters c.P f) (hc : ∀ w, Sat c.S c.w0 K w → Calls c.P f (fs ++ us ++ cs).toArray w (Ret w v)) (h : TL c ops Q rest (fput F d v) K) (hg : gdB F ops g = some true := by rfl) (hd : dok d c.n = true := by rfl) :
    TL c ops Q (⟨d, .call { callee := .value x, args := xs.toArray, argTypes := ts }, ty, pos, af, g⟩ :: rest) F K := fun a w hF hK => by
  unfold wpList
  rw [if_pos (hF.wanted hg)]
  refine .inl ?_
  unfold Oper.wp
  rw [run_callv (hF.evl hf) (hF.evsl hx) hen rfl]
  refine Calls.mono (hc w hK) ?_
  rintro e w' ⟨rfl, hb⟩
  exact h _ _ (hF.fput hd _) (hK.ext hb)
theorem WK.cv {i : Nat} {f : FuncId} {x : Operand} {xs : List Operand} {ts : Array TypeId} {us fs cs : List Value} {v : Value} (hf : ev F x = some (.func (.func f) fs.toArray cs.toArray)) (hx : evs F xs = some us) (hen : Enters c.P f) (hc : ∀ w, Sat c.S c.w0 K w → Calls c.P f (fs ++ us ++ cs).toArray w (Ret w v)) (h : WK c ops Q nf fl bs pend (fput F d v) K) (hg : gdB F (frontOf ops nf) g = some true := by rfl) (hd : dok d c.n = true := by rfl) :
    WK c ops Q nf fl (false :: bs) ((i, ⟨d, .call { callee := .value x, args := xs.toArray, argTypes := ts }, ty, pos, af, g⟩) :: pend) F K :=
  WK.act fun a w' K' hF hK ho hK' => by
    refine wpOp_of ho (hF.wanted hg) ?_
    unfold Oper.wp
    rw [run_callv (hF.evl hf) (hF.evsl hx) hen rfl]
    refine Calls.mono (hc w' hK) ?_
    rintro e w'' ⟨rfl, hb⟩
    exact hK' _ [] _ _ (Sat.nil (Chg.of_ext hb)) (hF.fput hd _) h
/-- .. with facts. -/
theorem TL.cvk {f : FuncId} {x : Operand} {xs : List Operand} {ts : Array TypeId} {us fs cs : List Value} {M : List Fact} {X : Type} {val : X → Value} {L : X → List Fact} (hf : ev F x = some (.func (.func f) fs.toArray cs.toArray)) (hx : evs F xs = some us) (hen : Enters c.P f) (hM : K.Perm (M ++ K'))
    (hc : ∀ w, Sat c.S c.w0 K w → CallsK c.P f (fs ++ us ++ cs).toArray M w X val L) (h : ∀ x, TL c ops Q rest (fput F d (val x)) (L x ++ K')) (hd : dok d c.n = true := by rfl) : TL c ops Q (⟨d, .call { callee := .value x, args := xs.toArray, argTypes := ts }, ty, pos, af, none⟩ :: rest) F K := fun a w hF hK =>
  wpList_plain rfl fun Z hZ => by
    unfold Oper.wp
    rw [run_callv (hF.evl hf) (hF.evsl hx) hen rfl]
    refine Calls.mono (hc w hK) ?_
    rintro e w' ⟨x, rfl, hs⟩
    exact hZ _ _ (h x _ _ (hF.fput hd _) ((hK.perm hM).step hs))
/-- A call that returns at code 0, and else panics with the code's chain. -/
def Try (w : World) (pan : Int → List PanicEntry) (code : Int) (v : Value) (e : Ending) (w' : World) : Prop := Below w.heap.size w w' ∧ e = if code = 0 then .returned v else .panicked (pan code)
theorem TL.ct {f : FuncId} {xs : List Operand} {ts : Array TypeId} {us : List Value} {v : Value} {pan : Int → List PanicEntry} {code : Int} (hx : evs F xs = some us) (hen : Enters c.P f) (hc : ∀ w, Sat c.S c.w0 K w → Calls c.P f us.toArray w (Try w pan code v)) (h0 : code = 0 → TL c ops Q rest (fput F d v) K) (h1 : code ≠ 0 → TQ c Q (.panic (pan code)) F K) (hg : gdB F ops g = some true := by rfl) (hd : dok d c.n = true := by rfl) :
    TL c ops Q (⟨d, .call { callee := .value (.func f), args := xs.toArray, argTypes := ts }, ty, pos, af, g⟩ :: rest) F K := fun a w hF hK => by
  unfold wpList
  rw [if_pos (hF.wanted hg)]
  refine .inl ?_
  unfold Oper.wp
  rw [run_callv (fs := []) (cs := []) (x := .func f) rfl (hF.evsl hx) hen rfl]
  rw [show ([] ++ us ++ [] : List Value) = us by simp]
  refine Calls.mono (hc w hK) ?_
  rintro e w' ⟨hb, rfl⟩
  by_cases h : code = 0
  · simp only [h, if_true]
    exact h0 h _ _ (hF.fput hd _) (hK.ext hb)
  · simp only [h, if_false]
    exact h1 h _ _ hF (hK.ext hb)
theorem TQ.thenP {Y : Act → World → Prop} {ch : List PanicEntry} (h : TQ c Q (.panic ch) F K) : TQ c (Exit.then Y Q) (.panic ch) F K := h
theorem TQ.blkP {i : Nat} {ch : List PanicEntry} (h : TQ c Q (.panic ch) F K) : TQ c (Exit.inBlock i Q) (.panic ch) F K := h
theorem TQ.nxtP {Z : Act → World → Prop} {ch : List PanicEntry} (h : TQ c Q (.panic ch) F K) : TQ c (Go.Proofs.Ytckiagbllkdfdaa.nxt Z Q) (.panic ch) F K := h
theorem TQ.pan {fn : Func} {R : Ending → World → Prop} {ch : List PanicEntry} (hD : c.D = []) (h : ∀ w, Sat c.S c.w0 K w → R (.panicked ch) w) : TQ c (bodyPost c.P fn R) (.panic ch) F K := fun a w hF hK => ⟨hF.dfs.trans hD, h w hK⟩
theorem Try.ok {w w' : World} {pan : Int → List PanicEntry} {code : Int} {v : Value} {L : List Fact} (hc : code = 0) (h : Sat [] w L w') : Try w pan code v (.returned v) w' := ⟨Chg.ext h.chg, by rw [if_pos hc]⟩
theorem Try.no {w w' : World} {pan : Int → List PanicEntry} {code : Int} {v : Value} {L : List Fact} (hc : code ≠ 0) (h : Sat [] w L w') : Try w pan code v (.panicked (pan code)) w' := ⟨Chg.ext h.chg, by rw [if_neg hc]⟩
/-- A panic of an error. -/
theorem TL.pn {x : Operand} {v : Value} (hx : ev F x = some v) (hr : ∀ w, (Instr.panic v).run c.P w = .halt (.panic v) w) (h : TQ c Q (.panic [{ v, recovered := false }]) F K) : TL c ops Q (⟨d, .panic x, ty, pos, af, none⟩ :: rest) F K := fun a w hF hK =>
  wpList_plain rfl fun Z hZ => by
    unfold Oper.wp
    have e : (execOp a.eval ⟨d, .panic x, ty, pos, af, none⟩).run c.P w = .halt (.panic v) w := by
      simp only [execOp, hF.evl hx, Sem.run_bind, hr w, Result.andThen_halt]
    rw [e]
    exact h a w hF hK
/-- Memory of old blocks, known whole. -/
def OldB (w0 : World) (b : Nat) (cs : List Value) : Prop := b < w0.heap.size ∧ ∀ j v, cs[j]? = some v → w0.cell? ⟨b, j, none⟩ = some v
theorem CellsN.ob {b off m : Nat} {cs vs : List Value} (h : OldB c.w0 b cs) (hS : Apart c.S (some ⟨b, 0, none⟩)) (hs : SubL cs off m vs) : CellsN c K (some ⟨b, off, none⟩) m vs := ⟨fun w hK => ⟨b, off, rfl, fun j v hv => by
  rw [hK.chg.cell h.1 (hS b rfl)]
  exact h.2 _ _ (hs.spec.2 j v hv)⟩, hs.spec.1⟩
theorem OldB.of_blk {w0 : World} {b : Nat} {T : TypeId} {cs : List Value} (h : Blk w0 b T cs.toArray) : OldB w0 b cs := ⟨h.lt, fun j v hv => by rw [h.cell]; simpa using hv⟩
theorem OldB.ext {w w' : World} {b : Nat} {cs : List Value} (h : OldB w b cs) (he : Below w.heap.size w w') : OldB w' b cs := ⟨Nat.lt_of_lt_of_le h.1 he.size, fun j v hv => by rw [he.cell (p := ⟨b, j, none⟩) h.1]; exact h.2 j v hv⟩
theorem OldB.sat {w w0 : World} {S : List Nat} {b : Nat} {cs : List Value} (h : OldB w0 b cs) (hs : Sat S w0 K w) (hb : b ∉ S) : OldB w b cs := ⟨Nat.lt_of_lt_of_le h.1 hs.chg.size, fun j v hv => by rw [hs.chg.cell h.1 hb]; exact h.2 j v hv⟩
theorem Pu.ldo {x : Operand} {T : TypeId} {q : Option Addr} {v : Value} (hT : Sc c.P T) (hx : ev F x = some (.pointer q) := by rfl) (hq : CellsN c K q 1 [v] := by exact CellsN.ob (by assumption) (by first | exact Apart.nil | assumption) (by repeat (first | exact SubL.nil | apply SubL.take | apply SubL.drop))) : Pu c F K ⟨d, .load T x, ty, pos, af, g⟩ v := Pu.load hx hT hq.1
theorem Pu.ldso {x : Operand} {T : TypeId} {m : Nat} {q : Option Addr} {vs : List Value} (hT : Ag c.P T m) (hx : ev F x = some (.pointer q) := by rfl) (hq : CellsN c K q m vs := by exact CellsN.ob (by assumption) (by first | exact Apart.nil | assumption) (by repeat (first | exact SubL.nil | apply SubL.take | apply SubL.drop))) : Pu c F K ⟨d, .load T x, ty, pos, af, g⟩ (.agg vs.toArray) := Pu.loads hx hT hq.1 hq.2
end
theorem Rd.chg {w w' : World} {S : List Nat} {sz n : Nat} {A : Option Addr} {f : Nat → Nat → Value} (h : Rd w sz A n f) (hc : Chg S w w') (hA : Apart S A) : Rd w' sz A n f := fun hn => by
  obtain ⟨b, o, rfl, hb, hcell⟩ := h hn
  exact ⟨b, o, rfl, Nat.lt_of_lt_of_le hb hc.size, fun i j hi hj => by rw [hc.cell hb (hA b rfl)]; exact hcell i j hi hj⟩
theorem RdR.chg {w w' : World} {S : List Nat} {sz n : Nat} {A : Option Addr} {r : Nat → List Value} (h : RdR w sz A n r) (hc : Chg S w w') (hA : Apart S A) : RdR w' sz A n r := ⟨h.rd.chg hc hA, h.len⟩
theorem RdR.sat {w w' : World} {S : List Nat} {K : List Fact} {sz n : Nat} {A : Option Addr} {r : Nat → List Value} (h : RdR w sz A n r) (hs : Sat S w K w') (hA : Apart S A) : RdR w' sz A n r := h.chg hs.chg hA
theorem RdR.sat0 {w w' : World} {S : List Nat} {K : List Fact} {sz n : Nat} {A : Option Addr} {r : Nat → List Value} (h : RdR w sz A n r) (hs : Sat S w K w') (hA : 0 < n → Apart S A) : RdR w' sz A n r :=
  ⟨fun hn => h.rd.chg hs.chg (hA hn) hn, h.len⟩
/-- An old slice's block is none of the new ones. -/
theorem RdR.apart {w : World} {S : List Nat} {sz n : Nat} {A : Option Addr} {r : Nat → List Value} (h : RdR w sz A n r) (hS : ∀ b ∈ S, w.heap.size ≤ b) (hn : 0 < n) : Apart S A := fun b hb hm => by
  obtain ⟨q, o, e, hq, _⟩ := h.rd hn
  subst e
  cases hb
  have : w.heap.size ≤ q := hS _ hm
  omega
theorem Sat.self {S : List Nat} {w0 w : World} {K : List Fact} (h : Sat S w0 K w) : Sat (feet K) w K w := ⟨Chg.refl _ _, h.nd, fun _ hb => .inl hb, h.holds⟩
/-- From an earlier world. -/
theorem Sat.from {S T : List Nat} {w0 w1 w : World} {K : List Fact} (h : Sat T w1 K w) (hc : Chg S w0 w1) (hT : ∀ b ∈ T, b ∈ S ∨ w0.heap.size ≤ b) : Sat S w0 K w :=
  ⟨⟨h.chg.os.trans hc.os, h.chg.tape.trans hc.tape, h.chg.output.trans hc.output, Nat.le_trans hc.size h.chg.size, fun i hi hS => (h.chg.block i (Nat.lt_of_lt_of_le hi hc.size) (fun hm => by
      rcases hT i hm with h1 | h1
      · exact hS h1
      · omega)).trans (hc.block i hi hS)⟩, h.nd, fun b hb => by
    rcases h.ge b hb with h1 | h1
    · exact hT b h1
    · exact .inr (Nat.le_trans hc.size h1), h.holds⟩
theorem CallsK.retOf {P : Program} {f : FuncId} {args : Array Value} {w : World} {X : Type} {val : X → Value} {v : Value} (h : CallsK P f args [] w X val (fun _ => [])) (hv : ∀ x, val x = v) : Calls P f args w (Ret w v) :=
  Calls.mono h fun e w' ⟨x, he, hs⟩ => ⟨by rw [he, hv x], Chg.ext hs.chg⟩
section
variable {c : Cx} {Q : Exit → Act → World → Prop} {F F' : Fr} {K K' K0 : List Fact} {ops : Array Oper} {listed : Array Bool} {fuel : Nat}
/-! ### Regions of which every order is walked -/
def RGo (c : Cx) (ops : Array Oper) (Q : Exit → Act → World → Prop) (K0 : List Fact) (listed : Array Bool) (fuel : Nat) (F : Fr) (K : List Fact) (i : Nat) (o : Oper) : Prop :=
  ∀ Z : Act → World → Prop, (∀ F2 K2, HasL K2 K0 → RG c ops Q K0 [] (listed.setIfInBounds i true) fuel F2 K2 → TQ c (fun _ => Z) .normal F2 K2) → TL c ops (nxt Z Q) [o] F K
theorem RG.all {l : List Nat} (hr : Region.ready .any ops listed = l) (hne : l ≠ []) (h : ∀ i ∈ l, ∃ o, ops[i]? = some o ∧ RGo c ops Q K0 listed fuel F K i o) : RG c ops Q K0 [] listed (fuel + 1) F K := fun _ a w hF hK => by
  refine wpAnyH_all hr hne fun j hj => ?_
  obtain ⟨o, ho, h⟩ := h j hj
  have h1 := h (fun a' w' => Sat c.S c.w0 K0 w' ∧ wpAnyH c.P .any ops Q (Sat c.S c.w0 K0) fuel (listed.setIfInBounds j true) a' w') (fun F2 K2 hh hg a' w' hF2 hK2 => ⟨hh.has.sat hK2, hg (fun p hp => by cases hp) a' w' hF2 hK2⟩) a w hF hK
  unfold wpList at h1
  unfold wpOp
  simp only [ho]
  split
  · rename_i hw
    rw [if_pos hw] at h1
    rcases h1 with h1 | ⟨hA, hL⟩
    · refine .inl ?_
      unfold Oper.wp at *
      generalize (execOp a.eval o).run c.P w = r at *
      cases r with
      | ok x w' =>
        cases x <;> simp only [Oper.upon] at h1 ⊢ <;> first
          | exact h1
          | exact Calls.mono h1 (fun e w'' he => by
              cases e with
              | returned v => exact he
              | panicked ch => exact he
              | outgrown => obtain ⟨x, y, z⟩ := he; exact ⟨x, y, z⟩)
          | exact Rows.mono h1 (fun _ _ he => he)
      | halt x w' => cases x <;> simp only [Oper.upon] at h1 ⊢ <;> exact h1
    · obtain ⟨x, y, z⟩ := hL
      exact .inr ⟨hA, x, y, z⟩
  · rename_i hw
    rw [if_neg hw] at h1
    exact h1
theorem RG.a1 (i : Nat) {o : Oper} (ho : ops[i]? = some o) (h : RGo c ops Q K0 listed fuel F K i o) (hr : Region.ready .any ops listed = [i] := by kernel_rfl) : RG c ops Q K0 [] listed (fuel + 1) F K :=
  RG.all hr (by simp) fun j hj => by
    simp only [List.mem_singleton] at hj; subst hj; exact ⟨o, ho, h⟩
theorem RG.a2 (i j : Nat) {o o' : Oper} (ho : ops[i]? = some o) (ho' : ops[j]? = some o') (h : RGo c ops Q K0 listed fuel F K i o) (h' : RGo c ops Q K0 listed fuel F K j o') (hr : Region.ready .any ops listed = [i, j] := by kernel_rfl) : RG c ops Q K0 [] listed (fuel + 1) F K :=
  RG.all hr (by simp) fun k hk => by
    simp only [List.mem_cons, List.not_mem_nil, or_false] at hk
    rcases hk with rfl | rfl
    · exact ⟨o, ho, h⟩
    · exact ⟨o', ho', h'⟩
theorem RG.a3 (i j k : Nat) {o o' o'' : Oper} (ho : ops[i]? = some o) (ho' : ops[j]? = some o') (ho'' : ops[k]? = some o'') (h : RGo c ops Q K0 listed fuel F K i o) (h' : RGo c ops Q K0 listed fuel F K j o') (h'' : RGo c ops Q K0 listed fuel F K k o'') (hr : Region.ready .any ops listed = [i, j, k] := by kernel_rfl) : RG c ops Q K0 [] listed (fuel + 1) F K :=
  RG.all hr (by simp) fun k hk => by
    simp only [List.mem_cons, List.not_mem_nil, or_false] at hk
    rcases hk with rfl | rfl | rfl
    · exact ⟨o, ho, h⟩
    · exact ⟨o', ho', h'⟩
    · exact ⟨o'', ho'', h''⟩
theorem RG.tk (i : Nat) {op : Op} {ty : TypeId} {pos : String} {af : Array Edge} {g : Option (Nat × Bool)} {t : Nat} {v : Value} (ho : ops[i]? = some ⟨some t, op, ty, pos, af, g⟩) (hp : Pu c F K0 ⟨some t, op, ty, pos, af, g⟩ v) (h : RG c ops Q K0 [] (listed.setIfInBounds i true) fuel ((t, v) :: F) K) (hh : HasL K K0 := by repeat (first | exact HasL.nil | refine HasL.cons (by repeat (first | exact Pick.hd | apply Pick.tl)) ?_)) (hk : takeA ops listed i = true := by kernel_rfl) (hg : gdB F ops g = some true := by rfl) (hd : Nat.blt t c.n = true := by rfl) (hpan : Pan Q := by (intro d _ _ _ _; cases d <;> exact Iff.rfl)) :
    RG c ops Q K0 [] listed (fuel + 1) F K := fun h1 a w hF hK => by
  simp only [takeA, Bool.and_eq_true] at hk
  exact wpAnyH_take ho hk.1.1 hk.1.2 hk.2 (fun ch a w h => (hpan _ v ch a w).1 h) (.inl ⟨hF.wanted hg, fun w' hS => hp a w' hF hS⟩) (hh.has.sat hK) (h h1 _ w (hF.put hd v) hK)
/-- Every order of a region; what is known after it is named first. -/
theorem TW.ex0 {id : Nat} {l : List Oper} (hd : Drop F K K0) (h2 : RG c l.toArray Q K0 [] (Array.replicate l.length false) l.length F K) (hm : c.P.follows .mixedOrders = true := by rfl) : TW c (.region id l.toArray true) Q F K := fun a w hF hK => by
  refine wp_region_any hm (wpAny_of_held (S := Sat c.S c.w0 K0) _ _ _ _ ?_)
  rw [List.size_toArray]
  exact h2 (fun p hp => by cases hp) a w.drew hF (hK.ext (keep_drew w))
theorem TW.expl {id : Nat} {l : List Oper} {X : Type} (Fj : X → Fr) (Kj : X → List Fact) (hd : Drop F K K0) (h1 : ∀ x, TQ c Q .normal (Fj x) (Kj x)) (h2 : (∀ x, TQ c Q .normal (Fj x) (Kj x)) → RG c l.toArray Q K0 [] (Array.replicate l.length false) l.length F K) (hm : c.P.follows .mixedOrders = true := by rfl) : TW c (.region id l.toArray true) Q F K := TW.ex0 hd (h2 h1) hm
end
end Go.Proofs.Ytckiagbllkdfdaa
