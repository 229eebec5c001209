/-
  Ranges over a function: the way from plain walks into a round and back; what a function owes at its return behind such a loop. No condition on a program.
-/
import Derived.Test.YtckiagbllkdfdaaRw
import Derived.Test.YtckiagbllkdfdaaOwn
import Derived.RangeFuncNested
import Derived.RangeFuncBound
import Derived.RangeFuncCalls
import Derived.RangeFuncLeaves
import Derived.OwnWalkIn
import Derived.TacticsInMore
import Derived.LoopNIn
import Derived.LoopIn
import Derived.OrdersIn
namespace Go.Proofs.Ytckiagbllkdfdaa
set_option linter.all false
set_option linter.unusedVariables false
set_option linter.unusedSimpArgs false
open Go.RowKit
section
variable {P : Program} {ops : Array Oper} {Q : Exit → Act → World → Prop}
theorem calls_of_marks {f : FuncId} {fn : Func} {c : Code} {args : Array Value} {w : World} {R : Ending → World → Prop} (hf : P.funcs[f]? = some fn) (hb : fn.body = some c)
    (h : c.wp P (bodyPostM Fence.wide 2 P fn R) { tmps := args ++ Array.replicate (fn.ntmps - args.size) undef, defers := [] } w) : Calls P f args w R :=
  (callsIn_wide (n := 2)).1 (callsIn_of_wp_marks hf hb trivial ((wpIn_wide (n := 2)).2 h))
/-- At the return, behind one loop over a function. -/
theorem ret_marks {fn : Func} {R : Ending → World → Prop} {t : Array Value} {D : Nat} {w : World} {v : Value} (hD : w.heap[D]? = some (.deferred (some []))) (hr : (results fn t).run P (w.putObj D (.deferred none)) = .ok v (w.putObj D (.deferred none)))
    (hR : R (.returned v) (w.putObj D (.deferred none))) : bodyPostM Fence.wide 2 P fn R .ret { tmps := t, defers := [{ target := .collected D, args := #[] }] } w :=
  ⟨by simp, .inl ⟨D, _, rfl, run_takeDeferred hD, v, hr, hR⟩⟩
theorem ret_marks0 {fn : Func} {R : Ending → World → Prop} {t : Array Value} {w : World} {v : Value} (hr : (results fn t).run P w = .ok v w) (hR : R (.returned v) w) : bodyPostM Fence.wide 2 P fn R .ret { tmps := t, defers := [] } w := ⟨v, hr, hR⟩
theorem opIn {l m i : Nat} {K K' : Act → World → Prop} {a : Act} {w : World} (hK : ∀ a w, K a w → K' a w) (hnd : ∀ (o : Oper) c, ops[i]? = some o → o.op ≠ .defer c) (hL : ¬ LetsOut Q) (h : wpOp P ops Q i K a w) :
    wpOpIn (Fence.wide.inRound l) m P ops Q i K' a w := by
  unfold wpOp at h
  unfold wpOpIn
  cases ho : ops[i]? with
  | none => rw [ho] at h; exact hK _ _ h
  | some o =>
    rw [ho] at h
    simp only at h ⊢
    split
    · rename_i hw
      rw [if_pos hw] at h
      rcases h with h | ⟨_, h⟩
      · refine ⟨fun _ _ => trivial, ?_⟩
        rw [Fence.inRound_round, Oper.semAt_some l a.eval o (fun c => hnd o c ho)]
        unfold Oper.wp at h
        generalize (execOp a.eval o).run P w = r at *
        cases r with
        | ok x w' =>
          cases x <;> simp only [Oper.upon] at h <;> simp only [Oper.uponIn]
          case value u => exact hK _ _ h
          case skip => exact hK _ _ h
          case defer d => exact hK _ _ h
          case enter f args =>
            refine ⟨fun h9 => (by simp [Fence.wide] at h9), CallsIn.inRound l (callsIn_wide.2 (Calls.mono h fun e w'' he => ?_))⟩
            cases e with
            | returned u => exact hK _ _ he
            | panicked ch => exact he
            | outgrown => exact he
          case row row args =>
            refine ⟨fun h9 => (by simp [Fence.wide] at h9), fun c cs _ => ?_⟩
            obtain ⟨v, w'', r1, s1⟩ := h c cs
            exact ⟨v, w'', hK _ _ r1, stepsIn_wide.2 s1⟩
        | halt x w' => cases x <;> simp only [Oper.upon] at h <;> exact h
      · exact absurd h hL
    · rename_i hw
      rw [if_neg hw] at h
      exact ⟨fun _ _ => trivial, hK _ _ h⟩
def noDefer (ops : Array Oper) : Bool := ops.all fun o => match o.op with | .defer _ => false | _ => true
theorem noDefer_spec (h : noDefer ops = true) (i : Nat) (o : Oper) (c : Call) (ho : ops[i]? = some o) : o.op ≠ .defer c := by
  intro e
  have := Array.all_eq_true_iff_forall_mem.1 h o (Array.mem_of_getElem? ho)
  simp [e] at this
theorem anyIn {l m : Nat} {md : Region.Mode} (hnd : noDefer ops = true) (hL : ¬ LetsOut Q) : ∀ (fuel : Nat) (listed : Array Bool) (a : Act) (w : World), wpAny P md ops Q fuel listed a w → wpAnyIn (Fence.wide.inRound l) m P md ops Q fuel listed a w
  | 0, _, _, _, h => h
  | fuel + 1, _, _, _, h => ⟨h.1, fun i hi => opIn (fun a w => anyIn hnd hL fuel _ a w) (fun o c ho => noDefer_spec hnd i o c ho) hL (h.2 i hi)⟩
/-- A region that draws its order, in a round: as outside. -/
theorem RW.beginIn {l m id n : Nat} {a : Act} {w : World} (hm : P.follows .mixedOrders = true) (hT : tailOk ops n = true) (hp : Pan Q) (hnd : noDefer ops = true) (hL : ¬ LetsOut Q)
    (h : Below w.heap.size w w.drew → RW P ops Q n (Below w.heap.size w) 0 (ops.toList.take n) [] [] (Array.replicate n false) n a w.drew) : (Code.region id ops true).wpIn (Fence.wide.inRound l) m P Q a w := by
  have T := tailOk_spec hT
  refine wpIn_region_any hm (anyIn hnd hL _ _ _ _ ?_)
  have := front_any T n (Array.replicate n false) (Array.replicate ops.size false) a w.drew (by simp) (by simp) (fun i hi => by simp [Array.getElem?_replicate, hi]; have := T.le; omega) (fun i _ hi => by simp [hi]) (fun i o h0 hs _ _ _ _ => by simp at hs; rw [Array.getD_eq_getD_getElem?, Array.getElem?_replicate, if_pos hs] at h0; cases h0) (wpAny_of_held _ _ _ _ (h (keep_drew w) rfl (fun p hp => (by cases hp)) hp))
  rw [show n + (ops.size - n) = ops.size by have := T.le; omega] at this
  exact this
/-- The frame in which a round begins: the loop's parameters laid in. -/
def roundAct (a : Act) (ps : Array Tmp) (vs : Array Value) : Act := { tmps := (ps.zip vs).foldl (fun t (p, v) => t.setIfInBounds p v) a.tmps, defers := [] }
/-- A range over a function, in a plain walk: the kit's law for a boxed loop variable, at the wide fence. -/
theorem range_wide {α : Type} {g : Operand} {ps : Array Tmp} {assign body : Code} {a : Act} {w : World} {gf : Nat} {lb : Array Value} (hg : a.eval g = .func (.func gf) #[] lb) (eg : Enters P gf)
    {encs : α → Array Value} {Kp : World → World → Prop} {S Sp : List α → Prop} {N : Nat} {w0 : World} (hseq : SeqStopsK Fence.wide 1 P gf lb encs Kp S Sp N w0)
    (hKt : ∀ A B C : World, Kp A B → Kp B C → Kp A C) (hKb : ∀ (W : World) (l : Nat) (o' : Obj), w.heap.size ≤ l → Kp W (W.putObj l o')) (hb0 : Below w0.heap.size w0 w) (hps : ∀ x, (encs x).size = ps.size)
    (I : List α → World → Prop) (Ix : Code → List α → World → Prop) (hI : OwnFrom w.heap.size I) (hIx : ∀ c, OwnFrom w.heap.size (Ix c)) (h0 : I [] w) (Ax : α → Act → Act → World → Prop) (hAx : ∀ x a0 a', OwnFrom w.heap.size (fun (_ : Unit) W => Ax x a0 a' W))
    (hassign : ∀ (l : Nat) (pre : List α) (x : α) (W : World) (K : Act → World → Prop), I pre W → (∀ a' W', KeepsFrom w.heap.size W W' → Kp W W' → I pre W' → Ax x (roundAct a ps (encs x)) a' W' → K a' W') →
      assign.wpIn (Fence.wide.inRound l) 0 P (Exit.then K (fun _ _ _ => False)) (roundAct a ps (encs x)) W)
    (hbody : ∀ (l : Nat) (pre : List α) (x : α) (a' : Act) (W : World), I pre W → Ax x (roundAct a ps (encs x)) a' W → pre.length < N → body.wpIn (Fence.wide.inRound l) 0 P (ownPostG w.heap.size Kp I Ix (pre ++ [x]) W) a' W)
    (hdone : ∀ (D : Nat) (xs : List α) (W : World), w.heap.size ≤ D → S xs → I xs W → W.heap[D]? = some (.deferred (some [])) → Q .normal { a with defers := { target := .collected D, args := #[] } :: a.defers } W)
    (hstop : ∀ (D : Nat) (c : Code) (pre : List α) (W : World), w.heap.size ≤ D → Sp pre → Ix c pre W → W.heap[D]? = some (.deferred (some [])) → c.wp P Q { a with defers := { target := .collected D, args := #[] } :: a.defers } W) :
    (Code.rangeFunc g ps assign body).wp P Q a w := by
  refine (wpIn_wide (n := 2)).1 ?_
  exact wpIn_rangeFunc_ownH (F := Fence.wide) (n := 2) rfl (by decide) hg trivial eg hseq (fun {A B C} => hKt A B C) (fun W l _ o' h _ _ _ => hKb W l o' h) hb0 hps I Ix hI hIx h0 (fun x a' W => Ax x (roundAct a ps (encs x)) a' W) (fun x a' => hAx x _ a')
    (fun l pre x W K h1 h2 => hassign l pre x W K h1 h2) (fun l pre x a' W _ _ h1 h2 h3 => hbody l pre x a' W h1 h2 h3) hdone (fun D c pre W h1 h2 h3 h4 => (wpIn_wide (n := 2)).2 (hstop D c pre W h1 h2 h3 h4))
/-! ### What the rounds keep -/
theorem own_cells {w : World} {B : Nat} {E : TypeId} {sz n : Nat} {v : Value} {f : Nat → Nat → Value} {k : Nat} {o : Obj} (h : Own w B E sz v n f) (hv : v.ownBlock = some k) (ho : w.heap[k]? = some o) (hc : o.isCells = false) : False := by
  rcases h.2 with ⟨rfl, _⟩ | ⟨g, cap, cur, rfl, _, hh, _⟩
  · simp [Value.ownBlock] at hv
  · have : g = k := by simpa [Value.ownBlock] using hv
    subst this
    rw [hh] at ho
    cases ho
    cases hc

theorem Blk.own {B : Nat} {W W' : World} {row : Option Nat} {g : Nat} {t : TypeId} {cs : Array Value} (h : Blk W g t cs) (hg : W.grownBy W' row) (hr : ∀ r, row = some r → B ≤ r ∧ ∃ o : Obj, W.heap[r]? = some o ∧ o.isCells = false) : Blk W' g t cs :=
  h.grown hg fun e => by
    obtain ⟨_, o, ho, hc⟩ := hr g e.symm
    unfold Blk at h
    rw [h] at ho
    cases ho
    cases hc
theorem Below.own {B N : Nat} {w W W' : World} {row : Option Nat} (h : Below N w W) (hB : N ≤ B) (hs : N ≤ W.heap.size) (hg : W.grownBy W' row) (hr : ∀ r, row = some r → B ≤ r ∧ ∃ o : Obj, W.heap[r]? = some o ∧ o.isCells = false) : Below N w W' :=
  h.grown hg hs fun k e => Nat.le_trans hB (hr k e).1
theorem Rd.own {B : Nat} {W W' : World} {row : Option Nat} {sz n : Nat} {A : Option Addr} {f : Nat → Nat → Value} (h : Rd W sz A n f) (hz : 0 < sz) (hg : W.grownBy W' row) (hr : ∀ r, row = some r → B ≤ r ∧ ∃ o : Obj, W.heap[r]? = some o ∧ o.isCells = false) : Rd W' sz A n f := fun hn => by
  obtain ⟨b, off, h1, h2, h3⟩ := h hn
  have hne : some b ≠ row := fun e => by
    obtain ⟨_, o, ho, hc⟩ := hr b e.symm
    have := h3 0 0 hn hz
    simp only [World.cell?, ho] at this
    cases o <;> simp [Obj.isCells] at hc this
  exact ⟨b, off, h1, by have := hg.size; omega, fun i j hi hj => by rw [World.cell?_of_block (hg.block b h2 hne)]; exact h3 i j hi hj⟩
/-- An object that is no cells stays where cells are written. -/
theorem obj_setCell {w : World} {D : Nat} {o : Obj} (h : w.heap[D]? = some o) (hc : o.isCells = false) (p : Addr) (u : Value) : (w.setCell p u).heap[D]? = some o := by
  simp only [World.setCell, Array.getElem?_modify, h]
  split
  · cases o <;> simp [Obj.isCells] at hc <;> rfl
  · rfl
theorem obj_blw {w w' : World} {D : Nat} {o : Obj} (h : w.heap[D]? = some o) (hb : Below w.heap.size w w') : w'.heap[D]? = some o := (hb.block D (Array.getElem?_eq_some_iff.1 h).1).trans h
theorem obj_alloc {w : World} {D : Nat} {o : Obj} (h : w.heap[D]? = some o) (x : Obj) : (w.alloc x).heap[D]? = some o := (Below.heap_alloc w x D (Array.getElem?_eq_some_iff.1 h).1).trans h
theorem KeepsFrom.of_ext {B : Nat} {W W' : World} (h : Below W.heap.size W W') : KeepsFrom B W W' := ⟨h.size, fun _ _ _ hk _ => obj_blw hk h⟩
theorem KeepsFrom.set {B : Nat} {X W : World} (h : KeepsFrom B X W) (p : Addr) (u : Value) : KeepsFrom B X (W.setCell p u) := h.trans ((KeepsOthers.setCell _ _ _).from B)
theorem KeepsFrom.ext {B : Nat} {X W W' : World} (h : KeepsFrom B X W) (k : Below W.heap.size W W') : KeepsFrom B X W' := h.trans (KeepsFrom.of_ext k)
theorem Below.putObj {B D : Nat} {w W : World} (h : Below B w W) (hD : B ≤ D) (o : Obj) : Below B w (W.putObj D o) := h.trans ⟨rfl, rfl, rfl, by simp, fun k hk => World.putObj_heap_other (by omega)⟩
theorem Blk.putObj {W : World} {D g : Nat} {t : TypeId} {cs : Array Value} {o : Obj} (h : Blk W g t cs) (hD : W.heap[D]? = some o) (ho : o.isCells = false) (o' : Obj) : Blk (W.putObj D o') g t cs := by
  have hne : g ≠ D := fun e => by subst e; unfold Blk at h; rw [h] at hD; cases hD; cases ho
  exact (World.putObj_heap_other hne).trans h
theorem Own.putObj {W : World} {D B : Nat} {E : TypeId} {sz n : Nat} {v : Value} {f : Nat → Nat → Value} {o : Obj} (h : Own W B E sz v n f) (hD : W.heap[D]? = some o) (ho : o.isCells = false) (o' : Obj) : Own (W.putObj D o') B E sz v n f :=
  h.kept (row := some D) (grownBy_putObj' W D o') (by
    cases hv : v.ownBlock with
    | none => exact .inl rfl
    | some k => exact .inr fun e => by cases e; exact own_cells h hv hD ho)
end
end Go.Proofs.Ytckiagbllkdfdaa
