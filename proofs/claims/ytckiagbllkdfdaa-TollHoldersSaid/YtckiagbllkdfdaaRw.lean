/-
  The walk of a region that draws its order, operation by operation in the order of the text: what yields its value in every world that has only grown is taken at once; what makes memory (a call, a literal) is kept for the chain; new variables float. Behind it the region's tail. No condition on a program.
-/
import Derived.Test.YtckiagbllkdfdaaChain
namespace Go.Proofs.Ytckiagbllkdfdaa
set_option linter.all false
set_option linter.unusedVariables false
set_option linter.unusedSimpArgs false
open Go.RowKit
section
variable {P : Program} {ops : Array Oper} {Q : Exit → Act → World → Prop}
theorem tail_list {n : Nat} {a : Act} {w : World} (h : wpList P ops Q (ops.toList.drop n) a w) : tailPost P ops Q n .normal a w := by
  have := wpOps_eq_wpList (P := P) (ops := ops) (Q := Q) (ops.toList.drop n) n (fun j => by simp [List.getElem?_drop])
  show wpOps P ops Q (List.range' n (ops.size - n)) a w
  rw [show ops.size - n = (ops.toList.drop n).length by simp, this]
  exact h
def Pan (Q : Exit → Act → World → Prop) : Prop := ∀ (d : Option Tmp) (v : Value) ch a w, Q (.panic ch) (a.put d v) w ↔ Q (.panic ch) a w
/-- Q, but never at a panic: for a function whose way out by a panic hangs on the frame. -/
def NP (Q : Exit → Act → World → Prop) : Exit → Act → World → Prop := fun e a w => match e with
  | .panic _ => False
  | e => Q e a w
theorem NP.normal {a : Act} {w : World} (h : Q .normal a w) : NP Q .normal a w := h
theorem np_region {id : Nat} {b : Bool} {a : Act} {w : World} (h : (Code.region id ops b).wp P (NP Q) a w) : (Code.region id ops b).wp P Q a w :=
  Code.wp_mono (fun e a w h => by cases e <;> first | exact h | exact (h : False).elim) h
theorem NP.pan : Pan (NP Q) := fun _ _ _ _ _ => Iff.rfl
/-- The state of the walk: k operations met, 'rest' to come, 'pend' kept for the chain, 'fl' the variables that float. -/
def RW (P : Program) (ops : Array Oper) (Q : Exit → Act → World → Prop) (n : Nat) (S : World → Prop) (k : Nat) (rest : List Oper) (pend : List (Nat × Oper)) (_fl : List Fl) (listed : Array Bool) (fuel : Nat) (a : Act) (w : World) : Prop :=
  (ops.toList.take n).drop k = rest → (∀ p ∈ pend, (frontOf ops n)[p.1]? = some p.2) → Pan Q → wpAnyH P .any (frontOf ops n) (tailPost P ops Q n) S fuel listed a w
theorem RW.begin {id n : Nat} {a : Act} {w : World} (hm : P.follows .mixedOrders = true) (hT : tailOk ops n = true) (hp : Pan Q)
    (h : Below w.heap.size w w.drew → RW P ops Q n (Below w.heap.size w) 0 (ops.toList.take n) [] [] (Array.replicate n false) n a w.drew) : (Code.region id ops true).wp P Q a w :=
  wp_region_front hm hT fun hS => h hS rfl (fun p hp => by cases hp) hp
theorem RW.head {n k : Nat} {o : Oper} {rest : List Oper} (h : (ops.toList.take n).drop k = o :: rest) : (frontOf ops n)[k]? = some o ∧ (ops.toList.take n).drop (k + 1) = rest := by
  constructor
  · have := congrArg (·[0]?) h
    simpa [frontOf, List.getElem?_drop] using this
  · have := congrArg List.tail h
    simpa [List.drop_drop, Nat.add_comm] using this
def takeB (ops : Array Oper) (n : Nat) (l : Array Bool) (i : Nat) : Bool := Region.noSelect (frontOf ops n) && Region.free .any (frontOf ops n) l i && (Region.ready .any (frontOf ops n) l).contains i
theorem RW.take {n k fuel : Nat} {S : World → Prop} {o : Oper} {rest : List Oper} {pend : List (Nat × Oper)} {fl : List Fl} {listed : Array Bool} {a : Act} {w : World} {v : Value} (hS : S w) (hk : takeB ops n listed k = true)
    (hw : Region.wanted o (yielded (frontOf ops n) a.tmps) = true) (hrun : ∀ w', S w' → (execOp a.eval o).run P w' = .ok (.value v) w')
    (h : RW P ops Q n S (k + 1) rest pend fl (listed.setIfInBounds k true) fuel (a.put o.dst v) w) : RW P ops Q n S k (o :: rest) pend fl listed (fuel + 1) a w := fun h1 h2 h3 => by
  obtain ⟨e1, e2⟩ := RW.head h1
  simp only [takeB, Bool.and_eq_true] at hk
  exact wpAnyH_take e1 hk.1.1 hk.1.2 hk.2 (fun c a w h => (h3 o.dst v c a w).1 h) (.inl ⟨hw, hrun⟩) hS (h e2 h2 h3)
theorem RW.skip {n k fuel : Nat} {S : World → Prop} {o : Oper} {rest : List Oper} {pend : List (Nat × Oper)} {fl : List Fl} {listed : Array Bool} {a : Act} {w : World} (hS : S w) (hk : takeB ops n listed k = true)
    (hw : Region.wanted o (yielded (frontOf ops n) a.tmps) = false)
    (h : RW P ops Q n S (k + 1) rest pend fl (listed.setIfInBounds k true) fuel (a.put o.dst undef) w) : RW P ops Q n S k (o :: rest) pend fl listed (fuel + 1) a w := fun h1 h2 h3 => by
  obtain ⟨e1, e2⟩ := RW.head h1
  simp only [takeB, Bool.and_eq_true] at hk
  exact wpAnyH_take e1 hk.1.1 hk.1.2 hk.2 (fun c a w h => (h3 o.dst undef c a w).1 h) (.inr ⟨hw, rfl⟩) hS (h e2 h2 h3)
theorem RW.keep {n k fuel : Nat} {S : World → Prop} {o : Oper} {rest : List Oper} {pend : List (Nat × Oper)} {fl : List Fl} {listed : Array Bool} {a : Act} {w : World}
    (h : RW P ops Q n S (k + 1) rest (pend ++ [(k, o)]) fl listed fuel a w) : RW P ops Q n S k (o :: rest) pend fl listed fuel a w := fun h1 h2 h3 => by
  obtain ⟨e1, e2⟩ := RW.head h1
  exact h e2 (fun p hp => by
    rcases List.mem_append.1 hp with hp | hp
    · exact h2 p hp
    · simp only [List.mem_singleton] at hp; subst hp; exact e1) h3
theorem RW.float {n k fuel : Nat} {S : World → Prop} {d : Tmp} {T : TypeId} {ty : TypeId} {pos : String} {af : Array Edge} {rest : List Oper} {pend : List (Nat × Oper)} {fl : List Fl} {listed : Array Bool} {a : Act} {w : World} (z : Array Value)
    (h : RW P ops Q n S (k + 1) rest pend (fl ++ [⟨k, d, T, z⟩]) listed fuel a w) : RW P ops Q n S k (⟨some d, .alloc T, ty, pos, af, none⟩ :: rest) pend fl listed fuel a w := fun h1 h2 h3 => h (RW.head h1).2 h2 h3
/-- The chain, with its operations written out. -/
def wpCh (P : Program) (ops : Array Oper) (Q : Exit → Act → World → Prop) (K : List (Nat × Nat) → Act → World → Prop) : List (Nat × Oper) → List (Nat × Nat) → Act → World → Prop
  | [], N, a, w => ∀ w', Ext w w' → K N a w'
  | p :: cs, N, a, w => ∀ w', Ext w w' → if Region.wanted p.2 (yielded ops a.tmps) then p.2.wp P a w' (fun a' w'' => Ext w' w'' ∧ wpCh P ops Q K cs ((w'.heap.size, w''.heap.size) :: N) a' w'') Q
      else wpCh P ops Q K cs ((w'.heap.size, w'.heap.size) :: N) (a.put p.2.dst undef) w'
theorem wpCh_chain {K : List (Nat × Nat) → Act → World → Prop} : ∀ (cs : List (Nat × Oper)) (N : List (Nat × Nat)) (a : Act) (w : World), (∀ p ∈ cs, ops[p.1]? = some p.2) → wpCh P ops Q K cs N a w → wpChain P ops Q K (cs.map (·.1)) N a w := by
  intro cs
  induction cs with
  | nil => intro N a w _ h; exact h
  | cons p cs ih =>
    intro N a w hp h w' he
    have hh := h w' he
    unfold wpOp
    simp only [hp p (by simp)]
    split
    · rename_i hw
      rw [if_pos hw] at hh
      exact .inl (Oper.wp_mono (fun a' w'' h' => ⟨h'.1, ih _ _ _ (fun q hq => hp q (by simp [hq])) h'.2⟩) hh)
    · rename_i hw
      rw [if_neg hw] at hh
      exact ⟨Below.refl _ _, ih _ _ _ (fun q hq => hp q (by simp [hq])) hh⟩
theorem wpCh_step {K : List (Nat × Nat) → Act → World → Prop} {c : Nat} {o : Oper} {cs : List (Nat × Oper)} {N : List (Nat × Nat)} {a : Act} {w : World} (hw : Region.wanted o (yielded ops a.tmps) = true)
    (h : ∀ w', Ext w w' → ∀ K' : Act → World → Prop, (∀ a' w'', Ext w' w'' → wpCh P ops Q K cs ((w'.heap.size, w''.heap.size) :: N) a' w'' → K' a' w'') → o.wp P a w' K' Q) : wpCh P ops Q K ((c, o) :: cs) N a w := fun w' he => by
  rw [if_pos hw]
  exact h w' he _ fun a' w'' h1 h2 => ⟨h1, h2⟩
theorem wpCh_skip {K : List (Nat × Nat) → Act → World → Prop} {c : Nat} {o : Oper} {cs : List (Nat × Oper)} {N : List (Nat × Nat)} {a : Act} {w : World} (hw : Region.wanted o (yielded ops a.tmps) = false)
    (h : ∀ w', Ext w w' → wpCh P ops Q K cs ((w'.heap.size, w'.heap.size) :: N) (a.put o.dst undef) w') : wpCh P ops Q K ((c, o) :: cs) N a w := fun w' he => by
  rw [if_neg (by simp [hw])]
  exact h w' he
theorem wpCh_nil {K : List (Nat × Nat) → Act → World → Prop} {N : List (Nat × Nat)} {a : Act} {w : World} (h : ∀ w', Ext w w' → K N a w') : wpCh P ops Q K [] N a w := h
/-- A step of the chain that makes a block: the world behind it is any that has the block. -/
theorem ch_alloc {K : List (Nat × Nat) → Act → World → Prop} {cs : List (Nat × Oper)} {N : World → List (Nat × Nat)} {a : Act} {w : World} {C : Array Value} {E : TypeId} {K' : Act → World → Prop}
    (hK : ∀ a' w'', Ext w w'' → wpCh P ops Q K cs (N w'') a' w'' → K' a' w'') (h : ∀ w'', Ext w w'' → Blk w'' w.heap.size E C → wpCh P ops Q K cs (N w'') a w'') : K' a (w.alloc (.cells C E)) :=
  hK a _ ((Below.refl _ _).alloc (Nat.le_refl _) _) (h _ ((Below.refl _ _).alloc (Nat.le_refl _) _) (Blk.new _ _ _))
theorem RW.chain {n k fuel : Nat} {W : World} {pend : List (Nat × Oper)} {fl : List Fl} {listed : Array Bool} {a : Act} {w : World}
    (hb : checkB (frontOf ops n) listed (pend.map (·.1)) (keys fl) = true) (hfu : decide (pend.length + fl.length ≤ fuel) = true) (hz : ∀ f ∈ fl, Zero P f.ty f.z) (hs : Ext W w)
    (h : wpCh P (frontOf ops n) (tailPost P ops Q n) (fun N a w => ∀ D, D.map (·.1) = fl → FlOk W.heap.size w N D → Ext W w → wpList P ops Q (ops.toList.drop n) (puts D a) w) pend [] a w) : RW P ops Q n (Below W.heap.size W) k [] pend fl listed fuel a w := fun _ h2 h3 => by
  refine chain_begin (S := Below W.heap.size W) (B := W.heap.size) (fun w w' he hs => Ext.trans hs he) (pend.map (·.1)) fl hb (by simpa using hfu) (fun d ch a w v h => (h3 (some d) v ch a w).2 h) hz hs (K := fun N a w => ∀ D, D.map (·.1) = fl → FlOk W.heap.size w N D → Ext W w → wpList P ops Q (ops.toList.drop n) (puts D a) w) (fun N a w D e1 e2 e3 hk => tail_list (hk D e1 e2 e3)) hs.size (wpCh_chain pend [] a w h2 h)
theorem flOk0 {B : Nat} {w : World} {N : List (Nat × Nat)} {a : Act} {R : Act → Prop} (h : R a) : ∀ D : List (Fl × Nat), D.map (·.1) = [] → FlOk B w N D → R (puts D a) := fun D hD _ => by
  cases D with
  | nil => exact h
  | cons => cases hD
theorem flOk1 {B : Nat} {w : World} {N : List (Nat × Nat)} {a : Act} {R : Act → Prop} {f : Fl} (h : ∀ b, B ≤ b → Blk w b f.ty f.z → (∀ q ∈ N, b < q.1 ∨ q.2 ≤ b) → R (a.put (some f.d) (.pointer (some ⟨b, 0, none⟩)))) :
    ∀ D : List (Fl × Nat), D.map (·.1) = [f] → FlOk B w N D → R (puts D a) := fun D hD hO => by
  match D, hD with
  | [p], hD =>
    simp only [List.map_cons, List.map_nil, List.cons.injEq, and_true] at hD
    subst hD
    obtain ⟨h1, h2, h3⟩ := hO.1 p (by simp)
    exact h p.2 h1 h2 h3
theorem flOk2 {B : Nat} {w : World} {N : List (Nat × Nat)} {a : Act} {R : Act → Prop} {f g : Fl} (h : ∀ b c, B ≤ b → B ≤ c → b ≠ c → Blk w b f.ty f.z → Blk w c g.ty g.z → (∀ q ∈ N, b < q.1 ∨ q.2 ≤ b) → (∀ q ∈ N, c < q.1 ∨ q.2 ≤ c) →
      R ((a.put (some f.d) (.pointer (some ⟨b, 0, none⟩))).put (some g.d) (.pointer (some ⟨c, 0, none⟩)))) :
    ∀ D : List (Fl × Nat), D.map (·.1) = [f, g] → FlOk B w N D → R (puts D a) := fun D hD hO => by
  match D, hD with
  | [p, q], hD =>
    simp only [List.map_cons, List.map_nil, List.cons.injEq, and_true] at hD
    obtain ⟨rfl, rfl⟩ := hD
    obtain ⟨h1, h2, h3⟩ := hO.1 p (by simp)
    obtain ⟨k1, k2, k3⟩ := hO.1 q (by simp)
    have := hO.2
    simp at this
    exact h p.2 q.2 h1 k1 this h2 k2 h3 k3
theorem flOk3 {B : Nat} {w : World} {N : List (Nat × Nat)} {a : Act} {R : Act → Prop} {f g k : Fl} (h : ∀ b c d, B ≤ b → B ≤ c → B ≤ d → b ≠ c → b ≠ d → c ≠ d → Blk w b f.ty f.z → Blk w c g.ty g.z → Blk w d k.ty k.z → (∀ q ∈ N, b < q.1 ∨ q.2 ≤ b) → (∀ q ∈ N, c < q.1 ∨ q.2 ≤ c) → (∀ q ∈ N, d < q.1 ∨ q.2 ≤ d) →
      R (((a.put (some f.d) (.pointer (some ⟨b, 0, none⟩))).put (some g.d) (.pointer (some ⟨c, 0, none⟩))).put (some k.d) (.pointer (some ⟨d, 0, none⟩)))) :
    ∀ D : List (Fl × Nat), D.map (·.1) = [f, g, k] → FlOk B w N D → R (puts D a) := fun D hD hO => by
  match D, hD with
  | [p, q, r], hD =>
    simp only [List.map_cons, List.map_nil, List.cons.injEq, and_true] at hD
    obtain ⟨rfl, rfl, rfl⟩ := hD
    obtain ⟨h1, h2, h3⟩ := hO.1 p (by simp)
    obtain ⟨k1, k2, k3⟩ := hO.1 q (by simp)
    obtain ⟨m1, m2, m3⟩ := hO.1 r (by simp)
    have := hO.2
    simp at this
    obtain ⟨⟨n1, n2⟩, n3⟩ := this
    exact h p.2 q.2 r.2 h1 k1 m1 n1 n2 n3 h2 k2 m2 h3 k3 m3
end
end Go.Proofs.Ytckiagbllkdfdaa
