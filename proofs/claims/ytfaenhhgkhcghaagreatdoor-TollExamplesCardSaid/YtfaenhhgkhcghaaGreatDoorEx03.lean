/-
  Part 3 of the proof of tollExamples_holds: declarations of several texts, in build order. No condition on a program.
-/
import Derived.Test.YtfaenhhgkhcghaaGreatDoorEx02
import Derived.MapKept
import Derived.Carry
import Derived.Lib.AppendZerosOnto
import Derived.Laws.OwnMore
import Derived.Test.YtfaenhhgkhcghaaGreatDoorEx01
import Derived.Sort.Grow
import Derived.Lib.SliceRun
namespace Go.Proofs.YtfaenhhgkhcghaaGreatDoor
set_option linter.all false
set_option linter.unusedVariables false
set_option linter.unusedSimpArgs false
open Go.RowKit
section
variable {c : Cx} {Q : Exit → Act → World → Prop} {F F' : Fr} {K K' K0 : List Fact} {ops : Array Oper} {rest : List Oper} {d : Option Tmp} {ty : TypeId} {pos : String} {af : Array Edge} {g : Option (Nat × Bool)} {k fuel t nf : Nat} {pend : List (Nat × Oper)} {listed : Array Bool} {bs : List Bool} {fl : List Fl} {op : Op}
theorem wpList_yes' {P : Program} {o : Oper} {v : Value} {a : Act} {w w' : World} (hg : Region.wanted o (yielded ops a.tmps) = true) (hr : (execOp a.eval o).run P w = .ok (.value v) w') (h : wpList P ops Q rest (a.put o.dst v) w') : wpList P ops Q (o :: rest) a w := by
  unfold wpList
  rw [if_pos hg]
  exact .inl (by unfold Oper.wp; rw [hr]; exact h)
theorem TL.gm {v : Nat → Value} {T : TypeId} {cs : List Value} (hm : Mk c F K ⟨d, op, ty, pos, af, g⟩ v T cs) (h : ∀ b, TL c ops Q rest (fput F d (v b)) (.blk b T cs :: K)) (hg : gdB F ops g = some true := by rfl) (hd : dok d c.n = true := by rfl) : TL c ops Q (⟨d, op, ty, pos, af, g⟩ :: rest) F K := fun a w hF hK =>
  wpList_yes' (hF.wanted hg) (hm a w hF hK) (h _ _ _ (hF.fput hd _) (hK.new T cs))
theorem run_callv {P : Program} {f : FuncId} {fs us cs : List Value} {w : World} {x : Operand} {xs : List Operand} {ts : Array TypeId} {o : Oper} {ρ : Operand → Value} (hf : ρ x = .func (.func f) fs.toArray cs.toArray) (hx : xs.map ρ = us) (hen : Enters P f) (ho : o.op = .call { callee := .value x, args := xs.toArray, argTypes := ts }) :
    (execOp ρ o).run P w = .ok (.enter f (fs ++ us ++ cs).toArray) w := by
  have h9 := hen (fs ++ us ++ cs).toArray w
  have e : fs.toArray ++ us.toArray ++ cs.toArray = (fs ++ us ++ cs).toArray := by simp
  simp only [execOp, ho, resolve, hf, Deferred.ofValue, List.map_toArray, hx, Sem.run_bind, Sem.run_pure, Result.andThen_ok, invoke, e]
  exact h9
theorem TL.cv {f : FuncId} {x : Operand} {xs : List Operand} {ts : Array TypeId} {us fs cs : List Value} {v : Value} (hf : ev F x = some (.func (.func f) fs.toArray cs.toArray)) (hx : evs F xs = some us) (hen : Enters c.P f) (hc : ∀ w, Sat c.S c.w0 K w → Calls c.P f (fs ++ us ++ cs).toArray w (Ret w v)) (h : TL c ops Q rest (fput F d v) K) (hg : gdB F ops g = some true := by rfl) (hd : dok d c.n = true := by rfl) :
    TL c ops Q (⟨d, .call { callee := .value x, args := xs.toArray, argTypes := ts }, ty, pos, af, g⟩ :: rest) F K := fun a w hF hK => by
  unfold wpList
  rw [if_pos (hF.wanted hg)]
  refine .inl ?_
  unfold Oper.wp
  rw [run_callv (hF.evl hf) (hF.evsl hx) hen rfl]
  refine Calls.mono (hc w hK) ?_
  rintro e w' ⟨rfl, hb⟩
  exact h _ _ (hF.fput hd _) (hK.ext hb)
theorem TL.cvk {f : FuncId} {x : Operand} {xs : List Operand} {ts : Array TypeId} {us fs cs : List Value} {M : List Fact} {X : Type} {val : X → Value} {L : X → List Fact} (hf : ev F x = some (.func (.func f) fs.toArray cs.toArray)) (hx : evs F xs = some us) (hen : Enters c.P f) (hM : K.Perm (M ++ K'))
    (hc : ∀ w, Sat c.S c.w0 K w → CallsK c.P f (fs ++ us ++ cs).toArray M w X val L) (h : ∀ x, TL c ops Q rest (fput F d (val x)) (L x ++ K')) (hd : dok d c.n = true := by rfl) : TL c ops Q (⟨d, .call { callee := .value x, args := xs.toArray, argTypes := ts }, ty, pos, af, none⟩ :: rest) F K := fun a w hF hK =>
  wpList_plain rfl fun Z hZ => by
    unfold Oper.wp
    rw [run_callv (hF.evl hf) (hF.evsl hx) hen rfl]
    refine Calls.mono (hc w hK) ?_
    rintro e w' ⟨x, rfl, hs⟩
    exact hZ _ _ (h x _ _ (hF.fput hd _) ((hK.perm hM).step hs))
def OldB (w0 : World) (b : Nat) (cs : List Value) : Prop := b < w0.heap.size ∧ ∀ j v, cs[j]? = some v → w0.cell? ⟨b, j, none⟩ = some v
theorem CellsN.ob {b off m : Nat} {cs vs : List Value} (h : OldB c.w0 b cs) (hS : Apart c.S (some ⟨b, 0, none⟩)) (hs : SubL cs off m vs) : CellsN c K (some ⟨b, off, none⟩) m vs := ⟨fun w hK => ⟨b, off, rfl, fun j v hv => by
  rw [hK.chg.cell h.1 (hS b rfl)]
  exact h.2 _ _ (hs.spec.2 j v hv)⟩, hs.spec.1⟩
theorem OldB.of_blk {w0 : World} {b : Nat} {T : TypeId} {cs : List Value} (h : Blk w0 b T cs.toArray) : OldB w0 b cs := ⟨h.lt, fun j v hv => by rw [h.cell]; simpa using hv⟩
theorem OldB.ext {w w' : World} {b : Nat} {cs : List Value} (h : OldB w b cs) (he : Below w.heap.size w w') : OldB w' b cs := ⟨Nat.lt_of_lt_of_le h.1 he.size, fun j v hv => by rw [he.cell (p := ⟨b, j, none⟩) h.1]; exact h.2 j v hv⟩
theorem OldB.sat {w w0 : World} {S : List Nat} {b : Nat} {cs : List Value} (h : OldB w0 b cs) (hs : Sat S w0 K w) (hb : b ∉ S) : OldB w b cs := ⟨Nat.lt_of_lt_of_le h.1 hs.chg.size, fun j v hv => by rw [hs.chg.cell h.1 hb]; exact h.2 j v hv⟩
theorem Pu.ldo {x : Operand} {T : TypeId} {q : Option Addr} {v : Value} (hT : Sc c.P T) (hx : ev F x = some (.pointer q) := by rfl) (hq : CellsN c K q 1 [v] := by exact CellsN.ob (by assumption) (by first | exact Apart.nil | assumption) (by repeat (first | exact SubL.nil | apply SubL.take | apply SubL.drop))) : Pu c F K ⟨d, .load T x, ty, pos, af, g⟩ v := Pu.load hx hT hq.1
theorem Pu.ldso {x : Operand} {T : TypeId} {m : Nat} {q : Option Addr} {vs : List Value} (hT : Ag c.P T m) (hx : ev F x = some (.pointer q) := by rfl) (hq : CellsN c K q m vs := by exact CellsN.ob (by assumption) (by first | exact Apart.nil | assumption) (by repeat (first | exact SubL.nil | apply SubL.take | apply SubL.drop))) : Pu c F K ⟨d, .load T x, ty, pos, af, g⟩ (.agg vs.toArray) := Pu.loads hx hT hq.1 hq.2
end
theorem Rd.chg {w w' : World} {S : List Nat} {sz n : Nat} {A : Option Addr} {f : Nat → Nat → Value} (h : Rd w sz A n f) (hc : Chg S w w') (hA : Apart S A) : Rd w' sz A n f := fun hn => by
  obtain ⟨b, o, rfl, hb, hcell⟩ := h hn
  exact ⟨b, o, rfl, Nat.lt_of_lt_of_le hb hc.size, fun i j hi hj => by rw [hc.cell hb (hA b rfl)]; exact hcell i j hi hj⟩
theorem RdR.chg {w w' : World} {S : List Nat} {sz n : Nat} {A : Option Addr} {r : Nat → List Value} (h : RdR w sz A n r) (hc : Chg S w w') (hA : Apart S A) : RdR w' sz A n r := ⟨h.rd.chg hc hA, h.len⟩
theorem RdR.sat {w w' : World} {S : List Nat} {K : List Fact} {sz n : Nat} {A : Option Addr} {r : Nat → List Value} (h : RdR w sz A n r) (hs : Sat S w K w') (hA : Apart S A) : RdR w' sz A n r := h.chg hs.chg hA
theorem RdR.sat0 {w w' : World} {S : List Nat} {K : List Fact} {sz n : Nat} {A : Option Addr} {r : Nat → List Value} (h : RdR w sz A n r) (hs : Sat S w K w') (hA : 0 < n → Apart S A) : RdR w' sz A n r :=
  ⟨fun hn => h.rd.chg hs.chg (hA hn) hn, h.len⟩
theorem RdR.apart {w : World} {S : List Nat} {sz n : Nat} {A : Option Addr} {r : Nat → List Value} (h : RdR w sz A n r) (hS : ∀ b ∈ S, w.heap.size ≤ b) (hn : 0 < n) : Apart S A := fun b hb hm => by
  obtain ⟨q, o, e, hq, _⟩ := h.rd hn
  subst e
  cases hb
  have : w.heap.size ≤ q := hS _ hm
  omega
theorem Sat.self {S : List Nat} {w0 w : World} {K : List Fact} (h : Sat S w0 K w) : Sat (feet K) w K w := ⟨Chg.refl _ _, h.nd, fun _ hb => .inl hb, h.holds⟩
theorem Sat.from {S T : List Nat} {w0 w1 w : World} {K : List Fact} (h : Sat T w1 K w) (hc : Chg S w0 w1) (hT : ∀ b ∈ T, b ∈ S ∨ w0.heap.size ≤ b) : Sat S w0 K w :=
  ⟨⟨h.chg.os.trans hc.os, h.chg.tape.trans hc.tape, h.chg.output.trans hc.output, Nat.le_trans hc.size h.chg.size, fun i hi hS => (h.chg.block i (Nat.lt_of_lt_of_le hi hc.size) (fun hm => by
      rcases hT i hm with h1 | h1
      · exact hS h1
      · omega)).trans (hc.block i hi hS)⟩, h.nd, fun b hb => by
    rcases h.ge b hb with h1 | h1
    · exact hT b h1
    · exact .inr (Nat.le_trans hc.size h1), h.holds⟩
theorem CallsK.retOf {P : Program} {f : FuncId} {args : Array Value} {w : World} {X : Type} {val : X → Value} {v : Value} (h : CallsK P f args [] w X val (fun _ => [])) (hv : ∀ x, val x = v) : Calls P f args w (Ret w v) :=
  Calls.mono h fun e w' ⟨x, he, hs⟩ => ⟨by rw [he, hv x], Chg.ext hs.chg⟩
section
variable {c : Cx} {Q : Exit → Act → World → Prop} {F F' : Fr} {K K' K0 : List Fact} {ops : Array Oper} {listed : Array Bool} {fuel : Nat}
def RGo (c : Cx) (ops : Array Oper) (Q : Exit → Act → World → Prop) (K0 : List Fact) (listed : Array Bool) (fuel : Nat) (F : Fr) (K : List Fact) (i : Nat) (o : Oper) : Prop :=
  ∀ Z : Act → World → Prop, (∀ F2 K2, HasL K2 K0 → RG c ops Q K0 [] (listed.setIfInBounds i true) fuel F2 K2 → TQ c (fun _ => Z) .normal F2 K2) → TL c ops (nxt Z Q) [o] F K
theorem RG.all {l : List Nat} (hr : Region.ready .any ops listed = l) (hne : l ≠ []) (h : ∀ i ∈ l, ∃ o, ops[i]? = some o ∧ RGo c ops Q K0 listed fuel F K i o) : RG c ops Q K0 [] listed (fuel + 1) F K := fun _ a w hF hK => by
  refine wpAnyH_all hr hne fun j hj => ?_
  obtain ⟨o, ho, h⟩ := h j hj
  have h1 := h (fun a' w' => Sat c.S c.w0 K0 w' ∧ wpAnyH c.P .any ops Q (Sat c.S c.w0 K0) fuel (listed.setIfInBounds j true) a' w') (fun F2 K2 hh hg a' w' hF2 hK2 => ⟨hh.has.sat hK2, hg (fun p hp => by cases hp) a' w' hF2 hK2⟩) a w hF hK
  unfold wpList at h1
  unfold wpOp
  simp only [ho]
  split
  · rename_i hw
    rw [if_pos hw] at h1
    rcases h1 with h1 | ⟨hA, hL⟩
    · refine .inl ?_
      unfold Oper.wp at *
      generalize (execOp a.eval o).run c.P w = r at *
      cases r with
      | ok x w' =>
        cases x <;> simp only [Oper.upon] at h1 ⊢ <;> first
          | exact h1
          | exact Calls.mono h1 (fun e w'' he => by
              cases e with
              | returned v => exact he
              | panicked ch => exact he
              | outgrown => obtain ⟨x, y, z⟩ := he; exact ⟨x, y, z⟩)
          | exact Rows.mono h1 (fun _ _ he => he)
      | halt x w' => cases x <;> simp only [Oper.upon] at h1 ⊢ <;> exact h1
    · obtain ⟨x, y, z⟩ := hL
      exact .inr ⟨hA, x, y, z⟩
  · rename_i hw
    rw [if_neg hw] at h1
    exact h1
theorem RG.a1 (i : Nat) {o : Oper} (ho : ops[i]? = some o) (h : RGo c ops Q K0 listed fuel F K i o) (hr : Region.ready .any ops listed = [i] := by kernel_rfl) : RG c ops Q K0 [] listed (fuel + 1) F K :=
  RG.all hr (by simp) fun j hj => by
    simp only [List.mem_singleton] at hj; subst hj; exact ⟨o, ho, h⟩
theorem RG.a2 (i j : Nat) {o o' : Oper} (ho : ops[i]? = some o) (ho' : ops[j]? = some o') (h : RGo c ops Q K0 listed fuel F K i o) (h' : RGo c ops Q K0 listed fuel F K j o') (hr : Region.ready .any ops listed = [i, j] := by kernel_rfl) : RG c ops Q K0 [] listed (fuel + 1) F K :=
  RG.all hr (by simp) fun k hk => by
    simp only [List.mem_cons, List.not_mem_nil, or_false] at hk
    rcases hk with rfl | rfl
    · exact ⟨o, ho, h⟩
    · exact ⟨o', ho', h'⟩
theorem RG.a3 (i j k : Nat) {o o' o'' : Oper} (ho : ops[i]? = some o) (ho' : ops[j]? = some o') (ho'' : ops[k]? = some o'') (h : RGo c ops Q K0 listed fuel F K i o) (h' : RGo c ops Q K0 listed fuel F K j o') (h'' : RGo c ops Q K0 listed fuel F K k o'') (hr : Region.ready .any ops listed = [i, j, k] := by kernel_rfl) : RG c ops Q K0 [] listed (fuel + 1) F K :=
  RG.all hr (by simp) fun k hk => by
    simp only [List.mem_cons, List.not_mem_nil, or_false] at hk
    rcases hk with rfl | rfl | rfl
    · exact ⟨o, ho, h⟩
    · exact ⟨o', ho', h'⟩
    · exact ⟨o'', ho'', h''⟩
theorem RG.tk (i : Nat) {op : Op} {ty : TypeId} {pos : String} {af : Array Edge} {g : Option (Nat × Bool)} {t : Nat} {v : Value} (ho : ops[i]? = some ⟨some t, op, ty, pos, af, g⟩) (hp : Pu c F K0 ⟨some t, op, ty, pos, af, g⟩ v) (h : RG c ops Q K0 [] (listed.setIfInBounds i true) fuel ((t, v) :: F) K) (hh : HasL K K0 := by repeat (first | exact HasL.nil | refine HasL.cons (by repeat (first | exact Pick.hd | apply Pick.tl)) ?_)) (hk : takeA ops listed i = true := by kernel_rfl) (hg : gdB F ops g = some true := by rfl) (hd : Nat.blt t c.n = true := by rfl) (hpan : Pan Q := by (intro d _ _ _ _; cases d <;> exact Iff.rfl)) :
    RG c ops Q K0 [] listed (fuel + 1) F K := fun h1 a w hF hK => by
  simp only [takeA, Bool.and_eq_true] at hk
  exact wpAnyH_take ho hk.1.1 hk.1.2 hk.2 (fun ch a w h => (hpan _ v ch a w).1 h) (.inl ⟨hF.wanted hg, fun w' hS => hp a w' hF hS⟩) (hh.has.sat hK) (h h1 _ w (hF.put hd v) hK)
theorem TW.ex0 {id : Nat} {l : List Oper} (hd : Drop F K K0) (h2 : RG c l.toArray Q K0 [] (Array.replicate l.length false) l.length F K) (hm : c.P.follows .mixedOrders = true := by rfl) : TW c (.region id l.toArray true) Q F K := fun a w hF hK => by
  refine wp_region_any hm (wpAny_of_held (S := Sat c.S c.w0 K0) _ _ _ _ ?_)
  rw [List.size_toArray]
  exact h2 (fun p hp => by cases hp) a w.drew hF (hK.ext (keep_drew w))
theorem TW.expl {id : Nat} {l : List Oper} {X : Type} (Fj : X → Fr) (Kj : X → List Fact) (hd : Drop F K K0) (h1 : ∀ x, TQ c Q .normal (Fj x) (Kj x)) (h2 : (∀ x, TQ c Q .normal (Fj x) (Kj x)) → RG c l.toArray Q K0 [] (Array.replicate l.length false) l.length F K) (hm : c.P.follows .mixedOrders = true := by rfl) : TW c (.region id l.toArray true) Q F K := TW.ex0 hd (h2 h1) hm
end
theorem zcb9 : (∀ (p : Prop) [Decidable p], (decide p = true) = p) ∧ (∀ (p : Prop) [Decidable p], decide p = false ↔ ¬p) ∧ (∀ b, ((!b) = true) = (b = false)) ∧ (∀ b, ((!b) = false) = (b = true)) ∧ (∀ a b : Bool, ((a && b) = true) = (a = true ∧ b = true)) ∧ (∀ a b : Bool, ((a || b) = true) = (a = true ∨ b = true)) ∧ (∀ a b : Bool, (a && b) = false ↔ a = false ∨ b = false) ∧ (∀ a b : Bool, (a || b) = false ↔ a = false ∧ b = false) ∧ (∀ a b : Int, ¬a < b ↔ b ≤ a) ∧ (∀ a b : Int, ¬a ≤ b ↔ b < a) :=
  ⟨@decide_eq_true_eq, @decide_eq_false_iff_not, Bool.not_eq_true', Bool.not_eq_false', Bool.and_eq_true, Bool.or_eq_true, @Bool.and_eq_false_iff, @Bool.or_eq_false_iff, @Int.not_lt, @Int.not_le⟩
theorem zgb9 : (∀ (p : Prop) [Decidable p], (decide p = true) = p) ∧ (∀ (p : Prop) [Decidable p], decide p = false ↔ ¬p) ∧ (∀ b, ((!b) = true) = (b = false)) ∧ (∀ b, ((!b) = false) = (b = true)) ∧ (∀ n : Nat, 0 < (n : Int) ↔ 0 < n) :=
  ⟨@decide_eq_true_eq, @decide_eq_false_iff_not, Bool.not_eq_true', Bool.not_eq_false', @Int.natCast_pos⟩
theorem zgn9 : (∀ (p : Prop) [Decidable p], (decide p = true) = p) ∧ (∀ (p : Prop) [Decidable p], decide p = false ↔ ¬p) ∧ (∀ b, ((!b) = true) = (b = false)) ∧ (∀ b, ((!b) = false) = (b = true)) ∧ (∀ n : Nat, 0 < (n : Int) ↔ 0 < n) ∧ (∀ m n : Nat, (m : Int) = n ↔ m = n) ∧ (∀ m n : Nat, (m : Int) < n ↔ m < n) :=
  ⟨@decide_eq_true_eq, @decide_eq_false_iff_not, Bool.not_eq_true', Bool.not_eq_false', @Int.natCast_pos, @Int.ofNat_inj, @Int.ofNat_lt⟩
theorem zom9 {p : Prop} (h : p := by first | omega | (simp only []; omega) | (simp; omega)) : p := h
theorem pk9 {K K2 : List Fact} {φ : Fact} (h : Pick K φ K2 := by repeat (first | exact Pick.hd | apply Pick.tl)) : Pick K φ K2 := h
theorem fs9 {F G : Fr} (h : fsub F G := by repeat (first | exact trivial | refine ⟨rfl, ?_⟩ | refine ⟨trivial, ?_⟩)) : fsub F G := h
theorem ks9 {K L : List Fact} (h : KSub K L := by repeat (first | exact KSub.nil | refine KSub.cons (by repeat (first | exact Pick.hd | apply Pick.tl)) ?_)) : KSub K L := h
theorem kt9 {K L : List Fact} (h : KSub K L := by repeat (first | exact KSub.nil | refine KSub.cons (by repeat (first | exact Pick.hd | apply Pick.tl)) ?_ | exact KSub.refl _ | refine KSub.drop ?_)) : KSub K L := h
theorem hl9 {K L : List Fact} (h : HasL K L := by repeat (first | exact HasL.nil | refine HasL.cons (by repeat (first | exact Pick.hd | apply Pick.tl)) ?_)) : HasL K L := h
end Go.Proofs.YtfaenhhgkhcghaaGreatDoor
namespace Go.Proofs.YtfaenhhgkhcghaaGreatDoor
set_option linter.all false
set_option linter.unusedVariables false
set_option linter.unusedSimpArgs false
open Go.RowKit Go.MapKept
def ents (kk : IntKind) : Nat → List (Int × Value) → List MapEntry
 | _, [] => []
 | s, (k, v) :: l => { key := .int kk k, val := v, born := s } :: ents kk (s + 1) l
def mapO (kk : IntKind) (l : List (Int × Value)) : Obj := .map (ents kk 0 l).toArray l.length
def mlook (i : Int) : List (Int × Value) → Option Value
 | [] => none
 | (k, v) :: l => if i = k then some v else mlook i l
def mput (i : Int) (v : Value) : List (Int × Value) → List (Int × Value)
 | [] => [(i, v)]
 | (k, u) :: l => if i = k then (k, v) :: l else (k, u) :: mput i v l
def mfind (i : Int) : Nat → List (Int × Value) → Option (Nat × Value)
 | _, [] => none
 | q, (k, v) :: l => if i = k then some (q, v) else mfind i (q + 1) l
theorem findNow_ents (kk : IntKind) (i : Int) : ∀ (l : List (Int × Value)) (s q : Nat), Instr.findNow (.int kk) (.int kk i) (ents kk s l) q = some (mfind i q l)
  | [], _, _ => rfl
  | (k, v) :: l, s, q => by
    by_cases h : i = k
    · subst h; simp [ents, Instr.findNow, Instr.sameNow, mfind]
    · have hb : (i == k) = false := by simpa using h
      simp [ents, Instr.findNow, Instr.sameNow, mfind, h, hb, findNow_ents kk i l (s + 1) (q + 1)]
theorem mfind_look (i : Int) : ∀ (l : List (Int × Value)) (q : Nat), (mfind i q l).map (·.2) = mlook i l
 | [], _ => rfl
 | (k, v) :: l, q => by
  by_cases h : i = k
  · simp [mfind, mlook, h]
  · simp [mfind, mlook, h, mfind_look i l (q + 1)]
theorem mput_none {i : Int} {v : Value} {kk : IntKind} : ∀ {l : List (Int × Value)} {q s : Nat}, mfind i q l = none → ents kk s (mput i v l) = ents kk s l ++ [{ key := .int kk i, val := v, born := s + l.length }] ∧ (mput i v l).length = l.length + 1
 | [], _, _, _ => ⟨rfl, rfl⟩
 | (k, u) :: l, q, s, h => by
  by_cases hk : i = k
  · simp [mfind, hk] at h
  · simp only [mfind, hk, if_false] at h
    obtain ⟨h1, h2⟩ := mput_none (v := v) (kk := kk) (s := s + 1) h
    simp only [mput, hk, if_false, ents, h1, List.length_cons, h2, List.cons_append, and_true]
    congr 3
    all_goals simp; try omega
theorem mput_some {i : Int} {v u : Value} {kk : IntKind} : ∀ {l : List (Int × Value)} {q s p : Nat}, mfind i q l = some (q + p, u) → (ents kk s (mput i v l)) = (ents kk s l).modify p (fun e => { e with key := .int kk i, val := v }) ∧ (mput i v l).length = l.length ∧ ∃ b, (ents kk s l)[p]? = some { key := .int kk i, val := u, born := b }
 | [], _, _, _, h => by simp [mfind] at h
 | (k, u') :: l, q, s, p, h => by
  by_cases hk : i = k
  · simp [mfind, hk] at h
    obtain ⟨h1, h2⟩ := h
    subst h1 h2 hk
    exact ⟨by simp [mput, ents], by simp [mput], s, by simp [ents]⟩
  · simp only [mfind, hk, if_false] at h
    have hp : 0 < p := by
      rcases Nat.eq_zero_or_pos p with rfl | hp
      · exfalso
        have := mfind_ge h
        omega
      · exact hp
    obtain ⟨p', rfl⟩ : ∃ p', p = p' + 1 := ⟨p - 1, by omega⟩
    rw [show q + (p' + 1) = (q + 1) + p' by omega] at h
    obtain ⟨h1, h2, b, h3⟩ := mput_some (v := v) (kk := kk) (s := s + 1) h
    exact ⟨by simp [mput, hk, ents, h1], by simp [mput, hk, h2], b, by simpa [ents] using h3⟩
where
 mfind_ge {i : Int} {u : Value} : ∀ {l : List (Int × Value)} {q p : Nat}, mfind i q l = some (p, u) → q ≤ p
  | [], _, _, h => by simp [mfind] at h
  | (k, u') :: l, q, p, h => by
    by_cases hk : i = k
    · simp [mfind, hk] at h; omega
    · simp only [mfind, hk, if_false] at h
      have := mfind_ge h
      omega
structure MapT (P : Program) (T kt et : TypeId) (kk : IntKind) : Prop where
 map : P.underlying T = some (.map kt et)
 key : P.underlying kt = some (.int kk)
theorem isKey_int (kk : IntKind) (i : Int) : IsKey (.int kk) (.int kk i) := by simp [IsKey]
theorem run_getObj_o {P : Program} {w : World} {b : Nat} {kk : IntKind} {l : List (Int × Value)} (hb : w.heap[b]? = some (mapO kk l)) : (getObj b).run P w = .ok (.map (ents kk 0 l).toArray l.length) w := by
 unfold mapO at hb
 exact Go.MapKept.run_getObj_map hb
theorem run_setObj_o {P : Program} {w : World} {b : Nat} {kk : IntKind} {l : List (Int × Value)} (o : Obj) (hb : w.heap[b]? = some (mapO kk l)) : (setObj b o).run P w = .ok () { w with heap := w.heap.setIfInBounds b o } := by
 unfold mapO at hb
 exact Go.MapKept.run_setObj_map o hb
theorem run_lookup_o {P : Program} {T kt et : TypeId} {kk : IntKind} {w : World} {b : Nat} {l : List (Int × Value)} {i : Int} {z : Value} (hT : MapT P T kt et kk) (hb : w.heap[b]? = some (mapO kk l)) (hz : (zeroValue et).run P w = .ok z w) (ok : Bool) :
  (Instr.lookup T (.map (some b)) (.int kk i) ok).run P w = .ok (if ok then .tuple #[(mlook i l).getD z, .bool (mlook i l).isSome] else (mlook i l).getD z) w := by
 have h0 := findNow_ents kk i l 0 0
 have hf : (Instr.findKey kt (.int kk i) (ents kk 0 l)).run P w = .ok (mfind i 0 l) w := run_findKey hT.key h0
 have hl := mfind_look i l 0
 unfold Instr.lookup
 simp only [Sem.run_bind, run_underlying hT.map, Result.andThen_ok, run_getObj_o hb, Sem.run_pure, run_checkKey hT.key (isKey_int kk i), hf]
 cases hm : mfind i 0 l with
 | none =>
  rw [hm] at hl
  have hl' : mlook i l = none := by simpa using hl.symm
  simp [hz, hl', Result.andThen_ok]
 | some x =>
  rw [hm] at hl
  have hl' : mlook i l = some x.2 := by simpa using hl.symm
  simp [hl', Result.andThen_ok]
theorem run_mapUpdate_o {P : Program} {T kt et : TypeId} {kk : IntKind} {w : World} {b : Nat} {l : List (Int × Value)} {i : Int} {v : Value} (hT : MapT P T kt et kk) (hb : w.heap[b]? = some (mapO kk l)) :
  (Instr.mapUpdate T (.map (some b)) (.int kk i) v).run P w = .ok () { w with heap := w.heap.setIfInBounds b (mapO kk (mput i v l)) } := by
 have h0 := findNow_ents kk i l 0 0
 have hf : (Instr.findKey kt (.int kk i) (ents kk 0 l)).run P w = .ok (mfind i 0 l) w := run_findKey hT.key h0
 unfold Instr.mapUpdate
 simp only [Sem.run_bind, run_underlying hT.map, Result.andThen_ok, run_getObj_o hb, run_checkKey hT.key (isKey_int kk i), hf]
 cases hm : mfind i 0 l with
 | none =>
  obtain ⟨h1, h2⟩ := mput_none (v := v) (kk := kk) (s := 0) hm
  simp only [run_setObj_o _ hb]
  unfold mapO
  rw [h1, h2]
  simp
 | some x =>
  obtain ⟨p, u⟩ := x
  obtain ⟨h1, h2, c, h3⟩ := mput_some (v := v) (kk := kk) (s := 0) (p := p) (q := 0) (by rw [hm, Nat.zero_add])
  have hk : ((((ents kk 0 l).toArray[p]?).map (·.key)).getD (Value.int kk i)) = .int kk i := by simp [h3]
  have hkeep : (Instr.keyThatStays (.int kk i) (.int kk i)).run P w = .ok (.int kk i) w := by simp [Instr.keyThatStays, Instr.sameBits]
  simp only [hk, hkeep, Sem.run_bind, Result.andThen_ok, run_setObj_o _ hb]
  unfold mapO
  rw [h1, h2]
  simp
section
variable {c : Cx} {Q : Exit → Act → World → Prop} {F F' : Fr} {K K' K0 : List Fact} {ops : Array Oper} {rest : List Oper} {d : Option Tmp} {ty : TypeId} {pos : String} {af : Array Edge} {g : Option (Nat × Bool)} {k fuel t nf : Nat} {pend : List (Nat × Oper)} {listed : Array Bool} {bs : List Bool} {fl : List Fl} {op : Op}
theorem Sat.newObj {S : List Nat} {w0 w : World} (h : Sat S w0 K w) (o : Obj) (ho : o.isCells = false) : Sat S w0 (.obj w.heap.size o :: K) (w.alloc o) :=
 h.add (L := [_]) (Sat.one (Chg.of_ext ((Below.refl _ _).alloc (Nat.le_refl _) _)) (by simp [Fact.foot]) (fun b hb => by simp [Fact.foot] at hb; subst hb; exact .inr (Nat.le_refl _)) ⟨(heap_alloc w o).1, ho⟩)
theorem TL.mm {T : TypeId} {kk : IntKind} (h : ∀ b, TL c ops Q rest ((t, .map (some b)) :: F) (.obj b (mapO kk []) :: K)) (hd : Nat.blt t c.n = true := by rfl) : TL c ops Q (⟨some t, .makeMap T none, ty, pos, af, none⟩ :: rest) F K := fun a w hF hK =>
 wpList_plain rfl fun Z hZ => by
  have hr : (execOp a.eval ⟨some t, .makeMap T none, ty, pos, af, none⟩).run c.P w = .ok (.value (.map (some w.heap.size))) (w.alloc (.map #[] 0)) := by
   simp [execOp, run_makeMap]
  unfold Oper.wp
  rw [hr]
  exact hZ _ _ (h _ _ _ (hF.put hd _) (hK.newObj _ rfl))
theorem TL.mu {m x y : Operand} {T kt et : TypeId} {kk : IntKind} {b : Nat} {i : Int} {v : Value} {l : List (Int × Value)} (hT : MapT c.P T kt et kk) (h : TL c ops Q rest F (.obj b (mapO kk (mput i v l)) :: K')) (hm : ev F m = some (.map (some b)) := by rfl) (hx : ev F x = some (.int kk i) := by rfl) (hy : ev F y = some v := by rfl)
    (hp : Pick K (.obj b (mapO kk l)) K' := by repeat (first | exact Pick.hd | apply Pick.tl)) : TL c ops Q (⟨none, .mapUpdate T m x y, ty, pos, af, none⟩ :: rest) F K := fun a w hF hK => by
  have hs := hK.pick hp
  have hb : w.heap[b]? = some (mapO kk l) := (hs.holds (.obj b (mapO kk l)) (by simp)).1
  have hr := run_mapUpdate_o (i := i) (v := v) hT hb
  refine wpList_skip rfl (w' := { w with heap := w.heap.setIfInBounds b (mapO kk (mput i v l)) }) ?_ (h a _ hF (hs.turn ?_ (by simp [Fact.foot]) (fun q hq => .inl hq) ⟨(heap_set hb).1, rfl⟩))
  · simp [execOp, hF.evl hm, hF.evl hx, hF.evl hy, hr]
  · exact ⟨rfl, rfl, rfl, by simp, fun q _ hq => (heap_set hb).2 q (by simpa [Fact.foot] using hq)⟩
theorem Pu.l1 {x y : Operand} {T kt et : TypeId} {kk : IntKind} {b : Nat} {i : Int} {z : Value} {l : List (Int × Value)} (hT : MapT c.P T kt et kk) (hz : ∀ w, (zeroValue et).run c.P w = .ok z w) (hx : ev F x = some (.map (some b)) := by rfl) (hy : ev F y = some (.int kk i) := by rfl)
    (hp : Pick K (.obj b (mapO kk l)) K' := by repeat (first | exact Pick.hd | apply Pick.tl)) : Pu c F K ⟨d, .lookup T x y false, ty, pos, af, g⟩ ((mlook i l).getD z) := fun a w hF hK => by
  have hb : w.heap[b]? = some (mapO kk l) := (hK.holds _ hp.mem).1
  have hr := run_lookup_o (i := i) hT hb (hz w) false
  simp [execOp, hF.evl hx, hF.evl hy, hr]
end
end Go.Proofs.YtfaenhhgkhcghaaGreatDoor
namespace Go.Proofs.YtfaenhhgkhcghaaGreatDoor
set_option linter.all false
set_option linter.unusedVariables false
set_option linter.unusedSimpArgs false
open Go.RowKit
theorem flat_take {sz : Nat} {f : Nat → Nat → Value} : ∀ {n m : Nat}, m ≤ n → (flat sz n f).take (m * sz) = flat sz m f
  | 0, m, h => by
    have : m = 0 := by omega
    subst this
    simp [flat]
  | n + 1, m, h => by
    by_cases hm : m = n + 1
    · subst hm
      exact List.take_of_length_le (by rw [flat_length]; exact Nat.le_refl _)
    · rw [flat_succ, List.take_append_of_le_length (by rw [flat_length]; exact Nat.mul_le_mul_right sz (by omega))]
      exact flat_take (by omega)
theorem own_feet {A : Option Addr} {n m cp : Nat} {E : TypeId} {sz : Nat} {r s : Nat → List Value} {K : List Fact} : feet (.own A n cp E sz r :: K) = feet (.own A m cp E sz s :: K) := by
 cases A <;> rfl
theorem OwnR.take {w : World} {A : Option Addr} {n m cp : Nat} {E : TypeId} {sz : Nat} {r : Nat → List Value} (h : OwnR w A n cp E sz r) (hm : m ≤ n) : OwnR w A m cp E sz r := by
 refine ⟨?_, fun i hi => h.len i (by omega)⟩
 rcases h.own.2 with ⟨e, h0⟩ | ⟨g, cap, cur, e, hg, hh, hnc, hcm, hcs, ht⟩
 · injection e with e1 e2 e3
   subst e1 e2 e3
   have : m = 0 := by omega
   subst this
   exact h.own
 · injection e with e1 e2 e3
   subst e1 e3
   refine ⟨by simp [flat_length], .inr ⟨g, cp, cur, rfl, hg, hh, by omega, hcm, hcs, ?_⟩⟩
   have h2 : (cur.toList.take (n * sz)).take (m * sz) = (flat sz n (rowF r)).take (m * sz) := by rw [ht]
   rw [List.take_take, Nat.min_eq_left (Nat.mul_le_mul_right sz hm)] at h2
   rw [h2]
   exact flat_take hm
theorem KSub.drop {φ : Fact} : ∀ {K L : List Fact}, KSub K L → KSub (φ :: K) L
 | _, _, .nil => .nil
 | _, _, .nilOwn h => .nilOwn (KSub.drop h)
 | _, _, .cons hp h => .cons (.tl hp) (KSub.drop h)
 | _, _, .own hp hr h => .own (.tl hp) hr (KSub.drop h)
 | _, _, .ofBlk hp h1 h2 h3 h4 h => .ofBlk (.tl hp) h1 h2 h3 h4 (KSub.drop h)
section
variable {c : Cx} {Q : Exit → Act → World → Prop} {F F' : Fr} {K K' K0 : List Fact} {ops : Array Oper} {rest : List Oper} {d : Option Tmp} {ty : TypeId} {pos : String} {af : Array Edge} {g : Option (Nat × Bool)} {t : Nat}
theorem Pu.cp {T E : TypeId} {x : Operand} {A : Option Addr} {n cp : Nat} (ht : c.P.underlying T = some (.slice E)) (hx : ev F x = some (.slice A n cp) := by rfl) : Pu c F K ⟨d, .call { callee := .builtin .cap, args := #[x], argTypes := #[T] }, ty, pos, af, g⟩ (.int .i64 cp) := fun a w hF _ => by
 simp [execOp, resolve, invoke, builtin, Builtin.cap_, hF.evl hx, run_underlying ht, goInt]
theorem Pu.sh {T E : TypeId} {sz bytes : Nat} {x y : Operand} {A : Option Addr} {n cp q : Nat} {i : Int} (hT : ElemT c.P T E sz bytes) (hx : ev F x = some (.slice A n cp) := by rfl) (hy : ev F y = some (.int .i64 i) := by rfl) (hk : i.toNat = q := by first | exact tnS _ | exact Int.toNat_natCast _ | rfl) (h0 : 0 ≤ i := by omega) (h1 : i ≤ cp := by omega) : Pu c F K ⟨d, .slice T x none (some y) none, ty, pos, af, g⟩ (.slice A q cp) := fun a w hF _ => by
 obtain ⟨i', z, hi, hz, hs, hb, hzs⟩ := hT.hi
 have hsz : (sizeOf E).run c.P w = .ok sz w := by simp [sizeOf, typeInfo, hi, hs]
 have hA : A.map (fun x => x.add 0) = A := by
  cases A with
  | none => rfl
  | some p => simp [Addr.add]
 subst hk
 simp [execOp, Instr.sliceAt, Instr.slice, hF.evl hx, hF.evl hy, run_underlying hT.ht, Instr.sliceBounds, Instr.sliceBound, asIntOf, h0, h1, hsz, hA]
theorem TL.take {A : Option Addr} {n m cp : Nat} {E : TypeId} {sz : Nat} {r : Nat → List Value} (hp : Pick K (.own A n cp E sz r) K') (hm : m ≤ n) (h : TL c ops Q rest F (.own A m cp E sz r :: K')) : TL c ops Q rest F K := fun a w hF hK => by
 have hs := hK.pick hp
 have hb : OwnR w A n cp E sz r := hs.holds (.own A n cp E sz r) (by simp)
 refine h a w hF ⟨hs.chg, by rw [own_feet]; exact hs.nd, by rw [own_feet]; exact hs.ge, fun φ hφ => ?_⟩
 rcases List.mem_cons.1 hφ with rfl | hφ
 · exact hb.take hm
 · exact hs.holds φ (by simp [hφ])
theorem made_flat {z : Array Value} {sz : Nat} (hz : z.size = sz) (hp : 0 < sz) (n : Nat) : (madeCells z (n * sz)).toList = flat sz n (rowF fun _ => z.toList) := by
 refine List.ext_getElem (by simp [madeCells, flat_length]) fun q h1 h2 => ?_
 have hq : q < n * sz := by simpa [flat_length] using h2
 have hdiv : q / sz < n := Nat.div_lt_of_lt_mul (by rw [Nat.mul_comm]; exact hq)
 have hmod : q % sz < sz := Nat.mod_lt _ hp
 have hg := flat_get (f := rowF fun _ => z.toList) hdiv hmod
 rw [Nat.mul_comm (q / sz), Nat.div_add_mod] at hg
 have h3 : (flat sz n (rowF fun _ => z.toList))[q]? = some ((flat sz n (rowF fun _ => z.toList))[q]) := List.getElem?_eq_getElem h2
 rw [hg] at h3
 injection h3 with h3
 rw [← h3]
 subst hz
 simp [madeCells, rowF, List.getD_eq_getElem?_getD, hmod]
theorem TL.ms {T E : TypeId} {sz bytes : Nat} {x y : Operand} {i : Int} {k : Nat} {zs : List Value} {kl kc : IntKind} (hT : ElemT c.P T E sz bytes) (hZ : Zr c.P E zs) (h : ∀ b, TL c ops Q rest (fput F d (.slice (some ⟨b, 0, none⟩) k k)) (.own (some ⟨b, 0, none⟩) k k E sz (fun _ => zs) :: K)) (hx : ev F x = some (.int kl i) := by rfl) (hy : ev F y = some (.int kc i) := by rfl) (hk : i.toNat = k := by first | exact Int.toNat_natCast _ | rfl) (h0 : 0 ≤ i := by omega) (h1 : i ≤ 1000000000 := by omega) (hby : bytes ≤ 10000 := by decide) (hd : dok d c.n = true := by rfl) :
    TL c ops Q (⟨d, .makeSlice T x y, ty, pos, af, none⟩ :: rest) F K := fun a w hF hK =>
  wpList_plain rfl fun Z hZ' => by
    subst hk
    obtain ⟨i', z, hi, hz, hs, hb, hzs⟩ := hT.hi
    obtain ⟨k, rfl⟩ : ∃ k : Nat, i = (k : Int) := ⟨i.toNat, by omega⟩
    simp only [Int.toNat_natCast] at *
    have hkb : bytes * k ≤ 10000 * 1000000000 := Nat.mul_le_mul hby (by omega)
    obtain ⟨w', hr, hown, hgr⟩ := run_make_full (P := c.P) w 0 T E i' z sz hT.ht hi hz hs kl kc k (by rw [hb]; omega) (by simp only [maxLen]; omega) (Nat.zero_le _)
    have hr2 : (execOp a.eval ⟨d, .makeSlice T x y, ty, pos, af, none⟩).run c.P w = .ok (.value (.slice (some ⟨w.heap.size, 0, none⟩) k k)) w' := by
      simp only [execOp, hF.evl hx, hF.evl hy, Sem.run_bind, hr, Result.andThen_ok, Sem.run_pure]
    unfold Oper.wp
    rw [hr2]
    have hzc : z.cells.toList = zs := by
      obtain ⟨z', h2, h3⟩ := hZ
      have h4 := h3 w
      simp [zeroValue, typeInfo, hi, hz] at h4
      rw [h4, h2]
    refine hZ' _ _ (h _ _ _ (hF.fput hd _) ?_)
    have hO : OwnR w' (some ⟨w.heap.size, 0, none⟩) k k E sz (fun _ => zs) := by
      refine ⟨?_, fun q _ => by rw [← hzc]; simpa using hzs⟩
      have := hown
      rw [made_flat hzs hT.pos, hzc] at this
      exact this
    exact hK.add (L := [_]) (Sat.one (Chg.grown hgr) (by simp [Fact.foot]) (fun b hb => by simp [Fact.foot] at hb; subst hb; exact .inr (Nat.le_refl _)) hO)
theorem TL.az {T N E : TypeId} {sz bytes : Nat} {x y : Operand} {i : Int} {k : Nat} {r : Nat → List Value} {kn : IntKind} (hT : ElemT c.P T E sz bytes) (hN : c.P.underlying N = some (.int kn)) (h : ∀ b cp, k ≤ cp → cp ≤ maxLen → TL c ops Q rest (fput F d (.slice (some ⟨b, 0, none⟩) k cp)) (.own (some ⟨b, 0, none⟩) 0 cp E sz r :: K)) (hx : ev F x = some (.slice none 0 0) := by rfl) (hy : ev F y = some (.int .i64 i) := by rfl) (hk : i.toNat = k := by first | exact tnS _ | exact Int.toNat_natCast _ | rfl) (h0 : 0 < i := by omega) (h1 : i ≤ 1000000000 := by omega) (hby : bytes ≤ 10000 := by decide) (hd : dok d c.n = true := by rfl) :
    TL c ops Q (⟨d, .call { callee := .builtin .append, args := #[x, y], argTypes := #[T, N] }, ty, pos, af, none⟩ :: rest) F K := fun a w hF hK =>
  wpList_plain rfl fun Z hZ => by
    subst hk
    obtain ⟨i', z, hi, hz, hs, hb, hzs⟩ := hT.hi
    obtain ⟨k, rfl⟩ : ∃ k : Nat, i = (k : Int) := ⟨i.toNat, by omega⟩
    have hk0 : 0 < k := by omega
    have hk1 : k ≤ 1000000000 := by omega
    have hpos := hT.pos
    have hcap := nextslicecap_zero hk0
    have hkb : k * bytes ≤ 1000000000 * 10000 := Nat.mul_le_mul hk1 hby
    have hr := Go.Lib.run_append_grow_zeros (P := c.P) w T N ty E i' z .i64 kn hT.ht hN hi hz none 0 0 [] rfl k hk0 (by omega) (by omega) (by omega) (by rw [hb]; omega) (by rw [Nat.zero_add, hcap, hb]; omega)
    simp only [Nat.zero_add] at hr
    have hr2 : (execOp a.eval ⟨d, .call { callee := .builtin .append, args := #[x, y], argTypes := #[T, N] }, ty, pos, af, none⟩).run c.P w = .ok (.value (.slice (some ⟨w.heap.size, 0, none⟩) k (grownCap w k 0 E))) (w.drew.alloc (.cells (#[] ++ Builtin.zeroCells z.cells k ++ Builtin.zeroCells z.cells (grownCap w k 0 E - k)) E)) := by
      simp only [execOp, resolve, invoke, builtin, Sem.run_bind, Sem.run_pure, Result.andThen_ok, List.map_toArray, List.map_cons, List.map_nil, hF.evl hx, hF.evl hy, hr]
    unfold Oper.wp
    rw [hr2]
    have hge := grownCap_ge w k 0 E
    have hml := grownCap_le_maxLen w k 0 E (by simp only [maxLen]; omega)
    refine hZ _ _ (h _ _ hge hml _ _ (hF.fput hd _) ?_)
    have hown : OwnR (w.drew.alloc (.cells (#[] ++ Builtin.zeroCells z.cells k ++ Builtin.zeroCells z.cells (grownCap w k 0 E - k)) E)) (some ⟨w.heap.size, 0, none⟩) 0 (grownCap w k 0 E) E sz r := ⟨World.ownsRow_made (size := sz) w.drew _ _ (Nat.zero_le _) hml (by
      simp only [Array.size_append, size_zeroCells, hzs]
      show 0 + k * sz + (grownCap w k 0 E - k) * sz = _
      rw [Nat.zero_add, ← Nat.add_mul, Nat.add_sub_cancel' hge]), fun _ h => by omega⟩
    exact (hK.ext (keep_drew w)).add (L := [_]) (Sat.one (Chg.of_ext ((Below.refl _ _).alloc (Nat.le_refl _) _)) (by simp [Fact.foot]) (fun b hb => by simp [Fact.foot] at hb; subst hb; exact .inr (Nat.le_refl _)) hown)
end
end Go.Proofs.YtfaenhhgkhcghaaGreatDoor
namespace Go.Proofs.YtfaenhhgkhcghaaGreatDoor
set_option linter.all false
set_option linter.unusedVariables false
set_option linter.unusedSimpArgs false
open Go.RowKit
theorem ty_i3 : (Tryz.prog.info? 3).map (fun i => (i.zero, i.size, i.bytes)) = some (some (.int .i64 0), 1, 8) := by kernel_rfl
theorem ty_sz3 : Sz Tryz.prog 3 1 := fun w => by obtain ⟨i, h1, h2, h3, h4⟩ := info_parts ty_i3; simp [sizeOf, typeInfo, h1, h3]
theorem ty_zr3 : Zr Tryz.prog 3 [.int .i64 0] := ⟨.int .i64 0, rfl, fun w => by obtain ⟨i, h1, h2, h3, h4⟩ := info_parts ty_i3; simp [zeroValue, typeInfo, h1, h2]⟩
theorem ty_sc3 : Sc Tryz.prog 3 := fun w => by simp [isAgg, run_underlying Tryz.underlying3]
theorem ty_i4 : (Tryz.prog.info? 4).map (fun i => (i.zero, i.size, i.bytes)) = some (some (.bool false), 1, 1) := by kernel_rfl
theorem ty_sz4 : Sz Tryz.prog 4 1 := fun w => by obtain ⟨i, h1, h2, h3, h4⟩ := info_parts ty_i4; simp [sizeOf, typeInfo, h1, h3]
theorem ty_zr4 : Zr Tryz.prog 4 [.bool false] := ⟨.bool false, rfl, fun w => by obtain ⟨i, h1, h2, h3, h4⟩ := info_parts ty_i4; simp [zeroValue, typeInfo, h1, h2]⟩
theorem ty_sc4 : Sc Tryz.prog 4 := fun w => by simp [isAgg, run_underlying Tryz.underlying4]
theorem ty_i5 : (Tryz.prog.info? 5).map (fun i => (i.zero, i.size, i.bytes)) = some (some (.int .u8 0), 1, 1) := by kernel_rfl
theorem ty_sz5 : Sz Tryz.prog 5 1 := fun w => by obtain ⟨i, h1, h2, h3, h4⟩ := info_parts ty_i5; simp [sizeOf, typeInfo, h1, h3]
theorem ty_zr5 : Zr Tryz.prog 5 [.int .u8 0] := ⟨.int .u8 0, rfl, fun w => by obtain ⟨i, h1, h2, h3, h4⟩ := info_parts ty_i5; simp [zeroValue, typeInfo, h1, h2]⟩
theorem ty_sc5 : Sc Tryz.prog 5 := fun w => by simp [isAgg, run_underlying Tryz.underlying5]
theorem ty_i22 : (Tryz.prog.info? 22).map (fun i => (i.zero, i.size, i.bytes)) = some (some (.slice none 0 0), 1, 24) := by kernel_rfl
theorem ty_sz22 : Sz Tryz.prog 22 1 := fun w => by obtain ⟨i, h1, h2, h3, h4⟩ := info_parts ty_i22; simp [sizeOf, typeInfo, h1, h3]
theorem ty_sc22 : Sc Tryz.prog 22 := fun w => by simp [isAgg, run_underlying Tryz.underlying22]
theorem ty_i23 : (Tryz.prog.info? 23).map (fun i => (i.zero, i.size, i.bytes)) = some (some (.slice none 0 0), 1, 24) := by kernel_rfl
theorem ty_sz23 : Sz Tryz.prog 23 1 := fun w => by obtain ⟨i, h1, h2, h3, h4⟩ := info_parts ty_i23; simp [sizeOf, typeInfo, h1, h3]
theorem ty_sc23 : Sc Tryz.prog 23 := fun w => by simp [isAgg, run_underlying Tryz.underlying23]
theorem ty_i25 : (Tryz.prog.info? 25).map (fun i => (i.zero, i.size, i.bytes)) = some (some (.agg #[.slice none 0 0, .slice none 0 0]), 2, 48) := by kernel_rfl
theorem ty_sz25 : Sz Tryz.prog 25 2 := fun w => by obtain ⟨i, h1, h2, h3, h4⟩ := info_parts ty_i25; simp [sizeOf, typeInfo, h1, h3]
theorem ty_zr25 : Zr Tryz.prog 25 [.slice none 0 0, .slice none 0 0] := ⟨.agg #[.slice none 0 0, .slice none 0 0], rfl, fun w => by obtain ⟨i, h1, h2, h3, h4⟩ := info_parts ty_i25; simp [zeroValue, typeInfo, h1, h2]⟩
theorem ty_ag25 : Ag Tryz.prog 25 2 := ⟨fun w => by simp [isAgg, run_underlying Tryz.underlying25], ty_sz25⟩
theorem ty_fa25_0 : FieldAt Tryz.prog 25 0 0 := fieldAt_of 0 0 22 1 Tryz.underlying25 (by kernel_rfl) ty_sz22 (by kernel_rfl)
theorem ty_fa25_1 : FieldAt Tryz.prog 25 1 1 := fieldAt_of 1 1 23 1 Tryz.underlying25 (by kernel_rfl) ty_sz23 (by kernel_rfl)
theorem ty_i26 : (Tryz.prog.info? 26).map (fun i => (i.zero, i.size, i.bytes)) = some (some (.slice none 0 0), 1, 24) := by kernel_rfl
theorem ty_sz26 : Sz Tryz.prog 26 1 := fun w => by obtain ⟨i, h1, h2, h3, h4⟩ := info_parts ty_i26; simp [sizeOf, typeInfo, h1, h3]
theorem ty_sc26 : Sc Tryz.prog 26 := fun w => by simp [isAgg, run_underlying Tryz.underlying26]
theorem ty_i27 : (Tryz.prog.info? 27).map (fun i => (i.zero, i.size, i.bytes)) = some (some (.slice none 0 0), 1, 24) := by kernel_rfl
theorem ty_sz27 : Sz Tryz.prog 27 1 := fun w => by obtain ⟨i, h1, h2, h3, h4⟩ := info_parts ty_i27; simp [sizeOf, typeInfo, h1, h3]
theorem ty_sc27 : Sc Tryz.prog 27 := fun w => by simp [isAgg, run_underlying Tryz.underlying27]
theorem ty_i28 : (Tryz.prog.info? 28).map (fun i => (i.zero, i.size, i.bytes)) = some (some (.slice none 0 0), 1, 24) := by kernel_rfl
theorem ty_sz28 : Sz Tryz.prog 28 1 := fun w => by obtain ⟨i, h1, h2, h3, h4⟩ := info_parts ty_i28; simp [sizeOf, typeInfo, h1, h3]
theorem ty_sc28 : Sc Tryz.prog 28 := fun w => by simp [isAgg, run_underlying Tryz.underlying28]
theorem ty_i30 : (Tryz.prog.info? 30).map (fun i => (i.zero, i.size, i.bytes)) = some (some (.agg #[.slice none 0 0, .slice none 0 0, .slice none 0 0]), 3, 72) := by kernel_rfl
theorem ty_sz30 : Sz Tryz.prog 30 3 := fun w => by obtain ⟨i, h1, h2, h3, h4⟩ := info_parts ty_i30; simp [sizeOf, typeInfo, h1, h3]
theorem ty_zr30 : Zr Tryz.prog 30 [.slice none 0 0, .slice none 0 0, .slice none 0 0] := ⟨.agg #[.slice none 0 0, .slice none 0 0, .slice none 0 0], rfl, fun w => by obtain ⟨i, h1, h2, h3, h4⟩ := info_parts ty_i30; simp [zeroValue, typeInfo, h1, h2]⟩
theorem ty_ag30 : Ag Tryz.prog 30 3 := ⟨fun w => by simp [isAgg, run_underlying Tryz.underlying30], ty_sz30⟩
theorem ty_fa30_0 : FieldAt Tryz.prog 30 0 0 := fieldAt_of 0 0 26 1 Tryz.underlying30 (by kernel_rfl) ty_sz26 (by kernel_rfl)
theorem ty_fa30_1 : FieldAt Tryz.prog 30 1 1 := fieldAt_of 1 1 27 1 Tryz.underlying30 (by kernel_rfl) ty_sz27 (by kernel_rfl)
theorem ty_fa30_2 : FieldAt Tryz.prog 30 2 2 := fieldAt_of 2 2 28 1 Tryz.underlying30 (by kernel_rfl) ty_sz28 (by kernel_rfl)
theorem ty_i31 : (Tryz.prog.info? 31).map (fun i => (i.zero, i.size, i.bytes)) = some (some (.slice none 0 0), 1, 24) := by kernel_rfl
theorem ty_sz31 : Sz Tryz.prog 31 1 := fun w => by obtain ⟨i, h1, h2, h3, h4⟩ := info_parts ty_i31; simp [sizeOf, typeInfo, h1, h3]
theorem ty_zr31 : Zr Tryz.prog 31 [.slice none 0 0] := ⟨.slice none 0 0, rfl, fun w => by obtain ⟨i, h1, h2, h3, h4⟩ := info_parts ty_i31; simp [zeroValue, typeInfo, h1, h2]⟩
theorem ty_sc31 : Sc Tryz.prog 31 := fun w => by simp [isAgg, run_underlying Tryz.underlying31]
theorem ty_i33 : (Tryz.prog.info? 33).map (fun i => (i.zero, i.size, i.bytes)) = some (some (.agg #[.int .i64 0, .int .i64 0, .slice none 0 0, .slice none 0 0, .slice none 0 0]), 5, 88) := by kernel_rfl
theorem ty_sz33 : Sz Tryz.prog 33 5 := fun w => by obtain ⟨i, h1, h2, h3, h4⟩ := info_parts ty_i33; simp [sizeOf, typeInfo, h1, h3]
theorem ty_zr33 : Zr Tryz.prog 33 [.int .i64 0, .int .i64 0, .slice none 0 0, .slice none 0 0, .slice none 0 0] := ⟨.agg #[.int .i64 0, .int .i64 0, .slice none 0 0, .slice none 0 0, .slice none 0 0], rfl, fun w => by obtain ⟨i, h1, h2, h3, h4⟩ := info_parts ty_i33; simp [zeroValue, typeInfo, h1, h2]⟩
theorem ty_ag33 : Ag Tryz.prog 33 5 := ⟨fun w => by simp [isAgg, run_underlying Tryz.underlying33], ty_sz33⟩
theorem ty_fa33_0 : FieldAt Tryz.prog 33 0 0 := fieldAt_of 0 0 3 1 Tryz.underlying33 (by kernel_rfl) ty_sz3 (by kernel_rfl)
theorem ty_fa33_1 : FieldAt Tryz.prog 33 1 1 := fieldAt_of 1 1 3 1 Tryz.underlying33 (by kernel_rfl) ty_sz3 (by kernel_rfl)
theorem ty_fa33_2 : FieldAt Tryz.prog 33 2 2 := fieldAt_of 2 2 31 1 Tryz.underlying33 (by kernel_rfl) ty_sz31 (by kernel_rfl)
theorem ty_fa33_3 : FieldAt Tryz.prog 33 3 3 := fieldAt_of 3 3 31 1 Tryz.underlying33 (by kernel_rfl) ty_sz31 (by kernel_rfl)
theorem ty_fa33_4 : FieldAt Tryz.prog 33 4 4 := fieldAt_of 4 4 31 1 Tryz.underlying33 (by kernel_rfl) ty_sz31 (by kernel_rfl)
theorem ty_i36 : (Tryz.prog.info? 36).map (fun i => (i.zero, i.size, i.bytes)) = some (some (.agg #[.int .i64 0, .int .i64 0]), 2, 16) := by kernel_rfl
theorem ty_sz36 : Sz Tryz.prog 36 2 := fun w => by obtain ⟨i, h1, h2, h3, h4⟩ := info_parts ty_i36; simp [sizeOf, typeInfo, h1, h3]
theorem ty_zr36 : Zr Tryz.prog 36 [.int .i64 0, .int .i64 0] := ⟨.agg #[.int .i64 0, .int .i64 0], rfl, fun w => by obtain ⟨i, h1, h2, h3, h4⟩ := info_parts ty_i36; simp [zeroValue, typeInfo, h1, h2]⟩
theorem ty_ag36 : Ag Tryz.prog 36 2 := ⟨fun w => by simp [isAgg, run_underlying Tryz.underlying36], ty_sz36⟩
theorem ty_q2_36 : Eq2 Tryz.prog 36 := fun w x y i j m n => by
 by_cases h1 : i = m
 · by_cases h2 : j = n
   · subst h1 h2; go_simp
   · subst h1; go_simp
 · by_cases h2 : j = n
   · subst h2; go_simp
   · go_simp
theorem ty_fa36_0 : FieldAt Tryz.prog 36 0 0 := fieldAt_of 0 0 3 1 Tryz.underlying36 (by kernel_rfl) ty_sz3 (by kernel_rfl)
theorem ty_fa36_1 : FieldAt Tryz.prog 36 1 1 := fieldAt_of 1 1 3 1 Tryz.underlying36 (by kernel_rfl) ty_sz3 (by kernel_rfl)
theorem ty_i50 : (Tryz.prog.info? 50).map (fun i => (i.zero, i.size, i.bytes)) = some (some (.agg #[.int .i64 0, .int .i64 0]), 2, 16) := by kernel_rfl
theorem ty_sz50 : Sz Tryz.prog 50 2 := fun w => by obtain ⟨i, h1, h2, h3, h4⟩ := info_parts ty_i50; simp [sizeOf, typeInfo, h1, h3]
theorem ty_zr50 : Zr Tryz.prog 50 [.int .i64 0, .int .i64 0] := ⟨.agg #[.int .i64 0, .int .i64 0], rfl, fun w => by obtain ⟨i, h1, h2, h3, h4⟩ := info_parts ty_i50; simp [zeroValue, typeInfo, h1, h2]⟩
theorem ty_ag50 : Ag Tryz.prog 50 2 := ⟨fun w => by simp [isAgg, run_underlying Tryz.underlying50], ty_sz50⟩
theorem ty_fa50_0 : FieldAt Tryz.prog 50 0 0 := fieldAt_of 0 0 3 1 Tryz.underlying50 (by kernel_rfl) ty_sz3 (by kernel_rfl)
theorem ty_fa50_1 : FieldAt Tryz.prog 50 1 1 := fieldAt_of 1 1 3 1 Tryz.underlying50 (by kernel_rfl) ty_sz3 (by kernel_rfl)
theorem ty_i70 : (Tryz.prog.info? 70).map (fun i => (i.zero, i.size, i.bytes)) = some (some (.agg #[.int .i64 0, .int .i64 0, .int .i64 0, .int .i64 0, .int .i64 0, .int .i64 0, .bool false]), 7, 56) := by kernel_rfl
theorem ty_sz70 : Sz Tryz.prog 70 7 := fun w => by obtain ⟨i, h1, h2, h3, h4⟩ := info_parts ty_i70; simp [sizeOf, typeInfo, h1, h3]
theorem ty_zr70 : Zr Tryz.prog 70 [.int .i64 0, .int .i64 0, .int .i64 0, .int .i64 0, .int .i64 0, .int .i64 0, .bool false] := ⟨.agg #[.int .i64 0, .int .i64 0, .int .i64 0, .int .i64 0, .int .i64 0, .int .i64 0, .bool false], rfl, fun w => by obtain ⟨i, h1, h2, h3, h4⟩ := info_parts ty_i70; simp [zeroValue, typeInfo, h1, h2]⟩
theorem ty_ag70 : Ag Tryz.prog 70 7 := ⟨fun w => by simp [isAgg, run_underlying Tryz.underlying70], ty_sz70⟩
theorem ty_fa70_0 : FieldAt Tryz.prog 70 0 0 := fieldAt_of 0 0 3 1 Tryz.underlying70 (by kernel_rfl) ty_sz3 (by kernel_rfl)
theorem ty_fa70_1 : FieldAt Tryz.prog 70 1 1 := fieldAt_of 1 1 3 1 Tryz.underlying70 (by kernel_rfl) ty_sz3 (by kernel_rfl)
theorem ty_fa70_2 : FieldAt Tryz.prog 70 2 2 := fieldAt_of 2 2 3 1 Tryz.underlying70 (by kernel_rfl) ty_sz3 (by kernel_rfl)
theorem ty_fa70_3 : FieldAt Tryz.prog 70 3 3 := fieldAt_of 3 3 3 1 Tryz.underlying70 (by kernel_rfl) ty_sz3 (by kernel_rfl)
theorem ty_fa70_4 : FieldAt Tryz.prog 70 4 4 := fieldAt_of 4 4 3 1 Tryz.underlying70 (by kernel_rfl) ty_sz3 (by kernel_rfl)
theorem ty_fa70_5 : FieldAt Tryz.prog 70 5 5 := fieldAt_of 5 5 3 1 Tryz.underlying70 (by kernel_rfl) ty_sz3 (by kernel_rfl)
theorem ty_fa70_6 : FieldAt Tryz.prog 70 6 6 := fieldAt_of 6 6 4 1 Tryz.underlying70 (by kernel_rfl) ty_sz4 (by kernel_rfl)
theorem ty_i72 : (Tryz.prog.info? 72).map (fun i => (i.zero, i.size, i.bytes)) = some (some (.agg #[.int .i64 0, .int .i64 0, .int .i64 0]), 3, 24) := by kernel_rfl
theorem ty_sz72 : Sz Tryz.prog 72 3 := fun w => by obtain ⟨i, h1, h2, h3, h4⟩ := info_parts ty_i72; simp [sizeOf, typeInfo, h1, h3]
theorem ty_zr72 : Zr Tryz.prog 72 [.int .i64 0, .int .i64 0, .int .i64 0] := ⟨.agg #[.int .i64 0, .int .i64 0, .int .i64 0], rfl, fun w => by obtain ⟨i, h1, h2, h3, h4⟩ := info_parts ty_i72; simp [zeroValue, typeInfo, h1, h2]⟩
theorem ty_ag72 : Ag Tryz.prog 72 3 := ⟨fun w => by simp [isAgg, run_underlying Tryz.underlying72], ty_sz72⟩
theorem ty_fa72_0 : FieldAt Tryz.prog 72 0 0 := fieldAt_of 0 0 3 1 Tryz.underlying72 (by kernel_rfl) ty_sz3 (by kernel_rfl)
theorem ty_sc76 : Sc Tryz.prog 76 := fun w => by simp [isAgg, run_underlying Tryz.underlying76]
theorem ty_i83 : (Tryz.prog.info? 83).map (fun i => (i.zero, i.size, i.bytes)) = some (some (.slice none 0 0), 1, 24) := by kernel_rfl
theorem ty_sz83 : Sz Tryz.prog 83 1 := fun w => by obtain ⟨i, h1, h2, h3, h4⟩ := info_parts ty_i83; simp [sizeOf, typeInfo, h1, h3]
theorem ty_sc83 : Sc Tryz.prog 83 := fun w => by simp [isAgg, run_underlying Tryz.underlying83]
theorem ty_i87 : (Tryz.prog.info? 87).map (fun i => (i.zero, i.size, i.bytes)) = some (some (.slice none 0 0), 1, 24) := by kernel_rfl
theorem ty_sz87 : Sz Tryz.prog 87 1 := fun w => by obtain ⟨i, h1, h2, h3, h4⟩ := info_parts ty_i87; simp [sizeOf, typeInfo, h1, h3]
theorem ty_zr87 : Zr Tryz.prog 87 [.slice none 0 0] := ⟨.slice none 0 0, rfl, fun w => by obtain ⟨i, h1, h2, h3, h4⟩ := info_parts ty_i87; simp [zeroValue, typeInfo, h1, h2]⟩
theorem ty_sc87 : Sc Tryz.prog 87 := fun w => by simp [isAgg, run_underlying Tryz.underlying87]
theorem ty_i98 : (Tryz.prog.info? 98).map (fun i => (i.zero, i.size, i.bytes)) = some (some (.agg #[.int .i64 0, .int .i64 0, .int .i64 0, .int .i64 0]), 4, 32) := by kernel_rfl
theorem ty_sz98 : Sz Tryz.prog 98 4 := fun w => by obtain ⟨i, h1, h2, h3, h4⟩ := info_parts ty_i98; simp [sizeOf, typeInfo, h1, h3]
theorem ty_ag98 : Ag Tryz.prog 98 4 := ⟨fun w => by simp [isAgg, run_underlying Tryz.underlying98], ty_sz98⟩
theorem ty_i100 : (Tryz.prog.info? 100).map (fun i => (i.zero, i.size, i.bytes)) = some (some (.agg #[.int .i64 0, .int .i64 0]), 2, 16) := by kernel_rfl
theorem ty_sz100 : Sz Tryz.prog 100 2 := fun w => by obtain ⟨i, h1, h2, h3, h4⟩ := info_parts ty_i100; simp [sizeOf, typeInfo, h1, h3]
theorem ty_ag100 : Ag Tryz.prog 100 2 := ⟨fun w => by simp [isAgg, run_underlying Tryz.underlying100], ty_sz100⟩
theorem ty_i104 : (Tryz.prog.info? 104).map (fun i => (i.zero, i.size, i.bytes)) = some (some (.agg #[.int .i64 0, .int .i64 0, .int .i64 0, .int .i64 0]), 4, 32) := by kernel_rfl
theorem ty_sz104 : Sz Tryz.prog 104 4 := fun w => by obtain ⟨i, h1, h2, h3, h4⟩ := info_parts ty_i104; simp [sizeOf, typeInfo, h1, h3]
theorem ty_zr104 : Zr Tryz.prog 104 [.int .i64 0, .int .i64 0, .int .i64 0, .int .i64 0] := ⟨.agg #[.int .i64 0, .int .i64 0, .int .i64 0, .int .i64 0], rfl, fun w => by obtain ⟨i, h1, h2, h3, h4⟩ := info_parts ty_i104; simp [zeroValue, typeInfo, h1, h2]⟩
theorem ty_ag104 : Ag Tryz.prog 104 4 := ⟨fun w => by simp [isAgg, run_underlying Tryz.underlying104], ty_sz104⟩
theorem ty_fa104_0 : FieldAt Tryz.prog 104 0 0 := fieldAt_of 0 0 36 2 Tryz.underlying104 (by kernel_rfl) ty_sz36 (by kernel_rfl)
theorem ty_fa104_1 : FieldAt Tryz.prog 104 1 2 := fieldAt_of 1 2 36 2 Tryz.underlying104 (by kernel_rfl) ty_sz36 (by kernel_rfl)
theorem ty_i105 : (Tryz.prog.info? 105).map (fun i => (i.zero, i.size, i.bytes)) = some (some (.slice none 0 0), 1, 24) := by kernel_rfl
theorem ty_sz105 : Sz Tryz.prog 105 1 := fun w => by obtain ⟨i, h1, h2, h3, h4⟩ := info_parts ty_i105; simp [sizeOf, typeInfo, h1, h3]
theorem ty_sc105 : Sc Tryz.prog 105 := fun w => by simp [isAgg, run_underlying Tryz.underlying105]
theorem ty_i107 : (Tryz.prog.info? 107).map (fun i => (i.zero, i.size, i.bytes)) = some (some (.agg #[.int .i64 0, .int .i64 0, .int .i64 0, .int .i64 0, .slice none 0 0]), 5, 56) := by kernel_rfl
theorem ty_sz107 : Sz Tryz.prog 107 5 := fun w => by obtain ⟨i, h1, h2, h3, h4⟩ := info_parts ty_i107; simp [sizeOf, typeInfo, h1, h3]
theorem ty_zr107 : Zr Tryz.prog 107 [.int .i64 0, .int .i64 0, .int .i64 0, .int .i64 0, .slice none 0 0] := ⟨.agg #[.int .i64 0, .int .i64 0, .int .i64 0, .int .i64 0, .slice none 0 0], rfl, fun w => by obtain ⟨i, h1, h2, h3, h4⟩ := info_parts ty_i107; simp [zeroValue, typeInfo, h1, h2]⟩
theorem ty_ag107 : Ag Tryz.prog 107 5 := ⟨fun w => by simp [isAgg, run_underlying Tryz.underlying107], ty_sz107⟩
theorem ty_fa107_0 : FieldAt Tryz.prog 107 0 0 := fieldAt_of 0 0 3 1 Tryz.underlying107 (by kernel_rfl) ty_sz3 (by kernel_rfl)
theorem ty_fa107_1 : FieldAt Tryz.prog 107 1 1 := fieldAt_of 1 1 3 1 Tryz.underlying107 (by kernel_rfl) ty_sz3 (by kernel_rfl)
theorem ty_fa107_2 : FieldAt Tryz.prog 107 2 2 := fieldAt_of 2 2 36 2 Tryz.underlying107 (by kernel_rfl) ty_sz36 (by kernel_rfl)
theorem ty_fa107_3 : FieldAt Tryz.prog 107 3 4 := fieldAt_of 3 4 105 1 Tryz.underlying107 (by kernel_rfl) ty_sz105 (by kernel_rfl)
theorem ty_i109 : (Tryz.prog.info? 109).map (fun i => (i.zero, i.size, i.bytes)) = some (some (.agg #[.int .i64 0, .int .i64 0, .int .i64 0, .int .i64 0]), 4, 32) := by kernel_rfl
theorem ty_sz109 : Sz Tryz.prog 109 4 := fun w => by obtain ⟨i, h1, h2, h3, h4⟩ := info_parts ty_i109; simp [sizeOf, typeInfo, h1, h3]
theorem ty_zr109 : Zr Tryz.prog 109 [.int .i64 0, .int .i64 0, .int .i64 0, .int .i64 0] := ⟨.agg #[.int .i64 0, .int .i64 0, .int .i64 0, .int .i64 0], rfl, fun w => by obtain ⟨i, h1, h2, h3, h4⟩ := info_parts ty_i109; simp [zeroValue, typeInfo, h1, h2]⟩
theorem ty_ag109 : Ag Tryz.prog 109 4 := ⟨fun w => by simp [isAgg, run_underlying Tryz.underlying109], ty_sz109⟩
theorem ty_fa109_0 : FieldAt Tryz.prog 109 0 0 := fieldAt_of 0 0 3 1 Tryz.underlying109 (by kernel_rfl) ty_sz3 (by kernel_rfl)
theorem ty_fa109_1 : FieldAt Tryz.prog 109 1 1 := fieldAt_of 1 1 3 1 Tryz.underlying109 (by kernel_rfl) ty_sz3 (by kernel_rfl)
theorem ty_i113 : (Tryz.prog.info? 113).map (fun i => (i.zero, i.size, i.bytes)) = some (some (.nilFunc), 1, 8) := by kernel_rfl
theorem ty_sz113 : Sz Tryz.prog 113 1 := fun w => by obtain ⟨i, h1, h2, h3, h4⟩ := info_parts ty_i113; simp [sizeOf, typeInfo, h1, h3]
theorem ty_zr113 : Zr Tryz.prog 113 [.nilFunc] := ⟨.nilFunc, rfl, fun w => by obtain ⟨i, h1, h2, h3, h4⟩ := info_parts ty_i113; simp [zeroValue, typeInfo, h1, h2]⟩
theorem ty_sc113 : Sc Tryz.prog 113 := fun w => by simp [isAgg, run_underlying Tryz.underlying113]
theorem ty_fa116_2 : FieldAt Tryz.prog 116 2 2 := fieldAt_of 2 2 3 1 Tryz.underlying116 (by kernel_rfl) ty_sz3 (by kernel_rfl)
theorem ty_fa116_3 : FieldAt Tryz.prog 116 3 3 := fieldAt_of 3 3 3 1 Tryz.underlying116 (by kernel_rfl) ty_sz3 (by kernel_rfl)
theorem ty_sc117 : Sc Tryz.prog 117 := fun w => by simp [isAgg, run_underlying Tryz.underlying117]
theorem ty_fa119_2 : FieldAt Tryz.prog 119 2 2 := fieldAt_of 2 2 3 1 Tryz.underlying119 (by kernel_rfl) ty_sz3 (by kernel_rfl)
theorem ty_fa119_3 : FieldAt Tryz.prog 119 3 3 := fieldAt_of 3 3 3 1 Tryz.underlying119 (by kernel_rfl) ty_sz3 (by kernel_rfl)
theorem ty_sc120 : Sc Tryz.prog 120 := fun w => by simp [isAgg, run_underlying Tryz.underlying120]
theorem ty_fa122_1 : FieldAt Tryz.prog 122 1 1 := fieldAt_of 1 1 3 1 Tryz.underlying122 (by kernel_rfl) ty_sz3 (by kernel_rfl)
theorem ty_fa122_2 : FieldAt Tryz.prog 122 2 2 := fieldAt_of 2 2 3 1 Tryz.underlying122 (by kernel_rfl) ty_sz3 (by kernel_rfl)
theorem ty_sc123 : Sc Tryz.prog 123 := fun w => by simp [isAgg, run_underlying Tryz.underlying123]
theorem ty_sc125 : Sc Tryz.prog 125 := fun w => by simp [isAgg, run_underlying Tryz.underlying125]
theorem ty_i129 : (Tryz.prog.info? 129).map (fun i => (i.zero, i.size, i.bytes)) = some (some (.agg #[.int .i64 0, .int .i64 0, .slice none 0 0, .slice none 0 0, .slice none 0 0, .slice none 0 0, .slice none 0 0, .slice none 0 0, .slice none 0 0]), 9, 184) := by kernel_rfl
theorem ty_sz129 : Sz Tryz.prog 129 9 := fun w => by obtain ⟨i, h1, h2, h3, h4⟩ := info_parts ty_i129; simp [sizeOf, typeInfo, h1, h3]
theorem ty_zr129 : Zr Tryz.prog 129 [.int .i64 0, .int .i64 0, .slice none 0 0, .slice none 0 0, .slice none 0 0, .slice none 0 0, .slice none 0 0, .slice none 0 0, .slice none 0 0] := ⟨.agg #[.int .i64 0, .int .i64 0, .slice none 0 0, .slice none 0 0, .slice none 0 0, .slice none 0 0, .slice none 0 0, .slice none 0 0, .slice none 0 0], rfl, fun w => by obtain ⟨i, h1, h2, h3, h4⟩ := info_parts ty_i129; simp [zeroValue, typeInfo, h1, h2]⟩
theorem ty_ag129 : Ag Tryz.prog 129 9 := ⟨fun w => by simp [isAgg, run_underlying Tryz.underlying129], ty_sz129⟩
theorem ty_fa129_0 : FieldAt Tryz.prog 129 0 0 := fieldAt_of 0 0 33 5 Tryz.underlying129 (by kernel_rfl) ty_sz33 (by kernel_rfl)
theorem ty_fa129_1 : FieldAt Tryz.prog 129 1 5 := fieldAt_of 1 5 30 3 Tryz.underlying129 (by kernel_rfl) ty_sz30 (by kernel_rfl)
theorem ty_fa129_2 : FieldAt Tryz.prog 129 2 8 := fieldAt_of 2 8 83 1 Tryz.underlying129 (by kernel_rfl) ty_sz83 (by kernel_rfl)
theorem ty_sc134 : Sc Tryz.prog 134 := fun w => by simp [isAgg, run_underlying Tryz.underlying134]
theorem ty_i140 : (Tryz.prog.info? 140).map (fun i => (i.zero, i.size, i.bytes)) = some (some (.agg #[.slice none 0 0, .slice none 0 0, .int .i64 0, .int .i64 0]), 4, 64) := by kernel_rfl
theorem ty_sz140 : Sz Tryz.prog 140 4 := fun w => by obtain ⟨i, h1, h2, h3, h4⟩ := info_parts ty_i140; simp [sizeOf, typeInfo, h1, h3]
theorem ty_zr140 : Zr Tryz.prog 140 [.slice none 0 0, .slice none 0 0, .int .i64 0, .int .i64 0] := ⟨.agg #[.slice none 0 0, .slice none 0 0, .int .i64 0, .int .i64 0], rfl, fun w => by obtain ⟨i, h1, h2, h3, h4⟩ := info_parts ty_i140; simp [zeroValue, typeInfo, h1, h2]⟩
theorem ty_ag140 : Ag Tryz.prog 140 4 := ⟨fun w => by simp [isAgg, run_underlying Tryz.underlying140], ty_sz140⟩
theorem ty_fa140_0 : FieldAt Tryz.prog 140 0 0 := fieldAt_of 0 0 25 2 Tryz.underlying140 (by kernel_rfl) ty_sz25 (by kernel_rfl)
theorem ty_fa140_1 : FieldAt Tryz.prog 140 1 2 := fieldAt_of 1 2 36 2 Tryz.underlying140 (by kernel_rfl) ty_sz36 (by kernel_rfl)
theorem ty_i144 : (Tryz.prog.info? 144).map (fun i => (i.zero, i.size, i.bytes)) = some (some (.map none), 1, 8) := by kernel_rfl
theorem ty_sz144 : Sz Tryz.prog 144 1 := fun w => by obtain ⟨i, h1, h2, h3, h4⟩ := info_parts ty_i144; simp [sizeOf, typeInfo, h1, h3]
theorem ty_zr144 : Zr Tryz.prog 144 [.map none] := ⟨.map none, rfl, fun w => by obtain ⟨i, h1, h2, h3, h4⟩ := info_parts ty_i144; simp [zeroValue, typeInfo, h1, h2]⟩
theorem ty_sc144 : Sc Tryz.prog 144 := fun w => by simp [isAgg, run_underlying Tryz.underlying144]
theorem ty_i145 : (Tryz.prog.info? 145).map (fun i => (i.zero, i.size, i.bytes)) = some (some (.nilFunc), 1, 8) := by kernel_rfl
theorem ty_sz145 : Sz Tryz.prog 145 1 := fun w => by obtain ⟨i, h1, h2, h3, h4⟩ := info_parts ty_i145; simp [sizeOf, typeInfo, h1, h3]
theorem ty_zr145 : Zr Tryz.prog 145 [.nilFunc] := ⟨.nilFunc, rfl, fun w => by obtain ⟨i, h1, h2, h3, h4⟩ := info_parts ty_i145; simp [zeroValue, typeInfo, h1, h2]⟩
theorem ty_sc145 : Sc Tryz.prog 145 := fun w => by simp [isAgg, run_underlying Tryz.underlying145]
theorem ty_fa147_0 : FieldAt Tryz.prog 147 0 0 := fieldAt_of 0 0 3 1 Tryz.underlying147 (by kernel_rfl) ty_sz3 (by kernel_rfl)
theorem ty_fa147_1 : FieldAt Tryz.prog 147 1 1 := fieldAt_of 1 1 3 1 Tryz.underlying147 (by kernel_rfl) ty_sz3 (by kernel_rfl)
theorem ty_i152 : (Tryz.prog.info? 152).map (fun i => (i.zero, i.size, i.bytes)) = some (some (.agg #[.int .i64 0, .int .i64 0]), 2, 16) := by kernel_rfl
theorem ty_sz152 : Sz Tryz.prog 152 2 := fun w => by obtain ⟨i, h1, h2, h3, h4⟩ := info_parts ty_i152; simp [sizeOf, typeInfo, h1, h3]
theorem ty_zr152 : Zr Tryz.prog 152 [.int .i64 0, .int .i64 0] := ⟨.agg #[.int .i64 0, .int .i64 0], rfl, fun w => by obtain ⟨i, h1, h2, h3, h4⟩ := info_parts ty_i152; simp [zeroValue, typeInfo, h1, h2]⟩
theorem ty_ag152 : Ag Tryz.prog 152 2 := ⟨fun w => by simp [isAgg, run_underlying Tryz.underlying152], ty_sz152⟩
theorem ty_i160 : (Tryz.prog.info? 160).map (fun i => (i.zero, i.size, i.bytes)) = some (some (.agg #[.int .i64 0, .int .i64 0, .int .i64 0, .int .i64 0, .int .i64 0, .int .i64 0]), 6, 48) := by kernel_rfl
theorem ty_sz160 : Sz Tryz.prog 160 6 := fun w => by obtain ⟨i, h1, h2, h3, h4⟩ := info_parts ty_i160; simp [sizeOf, typeInfo, h1, h3]
theorem ty_zr160 : Zr Tryz.prog 160 [.int .i64 0, .int .i64 0, .int .i64 0, .int .i64 0, .int .i64 0, .int .i64 0] := ⟨.agg #[.int .i64 0, .int .i64 0, .int .i64 0, .int .i64 0, .int .i64 0, .int .i64 0], rfl, fun w => by obtain ⟨i, h1, h2, h3, h4⟩ := info_parts ty_i160; simp [zeroValue, typeInfo, h1, h2]⟩
theorem ty_ag160 : Ag Tryz.prog 160 6 := ⟨fun w => by simp [isAgg, run_underlying Tryz.underlying160], ty_sz160⟩
theorem ty_fa160_0 : FieldAt Tryz.prog 160 0 0 := fieldAt_of 0 0 3 1 Tryz.underlying160 (by kernel_rfl) ty_sz3 (by kernel_rfl)
theorem ty_fa160_2 : FieldAt Tryz.prog 160 2 2 := fieldAt_of 2 2 36 2 Tryz.underlying160 (by kernel_rfl) ty_sz36 (by kernel_rfl)
theorem ty_fa160_3 : FieldAt Tryz.prog 160 3 4 := fieldAt_of 3 4 36 2 Tryz.underlying160 (by kernel_rfl) ty_sz36 (by kernel_rfl)
theorem ty_i170 : (Tryz.prog.info? 170).map (fun i => (i.zero, i.size, i.bytes)) = some (some (.agg #[.int .i64 0, .int .i64 0, .int .i64 0, .int .i64 0, .int .i64 0, .int .i64 0, .int .i64 0, .int .i64 0, .int .i64 0]), 9, 72) := by kernel_rfl
theorem ty_sz170 : Sz Tryz.prog 170 9 := fun w => by obtain ⟨i, h1, h2, h3, h4⟩ := info_parts ty_i170; simp [sizeOf, typeInfo, h1, h3]
theorem ty_zr170 : Zr Tryz.prog 170 [.int .i64 0, .int .i64 0, .int .i64 0, .int .i64 0, .int .i64 0, .int .i64 0, .int .i64 0, .int .i64 0, .int .i64 0] := ⟨.agg #[.int .i64 0, .int .i64 0, .int .i64 0, .int .i64 0, .int .i64 0, .int .i64 0, .int .i64 0, .int .i64 0, .int .i64 0], rfl, fun w => by obtain ⟨i, h1, h2, h3, h4⟩ := info_parts ty_i170; simp [zeroValue, typeInfo, h1, h2]⟩
theorem ty_ag170 : Ag Tryz.prog 170 9 := ⟨fun w => by simp [isAgg, run_underlying Tryz.underlying170], ty_sz170⟩
theorem ty_fa170_0 : FieldAt Tryz.prog 170 0 0 := fieldAt_of 0 0 3 1 Tryz.underlying170 (by kernel_rfl) ty_sz3 (by kernel_rfl)
theorem ty_fa170_1 : FieldAt Tryz.prog 170 1 1 := fieldAt_of 1 1 3 1 Tryz.underlying170 (by kernel_rfl) ty_sz3 (by kernel_rfl)
theorem ty_fa170_2 : FieldAt Tryz.prog 170 2 2 := fieldAt_of 2 2 3 1 Tryz.underlying170 (by kernel_rfl) ty_sz3 (by kernel_rfl)
theorem ty_fa170_3 : FieldAt Tryz.prog 170 3 3 := fieldAt_of 3 3 36 2 Tryz.underlying170 (by kernel_rfl) ty_sz36 (by kernel_rfl)
theorem ty_fa170_4 : FieldAt Tryz.prog 170 4 5 := fieldAt_of 4 5 3 1 Tryz.underlying170 (by kernel_rfl) ty_sz3 (by kernel_rfl)
theorem ty_fa170_5 : FieldAt Tryz.prog 170 5 6 := fieldAt_of 5 6 36 2 Tryz.underlying170 (by kernel_rfl) ty_sz36 (by kernel_rfl)
theorem ty_fa170_6 : FieldAt Tryz.prog 170 6 8 := fieldAt_of 6 8 3 1 Tryz.underlying170 (by kernel_rfl) ty_sz3 (by kernel_rfl)
theorem ty_i176 : (Tryz.prog.info? 176).map (fun i => (i.zero, i.size, i.bytes)) = some (some (.nilIface), 1, 16) := by kernel_rfl
theorem ty_sc176 : Sc Tryz.prog 176 := fun w => by simp [isAgg, run_underlying Tryz.underlying176]
theorem ty_i187 : (Tryz.prog.info? 187).map (fun i => (i.zero, i.size, i.bytes)) = some (some (.map none), 1, 8) := by kernel_rfl
theorem ty_sz187 : Sz Tryz.prog 187 1 := fun w => by obtain ⟨i, h1, h2, h3, h4⟩ := info_parts ty_i187; simp [sizeOf, typeInfo, h1, h3]
theorem ty_zr187 : Zr Tryz.prog 187 [.map none] := ⟨.map none, rfl, fun w => by obtain ⟨i, h1, h2, h3, h4⟩ := info_parts ty_i187; simp [zeroValue, typeInfo, h1, h2]⟩
theorem ty_sc187 : Sc Tryz.prog 187 := fun w => by simp [isAgg, run_underlying Tryz.underlying187]
theorem ty_i197 : (Tryz.prog.info? 197).map (fun i => (i.zero, i.size, i.bytes)) = some (some (.agg #[.nilFunc, .nilFunc, .nilFunc, .nilFunc]), 4, 32) := by kernel_rfl
theorem ty_sz197 : Sz Tryz.prog 197 4 := fun w => by obtain ⟨i, h1, h2, h3, h4⟩ := info_parts ty_i197; simp [sizeOf, typeInfo, h1, h3]
theorem ty_ag197 : Ag Tryz.prog 197 4 := ⟨fun w => by simp [isAgg, run_underlying Tryz.underlying197], ty_sz197⟩
theorem ty_et22 : ElemT Tryz.prog 22 170 9 72 := elemT (z := .agg #[.int .i64 0, .int .i64 0, .int .i64 0, .int .i64 0, .int .i64 0, .int .i64 0, .int .i64 0, .int .i64 0, .int .i64 0]) Tryz.underlying22 ty_i170 rfl (by decide)
theorem ty_et23 : ElemT Tryz.prog 23 107 5 56 := elemT (z := .agg #[.int .i64 0, .int .i64 0, .int .i64 0, .int .i64 0, .slice none 0 0]) Tryz.underlying23 ty_i107 rfl (by decide)
theorem ty_et26 : ElemT Tryz.prog 26 70 7 56 := elemT (z := .agg #[.int .i64 0, .int .i64 0, .int .i64 0, .int .i64 0, .int .i64 0, .int .i64 0, .bool false]) Tryz.underlying26 ty_i70 rfl (by decide)
theorem ty_et27 : ElemT Tryz.prog 27 109 4 32 := elemT (z := .agg #[.int .i64 0, .int .i64 0, .int .i64 0, .int .i64 0]) Tryz.underlying27 ty_i109 rfl (by decide)
theorem ty_et28 : ElemT Tryz.prog 28 72 3 24 := elemT (z := .agg #[.int .i64 0, .int .i64 0, .int .i64 0]) Tryz.underlying28 ty_i72 rfl (by decide)
theorem ty_et31 : ElemT Tryz.prog 31 3 1 8 := elemT (z := .int .i64 0) Tryz.underlying31 ty_i3 rfl (by decide)
theorem ty_et34 : ElemT Tryz.prog 34 50 2 16 := elemT (z := .agg #[.int .i64 0, .int .i64 0]) Tryz.underlying34 ty_i50 rfl (by decide)
theorem ty_et62 : ElemT Tryz.prog 62 100 2 16 := elemT (z := .agg #[.int .i64 0, .int .i64 0]) Tryz.underlying62 ty_i100 rfl (by decide)
theorem ty_et65 : ElemT Tryz.prog 65 98 4 32 := elemT (z := .agg #[.int .i64 0, .int .i64 0, .int .i64 0, .int .i64 0]) Tryz.underlying65 ty_i98 rfl (by decide)
theorem ty_et83 : ElemT Tryz.prog 83 160 6 48 := elemT (z := .agg #[.int .i64 0, .int .i64 0, .int .i64 0, .int .i64 0, .int .i64 0, .int .i64 0]) Tryz.underlying83 ty_i160 rfl (by decide)
theorem ty_et87 : ElemT Tryz.prog 87 31 1 24 := elemT (z := .slice none 0 0) Tryz.underlying87 ty_i31 rfl (by decide)
theorem ty_et105 : ElemT Tryz.prog 105 104 4 32 := elemT (z := .agg #[.int .i64 0, .int .i64 0, .int .i64 0, .int .i64 0]) Tryz.underlying105 ty_i104 rfl (by decide)
theorem ty_et208 : ElemT Tryz.prog 208 36 2 16 := elemT (z := .agg #[.int .i64 0, .int .i64 0]) Tryz.underlying208 ty_i36 rfl (by decide)
theorem ty_et211 : ElemT Tryz.prog 211 176 1 16 := elemT (z := .nilIface) Tryz.underlying211 ty_i176 rfl (by decide)
theorem ty_et214 : ElemT Tryz.prog 214 5 1 1 := elemT (z := .int .u8 0) Tryz.underlying214 ty_i5 rfl (by decide)
theorem ty_mp144 : MapT Tryz.prog 144 3 4 .i64 := ⟨Tryz.underlying144, Tryz.underlying3⟩
theorem ty_zv4 : ∀ w, (zeroValue 4).run Tryz.prog w = .ok (.bool false) w := fun w => by obtain ⟨i, h1, h2, h3, h4⟩ := info_parts ty_i4; simp [zeroValue, typeInfo, h1, h2]
theorem ty_mp187 : MapT Tryz.prog 187 3 31 .i64 := ⟨Tryz.underlying187, Tryz.underlying3⟩
theorem ty_zv31 : ∀ w, (zeroValue 31).run Tryz.prog w = .ok (.slice none 0 0) w := fun w => by obtain ⟨i, h1, h2, h3, h4⟩ := info_parts ty_i31; simp [zeroValue, typeInfo, h1, h2]
end Go.Proofs.YtfaenhhgkhcghaaGreatDoor
namespace Go.Proofs.YtfaenhhgkhcghaaGreatDoor
set_option linter.all false
set_option linter.unusedVariables false
set_option linter.unusedSimpArgs false
open Go.RowKit
theorem KSub.dropL : ∀ (X : List Fact) {Y L : List Fact}, KSub Y L → KSub (X ++ Y) L
 | [], _, _, h => h
 | _ :: X, _, _, h => KSub.drop (KSub.dropL X h)
section
variable {c : Cx} {Q : Exit → Act → World → Prop} {F F' : Fr} {K K' : List Fact} {ops : Array Oper} {rest : List Oper} {d : Option Tmp} {ty : TypeId} {pos : String} {af : Array Edge} {g : Option (Nat × Bool)} {nf : Nat} {pend : List (Nat × Oper)} {fl : List Fl} {bs : List Bool}
theorem TW.expk {id : Nat} {l : List Oper} {X : Type} (K0 : List Fact) (Fj : X → Fr) (Kj : X → List Fact) (h1 : ∀ x, TQ c Q .normal (Fj x) (Kj x)) (h2 : (∀ x, TQ c Q .normal (Fj x) (Kj x)) → RG c l.toArray Q K0 [] (Array.replicate l.length false) l.length F K) (hm : c.P.follows .mixedOrders = true := by rfl) : TW c (.region id l.toArray true) Q F K := fun a w hF hK => by
 refine wp_region_any hm (wpAny_of_held (S := Sat c.S c.w0 K0) _ _ _ _ ?_)
 rw [List.size_toArray]
 exact h2 h1 (fun p hp => by cases hp) a w.drew hF (hK.ext (keep_drew w))
theorem TL.gck {f : FuncId} {xs : List Operand} {ts : Array TypeId} {us : List Value} {X : Type} {val : X → Value} {L : X → List Fact} (hx : evs F xs = some us) (hen : Enters c.P f)
  (hc : ∀ w, Sat c.S c.w0 K w → CallsK c.P f us.toArray [] w X val L) (h : ∀ x, TL c ops Q rest (fput F d (val x)) (L x ++ K)) (hg : gdB F ops g = some true := by rfl) (hd : dok d c.n = true := by rfl) :
  TL c ops Q (⟨d, .call { callee := .value (.func f), args := xs.toArray, argTypes := ts }, ty, pos, af, g⟩ :: rest) F K := fun a w hF hK => by
 unfold wpList
 rw [if_pos (hF.wanted hg)]
 refine .inl ?_
 have hr : (execOp a.eval ⟨d, .call { callee := .value (.func f), args := xs.toArray, argTypes := ts }, ty, pos, af, g⟩).run c.P w = .ok (.enter f us.toArray) w := by
  have := hF.evsl hx
  have h9 := hen us.toArray w
  simp [execOp, resolve, invoke, Deferred.ofValue, Act.eval, this, h9]
 unfold Oper.wp
 rw [hr]
 refine Calls.mono (hc w hK) ?_
 rintro e w' ⟨x, rfl, hs⟩
 exact h x _ _ (hF.fput hd _) (hK.add hs)
variable {K0 : List Fact} {listed : Array Bool} {fuel : Nat} {op : Op} {t : Nat}
theorem TW.ex0k {id : Nat} {l : List Oper} (K0 : List Fact) (h2 : RG c l.toArray Q K0 [] (Array.replicate l.length false) l.length F K) (hm : c.P.follows .mixedOrders = true := by rfl) : TW c (.region id l.toArray true) Q F K := fun a w hF hK => by
 refine wp_region_any hm (wpAny_of_held (S := Sat c.S c.w0 K0) _ _ _ _ ?_)
 rw [List.size_toArray]
 exact h2 (fun p hp => by cases hp) a w.drew hF (hK.ext (keep_drew w))
theorem RG.guard {b : Bool} (ht : fget F t = some (.bool b)) (h1 : b = true → RG c ops Q K0 [] listed fuel ((t, .bool true) :: F) K) (h2 : b = false → RG c ops Q K0 [] listed fuel ((t, .bool false) :: F) K) : RG c ops Q K0 [] listed fuel F K := fun hp a w hF hK => by
 have key : ∀ b', b = b' → FS c.n c.D ((t, .bool b') :: F) a := fun b' e => ⟨hF.size, hF.dfs, fun u v hv => by
   subst e
   simp only [fget] at hv
   cases hb : Nat.beq t u with
   | true => rw [hb] at hv; have := beq_iff.1 hb; subst this; injection hv with hv; subst hv; exact hF.get _ _ ht
   | false => rw [hb] at hv; exact hF.get _ _ hv⟩
 cases hb : b
 · exact h2 hb hp a w (key _ hb) hK
 · exact h1 hb hp a w (key _ hb) hK
theorem RG.ts (i : Nat) (ho : ops[i]? = some ⟨some t, op, ty, pos, af, g⟩) (h : RG c ops Q K0 [] (listed.setIfInBounds i true) fuel ((t, undef) :: F) K) (hh : HasL K K0 := by repeat (first | exact HasL.nil | refine HasL.cons pk9 ?_)) (hk : takeA ops listed i = true := by kernel_rfl) (hg : gdB F ops g = some false := by rfl) (hd : Nat.blt t c.n = true := by rfl) (hpan : Pan Q := by (intro d _ _ _ _; cases d <;> exact Iff.rfl)) :
    RG c ops Q K0 [] listed (fuel + 1) F K := fun h1 a w hF hK => by
  simp only [takeA, Bool.and_eq_true] at hk
  exact wpAnyH_take ho hk.1.1 hk.1.2 hk.2 (fun ch a w h => (hpan _ undef ch a w).1 h) (.inr ⟨hF.wanted hg, rfl⟩) (hh.has.sat hK) (h h1 _ w (hF.put hd undef) hK)
end
end Go.Proofs.YtfaenhhgkhcghaaGreatDoor
namespace Go.Proofs.YtfaenhhgkhcghaaGreatDoor
set_option linter.all false
set_option linter.unusedVariables false
set_option linter.unusedSimpArgs false
open Go.RowKit
def Meth (P : Program) (T : TypeId) (m : String) (f : FuncId) : Prop := ∀ v w, (method (P.types.size + Made.depth) T v m).run P w = .ok (f, v) w
theorem run_inv {P : Program} {f : FuncId} {T : TypeId} {m : String} {v : Value} {us : List Value} {w : World} {x : Operand} {xs : List Operand} {ts : Array TypeId} {o : Oper} {ρ : Operand → Value} (hf : ρ x = .iface T v) (hx : xs.map ρ = us) (hm : Meth P T m f) (hen : Enters P f) (ho : o.op = .call { callee := .invoke x m, args := xs.toArray, argTypes := ts }) :
  (execOp ρ o).run P w = .ok (.enter f (v :: us).toArray) w := by
 have h9 := hen (v :: us).toArray w
 have e : #[v] ++ us.toArray = (v :: us).toArray := by simp
 have e2 : (#[Value.iface T v] ++ us.toArray).extract 1 (#[Value.iface T v] ++ us.toArray).size = us.toArray := by simp
 have e1 : (#[Value.iface T v] ++ us.toArray)[0]? = some (.iface T v) := by simp
 simp only [execOp, ho, resolve, hf, List.map_toArray, hx, Sem.run_bind, Sem.run_pure, Result.andThen_ok, invoke, e1, e2, callMethod, run_program, hm v w, e]
 exact h9
section
variable {c : Cx} {Q : Exit → Act → World → Prop} {F : Fr} {K K' : List Fact} {ops : Array Oper} {rest : List Oper} {d : Option Tmp} {ty : TypeId} {pos : String} {af : Array Edge} {g : Option (Nat × Bool)} {nf : Nat} {fl : List Fl} {bs : List Bool} {pend : List (Nat × Oper)}
theorem TL.iv {f : FuncId} {T : TypeId} {m : String} {x : Operand} {xs : List Operand} {ts : Array TypeId} {us : List Value} {u v : Value} (hf : ev F x = some (.iface T u)) (hx : evs F xs = some us) (hm : Meth c.P T m f) (hen : Enters c.P f) (hc : ∀ w, Sat c.S c.w0 K w → Calls c.P f (u :: us).toArray w (Ret w v)) (h : TL c ops Q rest (fput F d v) K) (hg : gdB F ops g = some true := by rfl) (hd : dok d c.n = true := by rfl) :
    TL c ops Q (⟨d, .call { callee := .invoke x m, args := xs.toArray, argTypes := ts }, ty, pos, af, g⟩ :: rest) F K := fun a w hF hK => by
  unfold wpList
  rw [if_pos (hF.wanted hg)]
  refine .inl ?_
  unfold Oper.wp
  rw [run_inv (hF.evl hf) (hF.evsl hx) hm hen rfl]
  refine Calls.mono (hc w hK) ?_
  rintro e w' ⟨rfl, hb⟩
  exact h _ _ (hF.fput hd _) (hK.ext hb)
def slA (A : Option Addr) (cp sz q : Nat) : Option Addr := if cp = q then A else A.map fun a => a.add (q * sz)
theorem Pu.sf {T E : TypeId} {sz bytes : Nat} {x y : Operand} {A : Option Addr} {n cp q : Nat} {i : Int} (hT : ElemT c.P T E sz bytes) (hx : ev F x = some (.slice A n cp) := by rfl) (hy : ev F y = some (.int .i64 i) := by rfl) (hk : i.toNat = q := by first | exact tnS _ | exact Int.toNat_natCast _ | rfl) (h0 : 0 ≤ i := by omega) (h1 : i ≤ n := by omega) : Pu c F K ⟨d, .slice T x (some y) none none, ty, pos, af, g⟩ (.slice (slA A cp sz q) (n - q) (cp - q)) := fun a w hF _ => by
 obtain ⟨i', z, hi, hz, hs, hb, hzs⟩ := hT.hi
 have hsz : (sizeOf E).run c.P w = .ok sz w := by simp [sizeOf, typeInfo, hi, hs]
 subst hk
 simp [execOp, Instr.sliceAt, Instr.slice, hF.evl hx, hF.evl hy, run_underlying hT.ht, Instr.sliceBounds, Instr.sliceBound, asIntOf, h0, h1, hsz, slA]
end
theorem RdR.tail {w : World} {sz n cp q : Nat} {A : Option Addr} {r : Nat → List Value} (h : RdR w sz A n r) (hn : n ≤ cp) (hq : q ≤ n) : RdR w sz (slA A cp sz q) (n - q) (fun k => r (q + k)) := by
  refine ⟨fun h0 => ?_, fun i hi => h.len _ (by omega)⟩
  obtain ⟨b, off, rfl, h2, h3⟩ := h.rd (by omega)
  refine ⟨b, off + q * sz, ?_, h2, fun i j hi hj => ?_⟩
  · unfold slA
    rw [if_neg (by omega), Option.map_some, add_plain]
  · have := h3 (q + i) j (by omega) hj
    rw [show off + q * sz + i * sz + j = off + (q + i) * sz + j by rw [Nat.add_mul]; omega]
    exact this
end Go.Proofs.YtfaenhhgkhcghaaGreatDoor
namespace Go.Proofs.YtfaenhhgkhcghaaGreatDoor
set_option linter.all false
set_option linter.unusedVariables false
set_option linter.unusedSimpArgs false
open Go.RowKit
def TWi (l : Nat) (c : Cx) (code : Code) (Q : Exit → Act → World → Prop) (F : Fr) (K : List Fact) : Prop := ∀ a w, FS c.n c.D F a → Sat c.S c.w0 K w → code.wpIn (Fence.wide.inRound l) 0 c.P Q a w
theorem operIn {P : Program} {l m : Nat} {o : Oper} {a : Act} {w : World} {K K' : Act → World → Prop} {Q : Exit → Act → World → Prop} (hK : ∀ a w, K a w → K' a w) (hnd : ∀ c, o.op ≠ .defer c) (h : o.wp P a w K Q) : o.wpIn (Fence.wide.inRound l) m P a w K' Q := by
 refine ⟨fun _ _ => trivial, ?_⟩
 rw [Fence.inRound_round, Oper.semAt_some l a.eval o hnd]
 unfold Oper.wp at h
 generalize (execOp a.eval o).run P w = r at *
 cases r with
 | ok x w' =>
  cases x <;> simp only [Oper.upon] at h <;> simp only [Oper.uponIn]
  case value u => exact hK _ _ h
  case skip => exact hK _ _ h
  case defer d => exact hK _ _ h
  case enter f args =>
   refine ⟨fun h9 => (by simp [Fence.wide] at h9), CallsIn.inRound l (callsIn_wide.2 (Calls.mono h fun e w'' he => ?_))⟩
   cases e with
   | returned u => exact hK _ _ he
   | panicked ch => exact he
   | outgrown => exact he
  case row row args =>
   refine ⟨fun h9 => (by simp [Fence.wide] at h9), fun c cs _ => ?_⟩
   obtain ⟨v, w'', r1, s1⟩ := h c cs
   exact ⟨v, w'', hK _ _ r1, stepsIn_wide.2 s1⟩
 | halt x w' => cases x <;> simp only [Oper.upon] at h <;> exact h
theorem operWide {P : Program} {m : Nat} {o : Oper} {a : Act} {w : World} {Z K' : Act → World → Prop} {Q : Exit → Act → World → Prop} (hK : ∀ a w, Z a w → K' a w) (h : o.wp P a w Z (nxt Z Q)) : o.wpIn Fence.wide m P a w K' Q := by
 refine ⟨fun _ _ => trivial, ?_⟩
 rw [Fence.wide_round, Oper.semAt_none]
 unfold Oper.wp at h
 generalize (execOp a.eval o).run P w = r at *
 cases r with
 | ok x w' =>
  cases x <;> simp only [Oper.upon] at h <;> simp only [Oper.uponIn]
  case value u => exact hK _ _ h
  case skip => exact hK _ _ h
  case defer d => exact hK _ _ h
  case enter f args =>
   refine ⟨fun h9 => (by simp [Fence.wide] at h9), callsIn_wide.2 (Calls.mono h fun e w'' he => ?_)⟩
   cases e with
   | returned u => exact hK _ _ he
   | panicked ch => exact he
   | outgrown => obtain ⟨x, y, z⟩ := he; exact ⟨x, y, z⟩
  case row row args =>
   refine ⟨fun h9 => (by simp [Fence.wide] at h9), fun c cs _ => ?_⟩
   obtain ⟨v, w'', r1, s1⟩ := h c cs
   exact ⟨v, w'', hK _ _ r1, stepsIn_wide.2 s1⟩
 | halt x w' => cases x <;> simp only [Oper.upon] at h <;> exact h
def noDeferL (l : List Oper) : Bool := l.all fun o => match o.op with | .defer _ => false | _ => true
theorem listIn {P : Program} {ops : Array Oper} {Q : Exit → Act → World → Prop} {l m : Nat} (hL : ¬ LetsOut Q) : ∀ (rest : List Oper), noDeferL rest = true → ∀ a w, wpList P ops Q rest a w → wpListIn (Fence.wide.inRound l) m P ops Q rest a w
 | [], _, _, _, h => h
 | o :: rest, hn, a, w, h => by
  simp only [noDeferL, List.all_cons, Bool.and_eq_true] at hn
  unfold wpList at h
  unfold wpListIn
  split
  · rename_i hw
    rw [if_pos hw] at h
    rcases h with h | ⟨_, h⟩
    · exact operIn (fun a w h => listIn hL rest hn.2 a w h) (fun c e => by rw [e] at hn; simp at hn) h
    · exact absurd h hL
  · rename_i hw
    rw [if_neg hw] at h
    exact ⟨fun _ _ => trivial, listIn hL rest hn.2 _ _ h⟩
theorem rounds_mono {F : Fence} {n : Nat} {P : Program} {x : Code} {Q : Exit → Act → World → Prop} : ∀ {m m' : Nat} {a : Act} {w : World}, m ≤ m' → Code.roundsIn F n P x Q m a w → Code.roundsIn F n P x Q m' a w
 | 0, _, _, _, _, h => h.elim
 | m + 1, 0, _, _, hm, _ => by omega
 | m + 1, m' + 1, a, w, hm, h => by
  refine wpIn_mono h fun e a w he => ?_
  cases e with
  | normal => exact rounds_mono (by omega) he
  | _ => exact he
section
variable {l : Nat} {c : Cx} {Q : Exit → Act → World → Prop} {F F' : Fr} {K K' K0 : List Fact} {ops : Array Oper} {rest : List Oper} {d : Option Tmp} {ty : TypeId} {pos : String} {af : Array Edge} {g : Option (Nat × Bool)}
theorem TWi.seq {x y : Code} (h : ∀ Y : Act → World → Prop, (∀ F K, TWi l c y Q F K → TQ c (fun _ => Y) .normal F K) → TWi l c x (Exit.then Y Q) F K) : TWi l c (.seq x y) Q F K := fun a w hF hK =>
 wpIn_seq (h (y.wpIn (Fence.wide.inRound l) 0 c.P Q) (fun _ _ h => h) a w hF hK)
theorem TWi.block {i : Nat} {x : Code} (h : TWi l c x (Exit.inBlock i Q) F K) : TWi l c (.block i x) Q F K := fun a w hF hK => wpIn_block (h a w hF hK)
theorem TWi.ret (h : TQ c Q .ret F K) : TWi l c .ret Q F K := fun a w hF hK => wpIn_ret (h a w hF hK)
theorem TWi.exit {i : Nat} (h : TQ c Q (.exit i) F K) : TWi l c (.exit i) Q F K := fun a w hF hK => wpIn_exit (h a w hF hK)
theorem TWi.skip (h : TQ c Q .normal F K) : TWi l c .skip Q F K := fun a w hF hK => wpIn_skip (h a w hF hK)
theorem TWi.cond {x : Operand} {s t : Code} {b : Bool} (hx : ev F x = some (.bool b)) (ht : b = true → TWi l c s Q F K) (hf : b = false → TWi l c t Q F K) : TWi l c (.cond x s t) Q F K := fun a w hF hK =>
 wpIn_cond_split (hF.evl hx) (fun e => ht e a w hF hK) (fun e => hf e a w hF hK)
theorem TWi.condF {x : Operand} {s t : Code} {b : Bool} (hx : ev F x = some (.bool b)) (hb : b = false) (h : TWi l c t Q F K) : TWi l c (.cond x s t) Q F K := TWi.cond hx (fun e => by rw [hb] at e; cases e) (fun _ => h)
theorem TWi.join {x : Code} (E : Fr) (h : TQ c Q .normal (E ++ F) K) (r : TQ c Q .normal (E ++ F) K → TWi l c x Q F K) : TWi l c x Q F K := r h
theorem TWi.region {id : Nat} {os : List Oper} (h : TL c os.toArray Q os F K) (hnd : noDeferL os = true := by rfl) (hL : ¬ LetsOut Q := by (rintro ⟨_, _, h⟩; exact h)) : TWi l c (.region id os.toArray false) Q F K := fun a w hF hK => wpIn_region_lit (listIn hL os hnd a w (h a w hF hK))
theorem TWi.dw {id : Nat} {os : List Oper} (nf : Nat) (h : RK c os.toArray Q nf 0 (os.take nf) [] [] (Array.replicate nf false) nf F K) (hm : c.P.follows .mixedOrders = true := by rfl) (hT : tailOk os.toArray nf = true := by kernel_rfl) (hp : Pan Q := by (intro d _ _ _ _; cases d <;> exact Iff.rfl)) (hnd : noDefer os.toArray = true := by kernel_rfl) (hL : ¬ LetsOut Q := by (rintro ⟨_, _, h⟩; exact h)) : TWi l c (.region id os.toArray true) Q F K := fun a w hF hK =>
 RW.beginIn hm hT hp hnd hL fun hb => h a w _ hF hK hb
theorem TWi.any {id : Nat} {os : List Oper} (hm : c.P.follows .mixedOrders = true) (hnd : noDefer os.toArray = true) (hL : ¬ LetsOut Q) (h : ∀ a w, FS c.n c.D F a → Sat c.S c.w0 K w → wpAnyH c.P .any os.toArray Q (Sat c.S c.w0 K0) os.length (Array.replicate os.length false) a w) : TWi l c (.region id os.toArray true) Q F K := fun a w hF hK => by
 refine wpIn_region_any hm (anyIn hnd hL _ _ _ _ (wpAny_of_held (S := Sat c.S c.w0 K0) _ _ _ _ ?_))
 rw [List.size_toArray]
 exact h a w.drew hF (hK.ext (keep_drew w))
theorem TWi.ex0k {id : Nat} {os : List Oper} (K0 : List Fact) (h2 : RG c os.toArray Q K0 [] (Array.replicate os.length false) os.length F K) (hm : c.P.follows .mixedOrders = true := by rfl) (hnd : noDefer os.toArray = true := by kernel_rfl) (hL : ¬ LetsOut Q := by (rintro ⟨_, _, h⟩; exact h)) : TWi l c (.region id os.toArray true) Q F K :=
 TWi.any (K0 := K0) hm hnd hL fun a w hF hK => h2 (fun p hp => by cases hp) a w hF hK
theorem TWi.expk {id : Nat} {os : List Oper} {X : Type} (K0 : List Fact) (Fj : X → Fr) (Kj : X → List Fact) (h1 : ∀ x, TQ c Q .normal (Fj x) (Kj x)) (h2 : (∀ x, TQ c Q .normal (Fj x) (Kj x)) → RG c os.toArray Q K0 [] (Array.replicate os.length false) os.length F K) (hm : c.P.follows .mixedOrders = true := by rfl) (hnd : noDefer os.toArray = true := by kernel_rfl) (hL : ¬ LetsOut Q := by (rintro ⟨_, _, h⟩; exact h)) : TWi l c (.region id os.toArray true) Q F K := TWi.ex0k K0 (h2 h1) hm hnd hL
theorem TWi.loop {ι : Type} {x : Code} (FI : ι → Fr) (KI : ι → List Fact) (μ : ι → Nat) (i0 : ι) (hF : fsub F (FI i0)) (hK : KSub K (KI i0))
  (round : ∀ i, ∀ Y : Act → World → Prop, (∀ j F K, μ j < μ i → fsub F (FI j) → KSub K (KI j) → TQ c (fun _ => Y) .normal F K) → TWi l c x (Exit.then Y Q) (FI i) (KI i)) : TWi l c (.loop x) Q F K := fun a w hf hk => by
 have key : ∀ (k : Nat) (i : ι) (a : Act) (w : World), μ i = k → FS c.n c.D (FI i) a → Sat c.S c.w0 (KI i) w → Code.roundsIn (Fence.wide.inRound l) 0 c.P x Q (k + 1) a w := by
  intro k
  induction k using Nat.strongRecOn with
  | _ k ih =>
   rintro i a w rfl hf hk
   rw [roundsIn_succ]
   refine round i _ (fun j F K hj hF hK a w h1 h2 => ?_) a w hf hk
   exact rounds_mono (by omega) (ih (μ j) hj j a w rfl (h1.sub (fsub_spec hF)) (h2.sub hK))
 exact wpIn_loop_rounds _ (key _ i0 a w rfl (hf.sub (fsub_spec hF)) (hk.sub hK))
theorem TWi.loop1 {ι1 : Type} {x : Code} (FI : ι1 → Fr) (KI : ι1 → List Fact) (p : ι1 → Prop) (μ : ι1 → Nat) (i1 : ι1) (hF : fsub F (FI i1)) (hK : KSub K (KI i1)) (hp : p i1)
  (round : ∀ i1, p i1 → ∀ Y : Act → World → Prop, (∀ j1 F K, p j1 → μ j1 < μ i1 → fsub F (FI j1) → KSub K (KI j1) → TQ c (fun _ => Y) .normal F K) → TWi l c x (Exit.then Y Q) (FI i1) (KI i1)) : TWi l c (.loop x) Q F K :=
 TWi.loop (ι := { t : ι1 // p t }) (fun t => FI t.1) (fun t => KI t.1) (fun t => μ t.1) ⟨i1, hp⟩ hF hK fun t Y hY => round t.1 t.2 Y fun j1 F K h1 h2 h3 h4 => hY ⟨j1, h1⟩ F K h2 h3 h4
def TLi (c : Cx) (ops : Array Oper) (Q : Exit → Act → World → Prop) (rest : List Oper) (F : Fr) (K : List Fact) : Prop := ∀ a w, FS c.n c.D F a → Sat c.S c.w0 K w → wpListIn Fence.wide 1 c.P ops Q rest a w
theorem TW.regionI {id : Nat} {os : List Oper} (h : TLi c os.toArray Q os F K) : TW c (.region id os.toArray false) Q F K := fun a w hF hK => (wpIn_wide (n := 1)).1 (wpIn_region_lit (h a w hF hK))
theorem TLi.nil (h : TQ c Q .normal F K) : TLi c ops Q [] F K := fun a w hF hK => h a w hF hK
theorem TLi.op {o : Oper} (h : ∀ Z : Act → World → Prop, (∀ F2 K2, TLi c ops Q rest F2 K2 → TQ c (fun _ => Z) .normal F2 K2) → TL c ops (nxt Z Q) [o] F K) (hL : ¬ LetsOut Q := by (rintro ⟨_, _, h⟩; exact h)) : TLi c ops Q (o :: rest) F K := fun a w hF hK => by
 have h1 := h (wpListIn Fence.wide 1 c.P ops Q rest) (fun F2 K2 h2 a w h3 h4 => h2 a w h3 h4) a w hF hK
 unfold wpList at h1
 unfold wpListIn
 split
 · rename_i hw
   rw [if_pos hw] at h1
   rcases h1 with h1 | ⟨_, h2⟩
   · exact operWide (fun _ _ h => h) h1
   · obtain ⟨x, y, z⟩ := h2
     exact absurd ⟨x, y, z⟩ hL
 · rename_i hw
   rw [if_neg hw] at h1
   exact ⟨fun _ _ => trivial, h1⟩
theorem TLi.guard {t : Nat} {b : Bool} (ht : fget F t = some (.bool b)) (h1 : b = true → TLi c ops Q rest ((t, .bool true) :: F) K) (h2 : b = false → TLi c ops Q rest ((t, .bool false) :: F) K) : TLi c ops Q rest F K := fun a w hF hK => by
 have key : ∀ b', b = b' → FS c.n c.D ((t, .bool b') :: F) a := fun b' e => ⟨hF.size, hF.dfs, fun u v hv => by
   subst e
   simp only [fget] at hv
   cases hb : Nat.beq t u with
   | true => rw [hb] at hv; have := beq_iff.1 hb; subst this; injection hv with hv; subst hv; exact hF.get _ _ ht
   | false => rw [hb] at hv; exact hF.get _ _ hv⟩
 cases hb : b
 · exact h2 hb a w (key _ hb) hK
 · exact h1 hb a w (key _ hb) hK
theorem TLi.yi {l : Nat} {x : Operand} {xs : List Operand} {ts : Array TypeId} {us : List Value} {R1 R2 : Type} {K1 : R1 → List Fact} {K2 : R2 → List Fact} (hf : ev F x = some (.func (.yield l) #[] #[])) (hx : evs F xs = some us)
   (hy : ∀ w, Sat c.S c.w0 K w → YieldAt Fence.wide 0 c.P l us.toArray w fun e w' => (e = .returned (.bool true) ∧ ∃ r, Sat c.S c.w0 (K1 r) w') ∨ (e = .returned (.bool false) ∧ ∃ r, Sat c.S c.w0 (K2 r) w'))
   (h1 : ∀ r, TLi c ops Q rest (fput F d (.bool true)) (K1 r)) (h2 : ∀ r, TLi c ops Q rest (fput F d (.bool false)) (K2 r)) (hg : gdB F ops g = some true := by rfl) (hd : dok d c.n = true := by rfl) :
   TLi c ops Q (⟨d, .call { callee := .value x, args := xs.toArray, argTypes := ts }, ty, pos, af, g⟩ :: rest) F K := fun a w hF hK => by
 unfold wpListIn
 rw [if_pos (hF.wanted hg)]
 obtain ⟨fn, tmps, assign, body, hy1, hy2⟩ := hy w hK
 have e1 := hF.evl hf
 have e2 := hF.evsl hx
 have hr : (execOp a.eval ⟨d, .call { callee := .value x, args := xs.toArray, argTypes := ts }, ty, pos, af, g⟩).run c.P w = .ok (.round l fn tmps assign body) w := by
   simp only [execOp, resolve, e1, Deferred.ofValue, List.map_toArray, e2, Sem.run_bind, Sem.run_pure, Result.andThen_ok, invoke]
   simpa using hy1
 refine ⟨fun _ _ => trivial, ?_⟩
 rw [Fence.wide_round, Oper.semAt_none, hr, Oper.uponIn_round]
 refine ⟨fun h9 => (by simp [Fence.wide] at h9), hy2.mono ?_⟩
 rintro e w' (⟨rfl, r, hs⟩ | ⟨rfl, r, hs⟩)
 · exact h1 r _ _ (hF.fput hd _) hs
 · exact h2 r _ _ (hF.fput hd _) hs
theorem Sat.newO {S : List Nat} {w0 w : World} (h : Sat S w0 K w) (o : Obj) (ho : o.isCells = false) : Sat S w0 (.obj w.heap.size o :: K) (w.alloc o) :=
 h.add (L := [_]) (Sat.one (Chg.of_ext ((Below.refl _ _).alloc (Nat.le_refl _) _)) (by simp [Fact.foot]) (fun b hb => by simp [Fact.foot] at hb; subst hb; exact .inr (Nat.le_refl _)) ⟨World.alloc_heap_new w o, ho⟩)
theorem Sat.putO {S : List Nat} {w0 w : World} {b : Nat} {o o' : Obj} (h : Sat S w0 (.obj b o :: K) w) (ho : o'.isCells = false) : Sat S w0 (.obj b o' :: K) (w.putObj b o') :=
 h.turn (φ' := .obj b o') (Chg.grown (grownBy_putObj' w b o')) (by simp [Fact.foot]) (fun x hx => .inl hx) ⟨World.putObj_heap_same (lt_of_get (h.holds (.obj b o) (by simp)).1), ho⟩
def putF : List Tmp → List Value → Fr → Fr
 | p :: ps, v :: vs, F => putF ps vs ((p, v) :: F)
 | _, _, F => F
theorem FS.putF {n : Nat} : ∀ {ps : List Tmp} {vs : List Value} {F : Fr} {t : Array Value}, FS n [] F { tmps := t, defers := [] } → (ps.all fun p => Nat.blt p n) = true → FS n [] (Go.Proofs.YtfaenhhgkhcghaaGreatDoor.putF ps vs F) { tmps := (ps.zip vs).foldl (fun t (p, v) => t.setIfInBounds p v) t, defers := [] }
 | [], _, _, _, h, _ => by simpa [Go.Proofs.YtfaenhhgkhcghaaGreatDoor.putF] using h
 | _ :: _, [], _, _, h, _ => by simpa [Go.Proofs.YtfaenhhgkhcghaaGreatDoor.putF] using h
 | p :: ps, v :: vs, F, t, h, hp => by
  simp only [List.all_cons, Bool.and_eq_true] at hp
  have := FS.putF (ps := ps) (vs := vs) (h.put hp.1 v) hp.2
  simpa [Go.Proofs.YtfaenhhgkhcghaaGreatDoor.putF, Act.put] using this
def RB (c : Cx) {R Rx : Type} (KN : R → List Fact) (jx : Rx → Code) (KX : Rx → List Fact) : Exit → Act → World → Prop
 | .normal, _, w => ∃ r, Sat c.S c.w0 (KN r) w
 | .ret, _, w => ∃ x, jx x = .ret ∧ Sat c.S c.w0 (KX x) w
 | .exit i, _, w => ∃ x, jx x = .exit i ∧ Sat c.S c.w0 (KX x) w
 | _, _, _ => False
theorem TQ.rbN {R Rx : Type} {KN : R → List Fact} {jx : Rx → Code} {KX : Rx → List Fact} (r : R) (hK : KSub K (KN r)) : TQ c (RB c KN jx KX) .normal F K := fun _ _ _ h => ⟨r, h.sub hK⟩
theorem TQ.rbR {R Rx : Type} {KN : R → List Fact} {jx : Rx → Code} {KX : Rx → List Fact} (x : Rx) (hx : jx x = .ret) (hK : KSub K (KX x)) : TQ c (RB c KN jx KX) .ret F K := fun _ _ _ h => ⟨x, hx, h.sub hK⟩
theorem perm_objs (A B : List Fact) (x y : Fact) : (A ++ (x :: y :: B)).Perm (x :: y :: (A ++ B)) := List.perm_middle.trans (List.Perm.cons _ List.perm_middle)
theorem K_enterM {P : Program} {f : FuncId} {fn : Func} {code : Code} {n : Nat} {args : List Value} {R : Ending → World → Prop} {w w0 : World} {S : List Nat} {K : List Fact} (hf : P.funcs[f]? = some fn) (hb : fn.body = some code) (hn : fn.ntmps = n) (hl : Nat.ble args.length n = true) (hS : Sat S w0 K w)
  (h : TW ⟨P, n, [], S, w0⟩ code (bodyPostM Fence.wide 2 P fn R) (zipF 0 args) K) : Calls P f args.toArray w R := by
 refine calls_of_marks hf hb ?_
 rw [hn]
 exact h _ _ (FS.start (Nat.le_of_ble_eq_true hl)) hS
theorem K_enterW {P : Program} {f : FuncId} {fn : Func} {code : Code} {n : Nat} {args : List Value} {R : Ending → World → Prop} {w w0 : World} {S : List Nat} {K : List Fact} (hf : P.funcs[f]? = some fn) (hb : fn.body = some code) (hn : fn.ntmps = n) (hl : Nat.ble args.length n = true) (hS : Sat S w0 K w)
  (h : TW ⟨P, n, [], S, w0⟩ code (bodyPost P fn R) (zipF 0 args) K) : Calls P f args.toArray w R := by
 refine calls_of_wp hf hb ?_
 rw [hn]
 exact h _ _ (FS.start (Nat.le_of_ble_eq_true hl)) hS
theorem TQ.retM {fn : Func} {R : Ending → World → Prop} {rs : List ResultVar} {vs : List Value} {D : Nat} (hr : fn.results = rs.toArray) (hp : Pick K (.obj D (.deferred (some []))) K') (hv : RV c F K' rs vs) (h : ∀ w, Sat c.S c.w0 K' w → R (.returned (retV vs)) w) (hD : c.D = [{ target := .collected D, args := #[] }] := by rfl) : TQ c (bodyPostM Fence.wide 2 c.P fn R) .ret F K := fun a w hF hK => by
 have h1 := hK.pick hp
 have hd : w.heap[D]? = some (.deferred (some [])) := (h1.holds (.obj _ _) (by simp)).1
 have h2 : Sat c.S c.w0 K' (w.putObj D (.deferred none)) := (h1.putO (o' := .deferred none) rfl).sub (KSub.drop (KSub.refl _))
 obtain ⟨t, ds⟩ := a
 have e : ds = [{ target := .collected D, args := #[] }] := hF.dfs.trans hD
 subst e
 exact ret_marks hd (hv.results hr hF h2) (h _ h2)
end
end Go.Proofs.YtfaenhhgkhcghaaGreatDoor
namespace Go.Proofs.YtfaenhhgkhcghaaGreatDoor
set_option linter.all false
set_option linter.unusedVariables false
set_option linter.unusedSimpArgs false
open Go.RowKit
def spL (a b : Int) : List Value := [.int .i64 a, .int .i64 b]
def ordB5 (lo hi a b : Int) : Bool := decide (lo ≤ a) && decide (a ≤ b) && decide (b ≤ hi)
def inB5 (lo hi a : Int) : Bool := decide (lo ≤ a) && decide (a ≤ hi)
def Fst (p : Nat → Bool) (n : Nat) : Type := { k : Nat // k ≤ n ∧ (∀ j, j < k → p j = false) ∧ (k < n → p k = true) }
def aft (n k : Nat) : Nat := if k < n then k + 1 else n
theorem Fst.any {p : Nat → Bool} {n : Nat} (x : Fst p n) : decide (x.1 < n) = (List.range n).any p := by
 obtain ⟨k, h1, h2, h3⟩ := x
 by_cases h : k < n
 · have : (List.range n).any p = true := List.any_eq_true.2 ⟨k, List.mem_range.2 h, h3 h⟩
   rw [this]; simpa using h
 · have : (List.range n).any p = false := by
    rw [List.any_eq_false]
    intro j hj
    have := h2 j (by have := List.mem_range.1 hj; omega)
    simp [this]
   rw [this]; simpa using h
theorem RdR.blk {w : World} {b : Nat} {E : TypeId} {cs : List Value} {n sz : Nat} {r : Nat → List Value} (h : Blk w b E cs.toArray) (hr : flatR n r = cs) (hl : ∀ i, i < n → (r i).length = sz) (hz : Nat.blt 0 sz = true := by rfl) (hn : Nat.ble n 1000000 = true := by rfl) : RdR w sz (some ⟨b, 0, none⟩) n r :=
 (OwnR.of_blk h hr hl hz hn).rdr
end Go.Proofs.YtfaenhhgkhcghaaGreatDoor
namespace Go.Proofs.YtfaenhhgkhcghaaGreatDoor
set_option linter.all false
set_option linter.unusedVariables false
set_option linter.unusedSimpArgs false
open Go.RowKit
def iL (L : List Int) : Nat → List Value := fun k => [.int .i64 (L.getD k 0)]
theorem iL_lt {L : List Int} {k : Nat} (h : k < L.length) : L[k]? = some (L.getD k 0) := by
 rw [List.getD_eq_getElem?_getD, List.getElem?_eq_getElem h]
 rfl
theorem getD_app {L M : List Int} {k : Nat} : (L ++ M).getD k 0 = if k < L.length then L.getD k 0 else M.getD (k - L.length) 0 := by
 simp only [List.getD_eq_getElem?_getD]
 by_cases h : k < L.length
 · rw [if_pos h, List.getElem?_append_left h]
 · rw [if_neg h, List.getElem?_append_right (by omega)]
theorem iL_app {L L' : List Int} {m : Nat} {x : Int} {s : Nat → List Value} (hm : m = L.length) (hL : L' = L ++ [x]) (hs : s 0 = [.int .i64 x]) : ∀ i, i < m + 1 → catR m (iL L) s i = iL L' i := fun i hi => by
  subst hL
  simp only [catR, iL]
  rw [getD_app]
  by_cases h : i < m
  · rw [if_pos h, if_pos (by omega)]
  · obtain rfl : i = m := by omega
    rw [if_neg h, Nat.sub_self, hs, if_neg (by omega), hm, Nat.sub_self]
    rfl
def toI (v : Nat → Int) (n : Nat) : List Int := (List.range n).map v
theorem toI_len {v : Nat → Int} {n : Nat} : (toI v n).length = n := by simp [toI]
theorem toI_get {v : Nat → Int} {n k : Nat} (h : k < n) : (toI v n).getD k 0 = v k := by
 simp [toI, List.getD_eq_getElem?_getD, h]
theorem toI_getD (L : List Int) : toI (fun k => L.getD k 0) L.length = L := by
 apply List.ext_getElem
 · simp [toI]
 · intro i h1 h2
   simp [toI, List.getD_eq_getElem?_getD, h2]
theorem mem_getD {L : List Int} {k : Nat} (h : k < L.length) : L.getD k 0 ∈ L := by
 have := iL_lt h
 exact List.mem_of_getElem? this
theorem take_succ {L : List Int} {k : Nat} (h : k < L.length) : L.take (k + 1) = L.take k ++ [L.getD k 0] := by
 rw [List.take_succ, iL_lt h]
 rfl
def ins (x : Int) : List Int → List Int
 | [] => [x]
 | y :: ys => if x ≤ y then x :: y :: ys else y :: ins x ys
def srt : List Int → List Int
 | [] => []
 | x :: xs => ins x (srt xs)
theorem ins_perm (x : Int) : ∀ L : List Int, (ins x L).Perm (x :: L)
 | [] => List.Perm.refl _
 | y :: ys => by
  simp only [ins]
  split
  · exact List.Perm.refl _
  · exact ((ins_perm x ys).cons y).trans (List.Perm.swap _ _ _)
theorem srt_perm : ∀ L : List Int, (srt L).Perm L
 | [] => List.Perm.refl _
 | x :: xs => (ins_perm x (srt xs)).trans ((srt_perm xs).cons x)
theorem srt_len (L : List Int) : (srt L).length = L.length := (srt_perm L).length_eq
theorem ins_mono (x : Int) : ∀ L : List Int, L.Pairwise (· ≤ ·) → (ins x L).Pairwise (· ≤ ·)
 | [], _ => by simp [ins]
 | y :: ys, h => by
  have h1 := List.pairwise_cons.1 h
  simp only [ins]
  split
  · rename_i hxy
    refine List.pairwise_cons.2 ⟨fun z hz => ?_, h⟩
    rcases List.mem_cons.1 hz with rfl | hz
    · exact hxy
    · exact Int.le_trans hxy (h1.1 z hz)
  · refine List.pairwise_cons.2 ⟨fun z hz => ?_, ins_mono x ys h1.2⟩
    rcases List.mem_cons.1 ((ins_perm x ys).mem_iff.1 hz) with rfl | hz
    · omega
    · exact h1.1 z hz
theorem srt_mono : ∀ L : List Int, (srt L).Pairwise (· ≤ ·)
 | [] => List.Pairwise.nil
 | x :: xs => ins_mono x _ (srt_mono xs)
theorem ms_mono (L : List Int) : (L.mergeSort fun x y => decide (x ≤ y)).Pairwise (· ≤ ·) :=
 (List.pairwise_mergeSort (le := fun x y : Int => decide (x ≤ y)) (fun a b c h1 h2 => by simp only [decide_eq_true_eq] at *; omega) (fun a b => by simp only [Bool.or_eq_true, decide_eq_true_eq]; omega) L).imp (by intro a b h; simpa using h)
theorem ms_srt (L : List Int) : (L.mergeSort fun x y => decide (x ≤ y)) = srt L :=
 List.Perm.eq_of_pairwise (le := (· ≤ ·)) (fun a b _ _ h1 h2 => Int.le_antisymm h1 h2) (ms_mono L) (srt_mono L) ((List.mergeSort_perm L _).trans (srt_perm L).symm)
theorem srt_nil : srt [] = [] := rfl
theorem Sat.own1 {w : World} {A : Option Addr} {n cp : Nat} {E : TypeId} {sz : Nat} {r : Nat → List Value} (h : OwnR w A n cp E sz r) : Sat (feet [.own A n cp E sz r]) w [.own A n cp E sz r] w :=
 ⟨Chg.refl _ _, by cases A <;> simp [feet, Fact.foot], fun b hb => .inl hb, by intro φ hφ; obtain rfl := List.mem_singleton.1 hφ; exact h⟩
theorem own_putRow {w : World} {G cp : Nat} {E : TypeId} {L M : List Int} (os : Array Obj) (n : Nat) (hl : M.length = L.length) (h : OwnR w (some ⟨G, 0, none⟩) L.length cp E 1 (iL L)) :
    Sat [G] w [.own (some ⟨G, 0, none⟩) L.length cp E 1 (iL M)] (Sort.grow (Sort.putRow (Value.int .i64) (Sort.ahead w n) G 0 M.toArray) os) := by
  rcases h.own.2 with ⟨e, _⟩ | ⟨g, cap, cur, e, hg, hh, hnc, hcm, hcs, ht⟩
  · cases e
  · simp only [Value.slice.injEq, Option.some.injEq, Addr.mk.injEq, and_true, true_and] at e
    obtain ⟨rfl, rfl⟩ := e
    have hlt := lt_of_get hh
    have hsz : L.length * 1 ≤ cur.size := by rw [hcs]; exact Nat.mul_le_mul_right _ hnc
    have hheap : (Sort.putRow (Value.int .i64) (Sort.ahead w n) G 0 M.toArray).heap = w.heap.modify G (Sort.onCells (Sort.putCells (Value.int .i64) 0 M.toArray)) := rfl
    have hget : (Sort.grow (Sort.putRow (Value.int .i64) (Sort.ahead w n) G 0 M.toArray) os).heap[G]? = some (.cells (Sort.putCells (Value.int .i64) 0 M.toArray cur) E (0, 0)) := by
      show ((Sort.putRow (Value.int .i64) (Sort.ahead w n) G 0 M.toArray).heap ++ os)[G]? = _
      rw [hheap, Array.getElem?_append_left (by simpa using hlt), Array.getElem?_modify, if_pos rfl, hh]
      rfl
    have hps : (Sort.putCells (Value.int .i64) 0 M.toArray cur).size = cur.size := by simp [Sort.putCells]
    refine Sat.one ⟨rfl, rfl, rfl, ?_, fun k hk hS => ?_⟩ (by simp [Fact.foot]) (fun q hq => .inl hq) ⟨⟨by rw [flat_length], .inr ⟨G, cp, _, rfl, hg, hget, hnc, hcm, by rw [hps, hcs], ?_⟩⟩, fun i hi => rfl⟩
    · show w.heap.size ≤ ((Sort.putRow (Value.int .i64) (Sort.ahead w n) G 0 M.toArray).heap ++ os).size
      rw [hheap]
      simp
    · show ((Sort.putRow (Value.int .i64) (Sort.ahead w n) G 0 M.toArray).heap ++ os)[k]? = _
      rw [hheap, Array.getElem?_append_left (by simpa using hk), Array.getElem?_modify, if_neg (fun e => hS (by simp [e]))]
    · apply List.ext_getElem?
      intro k
      by_cases hk : k < L.length * 1
      · have h1 := flat_get (f := rowF (iL M)) (n := L.length) (sz := 1) (i := k) (j := 0) (by omega) (by omega)
        rw [Nat.mul_one, Nat.add_zero] at h1
        rw [h1, List.getElem?_take, if_pos hk]
        simp only [Sort.putCells, Array.getElem?_toList, Array.getElem?_mapIdx, Array.getElem?_eq_getElem (show k < cur.size by omega), Option.map_some]
        have hk2 : k < M.length := by omega
        rw [if_pos ⟨Nat.zero_le _, by simpa using hk2⟩]
        simp [rowF, iL, List.getD_eq_getElem?_getD, hk2]
      · rw [List.getElem?_eq_none (by rw [List.length_take]; omega), List.getElem?_eq_none (by rw [flat_length]; omega)]
end Go.Proofs.YtfaenhhgkhcghaaGreatDoor
namespace Go.Proofs.YtfaenhhgkhcghaaGreatDoor
set_option linter.all false
set_option linter.unusedVariables false
set_option linter.unusedSimpArgs false
open Go.RowKit
section
variable {c : Cx} {Q : Exit → Act → World → Prop} {F : Fr} {K K' : List Fact} {ops : Array Oper} {rest : List Oper} {d : Option Tmp} {ty : TypeId} {pos : String} {af : Array Edge} {g : Option (Nat × Bool)} {x y : Operand} {xt yt : TypeId}
theorem Pu.sl1 {j : Nat} (hx : ev F x = some (.int .i64 1) := by rfl) (hy : ev F y = some (.int .i64 (j : Int)) := by rfl) (hj : j ≤ 62 := by omega) : Pu c F K ⟨d, .binOp .shl xt x y yt, ty, pos, af, g⟩ (.int .i64 ((2 ^ j : Nat) : Int)) := Pu.bin hx hy fun w => by
 have h1 : (2 : Nat) ^ j ≤ 4611686018427387904 := Nat.le_trans (Nat.pow_le_pow_right (by omega) hj) (by decide)
 have h2 : ((2 ^ j : Nat) : Int) = 2 ^ j := by simp
 have h3 : Nat.min j 64 = j := by rw [show Nat.min j 64 = Min.min j 64 from rfl]; omega
 go_simp
 have h4 : (0 : Int) ≤ ((2 ^ j : Nat) : Int) := Int.natCast_nonneg _
 have h5 : ((2 ^ j : Nat) : Int) ≤ 4611686018427387904 := Int.ofNat_le.2 h1
 rw [← h2]
 generalize ((2 ^ j : Nat) : Int) = X at *
 exact IntWalk.i64_in _ (by omega)
theorem Pu.srN {b i : Nat} (hx : ev F x = some (.int .i64 (b : Int)) := by rfl) (hy : ev F y = some (.int .i64 (i : Int)) := by rfl) (hj : i ≤ 62 := by omega) : Pu c F K ⟨d, .binOp .shr xt x y yt, ty, pos, af, g⟩ (.int .i64 ((b / 2 ^ i : Nat) : Int)) := Pu.bin hx hy fun w => by
 go_simp
theorem bits_and1 {m : Nat} (hm : m ≤ 9223372036854775807) : bits .and .i64 (m : Int) 1 = ((m % 2 : Nat) : Int) := by
 have h1 : (BitVec.ofInt 64 (m : Int) &&& BitVec.ofInt 64 1).toNat = m % 2 := by
  rw [BitVec.toNat_and, BitVec.toNat_ofInt, BitVec.toNat_ofInt]
  have e1 : ((m : Int) % (2 ^ 64 : Nat)).toNat = m := by omega
  have e2 : ((1 : Int) % (2 ^ 64 : Nat)).toNat = 1 := by decide
  rw [e1, e2, Nat.and_one_is_mod]
 have h2 : bits .and .i64 (m : Int) 1 = IntKind.i64.wrap ((BitVec.ofInt 64 (m : Int) &&& BitVec.ofInt 64 1).toNat : Int) := rfl
 rw [h2, h1]
 exact IntWalk.i64_in _ (by omega)
theorem Pu.an1 {m : Nat} (hx : ev F x = some (.int .i64 (m : Int)) := by rfl) (hy : ev F y = some (.int .i64 1) := by rfl) (hm : m ≤ 9223372036854775807 := by omega) : Pu c F K ⟨d, .binOp .and xt x y yt, ty, pos, af, g⟩ (.int .i64 ((m % 2 : Nat) : Int)) := Pu.bin hx hy fun w => by
 have h := bits_and1 hm
 go_simp
theorem own_clear {z : Value} {E : TypeId} {G n cp : Nat} : ∀ (m q : Nat) (r : Nat → List Value) (w : World), q + m = n → OwnR w (some ⟨G, 0, none⟩) n cp E 1 r → OwnR (w.setCells G q (List.replicate m z)) (some ⟨G, 0, none⟩) n cp E 1 (fun k => if k < q then r k else [z]) ∧ Chg [G] w (w.setCells G q (List.replicate m z))
  | 0, q, r, w, hq, h => ⟨⟨h.own.congr fun i j hi hj => by simp only [rowF]; rw [if_pos (by omega)], fun i hi => by rw [if_pos (by omega)]; exact h.len i hi⟩, Chg.refl _ _⟩
  | m + 1, q, r, w, hq, h => by
    have hl := h.len q (by omega)
    have hset := h.own.set q 0 (by omega) (by omega) z
    rw [Nat.mul_one, Nat.add_zero] at hset
    have h2 : OwnR (w.setCell ⟨G, q, none⟩ z) (some ⟨G, 0, none⟩) n cp E 1 (updR r q [z]) := by
      refine ⟨hset.congr fun i j hi hj => ?_, fun i hi => ?_⟩
      · obtain rfl : j = 0 := by omega
        simp only [rowF, updR]
        by_cases h1 : i = q
        · subst h1; simp
        · simp [h1]
      · simp only [updR]; split
        · rfl
        · exact h.len i hi
    obtain ⟨h3, h4⟩ := own_clear m (q + 1) (updR r q [z]) _ (by omega) h2
    refine ⟨⟨h3.own.congr fun i j hi hj => ?_, fun i hi => ?_⟩, (Chg.setCell w ⟨G, q, none⟩ z).trans h4⟩
    · simp only [rowF, updR]
      by_cases h1 : i < q
      · rw [if_pos (by omega), if_neg (by omega), if_pos h1]
      · by_cases h5 : i = q
        · subst h5; rw [if_pos (by omega), if_pos rfl, if_neg h1]
        · rw [if_neg (by omega), if_neg h1]
    · have := h3.len i hi
      by_cases h1 : i < q
      · rw [if_pos h1]; exact h.len i hi
      · rw [if_neg h1]; rfl
theorem TL.clr {T E : TypeId} {A : Option Addr} {n cp q m cp2 : Nat} {r : Nat → List Value} {z : Value} {bytes : Nat} {dd : Option Tmp} (hT : ElemT c.P T E 1 bytes) (hz : ∀ w, (zeroValue E).run c.P w = .ok z w) (hzc : z.cells = #[z]) (h1 : z.oneCell' = true) (h : TL c ops Q rest (fput F dd (.tuple #[])) (.own A n cp E 1 (fun k => if k < q then r k else [z]) :: K'))
    (hx : ev F x = some (.slice (slA A cp 1 q) m cp2) := by rfl) (hp : Pick K (.own A n cp E 1 r) K' := by repeat (first | exact Pick.hd | apply Pick.tl)) (hq : q + m = n := by omega) (hd : dok dd c.n = true := by rfl) :
    TL c ops Q (⟨dd, .call { callee := .builtin .clear, args := #[x], argTypes := #[T] }, ty, pos, af, none⟩ :: rest) F K := fun a w hF hK => by
  have hs := hK.pick hp
  have hb : OwnR w A n cp E 1 r := hs.holds (.own A n cp E 1 r) (by simp)
  by_cases hm : m = 0
  · subst hm
    refine wpList_eff (v := .tuple #[]) rfl (w' := w) ?_ (h _ _ (hF.fput hd _) (hs.turn (Chg.refl _ _) (by cases A <;> simp [Fact.foot]) (fun b hb => .inl (by cases A <;> exact hb)) ?_))
    · simp only [execOp, resolve, invoke, List.map_toArray, List.map_cons, List.map_nil, hF.evl hx]
      cases slA A cp 1 q <;> simp [go_sem, Builtin.clear_, run_underlying hT.ht]
    · exact ⟨hb.own.congr fun i j hi hj => by simp only [rowF]; rw [if_pos (by omega)], fun i hi => by rw [if_pos (by omega)]; exact hb.len i hi⟩
  · obtain ⟨G, c', e, _, hg, hc, hcell, hfr⟩ := hb.own.form1 (by omega)
    injection e with e1 e2 e3
    subst e1 e3
    have eA : slA (some ⟨G, 0, none⟩) cp 1 q = some ⟨G, q, none⟩ := by
      unfold slA
      rw [if_neg (by omega), Option.map_some, add_plain, Nat.zero_add, Nat.mul_one]
    rw [eA] at hx
    obtain ⟨h3, h4⟩ := own_clear m q r w hq (z := z) hb
    refine wpList_eff (v := .tuple #[]) rfl (w' := w.setCells G q (List.replicate m z)) ?_ (h _ _ (hF.fput hd _) (hs.turn h4 (by simp [Fact.foot]) (fun b hb => .inl hb) h3))
    have hr := Lib.run_clear_slice (P := c.P) w T E ty z hT.ht hz hzc h1 G q m cp2 (by omega) (fun j hj => by have := hcell (q + j) 0 (by omega) (by omega); rw [Nat.mul_one, Nat.add_zero] at this; rw [this]; rfl) (fun j hj => hfr _)
    simp only [execOp, resolve, invoke, List.map_toArray, List.map_cons, List.map_nil, hF.evl hx]
    simp only [go_sem, builtin, Sem.run_bind, hr, Result.andThen_ok, Sem.run_pure]
end
end Go.Proofs.YtfaenhhgkhcghaaGreatDoor
namespace Go.Proofs.YtfaenhhgkhcghaaGreatDoor
set_option linter.all false
set_option linter.unusedVariables false
set_option linter.unusedSimpArgs false
structure HidT (p : Prop) : Prop where
 out : p
theorem hidT {p : Prop} (h : p) : HidT p := ⟨h⟩
end Go.Proofs.YtfaenhhgkhcghaaGreatDoor
