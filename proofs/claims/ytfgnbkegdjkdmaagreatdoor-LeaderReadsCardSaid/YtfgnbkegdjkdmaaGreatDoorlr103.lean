/-
  Part 3 of the proof of leaderReads_holds: declarations of several texts, in build order. No condition on a program.
-/
import Derived.Test.YtfgnbkegdjkdmaaGreatDoorlr102
import Derived.Laws.Strings
import Derived.Test.YtfgnbkegdjkdmaaGreatDoorlr101
import Derived.IntWalk
import Derived.MapKept
import Derived.Carry
import Derived.Lib.AppendZerosOnto
import Derived.Laws.OwnMore
import Derived.RangeFuncNested
import Derived.RangeFuncBound
import Derived.RangeFuncCalls
import Derived.RangeFuncLeaves
import Derived.OwnWalkIn
import Derived.TacticsInMore
import Derived.LoopNIn
import Derived.LoopIn
import Derived.OrdersIn
import Derived.Sort.Grow
import Derived.Lib.Strings
import Derived.Lib.SliceRun
namespace Go.Proofs.YtfgnbkegdjkdmaaGreatDoor
set_option linter.all false
set_option linter.unusedVariables false
set_option linter.unusedSimpArgs false
open Go.RowKit
section
variable {c : Cx} {Q : Exit → Act → World → Prop} {F F' : Fr} {K K' : List Fact} {ops : Array Oper} {rest : List Oper} {d : Option Tmp} {ty : TypeId} {pos : String} {af : Array Edge} {g : Option (Nat × Bool)} {nf k fuel : Nat} {pend : List (Nat × Oper)} {fl : List Fl} {listed : Array Bool} {bs : List Bool} {op : Op} {t : Nat}
theorem TL.p {v : Value} (hp : Pu c F K ⟨some t, op, ty, pos, af, none⟩ v) (h : TL c ops Q rest ((t, v) :: F) K) (hd : Nat.blt t c.n = true := by rfl) : TL c ops Q (⟨some t, op, ty, pos, af, none⟩ :: rest) F K := TL.pure hp hd h
theorem TL.gd {v : Value} (hp : Pu c F K ⟨some t, op, ty, pos, af, g⟩ v) (h : TL c ops Q rest ((t, v) :: F) K) (hg : gdB F ops g = some true := by rfl) (hd : Nat.blt t c.n = true := by rfl) : TL c ops Q (⟨some t, op, ty, pos, af, g⟩ :: rest) F K := TL.gpure hg hp hd h
theorem TL.gs (h : TL c ops Q rest ((t, undef) :: F) K) (hg : gdB F ops g = some false := by rfl) (hd : Nat.blt t c.n = true := by rfl) : TL c ops Q (⟨some t, op, ty, pos, af, g⟩ :: rest) F K := TL.gskip hg hd h
theorem TL.m {v : Nat → Value} {T : TypeId} {cs : List Value} (hm : Mk c F K ⟨d, op, ty, pos, af, none⟩ v T cs) (h : ∀ b, TL c ops Q rest (fput F d (v b)) (.blk b T cs :: K)) (hd : dok d c.n = true := by rfl) : TL c ops Q (⟨d, op, ty, pos, af, none⟩ :: rest) F K := TL.mk hm hd h
theorem RK.tk {v : Value} (hp : Pu c F K ⟨some t, op, ty, pos, af, g⟩ v) (h : RK c ops Q nf (k + 1) rest pend fl (listed.setIfInBounds k true) fuel ((t, v) :: F) K) (hk : takeB ops nf listed k = true := by kernel_rfl) (hg : gdB F (frontOf ops nf) g = some true := by rfl) (hd : Nat.blt t c.n = true := by rfl) :
    RK c ops Q nf k (⟨some t, op, ty, pos, af, g⟩ :: rest) pend fl listed (fuel + 1) F K := RK.take hk hg hp hd h
theorem WK.p {i : Nat} {v : Value} (hp : Pu c F K ⟨some t, op, ty, pos, af, g⟩ v) (h : WK c ops Q nf fl bs pend ((t, v) :: F) K) (hg : gdB F (frontOf ops nf) g = some true := by rfl) (hd : Nat.blt t c.n = true := by rfl) : WK c ops Q nf fl (true :: bs) ((i, ⟨some t, op, ty, pos, af, g⟩) :: pend) F K := WK.pure hg hp hd h
theorem WK.m {i : Nat} {v : Nat → Value} {T : TypeId} {cs : List Value} (hm : Mk c F K ⟨d, op, ty, pos, af, none⟩ v T cs) (h : ∀ b, WK c ops Q nf fl bs pend (fput F d (v b)) (.blk b T cs :: K)) (hd : dok d c.n = true := by rfl) : WK c ops Q nf fl (false :: bs) ((i, ⟨d, op, ty, pos, af, none⟩) :: pend) F K := WK.mk hm hd h
theorem RK.ch (bs : List Bool) (h : WK c ops Q nf fl bs pend F K) (hz : zrAll c.P fl) (hb : checkB2 (frontOf ops nf) listed (flagged bs pend) (keys fl) = true := by kernel_rfl) (hfu : decide ((flagged bs pend).length + fl.length ≤ fuel) = true := by kernel_rfl) : RK c ops Q nf k [] pend fl listed fuel F K := RK.chain bs hb hfu hz h
theorem TW.dw {id : Nat} {l : List Oper} (nf : Nat) (h : RK c l.toArray Q nf 0 (l.take nf) [] [] (Array.replicate nf false) nf F K) (hm : c.P.follows .mixedOrders = true := by rfl) (hT : tailOk l.toArray nf = true := by kernel_rfl) (hp : Pan Q := by (intro d _ _ _ _; cases d <;> exact Iff.rfl)) : TW c (.region id l.toArray true) Q F K := TW.draw nf hm hT hp h
theorem Pu.mv {x : Operand} {v : Value} (hx : ev F x = some v := by rfl) : Pu c F K ⟨d, .move x, ty, pos, af, g⟩ v := Pu.move hx
theorem Pu.as {x : Operand} {v : Value} (hx : ev F x = some v := by rfl) : Pu c F K ⟨d, .assign x, ty, pos, af, g⟩ v := Pu.assign hx
theorem Pu.ex {x : Operand} {vs : Array Value} {i : Nat} {v : Value} (hx : ev F x = some (.tuple vs) := by rfl) (hv : vs[i]? = some v := by rfl) : Pu c F K ⟨d, .extract x i, ty, pos, af, g⟩ v := Pu.extract hx hv
theorem Pu.fn {f : Fn} {xs ys : List Operand} {us vs : List Value} (hx : evs F xs = some us := by rfl) (hy : evs F ys = some vs := by rfl) : Pu c F K ⟨d, .makeFunc f xs.toArray ys.toArray, ty, pos, af, g⟩ (.func f us.toArray vs.toArray) := Pu.func hx hy
theorem Pu.ld {x : Operand} {T : TypeId} {q : Option Addr} {v : Value} (hT : Sc c.P T) (hx : ev F x = some (.pointer q) := by rfl) (hq : Cells c K q [v] := by first | exact Cells.blk (m := 1) (by repeat (first | exact Pick.hd | apply Pick.tl)) (by repeat (first | exact SubL.nil | apply SubL.take | apply SubL.drop)) | exact Cells.old (m := 1) (by assumption) (by first | exact Apart.nil | assumption) (by omega) (by repeat (first | exact SubL.nil | apply SubL.take | apply SubL.drop)) | exact Cells.own (m := 1) (by repeat (first | exact Pick.hd | apply Pick.tl)) (by omega) (by repeat (first | exact SubL.nil | apply SubL.take | apply SubL.drop))) :
    Pu c F K ⟨d, .load T x, ty, pos, af, g⟩ v := Pu.load hx hT hq
def CellsN (c : Cx) (K : List Fact) (q : Option Addr) (m : Nat) (vs : List Value) : Prop := Cells c K q vs ∧ vs.length = m
theorem CellsN.blk {b off m : Nat} {T : TypeId} {cs vs : List Value} (hp : Pick K (.blk b T cs) K') (hs : SubL cs off m vs) : CellsN c K (some ⟨b, off, none⟩) m vs := ⟨Cells.blk hp hs, hs.spec.1⟩
theorem CellsN.old {sz n i j m : Nat} {A : Option Addr} {r : Nat → List Value} {vs : List Value} (h : RdR c.w0 sz A n r) (hS : Apart c.S A) (hk : i < n) (hs : SubL (r i) j m vs) : CellsN c K (elA A i sz j) m vs := ⟨Cells.old h hS hk hs, hs.spec.1⟩
theorem CellsN.own {A : Option Addr} {n cp i j m : Nat} {E : TypeId} {sz : Nat} {r : Nat → List Value} {vs : List Value} (hp : Pick K (.own A n cp E sz r) K') (hk : i < n) (hs : SubL (r i) j m vs) : CellsN c K (elA A i sz j) m vs := ⟨Cells.own hp hk hs, hs.spec.1⟩
theorem Pu.lds {x : Operand} {T : TypeId} {m : Nat} {q : Option Addr} {vs : List Value} (hT : Ag c.P T m) (hx : ev F x = some (.pointer q) := by rfl) (hq : CellsN c K q m vs := by first | exact CellsN.blk (by repeat (first | exact Pick.hd | apply Pick.tl)) (by repeat (first | exact SubL.nil | apply SubL.take | apply SubL.drop)) | exact CellsN.old (by assumption) (by first | exact Apart.nil | assumption) (by omega) (by repeat (first | exact SubL.nil | apply SubL.take | apply SubL.drop)) | exact CellsN.own (by repeat (first | exact Pick.hd | apply Pick.tl)) (by omega) (by repeat (first | exact SubL.nil | apply SubL.take | apply SubL.drop))) :
    Pu c F K ⟨d, .load T x, ty, pos, af, g⟩ (.agg vs.toArray) := Pu.loads hx hT hq.1 hq.2
theorem Pu.nn {x : Operand} {v : Value} (hx : ev F x = some v := by rfl) (hv : notNil v = true := by rfl) : Pu c F K ⟨d, .nilCheck x, ty, pos, af, g⟩ v := Pu.nil hx hv
theorem Pu.fb {x : Operand} {T i o b off : Nat} (hf : FieldAt c.P T i o) (hx : ev F x = some (.pointer (some ⟨b, off, none⟩)) := by rfl) : Pu c F K ⟨d, .fieldAddr T x i, ty, pos, af, g⟩ (.pointer (some ⟨b, off + o, none⟩)) := Pu.fieldAt hx hf
theorem Pu.fe {x : Operand} {T i o j sz q : Nat} {A : Option Addr} (hf : FieldAt c.P T i o) (hx : ev F x = some (.pointer (elA A q sz j)) := by rfl) {vs : List Value} (hq : CellsN c K (elA A q sz j) 0 vs := by first | exact CellsN.old (by assumption) (by first | exact Apart.nil | assumption) (by omega) (by repeat (first | exact SubL.nil | apply SubL.take | apply SubL.drop)) | exact CellsN.own (by repeat (first | exact Pick.hd | apply Pick.tl)) (by omega) (by repeat (first | exact SubL.nil | apply SubL.take | apply SubL.drop))) : Pu c F K ⟨d, .fieldAddr T x i, ty, pos, af, g⟩ (.pointer (elA A q sz (j + o))) := Pu.fieldEl hx hf hq.1
theorem Pu.el {T E : TypeId} {sz bytes : Nat} {x y : Operand} {A : Option Addr} {n cp q : Nat} {kk : IntKind} {i : Int} (hT : ElemT c.P T E sz bytes) (hx : ev F x = some (.slice A n cp) := by rfl) (hy : ev F y = some (.int kk i) := by rfl) (hk : i.toNat = q := by first | exact tnS _ | exact Int.toNat_natCast _ | exact tnA _ _ | rfl) (h0 : 0 ≤ i := by omega) (h1 : i < n := by omega) {vs : List Value}
    (hA : CellsN c K (elA A q sz 0) 0 vs := by first | exact CellsN.old (by assumption) (by first | exact Apart.nil | assumption) (by omega) SubL.nil | exact CellsN.own (by repeat (first | exact Pick.hd | apply Pick.tl)) (by omega) SubL.nil) : Pu c F K ⟨d, .indexAddr T x y, ty, pos, af, g⟩ (.pointer (elA A q sz 0)) := Pu.elem hT hx hy hk h0 h1 hA.1
theorem Pu.ln {T E : TypeId} {x : Operand} {A : Option Addr} {n cp : Nat} (ht : c.P.underlying T = some (.slice E)) (hx : ev F x = some (.slice A n cp) := by rfl) : Pu c F K ⟨d, .call { callee := .builtin .len, args := #[x], argTypes := #[T] }, ty, pos, af, g⟩ (.int .i64 n) := Pu.len ht hx
section
variable {x y : Operand} {xt yt : TypeId} {i j : Int} {kk : IntKind}
theorem Pu.ad (hx : ev F x = some (.int .i64 i) := by rfl) (hy : ev F y = some (.int .i64 j) := by rfl) (h : -9223372036854775808 ≤ i + j ∧ i + j ≤ 9223372036854775807 := by omega) : Pu c F K ⟨d, .binOp .add xt x y yt, ty, pos, af, g⟩ (.int .i64 (i + j)) := Pu.add hx hy h
theorem Pu.sb (hx : ev F x = some (.int .i64 i) := by rfl) (hy : ev F y = some (.int .i64 j) := by rfl) (h : -9223372036854775808 ≤ i - j ∧ i - j ≤ 9223372036854775807 := by omega) : Pu c F K ⟨d, .binOp .sub xt x y yt, ty, pos, af, g⟩ (.int .i64 (i - j)) := Pu.sub hx hy h
theorem Pu.ml (hx : ev F x = some (.int .i64 i) := by rfl) (hy : ev F y = some (.int .i64 j) := by rfl) (h : -9223372036854775808 ≤ i * j ∧ i * j ≤ 9223372036854775807 := by omega) : Pu c F K ⟨d, .binOp .mul xt x y yt, ty, pos, af, g⟩ (.int .i64 (i * j)) := Pu.mul hx hy h
theorem Pu.lt (hx : ev F x = some (.int kk i) := by rfl) (hy : ev F y = some (.int kk j) := by rfl) : Pu c F K ⟨d, .binOp .lss xt x y yt, ty, pos, af, g⟩ (.bool (decide (i < j))) := Pu.lss hx hy
theorem Pu.le (hx : ev F x = some (.int kk i) := by rfl) (hy : ev F y = some (.int kk j) := by rfl) : Pu c F K ⟨d, .binOp .leq xt x y yt, ty, pos, af, g⟩ (.bool (decide (i ≤ j))) := Pu.leq hx hy
theorem Pu.gt (hx : ev F x = some (.int kk i) := by rfl) (hy : ev F y = some (.int kk j) := by rfl) : Pu c F K ⟨d, .binOp .gtr xt x y yt, ty, pos, af, g⟩ (.bool (decide (j < i))) := Pu.gtr hx hy
theorem Pu.ge (hx : ev F x = some (.int kk i) := by rfl) (hy : ev F y = some (.int kk j) := by rfl) : Pu c F K ⟨d, .binOp .geq xt x y yt, ty, pos, af, g⟩ (.bool (decide (j ≤ i))) := Pu.geq hx hy
theorem Pu.eq (hx : ev F x = some (.int kk i) := by rfl) (hy : ev F y = some (.int kk j) := by rfl) : Pu c F K ⟨d, .binOp .eql xt x y yt, ty, pos, af, g⟩ (.bool (decide (i = j))) := Pu.eql hx hy
theorem Pu.ne (hx : ev F x = some (.int kk i) := by rfl) (hy : ev F y = some (.int kk j) := by rfl) : Pu c F K ⟨d, .binOp .neq xt x y yt, ty, pos, af, g⟩ (.bool (!decide (i = j))) := Pu.neq hx hy
theorem Pu.no {b : Bool} (hx : ev F x = some (.bool b) := by rfl) : Pu c F K ⟨d, .unOp .not xt x, ty, pos, af, g⟩ (.bool !b) := Pu.not hx
theorem Pu.ng (hx : ev F x = some (.int .i64 i) := by rfl) (h : -9223372036854775807 ≤ i ∧ i ≤ 9223372036854775807 := by omega) : Pu c F K ⟨d, .unOp .neg xt x, ty, pos, af, g⟩ (.int .i64 (-i)) := Pu.neg hx h
theorem Pu.bn {op : BinOp} {u v r : Value} (hx : ev F x = some u := by rfl) (hy : ev F y = some v := by rfl) (hr : ∀ w, (do eqGuard op xt x y u v; binOp op xt u v : Sem Value).run c.P w = .ok r w := by (intro w; go_simp; rfl)) : Pu c F K ⟨d, .binOp op xt x y yt, ty, pos, af, g⟩ r := Pu.bin hx hy hr
theorem Pu.kt {z : Operand} {u : Value} (hz : ev F z = some (.bool true) := by rfl) (hx : ev F x = some u := by rfl) : Pu c F K ⟨d, .pick z x y, ty, pos, af, g⟩ u := Pu.pickT hz hx
theorem Pu.kf {z : Operand} {u : Value} (hz : ev F z = some (.bool false) := by rfl) (hy : ev F y = some u := by rfl) : Pu c F K ⟨d, .pick z x y, ty, pos, af, g⟩ u := Pu.pickF hz hy
end
theorem Pu.bd {T : TypeId} {ps : List (Nat × Operand)} {vs : List (Nat × Value)} {v : Value} (hx : evp F ps = some vs := by rfl) (hr : ∀ w, (Instr.build T vs.toArray).run c.P w = .ok v w := by (intro w; go_simp; rfl)) : Pu c F K ⟨d, .build T ps.toArray, ty, pos, af, g⟩ v := Pu.build hx hr
theorem Pu.cv {S T : TypeId} {x : Operand} {u v : Value} (hx : ev F x = some u := by rfl) (hr : ∀ w, (convert S T u).run c.P w = .ok v w := by (intro w; go_simp; rfl)) : Pu c F K ⟨d, .convert S T x, ty, pos, af, g⟩ v := Pu.conv hx hr
theorem Mk.al {T : TypeId} {zs : List Value} (hT : Zr c.P T zs) : Mk c F K ⟨d, .alloc T, ty, pos, af, g⟩ (fun b => .pointer (some ⟨b, 0, none⟩)) T zs := Mk.alloc hT
theorem Mk.bx {T : TypeId} {x : Operand} {v : Value} {vs : List Value} (hx : ev F x = some v := by rfl) (hv : v.cells = vs.toArray := by rfl) : Mk c F K ⟨d, .box T x, ty, pos, af, g⟩ (fun b => .pointer (some ⟨b, 0, none⟩)) T vs := Mk.box hx hv
theorem Mk.bl {T E : TypeId} {len : Nat} {ps : List (Nat × Operand)} {vs : List (Nat × Value)} {cs : List Value} (hx : evp F ps = some vs := by rfl) (hr : ∀ w, (Instr.buildSlice T len vs.toArray).run c.P w = .ok (.slice (some ⟨w.heap.size, 0, none⟩) len len) (w.alloc (.cells cs.toArray E)) := by (intro w; go_simp; rfl)) :
    Mk c F K ⟨d, .buildSlice T len ps.toArray, ty, pos, af, g⟩ (fun b => .slice (some ⟨b, 0, none⟩) len len) E cs := Mk.bslice hx hr
theorem TL.st {x y : Operand} {T : TypeId} {b off m : Nat} {v : Value} {vs cs cs' : List Value} {E : TypeId} (hT : Sz c.P T m) (h : TL c ops Q rest F (.blk b E cs' :: K')) (hx : ev F x = some (.pointer (some ⟨b, off, none⟩)) := by rfl) (hy : ev F y = some v := by rfl) (hv : v.cells = vs.toArray := by rfl) (h1 : vs.all Value.oneCell' = true := by rfl) (hm : vs.length = m := by rfl)
    (hp : Pick K (.blk b E cs) K' := by repeat (first | exact Pick.hd | apply Pick.tl)) (hput : PutL cs off vs cs' := by repeat (first | exact PutL.nil | apply PutL.put | apply PutL.pass)) : TL c ops Q (⟨none, .store T x y, ty, pos, af, none⟩ :: rest) F K := TL.store hx hy hv h1 hT hm hp hput h
theorem TL.ap {x y : Operand} {T E : TypeId} {sz bytes : Nat} {A A2 : Option Addr} {n cp m cp2 : Nat} {r s : Nat → List Value} (hT : ElemT c.P T E sz bytes) (h : ∀ A' cp', TL c ops Q rest (fput F d (.slice A' (n + m) cp')) (.own A' (n + m) cp' E sz (catR n r s) :: K')) (hx : ev F x = some (.slice A n cp) := by rfl) (hy : ev F y = some (.slice A2 m cp2) := by rfl) (hd : dok d c.n = true := by rfl)
    (hp : Pick K (.own A n cp E sz r) K' := by repeat (first | exact Pick.hd | apply Pick.tl)) (hsrc : Src c K sz A2 m s := by first | exact Src.blk1 (by repeat (first | exact Pick.hd | apply Pick.tl)) rfl | exact Src.old (by assumption) (by first | exact Apart.nil | assumption) | exact Src.own (by repeat (first | exact Pick.hd | apply Pick.tl))) (h1 : ∀ i, i < m → (s i).all Value.oneCell' = true := by first | (intro i hi; rfl) | assumption) (hm : n + m ≤ 1000000000 := by omega) (hby : bytes ≤ 10000 := by decide) :
    TL c ops Q (⟨d, .call { callee := .builtin .append, args := #[x, y], argTypes := #[T, T] }, ty, pos, af, none⟩ :: rest) F K := TL.app hT hx hy hd hp hsrc h1 hm hby h
theorem TL.cr {f : FuncId} {xs : List Operand} {ts : Array TypeId} {us : List Value} {v : Value} (hx : evs F xs = some us) (hen : Enters c.P f) (hc : ∀ w, Sat c.S c.w0 K w → Calls c.P f us.toArray w (Ret w v)) (h : TL c ops Q rest (fput F d v) K) (hg : gdB F ops g = some true := by rfl) (hd : dok d c.n = true := by rfl) :
    TL c ops Q (⟨d, .call { callee := .value (.func f), args := xs.toArray, argTypes := ts }, ty, pos, af, g⟩ :: rest) F K := TL.gcall hg hx hen hd hc h
theorem WK.cr {i : Nat} {f : FuncId} {xs : List Operand} {ts : Array TypeId} {us : List Value} {v : Value} (hx : evs F xs = some us) (hen : Enters c.P f) (hc : ∀ w, Sat c.S c.w0 K w → Calls c.P f us.toArray w (Ret w v)) (h : WK c ops Q nf fl bs pend (fput F d v) K) (hg : gdB F (frontOf ops nf) g = some true := by rfl) (hd : dok d c.n = true := by rfl) :
    WK c ops Q nf fl (false :: bs) ((i, ⟨d, .call { callee := .value (.func f), args := xs.toArray, argTypes := ts }, ty, pos, af, g⟩) :: pend) F K := WK.gcall hg hx hen hd hc h
theorem WK.n (h : FLK c ops Q nf fl F K) (hok : (fl.all fun f => Nat.blt f.d c.n) = true := by rfl) : WK c ops Q nf fl [] [] F K := WK.nil hok h
theorem RV.c1 {T : TypeId} {q : Option Addr} {v : Value} {rs : List ResultVar} {vs : List Value} (hT : Sc c.P T) (h : RV c F K rs vs) (hx : fget F t = some (.pointer q) := by rfl) (hq : CellsN c K q 1 [v] := by first | exact CellsN.blk (by repeat (first | exact Pick.hd | apply Pick.tl)) (by repeat (first | exact SubL.nil | apply SubL.take | apply SubL.drop))) : RV c F K (.cell t T :: rs) (v :: vs) := .cell hx hT hq.1 h
theorem RV.cs {m : Nat} {T : TypeId} {q : Option Addr} {us : List Value} {rs : List ResultVar} {vs : List Value} (hT : Ag c.P T m) (h : RV c F K rs vs) (hx : fget F t = some (.pointer q) := by rfl) (hq : CellsN c K q m us := by first | exact CellsN.blk (by repeat (first | exact Pick.hd | apply Pick.tl)) (by repeat (first | exact SubL.nil | apply SubL.take | apply SubL.drop))) : RV c F K (.cell t T :: rs) (.agg us.toArray :: vs) := .cells hx hT hq.1 hq.2 h
end
end Go.Proofs.YtfgnbkegdjkdmaaGreatDoor
namespace Go.Proofs.YtfgnbkegdjkdmaaGreatDoor
set_option linter.all false
set_option linter.unusedVariables false
set_option linter.unusedSimpArgs false
open Go.RowKit
def sv (l : List UInt8) : Value := .string ⟨l.toArray⟩
theorem ba_app {a b : List UInt8} : (⟨a.toArray⟩ : ByteArray) ++ ⟨b.toArray⟩ = ⟨(a ++ b).toArray⟩ := by
  rw [ByteArray.ext_iff, ByteArray.data_append]
  simp
theorem ba_size {a : List UInt8} : (⟨a.toArray⟩ : ByteArray).size = a.length := by
  show a.toArray.size = a.length
  exact List.size_toArray
theorem ba_list {a : List UInt8} : (⟨a.toArray⟩ : ByteArray).toList = a := by
  rw [ByteArray.toList_eq]
section
variable {c : Cx} {F : Fr} {K : List Fact} {d : Option Tmp} {ty xt yt : TypeId} {pos : String} {af : Array Edge} {g : Option (Nat × Bool)} {x y : Operand} {a b : List UInt8}
theorem Pu.sad (hx : ev F x = some (sv a) := by rfl) (hy : ev F y = some (sv b) := by rfl) (hl : a.length + b.length ≤ 9223372036854775807 := by first | omega | (simp only [List.length_append, List.length_cons, List.length_nil]; omega)) : Pu c F K ⟨d, .binOp .add xt x y yt, ty, pos, af, g⟩ (sv (a ++ b)) := Pu.bin hx hy fun w => by
  have h1 : ¬ ((((⟨a.toArray⟩ : ByteArray).size + (⟨b.toArray⟩ : ByteArray).size : Nat) : Int) > IntKind.i64.max) := by
    rw [ba_size, ba_size]
    show ¬ (((a.length + b.length : Nat) : Int) > 9223372036854775807)
    omega
  simp only [eqGuard, binOp, sv, Op.stringOp]
  rw [if_neg h1, ba_app]
  rfl
theorem Pu.sw {o : Oper} (h : Pu c F K o (sv a)) (e : a = b) : Pu c F K o (sv b) := e ▸ h
theorem Pu.seq_ (hx : ev F x = some (sv a) := by rfl) (hy : ev F y = some (sv b) := by rfl) : Pu c F K ⟨d, .binOp .eql xt x y yt, ty, pos, af, g⟩ (.bool (decide (a = b))) := Pu.bin hx hy fun w => by
  have h1 : (a == b) = decide (a = b) := by
    rw [Bool.eq_iff_iff, decide_eq_true_eq, beq_iff_eq]
  simp only [eqGuard, binOp, sv, Op.stringOp, ba_list]
  rw [h1]
  rfl
theorem Pu.sne (hx : ev F x = some (sv a) := by rfl) (hy : ev F y = some (sv b) := by rfl) : Pu c F K ⟨d, .binOp .neq xt x y yt, ty, pos, af, g⟩ (.bool (!decide (a = b))) := Pu.bin hx hy fun w => by
  have h1 : (a == b) = decide (a = b) := by
    rw [Bool.eq_iff_iff, decide_eq_true_eq, beq_iff_eq]
  simp only [eqGuard, binOp, sv, Op.stringOp, ba_list]
  rw [h1]
  rfl
theorem ba_get {a : List UInt8} {k : Nat} : (⟨a.toArray⟩ : ByteArray)[k]? = a[k]? := by
  show (if h : k < (⟨a.toArray⟩ : ByteArray).size then some ((⟨a.toArray⟩ : ByteArray)[k]'h) else none) = _
  by_cases h : k < a.length
  · rw [dif_pos (by rw [ba_size]; exact h), List.getElem?_eq_getElem h]
    rfl
  · rw [dif_neg (by rw [ba_size]; exact h), List.getElem?_eq_none (by omega)]
theorem Pu.sln {t : TypeId} (ht : c.P.underlying t = some .string) (hx : ev F x = some (sv a) := by rfl) : Pu c F K ⟨d, .call { callee := .builtin .len, args := #[x], argTypes := #[t] }, ty, pos, af, g⟩ (.int .i64 (a.length : Int)) := fun w1 w hF _ => by
  simp [execOp, resolve, invoke, builtin, Builtin.len_, hF.evl hx, run_underlying ht, goInt, sv, ba_size]
theorem Pu.six {t : TypeId} {i : Int} {k : Nat} {u : UInt8} (ht : c.P.underlying t = some .string) (hb : a[k]? = some u) (hx : ev F x = some (sv a) := by rfl) (hy : ev F y = some (.int .i64 i) := by rfl) (hk : i.toNat = k := by rfl) (h0 : 0 ≤ i := by omega) : Pu c F K ⟨d, .index t x y, ty, pos, af, g⟩ (.int .u8 (u.toNat : Int)) := fun w1 w hF _ => by
  subst hk
  simp [execOp, Instr.index, asIntOf, hF.evl hx, hF.evl hy, run_underlying ht, sv, h0, ba_get, hb]
end
end Go.Proofs.YtfgnbkegdjkdmaaGreatDoor
namespace Go.Proofs.YtfgnbkegdjkdmaaGreatDoor
set_option linter.all false
set_option linter.unusedVariables false
set_option linter.unusedSimpArgs false
open Go.RowKit
inductive Drop (F : Fr) : List Fact → List Fact → Prop
  | done {K : List Fact} : Drop F K K
  | blk {K K1 K0 : List Fact} {b o : Nat} {T : TypeId} {cs : List Value} (x : Nat) : fget F x = some (.pointer (some ⟨b, o, none⟩)) → Pick K (.blk b T cs) K1 → Drop F K1 K0 → Drop F K K0
  | own {K K1 K0 : List Fact} {A : Option Addr} {n cp sz : Nat} {E : TypeId} {r : Nat → List Value} (x : Nat) : fget F x = some (.slice A n cp) → Pick K (.own A n cp E sz r) K1 → Drop F K1 K0 → Drop F K K0
theorem KSub.refl : ∀ K : List Fact, KSub K K
  | [] => .nil
  | _ :: K => .cons .hd (KSub.refl K)
def Has (K K0 : List Fact) : Prop := ∃ R, K.Perm (K0 ++ R)
theorem Has.sat {S : List Nat} {w0 w : World} {K K0 : List Fact} (h : Has K K0) (hs : Sat S w0 K w) : Sat S w0 K0 w := by
  obtain ⟨R, hp⟩ := h
  have h1 := hs.perm hp
  refine ⟨h1.chg, (List.nodup_append.1 (feet_append K0 R ▸ h1.nd)).1, fun b hb => h1.ge b (by rw [feet_append]; simp [hb]), fun φ hφ => h1.holds φ (by simp [hφ])⟩
inductive HasL : List Fact → List Fact → Prop
  | nil {K : List Fact} : HasL K []
  | cons {K K1 L : List Fact} {φ : Fact} : Pick K φ K1 → HasL K1 L → HasL K (φ :: L)
theorem HasL.has {K L : List Fact} (h : HasL K L) : Has K L := by
  induction h with
  | @nil K => exact ⟨K, by simp⟩
  | cons hp _ ih => obtain ⟨R, hR⟩ := ih; exact ⟨R, hp.perm.trans (hR.cons _)⟩
section
variable {c : Cx} {Q : Exit → Act → World → Prop} {F F' : Fr} {K K' K0 : List Fact} {ops : Array Oper} {rest : List Oper} {d : Option Tmp} {ty : TypeId} {pos : String} {af : Array Edge} {g : Option (Nat × Bool)} {k fuel t : Nat} {pend : List (Nat × Oper)} {listed : Array Bool} {op : Op}
theorem Pu.qu {x y : Operand} {xt yt : TypeId} {i j : Int} (hx : ev F x = some (.int .i64 i) := by rfl) (hy : ev F y = some (.int .i64 j) := by rfl) (h0 : 0 ≤ i ∧ i ≤ 9223372036854775807 ∧ 0 < j := by omega) : Pu c F K ⟨d, .binOp .quo xt x y yt, ty, pos, af, g⟩ (.int .i64 (i / j)) := Pu.bin hx hy fun w => by
  obtain ⟨h0, h1, h2⟩ := h0
  have hj : j ≠ 0 := by omega
  have e : i.tdiv j = i / j := Int.tdiv_eq_ediv_of_nonneg h0
  have h3 : 0 ≤ i / j := Int.ediv_nonneg h0 (by omega)
  have h4 : i / j ≤ i := Int.ediv_le_self j h0
  simp only [eqGuard, binOp, Op.intDiv, hj, if_false, e, IntWalk.i64_in (i / j) (by omega)]
  rfl
theorem Pu.rm {x y : Operand} {xt yt : TypeId} {i j : Int} (hx : ev F x = some (.int .i64 i) := by rfl) (hy : ev F y = some (.int .i64 j) := by rfl) (h0 : 0 ≤ i ∧ 0 < j := by omega) : Pu c F K ⟨d, .binOp .rem xt x y yt, ty, pos, af, g⟩ (.int .i64 (i % j)) := Pu.bin hx hy fun w => by
  obtain ⟨h0, h2⟩ := h0
  have hj : j ≠ 0 := by omega
  have e : i.tmod j = i % j := Int.tmod_eq_emod_of_nonneg h0
  simp only [eqGuard, binOp, Op.intDiv, hj, if_false, e]
  rfl
def takeA (ops : Array Oper) (l : Array Bool) (i : Nat) : Bool := Region.noSelect ops && Region.free .any ops l i && (Region.ready .any ops l).contains i
def RG (c : Cx) (ops : Array Oper) (Q : Exit → Act → World → Prop) (K0 : List Fact) (pend : List (Nat × Oper)) (listed : Array Bool) (fuel : Nat) (F : Fr) (K : List Fact) : Prop :=
  (∀ p ∈ pend, ops[p.1]? = some p.2) → ∀ a w, FS c.n c.D F a → Sat c.S c.w0 K w → wpAnyH c.P .any ops Q (Sat c.S c.w0 K0) fuel listed a w
theorem RG.nil (h : TQ c Q .normal F K) (hr : (Region.ready .any ops listed).isEmpty = true := by kernel_rfl) : RG c ops Q K0 [] listed fuel F K := fun _ a w hF hK => wpAnyH_done (List.isEmpty_iff.1 hr) (h a w hF hK) fuel
def nxt (Z : Act → World → Prop) (Q : Exit → Act → World → Prop) : Exit → Act → World → Prop
  | .normal, a, w => Z a w
  | e, a, w => Q e a w
theorem TQ.nxt {Z : Act → World → Prop} (h : TQ c (fun _ => Z) .normal F K) : TQ c (nxt Z Q) .normal F K := h
end
end Go.Proofs.YtfgnbkegdjkdmaaGreatDoor
namespace Go.Proofs.YtfgnbkegdjkdmaaGreatDoor
set_option linter.all false
set_option linter.unusedVariables false
set_option linter.unusedSimpArgs false
open Go.RowKit Go.Lib
theorem retI {a b : Int} (h : a = b) : Ending.returned (.int .i64 a) = .returned (.int .i64 b) := by rw [h]
theorem u8_bd (b : UInt8) : b.toNat ≤ 255 := by have := b.toNat_lt; omega
set_option maxRecDepth 100000 in
theorem step_any {s : Nat} {b : UInt8} (hs : s < 8191) (w : World) : Calls Tryz.prog 47 #[.int .i64 (s : Int), .int .u8 (b.toNat : Int)] w (Ret w (.int .i64 (ckB s b : Int))) := by
  have hb := u8_bd b
  refine K_enter (S := []) (K := []) Tryz.func47 rfl Tryz.ntmps47 rfl (Sat.start _) ?_
  refine TW.seq fun Y1 hY1 => ?_
  refine TW.region ?_
  refine TL.p Pu.as ?_
  refine TL.nil ?_
  refine TQ.thenN (hY1 _ _ ?_)
  refine TW.seq fun Y2 hY2 => ?_
  refine TW.region ?_
  refine TL.p Pu.mv ?_
  refine TL.p Pu.ml ?_
  refine TL.p Pu.mv ?_
  refine TL.p (Pu.cv (v := .int .i64 (b.toNat : Int)) rfl (fun w => by go_simp; rw [IntWalk.i64_in (b.toNat : Int) (by omega)])) ?_
  refine TL.p Pu.ad ?_
  refine TL.p Pu.rm ?_
  refine TL.p Pu.as ?_
  refine TL.nil ?_
  refine TQ.thenN (hY2 _ _ ?_)
  refine TW.ret ?_
  refine TQ.ret Tryz.results47 rfl ((.tmp rfl .nil)) ?_
  exact fun w hw => ⟨retI (by unfold ckB; omega), Chg.ext hw.chg⟩
set_option maxRecDepth 100000 in
theorem sum_any {t : List UInt8} (ht : t.length ≤ 1000000000) (w : World) : Calls Tryz.prog 32 #[sv t] w (Ret w (.int .i64 (ckL 23 t : Int))) := by
  refine K_enter (S := []) (K := []) Tryz.func32 rfl Tryz.ntmps32 rfl (Sat.start _) ?_
  refine TW.seq fun Y1 hY1 => ?_
  refine TW.region ?_
  refine TL.p Pu.as ?_
  refine TL.nil ?_
  refine TQ.thenN (hY1 _ _ ?_)
  refine TW.seq fun Y2 hY2 => ?_
  refine TW.region ?_
  refine TL.p Pu.as ?_
  refine TL.nil ?_
  refine TQ.thenN (hY2 _ _ ?_)
  refine TW.seq fun Y3 hY3 => ?_
  refine TW.seq fun Y4 hY4 => ?_
  refine TW.region ?_
  refine TL.p Pu.as ?_
  refine TL.nil ?_
  refine TQ.thenN (hY4 _ _ ?_)
  refine TW.block ?_
  refine TW.loop1 (fun (k : Nat) => [(4, .int .i64 (k : Int)), (3, .int .i64 (ckL 23 (t.take k) : Int)), (0, sv t)]) (fun k => []) (fun k => k ≤ t.length) (fun k => t.length - k) 0 (by repeat (first | exact trivial | refine ⟨rfl, ?_⟩ | refine ⟨trivial, ?_⟩)) ?_ ?_ ?_
  · exact (by repeat (first | exact KSub.nil | refine KSub.cons (by repeat (first | exact Pick.hd | apply Pick.tl)) ?_))
  · exact Nat.zero_le _
  rintro k hk Z0 hZ0
  have hck : ckL 23 (t.take k) < 8191 := ckL_lt (by decide)
  refine TW.seq fun Y5 hY5 => ?_
  refine TW.seq fun Y6 hY6 => ?_
  refine TW.region ?_
  refine TL.p Pu.mv ?_
  refine TL.p Pu.mv ?_
  refine TL.p (Pu.sln Tryz.underlying9) ?_
  refine TL.p Pu.lt ?_
  refine TL.nil ?_
  refine TQ.thenN (hY6 _ _ ?_)
  refine TW.cond rfl (fun hc0 => ?_) (fun hc0 => ?_)
  · try simp only [decide_eq_true_eq, decide_eq_false_iff_not, Bool.not_eq_true', Bool.not_eq_false', Bool.and_eq_true, Bool.or_eq_true, Bool.and_eq_false_iff, Bool.or_eq_false_iff, Int.not_lt, Int.not_le] at hc0
    have hkl : k < t.length := by omega
    have hg : t[k]? = some t[k] := List.getElem?_eq_getElem hkl
    have hst : ckB (ckL 23 (t.take k)) t[k] = ckL 23 (t.take (k + 1)) := by rw [List.take_succ, hg]; exact ckL_snoc.symm
    refine TW.skip ?_
    refine TQ.thenN (hY5 _ _ ?_)
    refine TW.seq fun Y7 hY7 => ?_
    refine TW.block ?_
    refine TW.region ?_
    refine TL.p Pu.mv ?_
    refine TL.p Pu.mv ?_
    refine TL.p Pu.mv ?_
    refine TL.p (Pu.six Tryz.underlying9 hg) ?_
    refine TL.cr rfl (enters Tryz.func47 rfl rfl) (fun w hw => by
        have h9 := step_any (b := t[k]) hck
        rw [hst] at h9
        exact h9 _) ?_
    refine TL.p Pu.as ?_
    refine TL.nil ?_
    refine TQ.blkN ?_
    refine TQ.thenN (hY7 _ _ ?_)
    refine TW.region ?_
    refine TL.p Pu.mv ?_
    refine TL.p Pu.ad ?_
    refine TL.p Pu.as ?_
    refine TL.nil ?_
    refine TQ.thenN (hZ0 (k + 1) _ _ ?_ ?_ (by repeat (first | exact trivial | refine ⟨rfl, ?_⟩ | refine ⟨trivial, ?_⟩)) ?_)
    · exact (by omega)
    · exact (by first | omega | (simp only []; omega) | (simp; omega))
    · exact (by repeat (first | exact KSub.nil | refine KSub.cons (by repeat (first | exact Pick.hd | apply Pick.tl)) ?_))
  · try simp only [decide_eq_true_eq, decide_eq_false_iff_not, Bool.not_eq_true', Bool.not_eq_false', Bool.and_eq_true, Bool.or_eq_true, Bool.and_eq_false_iff, Bool.or_eq_false_iff, Int.not_lt, Int.not_le] at hc0
    obtain rfl : k = t.length := by omega
    refine TW.exit ?_
    refine TQ.thenX ?_
    refine TQ.thenX ?_
    refine TQ.blkX ?_
    refine TQ.thenN (hY3 _ _ ?_)
    refine TW.seq fun Y8 hY8 => ?_
    refine TW.region ?_
    refine TL.p Pu.mv ?_
    refine TL.p Pu.as ?_
    refine TL.nil ?_
    refine TQ.thenN (hY8 _ _ ?_)
    refine TW.ret ?_
    refine TQ.ret Tryz.results32 rfl ((.tmp rfl .nil)) ?_
    exact fun w hw => ⟨retI (by rw [List.take_length]), Chg.ext hw.chg⟩
end Go.Proofs.YtfgnbkegdjkdmaaGreatDoor
namespace Go.Proofs.YtfgnbkegdjkdmaaGreatDoor
set_option linter.all false
set_option linter.unusedVariables false
set_option linter.unusedSimpArgs false
open Go.RowKit
section
variable {c : Cx} {Q : Exit → Act → World → Prop} {F F' : Fr} {K K' K0 : List Fact} {ops : Array Oper} {rest : List Oper} {d : Option Tmp} {ty : TypeId} {pos : String} {af : Array Edge} {g : Option (Nat × Bool)} {k fuel t nf : Nat} {pend : List (Nat × Oper)} {listed : Array Bool} {bs : List Bool} {fl : List Fl} {op : Op}
theorem wpList_yes' {P : Program} {o : Oper} {v : Value} {a : Act} {w w' : World} (hg : Region.wanted o (yielded ops a.tmps) = true) (hr : (execOp a.eval o).run P w = .ok (.value v) w') (h : wpList P ops Q rest (a.put o.dst v) w') : wpList P ops Q (o :: rest) a w := by
  unfold wpList
  rw [if_pos hg]
  exact .inl (by unfold Oper.wp; rw [hr]; exact h)
theorem TL.gm {v : Nat → Value} {T : TypeId} {cs : List Value} (hm : Mk c F K ⟨d, op, ty, pos, af, g⟩ v T cs) (h : ∀ b, TL c ops Q rest (fput F d (v b)) (.blk b T cs :: K)) (hg : gdB F ops g = some true := by rfl) (hd : dok d c.n = true := by rfl) : TL c ops Q (⟨d, op, ty, pos, af, g⟩ :: rest) F K := fun a w hF hK =>
  wpList_yes' (hF.wanted hg) (hm a w hF hK) (h _ _ _ (hF.fput hd _) (hK.new T cs))
theorem run_callv {P : Program} {f : FuncId} {fs us cs : List Value} {w : World} {x : Operand} {xs : List Operand} {ts : Array TypeId} {o : Oper} {ρ : Operand → Value} (hf : ρ x = .func (.func f) fs.toArray cs.toArray) (hx : xs.map ρ = us) (hen : Enters P f) (ho : o.op = .call { callee := .value x, args := xs.toArray, argTypes := ts }) :
    (execOp ρ o).run P w = .ok (.enter f (fs ++ us ++ cs).toArray) w := by
  have h9 := hen (fs ++ us ++ cs).toArray w
  have e : fs.toArray ++ us.toArray ++ cs.toArray = (fs ++ us ++ cs).toArray := by simp
  simp only [execOp, ho, resolve, hf, Deferred.ofValue, List.map_toArray, hx, Sem.run_bind, Sem.run_pure, Result.andThen_ok, invoke, e]
  exact h9
theorem TL.cvk {f : FuncId} {x : Operand} {xs : List Operand} {ts : Array TypeId} {us fs cs : List Value} {M : List Fact} {X : Type} {val : X → Value} {L : X → List Fact} (hf : ev F x = some (.func (.func f) fs.toArray cs.toArray)) (hx : evs F xs = some us) (hen : Enters c.P f) (hM : K.Perm (M ++ K'))
    (hc : ∀ w, Sat c.S c.w0 K w → CallsK c.P f (fs ++ us ++ cs).toArray M w X val L) (h : ∀ x, TL c ops Q rest (fput F d (val x)) (L x ++ K')) (hd : dok d c.n = true := by rfl) : TL c ops Q (⟨d, .call { callee := .value x, args := xs.toArray, argTypes := ts }, ty, pos, af, none⟩ :: rest) F K := fun a w hF hK =>
  wpList_plain rfl fun Z hZ => by
    unfold Oper.wp
    rw [run_callv (hF.evl hf) (hF.evsl hx) hen rfl]
    refine Calls.mono (hc w hK) ?_
    rintro e w' ⟨x, rfl, hs⟩
    exact hZ _ _ (h x _ _ (hF.fput hd _) ((hK.perm hM).step hs))
def OldB (w0 : World) (b : Nat) (cs : List Value) : Prop := b < w0.heap.size ∧ ∀ j v, cs[j]? = some v → w0.cell? ⟨b, j, none⟩ = some v
theorem CellsN.ob {b off m : Nat} {cs vs : List Value} (h : OldB c.w0 b cs) (hS : Apart c.S (some ⟨b, 0, none⟩)) (hs : SubL cs off m vs) : CellsN c K (some ⟨b, off, none⟩) m vs := ⟨fun w hK => ⟨b, off, rfl, fun j v hv => by
  rw [hK.chg.cell h.1 (hS b rfl)]
  exact h.2 _ _ (hs.spec.2 j v hv)⟩, hs.spec.1⟩
theorem OldB.of_blk {w0 : World} {b : Nat} {T : TypeId} {cs : List Value} (h : Blk w0 b T cs.toArray) : OldB w0 b cs := ⟨h.lt, fun j v hv => by rw [h.cell]; simpa using hv⟩
theorem OldB.ext {w w' : World} {b : Nat} {cs : List Value} (h : OldB w b cs) (he : Below w.heap.size w w') : OldB w' b cs := ⟨Nat.lt_of_lt_of_le h.1 he.size, fun j v hv => by rw [he.cell (p := ⟨b, j, none⟩) h.1]; exact h.2 j v hv⟩
theorem Pu.ldo {x : Operand} {T : TypeId} {q : Option Addr} {v : Value} (hT : Sc c.P T) (hx : ev F x = some (.pointer q) := by rfl) (hq : CellsN c K q 1 [v] := by exact CellsN.ob (by assumption) (by first | exact Apart.nil | assumption) (by repeat (first | exact SubL.nil | apply SubL.take | apply SubL.drop))) : Pu c F K ⟨d, .load T x, ty, pos, af, g⟩ v := Pu.load hx hT hq.1
end
theorem Rd.chg {w w' : World} {S : List Nat} {sz n : Nat} {A : Option Addr} {f : Nat → Nat → Value} (h : Rd w sz A n f) (hc : Chg S w w') (hA : Apart S A) : Rd w' sz A n f := fun hn => by
  obtain ⟨b, o, rfl, hb, hcell⟩ := h hn
  exact ⟨b, o, rfl, Nat.lt_of_lt_of_le hb hc.size, fun i j hi hj => by rw [hc.cell hb (hA b rfl)]; exact hcell i j hi hj⟩
theorem RdR.chg {w w' : World} {S : List Nat} {sz n : Nat} {A : Option Addr} {r : Nat → List Value} (h : RdR w sz A n r) (hc : Chg S w w') (hA : Apart S A) : RdR w' sz A n r := ⟨h.rd.chg hc hA, h.len⟩
theorem RdR.sat {w w' : World} {S : List Nat} {K : List Fact} {sz n : Nat} {A : Option Addr} {r : Nat → List Value} (h : RdR w sz A n r) (hs : Sat S w K w') (hA : Apart S A) : RdR w' sz A n r := h.chg hs.chg hA
theorem RdR.sat0 {w w' : World} {S : List Nat} {K : List Fact} {sz n : Nat} {A : Option Addr} {r : Nat → List Value} (h : RdR w sz A n r) (hs : Sat S w K w') (hA : 0 < n → Apart S A) : RdR w' sz A n r :=
  ⟨fun hn => h.rd.chg hs.chg (hA hn) hn, h.len⟩
theorem Sat.self {S : List Nat} {w0 w : World} {K : List Fact} (h : Sat S w0 K w) : Sat (feet K) w K w := ⟨Chg.refl _ _, h.nd, fun _ hb => .inl hb, h.holds⟩
theorem Sat.from {S T : List Nat} {w0 w1 w : World} {K : List Fact} (h : Sat T w1 K w) (hc : Chg S w0 w1) (hT : ∀ b ∈ T, b ∈ S ∨ w0.heap.size ≤ b) : Sat S w0 K w :=
  ⟨⟨h.chg.os.trans hc.os, h.chg.tape.trans hc.tape, h.chg.output.trans hc.output, Nat.le_trans hc.size h.chg.size, fun i hi hS => (h.chg.block i (Nat.lt_of_lt_of_le hi hc.size) (fun hm => by
      rcases hT i hm with h1 | h1
      · exact hS h1
      · omega)).trans (hc.block i hi hS)⟩, h.nd, fun b hb => by
    rcases h.ge b hb with h1 | h1
    · exact hT b h1
    · exact .inr (Nat.le_trans hc.size h1), h.holds⟩
theorem CallsK.retOf {P : Program} {f : FuncId} {args : Array Value} {w : World} {X : Type} {val : X → Value} {v : Value} (h : CallsK P f args [] w X val (fun _ => [])) (hv : ∀ x, val x = v) : Calls P f args w (Ret w v) :=
  Calls.mono h fun e w' ⟨x, he, hs⟩ => ⟨by rw [he, hv x], Chg.ext hs.chg⟩
section
variable {c : Cx} {Q : Exit → Act → World → Prop} {F F' : Fr} {K K' K0 : List Fact} {ops : Array Oper} {listed : Array Bool} {fuel : Nat}
def RGo (c : Cx) (ops : Array Oper) (Q : Exit → Act → World → Prop) (K0 : List Fact) (listed : Array Bool) (fuel : Nat) (F : Fr) (K : List Fact) (i : Nat) (o : Oper) : Prop :=
  ∀ Z : Act → World → Prop, (∀ F2 K2, HasL K2 K0 → RG c ops Q K0 [] (listed.setIfInBounds i true) fuel F2 K2 → TQ c (fun _ => Z) .normal F2 K2) → TL c ops (nxt Z Q) [o] F K
theorem RG.all {l : List Nat} (hr : Region.ready .any ops listed = l) (hne : l ≠ []) (h : ∀ i ∈ l, ∃ o, ops[i]? = some o ∧ RGo c ops Q K0 listed fuel F K i o) : RG c ops Q K0 [] listed (fuel + 1) F K := fun _ a w hF hK => by
  refine wpAnyH_all hr hne fun j hj => ?_
  obtain ⟨o, ho, h⟩ := h j hj
  have h1 := h (fun a' w' => Sat c.S c.w0 K0 w' ∧ wpAnyH c.P .any ops Q (Sat c.S c.w0 K0) fuel (listed.setIfInBounds j true) a' w') (fun F2 K2 hh hg a' w' hF2 hK2 => ⟨hh.has.sat hK2, hg (fun p hp => by cases hp) a' w' hF2 hK2⟩) a w hF hK
  unfold wpList at h1
  unfold wpOp
  simp only [ho]
  split
  · rename_i hw
    rw [if_pos hw] at h1
    rcases h1 with h1 | ⟨hA, hL⟩
    · refine .inl ?_
      unfold Oper.wp at *
      generalize (execOp a.eval o).run c.P w = r at *
      cases r with
      | ok x w' =>
        cases x <;> simp only [Oper.upon] at h1 ⊢ <;> first
          | exact h1
          | exact Calls.mono h1 (fun e w'' he => by
              cases e with
              | returned v => exact he
              | panicked ch => exact he
              | outgrown => obtain ⟨x, y, z⟩ := he; exact ⟨x, y, z⟩)
          | exact Rows.mono h1 (fun _ _ he => he)
      | halt x w' => cases x <;> simp only [Oper.upon] at h1 ⊢ <;> exact h1
    · obtain ⟨x, y, z⟩ := hL
      exact .inr ⟨hA, x, y, z⟩
  · rename_i hw
    rw [if_neg hw] at h1
    exact h1
theorem RG.a1 (i : Nat) {o : Oper} (ho : ops[i]? = some o) (h : RGo c ops Q K0 listed fuel F K i o) (hr : Region.ready .any ops listed = [i] := by kernel_rfl) : RG c ops Q K0 [] listed (fuel + 1) F K :=
  RG.all hr (by simp) fun j hj => by
    simp only [List.mem_singleton] at hj; subst hj; exact ⟨o, ho, h⟩
theorem RG.a2 (i j : Nat) {o o' : Oper} (ho : ops[i]? = some o) (ho' : ops[j]? = some o') (h : RGo c ops Q K0 listed fuel F K i o) (h' : RGo c ops Q K0 listed fuel F K j o') (hr : Region.ready .any ops listed = [i, j] := by kernel_rfl) : RG c ops Q K0 [] listed (fuel + 1) F K :=
  RG.all hr (by simp) fun k hk => by
    simp only [List.mem_cons, List.not_mem_nil, or_false] at hk
    rcases hk with rfl | rfl
    · exact ⟨o, ho, h⟩
    · exact ⟨o', ho', h'⟩
theorem RG.tk (i : Nat) {op : Op} {ty : TypeId} {pos : String} {af : Array Edge} {g : Option (Nat × Bool)} {t : Nat} {v : Value} (ho : ops[i]? = some ⟨some t, op, ty, pos, af, g⟩) (hp : Pu c F K0 ⟨some t, op, ty, pos, af, g⟩ v) (h : RG c ops Q K0 [] (listed.setIfInBounds i true) fuel ((t, v) :: F) K) (hh : HasL K K0 := by repeat (first | exact HasL.nil | refine HasL.cons (by repeat (first | exact Pick.hd | apply Pick.tl)) ?_)) (hk : takeA ops listed i = true := by kernel_rfl) (hg : gdB F ops g = some true := by rfl) (hd : Nat.blt t c.n = true := by rfl) (hpan : Pan Q := by (intro d _ _ _ _; cases d <;> exact Iff.rfl)) :
    RG c ops Q K0 [] listed (fuel + 1) F K := fun h1 a w hF hK => by
  simp only [takeA, Bool.and_eq_true] at hk
  exact wpAnyH_take ho hk.1.1 hk.1.2 hk.2 (fun ch a w h => (hpan _ v ch a w).1 h) (.inl ⟨hF.wanted hg, fun w' hS => hp a w' hF hS⟩) (hh.has.sat hK) (h h1 _ w (hF.put hd v) hK)
theorem TW.ex0 {id : Nat} {l : List Oper} (hd : Drop F K K0) (h2 : RG c l.toArray Q K0 [] (Array.replicate l.length false) l.length F K) (hm : c.P.follows .mixedOrders = true := by rfl) : TW c (.region id l.toArray true) Q F K := fun a w hF hK => by
  refine wp_region_any hm (wpAny_of_held (S := Sat c.S c.w0 K0) _ _ _ _ ?_)
  rw [List.size_toArray]
  exact h2 (fun p hp => by cases hp) a w.drew hF (hK.ext (keep_drew w))
end
theorem zcb9 : (∀ (p : Prop) [Decidable p], (decide p = true) = p) ∧ (∀ (p : Prop) [Decidable p], decide p = false ↔ ¬p) ∧ (∀ b, ((!b) = true) = (b = false)) ∧ (∀ b, ((!b) = false) = (b = true)) ∧ (∀ a b : Bool, ((a && b) = true) = (a = true ∧ b = true)) ∧ (∀ a b : Bool, ((a || b) = true) = (a = true ∨ b = true)) ∧ (∀ a b : Bool, (a && b) = false ↔ a = false ∨ b = false) ∧ (∀ a b : Bool, (a || b) = false ↔ a = false ∧ b = false) ∧ (∀ a b : Int, ¬a < b ↔ b ≤ a) ∧ (∀ a b : Int, ¬a ≤ b ↔ b < a) :=
  ⟨@decide_eq_true_eq, @decide_eq_false_iff_not, Bool.not_eq_true', Bool.not_eq_false', Bool.and_eq_true, Bool.or_eq_true, @Bool.and_eq_false_iff, @Bool.or_eq_false_iff, @Int.not_lt, @Int.not_le⟩
theorem zom9 {p : Prop} (h : p := by first | omega | (simp only []; omega) | (simp; omega)) : p := h
theorem pk9 {K K2 : List Fact} {φ : Fact} (h : Pick K φ K2 := by repeat (first | exact Pick.hd | apply Pick.tl)) : Pick K φ K2 := h
theorem fs9 {F G : Fr} (h : fsub F G := by repeat (first | exact trivial | refine ⟨rfl, ?_⟩ | refine ⟨trivial, ?_⟩)) : fsub F G := h
theorem ks9 {K L : List Fact} (h : KSub K L := by repeat (first | exact KSub.nil | refine KSub.cons (by repeat (first | exact Pick.hd | apply Pick.tl)) ?_)) : KSub K L := h
theorem hl9 {K L : List Fact} (h : HasL K L := by repeat (first | exact HasL.nil | refine HasL.cons (by repeat (first | exact Pick.hd | apply Pick.tl)) ?_)) : HasL K L := h
end Go.Proofs.YtfgnbkegdjkdmaaGreatDoor
namespace Go.Proofs.YtfgnbkegdjkdmaaGreatDoor
set_option linter.all false
set_option linter.unusedVariables false
set_option linter.unusedSimpArgs false
open Go.RowKit Go.MapKept
section
variable {c : Cx} {Q : Exit → Act → World → Prop} {F F' : Fr} {K K' K0 : List Fact} {ops : Array Oper} {rest : List Oper} {d : Option Tmp} {ty : TypeId} {pos : String} {af : Array Edge} {g : Option (Nat × Bool)} {k fuel t nf : Nat} {pend : List (Nat × Oper)} {listed : Array Bool} {bs : List Bool} {fl : List Fl} {op : Op}
theorem Sat.newObj {S : List Nat} {w0 w : World} (h : Sat S w0 K w) (o : Obj) (ho : o.isCells = false) : Sat S w0 (.obj w.heap.size o :: K) (w.alloc o) :=
 h.add (L := [_]) (Sat.one (Chg.of_ext ((Below.refl _ _).alloc (Nat.le_refl _) _)) (by simp [Fact.foot]) (fun b hb => by simp [Fact.foot] at hb; subst hb; exact .inr (Nat.le_refl _)) ⟨(heap_alloc w o).1, ho⟩)
end
end Go.Proofs.YtfgnbkegdjkdmaaGreatDoor
namespace Go.Proofs.YtfgnbkegdjkdmaaGreatDoor
set_option linter.all false
set_option linter.unusedVariables false
set_option linter.unusedSimpArgs false
open Go.RowKit
section
variable {c : Cx} {Q : Exit → Act → World → Prop} {F F' : Fr} {K K' K0 : List Fact} {ops : Array Oper} {rest : List Oper} {d : Option Tmp} {ty : TypeId} {pos : String} {af : Array Edge} {g : Option (Nat × Bool)} {t : Nat}
theorem Pu.sh {T E : TypeId} {sz bytes : Nat} {x y : Operand} {A : Option Addr} {n cp q : Nat} {i : Int} (hT : ElemT c.P T E sz bytes) (hx : ev F x = some (.slice A n cp) := by rfl) (hy : ev F y = some (.int .i64 i) := by rfl) (hk : i.toNat = q := by first | exact tnS _ | exact Int.toNat_natCast _ | rfl) (h0 : 0 ≤ i := by omega) (h1 : i ≤ cp := by omega) : Pu c F K ⟨d, .slice T x none (some y) none, ty, pos, af, g⟩ (.slice A q cp) := fun a w hF _ => by
 obtain ⟨i', z, hi, hz, hs, hb, hzs⟩ := hT.hi
 have hsz : (sizeOf E).run c.P w = .ok sz w := by simp [sizeOf, typeInfo, hi, hs]
 have hA : A.map (fun x => x.add 0) = A := by
  cases A with
  | none => rfl
  | some p => simp [Addr.add]
 subst hk
 simp [execOp, Instr.sliceAt, Instr.slice, hF.evl hx, hF.evl hy, run_underlying hT.ht, Instr.sliceBounds, Instr.sliceBound, asIntOf, h0, h1, hsz, hA]
end
end Go.Proofs.YtfgnbkegdjkdmaaGreatDoor
namespace Go.Proofs.YtfgnbkegdjkdmaaGreatDoor
set_option linter.all false
set_option linter.unusedVariables false
set_option linter.unusedSimpArgs false
open Go.RowKit
theorem ty_i3 : (Tryz.prog.info? 3).map (fun i => (i.zero, i.size, i.bytes)) = some (some (.int .i64 0), 1, 8) := by kernel_rfl
theorem ty_sz3 : Sz Tryz.prog 3 1 := fun w => by obtain ⟨i, h1, h2, h3, h4⟩ := info_parts ty_i3; simp [sizeOf, typeInfo, h1, h3]
theorem ty_zr3 : Zr Tryz.prog 3 [.int .i64 0] := ⟨.int .i64 0, rfl, fun w => by obtain ⟨i, h1, h2, h3, h4⟩ := info_parts ty_i3; simp [zeroValue, typeInfo, h1, h2]⟩
theorem ty_sc3 : Sc Tryz.prog 3 := fun w => by simp [isAgg, run_underlying Tryz.underlying3]
theorem ty_i4 : (Tryz.prog.info? 4).map (fun i => (i.zero, i.size, i.bytes)) = some (some (.bool false), 1, 1) := by kernel_rfl
theorem ty_sz4 : Sz Tryz.prog 4 1 := fun w => by obtain ⟨i, h1, h2, h3, h4⟩ := info_parts ty_i4; simp [sizeOf, typeInfo, h1, h3]
theorem ty_sc4 : Sc Tryz.prog 4 := fun w => by simp [isAgg, run_underlying Tryz.underlying4]
theorem ty_i5 : (Tryz.prog.info? 5).map (fun i => (i.zero, i.size, i.bytes)) = some (some (.int .u8 0), 1, 1) := by kernel_rfl
theorem ty_sc5 : Sc Tryz.prog 5 := fun w => by simp [isAgg, run_underlying Tryz.underlying5]
theorem ty_i9 : (Tryz.prog.info? 9).map (fun i => (i.zero, i.size, i.bytes)) = some (some (.string ⟨#[]⟩), 1, 16) := by kernel_rfl
theorem ty_sz9 : Sz Tryz.prog 9 1 := fun w => by obtain ⟨i, h1, h2, h3, h4⟩ := info_parts ty_i9; simp [sizeOf, typeInfo, h1, h3]
theorem ty_sc9 : Sc Tryz.prog 9 := fun w => by simp [isAgg, run_underlying Tryz.underlying9]
theorem ty_i22 : (Tryz.prog.info? 22).map (fun i => (i.zero, i.size, i.bytes)) = some (some (.slice none 0 0), 1, 24) := by kernel_rfl
theorem ty_sz22 : Sz Tryz.prog 22 1 := fun w => by obtain ⟨i, h1, h2, h3, h4⟩ := info_parts ty_i22; simp [sizeOf, typeInfo, h1, h3]
theorem ty_sc22 : Sc Tryz.prog 22 := fun w => by simp [isAgg, run_underlying Tryz.underlying22]
theorem ty_i23 : (Tryz.prog.info? 23).map (fun i => (i.zero, i.size, i.bytes)) = some (some (.slice none 0 0), 1, 24) := by kernel_rfl
theorem ty_sz23 : Sz Tryz.prog 23 1 := fun w => by obtain ⟨i, h1, h2, h3, h4⟩ := info_parts ty_i23; simp [sizeOf, typeInfo, h1, h3]
theorem ty_sc23 : Sc Tryz.prog 23 := fun w => by simp [isAgg, run_underlying Tryz.underlying23]
theorem ty_i25 : (Tryz.prog.info? 25).map (fun i => (i.zero, i.size, i.bytes)) = some (some (.agg #[.slice none 0 0, .slice none 0 0]), 2, 48) := by kernel_rfl
theorem ty_sz25 : Sz Tryz.prog 25 2 := fun w => by obtain ⟨i, h1, h2, h3, h4⟩ := info_parts ty_i25; simp [sizeOf, typeInfo, h1, h3]
theorem ty_zr25 : Zr Tryz.prog 25 [.slice none 0 0, .slice none 0 0] := ⟨.agg #[.slice none 0 0, .slice none 0 0], rfl, fun w => by obtain ⟨i, h1, h2, h3, h4⟩ := info_parts ty_i25; simp [zeroValue, typeInfo, h1, h2]⟩
theorem ty_ag25 : Ag Tryz.prog 25 2 := ⟨fun w => by simp [isAgg, run_underlying Tryz.underlying25], ty_sz25⟩
theorem ty_fa25_0 : FieldAt Tryz.prog 25 0 0 := fieldAt_of 0 0 22 1 Tryz.underlying25 (by kernel_rfl) ty_sz22 (by kernel_rfl)
theorem ty_fa25_1 : FieldAt Tryz.prog 25 1 1 := fieldAt_of 1 1 23 1 Tryz.underlying25 (by kernel_rfl) ty_sz23 (by kernel_rfl)
theorem ty_i31 : (Tryz.prog.info? 31).map (fun i => (i.zero, i.size, i.bytes)) = some (some (.slice none 0 0), 1, 24) := by kernel_rfl
theorem ty_sz31 : Sz Tryz.prog 31 1 := fun w => by obtain ⟨i, h1, h2, h3, h4⟩ := info_parts ty_i31; simp [sizeOf, typeInfo, h1, h3]
theorem ty_zr31 : Zr Tryz.prog 31 [.slice none 0 0] := ⟨.slice none 0 0, rfl, fun w => by obtain ⟨i, h1, h2, h3, h4⟩ := info_parts ty_i31; simp [zeroValue, typeInfo, h1, h2]⟩
theorem ty_sc31 : Sc Tryz.prog 31 := fun w => by simp [isAgg, run_underlying Tryz.underlying31]
theorem ty_i42 : (Tryz.prog.info? 42).map (fun i => (i.zero, i.size, i.bytes)) = some (some (.slice none 0 0), 1, 24) := by kernel_rfl
theorem ty_sz42 : Sz Tryz.prog 42 1 := fun w => by obtain ⟨i, h1, h2, h3, h4⟩ := info_parts ty_i42; simp [sizeOf, typeInfo, h1, h3]
theorem ty_sc42 : Sc Tryz.prog 42 := fun w => by simp [isAgg, run_underlying Tryz.underlying42]
theorem ty_i46 : (Tryz.prog.info? 46).map (fun i => (i.zero, i.size, i.bytes)) = some (some (.agg #[.int .i64 0, .int .i64 0]), 2, 16) := by kernel_rfl
theorem ty_sz46 : Sz Tryz.prog 46 2 := fun w => by obtain ⟨i, h1, h2, h3, h4⟩ := info_parts ty_i46; simp [sizeOf, typeInfo, h1, h3]
theorem ty_zr46 : Zr Tryz.prog 46 [.int .i64 0, .int .i64 0] := ⟨.agg #[.int .i64 0, .int .i64 0], rfl, fun w => by obtain ⟨i, h1, h2, h3, h4⟩ := info_parts ty_i46; simp [zeroValue, typeInfo, h1, h2]⟩
theorem ty_ag46 : Ag Tryz.prog 46 2 := ⟨fun w => by simp [isAgg, run_underlying Tryz.underlying46], ty_sz46⟩
theorem ty_i48 : (Tryz.prog.info? 48).map (fun i => (i.zero, i.size, i.bytes)) = some (some (.agg #[.int .i64 0, .int .i64 0, .int .i64 0, .int .i64 0, .int .i64 0, .int .i64 0, .int .i64 0, .int .i64 0, .int .i64 0, .int .i64 0, .int .i64 0, .int .i64 0, .int .i64 0, .int .i64 0]), 14, 112) := by kernel_rfl
theorem ty_sz48 : Sz Tryz.prog 48 14 := fun w => by obtain ⟨i, h1, h2, h3, h4⟩ := info_parts ty_i48; simp [sizeOf, typeInfo, h1, h3]
theorem ty_zr48 : Zr Tryz.prog 48 [.int .i64 0, .int .i64 0, .int .i64 0, .int .i64 0, .int .i64 0, .int .i64 0, .int .i64 0, .int .i64 0, .int .i64 0, .int .i64 0, .int .i64 0, .int .i64 0, .int .i64 0, .int .i64 0] := ⟨.agg #[.int .i64 0, .int .i64 0, .int .i64 0, .int .i64 0, .int .i64 0, .int .i64 0, .int .i64 0, .int .i64 0, .int .i64 0, .int .i64 0, .int .i64 0, .int .i64 0, .int .i64 0, .int .i64 0], rfl, fun w => by obtain ⟨i, h1, h2, h3, h4⟩ := info_parts ty_i48; simp [zeroValue, typeInfo, h1, h2]⟩
theorem ty_ag48 : Ag Tryz.prog 48 14 := ⟨fun w => by simp [isAgg, run_underlying Tryz.underlying48], ty_sz48⟩
theorem ty_i51 : (Tryz.prog.info? 51).map (fun i => (i.zero, i.size, i.bytes)) = some (some (.agg #[.int .i64 0, .int .i64 0, .int .u8 0, .int .i64 0, .int .i64 0, .int .i64 0, .int .i64 0, .bool false]), 8, 64) := by kernel_rfl
theorem ty_sz51 : Sz Tryz.prog 51 8 := fun w => by obtain ⟨i, h1, h2, h3, h4⟩ := info_parts ty_i51; simp [sizeOf, typeInfo, h1, h3]
theorem ty_zr51 : Zr Tryz.prog 51 [.int .i64 0, .int .i64 0, .int .u8 0, .int .i64 0, .int .i64 0, .int .i64 0, .int .i64 0, .bool false] := ⟨.agg #[.int .i64 0, .int .i64 0, .int .u8 0, .int .i64 0, .int .i64 0, .int .i64 0, .int .i64 0, .bool false], rfl, fun w => by obtain ⟨i, h1, h2, h3, h4⟩ := info_parts ty_i51; simp [zeroValue, typeInfo, h1, h2]⟩
theorem ty_ag51 : Ag Tryz.prog 51 8 := ⟨fun w => by simp [isAgg, run_underlying Tryz.underlying51], ty_sz51⟩
theorem ty_fa57_0 : FieldAt Tryz.prog 57 0 0 := fieldAt_of 0 0 25 2 Tryz.underlying57 (by kernel_rfl) ty_sz25 (by kernel_rfl)
theorem ty_fa57_1 : FieldAt Tryz.prog 57 1 2 := fieldAt_of 1 2 31 1 Tryz.underlying57 (by kernel_rfl) ty_sz31 (by kernel_rfl)
theorem ty_fa57_2 : FieldAt Tryz.prog 57 2 3 := fieldAt_of 2 3 4 1 Tryz.underlying57 (by kernel_rfl) ty_sz4 (by kernel_rfl)
theorem ty_i62 : (Tryz.prog.info? 62).map (fun i => (i.zero, i.size, i.bytes)) = some (some (.agg #[.int .i64 0, .string ⟨#[]⟩, .slice none 0 0]), 3, 48) := by kernel_rfl
theorem ty_fa62_0 : FieldAt Tryz.prog 62 0 0 := fieldAt_of 0 0 3 1 Tryz.underlying62 (by kernel_rfl) ty_sz3 (by kernel_rfl)
theorem ty_fa62_1 : FieldAt Tryz.prog 62 1 1 := fieldAt_of 1 1 9 1 Tryz.underlying62 (by kernel_rfl) ty_sz9 (by kernel_rfl)
theorem ty_fa62_2 : FieldAt Tryz.prog 62 2 2 := fieldAt_of 2 2 42 1 Tryz.underlying62 (by kernel_rfl) ty_sz42 (by kernel_rfl)
theorem ty_i85 : (Tryz.prog.info? 85).map (fun i => (i.zero, i.size, i.bytes)) = some (some (.agg #[.int .i64 0, .int .i64 0]), 2, 16) := by kernel_rfl
theorem ty_fa85_0 : FieldAt Tryz.prog 85 0 0 := fieldAt_of 0 0 3 1 Tryz.underlying85 (by kernel_rfl) ty_sz3 (by kernel_rfl)
theorem ty_fa85_1 : FieldAt Tryz.prog 85 1 1 := fieldAt_of 1 1 3 1 Tryz.underlying85 (by kernel_rfl) ty_sz3 (by kernel_rfl)
theorem ty_i90 : (Tryz.prog.info? 90).map (fun i => (i.zero, i.size, i.bytes)) = some (some (.agg #[.int .i64 0, .nilFunc]), 2, 16) := by kernel_rfl
theorem ty_sz90 : Sz Tryz.prog 90 2 := fun w => by obtain ⟨i, h1, h2, h3, h4⟩ := info_parts ty_i90; simp [sizeOf, typeInfo, h1, h3]
theorem ty_zr90 : Zr Tryz.prog 90 [.int .i64 0, .nilFunc] := ⟨.agg #[.int .i64 0, .nilFunc], rfl, fun w => by obtain ⟨i, h1, h2, h3, h4⟩ := info_parts ty_i90; simp [zeroValue, typeInfo, h1, h2]⟩
theorem ty_fa90_0 : FieldAt Tryz.prog 90 0 0 := fieldAt_of 0 0 3 1 Tryz.underlying90 (by kernel_rfl) ty_sz3 (by kernel_rfl)
theorem ty_et22 : ElemT Tryz.prog 22 48 14 112 := elemT (z := .agg #[.int .i64 0, .int .i64 0, .int .i64 0, .int .i64 0, .int .i64 0, .int .i64 0, .int .i64 0, .int .i64 0, .int .i64 0, .int .i64 0, .int .i64 0, .int .i64 0, .int .i64 0, .int .i64 0]) Tryz.underlying22 ty_i48 rfl (by decide)
theorem ty_et23 : ElemT Tryz.prog 23 51 8 64 := elemT (z := .agg #[.int .i64 0, .int .i64 0, .int .u8 0, .int .i64 0, .int .i64 0, .int .i64 0, .int .i64 0, .bool false]) Tryz.underlying23 ty_i51 rfl (by decide)
theorem ty_et31 : ElemT Tryz.prog 31 62 3 48 := elemT (z := .agg #[.int .i64 0, .string ⟨#[]⟩, .slice none 0 0]) Tryz.underlying31 ty_i62 rfl (by decide)
theorem ty_et41 : ElemT Tryz.prog 41 9 1 16 := elemT (z := .string ⟨#[]⟩) Tryz.underlying41 ty_i9 rfl (by decide)
theorem ty_et42 : ElemT Tryz.prog 42 3 1 8 := elemT (z := .int .i64 0) Tryz.underlying42 ty_i3 rfl (by decide)
theorem ty_et80 : ElemT Tryz.prog 80 85 2 16 := elemT (z := .agg #[.int .i64 0, .int .i64 0]) Tryz.underlying80 ty_i85 rfl (by decide)
theorem ty_et94 : ElemT Tryz.prog 94 5 1 1 := elemT (z := .int .u8 0) Tryz.underlying94 ty_i5 rfl (by decide)
theorem ty_zv90 : ∀ w, (zeroValue 90).run Tryz.prog w = .ok (.agg #[.int .i64 0, .nilFunc]) w := fun w => by obtain ⟨i, h1, h2, h3, h4⟩ := info_parts ty_i90; simp [zeroValue, typeInfo, h1, h2]
end Go.Proofs.YtfgnbkegdjkdmaaGreatDoor
namespace Go.Proofs.YtfgnbkegdjkdmaaGreatDoor
set_option linter.all false
set_option linter.unusedVariables false
set_option linter.unusedSimpArgs false
open Go.RowKit
section
variable {c : Cx} {Q : Exit → Act → World → Prop} {F F' : Fr} {K K' : List Fact} {ops : Array Oper} {rest : List Oper} {d : Option Tmp} {ty : TypeId} {pos : String} {af : Array Edge} {g : Option (Nat × Bool)} {nf : Nat} {pend : List (Nat × Oper)} {fl : List Fl} {bs : List Bool}
variable {K0 : List Fact} {listed : Array Bool} {fuel : Nat} {op : Op} {t : Nat}
theorem TW.ex0k {id : Nat} {l : List Oper} (K0 : List Fact) (h2 : RG c l.toArray Q K0 [] (Array.replicate l.length false) l.length F K) (hm : c.P.follows .mixedOrders = true := by rfl) : TW c (.region id l.toArray true) Q F K := fun a w hF hK => by
 refine wp_region_any hm (wpAny_of_held (S := Sat c.S c.w0 K0) _ _ _ _ ?_)
 rw [List.size_toArray]
 exact h2 (fun p hp => by cases hp) a w.drew hF (hK.ext (keep_drew w))
theorem RG.guard {b : Bool} (ht : fget F t = some (.bool b)) (h1 : b = true → RG c ops Q K0 [] listed fuel ((t, .bool true) :: F) K) (h2 : b = false → RG c ops Q K0 [] listed fuel ((t, .bool false) :: F) K) : RG c ops Q K0 [] listed fuel F K := fun hp a w hF hK => by
 have key : ∀ b', b = b' → FS c.n c.D ((t, .bool b') :: F) a := fun b' e => ⟨hF.size, hF.dfs, fun u v hv => by
   subst e
   simp only [fget] at hv
   cases hb : Nat.beq t u with
   | true => rw [hb] at hv; have := beq_iff.1 hb; subst this; injection hv with hv; subst hv; exact hF.get _ _ ht
   | false => rw [hb] at hv; exact hF.get _ _ hv⟩
 cases hb : b
 · exact h2 hb hp a w (key _ hb) hK
 · exact h1 hb hp a w (key _ hb) hK
theorem RG.ts (i : Nat) (ho : ops[i]? = some ⟨some t, op, ty, pos, af, g⟩) (h : RG c ops Q K0 [] (listed.setIfInBounds i true) fuel ((t, undef) :: F) K) (hh : HasL K K0 := by repeat (first | exact HasL.nil | refine HasL.cons pk9 ?_)) (hk : takeA ops listed i = true := by kernel_rfl) (hg : gdB F ops g = some false := by rfl) (hd : Nat.blt t c.n = true := by rfl) (hpan : Pan Q := by (intro d _ _ _ _; cases d <;> exact Iff.rfl)) :
    RG c ops Q K0 [] listed (fuel + 1) F K := fun h1 a w hF hK => by
  simp only [takeA, Bool.and_eq_true] at hk
  exact wpAnyH_take ho hk.1.1 hk.1.2 hk.2 (fun ch a w h => (hpan _ undef ch a w).1 h) (.inr ⟨hF.wanted hg, rfl⟩) (hh.has.sat hK) (h h1 _ w (hF.put hd undef) hK)
end
end Go.Proofs.YtfgnbkegdjkdmaaGreatDoor
namespace Go.Proofs.YtfgnbkegdjkdmaaGreatDoor
set_option linter.all false
set_option linter.unusedVariables false
set_option linter.unusedSimpArgs false
open Go.RowKit
section
variable {c : Cx} {Q : Exit → Act → World → Prop} {F : Fr} {K K' : List Fact} {ops : Array Oper} {rest : List Oper} {d : Option Tmp} {ty : TypeId} {pos : String} {af : Array Edge} {g : Option (Nat × Bool)} {nf : Nat} {fl : List Fl} {bs : List Bool} {pend : List (Nat × Oper)}
def slA (A : Option Addr) (cp sz q : Nat) : Option Addr := if cp = q then A else A.map fun a => a.add (q * sz)
theorem Pu.sf {T E : TypeId} {sz bytes : Nat} {x y : Operand} {A : Option Addr} {n cp q : Nat} {i : Int} (hT : ElemT c.P T E sz bytes) (hx : ev F x = some (.slice A n cp) := by rfl) (hy : ev F y = some (.int .i64 i) := by rfl) (hk : i.toNat = q := by first | exact tnS _ | exact Int.toNat_natCast _ | rfl) (h0 : 0 ≤ i := by omega) (h1 : i ≤ n := by omega) : Pu c F K ⟨d, .slice T x (some y) none none, ty, pos, af, g⟩ (.slice (slA A cp sz q) (n - q) (cp - q)) := fun a w hF _ => by
 obtain ⟨i', z, hi, hz, hs, hb, hzs⟩ := hT.hi
 have hsz : (sizeOf E).run c.P w = .ok sz w := by simp [sizeOf, typeInfo, hi, hs]
 subst hk
 simp [execOp, Instr.sliceAt, Instr.slice, hF.evl hx, hF.evl hy, run_underlying hT.ht, Instr.sliceBounds, Instr.sliceBound, asIntOf, h0, h1, hsz, slA]
end
theorem RdR.tail {w : World} {sz n cp q : Nat} {A : Option Addr} {r : Nat → List Value} (h : RdR w sz A n r) (hn : n ≤ cp) (hq : q ≤ n) : RdR w sz (slA A cp sz q) (n - q) (fun k => r (q + k)) := by
  refine ⟨fun h0 => ?_, fun i hi => h.len _ (by omega)⟩
  obtain ⟨b, off, rfl, h2, h3⟩ := h.rd (by omega)
  refine ⟨b, off + q * sz, ?_, h2, fun i j hi hj => ?_⟩
  · unfold slA
    rw [if_neg (by omega), Option.map_some, add_plain]
  · have := h3 (q + i) j (by omega) hj
    rw [show off + q * sz + i * sz + j = off + (q + i) * sz + j by rw [Nat.add_mul]; omega]
    exact this
end Go.Proofs.YtfgnbkegdjkdmaaGreatDoor
namespace Go.Proofs.YtfgnbkegdjkdmaaGreatDoor
set_option linter.all false
set_option linter.unusedVariables false
set_option linter.unusedSimpArgs false
open Go.RowKit
def inB5 (lo hi a : Int) : Bool := decide (lo ≤ a) && decide (a ≤ hi)
def Fst (p : Nat → Bool) (n : Nat) : Type := { k : Nat // k ≤ n ∧ (∀ j, j < k → p j = false) ∧ (k < n → p k = true) }
def aft (n k : Nat) : Nat := if k < n then k + 1 else n
theorem Fst.any {p : Nat → Bool} {n : Nat} (x : Fst p n) : decide (x.1 < n) = (List.range n).any p := by
 obtain ⟨k, h1, h2, h3⟩ := x
 by_cases h : k < n
 · have : (List.range n).any p = true := List.any_eq_true.2 ⟨k, List.mem_range.2 h, h3 h⟩
   rw [this]; simpa using h
 · have : (List.range n).any p = false := by
    rw [List.any_eq_false]
    intro j hj
    have := h2 j (by have := List.mem_range.1 hj; omega)
    simp [this]
   rw [this]; simpa using h
theorem RdR.blk {w : World} {b : Nat} {E : TypeId} {cs : List Value} {n sz : Nat} {r : Nat → List Value} (h : Blk w b E cs.toArray) (hr : flatR n r = cs) (hl : ∀ i, i < n → (r i).length = sz) (hz : Nat.blt 0 sz = true := by rfl) (hn : Nat.ble n 1000000 = true := by rfl) : RdR w sz (some ⟨b, 0, none⟩) n r :=
 (OwnR.of_blk h hr hl hz hn).rdr
end Go.Proofs.YtfgnbkegdjkdmaaGreatDoor
namespace Go.Proofs.YtfgnbkegdjkdmaaGreatDoor
set_option linter.all false
set_option linter.unusedVariables false
set_option linter.unusedSimpArgs false
open Go.RowKit
def iL (L : List Int) : Nat → List Value := fun k => [.int .i64 (L.getD k 0)]
theorem iL_lt {L : List Int} {k : Nat} (h : k < L.length) : L[k]? = some (L.getD k 0) := by
 rw [List.getD_eq_getElem?_getD, List.getElem?_eq_getElem h]
 rfl
theorem getD_app {L M : List Int} {k : Nat} : (L ++ M).getD k 0 = if k < L.length then L.getD k 0 else M.getD (k - L.length) 0 := by
 simp only [List.getD_eq_getElem?_getD]
 by_cases h : k < L.length
 · rw [if_pos h, List.getElem?_append_left h]
 · rw [if_neg h, List.getElem?_append_right (by omega)]
theorem iL_app {L L' : List Int} {m : Nat} {x : Int} {s : Nat → List Value} (hm : m = L.length) (hL : L' = L ++ [x]) (hs : s 0 = [.int .i64 x]) : ∀ i, i < m + 1 → catR m (iL L) s i = iL L' i := fun i hi => by
  subst hL
  simp only [catR, iL]
  rw [getD_app]
  by_cases h : i < m
  · rw [if_pos h, if_pos (by omega)]
  · obtain rfl : i = m := by omega
    rw [if_neg h, Nat.sub_self, hs, if_neg (by omega), hm, Nat.sub_self]
    rfl
theorem mem_getD {L : List Int} {k : Nat} (h : k < L.length) : L.getD k 0 ∈ L := by
 have := iL_lt h
 exact List.mem_of_getElem? this
end Go.Proofs.YtfgnbkegdjkdmaaGreatDoor
namespace Go.Proofs.YtfgnbkegdjkdmaaGreatDoor
set_option linter.all false
set_option linter.unusedVariables false
set_option linter.unusedSimpArgs false
theorem Pu.bv {c : Cx} {F : Fr} {K : List Fact} {o : Oper} {b b' : Bool} (h : Pu c F K o (.bool b)) (e : b = b') : Pu c F K o (.bool b') := e ▸ h
theorem Pu.iv {c : Cx} {F : Fr} {K : List Fact} {o : Oper} {a b : Int} {k : IntKind} (h : Pu c F K o (.int k a)) (e : a = b) : Pu c F K o (.int k b) := e ▸ h
end Go.Proofs.YtfgnbkegdjkdmaaGreatDoor
namespace Go.Proofs.YtfgnbkegdjkdmaaGreatDoor
set_option linter.all false
set_option linter.unusedVariables false
set_option linter.unusedSimpArgs false
open Go.RowKit Go.Lib
def rwL (f : Nat → Int) : List Value := [.int .i64 (f 0), .int .i64 (f 1), .int .i64 (f 2), .int .i64 (f 3), .int .i64 (f 4), .int .i64 (f 5), .int .i64 (f 6), .int .i64 (f 7), .int .i64 (f 8), .int .i64 (f 9), .int .i64 (f 10), .int .i64 (f 11), .int .i64 (f 12), .int .i64 (f 13)]
def ltL (x : Ltr) : List Value := [.int .i64 x.id, .int .i64 x.day, .int .u8 x.kind, .int .i64 x.who, .int .i64 x.other, .int .i64 x.animal, .int .i64 x.rials, .bool x.mouth]
def enL (e : Ent) (A : Option Addr) (c : Nat) : List Value := [.int .i64 e.day, sv e.word, .slice A e.args.length c]
def dgB (u : Nat) : UInt8 := UInt8.ofNat (48 + u)
theorem wrap_dig : ∀ k : Nat, k < 10 → IntKind.i32.wrap ((48 + k : Nat) : Int) = ((48 + k : Nat) : Int) := by decide
theorem enc_dig : ∀ k : Nat, k < 10 → Utf8.encode ((48 + k : Nat) : Int) = ⟨[dgB k].toArray⟩
 | 0, _ => rfl
 | 1, _ => rfl
 | 2, _ => rfl
 | 3, _ => rfl
 | 4, _ => rfl
 | 5, _ => rfl
 | 6, _ => rfl
 | 7, _ => rfl
 | 8, _ => rfl
 | 9, _ => rfl
 | k + 10, h => by omega
end Go.Proofs.YtfgnbkegdjkdmaaGreatDoor
namespace Go.Proofs.YtfgnbkegdjkdmaaGreatDoor
set_option linter.all false
set_option linter.unusedVariables false
set_option linter.unusedSimpArgs false
open Go.RowKit Go.Lib
theorem dec_len22 {u : Nat} (h : u ≤ 1000000000000000) : (decDigits u).length ≤ 21 := by
 have := itoa_length_le (u : Int) (by omega) (by omega)
 unfold itoa at this
 rw [if_neg (by omega), Int.toNat_natCast] at this
 exact this
set_option maxRecDepth 100000 in
theorem numberW_any : ∀ (u : Nat), u ≤ 1000000000000000 → ∀ w : World, Calls Tryz.prog 45 #[.int .i64 (u : Int)] w (Ret w (sv (decDigits u))) := by
 intro u
 induction u using Nat.strongRecOn with
 | _ u ih =>
 intro hu w
 refine K_enter (S := []) (K := []) Tryz.func45 rfl Tryz.ntmps45 rfl (Sat.start _) ?_
 refine TW.seq fun Y1 hY1 => TW.region ?_
 refine TL.p Pu.as ?_
 refine TL.nil (TQ.thenN (hY1 _ _ ?_))
 refine TW.seq fun Y2 hY2 => ?_
 refine TW.seq fun Y3 hY3 => TW.region ?_
 refine TL.p Pu.mv ?_
 refine TL.p Pu.lt ?_
 refine TL.nil (TQ.thenN (hY3 _ _ ?_))
 refine TW.condF rfl (decide_eq_false (by omega)) ?_
 refine TW.skip ?_
 refine TQ.thenN (hY2 _ _ ?_)
 refine TW.seq fun Y4 hY4 => ?_
 refine TW.seq fun Y5 hY5 => TW.region ?_
 refine TL.p Pu.mv ?_
 refine TL.p Pu.lt ?_
 refine TL.nil (TQ.thenN (hY5 _ _ ?_))
 refine TW.cond rfl (fun hc1 => ?_) (fun hc1 => ?_)
 try simp only [zcb9] at hc1
 have e1 : [dgB u] = decDigits u := by rw [decDigits, dif_pos (by omega)]; rfl
 refine TW.seq fun Y6 hY6 => TW.region ?_
 refine TL.p Pu.mv ?_
 refine TL.p Pu.ad ?_
 refine TL.p (Pu.cv (v := .int .i32 ((48 + u : Nat) : Int)) rfl (fun w => by go_simp; rw [show (48 + (u : Int)) = ((48 + u : Nat) : Int) by omega]; rw [wrap_dig u (by omega)])) ?_
 refine TL.p (Pu.sw (Pu.cv (v := sv [dgB u]) rfl (fun w => by clear e1; go_simp; rw [show (48 + (u : Int)) = ((48 + u : Nat) : Int) by omega, enc_dig u (by omega)]; rfl)) e1) ?_
 refine TL.p Pu.as ?_
 refine TL.nil (TQ.thenN (hY6 _ _ ?_))
 refine TW.ret ?_
 refine TQ.thenR ?_
 refine TQ.ret Tryz.results45 rfl ((.tmp rfl .nil)) ?_
 exact fun w hw => Ret.of hw
 try simp only [zcb9] at hc1
 have e1 : decDigits u = decDigits (u / 10) ++ decDigits (u % 10) := by
  have e2 : decDigits (u % 10) = [UInt8.ofNat (48 + u % 10)] := by rw [decDigits, dif_pos (Nat.mod_lt _ (by decide))]
  rw [decDigits, dif_neg (by omega), e2]
 have l1 := dec_len22 (u := u / 10) (by omega)
 have l2 := dec_len22 (u := u % 10) (by omega)
 refine TW.skip ?_
 refine TQ.thenN (hY4 _ _ ?_)
 refine TW.seq fun Y7 hY7 => TW.region ?_
 refine TL.p Pu.mv ?_
 refine TL.p (Pu.iv Pu.qu (show (u : Int) / 10 = ((u / 10 : Nat) : Int) by omega)) ?_
 refine TL.cr rfl (enters Tryz.func45 rfl rfl) (fun w hw => by
   exact ih (u / 10) (by omega) (by omega) _) ?_
 refine TL.p Pu.mv ?_
 refine TL.p (Pu.iv Pu.rm (show (u : Int) % 10 = ((u % 10 : Nat) : Int) by omega)) ?_
 refine TL.cr rfl (enters Tryz.func45 rfl rfl) (fun w hw => by
   exact ih (u % 10) (by omega) (by omega) _) ?_
 refine TL.p (Pu.sw Pu.sad e1.symm) ?_
 refine TL.p Pu.as ?_
 refine TL.nil (TQ.thenN (hY7 _ _ ?_))
 refine TW.ret ?_
 refine TQ.ret Tryz.results45 rfl ((.tmp rfl .nil)) ?_
 exact fun w hw => Ret.of hw
set_option maxRecDepth 100000 in
theorem numberI_any {n : Int} (h : -1000000000000000 ≤ n ∧ n ≤ 1000000000000000) (w : World) : Calls Tryz.prog 45 #[.int .i64 n] w (Ret w (sv (itoa n))) := by
 by_cases h0 : n < 0
 have e1 : itoa n = [45] ++ decDigits n.natAbs := by unfold itoa; rw [if_pos h0]; rfl
 have e2 : -n = ((n.natAbs : Nat) : Int) := by omega
 have l1 := dec_len22 (u := n.natAbs) (by omega)
 refine K_enter (S := []) (K := []) Tryz.func45 rfl Tryz.ntmps45 rfl (Sat.start _) ?_
 refine TW.seq fun Y1 hY1 => TW.region ?_
 refine TL.p Pu.as ?_
 refine TL.nil (TQ.thenN (hY1 _ _ ?_))
 refine TW.seq fun Y2 hY2 => ?_
 refine TW.seq fun Y3 hY3 => TW.region ?_
 refine TL.p Pu.mv ?_
 refine TL.p Pu.lt ?_
 refine TL.nil (TQ.thenN (hY3 _ _ ?_))
 refine TW.condT rfl (decide_eq_true h0) ?_
 refine TW.seq fun Y4 hY4 => TW.region ?_
 refine TL.p Pu.mv ?_
 refine TL.p (Pu.iv Pu.ng e2) ?_
 refine TL.cr rfl (enters Tryz.func45 rfl rfl) (fun w hw => by
  exact numberW_any n.natAbs (by omega) _) ?_
 refine TL.p (Pu.sw Pu.sad e1.symm) ?_
 refine TL.p Pu.as ?_
 refine TL.nil (TQ.thenN (hY4 _ _ ?_))
 refine TW.ret ?_
 refine TQ.thenR ?_
 refine TQ.ret Tryz.results45 rfl ((.tmp rfl .nil)) ?_
 exact fun w hw => Ret.of hw
 obtain ⟨u, rfl⟩ : ∃ u : Nat, n = (u : Int) := ⟨n.toNat, by omega⟩
 have e : itoa (u : Int) = decDigits u := by unfold itoa; rw [if_neg h0, Int.toNat_natCast]
 rw [e]
 exact numberW_any u (by omega) w
end Go.Proofs.YtfgnbkegdjkdmaaGreatDoor
namespace Go.Proofs.YtfgnbkegdjkdmaaGreatDoor
set_option linter.all false
set_option linter.unusedVariables false
set_option linter.unusedSimpArgs false
open Go.RowKit Go.Lib
theorem within_any {n lo hi : Int} (w : World) : Calls Tryz.prog 46 #[.int .i64 n, .int .i64 lo, .int .i64 hi] w (Ret w (.bool (decide (lo ≤ n) && decide (n ≤ hi)))) := by
 refine K_enter (S := []) (K := []) Tryz.func46 rfl Tryz.ntmps46 rfl (Sat.start _) ?_
 refine TW.seq fun Y1 hY1 => TW.region ?_
 refine TL.p Pu.as ?_
 refine TL.nil (TQ.thenN (hY1 _ _ ?_))
 refine TW.seq fun Y2 hY2 => ?_
 refine TW.join [(6, .bool (decide (lo ≤ n) && decide (n ≤ hi)))] ?_ (fun hJ1 => ?_)
 refine TQ.thenN (hY2 _ _ ?_)
 refine TW.ret ?_
 refine TQ.ret Tryz.results46 rfl ((.tmp rfl .nil)) ?_
 exact fun w hw => Ret.of hw
 refine TW.region ?_
 refine TL.p Pu.mv ?_
 refine TL.p Pu.mv ?_
 refine TL.p Pu.ge ?_
 refine TL.p Pu.mv ?_
 refine TL.guard (t := 10) rfl (fun hg1 => ?_) (fun hg1 => ?_)
 refine TL.gd Pu.mv ?_
 refine TL.gd Pu.mv ?_
 refine TL.gd Pu.le ?_
 refine TL.p Pu.kt ?_
 refine TL.p Pu.as ?_
 refine TL.nil ?_
 exact TQ.sub (by repeat (first | exact trivial | refine ⟨rfl, ?_⟩ | refine ⟨trivial, ?_⟩ | refine ⟨(by show some (Value.bool _) = some (Value.bool _); first | (simp [hg1]; done) | (refine congrArg (fun z => some (Value.bool z)) (Bool.eq_iff_iff.2 ?_); simp [hg1]; omega)), ?_⟩)) ks9 hJ1
 refine TL.gs ?_
 refine TL.gs ?_
 refine TL.gs ?_
 refine TL.p Pu.kf ?_
 refine TL.p Pu.as ?_
 refine TL.nil ?_
 exact TQ.sub (by repeat (first | exact trivial | refine ⟨rfl, ?_⟩ | refine ⟨trivial, ?_⟩ | refine ⟨(by show some (Value.bool _) = some (Value.bool _); first | (simp [hg1]; done) | (refine congrArg (fun z => some (Value.bool z)) (Bool.eq_iff_iff.2 ?_); simp [hg1]; omega)), ?_⟩)) ks9 hJ1
def cmW (i : Nat) : List UInt8 := (cmT.getD i ([], 0)).1
def cmN (i : Nat) : Nat := (cmT.getD i ([], 0)).2
theorem cm_mem {i : Nat} (h : i < 10) : (cmW i, cmN i) ∈ cmT := by
 have h1 : cmT.length = 10 := rfl
 have : cmT[i]? = some (cmT.getD i ([], 0)) := by rw [List.getD_eq_getElem?_getD, List.getElem?_eq_getElem (by omega)]; rfl
 exact List.mem_of_getElem? this
set_option maxRecDepth 100000 in
theorem words_any (w : World) : CallsK Tryz.prog 73 #[] [] w (Nat × Nat) (fun x => .tuple #[.slice (some ⟨x.1, 0, none⟩) 10 10, .slice (some ⟨x.2, 0, none⟩) 10 10]) (fun x => [.own (some ⟨x.1, 0, none⟩) 10 10 9 1 (fun i => [sv (cmW i)]), .own (some ⟨x.2, 0, none⟩) 10 10 3 1 (fun i => [.int .i64 (cmN i : Int)])]) := by
 refine K_enter (S := []) (K := []) Tryz.func73 rfl Tryz.ntmps73 rfl (Sat.start _) ?_
 refine TW.seq fun Y1 hY1 => TW.region ?_
 refine TL.p Pu.as ?_
 refine TL.p Pu.as ?_
 refine TL.nil (TQ.thenN (hY1 _ _ ?_))
 refine TW.seq fun Y2 hY2 => TW.region ?_
 refine TL.m Mk.bl ?_
 intro b1
 refine TL.m Mk.bl ?_
 intro b2
 refine TL.p Pu.as ?_
 refine TL.p Pu.as ?_
 refine TL.nil (TQ.thenN (hY2 _ _ ?_))
 refine TW.ret ?_
 refine TQ.ret Tryz.results73 rfl ((.tmp rfl (.tmp rfl .nil))) ?_
 exact fun w hw => ⟨(b1, b2), rfl, hw.sub (KSub.ofBlk pk9 rfl (fun i hi => rfl) rfl rfl (KSub.ofBlk pk9 rfl (fun i hi => rfl) rfl rfl KSub.nil))⟩
set_option maxRecDepth 100000 in
theorem command_any {wd : List UInt8} {A : Option Addr} {n cp : Nat} {w : World} (hn : n ≤ 1000000000) : Calls Tryz.prog 49 #[sv wd, .slice A n cp] w (Ret w (.bool (cmB wd n))) := by
 refine K_enter (S := []) (K := []) Tryz.func49 rfl Tryz.ntmps49 rfl (Sat.start _) ?_
 refine TW.seq fun Y1 hY1 => TW.region ?_
 refine TL.p Pu.as ?_
 refine TL.nil (TQ.thenN (hY1 _ _ ?_))
 refine TW.seq fun Y2 hY2 => TW.region ?_
 refine TL.call (M := []) rfl (enters Tryz.func73 rfl rfl) (List.Perm.refl _) rfl (fun w hw => by
   exact words_any _) ?_
 rintro ⟨bw, bn⟩
 refine TL.p Pu.mv ?_
 refine TL.p Pu.ex ?_
 refine TL.p Pu.ex ?_
 refine TL.p Pu.as ?_
 refine TL.p Pu.as ?_
 refine TL.nil (TQ.thenN (hY2 _ _ ?_))
 refine TW.seq fun Y3 hY3 => ?_
 refine TW.seq fun Y4 hY4 => TW.region ?_
 refine TL.p Pu.as ?_
 refine TL.nil (TQ.thenN (hY4 _ _ ?_))
 refine TW.block ?_
 refine TW.loop1 (fun (k : Nat) => [(7, .int .i64 (k : Int)), (5, .slice (some ⟨bw, 0, none⟩) 10 10), (6, .slice (some ⟨bn, 0, none⟩) 10 10), (0, sv wd), (1, .slice A n cp)]) (fun k => [.own (some ⟨bw, 0, none⟩) 10 10 9 1 (fun i => [sv (cmW i)]), .own (some ⟨bn, 0, none⟩) 10 10 3 1 (fun i => [.int .i64 (cmN i : Int)])]) (fun k => k ≤ 10 ∧ ∀ j, j < k → cmW j ≠ wd) (fun k => 10 - k) 0 fs9 ?_ ?_ ?_
 exact ks9
 exact ⟨by omega, fun j hj => by omega⟩
 rintro k ⟨hk, hall⟩ Z0 hZ0
 refine TW.seq fun Y5 hY5 => ?_
 refine TW.seq fun Y6 hY6 => TW.region ?_
 refine TL.p Pu.mv ?_
 refine TL.p Pu.mv ?_
 refine TL.p (Pu.ln Tryz.underlying41) ?_
 refine TL.p Pu.lt ?_
 refine TL.nil (TQ.thenN (hY6 _ _ ?_))
 refine TW.cond rfl (fun hc0 => ?_) (fun hc0 => ?_)
 try simp only [zcb9] at hc0
 have hkl : k < 10 := by omega
 refine TW.skip ?_
 refine TQ.thenN (hY5 _ _ ?_)
 refine TW.seq fun Y7 hY7 => ?_
 refine TW.block ?_
 refine TW.seq fun Y8 hY8 => TW.region ?_
 refine TL.p Pu.mv ?_
 refine TL.p Pu.mv ?_
 refine TL.p (Pu.el ty_et41) ?_
 refine TL.p (Pu.ld ty_sc9) ?_
 refine TL.p Pu.mv ?_
 refine TL.p Pu.seq_ ?_
 refine TL.nil (TQ.thenN (hY8 _ _ ?_))
 refine TW.cond rfl (fun hc1 => ?_) (fun hc1 => ?_)
 try simp only [zcb9] at hc1
 subst hc1
 refine TW.seq fun Y9 hY9 => TW.region ?_
 refine TL.p Pu.mv ?_
 refine TL.p (Pu.ln Tryz.underlying42) ?_
 refine TL.p Pu.mv ?_
 refine TL.p Pu.mv ?_
 refine TL.p (Pu.el ty_et42) ?_
 refine TL.p (Pu.ld ty_sc3) ?_
 refine TL.p Pu.eq ?_
 refine TL.p Pu.as ?_
 refine TL.nil (TQ.thenN (hY9 _ _ ?_))
 refine TW.ret ?_
 refine TQ.blkR ?_
 refine TQ.thenR ?_
 refine TQ.thenR ?_
 refine TQ.blkR ?_
 refine TQ.thenR ?_
 refine TQ.ret Tryz.results49 rfl ((.tmp rfl .nil)) ?_
 refine fun w hw => ⟨?_, Chg.ext hw.chg⟩
 rw [cm_one (cm_mem hkl)]
 refine congrArg (fun b => Ending.returned (.bool b)) ?_
 rw [Bool.eq_iff_iff, decide_eq_true_eq, decide_eq_true_eq]
 omega
 try simp only [zcb9] at hc1
 refine TW.skip ?_
 refine TQ.blkN ?_
 refine TQ.thenN (hY7 _ _ ?_)
 refine TW.region ?_
 refine TL.p Pu.mv ?_
 refine TL.p Pu.ad ?_
 refine TL.p Pu.as ?_
 refine TL.nil ?_
 refine TQ.thenN (hZ0 (k + 1) _ _ ?_ ?_ fs9 ?_)
 refine ⟨by omega, fun j hj => ?_⟩
 by_cases h : j = k
 subst h; exact hc1
 exact hall j (by omega)
 exact zom9
 exact ks9
 try simp only [zcb9] at hc0
 obtain rfl : k = 10 := by omega
 refine TW.exit ?_
 refine TQ.thenX ?_
 refine TQ.thenX ?_
 refine TQ.blkX ?_
 refine TQ.thenN (hY3 _ _ ?_)
 refine TW.seq fun Y10 hY10 => TW.region ?_
 refine TL.p Pu.as ?_
 refine TL.nil (TQ.thenN (hY10 _ _ ?_))
 refine TW.ret ?_
 refine TQ.ret Tryz.results49 rfl ((.tmp rfl .nil)) ?_
 refine fun w hw => ⟨?_, Chg.ext hw.chg⟩
 rw [cm_none (fun p hp e => by
  obtain ⟨i, hi, rfl⟩ := List.getElem_of_mem hp
  have h1 : cmT.length = 10 := rfl
  refine hall i (by omega) ?_
  unfold cmW
  rw [List.getD_eq_getElem?_getD, List.getElem?_eq_getElem hi]
  exact e)]
 rfl
section
variable {R L : Option Addr} {nr cr nl cl : Nat} {f : Nat → Nat → Int} {g : Nat → Ltr} {w : World}
end
end Go.Proofs.YtfgnbkegdjkdmaaGreatDoor
namespace Go.Proofs.YtfgnbkegdjkdmaaGreatDoor
set_option linter.all false
set_option linter.unusedVariables false
set_option linter.unusedSimpArgs false
open Go.RowKit Go.Lib
theorem sv_cut {a : List UInt8} {l h : Nat} : Value.string ((⟨a.toArray⟩ : ByteArray).extract l h) = sv ((a.drop l).take (h - l)) := by rw [extract_eq]; rfl
theorem sv_size {a : List UInt8} : (⟨a.toArray⟩ : ByteArray).size = a.length := rfl
section
variable {c : Cx} {F : Fr} {K : List Fact} {d : Option Tmp} {ty : TypeId} {pos : String} {af : Array Edge} {g : Option (Nat × Bool)}
theorem Pu.ssf {T : TypeId} {x y : Operand} {a : List UInt8} {q : Nat} {i : Int} (hT : c.P.underlying T = some .string) (hx : ev F x = some (sv a) := by rfl) (hy : ev F y = some (.int .i64 i) := by rfl) (hk : i.toNat = q := by first | exact tnS _ | exact Int.toNat_natCast _ | rfl) (h0 : 0 ≤ i := by omega) (h1 : i ≤ a.length := by omega) : Pu c F K ⟨d, .slice T x (some y) none none, ty, pos, af, g⟩ (sv (a.drop q)) := fun w1 w hF _ => by
 subst hk
 have e : (a.drop i.toNat).take (a.length - i.toNat) = a.drop i.toNat := List.take_of_length_le (by rw [List.length_drop]; omega)
 rw [← e, ← sv_cut]
 have hx' : w1.eval x = .string ⟨a.toArray⟩ := hF.evl hx
 simp [execOp, Instr.sliceAt, Instr.slice, hx', hF.evl hy, run_underlying hT, Instr.sliceBounds, Instr.sliceBound, asIntOf, h0, h1, sv_size]
theorem Pu.ssh {T : TypeId} {x y : Operand} {a : List UInt8} {q : Nat} {i : Int} (hT : c.P.underlying T = some .string) (hx : ev F x = some (sv a) := by rfl) (hy : ev F y = some (.int .i64 i) := by rfl) (hk : i.toNat = q := by first | exact tnS _ | exact Int.toNat_natCast _ | rfl) (h0 : 0 ≤ i := by omega) (h1 : i ≤ a.length := by omega) : Pu c F K ⟨d, .slice T x none (some y) none, ty, pos, af, g⟩ (sv (a.take q)) := fun w1 w hF _ => by
 subst hk
 have e : (a.drop 0).take (i.toNat - 0) = a.take i.toNat := rfl
 rw [← e, ← sv_cut]
 have hx' : w1.eval x = .string ⟨a.toArray⟩ := hF.evl hx
 simp [execOp, Instr.sliceAt, Instr.slice, hx', hF.evl hy, run_underlying hT, Instr.sliceBounds, Instr.sliceBound, asIntOf, h0, h1, sv_size]
theorem Pu.ssb {T : TypeId} {x y z : Operand} {a : List UInt8} {p q : Nat} {i j : Int} (hT : c.P.underlying T = some .string) (hx : ev F x = some (sv a) := by rfl) (hy : ev F y = some (.int .i64 i) := by rfl) (hz : ev F z = some (.int .i64 j) := by rfl) (hi : i.toNat = p := by first | exact tnS _ | exact Int.toNat_natCast _ | rfl) (hj : j.toNat = q := by first | exact tnS _ | exact Int.toNat_natCast _ | rfl) (h0 : 0 ≤ i := by omega) (h1 : i ≤ j := by omega) (h2 : j ≤ a.length := by omega) : Pu c F K ⟨d, .slice T x (some y) (some z) none, ty, pos, af, g⟩ (sv ((a.drop p).take (q - p))) := fun w1 w hF _ => by
 subst hi
 subst hj
 rw [← sv_cut]
 have hx' : w1.eval x = .string ⟨a.toArray⟩ := hF.evl hx
 have h3 : 0 ≤ j := Int.le_trans h0 h1
 have h4 : ¬ Max.max j 0 < i := by omega
 simp [execOp, Instr.sliceAt, Instr.slice, hx', hF.evl hy, hF.evl hz, run_underlying hT, Instr.sliceBounds, Instr.sliceBound, asIntOf, h0, h2, h3, h4, sv_size]
theorem Pu.sm {T E : TypeId} {sz bytes : Nat} {x y z : Operand} {A : Option Addr} {n cp p q : Nat} {i j : Int} (hT : ElemT c.P T E sz bytes) (hx : ev F x = some (.slice A n cp) := by rfl) (hy : ev F y = some (.int .i64 i) := by rfl) (hz : ev F z = some (.int .i64 j) := by rfl) (hi : i.toNat = p := by first | exact tnS _ | exact Int.toNat_natCast _ | rfl) (hj : j.toNat = q := by first | exact tnS _ | exact Int.toNat_natCast _ | rfl) (h0 : 0 ≤ i := by omega) (h1 : i ≤ j := by omega) (h2 : j ≤ cp := by omega) : Pu c F K ⟨d, .slice T x (some y) (some z) none, ty, pos, af, g⟩ (.slice (slA A cp sz p) (q - p) (cp - p)) := fun w1 w hF _ => by
 obtain ⟨i', z', hi', hz', hs, hb, hzs⟩ := hT.hi
 have hsz : (sizeOf E).run c.P w = .ok sz w := by simp [sizeOf, typeInfo, hi', hs]
 subst hi
 subst hj
 have h3 : 0 ≤ j := Int.le_trans h0 h1
 have h4 : ¬ Max.max j 0 < i := by omega
 simp [execOp, Instr.sliceAt, Instr.slice, hF.evl hx, hF.evl hy, hF.evl hz, run_underlying hT.ht, Instr.sliceBounds, Instr.sliceBound, asIntOf, h0, h2, h3, h4, hsz, slA]
end
theorem RdR.less {w : World} {sz n m : Nat} {A : Option Addr} {r : Nat → List Value} (h : RdR w sz A n r) (hm : m ≤ n) : RdR w sz A m r := by
 refine ⟨fun h0 => ?_, fun i hi => h.len i (by omega)⟩
 obtain ⟨b, off, h1, h2, h3⟩ := h.rd (by omega)
 exact ⟨b, off, h1, h2, fun i j hi hj => h3 i j (by omega) hj⟩
end Go.Proofs.YtfgnbkegdjkdmaaGreatDoor
namespace Go.Proofs.YtfgnbkegdjkdmaaGreatDoor
set_option linter.all false
set_option linter.unusedVariables false
set_option linter.unusedSimpArgs false
open Go.RowKit Go.Lib
theorem get9 {x : List UInt8} {k : Nat} (hk : k < x.length) : x[k]? = some (x.getD k 0) := by
 rw [List.getD_eq_getElem?_getD, List.getElem?_eq_getElem hk]
 rfl
theorem head9 {x : List UInt8} (h : 0 < x.length) : decide ((((x.getD 0 0).toNat : Nat) : Int) = 45) = decide (x.head? = some 45) := by
 cases x with
 | nil => cases h
 | cons b t =>
  rw [Bool.eq_iff_iff, decide_eq_true_eq, decide_eq_true_eq]
  show ((b.toNat : Nat) : Int) = 45 ↔ some b = some 45
  constructor
  · intro h
    have h2 : (45 : UInt8).toNat = 45 := rfl
    rw [UInt8.toNat_inj.1 (show b.toNat = (45 : UInt8).toNat by omega)]
  · intro h
    rw [Option.some.inj h]
    rfl
theorem wrap_u8c {i : Int} (h : 0 ≤ i ∧ i ≤ 255) : IntKind.u8.wrap i = i := by
 have h1 : i = ((i.toNat : Nat) : Int) := by omega
 rw [h1]
 have h2 : i.toNat < 256 := by omega
 revert h2
 generalize i.toNat = n
 intro h2
 have h3 : ∀ m : Fin 256, IntKind.u8.wrap ((m.val : Nat) : Int) = ((m.val : Nat) : Int) := by decide +kernel
 exact h3 ⟨n, h2⟩
set_option maxRecDepth 100000 in
set_option maxHeartbeats 4000000 in
theorem value_any {x : List UInt8} (hx : x.length ≤ 40000) (w : World) : CallsK Tryz.prog 31 #[sv x] [] w { r : Int × Bool // VaR x r } (fun r => .tuple #[.int .i64 r.1.1, .bool r.1.2]) (fun _ => []) := by
 obtain ⟨u0, hu0⟩ : ∃ b, decide ((x.length : Int) = 0) = b := ⟨_, rfl⟩
 obtain ⟨u1, hu1⟩ : ∃ b, decide (14 < (x.length : Int)) = b := ⟨_, rfl⟩
 obtain ⟨y0, hy0⟩ : ∃ b, decide (x.head? = some 45) = b := ⟨_, rfl⟩
 refine K_enter (S := []) (K := []) Tryz.func31 rfl Tryz.ntmps31 rfl (Sat.start _) ?_
 refine TW.seq fun Y1 hY1 => TW.region ?_
 refine TL.p Pu.as ?_
 refine TL.p Pu.as ?_
 refine TL.nil (TQ.thenN (hY1 _ _ ?_))
 refine TW.seq fun Y2 hY2 => ?_
 refine TW.seq fun Y3 hY3 => ?_
 refine TW.join [(13, .bool (u0 || u1))] ?_ (fun hJ1 => ?_)
 refine TQ.thenN (hY3 _ _ ?_)
 refine TW.cond rfl (fun hc0 => ?_) (fun hc0 => ?_)
 try simp only [zcb9] at hc0
 have hva := va_size (x := x) (by rcases hc0 with h | h; exact .inl (by rw [h] at hu0; have := of_decide_eq_true hu0; omega); exact .inr (by rw [h] at hu1; have := of_decide_eq_true hu1; omega))
 refine TW.seq fun Y4 hY4 => TW.region ?_
 refine TL.p Pu.as ?_
 refine TL.p Pu.as ?_
 refine TL.nil (TQ.thenN (hY4 _ _ ?_))
 refine TW.ret ?_
 refine TQ.thenR ?_
 refine TQ.ret Tryz.results31 rfl ((.tmp rfl (.tmp rfl .nil))) ?_
 first
 | exact fun w hw => ⟨⟨(0, false), hva⟩, rfl, hw.sub KSub.nil⟩
 | exact fun w hw => ⟨⟨(-acc, _), by have h := hva; rw [show decide (itoa (-acc) = x) = true by assumption, Bool.true_and] at h; exact h⟩, rfl, hw.sub KSub.nil⟩
 | exact fun w hw => ⟨⟨(-acc, _), by have h := hva; rw [show decide (itoa (-acc) = x) = false by assumption, Bool.false_and] at h; exact h⟩, rfl, hw.sub KSub.nil⟩
 | exact fun w hw => ⟨⟨(acc, _), by have h := hva; rw [show decide (itoa (acc) = x) = true by assumption, Bool.true_and] at h; exact h⟩, rfl, hw.sub KSub.nil⟩
 | exact fun w hw => ⟨⟨(acc, _), by have h := hva; rw [show decide (itoa (acc) = x) = false by assumption, Bool.false_and] at h; exact h⟩, rfl, hw.sub KSub.nil⟩
 | trace_state
 try simp only [zcb9] at hc0
 have h0 : 0 < x.length := by have h := hc0.1; rw [h] at hu0; have := of_decide_eq_false hu0; omega
 have h14 : x.length ≤ 14 := by have h := hc0.2; rw [h] at hu1; have := of_decide_eq_false hu1; omega
 refine TW.skip ?_
 refine TQ.thenN (hY2 _ _ ?_)
 refine TW.seq fun Y5 hY5 => TW.region ?_
 refine TL.p Pu.as ?_
 refine TL.nil (TQ.thenN (hY5 _ _ ?_))
 refine TW.seq fun Y6 hY6 => ?_
 refine TW.seq fun Y7 hY7 => TW.region ?_
 refine TL.p Pu.as ?_
 refine TL.nil (TQ.thenN (hY7 _ _ ?_))
 refine TW.block ?_
 refine TW.loop2 (fun (k : Nat) (acc : Int) => [(5, .int .i64 (k : Int)), (4, .int .i64 acc), (0, sv x)]) (fun k acc => []) (fun k acc => k ≤ x.length ∧ dgV 0 (dgs x k) = some acc) (fun k acc => x.length - k) 0 0 fs9 ?_ ?_ ?_
 exact ks9
 exact ⟨Nat.zero_le _, by rw [dgs_zero]; rfl⟩
 rintro k acc ⟨hk, hm⟩ Z0 hZ0
 have hbd := dgs_bd (by omega) hm
 obtain ⟨z0, hz0⟩ : ∃ b, decide ((k : Int) = 0) = b := ⟨_, rfl⟩
 obtain ⟨u, hu⟩ : ∃ u, x.getD k 0 = u := ⟨_, rfl⟩
 have hub := u8_bd u
 obtain ⟨v0, hv0⟩ : ∃ b, decide ((u.toNat : Int) < 48) = b := ⟨_, rfl⟩
 obtain ⟨v1, hv1⟩ : ∃ b, decide (57 < (u.toNat : Int)) = b := ⟨_, rfl⟩
 refine TW.seq fun Y8 hY8 => ?_
 refine TW.seq fun Y9 hY9 => TW.region ?_
 refine TL.p Pu.mv ?_
 refine TL.p Pu.mv ?_
 refine TL.p (Pu.sln Tryz.underlying9) ?_
 refine TL.p Pu.lt ?_
 refine TL.nil (TQ.thenN (hY9 _ _ ?_))
 refine TW.cond rfl (fun hc1 => ?_) (fun hc1 => ?_)
 try simp only [zcb9] at hc1
 have hkx : k < x.length := by omega
 have hgu : x[k]? = some u := by rw [← hu]; exact get9 hkx
 refine TW.skip ?_
 refine TQ.thenN (hY8 _ _ ?_)
 refine TW.seq fun Y10 hY10 => ?_
 refine TW.block ?_
 refine TW.seq fun Y11 hY11 => ?_
 refine TW.seq fun Y12 hY12 => ?_
 refine TW.join [(26, .bool (z0 && y0))] ?_ (fun hJ2 => ?_)
 refine TQ.thenN (hY12 _ _ ?_)
 refine TW.cond rfl (fun hc2 => ?_) (fun hc2 => ?_)
 try simp only [zcb9] at hc2
 have hk0 : k = 0 := by have h := hc2.1; rw [h] at hz0; have := of_decide_eq_true hz0; omega
 have hm2 : dgV 0 (dgs x (k + 1)) = some acc := by
  rw [hk0, dgs_zero] at hm
  rw [hk0, dgs_minus (by have h := hc2.2; rw [h] at hy0; exact of_decide_eq_true hy0)]
  exact hm
 refine TW.exit ?_
 refine TQ.thenX ?_
 refine TQ.blkX ?_
 refine TQ.thenN (hY10 _ _ ?_)
 refine TW.region ?_
 refine TL.p Pu.mv ?_
 refine TL.p Pu.ad ?_
 refine TL.p Pu.as ?_
 refine TL.nil ?_
 refine TQ.thenN (hZ0 (k + 1) (by first | exact (fun _ => 10 * acc + ((u.toNat : Int) - 48)) hnm | exact acc) _ _ ?_ ?_ fs9 ?_)
 exact ⟨by omega, hm2⟩
 exact zom9
 exact ks9
 try simp only [zcb9] at hc2
 have hnm : ¬ (k = 0 ∧ x.head? = some 45) := by
  rintro ⟨h1, h2⟩
  rcases hc2 with h | h
  rw [h] at hz0; have := of_decide_eq_false hz0; omega
  rw [h] at hy0; exact of_decide_eq_false hy0 h2
 refine TW.skip ?_
 refine TQ.thenN (hY11 _ _ ?_)
 refine TW.seq fun Y13 hY13 => ?_
 refine TW.seq fun Y14 hY14 => ?_
 refine TW.join [(36, .bool (v0 || v1))] ?_ (fun hJ3 => ?_)
 refine TQ.thenN (hY14 _ _ ?_)
 refine TW.cond rfl (fun hc3 => ?_) (fun hc3 => ?_)
 try simp only [zcb9] at hc3
 have hva := va_bad h0 h14 hkx hnm hm (by rw [hu]; rcases hc3 with h | h; exact .inl (by rw [h] at hv0; have := of_decide_eq_true hv0; omega); exact .inr (by rw [h] at hv1; have := of_decide_eq_true hv1; omega))
 refine TW.seq fun Y15 hY15 => TW.region ?_
 refine TL.p Pu.as ?_
 refine TL.p Pu.as ?_
 refine TL.nil (TQ.thenN (hY15 _ _ ?_))
 refine TW.ret ?_
 refine TQ.thenR ?_
 refine TQ.blkR ?_
 refine TQ.thenR ?_
 refine TQ.thenR ?_
 refine TQ.blkR ?_
 refine TQ.thenR ?_
 refine TQ.ret Tryz.results31 rfl ((.tmp rfl (.tmp rfl .nil))) ?_
 first
 | exact fun w hw => ⟨⟨(0, false), hva⟩, rfl, hw.sub KSub.nil⟩
 | exact fun w hw => ⟨⟨(-acc, _), by have h := hva; rw [show decide (itoa (-acc) = x) = true by assumption, Bool.true_and] at h; exact h⟩, rfl, hw.sub KSub.nil⟩
 | exact fun w hw => ⟨⟨(-acc, _), by have h := hva; rw [show decide (itoa (-acc) = x) = false by assumption, Bool.false_and] at h; exact h⟩, rfl, hw.sub KSub.nil⟩
 | exact fun w hw => ⟨⟨(acc, _), by have h := hva; rw [show decide (itoa (acc) = x) = true by assumption, Bool.true_and] at h; exact h⟩, rfl, hw.sub KSub.nil⟩
 | exact fun w hw => ⟨⟨(acc, _), by have h := hva; rw [show decide (itoa (acc) = x) = false by assumption, Bool.false_and] at h; exact h⟩, rfl, hw.sub KSub.nil⟩
 | trace_state
 try simp only [zcb9] at hc3
 have hd1 : 48 ≤ u.toNat ∧ u.toNat ≤ 57 := by
  have h1 := hc3.1
  have h2 := hc3.2
  rw [h1] at hv0
  rw [h2] at hv1
  have := of_decide_eq_false hv0
  have := of_decide_eq_false hv1
  omega
 have hm2 : dgV 0 (dgs x (k + 1)) = some (10 * acc + ((u.toNat : Int) - 48)) := by
  rw [dgs_succ hkx hnm, dgV_snoc hm, hu, if_pos hd1]
 refine TW.skip ?_
 refine TQ.thenN (hY13 _ _ ?_)
 refine TW.region ?_
 refine TL.p Pu.mv ?_
 refine TL.p Pu.ml ?_
 refine TL.p Pu.mv ?_
 refine TL.p Pu.mv ?_
 refine TL.p (Pu.six (k := k) Tryz.underlying9 hgu (hk := Int.toNat_natCast k)) ?_
 refine TL.p (Pu.arith (n := (u.toNat : Int) - 48) rfl rfl (fun w => by go_simp; exact wrap_u8c (by omega)) trivial) ?_
 refine TL.p (Pu.cv (v := .int .i64 ((u.toNat : Int) - 48)) rfl (fun w => by go_simp; exact IntWalk.i64_in _ (by omega))) ?_
 refine TL.p Pu.ad ?_
 refine TL.p Pu.as ?_
 refine TL.nil ?_
 refine TQ.blkN ?_
 refine TQ.thenN (hY10 _ _ ?_)
 refine TW.region ?_
 refine TL.p Pu.mv ?_
 refine TL.p Pu.ad ?_
 refine TL.p Pu.as ?_
 refine TL.nil ?_
 refine TQ.thenN (hZ0 (k + 1) (by first | exact (fun _ => 10 * acc + ((u.toNat : Int) - 48)) hnm | exact acc) _ _ ?_ ?_ fs9 ?_)
 exact ⟨by omega, hm2⟩
 exact zom9
 exact ks9
 refine TW.region ?_
 refine TL.p Pu.mv ?_
 refine TL.p Pu.mv ?_
 refine TL.p (Pu.six (k := k) Tryz.underlying9 hgu (hk := Int.toNat_natCast k)) ?_
 refine TL.p (Pu.bv Pu.lt hv0) ?_
 refine TL.p Pu.mv ?_
 refine TL.guard (t := 31) rfl (fun hg1 => ?_) (fun hg1 => ?_)
 refine TL.gs ?_
 refine TL.gs ?_
 refine TL.gs ?_
 refine TL.gs ?_
 refine TL.p Pu.kt ?_
 refine TL.nil ?_
 exact TQ.sub (by repeat (first | exact trivial | refine ⟨rfl, ?_⟩ | refine ⟨trivial, ?_⟩ | refine ⟨(by show some (Value.bool _) = some (Value.bool _); first | (simp [hg1]; done) | (refine congrArg (fun z => some (Value.bool z)) (Bool.eq_iff_iff.2 ?_); simp [hg1]; omega)), ?_⟩)) ks9 hJ3
 refine TL.gd Pu.mv ?_
 refine TL.gd Pu.mv ?_
 refine TL.gd (Pu.six (k := k) Tryz.underlying9 hgu (hk := Int.toNat_natCast k)) ?_
 refine TL.gd (Pu.bv Pu.gt hv1) ?_
 refine TL.p Pu.kf ?_
 refine TL.nil ?_
 exact TQ.sub (by repeat (first | exact trivial | refine ⟨rfl, ?_⟩ | refine ⟨trivial, ?_⟩ | refine ⟨(by show some (Value.bool _) = some (Value.bool _); first | (simp [hg1]; done) | (refine congrArg (fun z => some (Value.bool z)) (Bool.eq_iff_iff.2 ?_); simp [hg1]; omega)), ?_⟩)) ks9 hJ3
 refine TW.region ?_
 refine TL.p Pu.mv ?_
 refine TL.p (Pu.bv Pu.eq hz0) ?_
 refine TL.p Pu.mv ?_
 refine TL.guard (t := 22) rfl (fun hg2 => ?_) (fun hg2 => ?_)
 refine TL.gd Pu.mv ?_
 refine TL.gd (Pu.six (k := 0) Tryz.underlying9 (get9 h0)) ?_
 refine TL.gd (Pu.bv Pu.eq ((head9 h0).trans hy0)) ?_
 refine TL.p Pu.kt ?_
 refine TL.nil ?_
 exact TQ.sub (by repeat (first | exact trivial | refine ⟨rfl, ?_⟩ | refine ⟨trivial, ?_⟩ | refine ⟨(by show some (Value.bool _) = some (Value.bool _); first | (simp [hg2]; done) | (refine congrArg (fun z => some (Value.bool z)) (Bool.eq_iff_iff.2 ?_); simp [hg2]; omega)), ?_⟩)) ks9 hJ2
 refine TL.gs ?_
 refine TL.gs ?_
 refine TL.gs ?_
 refine TL.p Pu.kf ?_
 refine TL.nil ?_
 exact TQ.sub (by repeat (first | exact trivial | refine ⟨rfl, ?_⟩ | refine ⟨trivial, ?_⟩ | refine ⟨(by show some (Value.bool _) = some (Value.bool _); first | (simp [hg2]; done) | (refine congrArg (fun z => some (Value.bool z)) (Bool.eq_iff_iff.2 ?_); simp [hg2]; omega)), ?_⟩)) ks9 hJ2
 try simp only [zcb9] at hc1
 have hkx : k = x.length := by omega
 subst hkx
 refine TW.exit ?_
 refine TQ.thenX ?_
 refine TQ.thenX ?_
 refine TQ.blkX ?_
 refine TQ.thenN (hY6 _ _ ?_)
 refine TW.seq fun Y16 hY16 => ?_
 refine TW.seq fun Y17 hY17 => TW.region ?_
 refine TL.p Pu.mv ?_
 refine TL.p (Pu.six (k := 0) Tryz.underlying9 (get9 h0)) ?_
 refine TL.p (Pu.bv Pu.eq ((head9 h0).trans hy0)) ?_
 refine TL.nil (TQ.thenN (hY17 _ _ ?_))
 refine TW.cond rfl (fun hc4 => ?_) (fun hc4 => ?_)
 try simp only [zcb9] at hc4
 have hva := va_end (n := -acc) h0 h14 hm (by rw [if_pos (of_decide_eq_true (hy0.trans hc4))])
 refine TW.region ?_
 refine TL.p Pu.mv ?_
 refine TL.p Pu.ng ?_
 refine TL.p Pu.as ?_
 refine TL.nil (TQ.thenN (hY16 _ _ ?_))
 refine TW.seq fun Y18 hY18 => TW.region ?_
 refine TL.p Pu.mv ?_
 refine TL.p Pu.mv ?_
 refine TL.cr rfl (enters Tryz.func45 rfl rfl) (fun w hw => by
   exact numberI_any ⟨by omega, by omega⟩ _) ?_
 refine TL.p Pu.mv ?_
 refine TL.p Pu.seq_ ?_
 refine TL.p Pu.mv ?_
 refine TL.guard (t := 55) rfl (fun hg3 => ?_) (fun hg3 => ?_)
 refine TL.gd Pu.mv ?_
 refine TL.cr rfl (enters Tryz.func46 rfl rfl) (fun w hw => by
   exact within_any _) ?_
 refine TL.p Pu.kt ?_
 refine TL.p Pu.as ?_
 refine TL.p Pu.as ?_
 refine TL.nil (TQ.thenN (hY18 _ _ ?_))
 refine TW.ret ?_
 refine TQ.ret Tryz.results31 rfl ((.tmp rfl (.tmp rfl .nil))) ?_
 first
 | exact fun w hw => ⟨⟨(0, false), hva⟩, rfl, hw.sub KSub.nil⟩
 | exact fun w hw => ⟨⟨(-acc, _), by have h := hva; rw [show decide (itoa (-acc) = x) = true by assumption, Bool.true_and] at h; exact h⟩, rfl, hw.sub KSub.nil⟩
 | exact fun w hw => ⟨⟨(-acc, _), by have h := hva; rw [show decide (itoa (-acc) = x) = false by assumption, Bool.false_and] at h; exact h⟩, rfl, hw.sub KSub.nil⟩
 | exact fun w hw => ⟨⟨(acc, _), by have h := hva; rw [show decide (itoa (acc) = x) = true by assumption, Bool.true_and] at h; exact h⟩, rfl, hw.sub KSub.nil⟩
 | exact fun w hw => ⟨⟨(acc, _), by have h := hva; rw [show decide (itoa (acc) = x) = false by assumption, Bool.false_and] at h; exact h⟩, rfl, hw.sub KSub.nil⟩
 | trace_state
 refine TL.gs ?_
 refine TL.gs ?_
 refine TL.p Pu.kf ?_
 refine TL.p Pu.as ?_
 refine TL.p Pu.as ?_
 refine TL.nil (TQ.thenN (hY18 _ _ ?_))
 refine TW.ret ?_
 refine TQ.ret Tryz.results31 rfl ((.tmp rfl (.tmp rfl .nil))) ?_
 first
 | exact fun w hw => ⟨⟨(0, false), hva⟩, rfl, hw.sub KSub.nil⟩
 | exact fun w hw => ⟨⟨(-acc, _), by have h := hva; rw [show decide (itoa (-acc) = x) = true by assumption, Bool.true_and] at h; exact h⟩, rfl, hw.sub KSub.nil⟩
 | exact fun w hw => ⟨⟨(-acc, _), by have h := hva; rw [show decide (itoa (-acc) = x) = false by assumption, Bool.false_and] at h; exact h⟩, rfl, hw.sub KSub.nil⟩
 | exact fun w hw => ⟨⟨(acc, _), by have h := hva; rw [show decide (itoa (acc) = x) = true by assumption, Bool.true_and] at h; exact h⟩, rfl, hw.sub KSub.nil⟩
 | exact fun w hw => ⟨⟨(acc, _), by have h := hva; rw [show decide (itoa (acc) = x) = false by assumption, Bool.false_and] at h; exact h⟩, rfl, hw.sub KSub.nil⟩
 | trace_state
 try simp only [zcb9] at hc4
 have hva := va_end (n := acc) h0 h14 hm (by rw [if_neg (of_decide_eq_false (hy0.trans hc4))])
 refine TW.skip ?_
 refine TQ.thenN (hY16 _ _ ?_)
 refine TW.seq fun Y19 hY19 => TW.region ?_
 refine TL.p Pu.mv ?_
 refine TL.p Pu.mv ?_
 refine TL.cr rfl (enters Tryz.func45 rfl rfl) (fun w hw => by
   exact numberI_any ⟨by omega, by omega⟩ _) ?_
 refine TL.p Pu.mv ?_
 refine TL.p Pu.seq_ ?_
 refine TL.p Pu.mv ?_
 refine TL.guard (t := 55) rfl (fun hg4 => ?_) (fun hg4 => ?_)
 refine TL.gd Pu.mv ?_
 refine TL.cr rfl (enters Tryz.func46 rfl rfl) (fun w hw => by
   exact within_any _) ?_
 refine TL.p Pu.kt ?_
 refine TL.p Pu.as ?_
 refine TL.p Pu.as ?_
 refine TL.nil (TQ.thenN (hY19 _ _ ?_))
 refine TW.ret ?_
 refine TQ.ret Tryz.results31 rfl ((.tmp rfl (.tmp rfl .nil))) ?_
 first
 | exact fun w hw => ⟨⟨(0, false), hva⟩, rfl, hw.sub KSub.nil⟩
 | exact fun w hw => ⟨⟨(-acc, _), by have h := hva; rw [show decide (itoa (-acc) = x) = true by assumption, Bool.true_and] at h; exact h⟩, rfl, hw.sub KSub.nil⟩
 | exact fun w hw => ⟨⟨(-acc, _), by have h := hva; rw [show decide (itoa (-acc) = x) = false by assumption, Bool.false_and] at h; exact h⟩, rfl, hw.sub KSub.nil⟩
 | exact fun w hw => ⟨⟨(acc, _), by have h := hva; rw [show decide (itoa (acc) = x) = true by assumption, Bool.true_and] at h; exact h⟩, rfl, hw.sub KSub.nil⟩
 | exact fun w hw => ⟨⟨(acc, _), by have h := hva; rw [show decide (itoa (acc) = x) = false by assumption, Bool.false_and] at h; exact h⟩, rfl, hw.sub KSub.nil⟩
 | trace_state
 refine TL.gs ?_
 refine TL.gs ?_
 refine TL.p Pu.kf ?_
 refine TL.p Pu.as ?_
 refine TL.p Pu.as ?_
 refine TL.nil (TQ.thenN (hY19 _ _ ?_))
 refine TW.ret ?_
 refine TQ.ret Tryz.results31 rfl ((.tmp rfl (.tmp rfl .nil))) ?_
 first
 | exact fun w hw => ⟨⟨(0, false), hva⟩, rfl, hw.sub KSub.nil⟩
 | exact fun w hw => ⟨⟨(-acc, _), by have h := hva; rw [show decide (itoa (-acc) = x) = true by assumption, Bool.true_and] at h; exact h⟩, rfl, hw.sub KSub.nil⟩
 | exact fun w hw => ⟨⟨(-acc, _), by have h := hva; rw [show decide (itoa (-acc) = x) = false by assumption, Bool.false_and] at h; exact h⟩, rfl, hw.sub KSub.nil⟩
 | exact fun w hw => ⟨⟨(acc, _), by have h := hva; rw [show decide (itoa (acc) = x) = true by assumption, Bool.true_and] at h; exact h⟩, rfl, hw.sub KSub.nil⟩
 | exact fun w hw => ⟨⟨(acc, _), by have h := hva; rw [show decide (itoa (acc) = x) = false by assumption, Bool.false_and] at h; exact h⟩, rfl, hw.sub KSub.nil⟩
 | trace_state
 refine TW.region ?_
 refine TL.p Pu.mv ?_
 refine TL.p (Pu.sln Tryz.underlying9) ?_
 refine TL.p (Pu.bv Pu.eq hu0) ?_
 refine TL.p Pu.mv ?_
 refine TL.guard (t := 9) rfl (fun hg5 => ?_) (fun hg5 => ?_)
 refine TL.gs ?_
 refine TL.gs ?_
 refine TL.gs ?_
 refine TL.p Pu.kt ?_
 refine TL.nil ?_
 exact TQ.sub (by repeat (first | exact trivial | refine ⟨rfl, ?_⟩ | refine ⟨trivial, ?_⟩ | refine ⟨(by show some (Value.bool _) = some (Value.bool _); first | (simp [hg5]; done) | (refine congrArg (fun z => some (Value.bool z)) (Bool.eq_iff_iff.2 ?_); simp [hg5]; omega)), ?_⟩)) ks9 hJ1
 refine TL.gd Pu.mv ?_
 refine TL.gd (Pu.sln Tryz.underlying9) ?_
 refine TL.gd (Pu.bv Pu.gt hu1) ?_
 refine TL.p Pu.kf ?_
 refine TL.nil ?_
 exact TQ.sub (by repeat (first | exact trivial | refine ⟨rfl, ?_⟩ | refine ⟨trivial, ?_⟩ | refine ⟨(by show some (Value.bool _) = some (Value.bool _); first | (simp [hg5]; done) | (refine congrArg (fun z => some (Value.bool z)) (Bool.eq_iff_iff.2 ?_); simp [hg5]; omega)), ?_⟩)) ks9 hJ1
end Go.Proofs.YtfgnbkegdjkdmaaGreatDoor
namespace Go.Proofs.YtfgnbkegdjkdmaaGreatDoor
set_option linter.all false
set_option linter.unusedVariables false
set_option linter.unusedSimpArgs false
open Go.RowKit
section
variable {c : Cx} {Q : Exit → Act → World → Prop} {F : Fr} {K K' : List Fact} {ops : Array Oper} {rest : List Oper}
theorem Sat.ob {S : List Nat} {w0 w : World} {b n : Nat} {E : TypeId} {sz : Nat} {r : Nat → List Value} {cs : List Value} (h : Sat S w0 (.blk b E cs :: K) w) (hr : flatR n r = cs) (hl : ∀ i, i < n → (r i).length = sz) (hz : Nat.blt 0 sz = true) (hn : Nat.ble n 1000000 = true) : Sat S w0 (.own (some ⟨b, 0, none⟩) n n E sz r :: K) w :=
 h.sub (KSub.ofBlk Pick.hd hr hl hz hn (KSub.refl _))
theorem TL.obn {b n : Nat} {E : TypeId} {sz : Nat} {r : Nat → List Value} {cs : List Value} (hp : Pick K (.blk b E cs) K') (hr : flatR n r = cs) (hl : ∀ i, i < n → (r i).length = sz) (h : TL c ops Q rest F (.own (some ⟨b, 0, none⟩) n n E sz r :: K')) (hz : Nat.blt 0 sz = true := by rfl) (hn : Nat.ble n 1000000 = true := by rfl) : TL c ops Q rest F K := fun a w hF hK => h a w hF ((hK.pick hp).ob hr hl hz hn)
end
end Go.Proofs.YtfgnbkegdjkdmaaGreatDoor
namespace Go.Proofs.YtfgnbkegdjkdmaaGreatDoor
set_option linter.all false
set_option linter.unusedVariables false
set_option linter.unusedSimpArgs false
open Go.RowKit Go.Lib
def mkT (L : List (Nat × Nat)) : Nat → List Value := fun i => [.int .i64 ((L.getD i (0, 0)).1 : Int), .int .i64 ((L.getD i (0, 0)).2 : Int)]
theorem getD_sn {α : Type} {l : List α} {m d : α} {i : Nat} (hi : i < l.length + 1) : (l ++ [m]).getD i d = if i < l.length then l.getD i d else m := by
  simp only [List.getD_eq_getElem?_getD]
  by_cases h : i < l.length
  · rw [if_pos h, List.getElem?_append_left h]
  · obtain rfl : i = l.length := by omega
    rw [if_neg h, List.getElem?_append_right (Nat.le_refl _), Nat.sub_self]
    rfl
theorem mkT_app {L : List (Nat × Nat)} {x : Nat × Nat} {n : Nat} (hn : n = L.length) : ∀ i, i < n + 1 → catR n (mkT L) (fun _ => [.int .i64 (x.1 : Int), .int .i64 (x.2 : Int)]) i = mkT (L ++ [x]) i := fun i hi => by
 subst hn
 show (if i < L.length then [Value.int .i64 ((L.getD i (0, 0)).1 : Int), .int .i64 ((L.getD i (0, 0)).2 : Int)] else [.int .i64 (x.1 : Int), .int .i64 (x.2 : Int)]) = [.int .i64 (((L ++ [x]).getD i (0, 0)).1 : Int), .int .i64 (((L ++ [x]).getD i (0, 0)).2 : Int)]
 rw [getD_sn hi]
 split <;> rfl
theorem byte9 {u : UInt8} : decide ((u.toNat : Int) = 32) = decide (u = 32) := by
 rw [Bool.eq_iff_iff, decide_eq_true_eq, decide_eq_true_eq]
 have h2 : (32 : UInt8).toNat = 32 := rfl
 constructor
 · intro h
   exact UInt8.toNat_inj.1 (by omega)
 · rintro rfl
   rfl
set_option maxRecDepth 100000 in
set_option maxHeartbeats 4000000 in
theorem marks_any {t X : List UInt8} {p q : Nat} (ht : t.length ≤ 40000) (hpq : p ≤ q ∧ q ≤ t.length) (hX : X = (t.drop p).take (q - p)) (w : World) : CallsK Tryz.prog 30 #[sv t, .int .i64 (p : Int), .int .i64 (q : Int)] [] w (Option Addr × Nat) (fun x => .slice x.1 (mkR p X).length x.2) (fun x => [.own x.1 (mkR p X).length x.2 85 2 (mkT (mkR p X))]) := by
 have hXl : X.length = q - p := by rw [hX, List.length_take, List.length_drop]; omega
 have hXg : ∀ k, k < q - p → X.getD k 0 = t.getD (p + k) 0 := fun k hk => by
  rw [hX, List.getD_eq_getElem?_getD, List.getD_eq_getElem?_getD, List.getElem?_take, if_pos hk, List.getElem?_drop]
 refine K_enter (S := []) (K := []) Tryz.func30 rfl Tryz.ntmps30 rfl (Sat.start _) ?_
 refine TW.seq fun Y1 hY1 => TW.region ?_
 refine TL.p Pu.as ?_
 refine TL.nil (TQ.thenN (hY1 _ _ ?_))
 refine TW.seq fun Y2 hY2 => TW.region ?_
 refine TL.p Pu.as ?_
 refine TL.nil (TQ.thenN (hY2 _ _ ?_))
 refine TW.seq fun Y3 hY3 => TW.region ?_
 refine TL.p Pu.mv ?_
 refine TL.p Pu.as ?_
 refine TL.nil (TQ.thenN (hY3 _ _ ?_))
 refine TW.seq fun Y4 hY4 => ?_
 refine TW.seq fun Y5 hY5 => TW.region ?_
 refine TL.p Pu.mv ?_
 refine TL.p Pu.as ?_
 refine TL.nil (TQ.thenN (hY5 _ _ ?_))
 refine TW.block ?_
 refine TW.loop6 (fun (k : Nat) (st : Nat) (ln : Nat) (L : List (Nat × Nat)) (A : Option Addr) (c : Nat) => [(9, .int .i64 ((p + k : Nat) : Int)), (8, .int .i64 (st : Int)), (7, .slice A ln c), (0, sv t), (2, .int .i64 (q : Int))]) (fun k st ln L A c => [.own A ln c 85 2 (mkT L)]) (fun k st ln L A c => MkI p X k st L ∧ ln = L.length ∧ k ≤ q - p + 1) (fun k st ln L A c => q + 1 - p - k) 0 p 0 [] none 0 fs9 ?_ ?_ ?_
 exact KSub.nilOwn KSub.nil
 exact ⟨mkI_start, rfl, Nat.zero_le _⟩
 rintro k st ln L A c ⟨hI, hln, hkq⟩ Z0 hZ0
 obtain ⟨u, hu⟩ : ∃ u, t.getD (p + k) 0 = u := ⟨_, rfl⟩
 obtain ⟨g0, hq0⟩ : ∃ b, decide (((p + k : Nat) : Int) < (q : Int)) = b := ⟨_, rfl⟩
 obtain ⟨g1, hq1⟩ : ∃ b, decide ((u.toNat : Int) = 32) = b := ⟨_, rfl⟩
 have hgu : g0 = true → t[p + k]? = some u := fun h => by
  rw [h] at hq0
  have := of_decide_eq_true hq0
  rw [← hu]
  exact get9 (by omega)
 have hlL : L.length ≤ 40002 := by
  rcases hI with ⟨h1, d, w9, h2, _, h3, _⟩ | ⟨_, _, h3⟩
  have h4 := mkE_len (c := 32) (a := X.take k)
  rw [h3, mkP_len]
  have h5 : ∀ {l : List (List UInt8)}, l.length ≤ mkE l := by
   intro l
   induction l with
   | nil => exact Nat.le_refl _
   | cons y l ih => unfold mkE; rw [List.length_cons]; omega
  have h6 := h5 (l := d)
  rw [h2, mkE_app, List.length_take] at h4
  omega
  have h4 := mkE_len (c := 32) (a := X)
  rw [h3, mkP_len]
  have h5 : ∀ {l : List (List UInt8)}, l.length ≤ mkE l := by
   intro l
   induction l with
   | nil => exact Nat.le_refl _
   | cons y l ih => unfold mkE; rw [List.length_cons]; omega
  have h6 := h5 (l := spW 32 X)
  omega
 refine TW.seq fun Y6 hY6 => ?_
 refine TW.seq fun Y7 hY7 => TW.region ?_
 refine TL.p Pu.mv ?_
 refine TL.p Pu.mv ?_
 refine TL.p Pu.le ?_
 refine TL.nil (TQ.thenN (hY7 _ _ ?_))
 refine TW.cond rfl (fun hc0 => ?_) (fun hc0 => ?_)
 try simp only [zcb9] at hc0
 have hkl : k ≤ q - p := by omega
 refine TW.skip ?_
 refine TQ.thenN (hY6 _ _ ?_)
 refine TW.seq fun Y8 hY8 => ?_
 refine TW.block ?_
 refine TW.seq fun Y9 hY9 => ?_
 refine TW.seq fun Y10 hY10 => ?_
 refine TW.join [(25, .bool (g0 && !g1))] ?_ (fun hJ1 => ?_)
 refine TQ.thenN (hY10 _ _ ?_)
 refine TW.cond rfl (fun hc1 => ?_) (fun hc1 => ?_)
 try simp only [zcb9] at hc1
 have hI2 : MkI p X (k + 1) st L := by
  obtain ⟨h1, h2⟩ := hc1
  rw [h1] at hq0
  have h3 := of_decide_eq_true hq0
  refine mkI_more hI (by omega) ?_
  rw [hXg k (by omega), hu]
  intro h4
  rw [h4] at hq1
  rw [← hq1] at h2
  exact absurd h2 (by decide)
 refine TW.exit ?_
 refine TQ.thenX ?_
 refine TQ.blkX ?_
 refine TQ.thenN (hY8 _ _ ?_)
 refine TW.region ?_
 refine TL.p Pu.mv ?_
 refine TL.p Pu.ad ?_
 refine TL.p Pu.as ?_
 refine TL.nil ?_
 refine TQ.thenN (hZ0 (k + 1) (by first | exact (fun _ => p + k + 1) hne | exact st) (by first | exact (fun _ => ln + 1) hne | exact ln) (by first | exact (fun _ => L ++ [(st, p + k)]) hne | exact L) (by first | exact A2 | exact A) (by first | exact c2 | exact c) _ _ ?_ ?_ fs9 ?_)
 first | exact ⟨hI2, hln, by omega⟩ | exact ⟨hI2, by rw [List.length_append, hln]; rfl, by omega⟩
 exact zom9
 first | exact KSub.own pk9 (mkT_app hln) KSub.nil | exact ks9
 try simp only [zcb9] at hc1
 have hW := mkI_word hI (by omega) (fun hlt => by
  rw [hXg k (by omega), hu]
  rcases hc1 with h | h
  rw [h] at hq0; have := of_decide_eq_false hq0; omega
  rw [byte9] at hq1; rw [h] at hq1; exact of_decide_eq_true hq1)
 refine TW.skip ?_
 refine TQ.thenN (hY9 _ _ ?_)
 refine TW.seq fun Y11 hY11 => ?_
 refine TW.seq fun Y12 hY12 => TW.region ?_
 refine TL.p Pu.mv ?_
 refine TL.p Pu.mv ?_
 refine TL.p Pu.eq ?_
 refine TL.nil (TQ.thenN (hY12 _ _ ?_))
 refine TW.cond rfl (fun hc2 => ?_) (fun hc2 => ?_)
 try simp only [zcb9] at hc2
 have hnone := mkR_none (p := p) (hW.1 (by omega))
 refine TW.seq fun Y13 hY13 => TW.region ?_
 refine TL.p Pu.as ?_
 refine TL.nil (TQ.thenN (hY13 _ _ ?_))
 refine TW.ret ?_
 refine TQ.thenR ?_
 refine TQ.blkR ?_
 refine TQ.thenR ?_
 refine TQ.thenR ?_
 refine TQ.blkR ?_
 refine TQ.thenR ?_
 refine TQ.ret Tryz.results30 rfl ((.tmp rfl .nil)) ?_
 first
 | exact fun w hw => ⟨(none, 0), by rw [hnone]; rfl, by rw [hnone]; exact hw.sub (KSub.nilOwn KSub.nil)⟩
 | exact fun w hw => ⟨(A, c), by rw [hke, hln]; rfl, by rw [hke, ← hln]; exact hw⟩
 | trace_state
 try simp only [zcb9] at hc2
 have hne : p + k ≠ st := by omega
 have hI2 := hW.2 hne
 refine TW.skip ?_
 refine TQ.thenN (hY11 _ _ ?_)
 refine TW.seq fun Y14 hY14 => TW.region ?_
 refine TL.p Pu.mv ?_
 refine TL.p Pu.mv ?_
 refine TL.p Pu.mv ?_
 refine TL.p Pu.bd ?_
 refine TL.m Mk.bl ?_
 intro b1
 refine TL.obn (n := 1) (sz := 2) (r := fun _ => [.int .i64 (st : Int), .int .i64 ((p + k : Nat) : Int)]) pk9 (by rfl) (fun _ _ => rfl) ?_
 first | refine TL.a0 ty_et80 ?_ | refine TL.ap ty_et80 ?_
 intro A2 c2
 refine TL.p Pu.as ?_
 refine TL.nil (TQ.thenN (hY14 _ _ ?_))
 refine TW.region ?_
 refine TL.p Pu.mv ?_
 refine TL.p Pu.ad ?_
 refine TL.p Pu.as ?_
 refine TL.nil ?_
 refine TQ.blkN ?_
 refine TQ.thenN (hY8 _ _ ?_)
 refine TW.region ?_
 refine TL.p Pu.mv ?_
 refine TL.p Pu.ad ?_
 refine TL.p Pu.as ?_
 refine TL.nil ?_
 refine TQ.thenN (hZ0 (k + 1) (by first | exact (fun _ => p + k + 1) hne | exact st) (by first | exact (fun _ => ln + 1) hne | exact ln) (by first | exact (fun _ => L ++ [(st, p + k)]) hne | exact L) (by first | exact A2 | exact A) (by first | exact c2 | exact c) _ _ ?_ ?_ fs9 ?_)
 first | exact ⟨hI2, hln, by omega⟩ | exact ⟨hI2, by rw [List.length_append, hln]; rfl, by omega⟩
 exact zom9
 first | exact KSub.own pk9 (mkT_app hln) KSub.nil | exact ks9
 refine TW.region ?_
 refine TL.p Pu.mv ?_
 refine TL.p Pu.mv ?_
 refine TL.p (Pu.bv Pu.lt hq0) ?_
 refine TL.p Pu.mv ?_
 refine TL.guard (t := 20) rfl (fun hg1 => ?_) (fun hg1 => ?_)
 refine TL.gd Pu.mv ?_
 refine TL.gd Pu.mv ?_
 refine TL.gd (Pu.six (k := p + k) Tryz.underlying9 (hgu (by assumption)) (hk := Int.toNat_natCast _)) ?_
 refine TL.gd (Pu.bv (b' := !g1) Pu.ne (congrArg Bool.not hq1)) ?_
 refine TL.p Pu.kt ?_
 refine TL.nil ?_
 exact TQ.sub (by repeat (first | exact trivial | refine ⟨rfl, ?_⟩ | refine ⟨trivial, ?_⟩ | refine ⟨(by show some (Value.bool _) = some (Value.bool _); first | (simp [hg1]; done) | (refine congrArg (fun z => some (Value.bool z)) (Bool.eq_iff_iff.2 ?_); simp [hg1]; omega)), ?_⟩)) ks9 hJ1
 refine TL.gs ?_
 refine TL.gs ?_
 refine TL.gs ?_
 refine TL.gs ?_
 refine TL.p Pu.kf ?_
 refine TL.nil ?_
 exact TQ.sub (by repeat (first | exact trivial | refine ⟨rfl, ?_⟩ | refine ⟨trivial, ?_⟩ | refine ⟨(by show some (Value.bool _) = some (Value.bool _); first | (simp [hg1]; done) | (refine congrArg (fun z => some (Value.bool z)) (Bool.eq_iff_iff.2 ?_); simp [hg1]; omega)), ?_⟩)) ks9 hJ1
 try simp only [zcb9] at hc0
 have hke : mkR p X = L := mkI_end hI (by omega)
 refine TW.exit ?_
 refine TQ.thenX ?_
 refine TQ.thenX ?_
 refine TQ.blkX ?_
 refine TQ.thenN (hY4 _ _ ?_)
 refine TW.seq fun Y15 hY15 => TW.region ?_
 refine TL.p Pu.mv ?_
 refine TL.p Pu.as ?_
 refine TL.nil (TQ.thenN (hY15 _ _ ?_))
 refine TW.ret ?_
 refine TQ.ret Tryz.results30 rfl ((.tmp rfl .nil)) ?_
 first
 | exact fun w hw => ⟨(none, 0), by rw [hnone]; rfl, by rw [hnone]; exact hw.sub (KSub.nilOwn KSub.nil)⟩
 | exact fun w hw => ⟨(A, c), by rw [hke, hln]; rfl, by rw [hke, ← hln]; exact hw⟩
 | trace_state
end Go.Proofs.YtfgnbkegdjkdmaaGreatDoor
namespace Go.Proofs.YtfgnbkegdjkdmaaGreatDoor
set_option linter.all false
set_option linter.unusedVariables false
set_option linter.unusedSimpArgs false
open Go.RowKit
section
variable {c : Cx} {Q : Exit → Act → World → Prop} {F F' : Fr} {K K' : List Fact}
end
theorem Sat.apartO {S : List Nat} {w0 w : World} {K1 K2 : List Fact} {A : Option Addr} {n c : Nat} {E : TypeId} {sz : Nat} {r : Nat → List Value} (h : Sat S w0 (K1 ++ K2) w) (hm : .own A n c E sz r ∈ K2) : Apart (feet K1) A := fun b hb hm1 => by
 have hnd := List.nodup_append.1 (feet_append K1 K2 ▸ h.nd)
 cases A with
 | none => cases hb
 | some a =>
  have e : a.block = b := by simpa using hb
  exact hnd.2.2 b hm1 b (List.mem_flatMap.2 ⟨_, hm, by simp [Fact.foot, e]⟩) rfl
end Go.Proofs.YtfgnbkegdjkdmaaGreatDoor
