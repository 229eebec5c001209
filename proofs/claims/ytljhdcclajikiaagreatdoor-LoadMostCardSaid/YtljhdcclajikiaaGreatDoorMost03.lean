/-
  Part 3 of the proof of loadMost_holds: declarations of several texts, in build order. No condition on a program.
-/
import Derived.Test.YtljhdcclajikiaaGreatDoorMost02
import Derived.MapKept
import Derived.Carry
import Derived.Lib.AppendZerosOnto
import Derived.Laws.OwnMore
namespace Go.Proofs.YtljhdcclajikiaaGreatDoor
set_option linter.all false
set_option linter.unusedVariables false
set_option linter.unusedSimpArgs false
open Go.RowKit
section
variable {c : Cx} {Q : Exit → Act → World → Prop} {F F' : Fr} {K K' : List Fact} {ops : Array Oper} {rest : List Oper} {d : Option Tmp} {ty : TypeId} {pos : String} {af : Array Edge} {g : Option (Nat × Bool)} {nf k fuel : Nat} {pend : List (Nat × Oper)} {fl : List Fl} {listed : Array Bool} {bs : List Bool} {op : Op} {t : Nat}
theorem TL.p {v : Value} (hp : Pu c F K ⟨some t, op, ty, pos, af, none⟩ v) (h : TL c ops Q rest ((t, v) :: F) K) (hd : Nat.blt t c.n = true := by rfl) : TL c ops Q (⟨some t, op, ty, pos, af, none⟩ :: rest) F K := TL.pure hp hd h
theorem TL.gd {v : Value} (hp : Pu c F K ⟨some t, op, ty, pos, af, g⟩ v) (h : TL c ops Q rest ((t, v) :: F) K) (hg : gdB F ops g = some true := by rfl) (hd : Nat.blt t c.n = true := by rfl) : TL c ops Q (⟨some t, op, ty, pos, af, g⟩ :: rest) F K := TL.gpure hg hp hd h
theorem TL.gs (h : TL c ops Q rest ((t, undef) :: F) K) (hg : gdB F ops g = some false := by rfl) (hd : Nat.blt t c.n = true := by rfl) : TL c ops Q (⟨some t, op, ty, pos, af, g⟩ :: rest) F K := TL.gskip hg hd h
theorem TL.m {v : Nat → Value} {T : TypeId} {cs : List Value} (hm : Mk c F K ⟨d, op, ty, pos, af, none⟩ v T cs) (h : ∀ b, TL c ops Q rest (fput F d (v b)) (.blk b T cs :: K)) (hd : dok d c.n = true := by rfl) : TL c ops Q (⟨d, op, ty, pos, af, none⟩ :: rest) F K := TL.mk hm hd h
theorem RK.tk {v : Value} (hp : Pu c F K ⟨some t, op, ty, pos, af, g⟩ v) (h : RK c ops Q nf (k + 1) rest pend fl (listed.setIfInBounds k true) fuel ((t, v) :: F) K) (hk : takeB ops nf listed k = true := by kernel_rfl) (hg : gdB F (frontOf ops nf) g = some true := by rfl) (hd : Nat.blt t c.n = true := by rfl) :
    RK c ops Q nf k (⟨some t, op, ty, pos, af, g⟩ :: rest) pend fl listed (fuel + 1) F K := RK.take hk hg hp hd h
theorem RK.s (h : RK c ops Q nf (k + 1) rest pend fl (listed.setIfInBounds k true) fuel ((t, undef) :: F) K) (hk : takeB ops nf listed k = true := by kernel_rfl) (hg : gdB F (frontOf ops nf) g = some false := by rfl) (hd : Nat.blt t c.n = true := by rfl) :
    RK c ops Q nf k (⟨some t, op, ty, pos, af, g⟩ :: rest) pend fl listed (fuel + 1) F K := RK.skip hk hg hd h
theorem WK.p {i : Nat} {v : Value} (hp : Pu c F K ⟨some t, op, ty, pos, af, g⟩ v) (h : WK c ops Q nf fl bs pend ((t, v) :: F) K) (hg : gdB F (frontOf ops nf) g = some true := by rfl) (hd : Nat.blt t c.n = true := by rfl) : WK c ops Q nf fl (true :: bs) ((i, ⟨some t, op, ty, pos, af, g⟩) :: pend) F K := WK.pure hg hp hd h
theorem WK.m {i : Nat} {v : Nat → Value} {T : TypeId} {cs : List Value} (hm : Mk c F K ⟨d, op, ty, pos, af, none⟩ v T cs) (h : ∀ b, WK c ops Q nf fl bs pend (fput F d (v b)) (.blk b T cs :: K)) (hd : dok d c.n = true := by rfl) : WK c ops Q nf fl (false :: bs) ((i, ⟨d, op, ty, pos, af, none⟩) :: pend) F K := WK.mk hm hd h
theorem RK.ch (bs : List Bool) (h : WK c ops Q nf fl bs pend F K) (hz : zrAll c.P fl) (hb : checkB2 (frontOf ops nf) listed (flagged bs pend) (keys fl) = true := by kernel_rfl) (hfu : decide ((flagged bs pend).length + fl.length ≤ fuel) = true := by kernel_rfl) : RK c ops Q nf k [] pend fl listed fuel F K := RK.chain bs hb hfu hz h
theorem WK.ps {i : Nat} (h : WK c ops Q nf fl bs pend ((t, undef) :: F) K) (hg : gdB F (frontOf ops nf) g = some false := by rfl) (hd : Nat.blt t c.n = true := by rfl) : WK c ops Q nf fl (true :: bs) ((i, ⟨some t, op, ty, pos, af, g⟩) :: pend) F K := WK.pskip hg hd h
theorem WK.gs {i : Nat} (h : WK c ops Q nf fl bs pend ((t, undef) :: F) K) (hg : gdB F (frontOf ops nf) g = some false := by rfl) (hd : Nat.blt t c.n = true := by rfl) : WK c ops Q nf fl (false :: bs) ((i, ⟨some t, op, ty, pos, af, g⟩) :: pend) F K := WK.gskip hg hd h
theorem TW.dw {id : Nat} {l : List Oper} (nf : Nat) (h : RK c l.toArray Q nf 0 (l.take nf) [] [] (Array.replicate nf false) nf F K) (hm : c.P.follows .mixedOrders = true := by rfl) (hT : tailOk l.toArray nf = true := by kernel_rfl) (hp : Pan Q := by (intro d _ _ _ _; cases d <;> exact Iff.rfl)) : TW c (.region id l.toArray true) Q F K := TW.draw nf hm hT hp h
theorem Pu.mv {x : Operand} {v : Value} (hx : ev F x = some v := by rfl) : Pu c F K ⟨d, .move x, ty, pos, af, g⟩ v := Pu.move hx
theorem Pu.as {x : Operand} {v : Value} (hx : ev F x = some v := by rfl) : Pu c F K ⟨d, .assign x, ty, pos, af, g⟩ v := Pu.assign hx
theorem Pu.ex {x : Operand} {vs : Array Value} {i : Nat} {v : Value} (hx : ev F x = some (.tuple vs) := by rfl) (hv : vs[i]? = some v := by rfl) : Pu c F K ⟨d, .extract x i, ty, pos, af, g⟩ v := Pu.extract hx hv
theorem Pu.fn {f : Fn} {xs ys : List Operand} {us vs : List Value} (hx : evs F xs = some us := by rfl) (hy : evs F ys = some vs := by rfl) : Pu c F K ⟨d, .makeFunc f xs.toArray ys.toArray, ty, pos, af, g⟩ (.func f us.toArray vs.toArray) := Pu.func hx hy
theorem Pu.ld {x : Operand} {T : TypeId} {q : Option Addr} {v : Value} (hT : Sc c.P T) (hx : ev F x = some (.pointer q) := by rfl) (hq : Cells c K q [v] := by first | exact Cells.blk (m := 1) (by repeat (first | exact Pick.hd | apply Pick.tl)) (by repeat (first | exact SubL.nil | apply SubL.take | apply SubL.drop)) | exact Cells.old (m := 1) (by assumption) (by first | exact Apart.nil | assumption) (by omega) (by repeat (first | exact SubL.nil | apply SubL.take | apply SubL.drop)) | exact Cells.own (m := 1) (by repeat (first | exact Pick.hd | apply Pick.tl)) (by omega) (by repeat (first | exact SubL.nil | apply SubL.take | apply SubL.drop))) :
    Pu c F K ⟨d, .load T x, ty, pos, af, g⟩ v := Pu.load hx hT hq
def CellsN (c : Cx) (K : List Fact) (q : Option Addr) (m : Nat) (vs : List Value) : Prop := Cells c K q vs ∧ vs.length = m
theorem CellsN.blk {b off m : Nat} {T : TypeId} {cs vs : List Value} (hp : Pick K (.blk b T cs) K') (hs : SubL cs off m vs) : CellsN c K (some ⟨b, off, none⟩) m vs := ⟨Cells.blk hp hs, hs.spec.1⟩
theorem CellsN.old {sz n i j m : Nat} {A : Option Addr} {r : Nat → List Value} {vs : List Value} (h : RdR c.w0 sz A n r) (hS : Apart c.S A) (hk : i < n) (hs : SubL (r i) j m vs) : CellsN c K (elA A i sz j) m vs := ⟨Cells.old h hS hk hs, hs.spec.1⟩
theorem CellsN.own {A : Option Addr} {n cp i j m : Nat} {E : TypeId} {sz : Nat} {r : Nat → List Value} {vs : List Value} (hp : Pick K (.own A n cp E sz r) K') (hk : i < n) (hs : SubL (r i) j m vs) : CellsN c K (elA A i sz j) m vs := ⟨Cells.own hp hk hs, hs.spec.1⟩
theorem Pu.lds {x : Operand} {T : TypeId} {m : Nat} {q : Option Addr} {vs : List Value} (hT : Ag c.P T m) (hx : ev F x = some (.pointer q) := by rfl) (hq : CellsN c K q m vs := by first | exact CellsN.blk (by repeat (first | exact Pick.hd | apply Pick.tl)) (by repeat (first | exact SubL.nil | apply SubL.take | apply SubL.drop)) | exact CellsN.old (by assumption) (by first | exact Apart.nil | assumption) (by omega) (by repeat (first | exact SubL.nil | apply SubL.take | apply SubL.drop)) | exact CellsN.own (by repeat (first | exact Pick.hd | apply Pick.tl)) (by omega) (by repeat (first | exact SubL.nil | apply SubL.take | apply SubL.drop))) :
    Pu c F K ⟨d, .load T x, ty, pos, af, g⟩ (.agg vs.toArray) := Pu.loads hx hT hq.1 hq.2
theorem Pu.nn {x : Operand} {v : Value} (hx : ev F x = some v := by rfl) (hv : notNil v = true := by rfl) : Pu c F K ⟨d, .nilCheck x, ty, pos, af, g⟩ v := Pu.nil hx hv
theorem Pu.nc {x : Operand} {q : Option Addr} (hx : ev F x = some (.pointer q) := by rfl) {vs : List Value} (hq : CellsN c K q 0 vs := by first | exact CellsN.blk (by repeat (first | exact Pick.hd | apply Pick.tl)) (by repeat (first | exact SubL.nil | apply SubL.take | apply SubL.drop)) | exact CellsN.old (by assumption) (by first | exact Apart.nil | assumption) (by omega) (by repeat (first | exact SubL.nil | apply SubL.take | apply SubL.drop)) | exact CellsN.own (by repeat (first | exact Pick.hd | apply Pick.tl)) (by omega) (by repeat (first | exact SubL.nil | apply SubL.take | apply SubL.drop))) : Pu c F K ⟨d, .nilCheck x, ty, pos, af, g⟩ (.pointer q) := Pu.nilC hx hq.1
theorem Pu.fb {x : Operand} {T i o b off : Nat} (hf : FieldAt c.P T i o) (hx : ev F x = some (.pointer (some ⟨b, off, none⟩)) := by rfl) : Pu c F K ⟨d, .fieldAddr T x i, ty, pos, af, g⟩ (.pointer (some ⟨b, off + o, none⟩)) := Pu.fieldAt hx hf
theorem Pu.fe {x : Operand} {T i o j sz q : Nat} {A : Option Addr} (hf : FieldAt c.P T i o) (hx : ev F x = some (.pointer (elA A q sz j)) := by rfl) {vs : List Value} (hq : CellsN c K (elA A q sz j) 0 vs := by first | exact CellsN.old (by assumption) (by first | exact Apart.nil | assumption) (by omega) (by repeat (first | exact SubL.nil | apply SubL.take | apply SubL.drop)) | exact CellsN.own (by repeat (first | exact Pick.hd | apply Pick.tl)) (by omega) (by repeat (first | exact SubL.nil | apply SubL.take | apply SubL.drop))) : Pu c F K ⟨d, .fieldAddr T x i, ty, pos, af, g⟩ (.pointer (elA A q sz (j + o))) := Pu.fieldEl hx hf hq.1
theorem Pu.el {T E : TypeId} {sz bytes : Nat} {x y : Operand} {A : Option Addr} {n cp q : Nat} {kk : IntKind} {i : Int} (hT : ElemT c.P T E sz bytes) (hx : ev F x = some (.slice A n cp) := by rfl) (hy : ev F y = some (.int kk i) := by rfl) (hk : i.toNat = q := by first | exact tnS _ | exact Int.toNat_natCast _ | exact tnA _ _ | rfl) (h0 : 0 ≤ i := by omega) (h1 : i < n := by omega) {vs : List Value}
    (hA : CellsN c K (elA A q sz 0) 0 vs := by first | exact CellsN.old (by assumption) (by first | exact Apart.nil | assumption) (by omega) SubL.nil | exact CellsN.own (by repeat (first | exact Pick.hd | apply Pick.tl)) (by omega) SubL.nil) : Pu c F K ⟨d, .indexAddr T x y, ty, pos, af, g⟩ (.pointer (elA A q sz 0)) := Pu.elem hT hx hy hk h0 h1 hA.1
theorem Pu.ln {T E : TypeId} {x : Operand} {A : Option Addr} {n cp : Nat} (ht : c.P.underlying T = some (.slice E)) (hx : ev F x = some (.slice A n cp) := by rfl) : Pu c F K ⟨d, .call { callee := .builtin .len, args := #[x], argTypes := #[T] }, ty, pos, af, g⟩ (.int .i64 n) := Pu.len ht hx
section
variable {x y : Operand} {xt yt : TypeId} {i j : Int} {kk : IntKind}
theorem Pu.ad (hx : ev F x = some (.int .i64 i) := by rfl) (hy : ev F y = some (.int .i64 j) := by rfl) (h : -9223372036854775808 ≤ i + j ∧ i + j ≤ 9223372036854775807 := by omega) : Pu c F K ⟨d, .binOp .add xt x y yt, ty, pos, af, g⟩ (.int .i64 (i + j)) := Pu.add hx hy h
theorem Pu.sb (hx : ev F x = some (.int .i64 i) := by rfl) (hy : ev F y = some (.int .i64 j) := by rfl) (h : -9223372036854775808 ≤ i - j ∧ i - j ≤ 9223372036854775807 := by omega) : Pu c F K ⟨d, .binOp .sub xt x y yt, ty, pos, af, g⟩ (.int .i64 (i - j)) := Pu.sub hx hy h
theorem Pu.ml (hx : ev F x = some (.int .i64 i) := by rfl) (hy : ev F y = some (.int .i64 j) := by rfl) (h : -9223372036854775808 ≤ i * j ∧ i * j ≤ 9223372036854775807 := by omega) : Pu c F K ⟨d, .binOp .mul xt x y yt, ty, pos, af, g⟩ (.int .i64 (i * j)) := Pu.mul hx hy h
theorem Pu.lt (hx : ev F x = some (.int kk i) := by rfl) (hy : ev F y = some (.int kk j) := by rfl) : Pu c F K ⟨d, .binOp .lss xt x y yt, ty, pos, af, g⟩ (.bool (decide (i < j))) := Pu.lss hx hy
theorem Pu.le (hx : ev F x = some (.int kk i) := by rfl) (hy : ev F y = some (.int kk j) := by rfl) : Pu c F K ⟨d, .binOp .leq xt x y yt, ty, pos, af, g⟩ (.bool (decide (i ≤ j))) := Pu.leq hx hy
theorem Pu.gt (hx : ev F x = some (.int kk i) := by rfl) (hy : ev F y = some (.int kk j) := by rfl) : Pu c F K ⟨d, .binOp .gtr xt x y yt, ty, pos, af, g⟩ (.bool (decide (j < i))) := Pu.gtr hx hy
theorem Pu.ge (hx : ev F x = some (.int kk i) := by rfl) (hy : ev F y = some (.int kk j) := by rfl) : Pu c F K ⟨d, .binOp .geq xt x y yt, ty, pos, af, g⟩ (.bool (decide (j ≤ i))) := Pu.geq hx hy
theorem Pu.eq (hx : ev F x = some (.int kk i) := by rfl) (hy : ev F y = some (.int kk j) := by rfl) : Pu c F K ⟨d, .binOp .eql xt x y yt, ty, pos, af, g⟩ (.bool (decide (i = j))) := Pu.eql hx hy
theorem Pu.ne (hx : ev F x = some (.int kk i) := by rfl) (hy : ev F y = some (.int kk j) := by rfl) : Pu c F K ⟨d, .binOp .neq xt x y yt, ty, pos, af, g⟩ (.bool (!decide (i = j))) := Pu.neq hx hy
theorem Pu.no {b : Bool} (hx : ev F x = some (.bool b) := by rfl) : Pu c F K ⟨d, .unOp .not xt x, ty, pos, af, g⟩ (.bool !b) := Pu.not hx
theorem Pu.ng (hx : ev F x = some (.int .i64 i) := by rfl) (h : -9223372036854775807 ≤ i ∧ i ≤ 9223372036854775807 := by omega) : Pu c F K ⟨d, .unOp .neg xt x, ty, pos, af, g⟩ (.int .i64 (-i)) := Pu.neg hx h
theorem Pu.mx (hx : ev F x = some (.int kk i) := by rfl) (hy : ev F y = some (.int kk j) := by rfl) {ts : Array TypeId} : Pu c F K ⟨d, .call { callee := .builtin .max, args := #[x, y], argTypes := ts }, ty, pos, af, g⟩ (.int kk (Max.max i j)) := Pu.max hx hy
theorem Pu.mn (hx : ev F x = some (.int kk i) := by rfl) (hy : ev F y = some (.int kk j) := by rfl) {ts : Array TypeId} : Pu c F K ⟨d, .call { callee := .builtin .min, args := #[x, y], argTypes := ts }, ty, pos, af, g⟩ (.int kk (Min.min i j)) := Pu.min hx hy
theorem Pu.bn {op : BinOp} {u v r : Value} (hx : ev F x = some u := by rfl) (hy : ev F y = some v := by rfl) (hr : ∀ w, (do eqGuard op xt x y u v; binOp op xt u v : Sem Value).run c.P w = .ok r w := by (intro w; go_simp; rfl)) : Pu c F K ⟨d, .binOp op xt x y yt, ty, pos, af, g⟩ r := Pu.bin hx hy hr
theorem Pu.kt {z : Operand} {u : Value} (hz : ev F z = some (.bool true) := by rfl) (hx : ev F x = some u := by rfl) : Pu c F K ⟨d, .pick z x y, ty, pos, af, g⟩ u := Pu.pickT hz hx
theorem Pu.kf {z : Operand} {u : Value} (hz : ev F z = some (.bool false) := by rfl) (hy : ev F y = some u := by rfl) : Pu c F K ⟨d, .pick z x y, ty, pos, af, g⟩ u := Pu.pickF hz hy
end
theorem Pu.bd {T : TypeId} {ps : List (Nat × Operand)} {vs : List (Nat × Value)} {v : Value} (hx : evp F ps = some vs := by rfl) (hr : ∀ w, (Instr.build T vs.toArray).run c.P w = .ok v w := by (intro w; go_simp; rfl)) : Pu c F K ⟨d, .build T ps.toArray, ty, pos, af, g⟩ v := Pu.build hx hr
theorem Pu.fd {T i : Nat} {x : Operand} {u v : Value} (hx : ev F x = some u := by rfl) (hr : ∀ w, (Instr.field T u i).run c.P w = .ok v w := by (intro w; go_simp; rfl)) : Pu c F K ⟨d, .field T x i, ty, pos, af, g⟩ v := Pu.field hx hr
theorem Pu.ix {T : TypeId} {x y : Operand} {u u' v : Value} (hx : ev F x = some u := by rfl) (hy : ev F y = some u' := by rfl) (hr : ∀ w, (Instr.index T u u').run c.P w = .ok v w := by (intro w; go_simp; rfl)) : Pu c F K ⟨d, .index T x y, ty, pos, af, g⟩ v := Pu.index hx hy hr
theorem Pu.cv {S T : TypeId} {x : Operand} {u v : Value} (hx : ev F x = some u := by rfl) (hr : ∀ w, (convert S T u).run c.P w = .ok v w := by (intro w; go_simp; rfl)) : Pu c F K ⟨d, .convert S T x, ty, pos, af, g⟩ v := Pu.conv hx hr
theorem Pu.fc {T : TypeId} {x : Operand} {u v : Value} (hx : ev F x = some u := by rfl) (hr : ∀ w, (Instr.makeInterface T u).run c.P w = .ok v w := by (intro w; go_simp; rfl)) : Pu c F K ⟨d, .makeInterface T x, ty, pos, af, g⟩ v := Pu.iface hx hr
theorem Mk.al {T : TypeId} {zs : List Value} (hT : Zr c.P T zs) : Mk c F K ⟨d, .alloc T, ty, pos, af, g⟩ (fun b => .pointer (some ⟨b, 0, none⟩)) T zs := Mk.alloc hT
theorem Mk.bx {T : TypeId} {x : Operand} {v : Value} {vs : List Value} (hx : ev F x = some v := by rfl) (hv : v.cells = vs.toArray := by rfl) : Mk c F K ⟨d, .box T x, ty, pos, af, g⟩ (fun b => .pointer (some ⟨b, 0, none⟩)) T vs := Mk.box hx hv
theorem Mk.bl {T E : TypeId} {len : Nat} {ps : List (Nat × Operand)} {vs : List (Nat × Value)} {cs : List Value} (hx : evp F ps = some vs := by rfl) (hr : ∀ w, (Instr.buildSlice T len vs.toArray).run c.P w = .ok (.slice (some ⟨w.heap.size, 0, none⟩) len len) (w.alloc (.cells cs.toArray E)) := by (intro w; go_simp; rfl)) :
    Mk c F K ⟨d, .buildSlice T len ps.toArray, ty, pos, af, g⟩ (fun b => .slice (some ⟨b, 0, none⟩) len len) E cs := Mk.bslice hx hr
theorem TL.st {x y : Operand} {T : TypeId} {b off m : Nat} {v : Value} {vs cs cs' : List Value} {E : TypeId} (hT : Sz c.P T m) (h : TL c ops Q rest F (.blk b E cs' :: K')) (hx : ev F x = some (.pointer (some ⟨b, off, none⟩)) := by rfl) (hy : ev F y = some v := by rfl) (hv : v.cells = vs.toArray := by rfl) (h1 : vs.all Value.oneCell' = true := by rfl) (hm : vs.length = m := by rfl)
    (hp : Pick K (.blk b E cs) K' := by repeat (first | exact Pick.hd | apply Pick.tl)) (hput : PutL cs off vs cs' := by repeat (first | exact PutL.nil | apply PutL.put | apply PutL.pass)) : TL c ops Q (⟨none, .store T x y, ty, pos, af, none⟩ :: rest) F K := TL.store hx hy hv h1 hT hm hp hput h
theorem TL.se {x y : Operand} {T : TypeId} {A : Option Addr} {n cp i j m : Nat} {E : TypeId} {sz : Nat} {r : Nat → List Value} {v : Value} {vs row : List Value} (hT : Sz c.P T m) (h : TL c ops Q rest F (.own A n cp E sz (updR r i row) :: K')) (hx : ev F x = some (.pointer (elA A i sz j)) := by rfl) (hy : ev F y = some v := by rfl) (hv : v.cells = vs.toArray := by rfl) (h1 : vs.all Value.oneCell' = true := by rfl) (hm : vs.length = m := by rfl)
    (hp : Pick K (.own A n cp E sz r) K' := by repeat (first | exact Pick.hd | apply Pick.tl)) (hk : i < n := by omega) (hput : PutL (r i) j vs row := by repeat (first | exact PutL.nil | apply PutL.put | apply PutL.pass)) : TL c ops Q (⟨none, .store T x y, ty, pos, af, none⟩ :: rest) F K := TL.storeEl hx hy hv h1 hT hm hp hk hput h
theorem TL.a0 {x y : Operand} {T E : TypeId} {sz bytes : Nat} {A A2 : Option Addr} {cp m cp2 : Nat} {r s : Nat → List Value} (hT : ElemT c.P T E sz bytes) (h : ∀ A' cp', TL c ops Q rest (fput F d (.slice A' m cp')) (.own A' m cp' E sz s :: K')) (hx : ev F x = some (.slice A 0 cp) := by rfl) (hy : ev F y = some (.slice A2 m cp2) := by rfl) (hd : dok d c.n = true := by rfl)
    (hp : Pick K (.own A 0 cp E sz r) K' := by repeat (first | exact Pick.hd | apply Pick.tl)) (hsrc : Src c K sz A2 m s := by first | exact Src.blk1 (by repeat (first | exact Pick.hd | apply Pick.tl)) rfl | exact Src.old (by assumption) (by first | exact Apart.nil | assumption) | exact Src.own (by repeat (first | exact Pick.hd | apply Pick.tl))) (h1 : ∀ i, i < m → (s i).all Value.oneCell' = true := by first | (intro i hi; rfl) | assumption) (hm : m ≤ 1000000000 := by omega) (hby : bytes ≤ 10000 := by decide) :
    TL c ops Q (⟨d, .call { callee := .builtin .append, args := #[x, y], argTypes := #[T, T] }, ty, pos, af, none⟩ :: rest) F K := TL.app0 hT hx hy hd hp hsrc h1 hm hby h
theorem TL.ap {x y : Operand} {T E : TypeId} {sz bytes : Nat} {A A2 : Option Addr} {n cp m cp2 : Nat} {r s : Nat → List Value} (hT : ElemT c.P T E sz bytes) (h : ∀ A' cp', TL c ops Q rest (fput F d (.slice A' (n + m) cp')) (.own A' (n + m) cp' E sz (catR n r s) :: K')) (hx : ev F x = some (.slice A n cp) := by rfl) (hy : ev F y = some (.slice A2 m cp2) := by rfl) (hd : dok d c.n = true := by rfl)
    (hp : Pick K (.own A n cp E sz r) K' := by repeat (first | exact Pick.hd | apply Pick.tl)) (hsrc : Src c K sz A2 m s := by first | exact Src.blk1 (by repeat (first | exact Pick.hd | apply Pick.tl)) rfl | exact Src.old (by assumption) (by first | exact Apart.nil | assumption) | exact Src.own (by repeat (first | exact Pick.hd | apply Pick.tl))) (h1 : ∀ i, i < m → (s i).all Value.oneCell' = true := by first | (intro i hi; rfl) | assumption) (hm : n + m ≤ 1000000000 := by omega) (hby : bytes ≤ 10000 := by decide) :
    TL c ops Q (⟨d, .call { callee := .builtin .append, args := #[x, y], argTypes := #[T, T] }, ty, pos, af, none⟩ :: rest) F K := TL.app hT hx hy hd hp hsrc h1 hm hby h
theorem TL.cr {f : FuncId} {xs : List Operand} {ts : Array TypeId} {us : List Value} {v : Value} (hx : evs F xs = some us) (hen : Enters c.P f) (hc : ∀ w, Sat c.S c.w0 K w → Calls c.P f us.toArray w (Ret w v)) (h : TL c ops Q rest (fput F d v) K) (hg : gdB F ops g = some true := by rfl) (hd : dok d c.n = true := by rfl) :
    TL c ops Q (⟨d, .call { callee := .value (.func f), args := xs.toArray, argTypes := ts }, ty, pos, af, g⟩ :: rest) F K := TL.gcall hg hx hen hd hc h
theorem WK.cr {i : Nat} {f : FuncId} {xs : List Operand} {ts : Array TypeId} {us : List Value} {v : Value} (hx : evs F xs = some us) (hen : Enters c.P f) (hc : ∀ w, Sat c.S c.w0 K w → Calls c.P f us.toArray w (Ret w v)) (h : WK c ops Q nf fl bs pend (fput F d v) K) (hg : gdB F (frontOf ops nf) g = some true := by rfl) (hd : dok d c.n = true := by rfl) :
    WK c ops Q nf fl (false :: bs) ((i, ⟨d, .call { callee := .value (.func f), args := xs.toArray, argTypes := ts }, ty, pos, af, g⟩) :: pend) F K := WK.gcall hg hx hen hd hc h
theorem WK.n (h : FLK c ops Q nf fl F K) (hok : (fl.all fun f => Nat.blt f.d c.n) = true := by rfl) : WK c ops Q nf fl [] [] F K := WK.nil hok h
theorem RV.c1 {T : TypeId} {q : Option Addr} {v : Value} {rs : List ResultVar} {vs : List Value} (hT : Sc c.P T) (h : RV c F K rs vs) (hx : fget F t = some (.pointer q) := by rfl) (hq : CellsN c K q 1 [v] := by first | exact CellsN.blk (by repeat (first | exact Pick.hd | apply Pick.tl)) (by repeat (first | exact SubL.nil | apply SubL.take | apply SubL.drop))) : RV c F K (.cell t T :: rs) (v :: vs) := .cell hx hT hq.1 h
theorem RV.cs {m : Nat} {T : TypeId} {q : Option Addr} {us : List Value} {rs : List ResultVar} {vs : List Value} (hT : Ag c.P T m) (h : RV c F K rs vs) (hx : fget F t = some (.pointer q) := by rfl) (hq : CellsN c K q m us := by first | exact CellsN.blk (by repeat (first | exact Pick.hd | apply Pick.tl)) (by repeat (first | exact SubL.nil | apply SubL.take | apply SubL.drop))) : RV c F K (.cell t T :: rs) (.agg us.toArray :: vs) := .cells hx hT hq.1 hq.2 h
end
end Go.Proofs.YtljhdcclajikiaaGreatDoor
namespace Go.Proofs.YtljhdcclajikiaaGreatDoor
set_option linter.all false
set_option linter.unusedVariables false
set_option linter.unusedSimpArgs false
open Go.RowKit
inductive Drop (F : Fr) : List Fact → List Fact → Prop
  | done {K : List Fact} : Drop F K K
  | blk {K K1 K0 : List Fact} {b o : Nat} {T : TypeId} {cs : List Value} (x : Nat) : fget F x = some (.pointer (some ⟨b, o, none⟩)) → Pick K (.blk b T cs) K1 → Drop F K1 K0 → Drop F K K0
  | own {K K1 K0 : List Fact} {A : Option Addr} {n cp sz : Nat} {E : TypeId} {r : Nat → List Value} (x : Nat) : fget F x = some (.slice A n cp) → Pick K (.own A n cp E sz r) K1 → Drop F K1 K0 → Drop F K K0
theorem KSub.refl : ∀ K : List Fact, KSub K K
  | [] => .nil
  | _ :: K => .cons .hd (KSub.refl K)
def Has (K K0 : List Fact) : Prop := ∃ R, K.Perm (K0 ++ R)
theorem Has.sat {S : List Nat} {w0 w : World} {K K0 : List Fact} (h : Has K K0) (hs : Sat S w0 K w) : Sat S w0 K0 w := by
  obtain ⟨R, hp⟩ := h
  have h1 := hs.perm hp
  refine ⟨h1.chg, (List.nodup_append.1 (feet_append K0 R ▸ h1.nd)).1, fun b hb => h1.ge b (by rw [feet_append]; simp [hb]), fun φ hφ => h1.holds φ (by simp [hφ])⟩
theorem Drop.has {F : Fr} {K K0 : List Fact} (h : Drop F K K0) : Has K K0 := by
  induction h with
  | done => exact ⟨[], by simp⟩
  | blk x _ hp _ ih => obtain ⟨R, hR⟩ := ih; exact ⟨_ :: R, hp.perm.trans ((hR.cons _).trans List.perm_middle.symm)⟩
  | own x _ hp _ ih => obtain ⟨R, hR⟩ := ih; exact ⟨_ :: R, hp.perm.trans ((hR.cons _).trans List.perm_middle.symm)⟩
inductive HasL : List Fact → List Fact → Prop
  | nil {K : List Fact} : HasL K []
  | cons {K K1 L : List Fact} {φ : Fact} : Pick K φ K1 → HasL K1 L → HasL K (φ :: L)
theorem HasL.has {K L : List Fact} (h : HasL K L) : Has K L := by
  induction h with
  | @nil K => exact ⟨K, by simp⟩
  | cons hp _ ih => obtain ⟨R, hR⟩ := ih; exact ⟨R, hp.perm.trans (hR.cons _)⟩
section
variable {c : Cx} {Q : Exit → Act → World → Prop} {F F' : Fr} {K K' K0 : List Fact} {ops : Array Oper} {rest : List Oper} {d : Option Tmp} {ty : TypeId} {pos : String} {af : Array Edge} {g : Option (Nat × Bool)} {k fuel t : Nat} {pend : List (Nat × Oper)} {listed : Array Bool} {op : Op}
def Eq2 (P : Program) (T : TypeId) : Prop := ∀ (w : World) (x y : Operand) (i j m n : Int), (do eqGuard .eql T x y (.agg #[.int .i64 i, .int .i64 j]) (.agg #[.int .i64 m, .int .i64 n]); binOp .eql T (.agg #[.int .i64 i, .int .i64 j]) (.agg #[.int .i64 m, .int .i64 n]) : Sem Value).run P w = .ok (.bool (decide (i = m) && decide (j = n))) w
theorem Pu.q2 {x y : Operand} {xt yt : TypeId} {i j m n : Int} (hT : Eq2 c.P xt) (hx : ev F x = some (.agg #[.int .i64 i, .int .i64 j]) := by rfl) (hy : ev F y = some (.agg #[.int .i64 m, .int .i64 n]) := by rfl) : Pu c F K ⟨d, .binOp .eql xt x y yt, ty, pos, af, g⟩ (.bool (decide (i = m) && decide (j = n))) := Pu.bin hx hy fun w => hT w x y i j m n
theorem Pu.qu {x y : Operand} {xt yt : TypeId} {i j : Int} (hx : ev F x = some (.int .i64 i) := by rfl) (hy : ev F y = some (.int .i64 j) := by rfl) (h0 : 0 ≤ i ∧ i ≤ 9223372036854775807 ∧ 0 < j := by omega) : Pu c F K ⟨d, .binOp .quo xt x y yt, ty, pos, af, g⟩ (.int .i64 (i / j)) := Pu.bin hx hy fun w => by
  obtain ⟨h0, h1, h2⟩ := h0
  have hj : j ≠ 0 := by omega
  have e : i.tdiv j = i / j := Int.tdiv_eq_ediv_of_nonneg h0
  have h3 : 0 ≤ i / j := Int.ediv_nonneg h0 (by omega)
  have h4 : i / j ≤ i := Int.ediv_le_self j h0
  simp only [eqGuard, binOp, Op.intDiv, hj, if_false, e, IntWalk.i64_in (i / j) (by omega)]
  rfl
theorem Pu.rm {x y : Operand} {xt yt : TypeId} {i j : Int} (hx : ev F x = some (.int .i64 i) := by rfl) (hy : ev F y = some (.int .i64 j) := by rfl) (h0 : 0 ≤ i ∧ 0 < j := by omega) : Pu c F K ⟨d, .binOp .rem xt x y yt, ty, pos, af, g⟩ (.int .i64 (i % j)) := Pu.bin hx hy fun w => by
  obtain ⟨h0, h2⟩ := h0
  have hj : j ≠ 0 := by omega
  have e : i.tmod j = i % j := Int.tmod_eq_emod_of_nonneg h0
  simp only [eqGuard, binOp, Op.intDiv, hj, if_false, e]
  rfl
def RF (c : Cx) (ops : Array Oper) (Q : Exit → Act → World → Prop) (K0 : List Fact) (k : Nat) (rest : List Oper) (pend : List (Nat × Oper)) (listed : Array Bool) (fuel : Nat) (F : Fr) (K : List Fact) : Prop :=
  ops.toList.drop k = rest → (∀ p ∈ pend, ops[p.1]? = some p.2) → Pan Q → ∀ a w, FS c.n c.D F a → Sat c.S c.w0 K w → wpAnyH c.P .any ops Q (Sat c.S c.w0 K0) fuel listed a w
theorem TW.rf {id : Nat} {l : List Oper} (hd : Drop F K K0) (h : RF c l.toArray Q K0 0 l [] (Array.replicate l.length false) l.length F K) (hm : c.P.follows .mixedOrders = true := by rfl) (hp : Pan Q := by (intro d _ _ _ _; cases d <;> exact Iff.rfl)) : TW c (.region id l.toArray true) Q F K := fun a w hF hK => by
  refine wp_region_any hm (wpAny_of_held (S := Sat c.S c.w0 K0) _ _ _ _ ?_)
  have := h rfl (fun p hp => by cases hp) hp a w.drew hF (hK.ext (keep_drew w))
  rw [List.size_toArray]
  exact this
theorem RF.head {o : Oper} (h : ops.toList.drop k = o :: rest) : ops[k]? = some o ∧ ops.toList.drop (k + 1) = rest := by
  constructor
  · have := congrArg (·[0]?) h
    simpa [List.getElem?_drop] using this
  · have := congrArg List.tail h
    simpa [List.drop_drop, Nat.add_comm] using this
def takeA (ops : Array Oper) (l : Array Bool) (i : Nat) : Bool := Region.noSelect ops && Region.free .any ops l i && (Region.ready .any ops l).contains i
theorem RF.tk {v : Value} (hp : Pu c F K0 ⟨some t, op, ty, pos, af, g⟩ v) (h : RF c ops Q K0 (k + 1) rest pend (listed.setIfInBounds k true) fuel ((t, v) :: F) K) (hh : HasL K K0 := by repeat (first | exact HasL.nil | refine HasL.cons (by repeat (first | exact Pick.hd | apply Pick.tl)) ?_)) (hk : takeA ops listed k = true := by kernel_rfl) (hg : gdB F ops g = some true := by rfl) (hd : Nat.blt t c.n = true := by rfl) :
    RF c ops Q K0 k (⟨some t, op, ty, pos, af, g⟩ :: rest) pend listed (fuel + 1) F K := fun h1 h2 h3 a w hF hK => by
  obtain ⟨e1, e2⟩ := RF.head h1
  simp only [takeA, Bool.and_eq_true] at hk
  exact wpAnyH_take e1 hk.1.1 hk.1.2 hk.2 (fun ch a w h => (h3 _ v ch a w).1 h) (.inl ⟨hF.wanted hg, fun w' hS => hp a w' hF hS⟩) (hh.has.sat hK) (h e2 h2 h3 _ w (hF.put hd v) hK)
theorem RF.ks {o : Oper} (h : RF c ops Q K0 (k + 1) rest (pend ++ [(k, o)]) listed fuel F K) : RF c ops Q K0 k (o :: rest) pend listed fuel F K := fun h1 h2 h3 a w hF hK => by
  obtain ⟨e1, e2⟩ := RF.head h1
  exact h e2 (fun p hp => by
    rcases List.mem_append.1 hp with hp | hp
    · exact h2 p hp
    · simp only [List.mem_singleton] at hp; subst hp; exact e1) h3 a w hF hK
def RG (c : Cx) (ops : Array Oper) (Q : Exit → Act → World → Prop) (K0 : List Fact) (pend : List (Nat × Oper)) (listed : Array Bool) (fuel : Nat) (F : Fr) (K : List Fact) : Prop :=
  (∀ p ∈ pend, ops[p.1]? = some p.2) → ∀ a w, FS c.n c.D F a → Sat c.S c.w0 K w → wpAnyH c.P .any ops Q (Sat c.S c.w0 K0) fuel listed a w
theorem RF.go (h : RG c ops Q K0 pend listed fuel F K) : RF c ops Q K0 k [] pend listed fuel F K := fun _ h2 _ a w hF hK => h h2 a w hF hK
theorem RG.nil (h : TQ c Q .normal F K) (hr : (Region.ready .any ops listed).isEmpty = true := by kernel_rfl) : RG c ops Q K0 [] listed fuel F K := fun _ a w hF hK => wpAnyH_done (List.isEmpty_iff.1 hr) (h a w hF hK) fuel
def nxt (Z : Act → World → Prop) (Q : Exit → Act → World → Prop) : Exit → Act → World → Prop
  | .normal, a, w => Z a w
  | e, a, w => Q e a w
theorem RG.step {i : Nat} {o : Oper} (h : ∀ Z : Act → World → Prop, (∀ F2 K2, HasL K2 K0 → RG c ops Q K0 pend (listed.setIfInBounds i true) fuel F2 K2 → TQ c (fun _ => Z) .normal F2 K2) → TL c ops (nxt Z Q) [o] F K) (hr : (Region.ready .any ops listed == [i]) = true := by kernel_rfl) : RG c ops Q K0 ((i, o) :: pend) listed (fuel + 1) F K := fun h2 a w hF hK => by
  have hr' : Region.ready .any ops listed = [i] := by simpa using hr
  refine wpAnyH_all hr' (by simp) fun j hj => ?_
  simp only [List.mem_singleton] at hj
  subst hj
  have h1 := h (fun a' w' => Sat c.S c.w0 K0 w' ∧ wpAnyH c.P .any ops Q (Sat c.S c.w0 K0) fuel (listed.setIfInBounds j true) a' w') (fun F2 K2 hh hg a' w' hF2 hK2 => ⟨hh.has.sat hK2, hg (fun p hp => h2 p (by simp [hp])) a' w' hF2 hK2⟩) a w hF hK
  unfold wpList at h1
  unfold wpOp
  simp only [h2 (j, o) (by simp)]
  split
  · rename_i hw
    rw [if_pos hw] at h1
    rcases h1 with h1 | ⟨hA, hL⟩
    · refine .inl ?_
      unfold Oper.wp at *
      generalize (execOp a.eval o).run c.P w = r at *
      cases r with
      | ok x w' =>
        cases x <;> simp only [Oper.upon] at h1 ⊢ <;> first
          | exact h1
          | exact Calls.mono h1 (fun e w'' he => by
              cases e with
              | returned v => exact he
              | panicked ch => exact he
              | outgrown => obtain ⟨x, y, z⟩ := he; exact ⟨x, y, z⟩)
          | exact Rows.mono h1 (fun _ _ he => he)
      | halt x w' => cases x <;> simp only [Oper.upon] at h1 ⊢ <;> exact h1
    · obtain ⟨x, y, z⟩ := hL
      exact .inr ⟨hA, x, y, z⟩
  · rename_i hw
    rw [if_neg hw] at h1
    exact h1
theorem TQ.nxt {Z : Act → World → Prop} (h : TQ c (fun _ => Z) .normal F K) : TQ c (nxt Z Q) .normal F K := h
end
end Go.Proofs.YtljhdcclajikiaaGreatDoor
namespace Go.Proofs.YtljhdcclajikiaaGreatDoor
set_option linter.all false
set_option linter.unusedVariables false
set_option linter.unusedSimpArgs false
open Go.RowKit
section
variable {c : Cx} {Q : Exit → Act → World → Prop} {F F' : Fr} {K K' K0 : List Fact} {ops : Array Oper} {rest : List Oper} {d : Option Tmp} {ty : TypeId} {pos : String} {af : Array Edge} {g : Option (Nat × Bool)} {k fuel t nf : Nat} {pend : List (Nat × Oper)} {listed : Array Bool} {bs : List Bool} {fl : List Fl} {op : Op}
theorem wpList_yes' {P : Program} {o : Oper} {v : Value} {a : Act} {w w' : World} (hg : Region.wanted o (yielded ops a.tmps) = true) (hr : (execOp a.eval o).run P w = .ok (.value v) w') (h : wpList P ops Q rest (a.put o.dst v) w') : wpList P ops Q (o :: rest) a w := by
  unfold wpList
  rw [if_pos hg]
  exact .inl (by unfold Oper.wp; rw [hr]; exact h)
theorem TL.gm {v : Nat → Value} {T : TypeId} {cs : List Value} (hm : Mk c F K ⟨d, op, ty, pos, af, g⟩ v T cs) (h : ∀ b, TL c ops Q rest (fput F d (v b)) (.blk b T cs :: K)) (hg : gdB F ops g = some true := by rfl) (hd : dok d c.n = true := by rfl) : TL c ops Q (⟨d, op, ty, pos, af, g⟩ :: rest) F K := fun a w hF hK =>
  wpList_yes' (hF.wanted hg) (hm a w hF hK) (h _ _ _ (hF.fput hd _) (hK.new T cs))
theorem run_callv {P : Program} {f : FuncId} {fs us cs : List Value} {w : World} {x : Operand} {xs : List Operand} {ts : Array TypeId} {o : Oper} {ρ : Operand → Value} (hf : ρ x = .func (.func f) fs.toArray cs.toArray) (hx : xs.map ρ = us) (hen : Enters P f) (ho : o.op = .call { callee := .value x, args := xs.toArray, argTypes := ts }) :
    (execOp ρ o).run P w = .ok (.enter f (fs ++ us ++ cs).toArray) w := by
  have h9 := hen (fs ++ us ++ cs).toArray w
  have e : fs.toArray ++ us.toArray ++ cs.toArray = (fs ++ us ++ cs).toArray := by simp
  simp only [execOp, ho, resolve, hf, Deferred.ofValue, List.map_toArray, hx, Sem.run_bind, Sem.run_pure, Result.andThen_ok, invoke, e]
  exact h9
theorem TL.cv {f : FuncId} {x : Operand} {xs : List Operand} {ts : Array TypeId} {us fs cs : List Value} {v : Value} (hf : ev F x = some (.func (.func f) fs.toArray cs.toArray)) (hx : evs F xs = some us) (hen : Enters c.P f) (hc : ∀ w, Sat c.S c.w0 K w → Calls c.P f (fs ++ us ++ cs).toArray w (Ret w v)) (h : TL c ops Q rest (fput F d v) K) (hg : gdB F ops g = some true := by rfl) (hd : dok d c.n = true := by rfl) :
    TL c ops Q (⟨d, .call { callee := .value x, args := xs.toArray, argTypes := ts }, ty, pos, af, g⟩ :: rest) F K := fun a w hF hK => by
  unfold wpList
  rw [if_pos (hF.wanted hg)]
  refine .inl ?_
  unfold Oper.wp
  rw [run_callv (hF.evl hf) (hF.evsl hx) hen rfl]
  refine Calls.mono (hc w hK) ?_
  rintro e w' ⟨rfl, hb⟩
  exact h _ _ (hF.fput hd _) (hK.ext hb)
theorem WK.cv {i : Nat} {f : FuncId} {x : Operand} {xs : List Operand} {ts : Array TypeId} {us fs cs : List Value} {v : Value} (hf : ev F x = some (.func (.func f) fs.toArray cs.toArray)) (hx : evs F xs = some us) (hen : Enters c.P f) (hc : ∀ w, Sat c.S c.w0 K w → Calls c.P f (fs ++ us ++ cs).toArray w (Ret w v)) (h : WK c ops Q nf fl bs pend (fput F d v) K) (hg : gdB F (frontOf ops nf) g = some true := by rfl) (hd : dok d c.n = true := by rfl) :
    WK c ops Q nf fl (false :: bs) ((i, ⟨d, .call { callee := .value x, args := xs.toArray, argTypes := ts }, ty, pos, af, g⟩) :: pend) F K :=
  WK.act fun a w' K' hF hK ho hK' => by
    refine wpOp_of ho (hF.wanted hg) ?_
    unfold Oper.wp
    rw [run_callv (hF.evl hf) (hF.evsl hx) hen rfl]
    refine Calls.mono (hc w' hK) ?_
    rintro e w'' ⟨rfl, hb⟩
    exact hK' _ [] _ _ (Sat.nil (Chg.of_ext hb)) (hF.fput hd _) h
theorem TL.cvk {f : FuncId} {x : Operand} {xs : List Operand} {ts : Array TypeId} {us fs cs : List Value} {M : List Fact} {X : Type} {val : X → Value} {L : X → List Fact} (hf : ev F x = some (.func (.func f) fs.toArray cs.toArray)) (hx : evs F xs = some us) (hen : Enters c.P f) (hM : K.Perm (M ++ K'))
    (hc : ∀ w, Sat c.S c.w0 K w → CallsK c.P f (fs ++ us ++ cs).toArray M w X val L) (h : ∀ x, TL c ops Q rest (fput F d (val x)) (L x ++ K')) (hd : dok d c.n = true := by rfl) : TL c ops Q (⟨d, .call { callee := .value x, args := xs.toArray, argTypes := ts }, ty, pos, af, none⟩ :: rest) F K := fun a w hF hK =>
  wpList_plain rfl fun Z hZ => by
    unfold Oper.wp
    rw [run_callv (hF.evl hf) (hF.evsl hx) hen rfl]
    refine Calls.mono (hc w hK) ?_
    rintro e w' ⟨x, rfl, hs⟩
    exact hZ _ _ (h x _ _ (hF.fput hd _) ((hK.perm hM).step hs))
def Try (w : World) (pan : Int → List PanicEntry) (code : Int) (v : Value) (e : Ending) (w' : World) : Prop := Below w.heap.size w w' ∧ e = if code = 0 then .returned v else .panicked (pan code)
theorem TL.ct {f : FuncId} {xs : List Operand} {ts : Array TypeId} {us : List Value} {v : Value} {pan : Int → List PanicEntry} {code : Int} (hx : evs F xs = some us) (hen : Enters c.P f) (hc : ∀ w, Sat c.S c.w0 K w → Calls c.P f us.toArray w (Try w pan code v)) (h0 : code = 0 → TL c ops Q rest (fput F d v) K) (h1 : code ≠ 0 → TQ c Q (.panic (pan code)) F K) (hg : gdB F ops g = some true := by rfl) (hd : dok d c.n = true := by rfl) :
    TL c ops Q (⟨d, .call { callee := .value (.func f), args := xs.toArray, argTypes := ts }, ty, pos, af, g⟩ :: rest) F K := fun a w hF hK => by
  unfold wpList
  rw [if_pos (hF.wanted hg)]
  refine .inl ?_
  unfold Oper.wp
  rw [run_callv (fs := []) (cs := []) (x := .func f) rfl (hF.evsl hx) hen rfl]
  rw [show ([] ++ us ++ [] : List Value) = us by simp]
  refine Calls.mono (hc w hK) ?_
  rintro e w' ⟨hb, rfl⟩
  by_cases h : code = 0
  · simp only [h, if_true]
    exact h0 h _ _ (hF.fput hd _) (hK.ext hb)
  · simp only [h, if_false]
    exact h1 h _ _ hF (hK.ext hb)
theorem TQ.thenP {Y : Act → World → Prop} {ch : List PanicEntry} (h : TQ c Q (.panic ch) F K) : TQ c (Exit.then Y Q) (.panic ch) F K := h
theorem TQ.blkP {i : Nat} {ch : List PanicEntry} (h : TQ c Q (.panic ch) F K) : TQ c (Exit.inBlock i Q) (.panic ch) F K := h
theorem TQ.nxtP {Z : Act → World → Prop} {ch : List PanicEntry} (h : TQ c Q (.panic ch) F K) : TQ c (Go.Proofs.YtljhdcclajikiaaGreatDoor.nxt Z Q) (.panic ch) F K := h
theorem TQ.pan {fn : Func} {R : Ending → World → Prop} {ch : List PanicEntry} (hD : c.D = []) (h : ∀ w, Sat c.S c.w0 K w → R (.panicked ch) w) : TQ c (bodyPost c.P fn R) (.panic ch) F K := fun a w hF hK => ⟨hF.dfs.trans hD, h w hK⟩
theorem Try.ok {w w' : World} {pan : Int → List PanicEntry} {code : Int} {v : Value} {L : List Fact} (hc : code = 0) (h : Sat [] w L w') : Try w pan code v (.returned v) w' := ⟨Chg.ext h.chg, by rw [if_pos hc]⟩
theorem Try.no {w w' : World} {pan : Int → List PanicEntry} {code : Int} {v : Value} {L : List Fact} (hc : code ≠ 0) (h : Sat [] w L w') : Try w pan code v (.panicked (pan code)) w' := ⟨Chg.ext h.chg, by rw [if_neg hc]⟩
theorem TL.pn {x : Operand} {v : Value} (hx : ev F x = some v) (hr : ∀ w, (Instr.panic v).run c.P w = .halt (.panic v) w) (h : TQ c Q (.panic [{ v, recovered := false }]) F K) : TL c ops Q (⟨d, .panic x, ty, pos, af, none⟩ :: rest) F K := fun a w hF hK =>
  wpList_plain rfl fun Z hZ => by
    unfold Oper.wp
    have e : (execOp a.eval ⟨d, .panic x, ty, pos, af, none⟩).run c.P w = .halt (.panic v) w := by
      simp only [execOp, hF.evl hx, Sem.run_bind, hr w, Result.andThen_halt]
    rw [e]
    exact h a w hF hK
def OldB (w0 : World) (b : Nat) (cs : List Value) : Prop := b < w0.heap.size ∧ ∀ j v, cs[j]? = some v → w0.cell? ⟨b, j, none⟩ = some v
theorem CellsN.ob {b off m : Nat} {cs vs : List Value} (h : OldB c.w0 b cs) (hS : Apart c.S (some ⟨b, 0, none⟩)) (hs : SubL cs off m vs) : CellsN c K (some ⟨b, off, none⟩) m vs := ⟨fun w hK => ⟨b, off, rfl, fun j v hv => by
  rw [hK.chg.cell h.1 (hS b rfl)]
  exact h.2 _ _ (hs.spec.2 j v hv)⟩, hs.spec.1⟩
theorem OldB.of_blk {w0 : World} {b : Nat} {T : TypeId} {cs : List Value} (h : Blk w0 b T cs.toArray) : OldB w0 b cs := ⟨h.lt, fun j v hv => by rw [h.cell]; simpa using hv⟩
theorem OldB.ext {w w' : World} {b : Nat} {cs : List Value} (h : OldB w b cs) (he : Below w.heap.size w w') : OldB w' b cs := ⟨Nat.lt_of_lt_of_le h.1 he.size, fun j v hv => by rw [he.cell (p := ⟨b, j, none⟩) h.1]; exact h.2 j v hv⟩
theorem OldB.sat {w w0 : World} {S : List Nat} {b : Nat} {cs : List Value} (h : OldB w0 b cs) (hs : Sat S w0 K w) (hb : b ∉ S) : OldB w b cs := ⟨Nat.lt_of_lt_of_le h.1 hs.chg.size, fun j v hv => by rw [hs.chg.cell h.1 hb]; exact h.2 j v hv⟩
theorem Pu.ldo {x : Operand} {T : TypeId} {q : Option Addr} {v : Value} (hT : Sc c.P T) (hx : ev F x = some (.pointer q) := by rfl) (hq : CellsN c K q 1 [v] := by exact CellsN.ob (by assumption) (by first | exact Apart.nil | assumption) (by repeat (first | exact SubL.nil | apply SubL.take | apply SubL.drop))) : Pu c F K ⟨d, .load T x, ty, pos, af, g⟩ v := Pu.load hx hT hq.1
theorem Pu.ldso {x : Operand} {T : TypeId} {m : Nat} {q : Option Addr} {vs : List Value} (hT : Ag c.P T m) (hx : ev F x = some (.pointer q) := by rfl) (hq : CellsN c K q m vs := by exact CellsN.ob (by assumption) (by first | exact Apart.nil | assumption) (by repeat (first | exact SubL.nil | apply SubL.take | apply SubL.drop))) : Pu c F K ⟨d, .load T x, ty, pos, af, g⟩ (.agg vs.toArray) := Pu.loads hx hT hq.1 hq.2
end
theorem Rd.chg {w w' : World} {S : List Nat} {sz n : Nat} {A : Option Addr} {f : Nat → Nat → Value} (h : Rd w sz A n f) (hc : Chg S w w') (hA : Apart S A) : Rd w' sz A n f := fun hn => by
  obtain ⟨b, o, rfl, hb, hcell⟩ := h hn
  exact ⟨b, o, rfl, Nat.lt_of_lt_of_le hb hc.size, fun i j hi hj => by rw [hc.cell hb (hA b rfl)]; exact hcell i j hi hj⟩
theorem RdR.chg {w w' : World} {S : List Nat} {sz n : Nat} {A : Option Addr} {r : Nat → List Value} (h : RdR w sz A n r) (hc : Chg S w w') (hA : Apart S A) : RdR w' sz A n r := ⟨h.rd.chg hc hA, h.len⟩
theorem RdR.sat {w w' : World} {S : List Nat} {K : List Fact} {sz n : Nat} {A : Option Addr} {r : Nat → List Value} (h : RdR w sz A n r) (hs : Sat S w K w') (hA : Apart S A) : RdR w' sz A n r := h.chg hs.chg hA
theorem RdR.sat0 {w w' : World} {S : List Nat} {K : List Fact} {sz n : Nat} {A : Option Addr} {r : Nat → List Value} (h : RdR w sz A n r) (hs : Sat S w K w') (hA : 0 < n → Apart S A) : RdR w' sz A n r :=
  ⟨fun hn => h.rd.chg hs.chg (hA hn) hn, h.len⟩
theorem RdR.apart {w : World} {S : List Nat} {sz n : Nat} {A : Option Addr} {r : Nat → List Value} (h : RdR w sz A n r) (hS : ∀ b ∈ S, w.heap.size ≤ b) (hn : 0 < n) : Apart S A := fun b hb hm => by
  obtain ⟨q, o, e, hq, _⟩ := h.rd hn
  subst e
  cases hb
  have : w.heap.size ≤ q := hS _ hm
  omega
theorem Sat.self {S : List Nat} {w0 w : World} {K : List Fact} (h : Sat S w0 K w) : Sat (feet K) w K w := ⟨Chg.refl _ _, h.nd, fun _ hb => .inl hb, h.holds⟩
theorem Sat.from {S T : List Nat} {w0 w1 w : World} {K : List Fact} (h : Sat T w1 K w) (hc : Chg S w0 w1) (hT : ∀ b ∈ T, b ∈ S ∨ w0.heap.size ≤ b) : Sat S w0 K w :=
  ⟨⟨h.chg.os.trans hc.os, h.chg.tape.trans hc.tape, h.chg.output.trans hc.output, Nat.le_trans hc.size h.chg.size, fun i hi hS => (h.chg.block i (Nat.lt_of_lt_of_le hi hc.size) (fun hm => by
      rcases hT i hm with h1 | h1
      · exact hS h1
      · omega)).trans (hc.block i hi hS)⟩, h.nd, fun b hb => by
    rcases h.ge b hb with h1 | h1
    · exact hT b h1
    · exact .inr (Nat.le_trans hc.size h1), h.holds⟩
theorem CallsK.retOf {P : Program} {f : FuncId} {args : Array Value} {w : World} {X : Type} {val : X → Value} {v : Value} (h : CallsK P f args [] w X val (fun _ => [])) (hv : ∀ x, val x = v) : Calls P f args w (Ret w v) :=
  Calls.mono h fun e w' ⟨x, he, hs⟩ => ⟨by rw [he, hv x], Chg.ext hs.chg⟩
section
variable {c : Cx} {Q : Exit → Act → World → Prop} {F F' : Fr} {K K' K0 : List Fact} {ops : Array Oper} {listed : Array Bool} {fuel : Nat}
def RGo (c : Cx) (ops : Array Oper) (Q : Exit → Act → World → Prop) (K0 : List Fact) (listed : Array Bool) (fuel : Nat) (F : Fr) (K : List Fact) (i : Nat) (o : Oper) : Prop :=
  ∀ Z : Act → World → Prop, (∀ F2 K2, HasL K2 K0 → RG c ops Q K0 [] (listed.setIfInBounds i true) fuel F2 K2 → TQ c (fun _ => Z) .normal F2 K2) → TL c ops (nxt Z Q) [o] F K
theorem RG.all {l : List Nat} (hr : Region.ready .any ops listed = l) (hne : l ≠ []) (h : ∀ i ∈ l, ∃ o, ops[i]? = some o ∧ RGo c ops Q K0 listed fuel F K i o) : RG c ops Q K0 [] listed (fuel + 1) F K := fun _ a w hF hK => by
  refine wpAnyH_all hr hne fun j hj => ?_
  obtain ⟨o, ho, h⟩ := h j hj
  have h1 := h (fun a' w' => Sat c.S c.w0 K0 w' ∧ wpAnyH c.P .any ops Q (Sat c.S c.w0 K0) fuel (listed.setIfInBounds j true) a' w') (fun F2 K2 hh hg a' w' hF2 hK2 => ⟨hh.has.sat hK2, hg (fun p hp => by cases hp) a' w' hF2 hK2⟩) a w hF hK
  unfold wpList at h1
  unfold wpOp
  simp only [ho]
  split
  · rename_i hw
    rw [if_pos hw] at h1
    rcases h1 with h1 | ⟨hA, hL⟩
    · refine .inl ?_
      unfold Oper.wp at *
      generalize (execOp a.eval o).run c.P w = r at *
      cases r with
      | ok x w' =>
        cases x <;> simp only [Oper.upon] at h1 ⊢ <;> first
          | exact h1
          | exact Calls.mono h1 (fun e w'' he => by
              cases e with
              | returned v => exact he
              | panicked ch => exact he
              | outgrown => obtain ⟨x, y, z⟩ := he; exact ⟨x, y, z⟩)
          | exact Rows.mono h1 (fun _ _ he => he)
      | halt x w' => cases x <;> simp only [Oper.upon] at h1 ⊢ <;> exact h1
    · obtain ⟨x, y, z⟩ := hL
      exact .inr ⟨hA, x, y, z⟩
  · rename_i hw
    rw [if_neg hw] at h1
    exact h1
theorem RG.a1 (i : Nat) {o : Oper} (ho : ops[i]? = some o) (h : RGo c ops Q K0 listed fuel F K i o) (hr : Region.ready .any ops listed = [i] := by kernel_rfl) : RG c ops Q K0 [] listed (fuel + 1) F K :=
  RG.all hr (by simp) fun j hj => by
    simp only [List.mem_singleton] at hj; subst hj; exact ⟨o, ho, h⟩
theorem RG.a2 (i j : Nat) {o o' : Oper} (ho : ops[i]? = some o) (ho' : ops[j]? = some o') (h : RGo c ops Q K0 listed fuel F K i o) (h' : RGo c ops Q K0 listed fuel F K j o') (hr : Region.ready .any ops listed = [i, j] := by kernel_rfl) : RG c ops Q K0 [] listed (fuel + 1) F K :=
  RG.all hr (by simp) fun k hk => by
    simp only [List.mem_cons, List.not_mem_nil, or_false] at hk
    rcases hk with rfl | rfl
    · exact ⟨o, ho, h⟩
    · exact ⟨o', ho', h'⟩
theorem RG.a3 (i j k : Nat) {o o' o'' : Oper} (ho : ops[i]? = some o) (ho' : ops[j]? = some o') (ho'' : ops[k]? = some o'') (h : RGo c ops Q K0 listed fuel F K i o) (h' : RGo c ops Q K0 listed fuel F K j o') (h'' : RGo c ops Q K0 listed fuel F K k o'') (hr : Region.ready .any ops listed = [i, j, k] := by kernel_rfl) : RG c ops Q K0 [] listed (fuel + 1) F K :=
  RG.all hr (by simp) fun k hk => by
    simp only [List.mem_cons, List.not_mem_nil, or_false] at hk
    rcases hk with rfl | rfl | rfl
    · exact ⟨o, ho, h⟩
    · exact ⟨o', ho', h'⟩
    · exact ⟨o'', ho'', h''⟩
theorem RG.tk (i : Nat) {op : Op} {ty : TypeId} {pos : String} {af : Array Edge} {g : Option (Nat × Bool)} {t : Nat} {v : Value} (ho : ops[i]? = some ⟨some t, op, ty, pos, af, g⟩) (hp : Pu c F K0 ⟨some t, op, ty, pos, af, g⟩ v) (h : RG c ops Q K0 [] (listed.setIfInBounds i true) fuel ((t, v) :: F) K) (hh : HasL K K0 := by repeat (first | exact HasL.nil | refine HasL.cons (by repeat (first | exact Pick.hd | apply Pick.tl)) ?_)) (hk : takeA ops listed i = true := by kernel_rfl) (hg : gdB F ops g = some true := by rfl) (hd : Nat.blt t c.n = true := by rfl) (hpan : Pan Q := by (intro d _ _ _ _; cases d <;> exact Iff.rfl)) :
    RG c ops Q K0 [] listed (fuel + 1) F K := fun h1 a w hF hK => by
  simp only [takeA, Bool.and_eq_true] at hk
  exact wpAnyH_take ho hk.1.1 hk.1.2 hk.2 (fun ch a w h => (hpan _ v ch a w).1 h) (.inl ⟨hF.wanted hg, fun w' hS => hp a w' hF hS⟩) (hh.has.sat hK) (h h1 _ w (hF.put hd v) hK)
theorem TW.ex0 {id : Nat} {l : List Oper} (hd : Drop F K K0) (h2 : RG c l.toArray Q K0 [] (Array.replicate l.length false) l.length F K) (hm : c.P.follows .mixedOrders = true := by rfl) : TW c (.region id l.toArray true) Q F K := fun a w hF hK => by
  refine wp_region_any hm (wpAny_of_held (S := Sat c.S c.w0 K0) _ _ _ _ ?_)
  rw [List.size_toArray]
  exact h2 (fun p hp => by cases hp) a w.drew hF (hK.ext (keep_drew w))
theorem TW.expl {id : Nat} {l : List Oper} {X : Type} (Fj : X → Fr) (Kj : X → List Fact) (hd : Drop F K K0) (h1 : ∀ x, TQ c Q .normal (Fj x) (Kj x)) (h2 : (∀ x, TQ c Q .normal (Fj x) (Kj x)) → RG c l.toArray Q K0 [] (Array.replicate l.length false) l.length F K) (hm : c.P.follows .mixedOrders = true := by rfl) : TW c (.region id l.toArray true) Q F K := TW.ex0 hd (h2 h1) hm
end
end Go.Proofs.YtljhdcclajikiaaGreatDoor
namespace Go.Proofs.YtljhdcclajikiaaGreatDoor
set_option linter.all false
set_option linter.unusedVariables false
set_option linter.unusedSimpArgs false
open Go.RowKit Go.MapKept
def ents (kk : IntKind) : Nat → List (Int × Value) → List MapEntry
  | _, [] => []
  | s, (k, v) :: l => { key := .int kk k, val := v, born := s } :: ents kk (s + 1) l
def mapO (kk : IntKind) (l : List (Int × Value)) : Obj := .map (ents kk 0 l).toArray l.length
def mlook (i : Int) : List (Int × Value) → Option Value
  | [] => none
  | (k, v) :: l => if i = k then some v else mlook i l
def mput (i : Int) (v : Value) : List (Int × Value) → List (Int × Value)
  | [] => [(i, v)]
  | (k, u) :: l => if i = k then (k, v) :: l else (k, u) :: mput i v l
def mfind (i : Int) : Nat → List (Int × Value) → Option (Nat × Value)
  | _, [] => none
  | q, (k, v) :: l => if i = k then some (q, v) else mfind i (q + 1) l
theorem findNow_ents (kk : IntKind) (i : Int) : ∀ (l : List (Int × Value)) (s q : Nat), Instr.findNow (.int kk) (.int kk i) (ents kk s l) q = some (mfind i q l)
  | [], _, _ => rfl
  | (k, v) :: l, s, q => by
    by_cases h : i = k
    · subst h; simp [ents, Instr.findNow, Instr.sameNow, mfind]
    · have hb : (i == k) = false := by simpa using h
      simp [ents, Instr.findNow, Instr.sameNow, mfind, h, hb, findNow_ents kk i l (s + 1) (q + 1)]
theorem mfind_look (i : Int) : ∀ (l : List (Int × Value)) (q : Nat), (mfind i q l).map (·.2) = mlook i l
  | [], _ => rfl
  | (k, v) :: l, q => by
    by_cases h : i = k
    · simp [mfind, mlook, h]
    · simp [mfind, mlook, h, mfind_look i l (q + 1)]
theorem ents_length (kk : IntKind) : ∀ (l : List (Int × Value)) (s : Nat), (ents kk s l).length = l.length
  | [], _ => rfl
  | (k, v) :: l, s => by simp [ents, ents_length kk l (s + 1)]
theorem mput_none {i : Int} {v : Value} {kk : IntKind} : ∀ {l : List (Int × Value)} {q s : Nat}, mfind i q l = none → ents kk s (mput i v l) = ents kk s l ++ [{ key := .int kk i, val := v, born := s + l.length }] ∧ (mput i v l).length = l.length + 1
  | [], _, _, _ => ⟨rfl, rfl⟩
  | (k, u) :: l, q, s, h => by
    by_cases hk : i = k
    · simp [mfind, hk] at h
    · simp only [mfind, hk, if_false] at h
      obtain ⟨h1, h2⟩ := mput_none (v := v) (kk := kk) (s := s + 1) h
      simp only [mput, hk, if_false, ents, h1, List.length_cons, h2, List.cons_append, and_true]
      congr 3
      all_goals simp; try omega
theorem mput_some {i : Int} {v u : Value} {kk : IntKind} : ∀ {l : List (Int × Value)} {q s p : Nat}, mfind i q l = some (q + p, u) → (ents kk s (mput i v l)) = (ents kk s l).modify p (fun e => { e with key := .int kk i, val := v }) ∧ (mput i v l).length = l.length ∧ ∃ b, (ents kk s l)[p]? = some { key := .int kk i, val := u, born := b }
  | [], _, _, _, h => by simp [mfind] at h
  | (k, u') :: l, q, s, p, h => by
    by_cases hk : i = k
    · simp [mfind, hk] at h
      obtain ⟨h1, h2⟩ := h
      subst h1 h2 hk
      exact ⟨by simp [mput, ents], by simp [mput], s, by simp [ents]⟩
    · simp only [mfind, hk, if_false] at h
      have hp : 0 < p := by
        rcases Nat.eq_zero_or_pos p with rfl | hp
        · exfalso
          have := mfind_ge h
          omega
        · exact hp
      obtain ⟨p', rfl⟩ : ∃ p', p = p' + 1 := ⟨p - 1, by omega⟩
      rw [show q + (p' + 1) = (q + 1) + p' by omega] at h
      obtain ⟨h1, h2, b, h3⟩ := mput_some (v := v) (kk := kk) (s := s + 1) h
      exact ⟨by simp [mput, hk, ents, h1], by simp [mput, hk, h2], b, by simpa [ents] using h3⟩
where
  mfind_ge {i : Int} {u : Value} : ∀ {l : List (Int × Value)} {q p : Nat}, mfind i q l = some (p, u) → q ≤ p
    | [], _, _, h => by simp [mfind] at h
    | (k, u') :: l, q, p, h => by
      by_cases hk : i = k
      · simp [mfind, hk] at h; omega
      · simp only [mfind, hk, if_false] at h
        have := mfind_ge h
        omega
structure MapT (P : Program) (T kt et : TypeId) (kk : IntKind) : Prop where
  map : P.underlying T = some (.map kt et)
  key : P.underlying kt = some (.int kk)
theorem isKey_int (kk : IntKind) (i : Int) : IsKey (.int kk) (.int kk i) := by simp [IsKey]
theorem run_getObj_o {P : Program} {w : World} {b : Nat} {kk : IntKind} {l : List (Int × Value)} (hb : w.heap[b]? = some (mapO kk l)) : (getObj b).run P w = .ok (.map (ents kk 0 l).toArray l.length) w := by
  unfold mapO at hb
  exact Go.MapKept.run_getObj_map hb
theorem run_setObj_o {P : Program} {w : World} {b : Nat} {kk : IntKind} {l : List (Int × Value)} (o : Obj) (hb : w.heap[b]? = some (mapO kk l)) : (setObj b o).run P w = .ok () { w with heap := w.heap.setIfInBounds b o } := by
  unfold mapO at hb
  exact Go.MapKept.run_setObj_map o hb
theorem run_lookup_o {P : Program} {T kt et : TypeId} {kk : IntKind} {w : World} {b : Nat} {l : List (Int × Value)} {i : Int} {z : Value} (hT : MapT P T kt et kk) (hb : w.heap[b]? = some (mapO kk l)) (hz : (zeroValue et).run P w = .ok z w) (ok : Bool) :
    (Instr.lookup T (.map (some b)) (.int kk i) ok).run P w = .ok (if ok then .tuple #[(mlook i l).getD z, .bool (mlook i l).isSome] else (mlook i l).getD z) w := by
  have h0 := findNow_ents kk i l 0 0
  have hf : (Instr.findKey kt (.int kk i) (ents kk 0 l)).run P w = .ok (mfind i 0 l) w := run_findKey hT.key h0
  have hl := mfind_look i l 0
  unfold Instr.lookup
  simp only [Sem.run_bind, run_underlying hT.map, Result.andThen_ok, run_getObj_o hb, Sem.run_pure, run_checkKey hT.key (isKey_int kk i), hf]
  cases hm : mfind i 0 l with
  | none =>
    rw [hm] at hl
    have hl' : mlook i l = none := by simpa using hl.symm
    simp [hz, hl', Result.andThen_ok]
  | some x =>
    rw [hm] at hl
    have hl' : mlook i l = some x.2 := by simpa using hl.symm
    simp [hl', Result.andThen_ok]
theorem run_mapUpdate_o {P : Program} {T kt et : TypeId} {kk : IntKind} {w : World} {b : Nat} {l : List (Int × Value)} {i : Int} {v : Value} (hT : MapT P T kt et kk) (hb : w.heap[b]? = some (mapO kk l)) :
    (Instr.mapUpdate T (.map (some b)) (.int kk i) v).run P w = .ok () { w with heap := w.heap.setIfInBounds b (mapO kk (mput i v l)) } := by
  have h0 := findNow_ents kk i l 0 0
  have hf : (Instr.findKey kt (.int kk i) (ents kk 0 l)).run P w = .ok (mfind i 0 l) w := run_findKey hT.key h0
  unfold Instr.mapUpdate
  simp only [Sem.run_bind, run_underlying hT.map, Result.andThen_ok, run_getObj_o hb, run_checkKey hT.key (isKey_int kk i), hf]
  cases hm : mfind i 0 l with
  | none =>
    obtain ⟨h1, h2⟩ := mput_none (v := v) (kk := kk) (s := 0) hm
    simp only [run_setObj_o _ hb]
    unfold mapO
    rw [h1, h2]
    simp
  | some x =>
    obtain ⟨p, u⟩ := x
    obtain ⟨h1, h2, c, h3⟩ := mput_some (v := v) (kk := kk) (s := 0) (p := p) (q := 0) (by rw [hm, Nat.zero_add])
    have hk : ((((ents kk 0 l).toArray[p]?).map (·.key)).getD (Value.int kk i)) = .int kk i := by simp [h3]
    have hkeep : (Instr.keyThatStays (.int kk i) (.int kk i)).run P w = .ok (.int kk i) w := by simp [Instr.keyThatStays, Instr.sameBits]
    simp only [hk, hkeep, Sem.run_bind, Result.andThen_ok, run_setObj_o _ hb]
    unfold mapO
    rw [h1, h2]
    simp
section
variable {c : Cx} {Q : Exit → Act → World → Prop} {F F' : Fr} {K K' K0 : List Fact} {ops : Array Oper} {rest : List Oper} {d : Option Tmp} {ty : TypeId} {pos : String} {af : Array Edge} {g : Option (Nat × Bool)} {k fuel t nf : Nat} {pend : List (Nat × Oper)} {listed : Array Bool} {bs : List Bool} {fl : List Fl} {op : Op}
theorem Sat.newObj {S : List Nat} {w0 w : World} (h : Sat S w0 K w) (o : Obj) (ho : o.isCells = false) : Sat S w0 (.obj w.heap.size o :: K) (w.alloc o) :=
  h.add (L := [_]) (Sat.one (Chg.of_ext ((Below.refl _ _).alloc (Nat.le_refl _) _)) (by simp [Fact.foot]) (fun b hb => by simp [Fact.foot] at hb; subst hb; exact .inr (Nat.le_refl _)) ⟨(heap_alloc w o).1, ho⟩)
theorem TL.mm {T : TypeId} {kk : IntKind} (h : ∀ b, TL c ops Q rest ((t, .map (some b)) :: F) (.obj b (mapO kk []) :: K)) (hd : Nat.blt t c.n = true := by rfl) : TL c ops Q (⟨some t, .makeMap T none, ty, pos, af, none⟩ :: rest) F K := fun a w hF hK =>
  wpList_plain rfl fun Z hZ => by
    have hr : (execOp a.eval ⟨some t, .makeMap T none, ty, pos, af, none⟩).run c.P w = .ok (.value (.map (some w.heap.size))) (w.alloc (.map #[] 0)) := by
      simp [execOp, run_makeMap]
    unfold Oper.wp
    rw [hr]
    exact hZ _ _ (h _ _ _ (hF.put hd _) (hK.newObj _ rfl))
theorem TL.mu {m x y : Operand} {T kt et : TypeId} {kk : IntKind} {b : Nat} {i : Int} {v : Value} {l : List (Int × Value)} (hT : MapT c.P T kt et kk) (h : TL c ops Q rest F (.obj b (mapO kk (mput i v l)) :: K')) (hm : ev F m = some (.map (some b)) := by rfl) (hx : ev F x = some (.int kk i) := by rfl) (hy : ev F y = some v := by rfl)
    (hp : Pick K (.obj b (mapO kk l)) K' := by repeat (first | exact Pick.hd | apply Pick.tl)) : TL c ops Q (⟨none, .mapUpdate T m x y, ty, pos, af, none⟩ :: rest) F K := fun a w hF hK => by
  have hs := hK.pick hp
  have hb : w.heap[b]? = some (mapO kk l) := (hs.holds (.obj b (mapO kk l)) (by simp)).1
  have hr := run_mapUpdate_o (i := i) (v := v) hT hb
  refine wpList_skip rfl (w' := { w with heap := w.heap.setIfInBounds b (mapO kk (mput i v l)) }) ?_ (h a _ hF (hs.turn ?_ (by simp [Fact.foot]) (fun q hq => .inl hq) ⟨(heap_set hb).1, rfl⟩))
  · simp [execOp, hF.evl hm, hF.evl hx, hF.evl hy, hr]
  · exact ⟨rfl, rfl, rfl, by simp, fun q _ hq => (heap_set hb).2 q (by simpa [Fact.foot] using hq)⟩
theorem TL.mi {m x y : Operand} {T kt et : TypeId} {kk : IntKind} {b : Nat} {i : Int} {v : Value} {l : List (Int × Value)} (hT : MapT c.P T kt et kk) (h : TL c ops Q rest F (.obj b (mapO kk (mput i v l)) :: K')) (hm : ev F m = some (.map (some b)) := by rfl) (hx : ev F x = some (.int kk i) := by rfl) (hy : ev F y = some v := by rfl)
    (hp : Pick K (.obj b (mapO kk l)) K' := by repeat (first | exact Pick.hd | apply Pick.tl)) : TL c ops Q (⟨none, .insert T m x y, ty, pos, af, none⟩ :: rest) F K := fun a w hF hK => by
  have hs := hK.pick hp
  have hb : w.heap[b]? = some (mapO kk l) := (hs.holds (.obj b (mapO kk l)) (by simp)).1
  have hr := run_mapUpdate_o (i := i) (v := v) hT hb
  refine wpList_skip rfl (w' := { w with heap := w.heap.setIfInBounds b (mapO kk (mput i v l)) }) ?_ (h a _ hF (hs.turn ?_ (by simp [Fact.foot]) (fun q hq => .inl hq) ⟨(heap_set hb).1, rfl⟩))
  · simp [execOp, hF.evl hm, hF.evl hx, hF.evl hy, hr]
  · exact ⟨rfl, rfl, rfl, by simp, fun q _ hq => (heap_set hb).2 q (by simpa [Fact.foot] using hq)⟩
theorem Pu.lkS {x y : Operand} {T kt et : TypeId} {kk : IntKind} {b : Nat} {i : Int} {z v : Value} {l : List (Int × Value)} (hT : MapT c.P T kt et kk) (hz : ∀ w, (zeroValue et).run c.P w = .ok z w) (hl : mlook i l = some v) (hx : ev F x = some (.map (some b)) := by rfl) (hy : ev F y = some (.int kk i) := by rfl)
    (hp : Pick K (.obj b (mapO kk l)) K' := by repeat (first | exact Pick.hd | apply Pick.tl)) : Pu c F K ⟨d, .lookup T x y true, ty, pos, af, g⟩ (.tuple #[v, .bool true]) := fun a w hF hK => by
  have hb : w.heap[b]? = some (mapO kk l) := (hK.holds _ hp.mem).1
  have hr := run_lookup_o (i := i) hT hb (hz w) true
  simp [execOp, hF.evl hx, hF.evl hy, hr, hl]
theorem Pu.lkN {x y : Operand} {T kt et : TypeId} {kk : IntKind} {b : Nat} {i : Int} {z : Value} {l : List (Int × Value)} (hT : MapT c.P T kt et kk) (hz : ∀ w, (zeroValue et).run c.P w = .ok z w) (hl : mlook i l = none) (hx : ev F x = some (.map (some b)) := by rfl) (hy : ev F y = some (.int kk i) := by rfl)
    (hp : Pick K (.obj b (mapO kk l)) K' := by repeat (first | exact Pick.hd | apply Pick.tl)) : Pu c F K ⟨d, .lookup T x y true, ty, pos, af, g⟩ (.tuple #[z, .bool false]) := fun a w hF hK => by
  have hb : w.heap[b]? = some (mapO kk l) := (hK.holds _ hp.mem).1
  have hr := run_lookup_o (i := i) hT hb (hz w) true
  simp [execOp, hF.evl hx, hF.evl hy, hr, hl]
theorem Pu.l1S {x y : Operand} {T kt et : TypeId} {kk : IntKind} {b : Nat} {i : Int} {z v : Value} {l : List (Int × Value)} (hT : MapT c.P T kt et kk) (hz : ∀ w, (zeroValue et).run c.P w = .ok z w) (hl : mlook i l = some v) (hx : ev F x = some (.map (some b)) := by rfl) (hy : ev F y = some (.int kk i) := by rfl)
    (hp : Pick K (.obj b (mapO kk l)) K' := by repeat (first | exact Pick.hd | apply Pick.tl)) : Pu c F K ⟨d, .lookup T x y false, ty, pos, af, g⟩ v := fun a w hF hK => by
  have hb : w.heap[b]? = some (mapO kk l) := (hK.holds _ hp.mem).1
  have hr := run_lookup_o (i := i) hT hb (hz w) false
  simp [execOp, hF.evl hx, hF.evl hy, hr, hl]
theorem Pu.l1 {x y : Operand} {T kt et : TypeId} {kk : IntKind} {b : Nat} {i : Int} {z : Value} {l : List (Int × Value)} (hT : MapT c.P T kt et kk) (hz : ∀ w, (zeroValue et).run c.P w = .ok z w) (hx : ev F x = some (.map (some b)) := by rfl) (hy : ev F y = some (.int kk i) := by rfl)
    (hp : Pick K (.obj b (mapO kk l)) K' := by repeat (first | exact Pick.hd | apply Pick.tl)) : Pu c F K ⟨d, .lookup T x y false, ty, pos, af, g⟩ ((mlook i l).getD z) := fun a w hF hK => by
  have hb : w.heap[b]? = some (mapO kk l) := (hK.holds _ hp.mem).1
  have hr := run_lookup_o (i := i) hT hb (hz w) false
  simp [execOp, hF.evl hx, hF.evl hy, hr]
theorem Pu.ml' {x : Operand} {T kt et : TypeId} {kk : IntKind} {b : Nat} {l : List (Int × Value)} (hT : MapT c.P T kt et kk) (hx : ev F x = some (.map (some b)) := by rfl)
    (hp : Pick K (.obj b (mapO kk l)) K' := by repeat (first | exact Pick.hd | apply Pick.tl)) : Pu c F K ⟨d, .call { callee := .builtin .len, args := #[x], argTypes := #[T] }, ty, pos, af, g⟩ (.int .i64 l.length) := fun a w hF hK => by
  have hb : w.heap[b]? = some (mapO kk l) := (hK.holds _ hp.mem).1
  have hg := run_getObj_o (P := c.P) hb
  simp [execOp, resolve, invoke, builtin, Builtin.len_, hF.evl hx, run_underlying hT.map, goInt, hg, ents_length]
end
end Go.Proofs.YtljhdcclajikiaaGreatDoor
namespace Go.Proofs.YtljhdcclajikiaaGreatDoor
set_option linter.all false
set_option linter.unusedVariables false
set_option linter.unusedSimpArgs false
open Go.RowKit
theorem flat_take {sz : Nat} {f : Nat → Nat → Value} : ∀ {n m : Nat}, m ≤ n → (flat sz n f).take (m * sz) = flat sz m f
  | 0, m, h => by
    have : m = 0 := by omega
    subst this
    simp [flat]
  | n + 1, m, h => by
    by_cases hm : m = n + 1
    · subst hm
      exact List.take_of_length_le (by rw [flat_length]; exact Nat.le_refl _)
    · rw [flat_succ, List.take_append_of_le_length (by rw [flat_length]; exact Nat.mul_le_mul_right sz (by omega))]
      exact flat_take (by omega)
theorem own_feet {A : Option Addr} {n m cp : Nat} {E : TypeId} {sz : Nat} {r s : Nat → List Value} {K : List Fact} : feet (.own A n cp E sz r :: K) = feet (.own A m cp E sz s :: K) := by
  cases A <;> rfl
theorem OwnR.take {w : World} {A : Option Addr} {n m cp : Nat} {E : TypeId} {sz : Nat} {r : Nat → List Value} (h : OwnR w A n cp E sz r) (hm : m ≤ n) : OwnR w A m cp E sz r := by
  refine ⟨?_, fun i hi => h.len i (by omega)⟩
  rcases h.own.2 with ⟨e, h0⟩ | ⟨g, cap, cur, e, hg, hh, hnc, hcm, hcs, ht⟩
  · injection e with e1 e2 e3
    subst e1 e2 e3
    have : m = 0 := by omega
    subst this
    exact h.own
  · injection e with e1 e2 e3
    subst e1 e3
    refine ⟨by simp [flat_length], .inr ⟨g, cp, cur, rfl, hg, hh, by omega, hcm, hcs, ?_⟩⟩
    have h2 : (cur.toList.take (n * sz)).take (m * sz) = (flat sz n (rowF r)).take (m * sz) := by rw [ht]
    rw [List.take_take, Nat.min_eq_left (Nat.mul_le_mul_right sz hm)] at h2
    rw [h2]
    exact flat_take hm
theorem KSub.drop {φ : Fact} : ∀ {K L : List Fact}, KSub K L → KSub (φ :: K) L
  | _, _, .nil => .nil
  | _, _, .nilOwn h => .nilOwn (KSub.drop h)
  | _, _, .cons hp h => .cons (.tl hp) (KSub.drop h)
  | _, _, .own hp hr h => .own (.tl hp) hr (KSub.drop h)
  | _, _, .ofBlk hp h1 h2 h3 h4 h => .ofBlk (.tl hp) h1 h2 h3 h4 (KSub.drop h)
section
variable {c : Cx} {Q : Exit → Act → World → Prop} {F F' : Fr} {K K' K0 : List Fact} {ops : Array Oper} {rest : List Oper} {d : Option Tmp} {ty : TypeId} {pos : String} {af : Array Edge} {g : Option (Nat × Bool)} {t : Nat}
theorem Pu.cp {T E : TypeId} {x : Operand} {A : Option Addr} {n cp : Nat} (ht : c.P.underlying T = some (.slice E)) (hx : ev F x = some (.slice A n cp) := by rfl) : Pu c F K ⟨d, .call { callee := .builtin .cap, args := #[x], argTypes := #[T] }, ty, pos, af, g⟩ (.int .i64 cp) := fun a w hF _ => by
  simp [execOp, resolve, invoke, builtin, Builtin.cap_, hF.evl hx, run_underlying ht, goInt]
theorem Pu.sh {T E : TypeId} {sz bytes : Nat} {x y : Operand} {A : Option Addr} {n cp q : Nat} {i : Int} (hT : ElemT c.P T E sz bytes) (hx : ev F x = some (.slice A n cp) := by rfl) (hy : ev F y = some (.int .i64 i) := by rfl) (hk : i.toNat = q := by first | exact tnS _ | exact Int.toNat_natCast _ | rfl) (h0 : 0 ≤ i := by omega) (h1 : i ≤ cp := by omega) : Pu c F K ⟨d, .slice T x none (some y) none, ty, pos, af, g⟩ (.slice A q cp) := fun a w hF _ => by
  obtain ⟨i', z, hi, hz, hs, hb, hzs⟩ := hT.hi
  have hsz : (sizeOf E).run c.P w = .ok sz w := by simp [sizeOf, typeInfo, hi, hs]
  have hA : A.map (fun x => x.add 0) = A := by
    cases A with
    | none => rfl
    | some p => simp [Addr.add]
  subst hk
  simp [execOp, Instr.sliceAt, Instr.slice, hF.evl hx, hF.evl hy, run_underlying hT.ht, Instr.sliceBounds, Instr.sliceBound, asIntOf, h0, h1, hsz, hA]
theorem TL.take {A : Option Addr} {n m cp : Nat} {E : TypeId} {sz : Nat} {r : Nat → List Value} (hp : Pick K (.own A n cp E sz r) K') (hm : m ≤ n) (h : TL c ops Q rest F (.own A m cp E sz r :: K')) : TL c ops Q rest F K := fun a w hF hK => by
  have hs := hK.pick hp
  have hb : OwnR w A n cp E sz r := hs.holds (.own A n cp E sz r) (by simp)
  refine h a w hF ⟨hs.chg, by rw [own_feet]; exact hs.nd, by rw [own_feet]; exact hs.ge, fun φ hφ => ?_⟩
  rcases List.mem_cons.1 hφ with rfl | hφ
  · exact hb.take hm
  · exact hs.holds φ (by simp [hφ])
theorem made_flat {z : Array Value} {sz : Nat} (hz : z.size = sz) (hp : 0 < sz) (n : Nat) : (madeCells z (n * sz)).toList = flat sz n (rowF fun _ => z.toList) := by
  refine List.ext_getElem (by simp [madeCells, flat_length]) fun q h1 h2 => ?_
  have hq : q < n * sz := by simpa [flat_length] using h2
  have hdiv : q / sz < n := Nat.div_lt_of_lt_mul (by rw [Nat.mul_comm]; exact hq)
  have hmod : q % sz < sz := Nat.mod_lt _ hp
  have hg := flat_get (f := rowF fun _ => z.toList) hdiv hmod
  rw [Nat.mul_comm (q / sz), Nat.div_add_mod] at hg
  have h3 : (flat sz n (rowF fun _ => z.toList))[q]? = some ((flat sz n (rowF fun _ => z.toList))[q]) := List.getElem?_eq_getElem h2
  rw [hg] at h3
  injection h3 with h3
  rw [← h3]
  subst hz
  simp [madeCells, rowF, List.getD_eq_getElem?_getD, hmod]
theorem TL.ms {T E : TypeId} {sz bytes : Nat} {x y : Operand} {i : Int} {k : Nat} {zs : List Value} {kl kc : IntKind} (hT : ElemT c.P T E sz bytes) (hZ : Zr c.P E zs) (h : ∀ b, TL c ops Q rest (fput F d (.slice (some ⟨b, 0, none⟩) k k)) (.own (some ⟨b, 0, none⟩) k k E sz (fun _ => zs) :: K)) (hx : ev F x = some (.int kl i) := by rfl) (hy : ev F y = some (.int kc i) := by rfl) (hk : i.toNat = k := by first | exact Int.toNat_natCast _ | rfl) (h0 : 0 ≤ i := by omega) (h1 : i ≤ 1000000000 := by omega) (hby : bytes ≤ 10000 := by decide) (hd : dok d c.n = true := by rfl) :
    TL c ops Q (⟨d, .makeSlice T x y, ty, pos, af, none⟩ :: rest) F K := fun a w hF hK =>
  wpList_plain rfl fun Z hZ' => by
    subst hk
    obtain ⟨i', z, hi, hz, hs, hb, hzs⟩ := hT.hi
    obtain ⟨k, rfl⟩ : ∃ k : Nat, i = (k : Int) := ⟨i.toNat, by omega⟩
    simp only [Int.toNat_natCast] at *
    have hkb : bytes * k ≤ 10000 * 1000000000 := Nat.mul_le_mul hby (by omega)
    obtain ⟨w', hr, hown, hgr⟩ := run_make_full (P := c.P) w 0 T E i' z sz hT.ht hi hz hs kl kc k (by rw [hb]; omega) (by simp only [maxLen]; omega) (Nat.zero_le _)
    have hr2 : (execOp a.eval ⟨d, .makeSlice T x y, ty, pos, af, none⟩).run c.P w = .ok (.value (.slice (some ⟨w.heap.size, 0, none⟩) k k)) w' := by
      simp only [execOp, hF.evl hx, hF.evl hy, Sem.run_bind, hr, Result.andThen_ok, Sem.run_pure]
    unfold Oper.wp
    rw [hr2]
    have hzc : z.cells.toList = zs := by
      obtain ⟨z', h2, h3⟩ := hZ
      have h4 := h3 w
      simp [zeroValue, typeInfo, hi, hz] at h4
      rw [h4, h2]
    refine hZ' _ _ (h _ _ _ (hF.fput hd _) ?_)
    have hO : OwnR w' (some ⟨w.heap.size, 0, none⟩) k k E sz (fun _ => zs) := by
      refine ⟨?_, fun q _ => by rw [← hzc]; simpa using hzs⟩
      have := hown
      rw [made_flat hzs hT.pos, hzc] at this
      exact this
    exact hK.add (L := [_]) (Sat.one (Chg.grown hgr) (by simp [Fact.foot]) (fun b hb => by simp [Fact.foot] at hb; subst hb; exact .inr (Nat.le_refl _)) hO)
theorem TL.ob {b : Nat} {E : TypeId} {sz : Nat} {r : Nat → List Value} (hp : Pick K (.blk b E []) K') (hz : Nat.blt 0 sz = true) (h : TL c ops Q rest F (.own (some ⟨b, 0, none⟩) 0 0 E sz r :: K')) : TL c ops Q rest F K := fun a w hF hK => by
  have hs := hK.pick hp
  have hb : Blk w b E #[] := hs.holds (.blk b E []) (by simp)
  have ho : OwnR w (some ⟨b, 0, none⟩) 0 0 E sz r := OwnR.of_blk (cs := []) hb rfl (fun _ h => by omega) hz rfl
  refine h a w hF ⟨hs.chg, hs.nd, hs.ge, fun φ hφ => ?_⟩
  rcases List.mem_cons.1 hφ with rfl | hφ
  · exact ho
  · exact hs.holds φ (by simp [hφ])
theorem TL.mid (j : Nat) (F2 : Fr) (h1 : TL c ops Q (ops.toList.drop j) (F2 ++ F) K) (h2 : TL c ops Q (ops.toList.drop j) (F2 ++ F) K → TL c ops Q rest F K) : TL c ops Q rest F K := h2 h1
theorem TL.az {T N E : TypeId} {sz bytes : Nat} {x y : Operand} {i : Int} {k : Nat} {r : Nat → List Value} {kn : IntKind} (hT : ElemT c.P T E sz bytes) (hN : c.P.underlying N = some (.int kn)) (h : ∀ b cp, k ≤ cp → cp ≤ maxLen → TL c ops Q rest (fput F d (.slice (some ⟨b, 0, none⟩) k cp)) (.own (some ⟨b, 0, none⟩) 0 cp E sz r :: K)) (hx : ev F x = some (.slice none 0 0) := by rfl) (hy : ev F y = some (.int .i64 i) := by rfl) (hk : i.toNat = k := by first | exact tnS _ | exact Int.toNat_natCast _ | rfl) (h0 : 0 < i := by omega) (h1 : i ≤ 1000000000 := by omega) (hby : bytes ≤ 10000 := by decide) (hd : dok d c.n = true := by rfl) :
    TL c ops Q (⟨d, .call { callee := .builtin .append, args := #[x, y], argTypes := #[T, N] }, ty, pos, af, none⟩ :: rest) F K := fun a w hF hK =>
  wpList_plain rfl fun Z hZ => by
    subst hk
    obtain ⟨i', z, hi, hz, hs, hb, hzs⟩ := hT.hi
    obtain ⟨k, rfl⟩ : ∃ k : Nat, i = (k : Int) := ⟨i.toNat, by omega⟩
    have hk0 : 0 < k := by omega
    have hk1 : k ≤ 1000000000 := by omega
    have hpos := hT.pos
    have hcap := nextslicecap_zero hk0
    have hkb : k * bytes ≤ 1000000000 * 10000 := Nat.mul_le_mul hk1 hby
    have hr := Go.Lib.run_append_grow_zeros (P := c.P) w T N ty E i' z .i64 kn hT.ht hN hi hz none 0 0 [] rfl k hk0 (by omega) (by omega) (by omega) (by rw [hb]; omega) (by rw [Nat.zero_add, hcap, hb]; omega)
    simp only [Nat.zero_add] at hr
    have hr2 : (execOp a.eval ⟨d, .call { callee := .builtin .append, args := #[x, y], argTypes := #[T, N] }, ty, pos, af, none⟩).run c.P w = .ok (.value (.slice (some ⟨w.heap.size, 0, none⟩) k (grownCap w k 0 E))) (w.drew.alloc (.cells (#[] ++ Builtin.zeroCells z.cells k ++ Builtin.zeroCells z.cells (grownCap w k 0 E - k)) E)) := by
      simp only [execOp, resolve, invoke, builtin, Sem.run_bind, Sem.run_pure, Result.andThen_ok, List.map_toArray, List.map_cons, List.map_nil, hF.evl hx, hF.evl hy, hr]
    unfold Oper.wp
    rw [hr2]
    have hge := grownCap_ge w k 0 E
    have hml := grownCap_le_maxLen w k 0 E (by simp only [maxLen]; omega)
    refine hZ _ _ (h _ _ hge hml _ _ (hF.fput hd _) ?_)
    have hown : OwnR (w.drew.alloc (.cells (#[] ++ Builtin.zeroCells z.cells k ++ Builtin.zeroCells z.cells (grownCap w k 0 E - k)) E)) (some ⟨w.heap.size, 0, none⟩) 0 (grownCap w k 0 E) E sz r := ⟨World.ownsRow_made (size := sz) w.drew _ _ (Nat.zero_le _) hml (by
      simp only [Array.size_append, size_zeroCells, hzs]
      show 0 + k * sz + (grownCap w k 0 E - k) * sz = _
      rw [Nat.zero_add, ← Nat.add_mul, Nat.add_sub_cancel' hge]), fun _ h => by omega⟩
    exact (hK.ext (keep_drew w)).add (L := [_]) (Sat.one (Chg.of_ext ((Below.refl _ _).alloc (Nat.le_refl _) _)) (by simp [Fact.foot]) (fun b hb => by simp [Fact.foot] at hb; subst hb; exact .inr (Nat.le_refl _)) hown)
end
end Go.Proofs.YtljhdcclajikiaaGreatDoor
namespace Go.Proofs.YtljhdcclajikiaaGreatDoor
set_option linter.all false
set_option linter.unusedVariables false
set_option linter.unusedSimpArgs false
open Go.RowKit
theorem ty_i3 : (Tryz.prog.info? 3).map (fun i => (i.zero, i.size, i.bytes)) = some (some (.int .i64 0), 1, 8) := by kernel_rfl
theorem ty_sz3 : Sz Tryz.prog 3 1 := fun w => by obtain ⟨i, h1, h2, h3, h4⟩ := info_parts ty_i3; simp [sizeOf, typeInfo, h1, h3]
theorem ty_zr3 : Zr Tryz.prog 3 [.int .i64 0] := ⟨.int .i64 0, rfl, fun w => by obtain ⟨i, h1, h2, h3, h4⟩ := info_parts ty_i3; simp [zeroValue, typeInfo, h1, h2]⟩
theorem ty_sc3 : Sc Tryz.prog 3 := fun w => by simp [isAgg, run_underlying Tryz.underlying3]
theorem ty_i4 : (Tryz.prog.info? 4).map (fun i => (i.zero, i.size, i.bytes)) = some (some (.bool false), 1, 1) := by kernel_rfl
theorem ty_sz4 : Sz Tryz.prog 4 1 := fun w => by obtain ⟨i, h1, h2, h3, h4⟩ := info_parts ty_i4; simp [sizeOf, typeInfo, h1, h3]
theorem ty_zr4 : Zr Tryz.prog 4 [.bool false] := ⟨.bool false, rfl, fun w => by obtain ⟨i, h1, h2, h3, h4⟩ := info_parts ty_i4; simp [zeroValue, typeInfo, h1, h2]⟩
theorem ty_sc4 : Sc Tryz.prog 4 := fun w => by simp [isAgg, run_underlying Tryz.underlying4]
theorem ty_i5 : (Tryz.prog.info? 5).map (fun i => (i.zero, i.size, i.bytes)) = some (some (.int .u8 0), 1, 1) := by kernel_rfl
theorem ty_sz5 : Sz Tryz.prog 5 1 := fun w => by obtain ⟨i, h1, h2, h3, h4⟩ := info_parts ty_i5; simp [sizeOf, typeInfo, h1, h3]
theorem ty_zr5 : Zr Tryz.prog 5 [.int .u8 0] := ⟨.int .u8 0, rfl, fun w => by obtain ⟨i, h1, h2, h3, h4⟩ := info_parts ty_i5; simp [zeroValue, typeInfo, h1, h2]⟩
theorem ty_sc5 : Sc Tryz.prog 5 := fun w => by simp [isAgg, run_underlying Tryz.underlying5]
theorem ty_sc22 : Sc Tryz.prog 22 := fun w => by simp [isAgg, run_underlying Tryz.underlying22]
theorem ty_i23 : (Tryz.prog.info? 23).map (fun i => (i.zero, i.size, i.bytes)) = some (some (.slice none 0 0), 1, 24) := by kernel_rfl
theorem ty_sz23 : Sz Tryz.prog 23 1 := fun w => by obtain ⟨i, h1, h2, h3, h4⟩ := info_parts ty_i23; simp [sizeOf, typeInfo, h1, h3]
theorem ty_zr23 : Zr Tryz.prog 23 [.slice none 0 0] := ⟨.slice none 0 0, rfl, fun w => by obtain ⟨i, h1, h2, h3, h4⟩ := info_parts ty_i23; simp [zeroValue, typeInfo, h1, h2]⟩
theorem ty_sc23 : Sc Tryz.prog 23 := fun w => by simp [isAgg, run_underlying Tryz.underlying23]
theorem ty_i24 : (Tryz.prog.info? 24).map (fun i => (i.zero, i.size, i.bytes)) = some (some (.slice none 0 0), 1, 24) := by kernel_rfl
theorem ty_sz24 : Sz Tryz.prog 24 1 := fun w => by obtain ⟨i, h1, h2, h3, h4⟩ := info_parts ty_i24; simp [sizeOf, typeInfo, h1, h3]
theorem ty_zr24 : Zr Tryz.prog 24 [.slice none 0 0] := ⟨.slice none 0 0, rfl, fun w => by obtain ⟨i, h1, h2, h3, h4⟩ := info_parts ty_i24; simp [zeroValue, typeInfo, h1, h2]⟩
theorem ty_sc24 : Sc Tryz.prog 24 := fun w => by simp [isAgg, run_underlying Tryz.underlying24]
theorem ty_sc25 : Sc Tryz.prog 25 := fun w => by simp [isAgg, run_underlying Tryz.underlying25]
theorem ty_i29 : (Tryz.prog.info? 29).map (fun i => (i.zero, i.size, i.bytes)) = some (some (.int .i64 0), 1, 8) := by kernel_rfl
theorem ty_sz29 : Sz Tryz.prog 29 1 := fun w => by obtain ⟨i, h1, h2, h3, h4⟩ := info_parts ty_i29; simp [sizeOf, typeInfo, h1, h3]
theorem ty_zr29 : Zr Tryz.prog 29 [.int .i64 0] := ⟨.int .i64 0, rfl, fun w => by obtain ⟨i, h1, h2, h3, h4⟩ := info_parts ty_i29; simp [zeroValue, typeInfo, h1, h2]⟩
theorem ty_sc29 : Sc Tryz.prog 29 := fun w => by simp [isAgg, run_underlying Tryz.underlying29]
theorem ty_i34 : (Tryz.prog.info? 34).map (fun i => (i.zero, i.size, i.bytes)) = some (some (.agg #[.slice none 0 0, .slice none 0 0, .slice none 0 0]), 3, 72) := by kernel_rfl
theorem ty_sz34 : Sz Tryz.prog 34 3 := fun w => by obtain ⟨i, h1, h2, h3, h4⟩ := info_parts ty_i34; simp [sizeOf, typeInfo, h1, h3]
theorem ty_zr34 : Zr Tryz.prog 34 [.slice none 0 0, .slice none 0 0, .slice none 0 0] := ⟨.agg #[.slice none 0 0, .slice none 0 0, .slice none 0 0], rfl, fun w => by obtain ⟨i, h1, h2, h3, h4⟩ := info_parts ty_i34; simp [zeroValue, typeInfo, h1, h2]⟩
theorem ty_ag34 : Ag Tryz.prog 34 3 := ⟨fun w => by simp [isAgg, run_underlying Tryz.underlying34], ty_sz34⟩
theorem ty_fa34_0 : FieldAt Tryz.prog 34 0 0 := fieldAt_of 0 0 24 1 Tryz.underlying34 (by kernel_rfl) ty_sz24 (by kernel_rfl)
theorem ty_fa34_1 : FieldAt Tryz.prog 34 1 1 := fieldAt_of 1 1 24 1 Tryz.underlying34 (by kernel_rfl) ty_sz24 (by kernel_rfl)
theorem ty_fa34_2 : FieldAt Tryz.prog 34 2 2 := fieldAt_of 2 2 24 1 Tryz.underlying34 (by kernel_rfl) ty_sz24 (by kernel_rfl)
theorem ty_i35 : (Tryz.prog.info? 35).map (fun i => (i.zero, i.size, i.bytes)) = some (some (.agg #[.slice none 0 0, .slice none 0 0, .slice none 0 0]), 3, 72) := by kernel_rfl
theorem ty_sz35 : Sz Tryz.prog 35 3 := fun w => by obtain ⟨i, h1, h2, h3, h4⟩ := info_parts ty_i35; simp [sizeOf, typeInfo, h1, h3]
theorem ty_zr35 : Zr Tryz.prog 35 [.slice none 0 0, .slice none 0 0, .slice none 0 0] := ⟨.agg #[.slice none 0 0, .slice none 0 0, .slice none 0 0], rfl, fun w => by obtain ⟨i, h1, h2, h3, h4⟩ := info_parts ty_i35; simp [zeroValue, typeInfo, h1, h2]⟩
theorem ty_ag35 : Ag Tryz.prog 35 3 := ⟨fun w => by simp [isAgg, run_underlying Tryz.underlying35], ty_sz35⟩
theorem ty_i37 : (Tryz.prog.info? 37).map (fun i => (i.zero, i.size, i.bytes)) = some (some (.agg #[.int .i64 0, .int .i64 0, .int .u8 0]), 3, 24) := by kernel_rfl
theorem ty_sz37 : Sz Tryz.prog 37 3 := fun w => by obtain ⟨i, h1, h2, h3, h4⟩ := info_parts ty_i37; simp [sizeOf, typeInfo, h1, h3]
theorem ty_zr37 : Zr Tryz.prog 37 [.int .i64 0, .int .i64 0, .int .u8 0] := ⟨.agg #[.int .i64 0, .int .i64 0, .int .u8 0], rfl, fun w => by obtain ⟨i, h1, h2, h3, h4⟩ := info_parts ty_i37; simp [zeroValue, typeInfo, h1, h2]⟩
theorem ty_ag37 : Ag Tryz.prog 37 3 := ⟨fun w => by simp [isAgg, run_underlying Tryz.underlying37], ty_sz37⟩
theorem ty_fa37_0 : FieldAt Tryz.prog 37 0 0 := fieldAt_of 0 0 3 1 Tryz.underlying37 (by kernel_rfl) ty_sz3 (by kernel_rfl)
theorem ty_fa37_1 : FieldAt Tryz.prog 37 1 1 := fieldAt_of 1 1 3 1 Tryz.underlying37 (by kernel_rfl) ty_sz3 (by kernel_rfl)
theorem ty_fa37_2 : FieldAt Tryz.prog 37 2 2 := fieldAt_of 2 2 5 1 Tryz.underlying37 (by kernel_rfl) ty_sz5 (by kernel_rfl)
theorem ty_i47 : (Tryz.prog.info? 47).map (fun i => (i.zero, i.size, i.bytes)) = some (some (.agg #[.int .i64 0, .int .i64 0]), 2, 16) := by kernel_rfl
theorem ty_sz47 : Sz Tryz.prog 47 2 := fun w => by obtain ⟨i, h1, h2, h3, h4⟩ := info_parts ty_i47; simp [sizeOf, typeInfo, h1, h3]
theorem ty_zr47 : Zr Tryz.prog 47 [.int .i64 0, .int .i64 0] := ⟨.agg #[.int .i64 0, .int .i64 0], rfl, fun w => by obtain ⟨i, h1, h2, h3, h4⟩ := info_parts ty_i47; simp [zeroValue, typeInfo, h1, h2]⟩
theorem ty_ag47 : Ag Tryz.prog 47 2 := ⟨fun w => by simp [isAgg, run_underlying Tryz.underlying47], ty_sz47⟩
theorem ty_q2_47 : Eq2 Tryz.prog 47 := fun w x y i j m n => by
  by_cases h1 : i = m
  · by_cases h2 : j = n
    · subst h1 h2; go_simp
    · subst h1; go_simp
  · by_cases h2 : j = n
    · subst h2; go_simp
    · go_simp
theorem ty_fa47_0 : FieldAt Tryz.prog 47 0 0 := fieldAt_of 0 0 3 1 Tryz.underlying47 (by kernel_rfl) ty_sz3 (by kernel_rfl)
theorem ty_fa47_1 : FieldAt Tryz.prog 47 1 1 := fieldAt_of 1 1 3 1 Tryz.underlying47 (by kernel_rfl) ty_sz3 (by kernel_rfl)
theorem ty_i58 : (Tryz.prog.info? 58).map (fun i => (i.zero, i.size, i.bytes)) = some (some (.agg #[.int .u8 0, .int .i64 0, .int .i64 0, .int .i64 0, .int .i64 0, .int .i64 0, .int .i64 0, .int .i64 0, .int .i64 0, .int .i64 0, .int .i64 0]), 11, 88) := by kernel_rfl
theorem ty_sz58 : Sz Tryz.prog 58 11 := fun w => by obtain ⟨i, h1, h2, h3, h4⟩ := info_parts ty_i58; simp [sizeOf, typeInfo, h1, h3]
theorem ty_zr58 : Zr Tryz.prog 58 [.int .u8 0, .int .i64 0, .int .i64 0, .int .i64 0, .int .i64 0, .int .i64 0, .int .i64 0, .int .i64 0, .int .i64 0, .int .i64 0, .int .i64 0] := ⟨.agg #[.int .u8 0, .int .i64 0, .int .i64 0, .int .i64 0, .int .i64 0, .int .i64 0, .int .i64 0, .int .i64 0, .int .i64 0, .int .i64 0, .int .i64 0], rfl, fun w => by obtain ⟨i, h1, h2, h3, h4⟩ := info_parts ty_i58; simp [zeroValue, typeInfo, h1, h2]⟩
theorem ty_ag58 : Ag Tryz.prog 58 11 := ⟨fun w => by simp [isAgg, run_underlying Tryz.underlying58], ty_sz58⟩
theorem ty_fa58_0 : FieldAt Tryz.prog 58 0 0 := fieldAt_of 0 0 5 1 Tryz.underlying58 (by kernel_rfl) ty_sz5 (by kernel_rfl)
theorem ty_fa58_1 : FieldAt Tryz.prog 58 1 1 := fieldAt_of 1 1 47 2 Tryz.underlying58 (by kernel_rfl) ty_sz47 (by kernel_rfl)
theorem ty_fa58_2 : FieldAt Tryz.prog 58 2 3 := fieldAt_of 2 3 47 2 Tryz.underlying58 (by kernel_rfl) ty_sz47 (by kernel_rfl)
theorem ty_fa58_3 : FieldAt Tryz.prog 58 3 5 := fieldAt_of 3 5 47 2 Tryz.underlying58 (by kernel_rfl) ty_sz47 (by kernel_rfl)
theorem ty_fa58_4 : FieldAt Tryz.prog 58 4 7 := fieldAt_of 4 7 47 2 Tryz.underlying58 (by kernel_rfl) ty_sz47 (by kernel_rfl)
theorem ty_fa58_5 : FieldAt Tryz.prog 58 5 9 := fieldAt_of 5 9 3 1 Tryz.underlying58 (by kernel_rfl) ty_sz3 (by kernel_rfl)
theorem ty_fa58_6 : FieldAt Tryz.prog 58 6 10 := fieldAt_of 6 10 3 1 Tryz.underlying58 (by kernel_rfl) ty_sz3 (by kernel_rfl)
theorem ty_i65 : (Tryz.prog.info? 65).map (fun i => (i.zero, i.size, i.bytes)) = some (some (.agg #[.int .i64 0, .int .i64 0, .int .i64 0, .int .i64 0, .int .i64 0, .int .i64 0, .int .i64 0, .int .i64 0, .int .i64 0, .int .i64 0, .int .i64 0, .int .i64 0, .int .i64 0, .int .i64 0, .int .i64 0, .int .i64 0, .int .i64 0]), 17, 136) := by kernel_rfl
theorem ty_sz65 : Sz Tryz.prog 65 17 := fun w => by obtain ⟨i, h1, h2, h3, h4⟩ := info_parts ty_i65; simp [sizeOf, typeInfo, h1, h3]
theorem ty_zr65 : Zr Tryz.prog 65 [.int .i64 0, .int .i64 0, .int .i64 0, .int .i64 0, .int .i64 0, .int .i64 0, .int .i64 0, .int .i64 0, .int .i64 0, .int .i64 0, .int .i64 0, .int .i64 0, .int .i64 0, .int .i64 0, .int .i64 0, .int .i64 0, .int .i64 0] := ⟨.agg #[.int .i64 0, .int .i64 0, .int .i64 0, .int .i64 0, .int .i64 0, .int .i64 0, .int .i64 0, .int .i64 0, .int .i64 0, .int .i64 0, .int .i64 0, .int .i64 0, .int .i64 0, .int .i64 0, .int .i64 0, .int .i64 0, .int .i64 0], rfl, fun w => by obtain ⟨i, h1, h2, h3, h4⟩ := info_parts ty_i65; simp [zeroValue, typeInfo, h1, h2]⟩
theorem ty_ag65 : Ag Tryz.prog 65 17 := ⟨fun w => by simp [isAgg, run_underlying Tryz.underlying65], ty_sz65⟩
theorem ty_fa65_0 : FieldAt Tryz.prog 65 0 0 := fieldAt_of 0 0 3 1 Tryz.underlying65 (by kernel_rfl) ty_sz3 (by kernel_rfl)
theorem ty_fa65_1 : FieldAt Tryz.prog 65 1 1 := fieldAt_of 1 1 3 1 Tryz.underlying65 (by kernel_rfl) ty_sz3 (by kernel_rfl)
theorem ty_fa65_2 : FieldAt Tryz.prog 65 2 2 := fieldAt_of 2 2 47 2 Tryz.underlying65 (by kernel_rfl) ty_sz47 (by kernel_rfl)
theorem ty_fa65_3 : FieldAt Tryz.prog 65 3 4 := fieldAt_of 3 4 47 2 Tryz.underlying65 (by kernel_rfl) ty_sz47 (by kernel_rfl)
theorem ty_fa65_4 : FieldAt Tryz.prog 65 4 6 := fieldAt_of 4 6 47 2 Tryz.underlying65 (by kernel_rfl) ty_sz47 (by kernel_rfl)
theorem ty_fa65_5 : FieldAt Tryz.prog 65 5 8 := fieldAt_of 5 8 47 2 Tryz.underlying65 (by kernel_rfl) ty_sz47 (by kernel_rfl)
theorem ty_fa65_6 : FieldAt Tryz.prog 65 6 10 := fieldAt_of 6 10 47 2 Tryz.underlying65 (by kernel_rfl) ty_sz47 (by kernel_rfl)
theorem ty_fa65_7 : FieldAt Tryz.prog 65 7 12 := fieldAt_of 7 12 47 2 Tryz.underlying65 (by kernel_rfl) ty_sz47 (by kernel_rfl)
theorem ty_fa65_8 : FieldAt Tryz.prog 65 8 14 := fieldAt_of 8 14 3 1 Tryz.underlying65 (by kernel_rfl) ty_sz3 (by kernel_rfl)
theorem ty_fa65_9 : FieldAt Tryz.prog 65 9 15 := fieldAt_of 9 15 47 2 Tryz.underlying65 (by kernel_rfl) ty_sz47 (by kernel_rfl)
theorem ty_i67 : (Tryz.prog.info? 67).map (fun i => (i.zero, i.size, i.bytes)) = some (some (.agg #[.int .i64 0, .int .i64 0, .int .i64 0, .int .i64 0, .int .i64 0, .int .i64 0, .bool false]), 7, 56) := by kernel_rfl
theorem ty_sz67 : Sz Tryz.prog 67 7 := fun w => by obtain ⟨i, h1, h2, h3, h4⟩ := info_parts ty_i67; simp [sizeOf, typeInfo, h1, h3]
theorem ty_zr67 : Zr Tryz.prog 67 [.int .i64 0, .int .i64 0, .int .i64 0, .int .i64 0, .int .i64 0, .int .i64 0, .bool false] := ⟨.agg #[.int .i64 0, .int .i64 0, .int .i64 0, .int .i64 0, .int .i64 0, .int .i64 0, .bool false], rfl, fun w => by obtain ⟨i, h1, h2, h3, h4⟩ := info_parts ty_i67; simp [zeroValue, typeInfo, h1, h2]⟩
theorem ty_ag67 : Ag Tryz.prog 67 7 := ⟨fun w => by simp [isAgg, run_underlying Tryz.underlying67], ty_sz67⟩
theorem ty_fa67_0 : FieldAt Tryz.prog 67 0 0 := fieldAt_of 0 0 47 2 Tryz.underlying67 (by kernel_rfl) ty_sz47 (by kernel_rfl)
theorem ty_fa67_1 : FieldAt Tryz.prog 67 1 2 := fieldAt_of 1 2 47 2 Tryz.underlying67 (by kernel_rfl) ty_sz47 (by kernel_rfl)
theorem ty_fa67_2 : FieldAt Tryz.prog 67 2 4 := fieldAt_of 2 4 47 2 Tryz.underlying67 (by kernel_rfl) ty_sz47 (by kernel_rfl)
theorem ty_i81 : (Tryz.prog.info? 81).map (fun i => (i.zero, i.size, i.bytes)) = some (some (.slice none 0 0), 1, 24) := by kernel_rfl
theorem ty_sz81 : Sz Tryz.prog 81 1 := fun w => by obtain ⟨i, h1, h2, h3, h4⟩ := info_parts ty_i81; simp [sizeOf, typeInfo, h1, h3]
theorem ty_zr81 : Zr Tryz.prog 81 [.slice none 0 0] := ⟨.slice none 0 0, rfl, fun w => by obtain ⟨i, h1, h2, h3, h4⟩ := info_parts ty_i81; simp [zeroValue, typeInfo, h1, h2]⟩
theorem ty_sc81 : Sc Tryz.prog 81 := fun w => by simp [isAgg, run_underlying Tryz.underlying81]
theorem ty_i84 : (Tryz.prog.info? 84).map (fun i => (i.zero, i.size, i.bytes)) = some (some (.agg #[.slice none 0 0, .slice none 0 0, .slice none 0 0, .slice none 0 0]), 4, 96) := by kernel_rfl
theorem ty_sz84 : Sz Tryz.prog 84 4 := fun w => by obtain ⟨i, h1, h2, h3, h4⟩ := info_parts ty_i84; simp [sizeOf, typeInfo, h1, h3]
theorem ty_zr84 : Zr Tryz.prog 84 [.slice none 0 0, .slice none 0 0, .slice none 0 0, .slice none 0 0] := ⟨.agg #[.slice none 0 0, .slice none 0 0, .slice none 0 0, .slice none 0 0], rfl, fun w => by obtain ⟨i, h1, h2, h3, h4⟩ := info_parts ty_i84; simp [zeroValue, typeInfo, h1, h2]⟩
theorem ty_ag84 : Ag Tryz.prog 84 4 := ⟨fun w => by simp [isAgg, run_underlying Tryz.underlying84], ty_sz84⟩
theorem ty_fa84_0 : FieldAt Tryz.prog 84 0 0 := fieldAt_of 0 0 34 3 Tryz.underlying84 (by kernel_rfl) ty_sz34 (by kernel_rfl)
theorem ty_fa84_1 : FieldAt Tryz.prog 84 1 3 := fieldAt_of 1 3 81 1 Tryz.underlying84 (by kernel_rfl) ty_sz81 (by kernel_rfl)
theorem ty_i91 : (Tryz.prog.info? 91).map (fun i => (i.zero, i.size, i.bytes)) = some (some (.slice none 0 0), 1, 24) := by kernel_rfl
theorem ty_sz91 : Sz Tryz.prog 91 1 := fun w => by obtain ⟨i, h1, h2, h3, h4⟩ := info_parts ty_i91; simp [sizeOf, typeInfo, h1, h3]
theorem ty_zr91 : Zr Tryz.prog 91 [.slice none 0 0] := ⟨.slice none 0 0, rfl, fun w => by obtain ⟨i, h1, h2, h3, h4⟩ := info_parts ty_i91; simp [zeroValue, typeInfo, h1, h2]⟩
theorem ty_sc91 : Sc Tryz.prog 91 := fun w => by simp [isAgg, run_underlying Tryz.underlying91]
theorem ty_i92 : (Tryz.prog.info? 92).map (fun i => (i.zero, i.size, i.bytes)) = some (some (.nilFunc), 1, 8) := by kernel_rfl
theorem ty_sz92 : Sz Tryz.prog 92 1 := fun w => by obtain ⟨i, h1, h2, h3, h4⟩ := info_parts ty_i92; simp [sizeOf, typeInfo, h1, h3]
theorem ty_zr92 : Zr Tryz.prog 92 [.nilFunc] := ⟨.nilFunc, rfl, fun w => by obtain ⟨i, h1, h2, h3, h4⟩ := info_parts ty_i92; simp [zeroValue, typeInfo, h1, h2]⟩
theorem ty_sc92 : Sc Tryz.prog 92 := fun w => by simp [isAgg, run_underlying Tryz.underlying92]
theorem ty_i95 : (Tryz.prog.info? 95).map (fun i => (i.zero, i.size, i.bytes)) = some (some (.nilFunc), 1, 8) := by kernel_rfl
theorem ty_sz95 : Sz Tryz.prog 95 1 := fun w => by obtain ⟨i, h1, h2, h3, h4⟩ := info_parts ty_i95; simp [sizeOf, typeInfo, h1, h3]
theorem ty_sc95 : Sc Tryz.prog 95 := fun w => by simp [isAgg, run_underlying Tryz.underlying95]
theorem ty_i99 : (Tryz.prog.info? 99).map (fun i => (i.zero, i.size, i.bytes)) = some (some (.agg #[.nilFunc, .nilFunc]), 2, 16) := by kernel_rfl
theorem ty_sz99 : Sz Tryz.prog 99 2 := fun w => by obtain ⟨i, h1, h2, h3, h4⟩ := info_parts ty_i99; simp [sizeOf, typeInfo, h1, h3]
theorem ty_zr99 : Zr Tryz.prog 99 [.nilFunc, .nilFunc] := ⟨.agg #[.nilFunc, .nilFunc], rfl, fun w => by obtain ⟨i, h1, h2, h3, h4⟩ := info_parts ty_i99; simp [zeroValue, typeInfo, h1, h2]⟩
theorem ty_fa99_0 : FieldAt Tryz.prog 99 0 0 := fieldAt_of 0 0 95 1 Tryz.underlying99 (by kernel_rfl) ty_sz95 (by kernel_rfl)
theorem ty_sc111 : Sc Tryz.prog 111 := fun w => by simp [isAgg, run_underlying Tryz.underlying111]
theorem ty_sc115 : Sc Tryz.prog 115 := fun w => by simp [isAgg, run_underlying Tryz.underlying115]
theorem ty_i131 : (Tryz.prog.info? 131).map (fun i => (i.zero, i.size, i.bytes)) = some (some (.agg #[.int .i64 0, .int .i64 0, .int .i64 0, .int .i64 0, .int .i64 0, .int .i64 0, .int .i64 0, .int .i64 0, .int .i64 0, .int .i64 0, .int .i64 0, .int .i64 0, .int .i64 0, .int .i64 0, .int .i64 0, .int .i64 0, .int .i64 0, .int .i64 0, .int .i64 0, .int .i64 0, .int .i64 0, .int .i64 0, .int .i64 0, .bool false]), 24, 192) := by kernel_rfl
theorem ty_sz131 : Sz Tryz.prog 131 24 := fun w => by obtain ⟨i, h1, h2, h3, h4⟩ := info_parts ty_i131; simp [sizeOf, typeInfo, h1, h3]
theorem ty_ag131 : Ag Tryz.prog 131 24 := ⟨fun w => by simp [isAgg, run_underlying Tryz.underlying131], ty_sz131⟩
theorem ty_fa131_0 : FieldAt Tryz.prog 131 0 0 := fieldAt_of 0 0 65 17 Tryz.underlying131 (by kernel_rfl) ty_sz65 (by kernel_rfl)
theorem ty_fa131_1 : FieldAt Tryz.prog 131 1 17 := fieldAt_of 1 17 67 7 Tryz.underlying131 (by kernel_rfl) ty_sz67 (by kernel_rfl)
theorem ty_et22 : ElemT Tryz.prog 22 58 11 88 := elemT (z := .agg #[.int .u8 0, .int .i64 0, .int .i64 0, .int .i64 0, .int .i64 0, .int .i64 0, .int .i64 0, .int .i64 0, .int .i64 0, .int .i64 0, .int .i64 0]) Tryz.underlying22 ty_i58 rfl (by decide)
theorem ty_et23 : ElemT Tryz.prog 23 34 3 72 := elemT (z := .agg #[.slice none 0 0, .slice none 0 0, .slice none 0 0]) Tryz.underlying23 ty_i34 rfl (by decide)
theorem ty_et24 : ElemT Tryz.prog 24 3 1 8 := elemT (z := .int .i64 0) Tryz.underlying24 ty_i3 rfl (by decide)
theorem ty_et25 : ElemT Tryz.prog 25 37 3 24 := elemT (z := .agg #[.int .i64 0, .int .i64 0, .int .u8 0]) Tryz.underlying25 ty_i37 rfl (by decide)
theorem ty_et42 : ElemT Tryz.prog 42 5 1 1 := elemT (z := .int .u8 0) Tryz.underlying42 ty_i5 rfl (by decide)
theorem ty_et81 : ElemT Tryz.prog 81 47 2 16 := elemT (z := .agg #[.int .i64 0, .int .i64 0]) Tryz.underlying81 ty_i47 rfl (by decide)
theorem ty_et91 : ElemT Tryz.prog 91 24 1 24 := elemT (z := .slice none 0 0) Tryz.underlying91 ty_i24 rfl (by decide)
theorem ty_et104 : ElemT Tryz.prog 104 4 1 1 := elemT (z := .bool false) Tryz.underlying104 ty_i4 rfl (by decide)
theorem ty_mp100 : MapT Tryz.prog 100 5 99 .u8 := ⟨Tryz.underlying100, Tryz.underlying5⟩
theorem ty_zv99 : ∀ w, (zeroValue 99).run Tryz.prog w = .ok (.agg #[.nilFunc, .nilFunc]) w := fun w => by obtain ⟨i, h1, h2, h3, h4⟩ := info_parts ty_i99; simp [zeroValue, typeInfo, h1, h2]
theorem ty_mp108 : MapT Tryz.prog 108 3 4 .i64 := ⟨Tryz.underlying108, Tryz.underlying3⟩
theorem ty_zv4 : ∀ w, (zeroValue 4).run Tryz.prog w = .ok (.bool false) w := fun w => by obtain ⟨i, h1, h2, h3, h4⟩ := info_parts ty_i4; simp [zeroValue, typeInfo, h1, h2]
end Go.Proofs.YtljhdcclajikiaaGreatDoor
