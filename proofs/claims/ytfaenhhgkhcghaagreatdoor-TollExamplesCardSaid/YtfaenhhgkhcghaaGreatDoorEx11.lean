/-
  Part 11 of the proof of tollExamples_holds: declarations of several texts, in build order. No condition on a program.
-/
import Derived.Test.YtfaenhhgkhcghaaGreatDoorEx10
import Derived.Test.YtfaenhhgkhcghaaGreatDoorEx04
import Derived.Test.YtfaenhhgkhcghaaGreatDoorEx09
namespace Go.Proofs.YtfaenhhgkhcghaaGreatDoor
set_option linter.all false
set_option linter.unusedVariables false
set_option linter.unusedSimpArgs false
open Go.RowKit Go.MapKept
section
variable {W A : Option Addr} {nw cw nl cl : Nat} {x : Nat → Leg} {p0 p1 : Int} {w : World}
set_option maxRecDepth 100000 in
set_option maxHeartbeats 1000000 in
theorem leads2_iter {bc bw : Nat} {well : Int} {S : List Nat} {W0 : World} {R : Type} {J : Nat → R → List Fact} (hR : RdR W0 5 A nl (fun k => legL (x k))) (hA : 0 < nl → Apart S A) (hnl : nl ≤ 1000) :
  IterR Tryz.prog 116 [.pointer (some ⟨bc, 0, none⟩), .pointer (some ⟨bw, 0, none⟩)] (ledM W nw cw A nl cl p0 p1 well bc bw) Unit (fun q _ => [.int .i64 ((ldL (fun k => (x k).u) well nl).getD q (0, 0)).1, .int .i64 ((ldL (fun k => (x k).u) well nl).getD q (0, 0)).2]) (fun _ _ => ledM W nw cw A nl cl p0 p1 well bc bw) (fun _ _ => ledM W nw cw A nl cl p0 p1 well bc bw) (ldL (fun k => (x k).u) well nl).length [] S W0 R J := by
 intro lY Rx Jx r0 w9 hS hround
 unfold ledM carL at hS hround
 refine K_enterW (S := S) (K := .blk bc 140 _ :: .blk bw 3 [.int .i64 well] :: J 0 r0) Tryz.func116 rfl Tryz.ntmps116 rfl hS ?_
 refine TW.seq fun Y1 hY1 => TW.region ?_
 refine TL.p (by first | exact Pu.fb ty_fa140_0 | exact Pu.fe ty_fa140_0) ?_
 refine TL.p (by first | exact Pu.fb ty_fa25_1 | exact Pu.fe ty_fa25_1) ?_
 refine TL.p (by first | exact (Pu.ld ty_sc23) | exact (Pu.ldo ty_sc23)) ?_
 refine TL.p (Pu.ln Tryz.underlying23) ?_
 refine TL.p Pu.mv ?_
 refine TL.nil (TQ.thenN (hY1 _ _ ?_))
 refine TW.block ?_
 refine TW.loop2 (fun (k : Nat) (r : R) => [(10, .int .i64 (k : Int)), (9, .int .i64 (nl : Int)), (8, .slice A nl cl), (0, .func (.yield lY) #[] #[]), (2, .pointer (some ⟨bw, 0, none⟩))]) (fun k r => .blk bc 140 [.slice W nw cw, .slice A nl cl, .int .i64 p0, .int .i64 p1] :: .blk bw 3 [.int .i64 well] :: J (ldL (fun k => (x k).u) well k).length r) (fun k r => k ≤ nl) (fun k r => nl - k) 0 r0 fs9 ?_ ?_ ?_
 exact kt9
 exact Nat.zero_le _
 rintro k r hk Z0 hZ0
 refine TW.seq fun Y2 hY2 => TW.region ?_
 refine TL.p Pu.lt ?_
 refine TL.nil (TQ.thenN (hY2 _ _ ?_))
 refine TW.seq fun Y3 hY3 => ?_
 refine TW.cond rfl (fun hc0 => ?_) (fun hc0 => ?_)
 try simp only [zcb9] at hc0
 have hkn : k < nl := by omega
 have hA9 := hA (by omega)
 refine TW.skip ?_
 refine TQ.thenN (hY3 _ _ ?_)
 refine TW.seq fun Y4 hY4 => ?_
 refine TW.block ?_
 refine TW.seq fun Y5 hY5 => TW.region ?_
 refine TL.p Pu.mv ?_
 refine TL.p (Pu.el ty_et23) ?_
 refine TL.p (by first | exact (Pu.lds ty_ag107) | exact (Pu.ldso ty_ag107)) ?_
 refine TL.m (Mk.al ty_zr107) ?_
 intro b1
 refine TL.p Pu.as ?_
 first | refine TL.st ty_sz107 ?_ | refine TL.se ty_sz107 ?_
 refine TL.nil (TQ.thenN (hY5 _ _ ?_))
 refine TW.seq fun Y6 hY6 => TW.region ?_
 refine TL.p (by first | exact (Pu.ld ty_sc3) | exact (Pu.ldo ty_sc3)) ?_
 refine TL.nil (TQ.thenN (hY6 _ _ ?_))
 refine TW.block ?_
 refine TW.seq fun Y7 hY7 => TW.region ?_
 refine TL.p (by first | exact Pu.fb ty_fa107_0 | exact Pu.fe ty_fa107_0) ?_
 refine TL.p (by first | exact (Pu.ld ty_sc3) | exact (Pu.ldo ty_sc3)) ?_
 refine TL.p Pu.eq ?_
 refine TL.p Pu.as ?_
 refine TL.nil (TQ.thenN (hY7 _ _ ?_))
 refine TW.cond rfl (fun hc1 => ?_) (fun hc1 => ?_)
 try simp only [zcb9] at hc1
 have ha : atW (x k).u well := .inl (by omega)
 obtain ⟨hg1, hg2⟩ := ld_get (u := fun k => (x k).u) hkn ha
 rw [oth_from (by omega)] at hg2
 have hs : (ldL (fun k => (x k).u) well (k + 1)).length = (ldL (fun k => (x k).u) well k).length + 1 := by rw [ld_yes ha]; simp
 replace hg2 := hidT hg2
 replace hs := hidT hs
 refine TW.seq fun Y8 hY8 => ?_
 refine TW.regionI ?_
 refine TLi.op (fun U1 hU1 => ?_) (by rintro ⟨_, _, h⟩; first | exact h | (obtain ⟨⟨_, h⟩, _⟩ := h; cases h) | cases h)
 refine TL.p Pu.mv ?_
 refine TL.nil ?_
 refine TQ.nxt (hU1 _ _ ?_)
 refine TLi.op (fun U2 hU2 => ?_) (by rintro ⟨_, _, h⟩; first | exact h | (obtain ⟨⟨_, h⟩, _⟩ := h; cases h) | cases h)
 refine TL.p Pu.mv ?_
 refine TL.nil ?_
 refine TQ.nxt (hU2 _ _ ?_)
 refine TLi.op (fun U3 hU3 => ?_) (by rintro ⟨_, _, h⟩; first | exact h | (obtain ⟨⟨_, h⟩, _⟩ := h; cases h) | cases h)
 refine TL.p (by first | exact Pu.fb ty_fa107_1 | exact Pu.fe ty_fa107_1) ?_
 refine TL.nil ?_
 refine TQ.nxt (hU3 _ _ ?_)
 refine TLi.op (fun U4 hU4 => ?_) (by rintro ⟨_, _, h⟩; first | exact h | (obtain ⟨⟨_, h⟩, _⟩ := h; cases h) | cases h)
 refine TL.p (by first | exact (Pu.ld ty_sc3) | exact (Pu.ldo ty_sc3)) ?_
 refine TL.nil ?_
 refine TQ.nxt (hU4 _ _ ?_)
 refine TLi.yi rfl rfl (fun w hw => by
   have h9 := hround (ldL (fun k => (x k).u) well k).length () r w hg1 (hw.sub (KSub.drop (KSub.refl _)))
   simp only [hg2.out] at h9
   exact h9) ?_ ?_
 intro r
 refine TLi.op (fun U5 hU5 => ?_) (by rintro ⟨_, _, h⟩; first | exact h | (obtain ⟨⟨_, h⟩, _⟩ := h; cases h) | cases h)
 refine TL.p Pu.no ?_
 refine TL.nil ?_
 refine TQ.nxt (hU5 _ _ ?_)
 refine TLi.nil ?_
 refine TQ.thenN (hY8 _ _ ?_)
 refine TW.condF rfl rfl ?_
 refine TW.skip ?_
 refine TQ.blkN ?_
 refine TQ.blkN ?_
 refine TQ.thenN (hY4 _ _ ?_)
 refine TW.region ?_
 refine TL.p Pu.ad ?_
 refine TL.p Pu.mv ?_
 refine TL.nil ?_
 refine TQ.thenN (hZ0 (k + 1) r _ _ ?_ ?_ fs9 ?_)
 exact (by omega)
 exact zom9
 first
  | (rw [hs.out]; exact KSub.refl _)
  | (rw [hs.out]; exact KSub.drop (KSub.refl _))
 intro x'
 refine TLi.op (fun U6 hU6 => ?_) (by rintro ⟨_, _, h⟩; first | exact h | (obtain ⟨⟨_, h⟩, _⟩ := h; cases h) | cases h)
 refine TL.p Pu.no ?_
 refine TL.nil ?_
 refine TQ.nxt (hU6 _ _ ?_)
 refine TLi.nil ?_
 refine TQ.thenN (hY8 _ _ ?_)
 refine TW.condT rfl rfl ?_
 refine TW.ret ?_
 refine TQ.blkR ?_
 refine TQ.blkR ?_
 refine TQ.thenR ?_
 refine TQ.thenR ?_
 refine TQ.blkR ?_
 refine TQ.ret Tryz.results116 rfl (.nil) ?_
 exact fun w hw => ⟨⟨_, rfl⟩, .inr ⟨x', hw.sub (KSub.dropL _ (KSub.refl _))⟩⟩
 try simp only [zcb9] at hc1
 have hn0 : ¬ (x k).u 0 = well := by omega
 refine TW.seq fun Y9 hY9 => TW.region ?_
 refine TL.p (by first | exact Pu.fb ty_fa107_1 | exact Pu.fe ty_fa107_1) ?_
 refine TL.p (by first | exact (Pu.ld ty_sc3) | exact (Pu.ldo ty_sc3)) ?_
 refine TL.p Pu.eq ?_
 refine TL.p Pu.as ?_
 refine TL.nil (TQ.thenN (hY9 _ _ ?_))
 refine TW.cond rfl (fun hc3 => ?_) (fun hc3 => ?_)
 try simp only [zcb9] at hc3
 have ha : atW (x k).u well := .inr (by omega)
 obtain ⟨hg1, hg2⟩ := ld_get (u := fun k => (x k).u) hkn ha
 rw [oth_to hn0 (by omega)] at hg2
 have hs : (ldL (fun k => (x k).u) well (k + 1)).length = (ldL (fun k => (x k).u) well k).length + 1 := by rw [ld_yes ha]; simp
 replace hg2 := hidT hg2
 replace hs := hidT hs
 refine TW.seq fun Y10 hY10 => ?_
 refine TW.regionI ?_
 refine TLi.op (fun U7 hU7 => ?_) (by rintro ⟨_, _, h⟩; first | exact h | (obtain ⟨⟨_, h⟩, _⟩ := h; cases h) | cases h)
 refine TL.p Pu.mv ?_
 refine TL.nil ?_
 refine TQ.nxt (hU7 _ _ ?_)
 refine TLi.op (fun U8 hU8 => ?_) (by rintro ⟨_, _, h⟩; first | exact h | (obtain ⟨⟨_, h⟩, _⟩ := h; cases h) | cases h)
 refine TL.p Pu.mv ?_
 refine TL.nil ?_
 refine TQ.nxt (hU8 _ _ ?_)
 refine TLi.op (fun U9 hU9 => ?_) (by rintro ⟨_, _, h⟩; first | exact h | (obtain ⟨⟨_, h⟩, _⟩ := h; cases h) | cases h)
 refine TL.p (by first | exact Pu.fb ty_fa107_0 | exact Pu.fe ty_fa107_0) ?_
 refine TL.nil ?_
 refine TQ.nxt (hU9 _ _ ?_)
 refine TLi.op (fun U10 hU10 => ?_) (by rintro ⟨_, _, h⟩; first | exact h | (obtain ⟨⟨_, h⟩, _⟩ := h; cases h) | cases h)
 refine TL.p (by first | exact (Pu.ld ty_sc3) | exact (Pu.ldo ty_sc3)) ?_
 refine TL.nil ?_
 refine TQ.nxt (hU10 _ _ ?_)
 refine TLi.yi rfl rfl (fun w hw => by
   have h9 := hround (ldL (fun k => (x k).u) well k).length () r w hg1 (hw.sub (KSub.drop (KSub.refl _)))
   simp only [hg2.out] at h9
   exact h9) ?_ ?_
 intro r
 refine TLi.op (fun U11 hU11 => ?_) (by rintro ⟨_, _, h⟩; first | exact h | (obtain ⟨⟨_, h⟩, _⟩ := h; cases h) | cases h)
 refine TL.p Pu.no ?_
 refine TL.nil ?_
 refine TQ.nxt (hU11 _ _ ?_)
 refine TLi.nil ?_
 refine TQ.thenN (hY10 _ _ ?_)
 refine TW.condF rfl rfl ?_
 refine TW.skip ?_
 refine TQ.blkN ?_
 refine TQ.blkN ?_
 refine TQ.thenN (hY4 _ _ ?_)
 refine TW.region ?_
 refine TL.p Pu.ad ?_
 refine TL.p Pu.mv ?_
 refine TL.nil ?_
 refine TQ.thenN (hZ0 (k + 1) r _ _ ?_ ?_ fs9 ?_)
 exact (by omega)
 exact zom9
 first
  | (rw [hs.out]; exact KSub.refl _)
  | (rw [hs.out]; exact KSub.drop (KSub.refl _))
 intro x'
 refine TLi.op (fun U12 hU12 => ?_) (by rintro ⟨_, _, h⟩; first | exact h | (obtain ⟨⟨_, h⟩, _⟩ := h; cases h) | cases h)
 refine TL.p Pu.no ?_
 refine TL.nil ?_
 refine TQ.nxt (hU12 _ _ ?_)
 refine TLi.nil ?_
 refine TQ.thenN (hY10 _ _ ?_)
 refine TW.condT rfl rfl ?_
 refine TW.ret ?_
 refine TQ.blkR ?_
 refine TQ.blkR ?_
 refine TQ.thenR ?_
 refine TQ.thenR ?_
 refine TQ.blkR ?_
 refine TQ.ret Tryz.results116 rfl (.nil) ?_
 exact fun w hw => ⟨⟨_, rfl⟩, .inr ⟨x', hw.sub (KSub.dropL _ (KSub.refl _))⟩⟩
 try simp only [zcb9] at hc3
 have ha : ¬ atW (x k).u well := fun h => h.elim hn0 (by omega)
 have hs : (ldL (fun k => (x k).u) well (k + 1)).length = (ldL (fun k => (x k).u) well k).length := by rw [ld_no ha]
 replace hs := hidT hs
 refine TW.skip ?_
 refine TQ.blkN ?_
 refine TQ.blkN ?_
 refine TQ.thenN (hY4 _ _ ?_)
 refine TW.region ?_
 refine TL.p Pu.ad ?_
 refine TL.p Pu.mv ?_
 refine TL.nil ?_
 refine TQ.thenN (hZ0 (k + 1) r _ _ ?_ ?_ fs9 ?_)
 exact (by omega)
 exact zom9
 first
  | (rw [hs.out]; exact KSub.refl _)
  | (rw [hs.out]; exact KSub.drop (KSub.refl _))
 try simp only [zcb9] at hc0
 obtain rfl : k = nl := by omega
 refine TW.exit ?_
 refine TQ.thenX ?_
 refine TQ.thenX ?_
 refine TQ.blkX ?_
 refine TQ.end Tryz.results116 rfl (.nil) ?_
 exact fun w hw => ⟨⟨_, rfl⟩, .inl ⟨r, hw.sub (KSub.drop (KSub.drop (KSub.refl _)))⟩⟩
end
section
variable {c : Cx} {Q : Exit → Act → World → Prop} {F F' : Fr} {K K' K0 : List Fact} {ops : Array Oper} {rest : List Oper} {d : Option Tmp} {ty : TypeId} {pos : String} {af : Array Edge} {g : Option (Nat × Bool)}
theorem TL.cvkg {f : FuncId} {x : Operand} {xs : List Operand} {ts : Array TypeId} {us fs cs : List Value} {M : List Fact} {X : Type} {val : X → Value} {L : X → List Fact} (hf : ev F x = some (.func (.func f) fs.toArray cs.toArray)) (hx : evs F xs = some us) (hen : Enters c.P f) (hM : K.Perm (M ++ K'))
  (hc : ∀ w, Sat c.S c.w0 K w → CallsK c.P f (fs ++ us ++ cs).toArray M w X val L) (h : ∀ x, TL c ops Q rest (fput F d (val x)) (L x ++ K')) (hg : gdB F ops g = some true := by rfl) (hd : dok d c.n = true := by rfl) : TL c ops Q (⟨d, .call { callee := .value x, args := xs.toArray, argTypes := ts }, ty, pos, af, g⟩ :: rest) F K := fun a w hF hK => by
 unfold wpList
 rw [if_pos (hF.wanted hg)]
 refine .inl ?_
 unfold Oper.wp
 rw [run_callv (hF.evl hf) (hF.evsl hx) hen rfl]
 refine Calls.mono (hc w hK) ?_
 rintro e w' ⟨x, rfl, hs⟩
 exact h x _ _ (hF.fput hd _) ((hK.perm hM).step hs)
theorem Pu.lbG {x y : Operand} {T kt et : TypeId} {kk : IntKind} {b n : Nat} {i : Int} {z : Value} {u : Bool} {l : Gl} (hT : MapT c.P T kt et kk) (hz : ∀ w, (zeroValue et).run c.P w = .ok z w) (hl : (mlook i (gl l)).getD z = .bool u) (hx : ev F x = some (.map (some b)) := by rfl) (hy : ev F y = some (.int kk i) := by rfl)
    (hp : Pick K (.obj b (gO kk l n)) K' := by repeat (first | exact Pick.hd | apply Pick.tl)) : Pu c F K ⟨d, .lookup T x y false, ty, pos, af, g⟩ (.bool u) := fun a w hF hK => by
  have hb : w.heap[b]? = some (gO kk l n) := (hK.holds _ hp.mem).1
  have hr := run_lookup_g (i := i) hT hb (hz w) false
  rw [← hl]
  simp [execOp, hF.evl hx, hF.evl hy, hr]
end
theorem arW_eq {x : Nat → Leg} {g : Nat → Nat → Nat → Int} {p0 t : Int} {k : Nat} : arW x g p0 k t = arV (lvF (g k) 1 2 t (dyS (x k).u p0) (x k).n) (dyS (x k).u p0) := by unfold arW; rw [Int.toNat_natCast]
theorem chg_below {S : List Nat} {w w' : World} {N : Nat} (h : Chg S w w') (hS : ∀ b ∈ S, N ≤ b) (hN : N ≤ w.heap.size) : Below N w w' := ⟨h.os, h.tape, h.output, h.size, fun k hk => h.block k (by omega) (fun hm => by have := hS k hm; omega)⟩
structure LokX (w0 w : World) (M : List Nat) (bU bT bB bC bL bm : Nat) (un to : Int) (car : List Value) (fv : Value) : Prop where
 bel : Below w0.heap.size w0 w
 ge : ∀ b ∈ M, w0.heap.size ≤ b
 oU : OldB w bU [.int .i64 un]
 oT : OldB w bT [.int .i64 to]
 oB : OldB w bB [.map (some bm)]
 oC : OldB w bC car
 oL : OldB w bL [fv]
 nU : bU ∉ M
 nT : bT ∉ M
 nB : bB ∉ M
 nC : bC ∉ M
 nL : bL ∉ M
theorem apart_of9 {S : List Nat} {b : Nat} (h : b ∉ S) : Apart S (some ⟨b, 0, none⟩) := fun q hq => by cases hq; exact h
theorem notin_sat9 {M M' : List Nat} {w w' : World} {K : List Fact} {q : Nat} (hs : Sat M w K w') (hM : ∀ b ∈ M', b ∈ feet K) (hq : q ∉ M) (hlt : q < w.heap.size) : q ∉ M' := fun hm => by
 rcases hs.ge q (hM q hm) with h | h
 · exact hq h
 · omega
theorem LokX.sat {w0 w w' : World} {M M' : List Nat} {bU bT bB bC bL bm : Nat} {un to : Int} {car : List Value} {fv : Value} {K : List Fact} (h : LokX w0 w M bU bT bB bC bL bm un to car fv) (hs : Sat M w K w') (hM : ∀ b ∈ M', b ∈ feet K) : LokX w0 w' M' bU bT bB bC bL bm un to car fv :=
 ⟨h.bel.trans (chg_below hs.chg h.ge h.bel.size), fun b hb => (hs.ge b (hM b hb)).elim (h.ge b) (fun h9 => Nat.le_trans h.bel.size h9), h.oU.sat hs h.nU, h.oT.sat hs h.nT, h.oB.sat hs h.nB, h.oC.sat hs h.nC, h.oL.sat hs h.nL,
  notin_sat9 hs hM h.nU h.oU.1, notin_sat9 hs hM h.nT h.oT.1, notin_sat9 hs hM h.nB h.oB.1, notin_sat9 hs hM h.nC h.oC.1, notin_sat9 hs hM h.nL h.oL.1⟩
abbrev LY : Type := (Option Addr × Nat) × (Nat → Option Addr) × (Nat → Nat) × Gl × Nat
abbrev LYs (been : List Int) : Type := { y : LY // gl y.2.2.2.1 = blM been }
def lokM (bA bm : Nat) (out : List (List Int)) (y : LY) : List Fact := [.blk bA 87 [.slice y.1.1 out.length y.1.2], .own y.1.1 out.length y.1.2 31 1 (lksR out y.2.1 y.2.2.1), bun (lksK out y.2.1 y.2.2.1), .obj bm (gO .i64 y.2.2.2.1 y.2.2.2.2)]
section
variable {w0 : World} {W A : Option Addr} {nw cw nl cl : Nat} {f : Nat → Nat → Int} {x : Nat → Leg} {g : Nat → Nat → Nat → Int} {p0 p1 un to : Int} {bU bT bA bB bC bL bm : Nat}
def LokOk (w0 : World) (W A : Option Addr) (nw cw nl cl : Nat) (x : Nat → Leg) (g : Nat → Nat → Nat → Int) (p0 p1 un to : Int) (bU bT bA bB bC bL bm r : Nat) : Prop :=
 ∀ (w : World) (well day : Int) (been way : List Int) (out : List (List Int)) (Aw : Option Addr) (cw9 : Nat) (y : LYs been), 0 ≤ well ∧ well < nw → 0 ≤ day ∧ day ≤ 100001 → well ∉ been → lftN nw been ≤ r → out.length ≤ 200 → way.length + r ≤ 1000 →
  Sat (feet (lokM bA bm out y.1)) w (lokM bA bm out y.1) w → LokX w0 w (feet (lokM bA bm out y.1)) bU bT bB bC bL bm un to (carL W nw cw A nl cl p0 p1) (.func (.func 70) #[] #[.pointer (some ⟨bU, 0, none⟩), .pointer (some ⟨bT, 0, none⟩), .pointer (some ⟨bA, 0, none⟩), .pointer (some ⟨bB, 0, none⟩), .pointer (some ⟨bC, 0, none⟩), .pointer (some ⟨bL, 0, none⟩)]) → RdR w 1 Aw way.length (iL way) → (0 < way.length → Apart (feet (lokM bA bm out y.1)) Aw) →
  CallsK Tryz.prog 70 #[.agg #[.int .i64 well, .int .i64 day], .slice Aw way.length cw9, .pointer (some ⟨bU, 0, none⟩), .pointer (some ⟨bT, 0, none⟩), .pointer (some ⟨bA, 0, none⟩), .pointer (some ⟨bB, 0, none⟩), .pointer (some ⟨bC, 0, none⟩), .pointer (some ⟨bL, 0, none⟩)] (lokM bA bm out y.1) w (LYs been) (fun _ => .bool (decide ((wys (fun v => ldL (fun k => (x k).u) v nl) (arW x g p0) to un r well day been way out).length ≤ 200))) (fun z => lokM bA bm (wys (fun v => ldL (fun k => (x k).u) v nl) (arW x g p0) to un r well day been way out) z.1)
set_option maxRecDepth 100000 in
set_option maxHeartbeats 8000000 in
theorem lok_step {r : Nat} (hL : LandIn w0 W nw A nl f x g) (hLg : LegsOk nw nl x g) (h0 : 1 ≤ p0) (h1 : p0 ≤ p1) (h2 : p1 ≤ 100000) (hun : un ≤ 100000)
  (ih : LokOk w0 W A nw cw nl cl x g p0 p1 un to bU bT bA bB bC bL bm r) : LokOk w0 W A nw cw nl cl x g p0 p1 un to bU bT bA bB bC bL bm (r + 1) := by
 rintro w well day been way out Aw cw9 ⟨⟨⟨A9, c9⟩, ia, ic, t, n⟩, hgl⟩ hwl hdy hnb hlf hol hwr hM hX hRw hAw
 replace hgl : gl t = blM been := hgl
 have hgl := hidT hgl
 have hX0 := hX
 obtain ⟨hbel, hge, oU, oT, oB, oC, oL, nU, nT, nB, nC, nL⟩ := hX
 have ap1 := apart_of9 nU
 have ap2 := apart_of9 nT
 have ap3 := apart_of9 nB
 have ap4 := apart_of9 nC
 have ap5 := apart_of9 nL
 have hLw := hL.ext hbel
 have hnl := hL.hnl
 have hRA := hLw.hA
 have hA0 : 0 < nl → Apart (feet (lokM bA bm out ((A9, c9), ia, ic, t, n))) A := fun h9 b hb hm => by
  obtain ⟨b', off, e, hlt, _⟩ := hL.hA.rd h9
  rw [e] at hb
  have hb : b' = b := by simpa using hb
  have := hge b hm
  omega
 have hwy0 : un < day → wys (fun v => ldL (fun k => (x k).u) v nl) (arW x g p0) to un (r + 1) well day been way out = out := fun h => if_pos h
 have hwy1 : ¬ un < day → well = to → wys (fun v => ldL (fun k => (x k).u) v nl) (arW x g p0) to un (r + 1) well day been way out = out ++ [way] := fun h h9 => by simp only [wys]; rw [if_neg h, if_pos h9]
 obtain ⟨oq, hoq⟩ : ∃ oq : Nat → List (List Int), oq = fun q => wysN (fun y o => wys (fun v => ldL (fun k => (x k).u) v nl) (arW x g p0) to un r y.2 (arW x g p0 y.1 day) (been ++ [well]) (way ++ [y.1]) o) (been ++ [well]) (ldL (fun k => (x k).u) well nl) out q := ⟨_, rfl⟩
 have hwy2 : ¬ un < day → ¬ well = to → wys (fun v => ldL (fun k => (x k).u) v nl) (arW x g p0) to un (r + 1) well day been way out = oq (ldL (fun k => (x k).u) well nl).length := fun h h9 => by simp only [wys]; rw [if_neg h, if_neg h9, hoq]
 have hoq0 : oq 0 = out := by rw [hoq]; rfl
 have hskip : ∀ q, (oq q).length ≤ 200 → ((ldL (fun k => (x k).u) well nl).getD q (0, 0)).2 ∈ been ++ [well] → oq (q + 1) = oq q := fun q h9 h8 => by rw [hoq] at h9 ⊢; exact wysN_skip (Nat.not_lt.2 h9) h8
 have hgo : ∀ q, (oq q).length ≤ 200 → ¬ ((ldL (fun k => (x k).u) well nl).getD q (0, 0)).2 ∈ been ++ [well] → oq (q + 1) = wys (fun v => ldL (fun k => (x k).u) v nl) (arW x g p0) to un r ((ldL (fun k => (x k).u) well nl).getD q (0, 0)).2 (arW x g p0 ((ldL (fun k => (x k).u) well nl).getD q (0, 0)).1 day) (been ++ [well]) (way ++ [((ldL (fun k => (x k).u) well nl).getD q (0, 0)).1]) (oq q) := fun q h9 h8 => by rw [hoq] at h9 ⊢; exact wysN_go (Nat.not_lt.2 h9) h8
 have hstop : ∀ q, 200 < (oq q).length → ∀ k, q ≤ k → oq k = oq q := fun q h9 => by rw [hoq] at h9 ⊢; exact wysN_stop h9
 replace hoq := hidT hoq
 replace hoq0 := hidT hoq0
 have hlf2 := lft_less hwl.1 hwl.2 hnb
 unfold carL at oC
 refine K_enterB (args := [.agg #[.int .i64 well, .int .i64 day], .slice Aw way.length cw9, .pointer (some ⟨bU, 0, none⟩), .pointer (some ⟨bT, 0, none⟩), .pointer (some ⟨bA, 0, none⟩), .pointer (some ⟨bB, 0, none⟩), .pointer (some ⟨bC, 0, none⟩), .pointer (some ⟨bL, 0, none⟩)]) (S := feet (lokM bA bm out ((A9, c9), ia, ic, t, n))) (K := [.blk bA 87 [.slice A9 out.length c9], .own A9 out.length c9 31 1 (lksR out ia ic), bun (lksK out ia ic), .obj bm (gO .i64 t n)]) Tryz.func70 rfl Tryz.ntmps70 rfl hM ?_
 refine TW.seqD fun Y1 hY1 => ?_
 refine TW.region ?_
 refine TL.m Mk.bx ?_
 intro b1
 refine TL.m Mk.bx ?_
 intro b2
 refine TL.m (Mk.al ty_zr4) ?_
 intro b3
 refine TL.nil ?_
 refine TQ.thenN (hY1 _ _ _ ?_)
 refine TW.seqD fun Y2 hY2 => ?_
 refine TW.seqD fun Y3 hY3 => ?_
 refine TW.region ?_
 refine TL.p (by first | exact Pu.fb ty_fa147_1 | exact Pu.fe ty_fa147_1) ?_
 refine TL.p (by first | exact (Pu.ld ty_sc3) | exact (Pu.ldo ty_sc3)) ?_
 refine TL.p (by first | exact (Pu.ld ty_sc3) | exact (Pu.ldo ty_sc3)) ?_
 refine TL.p Pu.gt ?_
 refine TL.nil ?_
 refine TQ.thenN (hY3 _ _ _ ?_)
 refine TW.cond rfl (fun hc0 => ?_) (fun hc0 => ?_)
 try simp only [zcb9] at hc0
 have hwz := hidT (hwy0 (by omega))
 refine TW.seqD fun Y4 hY4 => ?_
 refine TW.region ?_
 first | refine TL.st ty_sz4 ?_ | refine TL.se ty_sz4 ?_
 refine TL.nil ?_
 refine TQ.thenN (hY4 _ _ _ ?_)
 refine TW.ret ?_
 refine TQ.thenR ?_
 refine TQ.retB0 Tryz.results70 ((RV.c1 ty_sc4 .nil)) ?_
 exact fun w hw => ⟨⟨((A9, c9), ia, ic, t, n), hgl.out⟩, by rw [hwz.out, decide_eq_true hol]; rfl, by rw [hwz.out]; exact hw.sub ks9⟩
 try simp only [zcb9] at hc0
 have hnd : ¬ un < day := by omega
 refine TW.skip ?_
 refine TQ.thenN (hY2 _ _ _ ?_)
 refine TW.seqD fun Y5 hY5 => ?_
 refine TW.seqD fun Y6 hY6 => ?_
 refine TW.region ?_
 refine TL.p (by first | exact Pu.fb ty_fa147_0 | exact Pu.fe ty_fa147_0) ?_
 refine TL.p (by first | exact (Pu.ld ty_sc3) | exact (Pu.ldo ty_sc3)) ?_
 refine TL.p (by first | exact (Pu.ld ty_sc3) | exact (Pu.ldo ty_sc3)) ?_
 refine TL.p Pu.eq ?_
 refine TL.nil ?_
 refine TQ.thenN (hY6 _ _ _ ?_)
 refine TW.cond rfl (fun hc1 => ?_) (fun hc1 => ?_)
 try simp only [zcb9] at hc1
 have hwz := hidT (hwy1 hnd (by omega))
 refine TW.seqD fun Y7 hY7 => ?_
 refine TW.np ?_
 refine TW.dw 4 ?_
 refine RK.tk (by first | exact (Pu.ld ty_sc87) | exact (Pu.ldo ty_sc87)) ?_
 refine RK.tk (by first | exact (Pu.ld ty_sc31) | exact (Pu.ldo ty_sc31)) ?_
 refine RK.keep ?_
 refine RK.keep ?_
 refine RK.ch [false, false] ?_ trivial
 refine WK.call rfl (enters Tryz.func71 rfl rfl) rfl (fun w hw => by
   exact clone_way (by omega) (hRw.sat0 hw hAw)) ?_
 rintro ⟨A8, c8⟩
 refine WK.m Mk.bl ?_
 intro b4
 refine WK.n ?_
 first | refine TL.a0 ty_et87 ?_ | refine TL.ap ty_et87 ?_
 intro A5 c5
 first | refine TL.st ty_sz87 ?_ | refine TL.se ty_sz87 ?_
 refine TL.nil ?_
 refine TQ.npN ?_
 refine TQ.thenN (hY7 _ _ _ ?_)
 refine TW.seqD fun Y8 hY8 => ?_
 refine TW.region ?_
 refine tl_bunC (φ := .own A8 way.length c8 3 1 (iL way)) (L := lksK out ia ic) pk9 pk9 lks_app ?_
 refine TL.p (by first | exact (Pu.ld ty_sc87) | exact (Pu.ldo ty_sc87)) ?_
 refine TL.p (Pu.ln Tryz.underlying87) ?_
 refine TL.p Pu.le ?_
 first | refine TL.st ty_sz4 ?_ | refine TL.se ty_sz4 ?_
 refine TL.nil ?_
 refine TQ.thenN (hY8 _ _ _ ?_)
 refine TW.ret ?_
 refine TQ.thenR ?_
 refine TQ.retB0 Tryz.results70 ((RV.c1 ty_sc4 .nil)) ?_
 exact fun w hw => ⟨⟨((A5, c5), updA ia out.length A8, updA ic out.length c8, t, n), hgl.out⟩, by rw [hwz.out]; exact congrArg (fun b => Ending.returned (.bool b)) (decide_eq_decide.2 (by rw [List.length_append, List.length_singleton]; omega)), by rw [hwz.out]; simp only [lokM, List.length_append, List.length_singleton]; exact hw.sub (KSub.cons pk9 (KSub.own pk9 lks_row (KSub.cons pk9 (KSub.cons pk9 KSub.nil))))⟩
 try simp only [zcb9] at hc1
 have hwt : ¬ well = to := by omega
 refine TW.skip ?_
 refine TQ.thenN (hY5 _ _ _ ?_)
 refine TW.seqD fun Y9 hY9 => ?_
 refine TW.region ?_
 refine TL.p (by first | exact (Pu.ld ty_sc144) | exact (Pu.ldo ty_sc144)) ?_
 refine TL.p (by first | exact Pu.fb ty_fa147_0 | exact Pu.fe ty_fa147_0) ?_
 refine TL.p (by first | exact (Pu.ld ty_sc3) | exact (Pu.ldo ty_sc3)) ?_
 refine TL.muG ty_mp144 (fun t6 n6 h6 => ?_)
 rw [hgl.out, bl_put hnb] at h6
 replace h6 := hidT h6
 refine TL.nil ?_
 refine TQ.thenN (hY9 _ _ _ ?_)
 refine TW.seqD fun Y10 hY10 => ?_
 refine TW.region ?_
 refine TL.p (by first | exact (Pu.ld ty_sc144) | exact (Pu.ldo ty_sc144)) ?_
 refine TL.p (by first | exact Pu.fb ty_fa147_0 | exact Pu.fe ty_fa147_0) ?_
 refine TL.p (by first | exact (Pu.ld ty_sc3) | exact (Pu.ldo ty_sc3)) ?_
 refine TL.dfb rfl (fun co => ?_)
 refine TL.nil ?_
 refine TQ.thenN (hY10 _ _ _ ?_)
 refine TW.seqD fun Y11 hY11 => ?_
 refine TW.seqD fun Y12 hY12 => ?_
 refine TW.region ?_
 refine TL.p (by first | exact (Pu.lds ty_ag140) | exact (Pu.ldso ty_ag140)) ?_
 refine TL.p (by first | exact Pu.fb ty_fa147_0 | exact Pu.fe ty_fa147_0) ?_
 refine TL.p (by first | exact (Pu.ld ty_sc3) | exact (Pu.ldo ty_sc3)) ?_
 refine TL.call (M := []) rfl (enters Tryz.func72 rfl rfl) (List.Perm.refl _) rfl (fun w hw => by
   exact leads_any (W := W) (nw := nw) (cw := cw) (A := A) (nl := nl) (cl := cl) (p0 := p0) (p1 := p1) well) ?_
 rintro ⟨bc, bw⟩
 refine TL.nil ?_
 refine TQ.thenN (hY12 _ _ _ ?_)
 refine TW.block ?_
 refine TW.rangeR (fun (q : Nat) (y : LYs (been ++ [well])) => if (oq q).length ≤ 200 then .blk b1 147 [.int .i64 well, .int .i64 day] :: .blk b2 31 [.slice Aw way.length cw9] :: .blk b3 4 [.bool false] :: lokM bA bm (oq q) y.1 else [badT]) (fun _ : { q : Nat // q < (ldL (fun k => (x k).u) well nl).length ∧ 200 < (oq (q + 1)).length } × LYs (been ++ [well]) => Code.ret) (fun u => .blk b3 4 [.bool false] :: lokM bA bm (oq (u.1.1 + 1)) u.2.1) (⟨((A9, c9), ia, ic, t6, n6), h6.out⟩) (fun a b => leads2_iter (bc := bc) (bw := bw) (W := W) (nw := nw) (cw := cw) (cl := cl) (p0 := p0) (p1 := p1) (well := well) hRA hA0 hnl) ?_ ?_ ?_ ?_ (eg := enters Tryz.func116 rfl rfl)
 simp only [hoq0.out, if_pos hol, ledM, lokM, List.cons_append, List.nil_append]
 exact ks9
 rintro lR DR oR oR1 oR2 q gU y5 hq ZR0 hZR0
 by_cases hno : (oq q).length ≤ 200
 case neg => exact fun a w hF hK => (no_badT hK (by rw [if_neg hno]; simp)).elim
 obtain ⟨k, hk, e1, e2, e3⟩ := lead_at hLg hq
 have hsk := hskip q hno
 have hgo9 := hgo q hno
 obtain ⟨ld, hld⟩ : ∃ z, z = (ldL (fun k => (x k).u) well nl).getD q (0, 0) := ⟨_, rfl⟩
 rw [← hld] at e1 e2 e3 hsk hgo9
 simp only [← hld]
 clear hld
 obtain ⟨l1, ot⟩ := ld
 simp only at e1 e2 e3 hsk hgo9 ⊢
 subst e1
 have har := arW_bd hLg hk h0 h1 hdy
 obtain ⟨ar, har9⟩ : ∃ z, z = arW x g p0 k day := ⟨_, rfl⟩
 rw [← har9] at har hgo9
 replace har9 := hidT har9
 have hlk : (mlook ot (gl y5.1.2.2.2.1)).getD (.bool false) = .bool ((been ++ [well]).contains ot) := by rw [y5.2, bl_look]; by_cases h9 : ot ∈ been ++ [well]; (rw [if_pos h9, List.contains_eq_mem, decide_eq_true h9]; rfl); (rw [if_neg h9, List.contains_eq_mem, decide_eq_false h9]; rfl)
 obtain ⟨cb, hcb⟩ : ∃ b, b = (been ++ [well]).contains ot := ⟨_, rfl⟩
 rw [← hcb] at hlk
 have hsk2 : cb = true → oq (q + 1) = oq q := fun h => hsk (by rw [hcb] at h; simpa using h)
 have hnb2 : cb = false → ot ∉ been ++ [well] := fun h => by rw [hcb] at h; simpa using h
 have hgo2 : cb = false → oq (q + 1) = _ := fun h => hgo9 (hnb2 h)
 clear hcb hsk hgo9
 simp only [if_pos hno, ledM, lokM, List.cons_append, List.nil_append]
 refine TWi.seq fun Y13 hY13 => ?_
 refine TWi.region ?_
 refine TL.p Pu.as ?_
 refine TL.nil (TQ.thenN (hY13 _ _ ?_))
 refine TWi.region ?_
 refine TL.p Pu.as ?_
 refine TL.nil ?_
 refine TQ.thenN (hZR0 _ _ _ Pick.hd ?_)
 refine TWi.block ?_
 refine TWi.seq fun Y14 hY14 => ?_
 refine TWi.ex0k [.blk b1 147 [.int .i64 well, .int .i64 day], .blk b2 31 [.slice Aw way.length cw9]] ?_
 refine RG.tk 0 rfl (by first | exact (Pu.ld ty_sc144) | exact (Pu.ldo ty_sc144)) ?_
 refine RG.tk 1 rfl Pu.mv ?_
 refine RG.a1 2 rfl (fun X2 hX2 => ?_)
 refine TL.p (Pu.lbG ty_mp144 ty_zv4 hlk) ?_
 refine TL.nil ?_
 refine TQ.nxt (hX2 _ _ hl9 ?_)
 refine RG.tk 3 rfl Pu.no ?_
 refine RG.tk 4 rfl Pu.mv ?_
 refine RG.guard (t := 45) rfl (fun hg1 => ?_) (fun hg1 => ?_)
 try simp only [zgb9] at hg1
 refine RG.tk 5 rfl (by first | exact (Pu.ld ty_sc145) | exact (Pu.ldo ty_sc145)) ?_
 refine RG.tk 6 rfl Pu.mv ?_
 refine RG.tk 7 rfl (by first | exact (Pu.lds ty_ag140) | exact (Pu.ldso ty_ag140)) ?_
 refine RG.tk 8 rfl Pu.mv ?_
 refine RG.tk 9 rfl (by first | exact Pu.fb ty_fa147_1 | exact Pu.fe ty_fa147_1) ?_
 refine RG.tk 10 rfl (by first | exact (Pu.ld ty_sc3) | exact (Pu.ldo ty_sc3)) ?_
 refine RG.tk 11 rfl (by first | exact Pu.fb ty_fa147_1 | exact Pu.fe ty_fa147_1) ?_
 refine RG.tk 12 rfl (by first | exact (Pu.ld ty_sc3) | exact (Pu.ldo ty_sc3)) ?_
 refine RG.tk 13 rfl Pu.bd ?_
 refine RG.tk 17 rfl (by first | exact (Pu.ld ty_sc31) | exact (Pu.ldo ty_sc31)) ?_
 refine RG.tk 18 rfl Pu.mv ?_
 refine RG.a1 14 rfl (fun X14 hX14 => ?_)
 refine TL.cr rfl (enters Tryz.func73 rfl rfl) (fun w hw => by
   have hX9 := hX0.sat (M' := []) hw (fun b hb => by cases hb)
   have h9 := cArrive_any (cw := cw) (cl := cl) (p0 := p0) (p1 := p1) k day day hk (hL.ext hX9.bel) h0 h1 h2 (hLg.l k hk) hdy hdy
   rw [← arW_eq, ← har9.out] at h9
   exact h9) ?_
 refine TL.nil ?_
 refine TQ.nxt (hX14 _ _ hl9 ?_)
 refine RG.a2 15 19 rfl rfl (fun X15 hX15 => ?_) (fun X19 hX19 => ?_)
 refine TL.gd Pu.ix ?_
 refine TL.nil ?_
 refine TQ.nxt (hX15 _ _ hl9 ?_)
 refine RG.tk 16 rfl Pu.bd ?_
 refine RG.a1 19 rfl (fun X19 hX19 => ?_)
 refine TL.gck rfl (enters Tryz.func74 rfl rfl) (fun w hw => by
   exact more_any (by omega) (hRw.sat0 hw hAw)) ?_
 rintro ⟨A7, c7⟩
 refine TL.nil ?_
 refine TQ.nxt (hX19 _ _ hl9 ?_)
 refine RG.a1 20 rfl (fun X20 hX20 => ?_)
 refine TL.subK (K' := lokM bA bm (oq q) y5.1 ++ [.obj lR oR1, .obj DR oR2, .blk bc 140 (carL W nw cw A nl cl p0 p1), .blk bw 3 [.int .i64 well], .blk b1 147 [.int .i64 well, .int .i64 day], .blk b2 31 [.slice Aw way.length cw9], .blk b3 4 [.bool false], .own A7 (way ++ [(k : Int)]).length c7 3 1 (iL (way ++ [(k : Int)]))]) (by simp only [lokM, List.cons_append, List.nil_append]; exact ks9) ?_
 refine TL.cvkg (M := lokM bA bm (oq q) y5.1) (K' := [.obj lR oR1, .obj DR oR2, .blk bc 140 (carL W nw cw A nl cl p0 p1), .blk bw 3 [.int .i64 well], .blk b1 147 [.int .i64 well, .int .i64 day], .blk b2 31 [.slice Aw way.length cw9], .blk b3 4 [.bool false], .own A7 (way ++ [(k : Int)]).length c7 3 1 (iL (way ++ [(k : Int)]))]) rfl rfl (enters Tryz.func70 rfl rfl) (List.Perm.refl _) (fun w hw => by
  have hcf : cb = false := by assumption
  have hs := (Has.sat ⟨[.obj lR oR1, .obj DR oR2, .blk bc 140 (carL W nw cw A nl cl p0 p1), .blk bw 3 [.int .i64 well], .blk b1 147 [.int .i64 well, .int .i64 day], .blk b2 31 [.slice Aw way.length cw9], .blk b3 4 [.bool false], .own A7 (way ++ [(k : Int)]).length c7 3 1 (iL (way ++ [(k : Int)]))], List.Perm.refl _⟩ hw).self
  have h9 := ih w ot ar (been ++ [well]) (way ++ [(k : Int)]) (oq q) A7 c7 y5 ⟨e2, e3⟩ har (hnb2 hcf) (by omega) hno (by rw [List.length_append, List.length_singleton]; omega) hs (hX0.sat hw (fun b hb => by rw [feet_append]; exact List.mem_append_left _ hb)) (OwnR.rdr (hw.holds (.own A7 (way ++ [(k : Int)]).length c7 3 1 (iL (way ++ [(k : Int)]))) (by simp))) (fun _ => Sat.apartO hw (n := (way ++ [(k : Int)]).length) (c := c7) (E := 3) (sz := 1) (r := iL (way ++ [(k : Int)])) (by simp))
  rw [← hgo2 hcf] at h9
  exact h9) ?_
 intro y5
 simp only [lokM, List.cons_append, List.nil_append]
 refine TL.nil ?_
 refine TQ.nxt (hX20 _ _ hl9 ?_)
 refine RG.tk 21 rfl Pu.no ?_
 refine RG.tk 22 rfl Pu.kt ?_
 refine RG.nil ?_ (by kernel_rfl)
 refine TQ.thenN (hY14 _ _ ?_)
 refine TWi.cond rfl (fun hc2 => ?_) (fun hc2 => ?_)
 try simp only [zcb9] at hc2
 have hbig : 200 < (oq (q + 1)).length := by first | omega | (simp at hc2; omega)
 refine TWi.seq fun Y15 hY15 => ?_
 refine TWi.region ?_
 first | refine TL.st ty_sz4 ?_ | refine TL.se ty_sz4 ?_
 refine TL.nil (TQ.thenN (hY15 _ _ ?_))
 refine TWi.ret ?_
 refine TQ.blkR ?_
 refine TQ.rbR ((⟨q, hq, hbig⟩, y5)) rfl ?_
 simp only [ledM, lokM, List.cons_append, List.nil_append]
 exact ks9
 try simp only [zcb9] at hc2
 have hsm : (oq (q + 1)).length ≤ 200 := by first | omega | (simp at hc2; omega)
 refine TWi.skip ?_
 refine TQ.blkN ?_
 first
  | skip
 refine TQ.rbN (y5) ?_
 first
  | (simp only [if_pos hsm, ledM, lokM, List.cons_append, List.nil_append]; exact ks9)
  | (simp only [hsk2 (by assumption), if_pos hno, ledM, lokM, List.cons_append, List.nil_append]; exact ks9)
 refine TL.gck rfl (enters Tryz.func74 rfl rfl) (fun w hw => by
   exact more_any (by omega) (hRw.sat0 hw hAw)) ?_
 rintro ⟨A7, c7⟩
 refine TL.nil ?_
 refine TQ.nxt (hX19 _ _ hl9 ?_)
 refine RG.a1 15 rfl (fun X15 hX15 => ?_)
 refine TL.gd Pu.ix ?_
 refine TL.nil ?_
 refine TQ.nxt (hX15 _ _ hl9 ?_)
 refine RG.tk 16 rfl Pu.bd ?_
 refine RG.a1 20 rfl (fun X20 hX20 => ?_)
 refine TL.subK (K' := lokM bA bm (oq q) y5.1 ++ [.obj lR oR1, .obj DR oR2, .blk bc 140 (carL W nw cw A nl cl p0 p1), .blk bw 3 [.int .i64 well], .blk b1 147 [.int .i64 well, .int .i64 day], .blk b2 31 [.slice Aw way.length cw9], .blk b3 4 [.bool false], .own A7 (way ++ [(k : Int)]).length c7 3 1 (iL (way ++ [(k : Int)]))]) (by simp only [lokM, List.cons_append, List.nil_append]; exact ks9) ?_
 refine TL.cvkg (M := lokM bA bm (oq q) y5.1) (K' := [.obj lR oR1, .obj DR oR2, .blk bc 140 (carL W nw cw A nl cl p0 p1), .blk bw 3 [.int .i64 well], .blk b1 147 [.int .i64 well, .int .i64 day], .blk b2 31 [.slice Aw way.length cw9], .blk b3 4 [.bool false], .own A7 (way ++ [(k : Int)]).length c7 3 1 (iL (way ++ [(k : Int)]))]) rfl rfl (enters Tryz.func70 rfl rfl) (List.Perm.refl _) (fun w hw => by
  have hcf : cb = false := by assumption
  have hs := (Has.sat ⟨[.obj lR oR1, .obj DR oR2, .blk bc 140 (carL W nw cw A nl cl p0 p1), .blk bw 3 [.int .i64 well], .blk b1 147 [.int .i64 well, .int .i64 day], .blk b2 31 [.slice Aw way.length cw9], .blk b3 4 [.bool false], .own A7 (way ++ [(k : Int)]).length c7 3 1 (iL (way ++ [(k : Int)]))], List.Perm.refl _⟩ hw).self
  have h9 := ih w ot ar (been ++ [well]) (way ++ [(k : Int)]) (oq q) A7 c7 y5 ⟨e2, e3⟩ har (hnb2 hcf) (by omega) hno (by rw [List.length_append, List.length_singleton]; omega) hs (hX0.sat hw (fun b hb => by rw [feet_append]; exact List.mem_append_left _ hb)) (OwnR.rdr (hw.holds (.own A7 (way ++ [(k : Int)]).length c7 3 1 (iL (way ++ [(k : Int)]))) (by simp))) (fun _ => Sat.apartO hw (n := (way ++ [(k : Int)]).length) (c := c7) (E := 3) (sz := 1) (r := iL (way ++ [(k : Int)])) (by simp))
  rw [← hgo2 hcf] at h9
  exact h9) ?_
 intro y5
 simp only [lokM, List.cons_append, List.nil_append]
 refine TL.nil ?_
 refine TQ.nxt (hX20 _ _ hl9 ?_)
 refine RG.tk 21 rfl Pu.no ?_
 refine RG.tk 22 rfl Pu.kt ?_
 refine RG.nil ?_ (by kernel_rfl)
 refine TQ.thenN (hY14 _ _ ?_)
 refine TWi.cond rfl (fun hc2 => ?_) (fun hc2 => ?_)
 try simp only [zcb9] at hc2
 have hbig : 200 < (oq (q + 1)).length := by first | omega | (simp at hc2; omega)
 refine TWi.seq fun Y16 hY16 => ?_
 refine TWi.region ?_
 first | refine TL.st ty_sz4 ?_ | refine TL.se ty_sz4 ?_
 refine TL.nil (TQ.thenN (hY16 _ _ ?_))
 refine TWi.ret ?_
 refine TQ.blkR ?_
 refine TQ.rbR ((⟨q, hq, hbig⟩, y5)) rfl ?_
 simp only [ledM, lokM, List.cons_append, List.nil_append]
 exact ks9
 try simp only [zcb9] at hc2
 have hsm : (oq (q + 1)).length ≤ 200 := by first | omega | (simp at hc2; omega)
 refine TWi.skip ?_
 refine TQ.blkN ?_
 first
  | skip
 refine TQ.rbN (y5) ?_
 first
  | (simp only [if_pos hsm, ledM, lokM, List.cons_append, List.nil_append]; exact ks9)
  | (simp only [hsk2 (by assumption), if_pos hno, ledM, lokM, List.cons_append, List.nil_append]; exact ks9)
 try simp only [zgb9] at hg1
 refine RG.ts 5 rfl ?_
 refine RG.ts 6 rfl ?_
 refine RG.ts 7 rfl ?_
 refine RG.ts 8 rfl ?_
 refine RG.ts 9 rfl ?_
 refine RG.ts 10 rfl ?_
 refine RG.ts 11 rfl ?_
 refine RG.ts 12 rfl ?_
 refine RG.ts 13 rfl ?_
 refine RG.ts 14 rfl ?_
 refine RG.ts 15 rfl ?_
 refine RG.ts 16 rfl ?_
 refine RG.ts 17 rfl ?_
 refine RG.ts 18 rfl ?_
 refine RG.ts 19 rfl ?_
 refine RG.ts 20 rfl ?_
 refine RG.ts 21 rfl ?_
 refine RG.tk 22 rfl Pu.kf ?_
 refine RG.nil ?_ (by kernel_rfl)
 refine TQ.thenN (hY14 _ _ ?_)
 refine TWi.condF rfl rfl ?_
 refine TWi.skip ?_
 refine TQ.blkN ?_
 first
  | skip
 refine TQ.rbN (y5) ?_
 first
  | (simp only [if_pos hsm, ledM, lokM, List.cons_append, List.nil_append]; exact ks9)
  | (simp only [hsk2 (by assumption), if_pos hno, ledM, lokM, List.cons_append, List.nil_append]; exact ks9)
 rintro DR y5
 by_cases hno : (oq (ldL (fun k => (x k).u) well nl).length).length ≤ 200
 case neg => exact fun a w hF hK => (no_badT hK (by rw [if_neg hno]; simp)).elim
 simp only [if_pos hno, lokM, List.nil_append]
 refine TQ.blkN ?_
 refine TQ.thenN (hY11 _ _ _ ?_)
 refine TW.seqD fun Y17 hY17 => ?_
 refine TW.region ?_
 first | refine TL.st ty_sz4 ?_ | refine TL.se ty_sz4 ?_
 refine TL.nil ?_
 refine TQ.thenN (hY17 _ _ _ ?_)
 refine TW.ret ?_
 refine TQ.retB (D := DR) ty_mp144 Tryz.results70 pk9 pk9 (fun _ => (RV.c1 ty_sc4 .nil)) ?_
 exact fun l' hl' w hw => ⟨⟨((y5.1.1.1, y5.1.1.2), y5.1.2.1, y5.1.2.2.1, l', y5.1.2.2.2.2), by rw [hl', y5.2, bl_del hnb]⟩, by rw [hwy2 hnd hwt, decide_eq_true hno]; rfl, by rw [hwy2 hnd hwt]; simp only [lokM]; exact hw.sub ks9⟩
 rintro DR ⟨⟨u, hu1, hu2⟩, y5⟩
 simp only [lokM]
 refine TW.ret ?_
 refine TQ.blkR ?_
 refine TQ.thenR ?_
 refine TQ.retB (D := DR) ty_mp144 Tryz.results70 pk9 pk9 (fun _ => (RV.c1 ty_sc4 .nil)) ?_
 have hst := hstop (u + 1) hu2 (ldL (fun k => (x k).u) well nl).length (by omega)
 exact fun l' hl' w hw => ⟨⟨((y5.1.1.1, y5.1.1.2), y5.1.2.1, y5.1.2.2.1, l', y5.1.2.2.2.2), by rw [hl', y5.2, bl_del hnb]⟩, by rw [hwy2 hnd hwt, hst, decide_eq_false (Nat.not_le.2 hu2)]; rfl, by rw [hwy2 hnd hwt, hst]; simp only [lokM]; exact hw.sub ks9⟩
end
end Go.Proofs.YtfaenhhgkhcghaaGreatDoor
namespace Go.Proofs.YtfaenhhgkhcghaaGreatDoor
set_option linter.all false
set_option linter.unusedVariables false
set_option linter.unusedSimpArgs false
open Go.RowKit Go.MapKept
section
variable {w0 : World} {W A : Option Addr} {nw cw nl cl : Nat} {f : Nat → Nat → Int} {x : Nat → Leg} {g : Nat → Nat → Nat → Int} {p0 p1 un to : Int} {bU bT bA bB bC bL bm : Nat}
theorem lok_all (hL : LandIn w0 W nw A nl f x g) (hLg : LegsOk nw nl x g) (h0 : 1 ≤ p0) (h1 : p0 ≤ p1) (h2 : p1 ≤ 100000) (hun : un ≤ 100000) : ∀ r, LokOk w0 W A nw cw nl cl x g p0 p1 un to bU bT bA bB bC bL bm r
 | 0 => by
  intro w well day been way out Aw cw9 y hwl hdy hnb hlf
  have := lft_less hwl.1 hwl.2 hnb
  omega
 | r + 1 => lok_step hL hLg h0 h1 h2 hun (lok_all hL hLg h0 h1 h2 hun r)
end
theorem cntB_bd {p : Nat → Bool} : ∀ n, cntB p n ≤ n
 | 0 => Nat.le_refl _
 | n + 1 => by
  have := cntB_bd (p := p) n
  simp only [cntB]
  split <;> omega
def wsW (Y : Wy) (to un : Int) : List (List Int) := wys (fun v => ldL (fun k => (Y.x k).u) v Y.nl) (arW Y.x Y.g Y.p0) to un Y.nw Y.start Y.day [] [] []
def askW (Y : Wy) (to un : Int) : Bool := inB5 0 ((Y.nw : Int) - 1) Y.start && inB5 0 ((Y.nw : Int) - 1) to && (inB5 0 100000 Y.day && inB5 0 100000 un)
def wsC (Y : Wy) (to un : Int) : Int := if okY Y ≠ 0 then okY Y else if askW Y to un = false then 2 else if 200 < (wsW Y to un).length then 9 else 0
def wsL (Y : Wy) (to un : Int) : List (List Int) := if wsC Y to un = 0 then wsW Y to un else []
abbrev WX : Type := (Option Addr × Nat) × (Nat → Option Addr) × (Nat → Nat)
def wsK (L : List (List Int)) (y : WX) : List Fact := [.own y.1.1 L.length y.1.2 31 1 (lksR L y.2.1 y.2.2), bun (lksK L y.2.1 y.2.2)]
theorem ws_nil {w0 w : World} {K : List Fact} (h : Sat [] w0 K w) : Sat [] w0 (wsK [] ((none, 0), fun _ => none, fun _ => 0)) w :=
 (Sat.bun (K1 := []) (K := []) (h.sub KSub.nil)).sub (KSub.nilOwn (KSub.refl _))
theorem ws_bad {Y : Wy} {to un e : Int} {w0 w : World} {K : List Fact} (h : Sat [] w0 K w) (he : wsC Y to un = e) (h0 : e ≠ 0) : ∃ y : WX, Ending.returned (retV [.slice none 0 0, .int .i64 e]) = .returned (.tuple #[.slice y.1.1 (wsL Y to un).length y.1.2, .int .i64 (wsC Y to un)]) ∧ Sat [] w0 (wsK (wsL Y to un) y) w := by
 have e1 : wsL Y to un = [] := if_neg (by rw [he]; exact h0)
 rw [e1, he]
 exact ⟨((none, 0), fun _ => none, fun _ => 0), rfl, ws_nil h⟩
theorem legs_ok {Y : Wy} (h : okY Y = 0) : LegsOk Y.nw Y.nl Y.x Y.g := by
 have h1 : landOk Y.nw Y.nl Y.f Y.x Y.g = true := by
  unfold okY askC at h
  split at h
  · assumption
  · cases h
 unfold landOk at h1
 simp only [Bool.and_eq_true] at h1
 refine ⟨fun k hk => legIn_of (allB_iff.1 h1.2 k hk), fun k hk => ?_⟩
 have h2 := allB_iff.1 h1.2 k hk
 unfold legOk legHead inB5 at h2
 simp only [Bool.and_eq_true, decide_eq_true_eq] at h2
 omega
section
variable {Y : Wy} {to un : Int} {W A : Option Addr} {cw cl : Nat} {w : World}
set_option maxRecDepth 100000 in
set_option maxHeartbeats 4000000 in
theorem cWays_any (h : LandIn w W Y.nw A Y.nl Y.f Y.x Y.g) :
  CallsK Tryz.prog 34 #[.agg (landL W Y.nw cw A Y.nl cl).toArray, .int .i64 Y.start, .int .i64 to, .int .i64 Y.day, .int .i64 un, .agg #[.int .i64 Y.p0, .int .i64 Y.p1]] [] w WX (fun y => .tuple #[.slice y.1.1 (wsL Y to un).length y.1.2, .int .i64 (wsC Y to un)]) (fun y => wsK (wsL Y to un) y) := by
 have hnw := h.hnw
 by_cases hok : okY Y = 0
 case neg =>
  have hwc : wsC Y to un = okY Y := if_pos hok
  unfold landL
  refine K_enter (S := []) (K := []) Tryz.func34 rfl Tryz.ntmps34 rfl (Sat.start _) ?_
  refine TW.seq fun Y1 hY1 => TW.region ?_
  refine TL.m Mk.bx ?_
  intro b1
  refine TL.m Mk.bx ?_
  intro b2
  refine TL.m Mk.bx ?_
  intro b3
  refine TL.m Mk.bx ?_
  intro b4
  refine TL.p Pu.as ?_
  refine TL.p Pu.as ?_
  refine TL.nil (TQ.thenN (hY1 _ _ ?_))
  refine TW.seq fun Y2 hY2 => TW.region ?_
  refine TL.p (Pu.lds ty_ag25) ?_
  refine TL.p (Pu.lds ty_ag36) ?_
  refine TL.cr rfl (enters Tryz.func68 rfl rfl) (fun w hw => by
   exact cOpen_bad (h.ext (Chg.ext hw.chg)) hok) ?_
  refine TL.p Pu.mv ?_
  refine TL.p Pu.ex ?_
  refine TL.p Pu.ex ?_
  refine TL.m (Mk.al ty_zr140) ?_
  intro b5
  first | refine TL.st ty_sz140 ?_ | refine TL.se ty_sz140 ?_
  refine TL.p Pu.as ?_
  refine TL.nil (TQ.thenN (hY2 _ _ ?_))
  refine TW.seq fun Y3 hY3 => ?_
  refine TW.block ?_
  refine TW.seq fun Y4 hY4 => TW.region ?_
  refine TL.p Pu.mv ?_
  refine TL.p Pu.ne ?_
  refine TL.p Pu.as ?_
  refine TL.nil (TQ.thenN (hY4 _ _ ?_))
  refine TW.condT rfl ((by show (!decide (okY Y = 0)) = true; simp [hok])) ?_
  refine TW.seq fun Y5 hY5 => TW.region ?_
  refine TL.p Pu.mv ?_
  refine TL.p Pu.as ?_
  refine TL.p Pu.as ?_
  refine TL.nil (TQ.thenN (hY5 _ _ ?_))
  refine TW.ret ?_
  refine TQ.blkR ?_
  refine TQ.thenR ?_
  refine TQ.ret Tryz.results34 rfl ((.tmp rfl (.tmp rfl .nil))) ?_
  exact fun w hw => ws_bad hw hwc hok
 case pos =>
  have ho := wyOk_of hok
  have hLg := legs_ok hok
  unfold landL
  refine K_enter (S := []) (K := []) Tryz.func34 rfl Tryz.ntmps34 rfl (Sat.start _) ?_
  refine TW.seq fun Y1 hY1 => TW.region ?_
  refine TL.m Mk.bx ?_
  intro b1
  refine TL.m Mk.bx ?_
  intro b2
  refine TL.m Mk.bx ?_
  intro b3
  refine TL.m Mk.bx ?_
  intro b4
  refine TL.p Pu.as ?_
  refine TL.p Pu.as ?_
  refine TL.nil (TQ.thenN (hY1 _ _ ?_))
  refine TW.seq fun Y2 hY2 => TW.region ?_
  refine TL.p (Pu.lds ty_ag25) ?_
  refine TL.p (Pu.lds ty_ag36) ?_
  refine TL.cr rfl (enters Tryz.func68 rfl rfl) (fun w hw => by
   have h9 := cOpen_ok (cw := cw) (cl := cl) (h.ext (Chg.ext hw.chg)) hok
   unfold carL at h9
   exact h9) ?_
  refine TL.p Pu.mv ?_
  refine TL.p Pu.ex ?_
  refine TL.p Pu.ex ?_
  refine TL.m (Mk.al ty_zr140) ?_
  intro b5
  first | refine TL.st ty_sz140 ?_ | refine TL.se ty_sz140 ?_
  refine TL.p Pu.as ?_
  refine TL.nil (TQ.thenN (hY2 _ _ ?_))
  refine TW.seq fun Y3 hY3 => ?_
  refine TW.block ?_
  refine TW.seq fun Y4 hY4 => TW.region ?_
  refine TL.p Pu.mv ?_
  refine TL.p Pu.ne ?_
  refine TL.p Pu.as ?_
  refine TL.nil (TQ.thenN (hY4 _ _ ?_))
  refine TW.condF rfl ((by simp)) ?_
  refine TW.seq fun Y5 hY5 => ?_
  refine TW.join [(29, .bool (!askW Y to un))] ?_ (fun hJ1 => ?_)
  refine TQ.thenN (hY5 _ _ ?_)
  refine TW.cond rfl (fun hc1 => ?_) (fun hc1 => ?_)
  try simp only [zcb9] at hc1
  have hb : askW Y to un = false := by simpa using hc1
  have hwc : wsC Y to un = 2 := by unfold wsC; rw [if_neg (by omega), if_pos hb]
  refine TW.seq fun Y6 hY6 => TW.region ?_
  refine TL.p Pu.as ?_
  refine TL.p Pu.as ?_
  refine TL.nil (TQ.thenN (hY6 _ _ ?_))
  refine TW.ret ?_
  refine TQ.blkR ?_
  refine TQ.thenR ?_
  refine TQ.ret Tryz.results34 rfl ((.tmp rfl (.tmp rfl .nil))) ?_
  exact fun w hw => ws_bad hw hwc (by decide)
  try simp only [zcb9] at hc1
  have hb : askW Y to un = true := by simpa using hc1
  have hwc : wsC Y to un = if 200 < (wsW Y to un).length then 9 else 0 := by unfold wsC; rw [if_neg (by omega), if_neg (by rw [hb]; simp)]
  have hb9 := hb
  unfold askW inB5 at hb9
  simp only [Bool.and_eq_true, decide_eq_true_eq] at hb9
  replace hwc := hidT hwc
  refine TW.skip ?_
  refine TQ.blkN ?_
  refine TQ.thenN (hY3 _ _ ?_)
  refine TW.seq fun Y7 hY7 => TW.region ?_
  refine TL.m (Mk.al ty_zr87) ?_
  intro b6
  refine TL.nil (TQ.thenN (hY7 _ _ ?_))
  refine TW.seq fun Y8 hY8 => TW.region ?_
  refine TL.mmG (kk := .i64) ?_
  intro bm
  refine TL.m (Mk.al ty_zr144) ?_
  intro b7
  first | refine TL.st ty_sz144 ?_ | refine TL.se ty_sz144 ?_
  refine TL.nil (TQ.thenN (hY8 _ _ ?_))
  refine TW.seq fun Y9 hY9 => TW.region ?_
  refine TL.m (Mk.al ty_zr145) ?_
  intro b8
  refine TL.nil (TQ.thenN (hY9 _ _ ?_))
  refine TW.seq fun Y10 hY10 => TW.region ?_
  refine TL.p Pu.fn ?_
  first | refine TL.st ty_sz145 ?_ | refine TL.se ty_sz145 ?_
  refine TL.nil (TQ.thenN (hY10 _ _ ?_))
  refine TW.seq fun Y11 hY11 => ?_
  refine TW.seq fun Y12 hY12 => TW.region ?_
  refine TL.p (Pu.ld ty_sc145) ?_
  refine TL.p Pu.mv ?_
  refine TL.p Pu.mv ?_
  refine TL.p Pu.bd ?_
  refine TL.bun (K1 := []) ?_
  refine TL.subK (K' := lokM b6 bm [] ((none, 0), fun _ => none, fun _ => 0, [], 0) ++ [.blk b8 145 [.func (.func 70) #[] #[.pointer (some ⟨b3, 0, none⟩), .pointer (some ⟨b2, 0, none⟩), .pointer (some ⟨b6, 0, none⟩), .pointer (some ⟨b7, 0, none⟩), .pointer (some ⟨b5, 0, none⟩), .pointer (some ⟨b8, 0, none⟩)]], .blk b7 144 [.map (some bm)], .blk b5 140 [.slice W Y.nw cw, .slice A Y.nl cl, .int .i64 Y.p0, .int .i64 Y.p1], .blk b3 3 [.int .i64 un], .blk b2 3 [.int .i64 to]]) (by simp only [lokM, List.cons_append, List.nil_append]; exact KSub.cons pk9 (KSub.nilOwn (KSub.cons pk9 ks9))) ?_
  refine TL.cvk rfl rfl (enters Tryz.func70 rfl rfl) (M := lokM b6 bm [] ((none, 0), fun _ => none, fun _ => 0, [], 0)) (K' := [.blk b8 145 [.func (.func 70) #[] #[.pointer (some ⟨b3, 0, none⟩), .pointer (some ⟨b2, 0, none⟩), .pointer (some ⟨b6, 0, none⟩), .pointer (some ⟨b7, 0, none⟩), .pointer (some ⟨b5, 0, none⟩), .pointer (some ⟨b8, 0, none⟩)]], .blk b7 144 [.map (some bm)], .blk b5 140 [.slice W Y.nw cw, .slice A Y.nl cl, .int .i64 Y.p0, .int .i64 Y.p1], .blk b3 3 [.int .i64 un], .blk b2 3 [.int .i64 to]]) (List.Perm.refl _) (fun w hw => by
   have hs := (Has.sat ⟨[.blk b8 145 [.func (.func 70) #[] #[.pointer (some ⟨b3, 0, none⟩), .pointer (some ⟨b2, 0, none⟩), .pointer (some ⟨b6, 0, none⟩), .pointer (some ⟨b7, 0, none⟩), .pointer (some ⟨b5, 0, none⟩), .pointer (some ⟨b8, 0, none⟩)]], .blk b7 144 [.map (some bm)], .blk b5 140 [.slice W Y.nw cw, .slice A Y.nl cl, .int .i64 Y.p0, .int .i64 Y.p1], .blk b3 3 [.int .i64 un], .blk b2 3 [.int .i64 to]], List.Perm.refl _⟩ hw).self
   have hX : LokX _ _ (feet (lokM b6 bm [] ((none, 0), fun _ => none, fun _ => 0, [], 0))) b3 b2 b7 b5 b8 bm un to (carL W Y.nw cw A Y.nl cl Y.p0 Y.p1) (.func (.func 70) #[] #[.pointer (some ⟨b3, 0, none⟩), .pointer (some ⟨b2, 0, none⟩), .pointer (some ⟨b6, 0, none⟩), .pointer (some ⟨b7, 0, none⟩), .pointer (some ⟨b5, 0, none⟩), .pointer (some ⟨b8, 0, none⟩)]) := ⟨hw.chg.ext, fun b hb => (hw.ge b (by rw [feet_append]; exact List.mem_append_left _ hb)).elim (fun h9 => by cases h9) id, OldB.of_blk (hw.holds (.blk b3 3 [.int .i64 un]) (by simp)), OldB.of_blk (hw.holds (.blk b2 3 [.int .i64 to]) (by simp)), OldB.of_blk (hw.holds (.blk b7 144 [.map (some bm)]) (by simp)), OldB.of_blk (hw.holds (.blk b5 140 [.slice W Y.nw cw, .slice A Y.nl cl, .int .i64 Y.p0, .int .i64 Y.p1]) (by simp)), OldB.of_blk (hw.holds (.blk b8 145 [.func (.func 70) #[] #[.pointer (some ⟨b3, 0, none⟩), .pointer (some ⟨b2, 0, none⟩), .pointer (some ⟨b6, 0, none⟩), .pointer (some ⟨b7, 0, none⟩), .pointer (some ⟨b5, 0, none⟩), .pointer (some ⟨b8, 0, none⟩)]]) (by simp)), Sat.apartB hw (t := 3) (cs := [.int .i64 un]) (by simp) b3 rfl, Sat.apartB hw (t := 3) (cs := [.int .i64 to]) (by simp) b2 rfl, Sat.apartB hw (t := 144) (cs := [.map (some bm)]) (by simp) b7 rfl, Sat.apartB hw (t := 140) (cs := [.slice W Y.nw cw, .slice A Y.nl cl, .int .i64 Y.p0, .int .i64 Y.p1]) (by simp) b5 rfl, Sat.apartB hw (t := 145) (cs := [.func (.func 70) #[] #[.pointer (some ⟨b3, 0, none⟩), .pointer (some ⟨b2, 0, none⟩), .pointer (some ⟨b6, 0, none⟩), .pointer (some ⟨b7, 0, none⟩), .pointer (some ⟨b5, 0, none⟩), .pointer (some ⟨b8, 0, none⟩)]]) (by simp) b8 rfl⟩
   have h9 := lok_all (bU := b3) (bT := b2) (bA := b6) (bB := b7) (bC := b5) (bL := b8) (bm := bm) (un := un) (to := to) (cw := cw) (cl := cl) h hLg ho.h0 ho.h1 ho.h2 (by omega) Y.nw _ Y.start Y.day [] [] [] none 0 ⟨((none, 0), fun _ => none, fun _ => 0, [], 0), rfl⟩ ⟨by omega, by omega⟩ ⟨by omega, by omega⟩ (by simp) (cntB_bd _) (by simp) (by simp; omega) hs hX ⟨Rd.nil, fun i hi => absurd hi (Nat.not_lt_zero i)⟩ (fun h9 => absurd h9 (Nat.not_lt_zero 0))
   rw [show wys (fun v => ldL (fun k => (Y.x k).u) v Y.nl) (arW Y.x Y.g Y.p0) to un Y.nw Y.start Y.day [] [] [] = wsW Y to un from rfl] at h9
   exact h9) ?_
  rintro ⟨⟨⟨A9, c9⟩, ia, ic, t, n⟩, hgl⟩
  simp only [lokM, List.cons_append, List.nil_append]
  refine TL.p Pu.no ?_
  refine TL.nil (TQ.thenN (hY12 _ _ ?_))
  refine TW.cond rfl (fun hc2 => ?_) (fun hc2 => ?_)
  try simp only [zcb9] at hc2
  have hbig : 200 < (wsW Y to un).length := by first | omega | (simp at hc2; omega)
  have hwd : wsC Y to un = 9 := by rw [hwc.out, if_pos hbig]
  refine TW.seq fun Y13 hY13 => TW.region ?_
  refine TL.p Pu.as ?_
  refine TL.p Pu.as ?_
  refine TL.nil (TQ.thenN (hY13 _ _ ?_))
  refine TW.ret ?_
  refine TQ.thenR ?_
  refine TQ.ret Tryz.results34 rfl ((.tmp rfl (.tmp rfl .nil))) ?_
  exact fun w hw => ws_bad hw hwd (by decide)
  try simp only [zcb9] at hc2
  have hsm : ¬ 200 < (wsW Y to un).length := by first | omega | (simp at hc2; omega)
  have hwd : wsC Y to un = 0 := by rw [hwc.out, if_neg hsm]
  have hld : wsL Y to un = wsW Y to un := if_pos hwd
  refine TW.skip ?_
  refine TQ.thenN (hY11 _ _ ?_)
  refine TW.seq fun Y14 hY14 => TW.region ?_
  refine TL.p (Pu.ld ty_sc87) ?_
  refine TL.p Pu.as ?_
  refine TL.p Pu.as ?_
  refine TL.nil (TQ.thenN (hY14 _ _ ?_))
  refine TW.ret ?_
  refine TQ.ret Tryz.results34 rfl ((.tmp rfl (.tmp rfl .nil))) ?_
  exact fun w hw => ⟨((A9, c9), ia, ic), by rw [hwd, hld]; rfl, by rw [hld]; exact hw.sub (KSub.cons pk9 (KSub.cons pk9 KSub.nil))⟩
  refine TW.region ?_
  refine TL.p (by first | exact Pu.fb ty_fa25_0 | exact Pu.fe ty_fa25_0) ?_
  refine TL.p (Pu.ld ty_sc22) ?_
  refine TL.p (Pu.ln Tryz.underlying22) ?_
  refine TL.p Pu.sb ?_
  refine TL.p Pu.mv ?_
  refine TL.p (Pu.ld ty_sc3) ?_
  refine TL.m Mk.bl ?_
  intro b9
  refine TL.cr rfl (enters Tryz.func69 rfl rfl) (fun w hw => by
   exact fromTwo_any _ _ _ _ (hw.holds _ (List.mem_cons_self ..))) ?_
  refine TL.p Pu.no ?_
  refine TL.p Pu.mv ?_
  refine TL.guard (t := 39) rfl (fun hg1 => ?_) (fun hg1 => ?_)
  refine TL.gs ?_
  refine TL.gs ?_
  refine TL.gs ?_
  refine TL.gs ?_
  refine TL.gs ?_
  refine TL.p Pu.kt ?_
  refine TL.p Pu.as ?_
  refine TL.nil ?_
  exact TQ.sub (by repeat (first | exact trivial | refine ⟨rfl, ?_⟩ | refine ⟨trivial, ?_⟩ | refine ⟨(by show some (Value.bool _) = some (Value.bool _); first | (simp [hg1, askW]; done) | (refine congrArg (fun z => some (Value.bool z)) (Bool.eq_iff_iff.2 ?_); simp [hg1, askW]; omega)), ?_⟩)) ks9 hJ1
  refine TL.gd Pu.mv ?_
  refine TL.gd (Pu.ld ty_sc3) ?_
  refine TL.gm Mk.bl ?_
  intro b10
  refine TL.cr rfl (enters Tryz.func69 rfl rfl) (fun w hw => by
   exact fromTwo_any _ _ _ _ (hw.holds _ (List.mem_cons_self ..))) ?_
  refine TL.gd Pu.no ?_
  refine TL.p Pu.kf ?_
  refine TL.p Pu.as ?_
  refine TL.nil ?_
  exact TQ.sub (by repeat (first | exact trivial | refine ⟨rfl, ?_⟩ | refine ⟨trivial, ?_⟩ | refine ⟨(by show some (Value.bool _) = some (Value.bool _); first | (simp [hg1, askW]; done) | (refine congrArg (fun z => some (Value.bool z)) (Bool.eq_iff_iff.2 ?_); simp [hg1, askW]; omega)), ?_⟩)) ks9 hJ1
end
end Go.Proofs.YtfaenhhgkhcghaaGreatDoor
namespace Go.Proofs.YtfaenhhgkhcghaaGreatDoor
set_option linter.all false
set_option linter.unusedVariables false
set_option linter.unusedSimpArgs false
open Go.RowKit
def wsV (Y : Wy) (v : List Int) : Wy := { Y with n := v.length, ls := fun k => v.getD k 0 }
theorem getI_app {v : List Int} {a : Int} {k : Nat} (h : k < v.length) : (v ++ [a]).getD k 0 = v.getD k 0 := by
 rw [List.getD_eq_getElem?_getD, List.getD_eq_getElem?_getD, List.getElem?_append_left h]
theorem getI_last {v : List Int} {a : Int} : (v ++ [a]).getD v.length 0 = a := by
 rw [List.getD_eq_getElem?_getD, List.getElem?_append_right (Nat.le_refl _), Nat.sub_self]
 rfl
section
variable {Y : Wy} {v : List Int} {a : Int} {un to : Int}
theorem wl_app : ∀ k, k ≤ v.length → wlY (wsV Y (v ++ [a])) k = wlY (wsV Y v) k
 | 0, _ => rfl
 | k + 1, h => by
  have ih := wl_app k (by omega)
  rw [wlY_s, wlY_s, ih]
  show endV Y.nl (uY Y) ((v ++ [a]).getD k 0) _ = endV Y.nl (uY Y) (v.getD k 0) _
  rw [getI_app (by omega)]
theorem at_s (Y : Wy) (k : Nat) : atSY Y (k + 1) = arW Y.x Y.g Y.p0 (Y.ls k) (atSY Y k) := rfl
theorem at_app : ∀ k, k ≤ v.length → atSY (wsV Y (v ++ [a])) k = atSY (wsV Y v) k
 | 0, _ => rfl
 | k + 1, h => by
  have ih := at_app k (by omega)
  rw [at_s, at_s, ih]
  show arW Y.x Y.g Y.p0 ((v ++ [a]).getD k 0) _ = arW Y.x Y.g Y.p0 (v.getD k 0) _
  rw [getI_app (by omega)]
theorem wl_last : wlY (wsV Y (v ++ [a])) (v.length + 1) = endV Y.nl (uY Y) a (wlY (wsV Y v) v.length) := by
 rw [wlY_s, wl_app _ (Nat.le_refl _)]
 show endV Y.nl (uY Y) ((v ++ [a]).getD v.length 0) _ = _
 rw [getI_last]
theorem at_last : atSY (wsV Y (v ++ [a])) (v.length + 1) = arW Y.x Y.g Y.p0 a (atSY (wsV Y v) v.length) := by
 rw [at_s, at_app _ (Nat.le_refl _)]
 show arW Y.x Y.g Y.p0 ((v ++ [a]).getD v.length 0) _ = _
 rw [getI_last]
def GoodW (Y : Wy) (un : Int) (v : List Int) : Prop := v.length ≤ Y.nw ∧ ∀ k, k < v.length → 0 ≤ wlY (wsV Y v) (k + 1) ∧ atSY (wsV Y v) (k + 1) ≤ un
structure OnW (Y : Wy) (un : Int) (v : List Int) (well day : Int) : Prop where
 w : wlY (wsV Y v) v.length = well
 d : atSY (wsV Y v) v.length = day
 p : ∀ k, k < v.length → 0 ≤ wlY (wsV Y v) (k + 1)
 t : ∀ k, k + 1 < v.length → atSY (wsV Y v) (k + 1) ≤ un
theorem OnW.good {well day : Int} (h : OnW Y un v well day) (hd : day ≤ un) (hn : v.length ≤ Y.nw) : GoodW Y un v := ⟨hn, fun k hk => ⟨h.p k hk, by
 by_cases e : k + 1 = v.length
 · rw [e, h.d]; exact hd
 · exact h.t k (by omega)⟩⟩
theorem OnW.step {well day : Int} (h : OnW Y un v well day) (hd : day ≤ un) {k : Nat} (hk : k < Y.nl) (hw : atW (Y.x k).u well) (he : 0 ≤ othV (Y.x k).u well) : OnW Y un (v ++ [(k : Int)]) (othV (Y.x k).u well) (arW Y.x Y.g Y.p0 k day) := by
  have hl : (v ++ [(k : Int)]).length = v.length + 1 := by rw [List.length_append]; rfl
  have e9 : endV Y.nl (uY Y) (k : Int) well = othV (Y.x k).u well := by
    unfold endV
    rw [if_pos ⟨by omega, by omega⟩, Int.toNat_natCast]
    rfl
  refine ⟨?_, ?_, fun j hj => ?_, fun j hj => ?_⟩
  · rw [hl, wl_last, h.w, e9]
  · rw [hl, at_last, h.d]
  · rw [hl] at hj
    by_cases e : j = v.length
    · subst e
      rw [wl_last, h.w, e9]
      exact he
    · rw [wl_app _ (by omega)]
      exact h.p j (by omega)
  · rw [hl] at hj
    rw [at_app _ (by omega)]
    by_cases e : j + 1 = v.length
    · rw [e, h.d]; exact hd
    · exact h.t j (by omega)
theorem wys_good (hLg : LegsOk Y.nw Y.nl Y.x Y.g) : ∀ (r : Nat) (well day : Int) (been way : List Int) (out : List (List Int)), OnW Y un way well day → way.length + r ≤ Y.nw → (∀ v, v ∈ out → GoodW Y un v) →
    ∀ v, v ∈ wys (fun v => ldL (fun k => (Y.x k).u) v Y.nl) (arW Y.x Y.g Y.p0) to un r well day been way out → GoodW Y un v
  | 0, _, _, _, _, _, _, _, ho => ho
  | r + 1, well, day, been, way, out, h, hn, ho => by
    simp only [wys]
    by_cases hd : un < day
    · rw [if_pos hd]; exact ho
    · rw [if_neg hd]
      by_cases ht : well = to
      · rw [if_pos ht]
        intro v hv
        rcases List.mem_append.1 hv with hv | hv
        · exact ho v hv
        · rw [List.mem_singleton.1 hv]; exact h.good (by omega) (by omega)
      · rw [if_neg ht]
        have key : ∀ q, q ≤ (ldL (fun k => (Y.x k).u) well Y.nl).length → ∀ v, v ∈ wysN (fun y o => wys (fun v => ldL (fun k => (Y.x k).u) v Y.nl) (arW Y.x Y.g Y.p0) to un r y.2 (arW Y.x Y.g Y.p0 y.1 day) (been ++ [well]) (way ++ [y.1]) o) (been ++ [well]) (ldL (fun k => (Y.x k).u) well Y.nl) out q → GoodW Y un v := by
          intro q
          induction q with
          | zero => exact fun _ => ho
          | succ q ih =>
            intro hq
            have ih := ih (by omega)
            simp only [wysN]
            split
            · exact ih
            · split
              · exact ih
              · obtain ⟨k, hk, ha, e⟩ := ld_in Y.nl (getD_in (L := ldL (fun k => (Y.x k).u) well Y.nl) (q := q) (by omega))
                have he : 0 ≤ othV (Y.x k).u well := by
                  have := hLg.e k hk
                  unfold othV
                  rcases ha with ha | ha
                  · rw [if_pos ha]; omega
                  · split
                    · omega
                    · omega
                have h9 := h.step (by omega) hk ha he
                rw [e]
                exact wys_good hLg r _ _ _ _ _ h9 (by rw [List.length_append, List.length_singleton]; omega) ih
        exact key _ (Nat.le_refl _)
theorem good_wk (hok : okY Y = 0) (hb : begY Y = true) (hun : un ≤ 100000) (h : GoodW Y un v) : wkC (wsV Y v) = 0 := by
 have hnw : Y.nw ≤ 12 := by
   unfold okY askC at hok
   split at hok
   · next h1 =>
     unfold landOk inB5 at h1
     simp only [Bool.and_eq_true, decide_eq_true_eq] at h1
     omega
   · cases hok
 refine wkC_ok (Y := wsV Y v) hok hb ?_ ?_ ?_
 · show ¬ 24 < v.length
   have := h.1
   omega
 · unfold lostY
   cases e : exB (wsV Y v).n fun k => decide (wlY (wsV Y v) (k + 1) < 0) with
   | false => rfl
   | true =>
     obtain ⟨k, hk, e⟩ := exB_iff.1 e
     have := (h.2 k hk).1
     rw [decide_eq_true_eq] at e
     omega
 · unfold lateY
   cases e : exB (wsV Y v).n fun k => decide (100000 < atSY (wsV Y v) (k + 1)) with
   | false => rfl
   | true =>
     obtain ⟨k, hk, e⟩ := exB_iff.1 e
     have := (h.2 k hk).2
     rw [decide_eq_true_eq] at e
     omega
theorem wsL_all {v : List Int} (hc : wsC Y to un = 0) (hv : v ∈ wsL Y to un) : okY Y = 0 ∧ begY Y = true ∧ un ≤ 100000 ∧ GoodW Y un v := by
 have hl : wsL Y to un = wsW Y to un := if_pos hc
 rw [hl] at hv
 have hok : okY Y = 0 := by
  by_cases h : okY Y = 0
  · exact h
  · unfold wsC at hc; rw [if_pos h] at hc; exact absurd hc h
 have ha : askW Y to un = true := by
  cases e : askW Y to un with
  | true => rfl
  | false => unfold wsC at hc; rw [if_neg (by omega), if_pos e] at hc; cases hc
 have hb : begY Y = true ∧ un ≤ 100000 := by
  unfold askW at ha
  simp only [Bool.and_eq_true] at ha
  unfold begY
  rw [ha.1.1, ha.2.1]
  have := ha.2.2
  unfold inB5 at this
  simp only [Bool.and_eq_true, decide_eq_true_eq] at this
  exact ⟨rfl, this.2⟩
 exact ⟨hok, hb.1, hb.2, wys_good (legs_ok hok) Y.nw Y.start Y.day [] [] [] ⟨rfl, rfl, fun k hk => absurd hk (Nat.not_lt_zero k), fun k hk => absurd hk (Nat.not_lt_zero _)⟩ (by simp) (fun v hv => by cases hv) v hv⟩
theorem wsL_wk {v : List Int} (hc : wsC Y to un = 0) (hv : v ∈ wsL Y to un) : wkC (wsV Y v) = 0 := by
 obtain ⟨h1, h2, h3, h4⟩ := wsL_all hc hv
 exact good_wk h1 h2 h3 h4
theorem wsL_n {v : List Int} (hc : wsC Y to un = 0) (hv : v ∈ wsL Y to un) : v.length ≤ 24 := by
 have h := wsL_wk hc hv
 unfold wkC at h
 by_cases h9 : 24 < v.length
 · obtain ⟨h1, h2, _⟩ := wsL_all hc hv
   have e1 : okY (wsV Y v) = 0 := h1
   have e2 : begY (wsV Y v) = true := h2
   rw [if_neg (by omega), if_neg (by rw [e2]; simp), if_pos (show 24 < (wsV Y v).n from h9)] at h
   cases h
 · omega
theorem wsL_len (hc : wsC Y to un = 0) : (wsL Y to un).length ≤ 200 := by
 have hl : wsL Y to un = wsW Y to un := if_pos hc
 rw [hl]
 by_cases h9 : 200 < (wsW Y to un).length
 · unfold wsC at hc
   split at hc
   · next h => exact absurd hc h
   · split at hc
     · cases hc
     · cases hc
 · omega
end
end Go.Proofs.YtfaenhhgkhcghaaGreatDoor
namespace Go.Proofs.YtfaenhhgkhcghaaGreatDoor
set_option linter.all false
set_option linter.unusedVariables false
set_option linter.unusedSimpArgs false
open Go.RowKit
def wcN (Y : Wy) (Z : Cus) (T : Trp) (E : Fes) (v : List Int) : Int := (hirW (wsV Y v) Z T E).2.1 + allHi Z T (stY (wsV Y v)) v.length
abbrev ChS : Type := Nat × List Int × Int × Bool
def chpK (Y : Wy) (Z : Cus) (T : Trp) (E : Fes) (L : List (List Int)) : Nat → ChS
 | 0 => (0, [], 0, false)
 | k + 1 => if ((hirW (wsV Y (L.getD k [])) Z T E).2.2 && (!(chpK Y Z T E L k).2.2.2 || decide (wcN Y Z T E (L.getD k []) < (chpK Y Z T E L k).2.2.1))) = true then (k, (hirW (wsV Y (L.getD k [])) Z T E).1, wcN Y Z T E (L.getD k []), true) else chpK Y Z T E L k
def chpS (Y : Wy) (Z : Cus) (T : Trp) (E : Fes) (to un : Int) : ChS := chpK Y Z T E (wsL Y to un) (wsL Y to un).length
def chpC (Y : Wy) (Z : Cus) (T : Trp) (E : Fes) (to un : Int) : Int := if rdyC Y Z T ≠ 0 then rdyC Y Z T else if fesOk E = false then 74 else if wsC Y to un ≠ 0 then wsC Y to un else if (chpS Y Z T E to un).2.2.2 = true then 0 else 75
def chpL (Y : Wy) (Z : Cus) (T : Trp) (E : Fes) (to un : Int) : List Int := if chpC Y Z T E to un = 0 then (wsL Y to un).getD (chpS Y Z T E to un).1 [] else []
def chpG (Y : Wy) (Z : Cus) (T : Trp) (E : Fes) (to un : Int) : List Int := if chpC Y Z T E to un = 0 then (chpS Y Z T E to un).2.1 else []
def chpN (Y : Wy) (Z : Cus) (T : Trp) (E : Fes) (to un : Int) : Int := if chpC Y Z T E to un = 0 then (chpS Y Z T E to un).2.2.1 else 0
abbrev CX : Type := (Option Addr × Nat) × (Option Addr × Nat)
def chpV (Y : Wy) (Z : Cus) (T : Trp) (E : Fes) (to un : Int) (y : CX) : Value := .tuple #[.slice y.1.1 (chpL Y Z T E to un).length y.1.2, .slice y.2.1 (chpG Y Z T E to un).length y.2.2, .int .i64 (chpN Y Z T E to un), .int .i64 (chpC Y Z T E to un)]
def chpF (Y : Wy) (Z : Cus) (T : Trp) (E : Fes) (to un : Int) (y : CX) : List Fact := [.own y.1.1 (chpL Y Z T E to un).length y.1.2 3 1 (iL (chpL Y Z T E to un)), .own y.2.1 (chpG Y Z T E to un).length y.2.2 3 1 (iL (chpG Y Z T E to un))]
theorem foot_sub {φ : Fact} : ∀ {L : List Fact}, φ ∈ L → φ.foot.Sublist (feet L)
 | ψ :: L, h => by
  show φ.foot.Sublist (ψ.foot ++ feet L)
  rcases List.mem_cons.1 h with rfl | h
  · exact List.sublist_append_left _ _
  · exact (foot_sub h).trans (List.sublist_append_right _ _)
theorem sat_bunM {S : List Nat} {w0 w : World} {φ : Fact} {L K : List Fact} (h : Sat S w0 (bun L :: K) w) (hm : φ ∈ L) : Sat S w0 (φ :: K) w := by
 have hsub : (feet (φ :: K)).Sublist (feet (bun L :: K)) := by
   show (φ.foot ++ feet K).Sublist (feet L ++ feet K)
   exact List.Sublist.append (foot_sub hm) (List.Sublist.refl _)
 refine ⟨h.chg, h.nd.sublist hsub, fun b hb => h.ge b (hsub.subset hb), fun ψ hψ => ?_⟩
 rcases List.mem_cons.1 hψ with rfl | hψ
 · exact (h.holds (bun L) (List.mem_cons_self ..)).now _ hm
 · exact h.holds ψ (List.mem_cons_of_mem _ hψ)
theorem lks_mem {L : List (List Int)} {ia : Nat → Option Addr} {ic : Nat → Nat} {k : Nat} (h : k < L.length) : Fact.own (ia k) (L.getD k []).length (ic k) 3 1 (iL (L.getD k [])) ∈ lksK L ia ic := ownsE_mem h
section
variable {Y : Wy} {Z : Cus} {T : Trp} {E : Fes} {to un : Int}
theorem chp_bad {w0 w : World} {K : List Fact} {e : Int} (h : Sat [] w0 K w) (he : chpC Y Z T E to un = e) (h0 : e ≠ 0) : ∃ y : CX, Ending.returned (retV [.slice none 0 0, .slice none 0 0, .int .i64 0, .int .i64 e]) = .returned (chpV Y Z T E to un y) ∧ Sat [] w0 (chpF Y Z T E to un y) w := by
 have h9 : chpC Y Z T E to un ≠ 0 := by rw [he]; exact h0
 refine ⟨((none, 0), none, 0), ?_, ?_⟩
 · unfold chpV chpL chpG chpN
   rw [if_neg h9, if_neg h9, if_neg h9, he]
   rfl
 · unfold chpF chpL chpG
   rw [if_neg h9, if_neg h9]
   exact h.sub (KSub.nilOwn (KSub.nilOwn KSub.nil))
theorem chpK_at {L : List (List Int)} : ∀ k, (chpK Y Z T E L k).2.2.2 = true → (chpK Y Z T E L k).1 < k
 | 0, h => by simp [chpK] at h
 | k + 1, h => by
  simp only [chpK] at h ⊢
  split
  · simp only; omega
  · next e =>
    rw [if_neg e] at h
    have := chpK_at k h
    omega
theorem hirW_bd {Y : Wy} (hE : fesOk E = true) : 0 ≤ (hirW Y Z T E).2.1 ∧ (hirW Y Z T E).2.1 ≤ 8000000000000 := hirK_bd hE _
theorem chpK_bd {L : List (List Int)} (hok : CusOk Z) (ht : trpOk T = true) (hE : fesOk E = true) (hL : ∀ v, v ∈ L → v.length ≤ 1000) : ∀ k, k ≤ L.length → 0 ≤ (chpK Y Z T E L k).2.2.1 ∧ (chpK Y Z T E L k).2.2.1 ≤ 3000000000000000
 | 0, _ => by simp [chpK]
 | k + 1, hk => by
  simp only [chpK]
  split
  · have h1 := hirW_bd (Z := Z) (T := T) (Y := wsV Y (L.getD k [])) hE
    have h2 := all_bd (st := stY (wsV Y (L.getD k []))) hok ht (L.getD k []).length
    have h3 : (L.getD k []).length ≤ 1000 := hL _ (by rw [List.getD_eq_getElem?_getD, List.getElem?_eq_getElem (show k < L.length by omega)]; exact List.getElem_mem _)
    simp only [wcN]
    omega
  · exact chpK_bd hok ht hE hL k (by omega)
end
section
variable {Y : Wy} {Z : Cus} {T : Trp} {E : Fes} {to un : Int} {W A C D B O U V G : Option Addr} {cw cl cc cd cb co cu cv cg : Nat} {w : World}
set_option maxRecDepth 100000 in
set_option maxHeartbeats 8000000 in
theorem tollCheapest_any (hL : LandIn w W Y.nw A Y.nl Y.f Y.x Y.g) (h : CustIn w C Z.nc D Z.nd B Z.nb Z.c Z.d Z.b) (t : TrpIn w T O U V) (hG : OldB w 0 barsL) (hnf : E.nf ≤ 1000) (hE : RdR w 2 G E.nf (feeL E)) :
  CallsK Tryz.prog 9 #[.agg (landL W Y.nw cw A Y.nl cl).toArray, .agg (custL C Z.nc cc D Z.nd cd B Z.nb cb).toArray, .agg (troopL T.hd T.wo O T.no co U T.nu cu V T.nv cv).toArray, .slice G E.nf cg, .int .i64 Y.start, .int .i64 to, .int .i64 Y.day, .int .i64 un, .agg #[.int .i64 Y.p0, .int .i64 Y.p1]] [] w CX (chpV Y Z T E to un) (chpF Y Z T E to un) := by
 have fR := fun (w' : World) (h1 : LandIn w' W Y.nw A Y.nl Y.f Y.x Y.g) (h2 : CustIn w' C Z.nc D Z.nd B Z.nb Z.c Z.d Z.b) (h3 : TrpIn w' T O U V) => cReady_any (cw := cw) (cl := cl) (cc := cc) (cd := cd) (cb := cb) (co := co) (cu := cu) (cv := cv) h1 h2 h3
 have fW := fun (w' : World) (v : List Int) (L : Option Addr) (cn : Nat) (hn : v.length ≤ 1000) (h1 : LandIn w' W Y.nw A Y.nl Y.f Y.x Y.g) (h2 : RdR w' 1 L v.length (iL v)) => cWalked_any (Y := wsV Y v) (L := L) (Z := Z) (T := T) (C := C) (D := D) (B := B) (O := O) (U := U) (V := V) (cw := cw) (cl := cl) (cc := cc) (cd := cd) (cb := cb) (co := co) (cu := cu) (cv := cv) (cn := cn) h1 hn h2
 have fY := fun (w' : World) (h1 : LandIn w' W Y.nw A Y.nl Y.f Y.x Y.g) => cWays_any (to := to) (un := un) (cw := cw) (cl := cl) h1
 unfold landL custL troopL at fR fW
 unfold landL at fY
 unfold landL custL troopL
 refine K_enter (S := []) (K := []) Tryz.func9 rfl Tryz.ntmps9 rfl (Sat.start _) ?_
 refine TW.seq fun Y1 hY1 => TW.region ?_
 refine TL.m Mk.bx ?_
 intro b1
 refine TL.m Mk.bx ?_
 intro b2
 refine TL.m Mk.bx ?_
 intro b3
 refine TL.m Mk.bx ?_
 intro b4
 refine TL.p Pu.as ?_
 refine TL.p Pu.as ?_
 refine TL.p Pu.as ?_
 refine TL.p Pu.as ?_
 refine TL.nil (TQ.thenN (hY1 _ _ ?_))
 refine TW.seq fun Y2 hY2 => ?_
 refine TW.seq fun Y3 hY3 => TW.region ?_
 refine TL.p (Pu.lds ty_ag25) ?_
 refine TL.p (Pu.lds ty_ag30) ?_
 refine TL.p (Pu.lds ty_ag33) ?_
 refine TL.cr rfl (enters Tryz.func25 rfl rfl) (fun w hw => by
   exact fR _ (hL.ext (Chg.ext hw.chg)) (h.ext (Chg.ext hw.chg)) (t.ext (Chg.ext hw.chg))) ?_
 refine TL.p Pu.as ?_
 refine TL.nil (TQ.thenN (hY3 _ _ ?_))
 refine TW.seq fun Y4 hY4 => TW.region ?_
 refine TL.p Pu.mv ?_
 refine TL.p Pu.ne ?_
 refine TL.nil (TQ.thenN (hY4 _ _ ?_))
 refine TW.cond rfl (fun hc0 => ?_) (fun hc0 => ?_)
 try simp only [zcb9] at hc0
 have hne : rdyC Y Z T ≠ 0 := hc0
 refine TW.seq fun Y5 hY5 => TW.region ?_
 refine TL.p Pu.mv ?_
 refine TL.p Pu.as ?_
 refine TL.p Pu.as ?_
 refine TL.p Pu.as ?_
 refine TL.p Pu.as ?_
 refine TL.nil (TQ.thenN (hY5 _ _ ?_))
 refine TW.ret ?_
 refine TQ.thenR ?_
 refine TQ.ret Tryz.results9 rfl ((.tmp rfl (.tmp rfl (.tmp rfl (.tmp rfl .nil))))) ?_
 exact fun w hw => chp_bad hw (if_pos hne) hne
 try simp only [zcb9] at hc0
 have hz : rdyC Y Z T = 0 := by simpa using hc0
 obtain ⟨hz1, hz2⟩ := rdy_split hz
 have hok := chk_ok hz1
 refine TW.skip ?_
 refine TQ.thenN (hY2 _ _ ?_)
 refine TW.seq fun Y6 hY6 => ?_
 refine TW.seq fun Y7 hY7 => TW.region ?_
 refine TL.p Pu.mv ?_
 refine TL.cr rfl (enters Tryz.func26 rfl rfl) (fun w hw => by
   exact cPriced_any (by omega) (hE.sat hw Apart.nil)) ?_
 refine TL.p Pu.no ?_
 refine TL.nil (TQ.thenN (hY7 _ _ ?_))
 refine TW.cond rfl (fun hc1 => ?_) (fun hc1 => ?_)
 try simp only [zcb9] at hc1
 have h2 : fesOk E = false := by simpa using hc1
 refine TW.seq fun Y8 hY8 => TW.region ?_
 refine TL.p Pu.as ?_
 refine TL.p Pu.as ?_
 refine TL.p Pu.as ?_
 refine TL.p Pu.as ?_
 refine TL.nil (TQ.thenN (hY8 _ _ ?_))
 refine TW.ret ?_
 refine TQ.thenR ?_
 refine TQ.ret Tryz.results9 rfl ((.tmp rfl (.tmp rfl (.tmp rfl (.tmp rfl .nil))))) ?_
 exact fun w hw => chp_bad hw (by unfold chpC; rw [if_neg (by omega), if_pos h2]) (by decide)
 try simp only [zcb9] at hc1
 have h2 : fesOk E = true := by simpa using hc1
 refine TW.skip ?_
 refine TQ.thenN (hY6 _ _ ?_)
 refine TW.seq fun Y9 hY9 => TW.region ?_
 refine TL.p (Pu.lds ty_ag25) ?_
 refine TL.p Pu.mv ?_
 refine TL.p Pu.mv ?_
 refine TL.p Pu.mv ?_
 refine TL.p Pu.mv ?_
 refine TL.p (Pu.lds ty_ag36) ?_
 refine TL.call (M := []) rfl (enters Tryz.func34 rfl rfl) (List.Perm.refl _) rfl (fun w hw => by
   exact fY _ (hL.ext (Chg.ext hw.chg))) ?_
 rintro ⟨⟨A9, c9⟩, ia, ic⟩
 simp only [wsK, lksR, List.cons_append, List.nil_append]
 refine TL.p Pu.mv ?_
 refine TL.p Pu.ex ?_
 refine TL.p Pu.ex ?_
 refine TL.p Pu.as ?_
 refine TL.p Pu.as ?_
 refine TL.nil (TQ.thenN (hY9 _ _ ?_))
 refine TW.seq fun Y10 hY10 => ?_
 refine TW.seq fun Y11 hY11 => TW.region ?_
 refine TL.p Pu.mv ?_
 refine TL.p Pu.ne ?_
 refine TL.nil (TQ.thenN (hY11 _ _ ?_))
 refine TW.cond rfl (fun hc2 => ?_) (fun hc2 => ?_)
 try simp only [zcb9] at hc2
 have hne : wsC Y to un ≠ 0 := hc2
 refine TW.seq fun Y12 hY12 => TW.region ?_
 refine TL.p Pu.mv ?_
 refine TL.p Pu.as ?_
 refine TL.p Pu.as ?_
 refine TL.p Pu.as ?_
 refine TL.p Pu.as ?_
 refine TL.nil (TQ.thenN (hY12 _ _ ?_))
 refine TW.ret ?_
 refine TQ.thenR ?_
 refine TQ.ret Tryz.results9 rfl ((.tmp rfl (.tmp rfl (.tmp rfl (.tmp rfl .nil))))) ?_
 exact fun w hw => chp_bad hw (by unfold chpC; rw [if_neg (by omega), if_neg (by rw [h2]; simp), if_pos hne]) hne
 try simp only [zcb9] at hc2
 have hwz : wsC Y to un = 0 := by simpa using hc2
 have hwv := fun v (hv : v ∈ wsL Y to un) => wsL_wk hwz hv
 have hcc : chpC Y Z T E to un = if (chpS Y Z T E to un).2.2.2 = true then 0 else 75 := by unfold chpC; rw [if_neg (by omega), if_neg (by rw [h2]; simp), if_neg (by omega)]
 replace hcc := hidT hcc
 have hl2 : (wsL Y to un).length ≤ 200   := wsL_len hwz
 have hln : ∀ v, v ∈ wsL Y to un → v.length ≤ 24 := fun v hv => wsL_n hwz hv
 refine TW.skip ?_
 refine TQ.thenN (hY10 _ _ ?_)
 refine TW.seq fun Y13 hY13 => TW.region ?_
 refine TL.p Pu.as ?_
 refine TL.nil (TQ.thenN (hY13 _ _ ?_))
 refine TW.seq fun Y14 hY14 => ?_
 refine TW.seq fun Y15 hY15 => TW.region ?_
 refine TL.p Pu.mv ?_
 refine TL.p (Pu.ln Tryz.underlying87) ?_
 refine TL.p Pu.mv ?_
 refine TL.nil (TQ.thenN (hY15 _ _ ?_))
 refine TW.block ?_
 refine TW.loop5 (fun (k : Nat) (s : ChS) (z : Option Addr × Nat × Nat) (Ag : Option Addr) (ag : Nat) => [(59, .int .i64 (k : Int)), (58, .int .i64 ((wsL Y to un).length : Int)), (57, .slice A9 (wsL Y to un).length c9), (18, .slice z.1 z.2.2 z.2.1), (19, .slice Ag s.2.1.length ag), (20, .int .i64 s.2.2.1), (24, .bool s.2.2.2), (3, .slice G E.nf cg), (4, .int .i64 Y.start), (6, .int .i64 Y.day), (9, .pointer (some ⟨b1, 0, none⟩)), (10, .pointer (some ⟨b2, 0, none⟩)), (11, .pointer (some ⟨b3, 0, none⟩)), (17, .pointer (some ⟨b4, 0, none⟩))]) (fun k s z Ag ag => [.own Ag s.2.1.length ag 3 1 (iL s.2.1), .own A9 (wsL Y to un).length c9 31 1 (fun k => [.slice (ia k) ((wsL Y to un).getD k []).length (ic k)]), bun (lksK (wsL Y to un) ia ic), .blk b1 25 [.slice W Y.nw cw, .slice A Y.nl cl], .blk b2 30 [.slice C Z.nc cc, .slice D Z.nd cd, .slice B Z.nb cb], .blk b3 33 [.int .i64 T.hd, .int .i64 T.wo, .slice O T.no co, .slice U T.nu cu, .slice V T.nv cv], .blk b4 36 [.int .i64 Y.p0, .int .i64 Y.p1]]) (fun k s z Ag ag => k ≤ (wsL Y to un).length ∧ s = chpK Y Z T E (wsL Y to un) k ∧ (s.2.2.2 = true → z.1 = ia s.1 ∧ z.2.1 = ic s.1 ∧ z.2.2 = ((wsL Y to un).getD s.1 []).length)) (fun k s z Ag ag => (wsL Y to un).length - k) 0 (0, [], 0, false) (none, 0, 0) none 0 fs9 ?_ ?_ ?_
 exact KSub.nilOwn ks9
 exact ⟨Nat.zero_le _, rfl, fun h9 => by cases h9⟩
 rintro k s z Ag ag ⟨hk, hs, hsl⟩ Z0 hZ0
 have hsb := chpK_bd (Y := Y) hok hz2 h2 (fun v hv => Nat.le_trans (hln v hv) (by decide)) k hk
 rw [← hs] at hsb
 replace hs := hidT hs
 replace hsl := hidT hsl
 refine TW.seq fun Y16 hY16 => TW.region ?_
 refine TL.p Pu.lt ?_
 refine TL.nil (TQ.thenN (hY16 _ _ ?_))
 refine TW.seq fun Y17 hY17 => ?_
 refine TW.cond rfl (fun hc3 => ?_) (fun hc3 => ?_)
 try simp only [zcb9] at hc3
 have hkn : k < (wsL Y to un).length := by omega
 have hvm : ((wsL Y to un).getD k []) ∈ wsL Y to un := by rw [List.getD_eq_getElem?_getD, List.getElem?_eq_getElem hkn]; exact List.getElem_mem _
 have hvw := hwv _ hvm
 have hvn := hln _ hvm
 have hvk : wkN (wsV Y ((wsL Y to un).getD k [])) = ((wsL Y to un).getD k []).length := wkN_n hvw
 have hwb := stY_bd hvw
 have hib := hirW_bd (Y := wsV Y ((wsL Y to un).getD k [])) (Z := Z) (T := T) h2
 have hab := all_bd (st := stY (wsV Y ((wsL Y to un).getD k []))) hok hz2 ((wsL Y to un).getD k []).length
 obtain ⟨hh, hhe⟩ : ∃ hh, hh = hirW (wsV Y ((wsL Y to un).getD k [])) Z T E := ⟨_, rfl⟩
 obtain ⟨hi9, hie⟩ : ∃ hi9, hi9 = allHi Z T (stY (wsV Y ((wsL Y to un).getD k []))) ((wsL Y to un).getD k []).length := ⟨_, rfl⟩
 obtain ⟨lo9, hlo⟩ : ∃ lo9, lo9 = allLo Z T (stY (wsV Y ((wsL Y to un).getD k []))) ((wsL Y to un).getD k []).length := ⟨_, rfl⟩
 rw [← hhe] at hib
 rw [← hie, ← hlo] at hab
 have hst1 : chpK Y Z T E (wsL Y to un) (k + 1) = if (hh.2.2 && (!s.2.2.2 || decide (hh.2.1 + hi9 < s.2.2.1))) = true then (k, hh.1, hh.2.1 + hi9, true) else s := by rw [hs.out, hhe, hie]; rfl
 replace hhe := hidT hhe
 replace hie := hidT hie
 replace hlo := hidT hlo
 replace hvk := hidT hvk
 replace hvw := hidT hvw
 refine TW.skip ?_
 refine TQ.thenN (hY17 _ _ ?_)
 refine TW.seq fun Y18 hY18 => ?_
 refine TW.block ?_
 refine TW.seq fun Y19 hY19 => TW.region ?_
 refine TL.p (Pu.el ty_et87) ?_
 refine TL.p (Pu.ld ty_sc31) ?_
 refine TL.p Pu.as ?_
 refine TL.nil (TQ.thenN (hY19 _ _ ?_))
 refine TW.seq fun Y20 hY20 => TW.region ?_
 refine TL.p (Pu.lds ty_ag25) ?_
 refine TL.p (Pu.lds ty_ag30) ?_
 refine TL.p (Pu.lds ty_ag33) ?_
 refine TL.p Pu.mv ?_
 refine TL.p Pu.mv ?_
 refine TL.p (Pu.lds ty_ag36) ?_
 refine TL.p Pu.mv ?_
 refine TL.call (M := []) rfl (enters Tryz.func27 rfl rfl) (List.Perm.refl _) rfl (fun w hw => by
   have q0 := bun_get hw (K1 := lksK (wsL Y to un) ia ic) (Pick.mem pk9) (lks_mem hkn)
   have h9 := fW _ ((wsL Y to un).getD k []) (ia k) (ic k) (by omega) (hL.ext (Chg.ext hw.chg)) (OwnR.rdr q0)
   rw [hvw.out, hvk.out] at h9
   exact h9) ?_
 rintro ⟨⟨As, cs⟩, bt⟩
 refine TL.p Pu.mv ?_
 refine TL.p Pu.ex ?_
 refine TL.p Pu.ex ?_
 refine TL.p Pu.as ?_
 refine TL.p Pu.as ?_
 refine TL.nil (TQ.thenN (hY20 _ _ ?_))
 refine TW.seq fun Y21 hY21 => ?_
 refine TW.seq fun Y22 hY22 => TW.region ?_
 refine TL.p Pu.mv ?_
 refine TL.p Pu.ne ?_
 refine TL.nil (TQ.thenN (hY22 _ _ ?_))
 refine TW.condF rfl (rfl) ?_
 refine TW.skip ?_
 refine TQ.thenN (hY21 _ _ ?_)
 refine TW.seq fun Y23 hY23 => TW.region ?_
 refine TL.p Pu.mv ?_
 refine TL.p Pu.mv ?_
 refine TL.call (M := []) rfl (enters Tryz.func28 rfl rfl) (List.Perm.refl _) rfl (fun w hw => by
   have q1 := OldB.of_blk (hw.holds (.blk bt 129 (trkL T O co U cu V cv Z C cc D cd B cb As ((wsL Y to un).getD k []).length cs)) (Pick.mem pk9))
   have q2 := OwnR.rdr (hw.holds (.own As ((wsL Y to un).getD k []).length cs 160 6 (fun j => stopL (stY (wsV Y ((wsL Y to un).getD k [])) j))) (Pick.mem pk9))
   have h9 := cHire_any (ca := cg) (n := ((wsL Y to un).getD k []).length) (st := stY (wsV Y ((wsL Y to un).getD k []))) hok h2 (h.ext (Chg.ext hw.chg)) (t.ext (Chg.ext hw.chg)) ⟨by omega, q2, hwb⟩ q1 (hG.ext (Chg.ext hw.chg)) (by have := trp_lens hz2; omega) (hE.sat hw Apart.nil)
   rw [show hirV Z T ((wsL Y to un).getD k []).length (stY (wsV Y ((wsL Y to un).getD k []))) E = hirW (wsV Y ((wsL Y to un).getD k [])) Z T E from rfl, ← hhe.out] at h9
   exact h9) ?_
 rintro ⟨Ah, ah⟩
 simp only [hirR]
 refine TL.p Pu.mv ?_
 refine TL.p Pu.ex ?_
 refine TL.p Pu.ex ?_
 refine TL.p Pu.ex ?_
 refine TL.p Pu.as ?_
 refine TL.p Pu.as ?_
 refine TL.p Pu.as ?_
 refine TL.nil (TQ.thenN (hY23 _ _ ?_))
 refine TW.seq fun Y24 hY24 => TW.region ?_
 refine TL.p Pu.mv ?_
 refine TL.call (M := []) rfl (enters Tryz.func35 rfl rfl) (List.Perm.refl _) rfl (fun w hw => by
   have q1 := OldB.of_blk (hw.holds (.blk bt 129 (trkL T O co U cu V cv Z C cc D cd B cb As ((wsL Y to un).getD k []).length cs)) (Pick.mem pk9))
   have q2 := OwnR.rdr (hw.holds (.own As ((wsL Y to un).getD k []).length cs 160 6 (fun j => stopL (stY (wsV Y ((wsL Y to un).getD k [])) j))) (Pick.mem pk9))
   have h9 := cTolls_any (n := ((wsL Y to un).getD k []).length) (st := stY (wsV Y ((wsL Y to un).getD k []))) hok hz2 (h.ext (Chg.ext hw.chg)) (t.ext (Chg.ext hw.chg)) ⟨by omega, q2, hwb⟩ q1
   rw [← hie.out, ← hlo.out] at h9
   exact h9) ?_
 rintro ⟨At, at9⟩
 refine TL.p Pu.mv ?_
 refine TL.p Pu.ex ?_
 refine TL.p Pu.ex ?_
 refine TL.m (Mk.al ty_zr36) ?_
 intro b5
 refine TL.p Pu.as ?_
 first | refine TL.st ty_sz36 ?_ | refine TL.se ty_sz36 ?_
 refine TL.nil (TQ.thenN (hY24 _ _ ?_))
 refine TW.seq fun Y25 hY25 => ?_
 refine TW.join [(101, .bool (hh.2.2 && (!s.2.2.2 || decide (hh.2.1 + hi9 < s.2.2.1))))] ?_ (fun hJ1 => ?_)
 refine TQ.thenN (hY25 _ _ ?_)
 refine TW.cond rfl (fun hc5 => ?_) (fun hc5 => ?_)
 try simp only [zcb9] at hc5
 have hyes : (hh.2.2 && (!s.2.2.2 || decide (hh.2.1 + hi9 < s.2.2.1))) = true := by simpa using hc5
 rw [if_pos hyes] at hst1
 have hT : hh.2.2 = true := (Bool.and_eq_true_iff.1 hyes).1
 replace hst1 := hidT hst1
 refine TW.dw 10 ?_
 refine RK.tk Pu.mv ?_
 refine RK.tk Pu.mv ?_
 refine RK.tk Pu.mv ?_
 refine RK.tk (by first | exact Pu.fb ty_fa36_1 | exact Pu.fe ty_fa36_1) ?_
 refine RK.tk (Pu.ld ty_sc3) ?_
 refine RK.tk Pu.ad ?_
 refine RK.tk Pu.as ?_
 refine RK.tk Pu.as ?_
 refine RK.tk Pu.as ?_
 refine RK.tk Pu.as ?_
 refine RK.ch [] ?_ trivial
 refine WK.n ?_
 refine TL.nil ?_
 refine TQ.blkN ?_
 refine TQ.thenN (hY18 _ _ ?_)
 refine TW.region ?_
 refine TL.p Pu.ad ?_
 refine TL.p Pu.mv ?_
 refine TL.nil ?_
 refine TQ.thenN (hZ0 (k + 1) (by first | exact (fun (_ : hh.2.2 = true) => ((k, hh.1, hh.2.1 + hi9, true) : ChS)) hT | exact s) (by first | exact (fun (_ : hh.2.2 = true) => ((ia k, ic k, ((wsL Y to un).getD k []).length) : Option Addr × Nat × Nat)) hT | exact z) (by first | exact (fun (_ : hh.2.2 = true) => Ah) hT | exact Ag) (by first | exact (fun (_ : hh.2.2 = true) => ah) hT | exact ag) _ _ ?_ ?_ fs9 ?_)
 exact ⟨by omega, hst1.out.symm, by first | exact hsl.out | exact fun _ => ⟨rfl, rfl, rfl⟩⟩
 exact zom9
 exact ks9
 try simp only [zcb9] at hc5
 have hno : ¬ (hh.2.2 && (!s.2.2.2 || decide (hh.2.1 + hi9 < s.2.2.1))) = true := by intro h9; rw [Bool.and_eq_true, Bool.or_eq_true, Bool.not_eq_true', decide_eq_true_eq] at h9; simp_all; omega
 rw [if_neg hno] at hst1
 replace hst1 := hidT hst1
 refine TW.skip ?_
 refine TQ.blkN ?_
 refine TQ.thenN (hY18 _ _ ?_)
 refine TW.region ?_
 refine TL.p Pu.ad ?_
 refine TL.p Pu.mv ?_
 refine TL.nil ?_
 refine TQ.thenN (hZ0 (k + 1) (by first | exact (fun (_ : hh.2.2 = true) => ((k, hh.1, hh.2.1 + hi9, true) : ChS)) hT | exact s) (by first | exact (fun (_ : hh.2.2 = true) => ((ia k, ic k, ((wsL Y to un).getD k []).length) : Option Addr × Nat × Nat)) hT | exact z) (by first | exact (fun (_ : hh.2.2 = true) => Ah) hT | exact Ag) (by first | exact (fun (_ : hh.2.2 = true) => ah) hT | exact ag) _ _ ?_ ?_ fs9 ?_)
 exact ⟨by omega, hst1.out.symm, by first | exact hsl.out | exact fun _ => ⟨rfl, rfl, rfl⟩⟩
 exact zom9
 exact ks9
 refine TW.region ?_
 refine TL.p Pu.mv ?_
 refine TL.p Pu.mv ?_
 refine TL.guard (t := 90) rfl (fun hg1 => ?_) (fun hg1 => ?_)
 refine TL.gd Pu.mv ?_
 refine TL.gd Pu.no ?_
 refine TL.gd Pu.mv ?_
 refine TL.guard (t := 93) rfl (fun hg2 => ?_) (fun hg2 => ?_)
 refine TL.gs ?_
 refine TL.gs ?_
 refine TL.gs ?_
 refine TL.gs ?_
 refine TL.gs ?_
 refine TL.gs ?_
 refine TL.gd Pu.kt ?_
 refine TL.p Pu.kt ?_
 refine TL.nil ?_
 exact TQ.sub (by repeat (first | exact trivial | refine ⟨rfl, ?_⟩ | refine ⟨trivial, ?_⟩ | refine ⟨(by show some (Value.bool _) = some (Value.bool _); first | (simp [hg1, hg2]; done) | (refine congrArg (fun z => some (Value.bool z)) (Bool.eq_iff_iff.2 ?_); simp [hg1, hg2]; omega)), ?_⟩)) ks9 hJ1
 refine TL.gd Pu.mv ?_
 refine TL.gd (by first | exact Pu.fb ty_fa36_1 | exact Pu.fe ty_fa36_1) ?_
 refine TL.gd (Pu.ld ty_sc3) ?_
 refine TL.gd Pu.ad ?_
 refine TL.gd Pu.mv ?_
 refine TL.gd Pu.lt ?_
 refine TL.gd Pu.kf ?_
 refine TL.p Pu.kt ?_
 refine TL.nil ?_
 exact TQ.sub (by repeat (first | exact trivial | refine ⟨rfl, ?_⟩ | refine ⟨trivial, ?_⟩ | refine ⟨(by show some (Value.bool _) = some (Value.bool _); first | (simp [hg1, hg2]; done) | (refine congrArg (fun z => some (Value.bool z)) (Bool.eq_iff_iff.2 ?_); simp [hg1, hg2]; omega)), ?_⟩)) ks9 hJ1
 refine TL.gs ?_
 refine TL.gs ?_
 refine TL.gs ?_
 refine TL.gs ?_
 refine TL.gs ?_
 refine TL.gs ?_
 refine TL.gs ?_
 refine TL.gs ?_
 refine TL.gs ?_
 refine TL.gs ?_
 refine TL.p Pu.kf ?_
 refine TL.nil ?_
 exact TQ.sub (by repeat (first | exact trivial | refine ⟨rfl, ?_⟩ | refine ⟨trivial, ?_⟩ | refine ⟨(by show some (Value.bool _) = some (Value.bool _); first | (simp [hg1]; done) | (refine congrArg (fun z => some (Value.bool z)) (Bool.eq_iff_iff.2 ?_); simp [hg1]; omega)), ?_⟩)) ks9 hJ1
 try simp only [zcb9] at hc3
 obtain rfl : k = (wsL Y to un).length := by omega
 refine TW.exit ?_
 refine TQ.thenX ?_
 refine TQ.thenX ?_
 refine TQ.blkX ?_
 refine TQ.thenN (hY14 _ _ ?_)
 refine TW.seq fun Y26 hY26 => ?_
 refine TW.seq fun Y27 hY27 => TW.region ?_
 refine TL.p Pu.mv ?_
 refine TL.p Pu.no ?_
 refine TL.nil (TQ.thenN (hY27 _ _ ?_))
 refine TW.cond rfl (fun hc6 => ?_) (fun hc6 => ?_)
 try simp only [zcb9] at hc6
 have hfd : s.2.2.2 = false := by simpa using hc6
 refine TW.seq fun Y28 hY28 => TW.region ?_
 refine TL.p Pu.as ?_
 refine TL.p Pu.as ?_
 refine TL.p Pu.as ?_
 refine TL.p Pu.as ?_
 refine TL.nil (TQ.thenN (hY28 _ _ ?_))
 refine TW.ret ?_
 refine TQ.thenR ?_
 refine TQ.ret Tryz.results9 rfl ((.tmp rfl (.tmp rfl (.tmp rfl (.tmp rfl .nil))))) ?_
 exact fun w hw => chp_bad hw (by rw [hcc.out, show chpS Y Z T E to un = s from hs.out.symm, hfd]; rfl) (by decide)
 try simp only [zcb9] at hc6
 have hfd : s.2.2.2 = true := by simpa using hc6
 obtain ⟨e1, e2, e3⟩ := hsl.out hfd
 have hS : chpS Y Z T E to un = s := hs.out.symm
 have hlt : s.1 < (wsL Y to un).length := by have h9 := chpK_at (Y := Y) (Z := Z) (T := T) (E := E) (L := wsL Y to un) _ (by rw [← hs.out]; exact hfd); rw [← hs.out] at h9; exact h9
 have hC0 : chpC Y Z T E to un = 0 := by rw [hcc.out, hS, if_pos hfd]
 have hL0 : chpL Y Z T E to un = (wsL Y to un).getD s.1 [] := by unfold chpL; rw [if_pos hC0, hS]
 have hG0 : chpG Y Z T E to un = s.2.1 := by unfold chpG; rw [if_pos hC0, hS]
 have hN0 : chpN Y Z T E to un = s.2.2.1 := by unfold chpN; rw [if_pos hC0, hS]
 refine TW.skip ?_
 refine TQ.thenN (hY26 _ _ ?_)
 refine TW.seq fun Y29 hY29 => TW.region ?_
 refine TL.p Pu.mv ?_
 refine TL.p Pu.mv ?_
 refine TL.p Pu.mv ?_
 refine TL.p Pu.as ?_
 refine TL.p Pu.as ?_
 refine TL.p Pu.as ?_
 refine TL.p Pu.as ?_
 refine TL.nil (TQ.thenN (hY29 _ _ ?_))
 refine TW.ret ?_
 refine TQ.ret Tryz.results9 rfl ((.tmp rfl (.tmp rfl (.tmp rfl (.tmp rfl .nil))))) ?_
 exact fun w hw => ⟨((z.1, z.2.1), Ag, ag), by unfold chpV; rw [hL0, hG0, hN0, hC0, ← e3]; rfl, by unfold chpF; rw [hL0, hG0, e1, e2]; exact sat_bunM (hw.sub (KSub.cons pk9 (KSub.cons pk9 KSub.nil))) (lks_mem hlt)⟩
end
end Go.Proofs.YtfaenhhgkhcghaaGreatDoor
namespace Go.Proofs.YtfaenhhgkhcghaaGreatDoor
set_option linter.all false
set_option linter.unusedVariables false
set_option linter.unusedSimpArgs false
open Go.RowKit
def exU : Trp := ⟨10, 1000, 1, 1, 0, fun _ => 4, fun _ => 2, fun _ => 0⟩
def exN : Trp := ⟨0, 0, 0, 0, 0, fun _ => 0, fun _ => 0, fun _ => 0⟩
def exYs (s d : Int) : Wy := { exY with start := s, day := d, n := 0 }
def exE0 : Fes := ⟨0, fun _ => 0, fun _ => 0⟩
def exE2 : Fes := ⟨2, fun _ => 0, fun _ => 0⟩
def exZc : Cus := ⟨1, 0, 0, fun _ => (gx [2], false), fun _ _ => 0, fun _ _ => 0⟩
def exZd : Cus := ⟨0, 1, 0, fun _ => (fun _ => 0, false), fun _ _ => 0, fun _ _ => 0⟩
def exZb : Cus := ⟨0, 0, 1, fun _ => (fun _ => 0, false), fun _ _ => 0, fun _ => gx [0, 1]⟩
abbrev exK (Z : Cus) : Int := checkC 3 2 (fun _ _ => 0) exX (fun _ _ => exG) Z.nc Z.nd Z.nb Z.c Z.d Z.b
theorem xHold1 : holdA (exK exZ) 2 0 13 (hb 0 13 exC 3) = 1 ∧ holdE (exK exZ) 2 0 13 = 0 := by decide +kernel
theorem xHold2 : holdA (exK exZ) 2 1 15 (hb 1 15 exC 3) = -1 ∧ holdE (exK exZ) 2 1 15 = 0 := by decide +kernel
theorem xHold3 : holdE (exK exZ) 2 2 0 = 2 := by decide +kernel
theorem xBar1 : barA exY exP exT = (3, 0) ∧ tolC exY exP exT = 0 := by decide +kernel
theorem xBar2 : barA exY exP exU = (0, 0) ∧ tolC exY exP exU = 0 := by decide +kernel
theorem xBar3 : tolC (exYs 0 0) exZ exN = 73 := by decide +kernel
theorem xDue : tolC (exYs 9 0) exZ exT = 2 := by decide +kernel
theorem xHir0 : hirC exY exP exT exE0 = 75 := by decide +kernel
theorem xHir2 : hirC exY exP exT exE2 = 74 := by decide +kernel
theorem xChp : chpL exY exP exT exE 2 20 = [0, 1] ∧ chpG exY exP exT exE 2 20 = [2] ∧ chpN exY exP exT exE 2 20 = 90 ∧ chpC exY exP exT exE 2 20 = 0 := by decide +kernel
theorem xChp0 : chpC exY exP exT exE0 2 20 = 75 := by decide +kernel
theorem xChkC : exK exZc = 70 := by decide +kernel
theorem xChkD : exK exZd = 71 := by decide +kernel
theorem xChkB : exK exZb = 72 := by decide +kernel
theorem xChk0 : checkC 0 0 (fun _ _ => 0) exX (fun _ _ => exG) exZ.nc exZ.nd exZ.nb exZ.c exZ.d exZ.b = 30 := by decide +kernel
section
variable {Y : Wy} {Z : Cus} {T : Trp} {E : Fes} {to un : Int} {a : Nat → Option Addr} {e : Nat → Nat}
theorem chpC_t : chpC (Yt Y a e) Z T E to un = chpC Y Z T E to un := by kernel_rfl
theorem chpL_t : chpL (Yt Y a e) Z T E to un = chpL Y Z T E to un := by kernel_rfl
theorem chpG_t : chpG (Yt Y a e) Z T E to un = chpG Y Z T E to un := by kernel_rfl
theorem chpN_t : chpN (Yt Y a e) Z T E to un = chpN Y Z T E to un := by kernel_rfl
end
end Go.Proofs.YtfaenhhgkhcghaaGreatDoor
namespace Go.Proofs.YtfaenhhgkhcghaaGreatDoor
set_option linter.all false
set_option linter.unusedVariables false
set_option linter.unusedSimpArgs false
open Go.RowKit
section
variable {w : World} {x : Nat × Nat × Nat} {y : Nat × Nat} {b bl bf bu bc : Nat}
theorem exNil {sz : Nat} {r : Nat → List Value} : RdR w sz none 0 r := ⟨Rd.nil, fun i hi => (by exact absurd hi (Nat.not_lt_zero _))⟩
set_option maxRecDepth 100000 in
theorem exHoldG {leg day va ve : Int} (h1 : holdA (exK exZ) 2 leg day (hb leg day exC 3) = va) (h2 : holdE (exK exZ) 2 leg day = ve) (hL : (bun (exLf x)).holds w) (hC : (bun (exCf y)).holds w) : Calls Tryz.prog 14 #[exLa x, exCa y, .int .i64 leg, .int .i64 day] w (Ret w (.tuple #[.int .i64 va, .int .i64 ve])) := by
 have h := tollHolder_tw (x := exY.x) (a := fun _ => some ⟨x.2.2, 0, none⟩) (e := fun _ => 1) (cw := 3) (cl := 2) (cc := 3) (cd := 1) (cb := 0) leg day (exLand_in hL) (exCus_in hC)
 rw [show holdA (checkC exY.nw exY.nl exY.f exY.x exY.g exZ.nc exZ.nd exZ.nb exZ.c exZ.d exZ.b) exY.nl leg day (hb leg day exZ.c exZ.nc) = va from h1, show holdE (checkC exY.nw exY.nl exY.f exY.x exY.g exZ.nc exZ.nd exZ.nb exZ.c exZ.d exZ.b) exY.nl leg day = ve from h2] at h
 exact h
theorem exUrp_in (h : (exTo b).holds w) (hU : RdR w 1 (some ⟨bu, 0, none⟩) 1 (fun _ => [.int .i64 2])) : TrpIn w exU (some ⟨b, 0, none⟩) (some ⟨bu, 0, none⟩) none :=
 ⟨by decide, by decide, by decide, OwnR.rdr h, hU, exNil⟩
theorem exNrp_in : TrpIn w exN none none none := ⟨by decide, by decide, by decide, exNil, exNil, exNil⟩
abbrev exTu (b bu : Nat) : Value := .agg (troopL 10 1000 (some ⟨b, 0, none⟩) 1 1 (some ⟨bu, 0, none⟩) 1 1 none 0 0).toArray
abbrev exTn : Value := .agg (troopL 0 0 none 0 0 none 0 0 none 0 0).toArray
abbrev exSp : Value := .agg #[.int .i64 20000, .int .i64 25000]
set_option maxRecDepth 100000 in
theorem exBar1 {E : TypeId} (hL : (bun (exLf x)).holds w) (hC : (bun (exCf y)).holds w) (hT : (exTo b).holds w) (hl : Blk w bl E #[.int .i64 0, .int .i64 1]) (hG : OldB w 0 barsL) : Calls Tryz.prog 17 #[exLa x, exPa y, exTa b, .int .i64 0, .int .i64 10, exSp, .slice (some ⟨bl, 0, none⟩) 2 2] w (Ret w (.tuple #[.int .u8 3, .int .i64 0, .int .i64 0])) := by
 have h := tollBarred_tw (Y := exY) (Z := exP) (T := exT) (a := fun _ => some ⟨x.2.2, 0, none⟩) (e := fun _ => 1) (cw := 3) (cl := 2) (cn := 2) (cc := 3) (cd := 0) (cb := 0) (co := 1) (cu := 0) (cv := 0) (exLand_in hL) (by decide) (exLegs hl) (exPea_in hC) (exTrp_in hT) hG
 rw [xBar1.1, xBar1.2] at h
 exact h
set_option maxRecDepth 100000 in
theorem exBar2 {E : TypeId} (hL : (bun (exLf x)).holds w) (hC : (bun (exCf y)).holds w) (hT : (exTo b).holds w) (hU : RdR w 1 (some ⟨bu, 0, none⟩) 1 (fun _ => [.int .i64 2])) (hl : Blk w bl E #[.int .i64 0, .int .i64 1]) (hG : OldB w 0 barsL) : Calls Tryz.prog 17 #[exLa x, exPa y, exTu b bu, .int .i64 0, .int .i64 10, exSp, .slice (some ⟨bl, 0, none⟩) 2 2] w (Ret w (.tuple #[.int .u8 0, .int .i64 0, .int .i64 0])) := by
 have h := tollBarred_tw (Y := exY) (Z := exP) (T := exU) (a := fun _ => some ⟨x.2.2, 0, none⟩) (e := fun _ => 1) (cw := 3) (cl := 2) (cn := 2) (cc := 3) (cd := 0) (cb := 0) (co := 1) (cu := 1) (cv := 0) (exLand_in hL) (by decide) (exLegs hl) (exPea_in hC) (exUrp_in hT hU) hG
 rw [xBar2.1, xBar2.2] at h
 exact h
set_option maxRecDepth 100000 in
theorem exBar3 (hL : (bun (exLf x)).holds w) (hC : (bun (exCf y)).holds w) (hG : OldB w 0 barsL) : Calls Tryz.prog 17 #[exLa x, exCa y, exTn, .int .i64 0, .int .i64 0, exSp, .slice none 0 0] w (Ret w (.tuple #[.int .u8 0, .int .i64 0, .int .i64 73])) := by
 have h := tollBarred_tw (Y := exYs 0 0) (Z := exZ) (T := exN) (L := none) (a := fun _ => some ⟨x.2.2, 0, none⟩) (e := fun _ => 1) (cw := 3) (cl := 2) (cn := 0) (cc := 3) (cd := 1) (cb := 0) (co := 0) (cu := 0) (cv := 0) (exLand_in hL) (by decide) exNil (exCus_in hC) exNrp_in hG
 have e : barA (exYs 0 0) exZ exN = (0, 0) := if_neg (by rw [xBar3]; decide)
 rw [e, xBar3] at h
 exact h
set_option maxRecDepth 100000 in
theorem exDue2 (hL : (bun (exLf x)).holds w) (hC : (bun (exCf y)).holds w) (hT : (exTo b).holds w) : CallsK Tryz.prog 22 #[exLa x, exCa y, exTa b, .int .i64 9, .int .i64 0, exSp, .slice none 0 0] [] w (Option Addr × Nat) (fun z => .tuple #[.slice z.1 0 z.2, .agg #[.int .i64 0, .int .i64 0], .int .i64 2]) (fun _ => []) := by
 have h := tollDue_tw (Y := exYs 9 0) (Z := exZ) (T := exT) (L := none) (a := fun _ => some ⟨x.2.2, 0, none⟩) (e := fun _ => 1) (cw := 3) (cl := 2) (cn := 0) (cc := 3) (cd := 1) (cb := 0) (co := 1) (cu := 0) (cv := 0) (exLand_in hL) (by decide) exNil (exCus_in hC) (exTrp_in hT)
 have hne : ¬ tolC (exYs 9 0) exZ exT = 0 := by rw [xDue]; decide
 have e1 : dueL (exYs 9 0) exZ exT = [] := if_neg hne
 have e2 : dueLo (exYs 9 0) exZ exT = 0 := if_neg hne
 have e3 : dueHi (exYs 9 0) exZ exT = 0 := if_neg hne
 refine h.to (fun z => ?_) (fun z => KSub.nil)
 unfold dueV
 rw [e1, e2, e3, xDue]
 rfl
set_option maxRecDepth 100000 in
theorem exHir0 {E : TypeId} (hL : (bun (exLf x)).holds w) (hC : (bun (exCf y)).holds w) (hT : (exTo b).holds w) (hl : Blk w bl E #[.int .i64 0, .int .i64 1]) (hG : OldB w 0 barsL) : CallsK Tryz.prog 7 #[exLa x, exPa y, exTa b, .slice none 0 0, .int .i64 0, .int .i64 10, exSp, .slice (some ⟨bl, 0, none⟩) 2 2] [] w (Option Addr × Nat) (fun z => .tuple #[.slice z.1 0 z.2, .int .i64 0, .int .i64 75]) (fun _ => []) := by
 have h := tollHire_tw (Y := exY) (Z := exP) (T := exT) (E := exE0) (G := none) (a := fun _ => some ⟨x.2.2, 0, none⟩) (e := fun _ => 1) (cw := 3) (cl := 2) (cn := 2) (cc := 3) (cd := 0) (cb := 0) (co := 1) (cu := 0) (cv := 0) (cg := 0) (exLand_in hL) (by decide) (exLegs hl) (exPea_in hC) (exTrp_in hT) hG (by decide) exNil
 have hne : ¬ hirC exY exP exT exE0 = 0 := by rw [xHir0]; decide
 have e1 : hirL exY exP exT exE0 = [] := if_neg hne
 have e2 : hirN exY exP exT exE0 = 0 := if_neg hne
 refine h.to (fun z => ?_) (fun z => KSub.nil)
 unfold hirA
 rw [e1, e2, xHir0]
 rfl
set_option maxRecDepth 100000 in
theorem exHir2 {E : TypeId} (hL : (bun (exLf x)).holds w) (hC : (bun (exCf y)).holds w) (hT : (exTo b).holds w) (hl : Blk w bl E #[.int .i64 0, .int .i64 1]) (hf : RdR w 2 (some ⟨bf, 0, none⟩) 2 (fun _ => [.int .i64 0, .int .i64 0])) (hG : OldB w 0 barsL) : CallsK Tryz.prog 7 #[exLa x, exPa y, exTa b, .slice (some ⟨bf, 0, none⟩) 2 2, .int .i64 0, .int .i64 10, exSp, .slice (some ⟨bl, 0, none⟩) 2 2] [] w (Option Addr × Nat) (fun z => .tuple #[.slice z.1 0 z.2, .int .i64 0, .int .i64 74]) (fun _ => []) := by
 have h := tollHire_tw (Y := exY) (Z := exP) (T := exT) (E := exE2) (a := fun _ => some ⟨x.2.2, 0, none⟩) (e := fun _ => 1) (cw := 3) (cl := 2) (cn := 2) (cc := 3) (cd := 0) (cb := 0) (co := 1) (cu := 0) (cv := 0) (cg := 2) (exLand_in hL) (by decide) (exLegs hl) (exPea_in hC) (exTrp_in hT) hG (by decide) hf
 have hne : ¬ hirC exY exP exT exE2 = 0 := by rw [xHir2]; decide
 have e1 : hirL exY exP exT exE2 = [] := if_neg hne
 have e2 : hirN exY exP exT exE2 = 0 := if_neg hne
 refine h.to (fun z => ?_) (fun z => KSub.nil)
 unfold hirA
 rw [e1, e2, xHir2]
 rfl
theorem tollCheapest_tw {Y : Wy} {Z : Cus} {T : Trp} {E : Fes} {to un : Int} {W A C D B O U V G : Option Addr} {cw cl cc cd cb co cu cv cg : Nat} {a : Nat → Option Addr} {e : Nat → Nat} (hL : LandIn w W Y.nw A Y.nl Y.f (fun k => lgA (Y.x k) (a k) (e k)) Y.g) (h : CustIn w C Z.nc D Z.nd B Z.nb Z.c Z.d Z.b) (t : TrpIn w T O U V) (hG : OldB w 0 barsL) (hnf : E.nf ≤ 1000) (hE : RdR w 2 G E.nf (feeL E)) :
   CallsK Tryz.prog 9 #[.agg (landL W Y.nw cw A Y.nl cl).toArray, .agg (custL C Z.nc cc D Z.nd cd B Z.nb cb).toArray, .agg (troopL T.hd T.wo O T.no co U T.nu cu V T.nv cv).toArray, .slice G E.nf cg, .int .i64 Y.start, .int .i64 to, .int .i64 Y.day, .int .i64 un, .agg #[.int .i64 Y.p0, .int .i64 Y.p1]] [] w CX (chpV Y Z T E to un) (chpF Y Z T E to un) :=
 by
 have h9 := tollCheapest_any (Y := Yt Y a e) (Z := Z) (T := T) (E := E) (to := to) (un := un) (cw := cw) (cl := cl) (cc := cc) (cd := cd) (cb := cb) (co := co) (cu := cu) (cv := cv) (cg := cg) hL h t hG hnf hE
 refine h9.to (fun z => ?_) (fun z => ?_)
 · unfold chpV
   rw [chpL_t, chpG_t, chpN_t, chpC_t]
 · unfold chpF
   rw [chpL_t, chpG_t]
   exact KSub.refl _
set_option maxRecDepth 100000 in
theorem exChp {E2 : TypeId} (hL : (bun (exLf x)).holds w) (hC : (bun (exCf y)).holds w) (hT : (exTo b).holds w) (hf : Blk w bf E2 #[.int .i64 1, .int .i64 20, .int .i64 2, .int .i64 30]) (hG : OldB w 0 barsL) : CallsK Tryz.prog 9 #[exLa x, exPa y, exTa b, .slice (some ⟨bf, 0, none⟩) 2 2, .int .i64 0, .int .i64 2, .int .i64 10, .int .i64 20, exSp] [] w CX (fun z => .tuple #[.slice z.1.1 2 z.1.2, .slice z.2.1 1 z.2.2, .int .i64 90, .int .i64 0]) (fun z => [.own z.1.1 2 z.1.2 3 1 (iL [0, 1]), .own z.2.1 1 z.2.2 3 1 (iL [2])]) := by
 have h := tollCheapest_tw (Y := exY) (Z := exP) (T := exT) (E := exE) (to := 2) (un := 20) (a := fun _ => some ⟨x.2.2, 0, none⟩) (e := fun _ => 1) (cw := 3) (cl := 2) (cc := 3) (cd := 0) (cb := 0) (co := 1) (cu := 0) (cv := 0) (cg := 2) (exLand_in hL) (exPea_in hC) (exTrp_in hT) hG (by decide) (RdR.blk (cs := [.int .i64 1, .int .i64 20, .int .i64 2, .int .i64 30]) (n := 2) (sz := 2) hf rfl (fun _ _ => rfl))
 refine h.to (fun z => ?_) (fun z => ?_)
 · unfold chpV
   rw [xChp.1, xChp.2.1, xChp.2.2.1, xChp.2.2.2]
   rfl
 · unfold chpF
   rw [xChp.1, xChp.2.1]
   exact KSub.refl _
set_option maxRecDepth 100000 in
theorem exChp0 (hL : (bun (exLf x)).holds w) (hC : (bun (exCf y)).holds w) (hT : (exTo b).holds w) (hG : OldB w 0 barsL) : CallsK Tryz.prog 9 #[exLa x, exPa y, exTa b, .slice none 0 0, .int .i64 0, .int .i64 2, .int .i64 10, .int .i64 20, exSp] [] w CX (fun z => .tuple #[.slice z.1.1 0 z.1.2, .slice z.2.1 0 z.2.2, .int .i64 0, .int .i64 75]) (fun _ => []) := by
 have h := tollCheapest_tw (Y := exY) (Z := exP) (T := exT) (E := exE0) (to := 2) (un := 20) (G := none) (a := fun _ => some ⟨x.2.2, 0, none⟩) (e := fun _ => 1) (cw := 3) (cl := 2) (cc := 3) (cd := 0) (cb := 0) (co := 1) (cu := 0) (cv := 0) (cg := 0) (exLand_in hL) (exPea_in hC) (exTrp_in hT) hG (by decide) exNil
 have hne : ¬ chpC exY exP exT exE0 2 20 = 0 := by rw [xChp0]; decide
 have e1 : chpL exY exP exT exE0 2 20 = [] := if_neg hne
 have e2 : chpG exY exP exT exE0 2 20 = [] := if_neg hne
 have e3 : chpN exY exP exT exE0 2 20 = 0 := if_neg hne
 refine h.to (fun z => ?_) (fun z => KSub.nil)
 unfold chpV
 rw [e1, e2, e3, xChp0]
 rfl
set_option maxRecDepth 100000 in
theorem exDis2 (hL : (bun (exLf x)).holds w) (hD : RdR w 4 (some ⟨bc, 0, none⟩) 1 (fun _ => [.int .i64 0, .int .i64 0, .int .i64 0, .int .i64 0])) : CallsK Tryz.prog 21 #[exLa x, .agg #[.slice none 0 0, .slice (some ⟨bc, 0, none⟩) 1 1, .slice none 0 0]] [] w (Option Addr × Nat) (fun z => .tuple #[.slice z.1 0 z.2, .int .i64 71]) (fun _ => []) := by
 have h := tollDisputes_tw (x := exY.x) (C := none) (B := none) (cc := 0) (cd := 1) (cb := 0) (nc := exZd.nc) (nd := exZd.nd) (nb := exZd.nb) (c := exZd.c) (d := exZd.d) (b := exZd.b) (a := fun _ => some ⟨x.2.2, 0, none⟩) (e := fun _ => 1) (cw := 3) (cl := 2) (exLand_in hL) ⟨by decide, by decide, by decide, exNil, hD, exNil⟩ (by decide)
 have e2 : checkC exY.nw exY.nl exY.f exY.x exY.g exZd.nc exZd.nd exZd.nb exZd.c exZd.d exZd.b = 71 := xChkD
 have e1 : disL (checkC exY.nw exY.nl exY.f exY.x exY.g exZd.nc exZd.nd exZd.nb exZd.c exZd.d exZd.b) exZd.nc exZd.c = [] := if_neg (by rw [e2]; decide)
 refine h.to (fun z => ?_) (fun z => KSub.nil)
 rw [e1, e2]
 rfl
set_option maxRecDepth 100000 in
theorem exChkC (hL : (bun (exLf x)).holds w) (hc : RdR w 7 (some ⟨bc, 0, none⟩) 1 (fun k => claimL (exZc.c k))) : Calls Tryz.prog 23 #[exLa x, .agg #[.slice (some ⟨bc, 0, none⟩) 1 1, .slice none 0 0, .slice none 0 0]] w (Ret w (.int .i64 70)) := by
 have h := tollCheck_any (cw := 3) (cl := 2) (cc := 1) (cd := 0) (cb := 0) (D := none) (B := none) (exLand_in hL) (show CustIn w (some ⟨bc, 0, none⟩) exZc.nc none exZc.nd none exZc.nb exZc.c exZc.d exZc.b from ⟨by decide, by decide, by decide, hc, exNil, exNil⟩)
 rw [show checkC exY.nw exY.nl exY.f (fun k => lgA (exY.x k) (some ⟨x.2.2, 0, none⟩) 1) exY.g exZc.nc exZc.nd exZc.nb exZc.c exZc.d exZc.b = 70 from xChkC] at h
 exact h
set_option maxRecDepth 100000 in
theorem exChkB (hL : (bun (exLf x)).holds w) (hc : RdR w 3 (some ⟨bc, 0, none⟩) 1 (fun k => borderL (exZb.b k))) : Calls Tryz.prog 23 #[exLa x, .agg #[.slice none 0 0, .slice none 0 0, .slice (some ⟨bc, 0, none⟩) 1 1]] w (Ret w (.int .i64 72)) := by
 have h := tollCheck_any (cw := 3) (cl := 2) (cc := 0) (cd := 0) (cb := 1) (C := none) (D := none) (exLand_in hL) (show CustIn w none exZb.nc none exZb.nd (some ⟨bc, 0, none⟩) exZb.nb exZb.c exZb.d exZb.b from ⟨by decide, by decide, by decide, exNil, exNil, hc⟩)
 rw [show checkC exY.nw exY.nl exY.f (fun k => lgA (exY.x k) (some ⟨x.2.2, 0, none⟩) 1) exY.g exZb.nc exZb.nd exZb.nb exZb.c exZb.d exZb.b = 72 from xChkB] at h
 exact h
set_option maxRecDepth 100000 in
theorem exChk0 (hC : (bun (exCf y)).holds w) : Calls Tryz.prog 23 #[.agg #[.slice none 0 0, .slice none 0 0], exCa y] w (Ret w (.int .i64 30)) := by
 have h := tollCheck_any (cw := 0) (cl := 0) (cc := 3) (cd := 1) (cb := 0) (show LandIn w none 0 none 0 (fun _ _ => 0) exX (fun _ _ => exG) from ⟨by decide, by decide, exNil, exNil, fun k hk => absurd hk (Nat.not_lt_zero _), fun k hk => absurd hk (Nat.not_lt_zero _)⟩) (exCus_in hC)
 rw [xChk0] at h
 exact h
end
end Go.Proofs.YtfaenhhgkhcghaaGreatDoor
