/-
  Part 10 of the proof of tollHires_holds: declarations of several texts, in build order. No condition on a program.
-/
import Derived.Test.YtfaenhhgkhcghaaGreatDoorHs09
import Derived.Test.YtfaenhhgkhcghaaGreatDoorHs03
import Derived.Test.YtfaenhhgkhcghaaGreatDoorHs04
import Derived.Test.YtfaenhhgkhcghaaGreatDoorHs07
namespace Go.Proofs.YtfaenhhgkhcghaaGreatDoor
set_option linter.all false
set_option linter.unusedVariables false
set_option linter.unusedSimpArgs false
open Go.RowKit
theorem sortT_any {w : World} {A : Option Addr} {n cp : Nat} {L : List Int} (hn : n = L.length) (h1 : n ≤ 1000000) (h : OwnR w A n cp 3 1 (iL L)) :
   CallsK Tryz.prog 148 #[.slice A n cp] [.own A n cp 3 1 (iL L)] w Unit (fun _ => .tuple #[]) (fun _ => [.own A n cp 3 1 (iL (srt L))]) := by
 subst hn
 rcases h.own.2 with ⟨e, h0⟩ | ⟨g, cap, cur, e, hg, hh, hnc, hcm, hcs, ht⟩
 · have hL : L = [] := List.length_eq_zero_iff.1 h0
   subst hL
   refine (Tryz.slices_Sort_int_none A cp w).mono ?_
   rintro e' w' ⟨rfl, rfl⟩
   refine ⟨(), rfl, ?_⟩
   rw [srt_nil]
   exact Sat.own1 h
 · simp only [Value.slice.injEq] at e
   obtain ⟨rfl, _, rfl⟩ := e
   have hlt := lt_of_get hh
   have hH : Sort.Holds (Value.int .i64) w g 0 L.toArray := fun j hj => by
    have hj' : j < L.length := by simpa using hj
    have hrd := h.own.form1 (by omega)
    obtain ⟨g', c', e, _, _, _, hcell, hfr⟩ := hrd
    cases e
    refine ⟨?_, hfr _⟩
    have := hcell j 0 hj' (by omega)
    rw [Nat.mul_one, Nat.add_zero] at this
    rw [Nat.zero_add, this]
    simp [rowF, iL, List.getD_eq_getElem?_getD, hj']
   refine (Tryz.slices_Sort_int g 0 cp L w hH hlt (by omega)).mono ?_
   rintro e' w' ⟨rfl, n, os, rfl⟩
   rw [ms_srt]
   exact ⟨(), rfl, own_putRow os n (srt_len L) h⟩
theorem growI_any (k : Nat) (w : World) (hk : k ≤ 1000000000) (r : Nat → List Value) :
  CallsK Tryz.prog 105 #[.slice none 0 0, .int .i64 k] [] w (Option Addr × Nat) (fun x => .slice x.1 0 x.2) (fun x => [.own x.1 0 x.2 3 1 r]) := by
 refine K_enter (S := []) (K := []) Tryz.func105 rfl Tryz.ntmps105 rfl (Sat.start _) ?_
 refine TW.seq fun Y1 hY1 => TW.region ?_
 refine TL.p Pu.as ?_
 refine TL.nil (TQ.thenN (hY1 _ _ ?_))
 refine TW.seq fun Y2 hY2 => ?_
 refine TW.seq fun Y3 hY3 => TW.region ?_
 refine TL.p Pu.mv ?_
 refine TL.p Pu.lt ?_
 refine TL.nil (TQ.thenN (hY3 _ _ ?_))
 refine TW.condF rfl ((by first | (simp; done) | (simp; omega))) ?_
 refine TW.skip ?_
 refine TQ.thenN (hY2 _ _ ?_)
 refine TW.seq fun Y4 hY4 => ?_
 refine TW.seq fun Y5 hY5 => TW.region ?_
 refine TL.p Pu.mv ?_
 refine TL.p Pu.mv ?_
 refine TL.p (Pu.cp Tryz.underlying31) ?_
 refine TL.p Pu.mv ?_
 refine TL.p (Pu.ln Tryz.underlying31) ?_
 refine TL.p Pu.sb ?_
 refine TL.p Pu.sb ?_
 refine TL.p Pu.as ?_
 refine TL.nil (TQ.thenN (hY5 _ _ ?_))
 refine TW.seq fun Y6 hY6 => TW.region ?_
 refine TL.p Pu.mv ?_
 refine TL.p Pu.gt ?_
 refine TL.nil (TQ.thenN (hY6 _ _ ?_))
 refine TW.cond rfl (fun hc1 => ?_) (fun hc1 => ?_)
 try simp only [zcb9] at hc1
 refine TW.region ?_
 refine TL.p Pu.mv ?_
 refine TL.p Pu.mv ?_
 refine TL.p (Pu.cp Tryz.underlying31) ?_
 refine TL.p (Pu.sh ty_et31) ?_
 refine TL.p Pu.mv ?_
 refine TL.az (r := r) ty_et31 Tryz.underlying3 ?_
 intro g1 c1 hc1 hm1
 refine TL.p Pu.mv ?_
 refine TL.p (Pu.ln Tryz.underlying31) ?_
 refine TL.p (Pu.sh ty_et31) ?_
 refine TL.p Pu.as ?_
 refine TL.nil (TQ.thenN (hY4 _ _ ?_))
 refine TW.seq fun Y7 hY7 => TW.region ?_
 refine TL.p Pu.mv ?_
 refine TL.p Pu.as ?_
 refine TL.nil (TQ.thenN (hY7 _ _ ?_))
 refine TW.ret ?_
 refine TQ.ret Tryz.results105 rfl ((.tmp rfl .nil)) ?_
 exact fun w hw => ⟨(some ⟨g1, 0, none⟩, c1), rfl, hw⟩
 try simp only [zcb9] at hc1
 refine TW.skip ?_
 refine TQ.thenN (hY4 _ _ ?_)
 refine TW.seq fun Y8 hY8 => TW.region ?_
 refine TL.p Pu.mv ?_
 refine TL.p Pu.as ?_
 refine TL.nil (TQ.thenN (hY8 _ _ ?_))
 refine TW.ret ?_
 refine TQ.ret Tryz.results105 rfl ((.tmp rfl .nil)) ?_
 exact fun w hw => ⟨(none, 0), rfl, hw.sub (KSub.nilOwn KSub.nil)⟩
def totT (l : Nat → Nat) : Nat → Nat
 | 0 => 0
 | q + 1 => totT l q + l q
def catT (l : Nat → Nat) (s : Nat → Nat → List Value) : Nat → Nat → List Value
 | 0 => fun _ => []
 | q + 1 => catR (totT l q) (catT l s q) (s q)
theorem totT_mono {l : Nat → Nat} {p q : Nat} (h : p ≤ q) : totT l p ≤ totT l q := by
  induction q with
  | zero => have : p = 0 := by omega
            subst this; exact Nat.le_refl _
  | succ q ih =>
    by_cases hp : p = q + 1
    · subst hp; exact Nat.le_refl _
    · have := ih (by omega); simp only [totT]; omega
theorem concatI_any {A : Option Addr} {m cp : Nat} {a : Nat → Option Addr} {l c : Nat → Nat} {v : Nat → Nat → Int} {w : World} (hm : m ≤ 1000000000) (ht : totT l m ≤ 1000000000)
  (hR : RdR w 1 A m (fun i => [.slice (a i) (l i) (c i)])) (hI : ∀ i, i < m → RdR w 1 (a i) (l i) (fun k => [.int .i64 (v i k)])) :
  CallsK Tryz.prog 59 #[.slice A m cp] [] w (Option Addr × Nat) (fun x => .slice x.1 (totT l m) x.2) (fun x => [.own x.1 (totT l m) x.2 3 1 (catT l (fun i k => [.int .i64 (v i k)]) m)]) := by
 refine K_enter (S := []) (K := []) Tryz.func59 rfl Tryz.ntmps59 rfl (Sat.start _) ?_
 refine TW.seq fun Y1 hY1 => TW.region ?_
 refine TL.p Pu.as ?_
 refine TL.nil (TQ.thenN (hY1 _ _ ?_))
 refine TW.seq fun Y2 hY2 => TW.region ?_
 refine TL.p Pu.as ?_
 refine TL.nil (TQ.thenN (hY2 _ _ ?_))
 refine TW.seq fun Y3 hY3 => ?_
 refine TW.seq fun Y4 hY4 => TW.region ?_
 refine TL.p Pu.mv ?_
 refine TL.p (Pu.ln Tryz.underlying87) ?_
 refine TL.p Pu.mv ?_
 refine TL.nil (TQ.thenN (hY4 _ _ ?_))
 refine TW.block ?_
 refine TW.loop2 (fun (q : Nat) (z : Int) => [(11, .int .i64 (q : Int)), (10, .int .i64 (m : Int)), (9, .slice A m cp), (0, .slice A m cp), (3, .int .i64 z)]) (fun q z => []) (fun q z => q ≤ m ∧ z = (totT l q : Int)) (fun q z => m - q) 0 _ fs9 ?_ ?_ ?_
 exact ks9
 exact ⟨by omega, rfl⟩
 rintro q z ⟨hq, hz⟩ Z0 hZ0
 refine TW.seq fun Y5 hY5 => TW.region ?_
 refine TL.p Pu.lt ?_
 refine TL.nil (TQ.thenN (hY5 _ _ ?_))
 refine TW.seq fun Y6 hY6 => ?_
 refine TW.cond rfl (fun hc0 => ?_) (fun hc0 => ?_)
 try simp only [zcb9] at hc0
 have hqm : q < m := by omega
 have h1 := totT_mono (l := l) (show q + 1 ≤ m by omega)
 simp only [totT] at h1
 refine TW.skip ?_
 refine TQ.thenN (hY6 _ _ ?_)
 refine TW.seq fun Y7 hY7 => ?_
 refine TW.block ?_
 refine TW.seq fun Y8 hY8 => TW.region ?_
 refine TL.p (Pu.el ty_et87) ?_
 refine TL.p (Pu.ld ty_sc31) ?_
 refine TL.p Pu.as ?_
 refine TL.nil (TQ.thenN (hY8 _ _ ?_))
 refine TW.seq fun Y9 hY9 => TW.region ?_
 refine TL.p Pu.mv ?_
 refine TL.p Pu.mv ?_
 refine TL.p (Pu.ln Tryz.underlying31) ?_
 refine TL.p Pu.ad ?_
 refine TL.p Pu.as ?_
 refine TL.nil (TQ.thenN (hY9 _ _ ?_))
 refine TW.seq fun Y10 hY10 => TW.region ?_
 refine TL.p Pu.mv ?_
 refine TL.p Pu.lt ?_
 refine TL.nil (TQ.thenN (hY10 _ _ ?_))
 refine TW.condF rfl ((by first | (simp; done) | (simp; omega))) ?_
 refine TW.skip ?_
 refine TQ.blkN ?_
 refine TQ.thenN (hY7 _ _ ?_)
 refine TW.region ?_
 refine TL.p Pu.ad ?_
 refine TL.p Pu.mv ?_
 refine TL.nil ?_
 refine TQ.thenN (hZ0 (q + 1) _ _ _ ?_ ?_ fs9 ?_)
 exact ⟨by omega, by simp only [totT]; omega⟩
 exact zom9
 exact ks9
 try simp only [zcb9] at hc0
 refine TW.exit ?_
 refine TQ.thenX ?_
 refine TQ.thenX ?_
 refine TQ.blkX ?_
 refine TQ.thenN (hY3 _ _ ?_)
 refine TW.seq fun Y11 hY11 => TW.region ?_
 refine TL.p Pu.mv ?_
 refine TL.call (M := []) rfl (enters Tryz.func105 rfl rfl) (List.Perm.refl _) rfl (fun w hw => by
   obtain rfl : q = m := by omega
   subst hz
   exact growI_any _ w ht (fun _ => [])) ?_
 rintro ⟨A0, c0⟩
 refine TL.p Pu.as ?_
 refine TL.nil (TQ.thenN (hY11 _ _ ?_))
 refine TW.seq fun Y12 hY12 => ?_
 refine TW.seq fun Y13 hY13 => TW.region ?_
 refine TL.p Pu.mv ?_
 refine TL.p (Pu.ln Tryz.underlying87) ?_
 refine TL.p Pu.mv ?_
 refine TL.nil (TQ.thenN (hY13 _ _ ?_))
 refine TW.block ?_
 refine TW.loop3 (fun (q : Nat) (A1 : Option Addr) (c1 : Nat) => [(27, .int .i64 (q : Int)), (26, .int .i64 (m : Int)), (25, .slice A m cp), (6, .slice A1 (totT l q) c1)]) (fun q A1 c1 => [.own A1 (totT l q) c1 3 1 (catT l (fun i k => [.int .i64 (v i k)]) q)]) (fun q A1 c1 => q ≤ m) (fun q A1 c1 => m - q) 0 _ _ fs9 ?_ ?_ ?_
 exact ks9
 exact Nat.zero_le _
 rintro q A1 c1 hq Z1 hZ1
 refine TW.seq fun Y14 hY14 => TW.region ?_
 refine TL.p Pu.lt ?_
 refine TL.nil (TQ.thenN (hY14 _ _ ?_))
 refine TW.seq fun Y15 hY15 => ?_
 refine TW.cond rfl (fun hc2 => ?_) (fun hc2 => ?_)
 try simp only [zcb9] at hc2
 have hqm : q < m := by omega
 have h1 := totT_mono (l := l) (show q + 1 ≤ m by omega)
 simp only [totT] at h1
 have hIq := hI q hqm
 refine TW.skip ?_
 refine TQ.thenN (hY15 _ _ ?_)
 refine TW.seq fun Y16 hY16 => ?_
 refine TW.block ?_
 refine TW.seq fun Y17 hY17 => TW.region ?_
 refine TL.p (Pu.el ty_et87) ?_
 refine TL.p (Pu.ld ty_sc31) ?_
 refine TL.p Pu.as ?_
 refine TL.nil (TQ.thenN (hY17 _ _ ?_))
 refine TW.region ?_
 refine TL.p Pu.mv ?_
 refine TL.p Pu.mv ?_
 first | refine TL.a0 ty_et31 ?_ | refine TL.ap ty_et31 ?_
 intro A1 c1
 refine TL.p Pu.as ?_
 refine TL.nil ?_
 refine TQ.blkN ?_
 refine TQ.thenN (hY16 _ _ ?_)
 refine TW.region ?_
 refine TL.p Pu.ad ?_
 refine TL.p Pu.mv ?_
 refine TL.nil ?_
 refine TQ.thenN (hZ1 (q + 1) _ _ _ _ ?_ ?_ fs9 ?_)
 exact (by omega)
 exact zom9
 exact ks9
 try simp only [zcb9] at hc2
 obtain rfl : q = m := by omega
 refine TW.exit ?_
 refine TQ.thenX ?_
 refine TQ.thenX ?_
 refine TQ.blkX ?_
 refine TQ.thenN (hY12 _ _ ?_)
 refine TW.seq fun Y18 hY18 => TW.region ?_
 refine TL.p Pu.mv ?_
 refine TL.p Pu.as ?_
 refine TL.nil (TQ.thenN (hY18 _ _ ?_))
 refine TW.ret ?_
 refine TQ.ret Tryz.results59 rfl ((.tmp rfl .nil)) ?_
 exact fun w hw => ⟨(A1, c1), rfl, hw⟩
section
variable {c : Cx} {Q : Exit → Act → World → Prop} {F : Fr} {K K' : List Fact} {ops : Array Oper} {rest : List Oper} {d : Option Tmp} {ty : TypeId} {pos : String} {af : Array Edge} {g : Option (Nat × Bool)}
theorem TL.gcm {f : FuncId} {xs : List Operand} {ts : Array TypeId} {us : List Value} {M : List Fact} {X : Type} {val : X → Value} {L : X → List Fact} (hx : evs F xs = some us) (hen : Enters c.P f) (hM : K.Perm (M ++ K'))
  (hc : ∀ w, Sat c.S c.w0 K w → CallsK c.P f us.toArray M w X val L) (h : ∀ x, TL c ops Q rest (fput F d (val x)) (L x ++ K')) (hg : gdB F ops g = some true := by rfl) (hd : dok d c.n = true := by rfl) :
  TL c ops Q (⟨d, .call { callee := .value (.func f), args := xs.toArray, argTypes := ts }, ty, pos, af, g⟩ :: rest) F K := fun a w hF hK => by
 unfold wpList
 rw [if_pos (hF.wanted hg)]
 refine .inl ?_
 have hr : (execOp a.eval ⟨d, .call { callee := .value (.func f), args := xs.toArray, argTypes := ts }, ty, pos, af, g⟩).run c.P w = .ok (.enter f us.toArray) w := by
  have := hF.evsl hx
  have h9 := hen us.toArray w
  simp [execOp, resolve, invoke, Deferred.ofValue, Act.eval, this, h9]
 unfold Oper.wp
 rw [hr]
 refine Calls.mono (hc w hK) ?_
 rintro e w' ⟨x, rfl, hs⟩
 exact h x _ _ (hF.fput hd _) ((hK.perm hM).step hs)
end
set_option maxRecDepth 100000 in
theorem cloneI_any {A : Option Addr} {n cp : Nat} {v : Nat → Int} {w : World} (hn : n ≤ 1000000000) (hR : RdR w 1 A n (fun k => [.int .i64 (v k)])) :
  CallsK Tryz.prog 71 #[.slice A n cp] [] w (Option Addr × Nat) (fun x => .slice x.1 n x.2) (fun x => [.own x.1 n x.2 3 1 (iL (toI v n))]) := by
 cases A with
 | none =>
  have h0 : n = 0 := by
   rcases Nat.eq_zero_or_pos n with h | h
   exact h
   obtain ⟨b, o, e, _⟩ := hR.rd h
   cases e
  subst h0
  refine K_enter (S := []) (K := []) Tryz.func71 rfl Tryz.ntmps71 rfl (Sat.start _) ?_
  refine TW.seq fun Y1 hY1 => TW.region ?_
  refine TL.p Pu.as ?_
  refine TL.nil (TQ.thenN (hY1 _ _ ?_))
  refine TW.seq fun Y2 hY2 => ?_
  refine TW.seq fun Y3 hY3 => TW.region ?_
  refine TL.p Pu.mv ?_
  refine TL.p Pu.bn ?_
  refine TL.nil (TQ.thenN (hY3 _ _ ?_))
  refine TW.condT rfl (rfl) ?_
  refine TW.seq fun Y4 hY4 => TW.region ?_
  refine TL.p Pu.as ?_
  refine TL.nil (TQ.thenN (hY4 _ _ ?_))
  refine TW.ret ?_
  refine TQ.thenR ?_
  refine TQ.ret Tryz.results71 rfl ((.tmp rfl .nil)) ?_
  exact fun w hw => ⟨(none, 0), rfl, hw.sub (KSub.nilOwn KSub.nil)⟩
 | some p =>
  refine K_enter (S := []) (K := []) Tryz.func71 rfl Tryz.ntmps71 rfl (Sat.start _) ?_
  refine TW.seq fun Y1 hY1 => TW.region ?_
  refine TL.p Pu.as ?_
  refine TL.nil (TQ.thenN (hY1 _ _ ?_))
  refine TW.seq fun Y2 hY2 => ?_
  refine TW.seq fun Y3 hY3 => TW.region ?_
  refine TL.p Pu.mv ?_
  refine TL.p Pu.bn ?_
  refine TL.nil (TQ.thenN (hY3 _ _ ?_))
  refine TW.condF rfl (rfl) ?_
  refine TW.skip ?_
  refine TQ.thenN (hY2 _ _ ?_)
  refine TW.seq fun Y4 hY4 => TW.region ?_
  refine TL.m Mk.bl ?_
  intro b1
  refine TL.p Pu.mv ?_
  refine TL.subK (KSub.ofBlk (n := 0) (sz := 1) (r := fun _ => []) Pick.hd rfl (fun _ h => by omega) rfl rfl KSub.nil) ?_
  first | refine TL.a0 ty_et31 ?_ | refine TL.ap ty_et31 ?_
  intro A2 c2
  refine TL.p Pu.as ?_
  refine TL.nil (TQ.thenN (hY4 _ _ ?_))
  refine TW.ret ?_
  refine TQ.ret Tryz.results71 rfl ((.tmp rfl .nil)) ?_
  exact fun w hw => ⟨(A2, c2), rfl, hw.sub (KSub.own Pick.hd (fun i hi => by simp only [iL, toI_get hi]) KSub.nil)⟩
theorem lessI_any (a b : Int) (w : World) : Calls Tryz.prog 152 #[.int .i64 a, .int .i64 b] w (Ret w (.bool (decide (a < b)))) := by
 refine K_enter (S := []) (K := []) Tryz.func152 rfl Tryz.ntmps152 rfl (Sat.start _) ?_
 refine TW.seq fun Y1 hY1 => TW.region ?_
 refine TL.p Pu.as ?_
 refine TL.nil (TQ.thenN (hY1 _ _ ?_))
 refine TW.seq fun Y2 hY2 => ?_
 refine TW.join [(4, .bool (decide (a < b)))] ?_ (fun hJ1 => ?_)
 refine TQ.thenN (hY2 _ _ ?_)
 refine TW.ret ?_
 refine TQ.ret Tryz.results152 rfl ((.tmp rfl .nil)) ?_
 exact fun w hw => Ret.of hw
 refine TW.region ?_
 refine TL.p Pu.mv ?_
 refine TL.cr rfl (enters Tryz.func128 rfl rfl) (fun w hw => by
  exact isNaN_any _ _) ?_
 refine TL.p Pu.mv ?_
 refine TL.gs ?_
 refine TL.gs ?_
 refine TL.gs ?_
 refine TL.p Pu.kf ?_
 refine TL.p Pu.mv ?_
 refine TL.gd Pu.mv ?_
 refine TL.gd Pu.mv ?_
 refine TL.gd Pu.lt ?_
 refine TL.p Pu.kf ?_
 refine TL.p Pu.as ?_
 refine TL.nil ?_
 exact TQ.sub (by repeat (first | exact trivial | refine ⟨rfl, ?_⟩ | refine ⟨trivial, ?_⟩ | refine ⟨(by show some (Value.bool _) = some (Value.bool _); first | (simp []; done) | (refine congrArg (fun z => some (Value.bool z)) (Bool.eq_iff_iff.2 ?_); simp []; omega)), ?_⟩)) ks9 hJ1
set_option maxRecDepth 100000 in
theorem isSorted_any {A : Option Addr} {n cp : Nat} {v : Nat → Int} {w : World} (hn : n ≤ 1000000) (hR : RdR w 1 A n (fun k => [.int .i64 (v k)])) :
  Calls Tryz.prog 138 #[.slice A n cp] w (Ret w (.bool (sortB v n))) := by
 refine K_enter (S := []) (K := []) Tryz.func138 rfl Tryz.ntmps138 rfl (Sat.start _) ?_
 refine TW.seq fun Y1 hY1 => TW.region ?_
 refine TL.p Pu.as ?_
 refine TL.nil (TQ.thenN (hY1 _ _ ?_))
 refine TW.seq fun Y2 hY2 => ?_
 refine TW.seq fun Y3 hY3 => TW.region ?_
 refine TL.p Pu.mv ?_
 refine TL.p (Pu.ln Tryz.underlying31) ?_
 refine TL.p Pu.sb ?_
 refine TL.p Pu.as ?_
 refine TL.nil (TQ.thenN (hY3 _ _ ?_))
 refine TW.block ?_
 refine TW.loop1 (fun (k : Nat) => [(3, .int .i64 ((k : Int) - 1)), (0, .slice A n cp)]) (fun k => []) (fun k => k ≤ n ∧ ∀ j, k ≤ j → j < n → ¬ v j < v (j - 1)) (fun k => k) n fs9 ?_ ?_ ?_
 exact ks9
 exact ⟨Nat.le_refl _, fun j h1 h2 => by omega⟩
 rintro k ⟨hk, hall⟩ Z0 hZ0
 refine TW.seq fun Y4 hY4 => ?_
 refine TW.seq fun Y5 hY5 => TW.region ?_
 refine TL.p Pu.mv ?_
 refine TL.p Pu.gt ?_
 refine TL.nil (TQ.thenN (hY5 _ _ ?_))
 refine TW.cond rfl (fun hc0 => ?_) (fun hc0 => ?_)
 try simp only [zcb9] at hc0
 have hk2 : 2 ≤ k := by omega
 refine TW.skip ?_
 refine TQ.thenN (hY4 _ _ ?_)
 refine TW.seq fun Y6 hY6 => ?_
 refine TW.block ?_
 refine TW.seq fun Y7 hY7 => ?_
 refine TW.dw 10 ?_
 refine RK.tk Pu.mv ?_
 refine RK.tk Pu.mv ?_
 refine RK.tk (Pu.el (q := k - 1) ty_et31 (hk := by omega)) ?_
 refine RK.tk (Pu.ld ty_sc3) ?_
 refine RK.tk Pu.mv ?_
 refine RK.tk Pu.mv ?_
 refine RK.tk Pu.sb ?_
 refine RK.tk (Pu.el (q := k - 1 - 1) ty_et31 (hk := by omega)) ?_
 refine RK.tk (Pu.ld ty_sc3) ?_
 refine RK.keep ?_
 refine RK.ch [false] ?_ trivial
 refine WK.cr rfl (enters Tryz.func152 rfl rfl) (fun w hw => by
   exact lessI_any _ _ _) ?_
 refine WK.n ?_
 refine TL.nil (TQ.thenN (hY7 _ _ ?_))
 refine TW.cond rfl (fun hc1 => ?_) (fun hc1 => ?_)
 try simp only [zcb9] at hc1
 have hg : v (k - 1) < v (k - 1 - 1) := by omega
 refine TW.seq fun Y8 hY8 => TW.region ?_
 refine TL.p Pu.as ?_
 refine TL.nil (TQ.thenN (hY8 _ _ ?_))
 refine TW.ret ?_
 refine TQ.blkR ?_
 refine TQ.thenR ?_
 refine TQ.thenR ?_
 refine TQ.blkR ?_
 refine TQ.thenR ?_
 refine TQ.ret Tryz.results138 rfl ((.tmp rfl .nil)) ?_
 have hs : sortB v n = false := by
  unfold sortB
  rw [Bool.eq_false_iff]
  intro hh
  have := allB_iff.1 hh (k - 1) (by omega)
  rw [decide_eq_true hg, decide_eq_false (by omega)] at this
  cases this
 exact fun w hw => ⟨ret_bool (by rw [hs]), Chg.ext hw.chg⟩
 try simp only [zcb9] at hc1
 have hg : ¬ v (k - 1) < v (k - 1 - 1) := by omega
 refine TW.skip ?_
 refine TQ.blkN ?_
 refine TQ.thenN (hY6 _ _ ?_)
 refine TW.region ?_
 refine TL.p Pu.mv ?_
 refine TL.p Pu.sb ?_
 refine TL.p Pu.as ?_
 refine TL.nil ?_
 refine TQ.thenN (hZ0 (k - 1) _ _ ?_ ?_ (by refine ⟨congrArg (fun z => some (Value.int .i64 z)) (by omega), ?_⟩; (repeat (first | exact trivial | refine ⟨rfl, ?_⟩ | refine ⟨trivial, ?_⟩))) ?_)
 refine ⟨by omega, fun j h1 h2 => ?_⟩
 by_cases e : j = k - 1
 subst e; exact hg
 exact hall j (by omega) h2
 exact zom9
 exact ks9
 try simp only [zcb9] at hc0
 have hk2 : k ≤ 1 := by omega
 refine TW.exit ?_
 refine TQ.thenX ?_
 refine TQ.thenX ?_
 refine TQ.blkX ?_
 refine TQ.thenN (hY2 _ _ ?_)
 refine TW.seq fun Y9 hY9 => TW.region ?_
 refine TL.p Pu.as ?_
 refine TL.nil (TQ.thenN (hY9 _ _ ?_))
 refine TW.ret ?_
 refine TQ.ret Tryz.results138 rfl ((.tmp rfl .nil)) ?_
 have hs : sortB v n = true := allB_iff.2 fun j hj => by
  by_cases e : j = 0
  subst e; rfl
  rw [decide_eq_false (hall j (by omega) hj)]; simp
 exact fun w hw => ⟨ret_bool (by rw [hs]), Chg.ext hw.chg⟩
theorem indexT_any {w : World} {A : Option Addr} {n cp : Nat} {v : Nat → Int} (x : Int) (h1 : n ≤ 1000000) (hR : RdR w 1 A n (fun k => [.int .i64 (v k)])) :
  CallsK Tryz.prog 149 #[.slice A n cp, .int .i64 x] [] w { k : Int // decide (0 ≤ k) = hasB v n x } (fun k => .int .i64 k.1) (fun _ => []) := by
 refine K_enter (S := []) (K := []) Tryz.func149 rfl Tryz.ntmps149 rfl (Sat.start _) ?_
 refine TW.seq fun Y1 hY1 => TW.region ?_
 refine TL.p Pu.as ?_
 refine TL.nil (TQ.thenN (hY1 _ _ ?_))
 refine TW.seq fun Y2 hY2 => ?_
 refine TW.seq fun Y3 hY3 => TW.region ?_
 refine TL.p Pu.mv ?_
 refine TL.p (Pu.ln Tryz.underlying31) ?_
 refine TL.p Pu.mv ?_
 refine TL.nil (TQ.thenN (hY3 _ _ ?_))
 refine TW.block ?_
 refine TW.loop1 (fun (k : Nat) => [(8, .int .i64 (k : Int)), (7, .int .i64 (n : Int)), (0, .slice A n cp), (1, .int .i64 x)]) (fun k => []) (fun k => k ≤ n ∧ ∀ j, j < k → v j ≠ x) (fun k => n - k) 0 fs9 ?_ ?_ ?_
 exact ks9
 exact ⟨Nat.zero_le _, fun j hj => by omega⟩
 rintro k ⟨hk, hall⟩ Z0 hZ0
 refine TW.seq fun Y4 hY4 => TW.region ?_
 refine TL.p Pu.lt ?_
 refine TL.nil (TQ.thenN (hY4 _ _ ?_))
 refine TW.seq fun Y5 hY5 => ?_
 refine TW.cond rfl (fun hc0 => ?_) (fun hc0 => ?_)
 try simp only [zcb9] at hc0
 have hkn : k < n := by omega
 refine TW.skip ?_
 refine TQ.thenN (hY5 _ _ ?_)
 refine TW.seq fun Y6 hY6 => ?_
 refine TW.block ?_
 refine TW.seq fun Y7 hY7 => TW.region ?_
 refine TL.p Pu.mv ?_
 refine TL.p Pu.as ?_
 refine TL.nil (TQ.thenN (hY7 _ _ ?_))
 refine TW.seq fun Y8 hY8 => TW.region ?_
 refine TL.p Pu.mv ?_
 refine TL.p Pu.mv ?_
 refine TL.p Pu.mv ?_
 refine TL.p (Pu.el ty_et31) ?_
 refine TL.p (Pu.ld ty_sc3) ?_
 refine TL.p Pu.eq ?_
 refine TL.nil (TQ.thenN (hY8 _ _ ?_))
 refine TW.cond rfl (fun hc1 => ?_) (fun hc1 => ?_)
 try simp only [zcb9] at hc1
 have hx : v k = x := by omega
 refine TW.seq fun Y9 hY9 => TW.region ?_
 refine TL.p Pu.mv ?_
 refine TL.p Pu.as ?_
 refine TL.nil (TQ.thenN (hY9 _ _ ?_))
 refine TW.ret ?_
 refine TQ.blkR ?_
 refine TQ.thenR ?_
 refine TQ.thenR ?_
 refine TQ.blkR ?_
 refine TQ.thenR ?_
 refine TQ.ret Tryz.results149 rfl ((.tmp rfl .nil)) ?_
 exact fun w hw => ⟨⟨_, by rw [has_yes hkn hx]; simp⟩, rfl, hw.sub KSub.nil⟩
 try simp only [zcb9] at hc1
 have hx : v k ≠ x := by omega
 refine TW.skip ?_
 refine TQ.blkN ?_
 refine TQ.thenN (hY6 _ _ ?_)
 refine TW.region ?_
 refine TL.p Pu.ad ?_
 refine TL.p Pu.mv ?_
 refine TL.nil ?_
 refine TQ.thenN (hZ0 (k + 1) _ _ ?_ ?_ fs9 ?_)
 exact ⟨by omega, fun j hj => (Nat.lt_succ_iff_lt_or_eq.1 hj).elim (hall j) (fun e => e ▸ hx)⟩
 exact zom9
 exact ks9
 try simp only [zcb9] at hc0
 have hkn : k = n := by omega
 refine TW.exit ?_
 refine TQ.thenX ?_
 refine TQ.thenX ?_
 refine TQ.blkX ?_
 refine TQ.thenN (hY2 _ _ ?_)
 refine TW.seq fun Y10 hY10 => TW.region ?_
 refine TL.p Pu.as ?_
 refine TL.nil (TQ.thenN (hY10 _ _ ?_))
 refine TW.ret ?_
 refine TQ.ret Tryz.results149 rfl ((.tmp rfl .nil)) ?_
 exact fun w hw => ⟨⟨_, by rw [has_no (hkn ▸ hall)]; rfl⟩, rfl, hw.sub KSub.nil⟩
theorem contains_any {w : World} {A : Option Addr} {n cp : Nat} {v : Nat → Int} (x : Int) (h1 : n ≤ 1000000) (hR : RdR w 1 A n (fun k => [.int .i64 (v k)])) :
  Calls Tryz.prog 122 #[.slice A n cp, .int .i64 x] w (Ret w (.bool (hasB v n x))) := by
 refine K_enter (S := []) (K := []) Tryz.func122 rfl Tryz.ntmps122 rfl (Sat.start _) ?_
 refine TW.seq fun Y1 hY1 => TW.region ?_
 refine TL.p Pu.as ?_
 refine TL.nil (TQ.thenN (hY1 _ _ ?_))
 refine TW.seq fun Y2 hY2 => TW.region ?_
 refine TL.p Pu.mv ?_
 refine TL.p Pu.mv ?_
 refine TL.call (M := []) rfl (enters Tryz.func149 rfl rfl) (List.Perm.refl _) rfl (fun w hw => by
   exact indexT_any x h1 (hR.sat hw Apart.nil)) ?_
 rintro ⟨k, hk⟩
 refine TL.p Pu.ge ?_
 refine TL.p Pu.as ?_
 refine TL.nil (TQ.thenN (hY2 _ _ ?_))
 refine TW.ret ?_
 refine TQ.ret Tryz.results122 rfl ((.tmp rfl .nil)) ?_
 exact fun w hw => ⟨ret_bool hk.symm, Chg.ext hw.chg⟩
def mxF (v : Nat → Int) : Nat → Int
 | 0 => v 0
 | k + 1 => max (mxF v k) (v (k + 1))
theorem slMax_any {A : Option Addr} {n cp : Nat} {v : Nat → Int} {w : World} (hn : 0 < n) (hm : n ≤ 1000000) (hR : RdR w 1 A n (fun k => [.int .i64 (v k)])) :
  Calls Tryz.prog 123 #[.slice A n cp] w (Ret w (.int .i64 (mxF v (n - 1)))) := by
 refine K_enter (S := []) (K := []) Tryz.func123 rfl Tryz.ntmps123 rfl (Sat.start _) ?_
 refine TW.seq fun Y1 hY1 => TW.region ?_
 refine TL.p Pu.as ?_
 refine TL.nil (TQ.thenN (hY1 _ _ ?_))
 refine TW.seq fun Y2 hY2 => ?_
 refine TW.seq fun Y3 hY3 => TW.region ?_
 refine TL.p Pu.mv ?_
 refine TL.p (Pu.ln Tryz.underlying31) ?_
 refine TL.p Pu.lt ?_
 refine TL.nil (TQ.thenN (hY3 _ _ ?_))
 refine TW.condF rfl ((decide_eq_false (by omega))) ?_
 refine TW.skip ?_
 refine TQ.thenN (hY2 _ _ ?_)
 refine TW.seq fun Y4 hY4 => TW.region ?_
 refine TL.p Pu.mv ?_
 refine TL.p (Pu.el ty_et31) ?_
 refine TL.p (Pu.ld ty_sc3) ?_
 refine TL.p Pu.as ?_
 refine TL.nil (TQ.thenN (hY4 _ _ ?_))
 refine TW.seq fun Y5 hY5 => ?_
 refine TW.seq fun Y6 hY6 => TW.region ?_
 refine TL.p Pu.as ?_
 refine TL.nil (TQ.thenN (hY6 _ _ ?_))
 refine TW.block ?_
 refine TW.loop1 (fun (k : Nat) => [(0, .slice A n cp), (3, .int .i64 (mxF v k)), (4, .int .i64 ((k : Int) + 1))]) (fun k => []) (fun k => k < n) (fun k => n - k) 0 fs9 ?_ ?_ ?_
 exact ks9
 exact hn
 rintro k hk Z0 hZ0
 refine TW.seq fun Y7 hY7 => ?_
 refine TW.seq fun Y8 hY8 => TW.region ?_
 refine TL.p Pu.mv ?_
 refine TL.p Pu.mv ?_
 refine TL.p (Pu.ln Tryz.underlying31) ?_
 refine TL.p Pu.lt ?_
 refine TL.nil (TQ.thenN (hY8 _ _ ?_))
 refine TW.cond rfl (fun hc1 => ?_) (fun hc1 => ?_)
 try simp only [zcb9] at hc1
 have hkn : k + 1 < n := by omega
 refine TW.skip ?_
 refine TQ.thenN (hY7 _ _ ?_)
 refine TW.seq fun Y9 hY9 => ?_
 refine TW.block ?_
 refine TW.region ?_
 refine TL.p Pu.mv ?_
 refine TL.p Pu.mv ?_
 refine TL.p Pu.mv ?_
 refine TL.p (Pu.el ty_et31) ?_
 refine TL.p (Pu.ld ty_sc3) ?_
 refine TL.p Pu.mx ?_
 refine TL.p Pu.as ?_
 refine TL.nil ?_
 refine TQ.blkN ?_
 refine TQ.thenN (hY9 _ _ ?_)
 refine TW.region ?_
 refine TL.p Pu.mv ?_
 refine TL.p Pu.ad ?_
 refine TL.p Pu.as ?_
 refine TL.nil ?_
 refine TQ.thenN (hZ0 (k + 1) _ _ ?_ ?_ fs9 ?_)
 exact hkn
 exact zom9
 exact ks9
 try simp only [zcb9] at hc1
 have hkn : k + 1 = n := by omega
 refine TW.exit ?_
 refine TQ.thenX ?_
 refine TQ.thenX ?_
 refine TQ.blkX ?_
 refine TQ.thenN (hY5 _ _ ?_)
 refine TW.seq fun Y10 hY10 => TW.region ?_
 refine TL.p Pu.mv ?_
 refine TL.p Pu.as ?_
 refine TL.nil (TQ.thenN (hY10 _ _ ?_))
 refine TW.ret ?_
 refine TQ.ret Tryz.results123 rfl ((.tmp rfl .nil)) ?_
 exact fun w hw => ⟨ret_int (by subst hkn; rfl), Chg.ext hw.chg⟩
theorem everyInt1_any {g : FuncId} {fs cs : List Value} {b : Nat} {u : Int} {p : Bool} {w : World} (hen : Enters Tryz.prog g) (hb : OldB w b [.func (.func g) fs.toArray cs.toArray])
  (hg : ∀ w', Below w.heap.size w w' → Calls Tryz.prog g (fs ++ [Value.int .i64 u] ++ cs).toArray w' (Ret w' (.bool p))) :
  Calls Tryz.prog 151 #[Value.int .i64 u, .pointer (some ⟨b, 0, none⟩)] w (Ret w (.bool (!p))) := by
 refine K_enter (S := []) (K := []) Tryz.func151 rfl Tryz.ntmps151 rfl (Sat.start _) ?_
 refine TW.seq fun Y1 hY1 => TW.region ?_
 refine TL.p Pu.as ?_
 refine TL.nil (TQ.thenN (hY1 _ _ ?_))
 refine TW.seq fun Y2 hY2 => TW.region ?_
 refine TL.p (by first | exact (Pu.ld ty_sc113) | exact (Pu.ldo ty_sc113)) ?_
 refine TL.p Pu.mv ?_
 refine TL.cv rfl rfl hen (fun w hw => by
   exact hg _ (Chg.ext hw.chg)) ?_
 refine TL.p Pu.no ?_
 refine TL.p Pu.as ?_
 refine TL.nil (TQ.thenN (hY2 _ _ ?_))
 refine TW.ret ?_
 refine TQ.ret Tryz.results151 rfl ((.tmp rfl .nil)) ?_
 exact fun w hw => Ret.of hw
theorem everyInt_any {g : FuncId} {fs cs : List Value} {A : Option Addr} {n cp : Nat} {v : Nat → Int} {p : Nat → Bool} {w : World} (hen : Enters Tryz.prog g) (hn : n ≤ 9223372036854775807)
  (hR : RdR w 1 A n (fun k => [.int .i64 (v k)])) (hg : ∀ k, k < n → ∀ w', Below w.heap.size w w' → Calls Tryz.prog g (fs ++ [Value.int .i64 (v k)] ++ cs).toArray w' (Ret w' (.bool (p k)))) :
  Calls Tryz.prog 137 #[.slice A n cp, .func (.func g) fs.toArray cs.toArray] w (Ret w (.bool (allB n p))) := by
 refine K_enter (S := []) (K := []) Tryz.func137 rfl Tryz.ntmps137 rfl (Sat.start _) ?_
 refine TW.seq fun Y1 hY1 => TW.region ?_
 refine TL.m Mk.bx ?_
 intro b1
 refine TL.p Pu.as ?_
 refine TL.nil (TQ.thenN (hY1 _ _ ?_))
 refine TW.seq fun Y2 hY2 => TW.region ?_
 refine TL.p Pu.mv ?_
 refine TL.p Pu.fn ?_
 refine TL.cr rfl (enters Tryz.func114 rfl rfl) (fun w hw => by
   have h1 := OldB.of_blk (hw.holds (.blk b1 113 [.func (.func g) fs.toArray cs.toArray]) (by simp))
   exact hasInt_any (fs := []) (v := v) (p := fun k => !p k) (enters Tryz.func151 rfl rfl) hn (hR.sat hw Apart.nil) fun k hk w' hb => everyInt1_any hen (h1.ext hb) fun w'' hb' => hg k hk w'' (((Chg.ext hw.chg).trans (hb.mono (Chg.ext hw.chg).size)).trans (hb'.mono (Nat.le_trans (Chg.ext hw.chg).size hb.size)))) ?_
 refine TL.p Pu.no ?_
 refine TL.p Pu.as ?_
 refine TL.nil (TQ.thenN (hY2 _ _ ?_))
 refine TW.ret ?_
 refine TQ.ret Tryz.results137 rfl ((.tmp rfl .nil)) ?_
 exact fun w hw => ⟨ret_bool (by rw [not_anyB]; simp), Chg.ext hw.chg⟩
theorem indexInts_any {g : FuncId} {fs cs : List Value} {A : Option Addr} {n cp : Nat} {v : Nat → Option Addr × Nat × Nat} {p : Nat → Bool} {M : Nat → List Fact} {w : World} (hen : Enters Tryz.prog g) (hn : n ≤ 9223372036854775807)
  (hR : RdR w 1 A n (fun k => [.slice (v k).1 (v k).2.1 (v k).2.2])) (hA : 0 < n → Apart (feet (M 0)) A) (hM : Sat (feet (M 0)) w (M 0) w) (hfe : ∀ k, feet (M k) = feet (M 0))
  (hg : ∀ k, k < n → (∀ j, j < k → p j = false) → ∀ w', Sat (feet (M 0)) w (M k) w' → CallsK Tryz.prog g (fs ++ [Value.slice (v k).1 (v k).2.1 (v k).2.2] ++ cs).toArray (M k) w' Unit (fun _ => .bool (p k)) (fun _ => M (k + 1))) :
  CallsK Tryz.prog 150 #[.slice A n cp, .func (.func g) fs.toArray cs.toArray] (M 0) w (Fst p n) (fun x => .int .i64 (if x.1 < n then (x.1 : Int) else -1)) (fun x => M (aft n x.1)) := by
 refine K_enter (S := feet (M 0)) (K := M 0) Tryz.func150 rfl Tryz.ntmps150 rfl hM ?_
 refine TW.seq fun Y1 hY1 => TW.region ?_
 refine TL.p Pu.as ?_
 refine TL.nil (TQ.thenN (hY1 _ _ ?_))
 refine TW.seq fun Y2 hY2 => ?_
 refine TW.seq fun Y3 hY3 => TW.region ?_
 refine TL.p Pu.mv ?_
 refine TL.p (Pu.ln Tryz.underlying87) ?_
 refine TL.p Pu.mv ?_
 refine TL.nil (TQ.thenN (hY3 _ _ ?_))
 refine TW.block ?_
 refine TW.loop1 (fun (k : Nat) => [(8, .int .i64 (k : Int)), (7, .int .i64 (n : Int)), (0, .slice A n cp), (1, .func (.func g) fs.toArray cs.toArray)]) (fun k => M k) (fun k => k ≤ n ∧ ∀ j, j < k → p j = false) (fun k => n - k) 0 fs9 ?_ ?_ ?_
 exact KSub.refl _
 exact ⟨by omega, fun j hj => by omega⟩
 rintro k ⟨hk, hall⟩ Z0 hZ0
 refine TW.seq fun Y4 hY4 => TW.region ?_
 refine TL.p Pu.lt ?_
 refine TL.nil (TQ.thenN (hY4 _ _ ?_))
 refine TW.seq fun Y5 hY5 => ?_
 refine TW.cond rfl (fun hc0 => ?_) (fun hc0 => ?_)
 try simp only [zcb9] at hc0
 have hkn : k < n := by omega
 have hA := hA (by omega)
 refine TW.skip ?_
 refine TQ.thenN (hY5 _ _ ?_)
 refine TW.seq fun Y6 hY6 => ?_
 refine TW.block ?_
 refine TW.seq fun Y7 hY7 => TW.region ?_
 refine TL.p Pu.mv ?_
 refine TL.p Pu.as ?_
 refine TL.nil (TQ.thenN (hY7 _ _ ?_))
 refine TW.seq fun Y8 hY8 => TW.region ?_
 refine TL.p Pu.mv ?_
 refine TL.p Pu.mv ?_
 refine TL.p Pu.mv ?_
 refine TL.p (Pu.el ty_et87) ?_
 refine TL.p (Pu.ld ty_sc31) ?_
 refine TL.cvk rfl rfl hen (by rw [List.append_nil]) (fun w hw => by
   exact hg k (by omega) hall w hw) ?_
 intro _
 refine TL.nil (TQ.thenN (hY8 _ _ ?_))
 refine TW.cond rfl (fun hc1 => ?_) (fun hc1 => ?_)
 try simp only [zcb9] at hc1
 refine TW.seq fun Y9 hY9 => TW.region ?_
 refine TL.p Pu.mv ?_
 refine TL.p Pu.as ?_
 refine TL.nil (TQ.thenN (hY9 _ _ ?_))
 refine TW.ret ?_
 refine TQ.blkR ?_
 refine TQ.thenR ?_
 refine TQ.thenR ?_
 refine TQ.blkR ?_
 refine TQ.thenR ?_
 refine TQ.ret Tryz.results150 rfl ((.tmp rfl .nil)) ?_
 exact fun w hw => ⟨⟨k, by omega, hall, fun _ => hc1⟩, by simp [hkn]; rfl, by simpa [aft, hkn] using hw⟩
 try simp only [zcb9] at hc1
 refine TW.skip ?_
 refine TQ.blkN ?_
 refine TQ.thenN (hY6 _ _ ?_)
 refine TW.region ?_
 refine TL.p Pu.ad ?_
 refine TL.p Pu.mv ?_
 refine TL.nil ?_
 refine TQ.thenN (hZ0 (k + 1) _ _ ?_ ?_ fs9 ?_)
 refine ⟨by omega, fun j hj => ?_⟩
 by_cases h : j = k
 subst h; exact hc1
 exact hall j (by omega)
 exact zom9
 rw [List.append_nil]; exact KSub.refl _
 try simp only [zcb9] at hc0
 have hkn : k = n := by omega
 refine TW.exit ?_
 refine TQ.thenX ?_
 refine TQ.thenX ?_
 refine TQ.blkX ?_
 refine TQ.thenN (hY2 _ _ ?_)
 refine TW.seq fun Y10 hY10 => TW.region ?_
 refine TL.p Pu.as ?_
 refine TL.nil (TQ.thenN (hY10 _ _ ?_))
 refine TW.ret ?_
 refine TQ.ret Tryz.results150 rfl ((.tmp rfl .nil)) ?_
 exact fun w hw => ⟨⟨k, by omega, hall, fun h => by omega⟩, by simp [hkn]; rfl, by simpa [aft, hkn] using hw⟩
theorem hasInts_st {g : FuncId} {fs cs : List Value} {A : Option Addr} {n cp : Nat} {v : Nat → Option Addr × Nat × Nat} {p : Nat → Bool} {M : Nat → List Fact} {w : World} (hen : Enters Tryz.prog g) (hn : n ≤ 9223372036854775807)
  (hR : RdR w 1 A n (fun k => [.slice (v k).1 (v k).2.1 (v k).2.2])) (hA : 0 < n → Apart (feet (M 0)) A) (hM : Sat (feet (M 0)) w (M 0) w) (hfe : ∀ k, feet (M k) = feet (M 0))
  (hg : ∀ k, k < n → (∀ j, j < k → p j = false) → ∀ w', Sat (feet (M 0)) w (M k) w' → CallsK Tryz.prog g (fs ++ [Value.slice (v k).1 (v k).2.1 (v k).2.2] ++ cs).toArray (M k) w' Unit (fun _ => .bool (p k)) (fun _ => M (k + 1))) :
  CallsK Tryz.prog 135 #[.slice A n cp, .func (.func g) fs.toArray cs.toArray] (M 0) w (Fst p n) (fun x => .bool (decide (x.1 < n))) (fun x => M (aft n x.1)) := by
 refine K_enter (S := feet (M 0)) (K := M 0) Tryz.func135 rfl Tryz.ntmps135 rfl hM ?_
 refine TW.seq fun Y1 hY1 => TW.region ?_
 refine TL.p Pu.as ?_
 refine TL.nil (TQ.thenN (hY1 _ _ ?_))
 refine TW.seq fun Y2 hY2 => TW.region ?_
 refine TL.p Pu.mv ?_
 refine TL.p Pu.mv ?_
 refine TL.call rfl (enters Tryz.func150 rfl rfl) (by rw [List.append_nil]) rfl (fun w hw => by
   exact indexInts_any hen hn (hR.sat0 hw hA) hA hw.self hfe (fun k hk hp w' hw' => hg k hk hp w' (hw'.from hw.chg fun _ hb => .inl hb))) ?_
 intro x
 refine TL.p Pu.ge ?_
 refine TL.p Pu.as ?_
 refine TL.nil (TQ.thenN (hY2 _ _ ?_))
 refine TW.ret ?_
 refine TQ.ret Tryz.results135 rfl ((.tmp rfl .nil)) ?_
 exact fun w hw => ⟨x, by by_cases h : x.1 < n <;> simp [retV, h], by simpa using hw⟩
theorem hasInts_any {g : FuncId} {fs cs : List Value} {A : Option Addr} {n cp : Nat} {v : Nat → Option Addr × Nat × Nat} {p : Nat → Bool} {w : World} (hen : Enters Tryz.prog g) (hn : n ≤ 9223372036854775807)
  (hR : RdR w 1 A n (fun k => [.slice (v k).1 (v k).2.1 (v k).2.2])) (hg : ∀ k, k < n → ∀ w', Below w.heap.size w w' → Calls Tryz.prog g (fs ++ [Value.slice (v k).1 (v k).2.1 (v k).2.2] ++ cs).toArray w' (Ret w' (.bool (p k)))) :
  Calls Tryz.prog 135 #[.slice A n cp, .func (.func g) fs.toArray cs.toArray] w (Ret w (.bool (anyB n p))) :=
 CallsK.retOf (hasInts_st (M := fun _ => []) hen hn hR (fun _ => Apart.nil) (Sat.start w) (fun _ => rfl) fun k hk _ w' hw' => CallsK.ret (hg k hk w' (Chg.ext hw'.chg))) fun x => by rw [x.any]; rfl
theorem everyInts1_any {g : FuncId} {fs cs : List Value} {b : Nat} {u : Option Addr × Nat × Nat} {p : Bool} {w : World} (hen : Enters Tryz.prog g) (hb : OldB w b [.func (.func g) fs.toArray cs.toArray])
  (hg : ∀ w', Below w.heap.size w w' → Calls Tryz.prog g (fs ++ [Value.slice u.1 u.2.1 u.2.2] ++ cs).toArray w' (Ret w' (.bool p))) :
  Calls Tryz.prog 136 #[Value.slice u.1 u.2.1 u.2.2, .pointer (some ⟨b, 0, none⟩)] w (Ret w (.bool (!p))) := by
 refine K_enter (S := []) (K := []) Tryz.func136 rfl Tryz.ntmps136 rfl (Sat.start _) ?_
 refine TW.seq fun Y1 hY1 => TW.region ?_
 refine TL.p Pu.as ?_
 refine TL.nil (TQ.thenN (hY1 _ _ ?_))
 refine TW.seq fun Y2 hY2 => TW.region ?_
 refine TL.p (by first | exact (Pu.ld ty_sc134) | exact (Pu.ldo ty_sc134)) ?_
 refine TL.p Pu.mv ?_
 refine TL.cv rfl rfl hen (fun w hw => by
   exact hg _ (Chg.ext hw.chg)) ?_
 refine TL.p Pu.no ?_
 refine TL.p Pu.as ?_
 refine TL.nil (TQ.thenN (hY2 _ _ ?_))
 refine TW.ret ?_
 refine TQ.ret Tryz.results136 rfl ((.tmp rfl .nil)) ?_
 exact fun w hw => Ret.of hw
theorem everyInts_any {g : FuncId} {fs cs : List Value} {A : Option Addr} {n cp : Nat} {v : Nat → Option Addr × Nat × Nat} {p : Nat → Bool} {w : World} (hen : Enters Tryz.prog g) (hn : n ≤ 9223372036854775807)
  (hR : RdR w 1 A n (fun k => [.slice (v k).1 (v k).2.1 (v k).2.2])) (hg : ∀ k, k < n → ∀ w', Below w.heap.size w w' → Calls Tryz.prog g (fs ++ [Value.slice (v k).1 (v k).2.1 (v k).2.2] ++ cs).toArray w' (Ret w' (.bool (p k)))) :
  Calls Tryz.prog 98 #[.slice A n cp, .func (.func g) fs.toArray cs.toArray] w (Ret w (.bool (allB n p))) := by
 refine K_enter (S := []) (K := []) Tryz.func98 rfl Tryz.ntmps98 rfl (Sat.start _) ?_
 refine TW.seq fun Y1 hY1 => TW.region ?_
 refine TL.m Mk.bx ?_
 intro b1
 refine TL.p Pu.as ?_
 refine TL.nil (TQ.thenN (hY1 _ _ ?_))
 refine TW.seq fun Y2 hY2 => TW.region ?_
 refine TL.p Pu.mv ?_
 refine TL.p Pu.fn ?_
 refine TL.cr rfl (enters Tryz.func135 rfl rfl) (fun w hw => by
   have h1 := OldB.of_blk (hw.holds (.blk b1 134 [.func (.func g) fs.toArray cs.toArray]) (by simp))
   exact hasInts_any (fs := []) (v := v) (p := fun k => !p k) (enters Tryz.func136 rfl rfl) hn (hR.sat hw Apart.nil) fun k hk w' hb => everyInts1_any hen (h1.ext hb) fun w'' hb' => hg k hk w'' (((Chg.ext hw.chg).trans (hb.mono (Chg.ext hw.chg).size)).trans (hb'.mono (Nat.le_trans (Chg.ext hw.chg).size hb.size)))) ?_
 refine TL.p Pu.no ?_
 refine TL.p Pu.as ?_
 refine TL.nil (TQ.thenN (hY2 _ _ ?_))
 refine TW.ret ?_
 refine TQ.ret Tryz.results98 rfl ((.tmp rfl .nil)) ?_
 exact fun w hw => ⟨ret_bool (by rw [not_anyB]; simp), Chg.ext hw.chg⟩
set_option maxRecDepth 100000 in
theorem tribes_any {A : Option Addr} {n cp : Nat} {v : Nat → Int} {w : World} (hn : n ≤ 1000) (hR : RdR w 1 A n (fun k => [.int .i64 (v k)])) :
  Calls Tryz.prog 99 #[.slice A n cp] w (Ret w (.bool (triOk v n))) := by
 refine K_enter (S := []) (K := []) Tryz.func99 rfl Tryz.ntmps99 rfl (Sat.start _) ?_
 refine TW.seq fun Y1 hY1 => TW.region ?_
 refine TL.p Pu.as ?_
 refine TL.nil (TQ.thenN (hY1 _ _ ?_))
 refine TW.seq fun Y2 hY2 => ?_
 refine TW.join [(2, .bool ((allB n fun i => inB5 0 7 (v i)) && sortB v n && decide ((cmpL (toI v n)).length = n)))] ?_ (fun hJ1 => ?_)
 refine TQ.thenN (hY2 _ _ ?_)
 refine TW.ret ?_
 refine TQ.ret Tryz.results99 rfl ((.tmp rfl .nil)) ?_
 exact fun w hw => ⟨ret_bool tri_eq.symm, Chg.ext hw.chg⟩
 refine TW.region ?_
 refine TL.p Pu.mv ?_
 refine TL.cr rfl (enters Tryz.func137 rfl rfl) (fun w hw => by
   exact everyInt_any (fs := []) (cs := []) (v := v) (p := fun k => inB5 0 7 (v k)) (enters Tryz.func48 rfl rfl) (by omega) (hR.sat hw Apart.nil) fun k hk w' hb => tribe_any (v k) w') ?_
 refine TL.p Pu.mv ?_
 refine TL.guard (t := 5) rfl (fun hg1 => ?_) (fun hg1 => ?_)
 refine TL.gd Pu.mv ?_
 refine TL.cr rfl (enters Tryz.func138 rfl rfl) (fun w hw => by
   exact isSorted_any (by omega) (hR.sat hw Apart.nil)) ?_
 refine TL.p Pu.kt ?_
 refine TL.p Pu.mv ?_
 refine TL.guard (t := 9) rfl (fun hg2 => ?_) (fun hg2 => ?_)
 refine TL.gd Pu.mv ?_
 refine TL.gck rfl (enters Tryz.func71 rfl rfl) (fun w hw => by
   exact cloneI_any (v := v) (by omega) (hR.sat hw Apart.nil)) ?_
 rintro ⟨A9, c9⟩
 refine TL.gcm rfl (enters Tryz.func139 rfl rfl) (M := [.own A9 n c9 3 1 (iL (toI v n))]) (List.Perm.refl _) (fun w hw => compact_any (L := toI v n) toI_len.symm (by omega) (hw.holds (.own A9 n c9 3 1 (iL (toI v n))) (by simp))) ?_
 rintro ⟨⟩
 refine TL.gd (Pu.ln Tryz.underlying31) ?_
 refine TL.gd Pu.mv ?_
 refine TL.gd (Pu.ln Tryz.underlying31) ?_
 refine TL.gd Pu.eq ?_
 refine TL.p Pu.kt ?_
 refine TL.p Pu.as ?_
 refine TL.nil ?_
 exact TQ.sub (by repeat (first | exact trivial | refine ⟨rfl, ?_⟩ | refine ⟨trivial, ?_⟩ | refine ⟨(by show some (Value.bool _) = some (Value.bool _); first | (simp [hg1, hg2]; done) | (refine congrArg (fun z => some (Value.bool z)) (Bool.eq_iff_iff.2 ?_); simp [hg1, hg2]; omega)), ?_⟩)) ks9 hJ1
 refine TL.gs ?_
 refine TL.gs ?_
 refine TL.gs ?_
 refine TL.gs ?_
 refine TL.gs ?_
 refine TL.gs ?_
 refine TL.gs ?_
 refine TL.p Pu.kf ?_
 refine TL.p Pu.as ?_
 refine TL.nil ?_
 exact TQ.sub (by repeat (first | exact trivial | refine ⟨rfl, ?_⟩ | refine ⟨trivial, ?_⟩ | refine ⟨(by show some (Value.bool _) = some (Value.bool _); first | (simp [hg1, hg2]; done) | (refine congrArg (fun z => some (Value.bool z)) (Bool.eq_iff_iff.2 ?_); simp [hg1, hg2]; omega)), ?_⟩)) ks9 hJ1
 refine TL.gs ?_
 refine TL.gs ?_
 refine TL.p Pu.kf ?_
 refine TL.p Pu.mv ?_
 refine TL.gs ?_
 refine TL.gs ?_
 refine TL.gs ?_
 refine TL.gs ?_
 refine TL.gs ?_
 refine TL.gs ?_
 refine TL.gs ?_
 refine TL.p Pu.kf ?_
 refine TL.p Pu.as ?_
 refine TL.nil ?_
 exact TQ.sub (by repeat (first | exact trivial | refine ⟨rfl, ?_⟩ | refine ⟨trivial, ?_⟩ | refine ⟨(by show some (Value.bool _) = some (Value.bool _); first | (simp [hg1]; done) | (refine congrArg (fun z => some (Value.bool z)) (Bool.eq_iff_iff.2 ?_); simp [hg1]; omega)), ?_⟩)) ks9 hJ1
def sl3 (O : Option Addr) (no co : Nat) (U : Option Addr) (nu cu : Nat) (V : Option Addr) (nv cv : Nat) : Nat → Option Addr × Nat × Nat
 | 0 => (O, no, co)
 | 1 => (U, nu, cu)
 | _ => (V, nv, cv)
def tri3 (T : Trp) : Nat → Bool
 | 0 => triOk T.o T.no
 | 1 => triOk T.u T.nu
 | _ => triOk T.v T.nv
set_option maxRecDepth 100000 in
theorem cValid_any {T : Trp} {O U V : Option Addr} {co cu cv : Nat} {w : World} (h : TrpIn w T O U V) :
  Calls Tryz.prog 54 #[.agg (troopL T.hd T.wo O T.no co U T.nu cu V T.nv cv).toArray] w (Ret w (.bool (trpOk T))) := by
 have hno := h.hno
 have hnu := h.hnu
 have hnv := h.hnv
 unfold troopL
 refine K_enter (S := []) (K := []) Tryz.func54 rfl Tryz.ntmps54 rfl (Sat.start _) ?_
 refine TW.seq fun Y1 hY1 => TW.region ?_
 refine TL.m Mk.bx ?_
 intro b1
 refine TL.p Pu.as ?_
 refine TL.nil (TQ.thenN (hY1 _ _ ?_))
 refine TW.seq fun Y2 hY2 => ?_
 refine TW.join [(2, .bool (inB5 1 1000 T.hd && inB5 0 1000000000000 T.wo && allB 3 (tri3 T)))] ?_ (fun hJ1 => ?_)
 refine TQ.thenN (hY2 _ _ ?_)
 refine TW.ret ?_
 refine TQ.ret Tryz.results54 rfl ((.tmp rfl .nil)) ?_
 exact fun w hw => ⟨ret_bool (by unfold trpOk; simp only [allB, List.range_succ, List.range_zero, List.nil_append, List.all_cons, List.all_append, List.all_nil, Bool.and_true, tri3, Bool.and_assoc]), Chg.ext hw.chg⟩
 refine TW.region ?_
 refine TL.p (by first | exact Pu.fb ty_fa33_0 | exact Pu.fe ty_fa33_0) ?_
 refine TL.p (Pu.ld ty_sc3) ?_
 refine TL.cr rfl (enters Tryz.func41 rfl rfl) (fun w hw => by
   exact in_any _ _ _ _) ?_
 refine TL.p Pu.mv ?_
 refine TL.guard (t := 6) rfl (fun hg1 => ?_) (fun hg1 => ?_)
 refine TL.gd (by first | exact Pu.fb ty_fa33_1 | exact Pu.fe ty_fa33_1) ?_
 refine TL.gd (Pu.ld ty_sc3) ?_
 refine TL.cr rfl (enters Tryz.func41 rfl rfl) (fun w hw => by
   exact in_any _ _ _ _) ?_
 refine TL.p Pu.kt ?_
 refine TL.p Pu.mv ?_
 refine TL.guard (t := 11) rfl (fun hg2 => ?_) (fun hg2 => ?_)
 refine TL.gd (by first | exact Pu.fb ty_fa33_2 | exact Pu.fe ty_fa33_2) ?_
 refine TL.gd (Pu.ld ty_sc31) ?_
 refine TL.gd (by first | exact Pu.fb ty_fa33_3 | exact Pu.fe ty_fa33_3) ?_
 refine TL.gd (Pu.ld ty_sc31) ?_
 refine TL.gd (by first | exact Pu.fb ty_fa33_4 | exact Pu.fe ty_fa33_4) ?_
 refine TL.gd (Pu.ld ty_sc31) ?_
 refine TL.gm Mk.bl ?_
 intro b2
 refine TL.cr rfl (enters Tryz.func98 rfl rfl) (fun w hw => by
   exact everyInts_any (fs := []) (cs := []) (n := 3) (v := sl3 O T.no co U T.nu cu V T.nv cv) (p := tri3 T) (enters Tryz.func99 rfl rfl) (by omega) (RdR.blk (cs := [.slice O T.no co, .slice U T.nu cu, .slice V T.nv cv]) (hw.holds _ (List.mem_cons_self ..)) rfl (fun _ _ => rfl)) fun k hk w' hb => by
    have hk3 : k = 0 ∨ k = 1 ∨ k = 2 := by omega
    have hx := h.ext ((Chg.ext hw.chg).trans (hb.mono (Chg.ext hw.chg).size))
    rcases hk3 with rfl | rfl | rfl
    exact tribes_any h.hno hx.hO
    exact tribes_any h.hnu hx.hU
    exact tribes_any h.hnv hx.hV) ?_
 refine TL.p Pu.kt ?_
 refine TL.p Pu.as ?_
 refine TL.nil ?_
 exact TQ.sub (by repeat (first | exact trivial | refine ⟨rfl, ?_⟩ | refine ⟨trivial, ?_⟩ | refine ⟨(by show some (Value.bool _) = some (Value.bool _); first | (simp [hg1, hg2]; done) | (refine congrArg (fun z => some (Value.bool z)) (Bool.eq_iff_iff.2 ?_); simp [hg1, hg2]; omega)), ?_⟩)) ks9 hJ1
 refine TL.gs ?_
 refine TL.gs ?_
 refine TL.gs ?_
 refine TL.gs ?_
 refine TL.gs ?_
 refine TL.gs ?_
 refine TL.gs ?_
 refine TL.gs ?_
 refine TL.p Pu.kf ?_
 refine TL.p Pu.as ?_
 refine TL.nil ?_
 exact TQ.sub (by repeat (first | exact trivial | refine ⟨rfl, ?_⟩ | refine ⟨trivial, ?_⟩ | refine ⟨(by show some (Value.bool _) = some (Value.bool _); first | (simp [hg1, hg2]; done) | (refine congrArg (fun z => some (Value.bool z)) (Bool.eq_iff_iff.2 ?_); simp [hg1, hg2]; omega)), ?_⟩)) ks9 hJ1
 refine TL.gs ?_
 refine TL.gs ?_
 refine TL.gs ?_
 refine TL.p Pu.kf ?_
 refine TL.p Pu.mv ?_
 refine TL.gs ?_
 refine TL.gs ?_
 refine TL.gs ?_
 refine TL.gs ?_
 refine TL.gs ?_
 refine TL.gs ?_
 refine TL.gs ?_
 refine TL.gs ?_
 refine TL.p Pu.kf ?_
 refine TL.p Pu.as ?_
 refine TL.nil ?_
 exact TQ.sub (by repeat (first | exact trivial | refine ⟨rfl, ?_⟩ | refine ⟨trivial, ?_⟩ | refine ⟨(by show some (Value.bool _) = some (Value.bool _); first | (simp [hg1]; done) | (refine congrArg (fun z => some (Value.bool z)) (Bool.eq_iff_iff.2 ?_); simp [hg1]; omega)), ?_⟩)) ks9 hJ1
end Go.Proofs.YtfaenhhgkhcghaaGreatDoor
namespace Go.Proofs.YtfaenhhgkhcghaaGreatDoor
set_option linter.all false
set_option linter.unusedVariables false
set_option linter.unusedSimpArgs false
open Go.RowKit
section
variable {W A C D B : Option Addr} {nw nl nc nd nb : Nat} {f : Nat → Nat → Int} {x : Nat → Leg} {g : Nat → Nat → Nat → Int} {c : Nat → (Nat → Int) × Bool} {d b : Nat → Nat → Int} {w w0 : World} {S : List Nat} {K : List Fact}
theorem great_small {no nu nv : Nat} (h : great7 nw nl x nc nd nb no nu nv = false) : nw ≤ 20 ∧ nl ≤ 40 ∧ (∀ k, k < nl → (x k).n ≤ 20) ∧ nc ≤ 40 ∧ nd ≤ 30 ∧ nb ≤ 30 ∧ no ≤ 12 ∧ nu ≤ 12 ∧ nv ≤ 12 := by
 unfold great7 great3 at h
 simp only [Bool.or_eq_false_iff, decide_eq_false_iff_not, Int.not_lt] at h
 obtain ⟨⟨⟨⟨⟨⟨⟨⟨h1, h2⟩, h3⟩, h4⟩, h5⟩, h6⟩, h7⟩, h8⟩, h9⟩ := h
 refine ⟨by omega, by omega, fun k hk => ?_, by omega, by omega, by omega, by omega, by omega, by omega⟩
 unfold anyB at h3
 rw [List.any_eq_false] at h3
 have := h3 k (List.mem_range.2 hk)
 simp only [decide_eq_true_eq] at this
 omega
theorem OwnR.cap {A : Option Addr} {n cp : Nat} {E : TypeId} {sz : Nat} {r : Nat → List Value} (h : OwnR w A n cp E sz r) : n ≤ cp := by
 obtain ⟨A', c', e, h1, _⟩ := h.own.form
 cases e
 exact h1
variable {cw cl cc cd cb : Nat} {a : Nat → Option Addr} {e : Nat → Nat}
end
end Go.Proofs.YtfaenhhgkhcghaaGreatDoor
namespace Go.Proofs.YtfaenhhgkhcghaaGreatDoor
set_option linter.all false
set_option linter.unusedVariables false
set_option linter.unusedSimpArgs false
open Go.RowKit
theorem clip_any {A : Option Addr} {n cp : Nat} (h : n ≤ cp) (w : World) : Calls Tryz.prog 119 #[.slice A n cp] w (Ret w (.slice A n n)) := by
 refine K_enter (S := []) (K := []) Tryz.func119 rfl Tryz.ntmps119 rfl (Sat.start _) ?_
 refine TW.seq fun Y1 hY1 => TW.region ?_
 refine TL.p Pu.as ?_
 refine TL.nil (TQ.thenN (hY1 _ _ ?_))
 refine TW.seq fun Y2 hY2 => TW.region ?_
 refine TL.p Pu.mv ?_
 refine TL.p Pu.mv ?_
 refine TL.p (Pu.ln Tryz.underlying31) ?_
 refine TL.p Pu.mv ?_
 refine TL.p (Pu.ln Tryz.underlying31) ?_
 refine TL.p (Pu.s3 ty_et31) ?_
 refine TL.p Pu.as ?_
 refine TL.nil (TQ.thenN (hY2 _ _ ?_))
 refine TW.ret ?_
 refine TQ.ret Tryz.results119 rfl ((.tmp rfl .nil)) ?_
 exact fun w hw => Ret.of hw
theorem clone_way {A : Option Addr} {cp : Nat} {way : List Int} {w : World} (hn : way.length ≤ 1000000000) (hR : RdR w 1 A way.length (iL way)) :
  CallsK Tryz.prog 71 #[.slice A way.length cp] [] w (Option Addr × Nat) (fun x => .slice x.1 way.length x.2) (fun x => [.own x.1 way.length x.2 3 1 (iL way)]) := by
 have h := cloneI_any (cp := cp) (v := fun k => way.getD k 0) hn hR
 rw [toI_getD] at h
 exact h
theorem more_any {A : Option Addr} {cp : Nat} {way : List Int} {x : Int} {w : World} (hn : way.length ≤ 100000000) (hR : RdR w 1 A way.length (iL way)) :
  CallsK Tryz.prog 74 #[.slice A way.length cp, .int .i64 x] [] w (Option Addr × Nat) (fun y => .slice y.1 (way ++ [x]).length y.2) (fun y => [.own y.1 (way ++ [x]).length y.2 3 1 (iL (way ++ [x]))]) := by
 have hl : (way ++ [x]).length = way.length + 1 := by rw [List.length_append]; rfl
 refine K_enter (S := []) (K := []) Tryz.func74 rfl Tryz.ntmps74 rfl (Sat.start _) ?_
 refine TW.seq fun Y1 hY1 => TW.region ?_
 refine TL.p Pu.as ?_
 refine TL.nil (TQ.thenN (hY1 _ _ ?_))
 refine TW.seq fun Y2 hY2 => TW.region ?_
 refine TL.p Pu.mv ?_
 refine TL.call (M := []) rfl (enters Tryz.func71 rfl rfl) (List.Perm.refl _) rfl (fun w hw => by
   exact clone_way (by omega) (hR.sat hw Apart.nil)) ?_
 rintro ⟨A1, c1⟩
 refine TL.cr rfl (enters Tryz.func119 rfl rfl) (fun w hw => by
   have hle := OwnR.cap (hw.holds (.own A1 way.length c1 3 1 (iL way)) (Pick.mem pk9))
   exact clip_any hle _) ?_
 refine TL.p Pu.mv ?_
 refine TL.m Mk.bl ?_
 intro b1
 refine TL.apF ty_et31 ?_
 intro A8 c8
 refine TL.p Pu.as ?_
 refine TL.nil (TQ.thenN (hY2 _ _ ?_))
 refine TW.ret ?_
 refine TQ.ret Tryz.results74 rfl ((.tmp rfl .nil)) ?_
 exact fun w hw => ⟨(A8, c8), by rw [hl]; rfl, by rw [hl]; exact hw.sub (KSub.own pk9 (iL_app rfl rfl rfl) KSub.nil)⟩
end Go.Proofs.YtfaenhhgkhcghaaGreatDoor
namespace Go.Proofs.YtfaenhhgkhcghaaGreatDoor
set_option linter.all false
set_option linter.unusedVariables false
set_option linter.unusedSimpArgs false
open Go.RowKit Go.MapKept
section
variable {W A : Option Addr} {nw cw nl cl : Nat} {x : Nat → Leg} {p0 p1 : Int} {w : World}
set_option maxRecDepth 100000 in
set_option maxHeartbeats 1000000 in
theorem leads2_iter {bc bw : Nat} {well : Int} {S : List Nat} {W0 : World} {R : Type} {J : Nat → R → List Fact} (hR : RdR W0 5 A nl (fun k => legL (x k))) (hA : 0 < nl → Apart S A) (hnl : nl ≤ 1000) :
  IterR Tryz.prog 116 [.pointer (some ⟨bc, 0, none⟩), .pointer (some ⟨bw, 0, none⟩)] (ledM W nw cw A nl cl p0 p1 well bc bw) Unit (fun q _ => [.int .i64 ((ldL (fun k => (x k).u) well nl).getD q (0, 0)).1, .int .i64 ((ldL (fun k => (x k).u) well nl).getD q (0, 0)).2]) (fun _ _ => ledM W nw cw A nl cl p0 p1 well bc bw) (fun _ _ => ledM W nw cw A nl cl p0 p1 well bc bw) (ldL (fun k => (x k).u) well nl).length [] S W0 R J := by
 intro lY Rx Jx r0 w9 hS hround
 unfold ledM carL at hS hround
 refine K_enterW (S := S) (K := .blk bc 140 _ :: .blk bw 3 [.int .i64 well] :: J 0 r0) Tryz.func116 rfl Tryz.ntmps116 rfl hS ?_
 refine TW.seq fun Y1 hY1 => TW.region ?_
 refine TL.p (by first | exact Pu.fb ty_fa140_0 | exact Pu.fe ty_fa140_0) ?_
 refine TL.p (by first | exact Pu.fb ty_fa25_1 | exact Pu.fe ty_fa25_1) ?_
 refine TL.p (by first | exact (Pu.ld ty_sc23) | exact (Pu.ldo ty_sc23)) ?_
 refine TL.p (Pu.ln Tryz.underlying23) ?_
 refine TL.p Pu.mv ?_
 refine TL.nil (TQ.thenN (hY1 _ _ ?_))
 refine TW.block ?_
 refine TW.loop2 (fun (k : Nat) (r : R) => [(10, .int .i64 (k : Int)), (9, .int .i64 (nl : Int)), (8, .slice A nl cl), (0, .func (.yield lY) #[] #[]), (2, .pointer (some ⟨bw, 0, none⟩))]) (fun k r => .blk bc 140 [.slice W nw cw, .slice A nl cl, .int .i64 p0, .int .i64 p1] :: .blk bw 3 [.int .i64 well] :: J (ldL (fun k => (x k).u) well k).length r) (fun k r => k ≤ nl) (fun k r => nl - k) 0 r0 fs9 ?_ ?_ ?_
 exact kt9
 exact Nat.zero_le _
 rintro k r hk Z0 hZ0
 refine TW.seq fun Y2 hY2 => TW.region ?_
 refine TL.p Pu.lt ?_
 refine TL.nil (TQ.thenN (hY2 _ _ ?_))
 refine TW.seq fun Y3 hY3 => ?_
 refine TW.cond rfl (fun hc0 => ?_) (fun hc0 => ?_)
 try simp only [zcb9] at hc0
 have hkn : k < nl := by omega
 have hA9 := hA (by omega)
 refine TW.skip ?_
 refine TQ.thenN (hY3 _ _ ?_)
 refine TW.seq fun Y4 hY4 => ?_
 refine TW.block ?_
 refine TW.seq fun Y5 hY5 => TW.region ?_
 refine TL.p Pu.mv ?_
 refine TL.p (Pu.el ty_et23) ?_
 refine TL.p (by first | exact (Pu.lds ty_ag107) | exact (Pu.ldso ty_ag107)) ?_
 refine TL.m (Mk.al ty_zr107) ?_
 intro b1
 refine TL.p Pu.as ?_
 first | refine TL.st ty_sz107 ?_ | refine TL.se ty_sz107 ?_
 refine TL.nil (TQ.thenN (hY5 _ _ ?_))
 refine TW.seq fun Y6 hY6 => TW.region ?_
 refine TL.p (by first | exact (Pu.ld ty_sc3) | exact (Pu.ldo ty_sc3)) ?_
 refine TL.nil (TQ.thenN (hY6 _ _ ?_))
 refine TW.block ?_
 refine TW.seq fun Y7 hY7 => TW.region ?_
 refine TL.p (by first | exact Pu.fb ty_fa107_0 | exact Pu.fe ty_fa107_0) ?_
 refine TL.p (by first | exact (Pu.ld ty_sc3) | exact (Pu.ldo ty_sc3)) ?_
 refine TL.p Pu.eq ?_
 refine TL.p Pu.as ?_
 refine TL.nil (TQ.thenN (hY7 _ _ ?_))
 refine TW.cond rfl (fun hc1 => ?_) (fun hc1 => ?_)
 try simp only [zcb9] at hc1
 have ha : atW (x k).u well := .inl (by omega)
 obtain ⟨hg1, hg2⟩ := ld_get (u := fun k => (x k).u) hkn ha
 rw [oth_from (by omega)] at hg2
 have hs : (ldL (fun k => (x k).u) well (k + 1)).length = (ldL (fun k => (x k).u) well k).length + 1 := by rw [ld_yes ha]; simp
 replace hg2 := hidT hg2
 replace hs := hidT hs
 refine TW.seq fun Y8 hY8 => ?_
 refine TW.regionI ?_
 refine TLi.op (fun U1 hU1 => ?_) (by rintro ⟨_, _, h⟩; first | exact h | (obtain ⟨⟨_, h⟩, _⟩ := h; cases h) | cases h)
 refine TL.p Pu.mv ?_
 refine TL.nil ?_
 refine TQ.nxt (hU1 _ _ ?_)
 refine TLi.op (fun U2 hU2 => ?_) (by rintro ⟨_, _, h⟩; first | exact h | (obtain ⟨⟨_, h⟩, _⟩ := h; cases h) | cases h)
 refine TL.p Pu.mv ?_
 refine TL.nil ?_
 refine TQ.nxt (hU2 _ _ ?_)
 refine TLi.op (fun U3 hU3 => ?_) (by rintro ⟨_, _, h⟩; first | exact h | (obtain ⟨⟨_, h⟩, _⟩ := h; cases h) | cases h)
 refine TL.p (by first | exact Pu.fb ty_fa107_1 | exact Pu.fe ty_fa107_1) ?_
 refine TL.nil ?_
 refine TQ.nxt (hU3 _ _ ?_)
 refine TLi.op (fun U4 hU4 => ?_) (by rintro ⟨_, _, h⟩; first | exact h | (obtain ⟨⟨_, h⟩, _⟩ := h; cases h) | cases h)
 refine TL.p (by first | exact (Pu.ld ty_sc3) | exact (Pu.ldo ty_sc3)) ?_
 refine TL.nil ?_
 refine TQ.nxt (hU4 _ _ ?_)
 refine TLi.yi rfl rfl (fun w hw => by
   have h9 := hround (ldL (fun k => (x k).u) well k).length () r w hg1 (hw.sub (KSub.drop (KSub.refl _)))
   simp only [hg2.out] at h9
   exact h9) ?_ ?_
 intro r
 refine TLi.op (fun U5 hU5 => ?_) (by rintro ⟨_, _, h⟩; first | exact h | (obtain ⟨⟨_, h⟩, _⟩ := h; cases h) | cases h)
 refine TL.p Pu.no ?_
 refine TL.nil ?_
 refine TQ.nxt (hU5 _ _ ?_)
 refine TLi.nil ?_
 refine TQ.thenN (hY8 _ _ ?_)
 refine TW.condF rfl rfl ?_
 refine TW.skip ?_
 refine TQ.blkN ?_
 refine TQ.blkN ?_
 refine TQ.thenN (hY4 _ _ ?_)
 refine TW.region ?_
 refine TL.p Pu.ad ?_
 refine TL.p Pu.mv ?_
 refine TL.nil ?_
 refine TQ.thenN (hZ0 (k + 1) r _ _ ?_ ?_ fs9 ?_)
 exact (by omega)
 exact zom9
 first
  | (rw [hs.out]; exact KSub.refl _)
  | (rw [hs.out]; exact KSub.drop (KSub.refl _))
 intro x'
 refine TLi.op (fun U6 hU6 => ?_) (by rintro ⟨_, _, h⟩; first | exact h | (obtain ⟨⟨_, h⟩, _⟩ := h; cases h) | cases h)
 refine TL.p Pu.no ?_
 refine TL.nil ?_
 refine TQ.nxt (hU6 _ _ ?_)
 refine TLi.nil ?_
 refine TQ.thenN (hY8 _ _ ?_)
 refine TW.condT rfl rfl ?_
 refine TW.ret ?_
 refine TQ.blkR ?_
 refine TQ.blkR ?_
 refine TQ.thenR ?_
 refine TQ.thenR ?_
 refine TQ.blkR ?_
 refine TQ.ret Tryz.results116 rfl (.nil) ?_
 exact fun w hw => ⟨⟨_, rfl⟩, .inr ⟨x', hw.sub (KSub.dropL _ (KSub.refl _))⟩⟩
 try simp only [zcb9] at hc1
 have hn0 : ¬ (x k).u 0 = well := by omega
 refine TW.seq fun Y9 hY9 => TW.region ?_
 refine TL.p (by first | exact Pu.fb ty_fa107_1 | exact Pu.fe ty_fa107_1) ?_
 refine TL.p (by first | exact (Pu.ld ty_sc3) | exact (Pu.ldo ty_sc3)) ?_
 refine TL.p Pu.eq ?_
 refine TL.p Pu.as ?_
 refine TL.nil (TQ.thenN (hY9 _ _ ?_))
 refine TW.cond rfl (fun hc3 => ?_) (fun hc3 => ?_)
 try simp only [zcb9] at hc3
 have ha : atW (x k).u well := .inr (by omega)
 obtain ⟨hg1, hg2⟩ := ld_get (u := fun k => (x k).u) hkn ha
 rw [oth_to hn0 (by omega)] at hg2
 have hs : (ldL (fun k => (x k).u) well (k + 1)).length = (ldL (fun k => (x k).u) well k).length + 1 := by rw [ld_yes ha]; simp
 replace hg2 := hidT hg2
 replace hs := hidT hs
 refine TW.seq fun Y10 hY10 => ?_
 refine TW.regionI ?_
 refine TLi.op (fun U7 hU7 => ?_) (by rintro ⟨_, _, h⟩; first | exact h | (obtain ⟨⟨_, h⟩, _⟩ := h; cases h) | cases h)
 refine TL.p Pu.mv ?_
 refine TL.nil ?_
 refine TQ.nxt (hU7 _ _ ?_)
 refine TLi.op (fun U8 hU8 => ?_) (by rintro ⟨_, _, h⟩; first | exact h | (obtain ⟨⟨_, h⟩, _⟩ := h; cases h) | cases h)
 refine TL.p Pu.mv ?_
 refine TL.nil ?_
 refine TQ.nxt (hU8 _ _ ?_)
 refine TLi.op (fun U9 hU9 => ?_) (by rintro ⟨_, _, h⟩; first | exact h | (obtain ⟨⟨_, h⟩, _⟩ := h; cases h) | cases h)
 refine TL.p (by first | exact Pu.fb ty_fa107_0 | exact Pu.fe ty_fa107_0) ?_
 refine TL.nil ?_
 refine TQ.nxt (hU9 _ _ ?_)
 refine TLi.op (fun U10 hU10 => ?_) (by rintro ⟨_, _, h⟩; first | exact h | (obtain ⟨⟨_, h⟩, _⟩ := h; cases h) | cases h)
 refine TL.p (by first | exact (Pu.ld ty_sc3) | exact (Pu.ldo ty_sc3)) ?_
 refine TL.nil ?_
 refine TQ.nxt (hU10 _ _ ?_)
 refine TLi.yi rfl rfl (fun w hw => by
   have h9 := hround (ldL (fun k => (x k).u) well k).length () r w hg1 (hw.sub (KSub.drop (KSub.refl _)))
   simp only [hg2.out] at h9
   exact h9) ?_ ?_
 intro r
 refine TLi.op (fun U11 hU11 => ?_) (by rintro ⟨_, _, h⟩; first | exact h | (obtain ⟨⟨_, h⟩, _⟩ := h; cases h) | cases h)
 refine TL.p Pu.no ?_
 refine TL.nil ?_
 refine TQ.nxt (hU11 _ _ ?_)
 refine TLi.nil ?_
 refine TQ.thenN (hY10 _ _ ?_)
 refine TW.condF rfl rfl ?_
 refine TW.skip ?_
 refine TQ.blkN ?_
 refine TQ.blkN ?_
 refine TQ.thenN (hY4 _ _ ?_)
 refine TW.region ?_
 refine TL.p Pu.ad ?_
 refine TL.p Pu.mv ?_
 refine TL.nil ?_
 refine TQ.thenN (hZ0 (k + 1) r _ _ ?_ ?_ fs9 ?_)
 exact (by omega)
 exact zom9
 first
  | (rw [hs.out]; exact KSub.refl _)
  | (rw [hs.out]; exact KSub.drop (KSub.refl _))
 intro x'
 refine TLi.op (fun U12 hU12 => ?_) (by rintro ⟨_, _, h⟩; first | exact h | (obtain ⟨⟨_, h⟩, _⟩ := h; cases h) | cases h)
 refine TL.p Pu.no ?_
 refine TL.nil ?_
 refine TQ.nxt (hU12 _ _ ?_)
 refine TLi.nil ?_
 refine TQ.thenN (hY10 _ _ ?_)
 refine TW.condT rfl rfl ?_
 refine TW.ret ?_
 refine TQ.blkR ?_
 refine TQ.blkR ?_
 refine TQ.thenR ?_
 refine TQ.thenR ?_
 refine TQ.blkR ?_
 refine TQ.ret Tryz.results116 rfl (.nil) ?_
 exact fun w hw => ⟨⟨_, rfl⟩, .inr ⟨x', hw.sub (KSub.dropL _ (KSub.refl _))⟩⟩
 try simp only [zcb9] at hc3
 have ha : ¬ atW (x k).u well := fun h => h.elim hn0 (by omega)
 have hs : (ldL (fun k => (x k).u) well (k + 1)).length = (ldL (fun k => (x k).u) well k).length := by rw [ld_no ha]
 replace hs := hidT hs
 refine TW.skip ?_
 refine TQ.blkN ?_
 refine TQ.blkN ?_
 refine TQ.thenN (hY4 _ _ ?_)
 refine TW.region ?_
 refine TL.p Pu.ad ?_
 refine TL.p Pu.mv ?_
 refine TL.nil ?_
 refine TQ.thenN (hZ0 (k + 1) r _ _ ?_ ?_ fs9 ?_)
 exact (by omega)
 exact zom9
 first
  | (rw [hs.out]; exact KSub.refl _)
  | (rw [hs.out]; exact KSub.drop (KSub.refl _))
 try simp only [zcb9] at hc0
 obtain rfl : k = nl := by omega
 refine TW.exit ?_
 refine TQ.thenX ?_
 refine TQ.thenX ?_
 refine TQ.blkX ?_
 refine TQ.end Tryz.results116 rfl (.nil) ?_
 exact fun w hw => ⟨⟨_, rfl⟩, .inl ⟨r, hw.sub (KSub.drop (KSub.drop (KSub.refl _)))⟩⟩
end
section
variable {c : Cx} {Q : Exit → Act → World → Prop} {F F' : Fr} {K K' K0 : List Fact} {ops : Array Oper} {rest : List Oper} {d : Option Tmp} {ty : TypeId} {pos : String} {af : Array Edge} {g : Option (Nat × Bool)}
theorem TL.cvkg {f : FuncId} {x : Operand} {xs : List Operand} {ts : Array TypeId} {us fs cs : List Value} {M : List Fact} {X : Type} {val : X → Value} {L : X → List Fact} (hf : ev F x = some (.func (.func f) fs.toArray cs.toArray)) (hx : evs F xs = some us) (hen : Enters c.P f) (hM : K.Perm (M ++ K'))
  (hc : ∀ w, Sat c.S c.w0 K w → CallsK c.P f (fs ++ us ++ cs).toArray M w X val L) (h : ∀ x, TL c ops Q rest (fput F d (val x)) (L x ++ K')) (hg : gdB F ops g = some true := by rfl) (hd : dok d c.n = true := by rfl) : TL c ops Q (⟨d, .call { callee := .value x, args := xs.toArray, argTypes := ts }, ty, pos, af, g⟩ :: rest) F K := fun a w hF hK => by
 unfold wpList
 rw [if_pos (hF.wanted hg)]
 refine .inl ?_
 unfold Oper.wp
 rw [run_callv (hF.evl hf) (hF.evsl hx) hen rfl]
 refine Calls.mono (hc w hK) ?_
 rintro e w' ⟨x, rfl, hs⟩
 exact h x _ _ (hF.fput hd _) ((hK.perm hM).step hs)
theorem Pu.lbG {x y : Operand} {T kt et : TypeId} {kk : IntKind} {b n : Nat} {i : Int} {z : Value} {u : Bool} {l : Gl} (hT : MapT c.P T kt et kk) (hz : ∀ w, (zeroValue et).run c.P w = .ok z w) (hl : (mlook i (gl l)).getD z = .bool u) (hx : ev F x = some (.map (some b)) := by rfl) (hy : ev F y = some (.int kk i) := by rfl)
    (hp : Pick K (.obj b (gO kk l n)) K' := by repeat (first | exact Pick.hd | apply Pick.tl)) : Pu c F K ⟨d, .lookup T x y false, ty, pos, af, g⟩ (.bool u) := fun a w hF hK => by
  have hb : w.heap[b]? = some (gO kk l n) := (hK.holds _ hp.mem).1
  have hr := run_lookup_g (i := i) hT hb (hz w) false
  rw [← hl]
  simp [execOp, hF.evl hx, hF.evl hy, hr]
end
theorem arW_eq {x : Nat → Leg} {g : Nat → Nat → Nat → Int} {p0 t : Int} {k : Nat} : arW x g p0 k t = arV (lvF (g k) 1 2 t (dyS (x k).u p0) (x k).n) (dyS (x k).u p0) := by unfold arW; rw [Int.toNat_natCast]
theorem chg_below {S : List Nat} {w w' : World} {N : Nat} (h : Chg S w w') (hS : ∀ b ∈ S, N ≤ b) (hN : N ≤ w.heap.size) : Below N w w' := ⟨h.os, h.tape, h.output, h.size, fun k hk => h.block k (by omega) (fun hm => by have := hS k hm; omega)⟩
structure LokX (w0 w : World) (M : List Nat) (bU bT bB bC bL bm : Nat) (un to : Int) (car : List Value) (fv : Value) : Prop where
 bel : Below w0.heap.size w0 w
 ge : ∀ b ∈ M, w0.heap.size ≤ b
 oU : OldB w bU [.int .i64 un]
 oT : OldB w bT [.int .i64 to]
 oB : OldB w bB [.map (some bm)]
 oC : OldB w bC car
 oL : OldB w bL [fv]
 nU : bU ∉ M
 nT : bT ∉ M
 nB : bB ∉ M
 nC : bC ∉ M
 nL : bL ∉ M
theorem apart_of9 {S : List Nat} {b : Nat} (h : b ∉ S) : Apart S (some ⟨b, 0, none⟩) := fun q hq => by cases hq; exact h
theorem notin_sat9 {M M' : List Nat} {w w' : World} {K : List Fact} {q : Nat} (hs : Sat M w K w') (hM : ∀ b ∈ M', b ∈ feet K) (hq : q ∉ M) (hlt : q < w.heap.size) : q ∉ M' := fun hm => by
 rcases hs.ge q (hM q hm) with h | h
 · exact hq h
 · omega
theorem LokX.sat {w0 w w' : World} {M M' : List Nat} {bU bT bB bC bL bm : Nat} {un to : Int} {car : List Value} {fv : Value} {K : List Fact} (h : LokX w0 w M bU bT bB bC bL bm un to car fv) (hs : Sat M w K w') (hM : ∀ b ∈ M', b ∈ feet K) : LokX w0 w' M' bU bT bB bC bL bm un to car fv :=
 ⟨h.bel.trans (chg_below hs.chg h.ge h.bel.size), fun b hb => (hs.ge b (hM b hb)).elim (h.ge b) (fun h9 => Nat.le_trans h.bel.size h9), h.oU.sat hs h.nU, h.oT.sat hs h.nT, h.oB.sat hs h.nB, h.oC.sat hs h.nC, h.oL.sat hs h.nL,
  notin_sat9 hs hM h.nU h.oU.1, notin_sat9 hs hM h.nT h.oT.1, notin_sat9 hs hM h.nB h.oB.1, notin_sat9 hs hM h.nC h.oC.1, notin_sat9 hs hM h.nL h.oL.1⟩
abbrev LY : Type := (Option Addr × Nat) × (Nat → Option Addr) × (Nat → Nat) × Gl × Nat
abbrev LYs (been : List Int) : Type := { y : LY // gl y.2.2.2.1 = blM been }
def lokM (bA bm : Nat) (out : List (List Int)) (y : LY) : List Fact := [.blk bA 87 [.slice y.1.1 out.length y.1.2], .own y.1.1 out.length y.1.2 31 1 (lksR out y.2.1 y.2.2.1), bun (lksK out y.2.1 y.2.2.1), .obj bm (gO .i64 y.2.2.2.1 y.2.2.2.2)]
section
variable {w0 : World} {W A : Option Addr} {nw cw nl cl : Nat} {f : Nat → Nat → Int} {x : Nat → Leg} {g : Nat → Nat → Nat → Int} {p0 p1 un to : Int} {bU bT bA bB bC bL bm : Nat}
def LokOk (w0 : World) (W A : Option Addr) (nw cw nl cl : Nat) (x : Nat → Leg) (g : Nat → Nat → Nat → Int) (p0 p1 un to : Int) (bU bT bA bB bC bL bm r : Nat) : Prop :=
 ∀ (w : World) (well day : Int) (been way : List Int) (out : List (List Int)) (Aw : Option Addr) (cw9 : Nat) (y : LYs been), 0 ≤ well ∧ well < nw → 0 ≤ day ∧ day ≤ 100001 → well ∉ been → lftN nw been ≤ r → out.length ≤ 200 → way.length + r ≤ 1000 →
  Sat (feet (lokM bA bm out y.1)) w (lokM bA bm out y.1) w → LokX w0 w (feet (lokM bA bm out y.1)) bU bT bB bC bL bm un to (carL W nw cw A nl cl p0 p1) (.func (.func 70) #[] #[.pointer (some ⟨bU, 0, none⟩), .pointer (some ⟨bT, 0, none⟩), .pointer (some ⟨bA, 0, none⟩), .pointer (some ⟨bB, 0, none⟩), .pointer (some ⟨bC, 0, none⟩), .pointer (some ⟨bL, 0, none⟩)]) → RdR w 1 Aw way.length (iL way) → (0 < way.length → Apart (feet (lokM bA bm out y.1)) Aw) →
  CallsK Tryz.prog 70 #[.agg #[.int .i64 well, .int .i64 day], .slice Aw way.length cw9, .pointer (some ⟨bU, 0, none⟩), .pointer (some ⟨bT, 0, none⟩), .pointer (some ⟨bA, 0, none⟩), .pointer (some ⟨bB, 0, none⟩), .pointer (some ⟨bC, 0, none⟩), .pointer (some ⟨bL, 0, none⟩)] (lokM bA bm out y.1) w (LYs been) (fun _ => .bool (decide ((wys (fun v => ldL (fun k => (x k).u) v nl) (arW x g p0) to un r well day been way out).length ≤ 200))) (fun z => lokM bA bm (wys (fun v => ldL (fun k => (x k).u) v nl) (arW x g p0) to un r well day been way out) z.1)
set_option maxRecDepth 100000 in
set_option maxHeartbeats 8000000 in
theorem lok_step {r : Nat} (hL : LandIn w0 W nw A nl f x g) (hLg : LegsOk nw nl x g) (h0 : 1 ≤ p0) (h1 : p0 ≤ p1) (h2 : p1 ≤ 100000) (hun : un ≤ 100000)
  (ih : LokOk w0 W A nw cw nl cl x g p0 p1 un to bU bT bA bB bC bL bm r) : LokOk w0 W A nw cw nl cl x g p0 p1 un to bU bT bA bB bC bL bm (r + 1) := by
 rintro w well day been way out Aw cw9 ⟨⟨⟨A9, c9⟩, ia, ic, t, n⟩, hgl⟩ hwl hdy hnb hlf hol hwr hM hX hRw hAw
 replace hgl : gl t = blM been := hgl
 have hgl := hidT hgl
 have hX0 := hX
 obtain ⟨hbel, hge, oU, oT, oB, oC, oL, nU, nT, nB, nC, nL⟩ := hX
 have ap1 := apart_of9 nU
 have ap2 := apart_of9 nT
 have ap3 := apart_of9 nB
 have ap4 := apart_of9 nC
 have ap5 := apart_of9 nL
 have hLw := hL.ext hbel
 have hnl := hL.hnl
 have hRA := hLw.hA
 have hA0 : 0 < nl → Apart (feet (lokM bA bm out ((A9, c9), ia, ic, t, n))) A := fun h9 b hb hm => by
  obtain ⟨b', off, e, hlt, _⟩ := hL.hA.rd h9
  rw [e] at hb
  have hb : b' = b := by simpa using hb
  have := hge b hm
  omega
 have hwy0 : un < day → wys (fun v => ldL (fun k => (x k).u) v nl) (arW x g p0) to un (r + 1) well day been way out = out := fun h => if_pos h
 have hwy1 : ¬ un < day → well = to → wys (fun v => ldL (fun k => (x k).u) v nl) (arW x g p0) to un (r + 1) well day been way out = out ++ [way] := fun h h9 => by simp only [wys]; rw [if_neg h, if_pos h9]
 obtain ⟨oq, hoq⟩ : ∃ oq : Nat → List (List Int), oq = fun q => wysN (fun y o => wys (fun v => ldL (fun k => (x k).u) v nl) (arW x g p0) to un r y.2 (arW x g p0 y.1 day) (been ++ [well]) (way ++ [y.1]) o) (been ++ [well]) (ldL (fun k => (x k).u) well nl) out q := ⟨_, rfl⟩
 have hwy2 : ¬ un < day → ¬ well = to → wys (fun v => ldL (fun k => (x k).u) v nl) (arW x g p0) to un (r + 1) well day been way out = oq (ldL (fun k => (x k).u) well nl).length := fun h h9 => by simp only [wys]; rw [if_neg h, if_neg h9, hoq]
 have hoq0 : oq 0 = out := by rw [hoq]; rfl
 have hskip : ∀ q, (oq q).length ≤ 200 → ((ldL (fun k => (x k).u) well nl).getD q (0, 0)).2 ∈ been ++ [well] → oq (q + 1) = oq q := fun q h9 h8 => by rw [hoq] at h9 ⊢; exact wysN_skip (Nat.not_lt.2 h9) h8
 have hgo : ∀ q, (oq q).length ≤ 200 → ¬ ((ldL (fun k => (x k).u) well nl).getD q (0, 0)).2 ∈ been ++ [well] → oq (q + 1) = wys (fun v => ldL (fun k => (x k).u) v nl) (arW x g p0) to un r ((ldL (fun k => (x k).u) well nl).getD q (0, 0)).2 (arW x g p0 ((ldL (fun k => (x k).u) well nl).getD q (0, 0)).1 day) (been ++ [well]) (way ++ [((ldL (fun k => (x k).u) well nl).getD q (0, 0)).1]) (oq q) := fun q h9 h8 => by rw [hoq] at h9 ⊢; exact wysN_go (Nat.not_lt.2 h9) h8
 have hstop : ∀ q, 200 < (oq q).length → ∀ k, q ≤ k → oq k = oq q := fun q h9 => by rw [hoq] at h9 ⊢; exact wysN_stop h9
 replace hoq := hidT hoq
 replace hoq0 := hidT hoq0
 have hlf2 := lft_less hwl.1 hwl.2 hnb
 unfold carL at oC
 refine K_enterB (args := [.agg #[.int .i64 well, .int .i64 day], .slice Aw way.length cw9, .pointer (some ⟨bU, 0, none⟩), .pointer (some ⟨bT, 0, none⟩), .pointer (some ⟨bA, 0, none⟩), .pointer (some ⟨bB, 0, none⟩), .pointer (some ⟨bC, 0, none⟩), .pointer (some ⟨bL, 0, none⟩)]) (S := feet (lokM bA bm out ((A9, c9), ia, ic, t, n))) (K := [.blk bA 87 [.slice A9 out.length c9], .own A9 out.length c9 31 1 (lksR out ia ic), bun (lksK out ia ic), .obj bm (gO .i64 t n)]) Tryz.func70 rfl Tryz.ntmps70 rfl hM ?_
 refine TW.seqD fun Y1 hY1 => ?_
 refine TW.region ?_
 refine TL.m Mk.bx ?_
 intro b1
 refine TL.m Mk.bx ?_
 intro b2
 refine TL.m (Mk.al ty_zr4) ?_
 intro b3
 refine TL.nil ?_
 refine TQ.thenN (hY1 _ _ _ ?_)
 refine TW.seqD fun Y2 hY2 => ?_
 refine TW.seqD fun Y3 hY3 => ?_
 refine TW.region ?_
 refine TL.p (by first | exact Pu.fb ty_fa147_1 | exact Pu.fe ty_fa147_1) ?_
 refine TL.p (by first | exact (Pu.ld ty_sc3) | exact (Pu.ldo ty_sc3)) ?_
 refine TL.p (by first | exact (Pu.ld ty_sc3) | exact (Pu.ldo ty_sc3)) ?_
 refine TL.p Pu.gt ?_
 refine TL.nil ?_
 refine TQ.thenN (hY3 _ _ _ ?_)
 refine TW.cond rfl (fun hc0 => ?_) (fun hc0 => ?_)
 try simp only [zcb9] at hc0
 have hwz := hidT (hwy0 (by omega))
 refine TW.seqD fun Y4 hY4 => ?_
 refine TW.region ?_
 first | refine TL.st ty_sz4 ?_ | refine TL.se ty_sz4 ?_
 refine TL.nil ?_
 refine TQ.thenN (hY4 _ _ _ ?_)
 refine TW.ret ?_
 refine TQ.thenR ?_
 refine TQ.retB0 Tryz.results70 ((RV.c1 ty_sc4 .nil)) ?_
 exact fun w hw => ⟨⟨((A9, c9), ia, ic, t, n), hgl.out⟩, by rw [hwz.out, decide_eq_true hol]; rfl, by rw [hwz.out]; exact hw.sub ks9⟩
 try simp only [zcb9] at hc0
 have hnd : ¬ un < day := by omega
 refine TW.skip ?_
 refine TQ.thenN (hY2 _ _ _ ?_)
 refine TW.seqD fun Y5 hY5 => ?_
 refine TW.seqD fun Y6 hY6 => ?_
 refine TW.region ?_
 refine TL.p (by first | exact Pu.fb ty_fa147_0 | exact Pu.fe ty_fa147_0) ?_
 refine TL.p (by first | exact (Pu.ld ty_sc3) | exact (Pu.ldo ty_sc3)) ?_
 refine TL.p (by first | exact (Pu.ld ty_sc3) | exact (Pu.ldo ty_sc3)) ?_
 refine TL.p Pu.eq ?_
 refine TL.nil ?_
 refine TQ.thenN (hY6 _ _ _ ?_)
 refine TW.cond rfl (fun hc1 => ?_) (fun hc1 => ?_)
 try simp only [zcb9] at hc1
 have hwz := hidT (hwy1 hnd (by omega))
 refine TW.seqD fun Y7 hY7 => ?_
 refine TW.np ?_
 refine TW.dw 4 ?_
 refine RK.tk (by first | exact (Pu.ld ty_sc87) | exact (Pu.ldo ty_sc87)) ?_
 refine RK.tk (by first | exact (Pu.ld ty_sc31) | exact (Pu.ldo ty_sc31)) ?_
 refine RK.keep ?_
 refine RK.keep ?_
 refine RK.ch [false, false] ?_ trivial
 refine WK.call rfl (enters Tryz.func71 rfl rfl) rfl (fun w hw => by
   exact clone_way (by omega) (hRw.sat0 hw hAw)) ?_
 rintro ⟨A8, c8⟩
 refine WK.m Mk.bl ?_
 intro b4
 refine WK.n ?_
 first | refine TL.a0 ty_et87 ?_ | refine TL.ap ty_et87 ?_
 intro A5 c5
 first | refine TL.st ty_sz87 ?_ | refine TL.se ty_sz87 ?_
 refine TL.nil ?_
 refine TQ.npN ?_
 refine TQ.thenN (hY7 _ _ _ ?_)
 refine TW.seqD fun Y8 hY8 => ?_
 refine TW.region ?_
 refine tl_bunC (φ := .own A8 way.length c8 3 1 (iL way)) (L := lksK out ia ic) pk9 pk9 lks_app ?_
 refine TL.p (by first | exact (Pu.ld ty_sc87) | exact (Pu.ldo ty_sc87)) ?_
 refine TL.p (Pu.ln Tryz.underlying87) ?_
 refine TL.p Pu.le ?_
 first | refine TL.st ty_sz4 ?_ | refine TL.se ty_sz4 ?_
 refine TL.nil ?_
 refine TQ.thenN (hY8 _ _ _ ?_)
 refine TW.ret ?_
 refine TQ.thenR ?_
 refine TQ.retB0 Tryz.results70 ((RV.c1 ty_sc4 .nil)) ?_
 exact fun w hw => ⟨⟨((A5, c5), updA ia out.length A8, updA ic out.length c8, t, n), hgl.out⟩, by rw [hwz.out]; exact congrArg (fun b => Ending.returned (.bool b)) (decide_eq_decide.2 (by rw [List.length_append, List.length_singleton]; omega)), by rw [hwz.out]; simp only [lokM, List.length_append, List.length_singleton]; exact hw.sub (KSub.cons pk9 (KSub.own pk9 lks_row (KSub.cons pk9 (KSub.cons pk9 KSub.nil))))⟩
 try simp only [zcb9] at hc1
 have hwt : ¬ well = to := by omega
 refine TW.skip ?_
 refine TQ.thenN (hY5 _ _ _ ?_)
 refine TW.seqD fun Y9 hY9 => ?_
 refine TW.region ?_
 refine TL.p (by first | exact (Pu.ld ty_sc144) | exact (Pu.ldo ty_sc144)) ?_
 refine TL.p (by first | exact Pu.fb ty_fa147_0 | exact Pu.fe ty_fa147_0) ?_
 refine TL.p (by first | exact (Pu.ld ty_sc3) | exact (Pu.ldo ty_sc3)) ?_
 refine TL.muG ty_mp144 (fun t6 n6 h6 => ?_)
 rw [hgl.out, bl_put hnb] at h6
 replace h6 := hidT h6
 refine TL.nil ?_
 refine TQ.thenN (hY9 _ _ _ ?_)
 refine TW.seqD fun Y10 hY10 => ?_
 refine TW.region ?_
 refine TL.p (by first | exact (Pu.ld ty_sc144) | exact (Pu.ldo ty_sc144)) ?_
 refine TL.p (by first | exact Pu.fb ty_fa147_0 | exact Pu.fe ty_fa147_0) ?_
 refine TL.p (by first | exact (Pu.ld ty_sc3) | exact (Pu.ldo ty_sc3)) ?_
 refine TL.dfb rfl (fun co => ?_)
 refine TL.nil ?_
 refine TQ.thenN (hY10 _ _ _ ?_)
 refine TW.seqD fun Y11 hY11 => ?_
 refine TW.seqD fun Y12 hY12 => ?_
 refine TW.region ?_
 refine TL.p (by first | exact (Pu.lds ty_ag140) | exact (Pu.ldso ty_ag140)) ?_
 refine TL.p (by first | exact Pu.fb ty_fa147_0 | exact Pu.fe ty_fa147_0) ?_
 refine TL.p (by first | exact (Pu.ld ty_sc3) | exact (Pu.ldo ty_sc3)) ?_
 refine TL.call (M := []) rfl (enters Tryz.func72 rfl rfl) (List.Perm.refl _) rfl (fun w hw => by
   exact leads_any (W := W) (nw := nw) (cw := cw) (A := A) (nl := nl) (cl := cl) (p0 := p0) (p1 := p1) well) ?_
 rintro ⟨bc, bw⟩
 refine TL.nil ?_
 refine TQ.thenN (hY12 _ _ _ ?_)
 refine TW.block ?_
 refine TW.rangeR (fun (q : Nat) (y : LYs (been ++ [well])) => if (oq q).length ≤ 200 then .blk b1 147 [.int .i64 well, .int .i64 day] :: .blk b2 31 [.slice Aw way.length cw9] :: .blk b3 4 [.bool false] :: lokM bA bm (oq q) y.1 else [badT]) (fun _ : { q : Nat // q < (ldL (fun k => (x k).u) well nl).length ∧ 200 < (oq (q + 1)).length } × LYs (been ++ [well]) => Code.ret) (fun u => .blk b3 4 [.bool false] :: lokM bA bm (oq (u.1.1 + 1)) u.2.1) (⟨((A9, c9), ia, ic, t6, n6), h6.out⟩) (fun a b => leads2_iter (bc := bc) (bw := bw) (W := W) (nw := nw) (cw := cw) (cl := cl) (p0 := p0) (p1 := p1) (well := well) hRA hA0 hnl) ?_ ?_ ?_ ?_ (eg := enters Tryz.func116 rfl rfl)
 simp only [hoq0.out, if_pos hol, ledM, lokM, List.cons_append, List.nil_append]
 exact ks9
 rintro lR DR oR oR1 oR2 q gU y5 hq ZR0 hZR0
 by_cases hno : (oq q).length ≤ 200
 case neg => exact fun a w hF hK => (no_badT hK (by rw [if_neg hno]; simp)).elim
 obtain ⟨k, hk, e1, e2, e3⟩ := lead_at hLg hq
 have hsk := hskip q hno
 have hgo9 := hgo q hno
 obtain ⟨ld, hld⟩ : ∃ z, z = (ldL (fun k => (x k).u) well nl).getD q (0, 0) := ⟨_, rfl⟩
 rw [← hld] at e1 e2 e3 hsk hgo9
 simp only [← hld]
 clear hld
 obtain ⟨l1, ot⟩ := ld
 simp only at e1 e2 e3 hsk hgo9 ⊢
 subst e1
 have har := arW_bd hLg hk h0 h1 hdy
 obtain ⟨ar, har9⟩ : ∃ z, z = arW x g p0 k day := ⟨_, rfl⟩
 rw [← har9] at har hgo9
 replace har9 := hidT har9
 have hlk : (mlook ot (gl y5.1.2.2.2.1)).getD (.bool false) = .bool ((been ++ [well]).contains ot) := by rw [y5.2, bl_look]; by_cases h9 : ot ∈ been ++ [well]; (rw [if_pos h9, List.contains_eq_mem, decide_eq_true h9]; rfl); (rw [if_neg h9, List.contains_eq_mem, decide_eq_false h9]; rfl)
 obtain ⟨cb, hcb⟩ : ∃ b, b = (been ++ [well]).contains ot := ⟨_, rfl⟩
 rw [← hcb] at hlk
 have hsk2 : cb = true → oq (q + 1) = oq q := fun h => hsk (by rw [hcb] at h; simpa using h)
 have hnb2 : cb = false → ot ∉ been ++ [well] := fun h => by rw [hcb] at h; simpa using h
 have hgo2 : cb = false → oq (q + 1) = _ := fun h => hgo9 (hnb2 h)
 clear hcb hsk hgo9
 simp only [if_pos hno, ledM, lokM, List.cons_append, List.nil_append]
 refine TWi.seq fun Y13 hY13 => ?_
 refine TWi.region ?_
 refine TL.p Pu.as ?_
 refine TL.nil (TQ.thenN (hY13 _ _ ?_))
 refine TWi.region ?_
 refine TL.p Pu.as ?_
 refine TL.nil ?_
 refine TQ.thenN (hZR0 _ _ _ Pick.hd ?_)
 refine TWi.block ?_
 refine TWi.seq fun Y14 hY14 => ?_
 refine TWi.ex0k [.blk b1 147 [.int .i64 well, .int .i64 day], .blk b2 31 [.slice Aw way.length cw9]] ?_
 refine RG.tk 0 rfl (by first | exact (Pu.ld ty_sc144) | exact (Pu.ldo ty_sc144)) ?_
 refine RG.tk 1 rfl Pu.mv ?_
 refine RG.a1 2 rfl (fun X2 hX2 => ?_)
 refine TL.p (Pu.lbG ty_mp144 ty_zv4 hlk) ?_
 refine TL.nil ?_
 refine TQ.nxt (hX2 _ _ hl9 ?_)
 refine RG.tk 3 rfl Pu.no ?_
 refine RG.tk 4 rfl Pu.mv ?_
 refine RG.guard (t := 45) rfl (fun hg1 => ?_) (fun hg1 => ?_)
 try simp only [zgb9] at hg1
 refine RG.tk 5 rfl (by first | exact (Pu.ld ty_sc145) | exact (Pu.ldo ty_sc145)) ?_
 refine RG.tk 6 rfl Pu.mv ?_
 refine RG.tk 7 rfl (by first | exact (Pu.lds ty_ag140) | exact (Pu.ldso ty_ag140)) ?_
 refine RG.tk 8 rfl Pu.mv ?_
 refine RG.tk 9 rfl (by first | exact Pu.fb ty_fa147_1 | exact Pu.fe ty_fa147_1) ?_
 refine RG.tk 10 rfl (by first | exact (Pu.ld ty_sc3) | exact (Pu.ldo ty_sc3)) ?_
 refine RG.tk 11 rfl (by first | exact Pu.fb ty_fa147_1 | exact Pu.fe ty_fa147_1) ?_
 refine RG.tk 12 rfl (by first | exact (Pu.ld ty_sc3) | exact (Pu.ldo ty_sc3)) ?_
 refine RG.tk 13 rfl Pu.bd ?_
 refine RG.tk 17 rfl (by first | exact (Pu.ld ty_sc31) | exact (Pu.ldo ty_sc31)) ?_
 refine RG.tk 18 rfl Pu.mv ?_
 refine RG.a1 14 rfl (fun X14 hX14 => ?_)
 refine TL.cr rfl (enters Tryz.func73 rfl rfl) (fun w hw => by
   have hX9 := hX0.sat (M' := []) hw (fun b hb => by cases hb)
   have h9 := cArrive_any (cw := cw) (cl := cl) (p0 := p0) (p1 := p1) k day day hk (hL.ext hX9.bel) h0 h1 h2 (hLg.l k hk) hdy hdy
   rw [← arW_eq, ← har9.out] at h9
   exact h9) ?_
 refine TL.nil ?_
 refine TQ.nxt (hX14 _ _ hl9 ?_)
 refine RG.a2 15 19 rfl rfl (fun X15 hX15 => ?_) (fun X19 hX19 => ?_)
 refine TL.gd Pu.ix ?_
 refine TL.nil ?_
 refine TQ.nxt (hX15 _ _ hl9 ?_)
 refine RG.tk 16 rfl Pu.bd ?_
 refine RG.a1 19 rfl (fun X19 hX19 => ?_)
 refine TL.gck rfl (enters Tryz.func74 rfl rfl) (fun w hw => by
   exact more_any (by omega) (hRw.sat0 hw hAw)) ?_
 rintro ⟨A7, c7⟩
 refine TL.nil ?_
 refine TQ.nxt (hX19 _ _ hl9 ?_)
 refine RG.a1 20 rfl (fun X20 hX20 => ?_)
 refine TL.subK (K' := lokM bA bm (oq q) y5.1 ++ [.obj lR oR1, .obj DR oR2, .blk bc 140 (carL W nw cw A nl cl p0 p1), .blk bw 3 [.int .i64 well], .blk b1 147 [.int .i64 well, .int .i64 day], .blk b2 31 [.slice Aw way.length cw9], .blk b3 4 [.bool false], .own A7 (way ++ [(k : Int)]).length c7 3 1 (iL (way ++ [(k : Int)]))]) (by simp only [lokM, List.cons_append, List.nil_append]; exact ks9) ?_
 refine TL.cvkg (M := lokM bA bm (oq q) y5.1) (K' := [.obj lR oR1, .obj DR oR2, .blk bc 140 (carL W nw cw A nl cl p0 p1), .blk bw 3 [.int .i64 well], .blk b1 147 [.int .i64 well, .int .i64 day], .blk b2 31 [.slice Aw way.length cw9], .blk b3 4 [.bool false], .own A7 (way ++ [(k : Int)]).length c7 3 1 (iL (way ++ [(k : Int)]))]) rfl rfl (enters Tryz.func70 rfl rfl) (List.Perm.refl _) (fun w hw => by
  have hcf : cb = false := by assumption
  have hs := (Has.sat ⟨[.obj lR oR1, .obj DR oR2, .blk bc 140 (carL W nw cw A nl cl p0 p1), .blk bw 3 [.int .i64 well], .blk b1 147 [.int .i64 well, .int .i64 day], .blk b2 31 [.slice Aw way.length cw9], .blk b3 4 [.bool false], .own A7 (way ++ [(k : Int)]).length c7 3 1 (iL (way ++ [(k : Int)]))], List.Perm.refl _⟩ hw).self
  have h9 := ih w ot ar (been ++ [well]) (way ++ [(k : Int)]) (oq q) A7 c7 y5 ⟨e2, e3⟩ har (hnb2 hcf) (by omega) hno (by rw [List.length_append, List.length_singleton]; omega) hs (hX0.sat hw (fun b hb => by rw [feet_append]; exact List.mem_append_left _ hb)) (OwnR.rdr (hw.holds (.own A7 (way ++ [(k : Int)]).length c7 3 1 (iL (way ++ [(k : Int)]))) (by simp))) (fun _ => Sat.apartO hw (n := (way ++ [(k : Int)]).length) (c := c7) (E := 3) (sz := 1) (r := iL (way ++ [(k : Int)])) (by simp))
  rw [← hgo2 hcf] at h9
  exact h9) ?_
 intro y5
 simp only [lokM, List.cons_append, List.nil_append]
 refine TL.nil ?_
 refine TQ.nxt (hX20 _ _ hl9 ?_)
 refine RG.tk 21 rfl Pu.no ?_
 refine RG.tk 22 rfl Pu.kt ?_
 refine RG.nil ?_ (by kernel_rfl)
 refine TQ.thenN (hY14 _ _ ?_)
 refine TWi.cond rfl (fun hc2 => ?_) (fun hc2 => ?_)
 try simp only [zcb9] at hc2
 have hbig : 200 < (oq (q + 1)).length := by first | omega | (simp at hc2; omega)
 refine TWi.seq fun Y15 hY15 => ?_
 refine TWi.region ?_
 first | refine TL.st ty_sz4 ?_ | refine TL.se ty_sz4 ?_
 refine TL.nil (TQ.thenN (hY15 _ _ ?_))
 refine TWi.ret ?_
 refine TQ.blkR ?_
 refine TQ.rbR ((⟨q, hq, hbig⟩, y5)) rfl ?_
 simp only [ledM, lokM, List.cons_append, List.nil_append]
 exact ks9
 try simp only [zcb9] at hc2
 have hsm : (oq (q + 1)).length ≤ 200 := by first | omega | (simp at hc2; omega)
 refine TWi.skip ?_
 refine TQ.blkN ?_
 first
  | skip
 refine TQ.rbN (y5) ?_
 first
  | (simp only [if_pos hsm, ledM, lokM, List.cons_append, List.nil_append]; exact ks9)
  | (simp only [hsk2 (by assumption), if_pos hno, ledM, lokM, List.cons_append, List.nil_append]; exact ks9)
 refine TL.gck rfl (enters Tryz.func74 rfl rfl) (fun w hw => by
   exact more_any (by omega) (hRw.sat0 hw hAw)) ?_
 rintro ⟨A7, c7⟩
 refine TL.nil ?_
 refine TQ.nxt (hX19 _ _ hl9 ?_)
 refine RG.a1 15 rfl (fun X15 hX15 => ?_)
 refine TL.gd Pu.ix ?_
 refine TL.nil ?_
 refine TQ.nxt (hX15 _ _ hl9 ?_)
 refine RG.tk 16 rfl Pu.bd ?_
 refine RG.a1 20 rfl (fun X20 hX20 => ?_)
 refine TL.subK (K' := lokM bA bm (oq q) y5.1 ++ [.obj lR oR1, .obj DR oR2, .blk bc 140 (carL W nw cw A nl cl p0 p1), .blk bw 3 [.int .i64 well], .blk b1 147 [.int .i64 well, .int .i64 day], .blk b2 31 [.slice Aw way.length cw9], .blk b3 4 [.bool false], .own A7 (way ++ [(k : Int)]).length c7 3 1 (iL (way ++ [(k : Int)]))]) (by simp only [lokM, List.cons_append, List.nil_append]; exact ks9) ?_
 refine TL.cvkg (M := lokM bA bm (oq q) y5.1) (K' := [.obj lR oR1, .obj DR oR2, .blk bc 140 (carL W nw cw A nl cl p0 p1), .blk bw 3 [.int .i64 well], .blk b1 147 [.int .i64 well, .int .i64 day], .blk b2 31 [.slice Aw way.length cw9], .blk b3 4 [.bool false], .own A7 (way ++ [(k : Int)]).length c7 3 1 (iL (way ++ [(k : Int)]))]) rfl rfl (enters Tryz.func70 rfl rfl) (List.Perm.refl _) (fun w hw => by
  have hcf : cb = false := by assumption
  have hs := (Has.sat ⟨[.obj lR oR1, .obj DR oR2, .blk bc 140 (carL W nw cw A nl cl p0 p1), .blk bw 3 [.int .i64 well], .blk b1 147 [.int .i64 well, .int .i64 day], .blk b2 31 [.slice Aw way.length cw9], .blk b3 4 [.bool false], .own A7 (way ++ [(k : Int)]).length c7 3 1 (iL (way ++ [(k : Int)]))], List.Perm.refl _⟩ hw).self
  have h9 := ih w ot ar (been ++ [well]) (way ++ [(k : Int)]) (oq q) A7 c7 y5 ⟨e2, e3⟩ har (hnb2 hcf) (by omega) hno (by rw [List.length_append, List.length_singleton]; omega) hs (hX0.sat hw (fun b hb => by rw [feet_append]; exact List.mem_append_left _ hb)) (OwnR.rdr (hw.holds (.own A7 (way ++ [(k : Int)]).length c7 3 1 (iL (way ++ [(k : Int)]))) (by simp))) (fun _ => Sat.apartO hw (n := (way ++ [(k : Int)]).length) (c := c7) (E := 3) (sz := 1) (r := iL (way ++ [(k : Int)])) (by simp))
  rw [← hgo2 hcf] at h9
  exact h9) ?_
 intro y5
 simp only [lokM, List.cons_append, List.nil_append]
 refine TL.nil ?_
 refine TQ.nxt (hX20 _ _ hl9 ?_)
 refine RG.tk 21 rfl Pu.no ?_
 refine RG.tk 22 rfl Pu.kt ?_
 refine RG.nil ?_ (by kernel_rfl)
 refine TQ.thenN (hY14 _ _ ?_)
 refine TWi.cond rfl (fun hc2 => ?_) (fun hc2 => ?_)
 try simp only [zcb9] at hc2
 have hbig : 200 < (oq (q + 1)).length := by first | omega | (simp at hc2; omega)
 refine TWi.seq fun Y16 hY16 => ?_
 refine TWi.region ?_
 first | refine TL.st ty_sz4 ?_ | refine TL.se ty_sz4 ?_
 refine TL.nil (TQ.thenN (hY16 _ _ ?_))
 refine TWi.ret ?_
 refine TQ.blkR ?_
 refine TQ.rbR ((⟨q, hq, hbig⟩, y5)) rfl ?_
 simp only [ledM, lokM, List.cons_append, List.nil_append]
 exact ks9
 try simp only [zcb9] at hc2
 have hsm : (oq (q + 1)).length ≤ 200 := by first | omega | (simp at hc2; omega)
 refine TWi.skip ?_
 refine TQ.blkN ?_
 first
  | skip
 refine TQ.rbN (y5) ?_
 first
  | (simp only [if_pos hsm, ledM, lokM, List.cons_append, List.nil_append]; exact ks9)
  | (simp only [hsk2 (by assumption), if_pos hno, ledM, lokM, List.cons_append, List.nil_append]; exact ks9)
 try simp only [zgb9] at hg1
 refine RG.ts 5 rfl ?_
 refine RG.ts 6 rfl ?_
 refine RG.ts 7 rfl ?_
 refine RG.ts 8 rfl ?_
 refine RG.ts 9 rfl ?_
 refine RG.ts 10 rfl ?_
 refine RG.ts 11 rfl ?_
 refine RG.ts 12 rfl ?_
 refine RG.ts 13 rfl ?_
 refine RG.ts 14 rfl ?_
 refine RG.ts 15 rfl ?_
 refine RG.ts 16 rfl ?_
 refine RG.ts 17 rfl ?_
 refine RG.ts 18 rfl ?_
 refine RG.ts 19 rfl ?_
 refine RG.ts 20 rfl ?_
 refine RG.ts 21 rfl ?_
 refine RG.tk 22 rfl Pu.kf ?_
 refine RG.nil ?_ (by kernel_rfl)
 refine TQ.thenN (hY14 _ _ ?_)
 refine TWi.condF rfl rfl ?_
 refine TWi.skip ?_
 refine TQ.blkN ?_
 first
  | skip
 refine TQ.rbN (y5) ?_
 first
  | (simp only [if_pos hsm, ledM, lokM, List.cons_append, List.nil_append]; exact ks9)
  | (simp only [hsk2 (by assumption), if_pos hno, ledM, lokM, List.cons_append, List.nil_append]; exact ks9)
 rintro DR y5
 by_cases hno : (oq (ldL (fun k => (x k).u) well nl).length).length ≤ 200
 case neg => exact fun a w hF hK => (no_badT hK (by rw [if_neg hno]; simp)).elim
 simp only [if_pos hno, lokM, List.nil_append]
 refine TQ.blkN ?_
 refine TQ.thenN (hY11 _ _ _ ?_)
 refine TW.seqD fun Y17 hY17 => ?_
 refine TW.region ?_
 first | refine TL.st ty_sz4 ?_ | refine TL.se ty_sz4 ?_
 refine TL.nil ?_
 refine TQ.thenN (hY17 _ _ _ ?_)
 refine TW.ret ?_
 refine TQ.retB (D := DR) ty_mp144 Tryz.results70 pk9 pk9 (fun _ => (RV.c1 ty_sc4 .nil)) ?_
 exact fun l' hl' w hw => ⟨⟨((y5.1.1.1, y5.1.1.2), y5.1.2.1, y5.1.2.2.1, l', y5.1.2.2.2.2), by rw [hl', y5.2, bl_del hnb]⟩, by rw [hwy2 hnd hwt, decide_eq_true hno]; rfl, by rw [hwy2 hnd hwt]; simp only [lokM]; exact hw.sub ks9⟩
 rintro DR ⟨⟨u, hu1, hu2⟩, y5⟩
 simp only [lokM]
 refine TW.ret ?_
 refine TQ.blkR ?_
 refine TQ.thenR ?_
 refine TQ.retB (D := DR) ty_mp144 Tryz.results70 pk9 pk9 (fun _ => (RV.c1 ty_sc4 .nil)) ?_
 have hst := hstop (u + 1) hu2 (ldL (fun k => (x k).u) well nl).length (by omega)
 exact fun l' hl' w hw => ⟨⟨((y5.1.1.1, y5.1.1.2), y5.1.2.1, y5.1.2.2.1, l', y5.1.2.2.2.2), by rw [hl', y5.2, bl_del hnb]⟩, by rw [hwy2 hnd hwt, hst, decide_eq_false (Nat.not_le.2 hu2)]; rfl, by rw [hwy2 hnd hwt, hst]; simp only [lokM]; exact hw.sub ks9⟩
end
end Go.Proofs.YtfaenhhgkhcghaaGreatDoor
namespace Go.Proofs.YtfaenhhgkhcghaaGreatDoor
set_option linter.all false
set_option linter.unusedVariables false
set_option linter.unusedSimpArgs false
open Go.RowKit Go.MapKept
section
variable {w0 : World} {W A : Option Addr} {nw cw nl cl : Nat} {f : Nat → Nat → Int} {x : Nat → Leg} {g : Nat → Nat → Nat → Int} {p0 p1 un to : Int} {bU bT bA bB bC bL bm : Nat}
theorem lok_all (hL : LandIn w0 W nw A nl f x g) (hLg : LegsOk nw nl x g) (h0 : 1 ≤ p0) (h1 : p0 ≤ p1) (h2 : p1 ≤ 100000) (hun : un ≤ 100000) : ∀ r, LokOk w0 W A nw cw nl cl x g p0 p1 un to bU bT bA bB bC bL bm r
 | 0 => by
  intro w well day been way out Aw cw9 y hwl hdy hnb hlf
  have := lft_less hwl.1 hwl.2 hnb
  omega
 | r + 1 => lok_step hL hLg h0 h1 h2 hun (lok_all hL hLg h0 h1 h2 hun r)
end
theorem cntB_bd {p : Nat → Bool} : ∀ n, cntB p n ≤ n
 | 0 => Nat.le_refl _
 | n + 1 => by
  have := cntB_bd (p := p) n
  simp only [cntB]
  split <;> omega
def wsW (Y : Wy) (to un : Int) : List (List Int) := wys (fun v => ldL (fun k => (Y.x k).u) v Y.nl) (arW Y.x Y.g Y.p0) to un Y.nw Y.start Y.day [] [] []
def askW (Y : Wy) (to un : Int) : Bool := inB5 0 ((Y.nw : Int) - 1) Y.start && inB5 0 ((Y.nw : Int) - 1) to && (inB5 0 100000 Y.day && inB5 0 100000 un)
def wsC (Y : Wy) (to un : Int) : Int := if okY Y ≠ 0 then okY Y else if askW Y to un = false then 2 else if 200 < (wsW Y to un).length then 9 else 0
def wsL (Y : Wy) (to un : Int) : List (List Int) := if wsC Y to un = 0 then wsW Y to un else []
abbrev WX : Type := (Option Addr × Nat) × (Nat → Option Addr) × (Nat → Nat)
def wsK (L : List (List Int)) (y : WX) : List Fact := [.own y.1.1 L.length y.1.2 31 1 (lksR L y.2.1 y.2.2), bun (lksK L y.2.1 y.2.2)]
theorem ws_nil {w0 w : World} {K : List Fact} (h : Sat [] w0 K w) : Sat [] w0 (wsK [] ((none, 0), fun _ => none, fun _ => 0)) w :=
 (Sat.bun (K1 := []) (K := []) (h.sub KSub.nil)).sub (KSub.nilOwn (KSub.refl _))
theorem ws_bad {Y : Wy} {to un e : Int} {w0 w : World} {K : List Fact} (h : Sat [] w0 K w) (he : wsC Y to un = e) (h0 : e ≠ 0) : ∃ y : WX, Ending.returned (retV [.slice none 0 0, .int .i64 e]) = .returned (.tuple #[.slice y.1.1 (wsL Y to un).length y.1.2, .int .i64 (wsC Y to un)]) ∧ Sat [] w0 (wsK (wsL Y to un) y) w := by
 have e1 : wsL Y to un = [] := if_neg (by rw [he]; exact h0)
 rw [e1, he]
 exact ⟨((none, 0), fun _ => none, fun _ => 0), rfl, ws_nil h⟩
theorem legs_ok {Y : Wy} (h : okY Y = 0) : LegsOk Y.nw Y.nl Y.x Y.g := by
 have h1 : landOk Y.nw Y.nl Y.f Y.x Y.g = true := by
  unfold okY askC at h
  split at h
  · assumption
  · cases h
 unfold landOk at h1
 simp only [Bool.and_eq_true] at h1
 refine ⟨fun k hk => legIn_of (allB_iff.1 h1.2 k hk), fun k hk => ?_⟩
 have h2 := allB_iff.1 h1.2 k hk
 unfold legOk legHead inB5 at h2
 simp only [Bool.and_eq_true, decide_eq_true_eq] at h2
 omega
section
variable {Y : Wy} {to un : Int} {W A : Option Addr} {cw cl : Nat} {w : World}
set_option maxRecDepth 100000 in
set_option maxHeartbeats 4000000 in
theorem cWays_any (h : LandIn w W Y.nw A Y.nl Y.f Y.x Y.g) :
  CallsK Tryz.prog 34 #[.agg (landL W Y.nw cw A Y.nl cl).toArray, .int .i64 Y.start, .int .i64 to, .int .i64 Y.day, .int .i64 un, .agg #[.int .i64 Y.p0, .int .i64 Y.p1]] [] w WX (fun y => .tuple #[.slice y.1.1 (wsL Y to un).length y.1.2, .int .i64 (wsC Y to un)]) (fun y => wsK (wsL Y to un) y) := by
 have hnw := h.hnw
 by_cases hok : okY Y = 0
 case neg =>
  have hwc : wsC Y to un = okY Y := if_pos hok
  unfold landL
  refine K_enter (S := []) (K := []) Tryz.func34 rfl Tryz.ntmps34 rfl (Sat.start _) ?_
  refine TW.seq fun Y1 hY1 => TW.region ?_
  refine TL.m Mk.bx ?_
  intro b1
  refine TL.m Mk.bx ?_
  intro b2
  refine TL.m Mk.bx ?_
  intro b3
  refine TL.m Mk.bx ?_
  intro b4
  refine TL.p Pu.as ?_
  refine TL.p Pu.as ?_
  refine TL.nil (TQ.thenN (hY1 _ _ ?_))
  refine TW.seq fun Y2 hY2 => TW.region ?_
  refine TL.p (Pu.lds ty_ag25) ?_
  refine TL.p (Pu.lds ty_ag36) ?_
  refine TL.cr rfl (enters Tryz.func68 rfl rfl) (fun w hw => by
   exact cOpen_bad (h.ext (Chg.ext hw.chg)) hok) ?_
  refine TL.p Pu.mv ?_
  refine TL.p Pu.ex ?_
  refine TL.p Pu.ex ?_
  refine TL.m (Mk.al ty_zr140) ?_
  intro b5
  first | refine TL.st ty_sz140 ?_ | refine TL.se ty_sz140 ?_
  refine TL.p Pu.as ?_
  refine TL.nil (TQ.thenN (hY2 _ _ ?_))
  refine TW.seq fun Y3 hY3 => ?_
  refine TW.block ?_
  refine TW.seq fun Y4 hY4 => TW.region ?_
  refine TL.p Pu.mv ?_
  refine TL.p Pu.ne ?_
  refine TL.p Pu.as ?_
  refine TL.nil (TQ.thenN (hY4 _ _ ?_))
  refine TW.condT rfl ((by show (!decide (okY Y = 0)) = true; simp [hok])) ?_
  refine TW.seq fun Y5 hY5 => TW.region ?_
  refine TL.p Pu.mv ?_
  refine TL.p Pu.as ?_
  refine TL.p Pu.as ?_
  refine TL.nil (TQ.thenN (hY5 _ _ ?_))
  refine TW.ret ?_
  refine TQ.blkR ?_
  refine TQ.thenR ?_
  refine TQ.ret Tryz.results34 rfl ((.tmp rfl (.tmp rfl .nil))) ?_
  exact fun w hw => ws_bad hw hwc hok
 case pos =>
  have ho := wyOk_of hok
  have hLg := legs_ok hok
  unfold landL
  refine K_enter (S := []) (K := []) Tryz.func34 rfl Tryz.ntmps34 rfl (Sat.start _) ?_
  refine TW.seq fun Y1 hY1 => TW.region ?_
  refine TL.m Mk.bx ?_
  intro b1
  refine TL.m Mk.bx ?_
  intro b2
  refine TL.m Mk.bx ?_
  intro b3
  refine TL.m Mk.bx ?_
  intro b4
  refine TL.p Pu.as ?_
  refine TL.p Pu.as ?_
  refine TL.nil (TQ.thenN (hY1 _ _ ?_))
  refine TW.seq fun Y2 hY2 => TW.region ?_
  refine TL.p (Pu.lds ty_ag25) ?_
  refine TL.p (Pu.lds ty_ag36) ?_
  refine TL.cr rfl (enters Tryz.func68 rfl rfl) (fun w hw => by
   have h9 := cOpen_ok (cw := cw) (cl := cl) (h.ext (Chg.ext hw.chg)) hok
   unfold carL at h9
   exact h9) ?_
  refine TL.p Pu.mv ?_
  refine TL.p Pu.ex ?_
  refine TL.p Pu.ex ?_
  refine TL.m (Mk.al ty_zr140) ?_
  intro b5
  first | refine TL.st ty_sz140 ?_ | refine TL.se ty_sz140 ?_
  refine TL.p Pu.as ?_
  refine TL.nil (TQ.thenN (hY2 _ _ ?_))
  refine TW.seq fun Y3 hY3 => ?_
  refine TW.block ?_
  refine TW.seq fun Y4 hY4 => TW.region ?_
  refine TL.p Pu.mv ?_
  refine TL.p Pu.ne ?_
  refine TL.p Pu.as ?_
  refine TL.nil (TQ.thenN (hY4 _ _ ?_))
  refine TW.condF rfl ((by simp)) ?_
  refine TW.seq fun Y5 hY5 => ?_
  refine TW.join [(29, .bool (!askW Y to un))] ?_ (fun hJ1 => ?_)
  refine TQ.thenN (hY5 _ _ ?_)
  refine TW.cond rfl (fun hc1 => ?_) (fun hc1 => ?_)
  try simp only [zcb9] at hc1
  have hb : askW Y to un = false := by simpa using hc1
  have hwc : wsC Y to un = 2 := by unfold wsC; rw [if_neg (by omega), if_pos hb]
  refine TW.seq fun Y6 hY6 => TW.region ?_
  refine TL.p Pu.as ?_
  refine TL.p Pu.as ?_
  refine TL.nil (TQ.thenN (hY6 _ _ ?_))
  refine TW.ret ?_
  refine TQ.blkR ?_
  refine TQ.thenR ?_
  refine TQ.ret Tryz.results34 rfl ((.tmp rfl (.tmp rfl .nil))) ?_
  exact fun w hw => ws_bad hw hwc (by decide)
  try simp only [zcb9] at hc1
  have hb : askW Y to un = true := by simpa using hc1
  have hwc : wsC Y to un = if 200 < (wsW Y to un).length then 9 else 0 := by unfold wsC; rw [if_neg (by omega), if_neg (by rw [hb]; simp)]
  have hb9 := hb
  unfold askW inB5 at hb9
  simp only [Bool.and_eq_true, decide_eq_true_eq] at hb9
  replace hwc := hidT hwc
  refine TW.skip ?_
  refine TQ.blkN ?_
  refine TQ.thenN (hY3 _ _ ?_)
  refine TW.seq fun Y7 hY7 => TW.region ?_
  refine TL.m (Mk.al ty_zr87) ?_
  intro b6
  refine TL.nil (TQ.thenN (hY7 _ _ ?_))
  refine TW.seq fun Y8 hY8 => TW.region ?_
  refine TL.mmG (kk := .i64) ?_
  intro bm
  refine TL.m (Mk.al ty_zr144) ?_
  intro b7
  first | refine TL.st ty_sz144 ?_ | refine TL.se ty_sz144 ?_
  refine TL.nil (TQ.thenN (hY8 _ _ ?_))
  refine TW.seq fun Y9 hY9 => TW.region ?_
  refine TL.m (Mk.al ty_zr145) ?_
  intro b8
  refine TL.nil (TQ.thenN (hY9 _ _ ?_))
  refine TW.seq fun Y10 hY10 => TW.region ?_
  refine TL.p Pu.fn ?_
  first | refine TL.st ty_sz145 ?_ | refine TL.se ty_sz145 ?_
  refine TL.nil (TQ.thenN (hY10 _ _ ?_))
  refine TW.seq fun Y11 hY11 => ?_
  refine TW.seq fun Y12 hY12 => TW.region ?_
  refine TL.p (Pu.ld ty_sc145) ?_
  refine TL.p Pu.mv ?_
  refine TL.p Pu.mv ?_
  refine TL.p Pu.bd ?_
  refine TL.bun (K1 := []) ?_
  refine TL.subK (K' := lokM b6 bm [] ((none, 0), fun _ => none, fun _ => 0, [], 0) ++ [.blk b8 145 [.func (.func 70) #[] #[.pointer (some ⟨b3, 0, none⟩), .pointer (some ⟨b2, 0, none⟩), .pointer (some ⟨b6, 0, none⟩), .pointer (some ⟨b7, 0, none⟩), .pointer (some ⟨b5, 0, none⟩), .pointer (some ⟨b8, 0, none⟩)]], .blk b7 144 [.map (some bm)], .blk b5 140 [.slice W Y.nw cw, .slice A Y.nl cl, .int .i64 Y.p0, .int .i64 Y.p1], .blk b3 3 [.int .i64 un], .blk b2 3 [.int .i64 to]]) (by simp only [lokM, List.cons_append, List.nil_append]; exact KSub.cons pk9 (KSub.nilOwn (KSub.cons pk9 ks9))) ?_
  refine TL.cvk rfl rfl (enters Tryz.func70 rfl rfl) (M := lokM b6 bm [] ((none, 0), fun _ => none, fun _ => 0, [], 0)) (K' := [.blk b8 145 [.func (.func 70) #[] #[.pointer (some ⟨b3, 0, none⟩), .pointer (some ⟨b2, 0, none⟩), .pointer (some ⟨b6, 0, none⟩), .pointer (some ⟨b7, 0, none⟩), .pointer (some ⟨b5, 0, none⟩), .pointer (some ⟨b8, 0, none⟩)]], .blk b7 144 [.map (some bm)], .blk b5 140 [.slice W Y.nw cw, .slice A Y.nl cl, .int .i64 Y.p0, .int .i64 Y.p1], .blk b3 3 [.int .i64 un], .blk b2 3 [.int .i64 to]]) (List.Perm.refl _) (fun w hw => by
   have hs := (Has.sat ⟨[.blk b8 145 [.func (.func 70) #[] #[.pointer (some ⟨b3, 0, none⟩), .pointer (some ⟨b2, 0, none⟩), .pointer (some ⟨b6, 0, none⟩), .pointer (some ⟨b7, 0, none⟩), .pointer (some ⟨b5, 0, none⟩), .pointer (some ⟨b8, 0, none⟩)]], .blk b7 144 [.map (some bm)], .blk b5 140 [.slice W Y.nw cw, .slice A Y.nl cl, .int .i64 Y.p0, .int .i64 Y.p1], .blk b3 3 [.int .i64 un], .blk b2 3 [.int .i64 to]], List.Perm.refl _⟩ hw).self
   have hX : LokX _ _ (feet (lokM b6 bm [] ((none, 0), fun _ => none, fun _ => 0, [], 0))) b3 b2 b7 b5 b8 bm un to (carL W Y.nw cw A Y.nl cl Y.p0 Y.p1) (.func (.func 70) #[] #[.pointer (some ⟨b3, 0, none⟩), .pointer (some ⟨b2, 0, none⟩), .pointer (some ⟨b6, 0, none⟩), .pointer (some ⟨b7, 0, none⟩), .pointer (some ⟨b5, 0, none⟩), .pointer (some ⟨b8, 0, none⟩)]) := ⟨hw.chg.ext, fun b hb => (hw.ge b (by rw [feet_append]; exact List.mem_append_left _ hb)).elim (fun h9 => by cases h9) id, OldB.of_blk (hw.holds (.blk b3 3 [.int .i64 un]) (by simp)), OldB.of_blk (hw.holds (.blk b2 3 [.int .i64 to]) (by simp)), OldB.of_blk (hw.holds (.blk b7 144 [.map (some bm)]) (by simp)), OldB.of_blk (hw.holds (.blk b5 140 [.slice W Y.nw cw, .slice A Y.nl cl, .int .i64 Y.p0, .int .i64 Y.p1]) (by simp)), OldB.of_blk (hw.holds (.blk b8 145 [.func (.func 70) #[] #[.pointer (some ⟨b3, 0, none⟩), .pointer (some ⟨b2, 0, none⟩), .pointer (some ⟨b6, 0, none⟩), .pointer (some ⟨b7, 0, none⟩), .pointer (some ⟨b5, 0, none⟩), .pointer (some ⟨b8, 0, none⟩)]]) (by simp)), Sat.apartB hw (t := 3) (cs := [.int .i64 un]) (by simp) b3 rfl, Sat.apartB hw (t := 3) (cs := [.int .i64 to]) (by simp) b2 rfl, Sat.apartB hw (t := 144) (cs := [.map (some bm)]) (by simp) b7 rfl, Sat.apartB hw (t := 140) (cs := [.slice W Y.nw cw, .slice A Y.nl cl, .int .i64 Y.p0, .int .i64 Y.p1]) (by simp) b5 rfl, Sat.apartB hw (t := 145) (cs := [.func (.func 70) #[] #[.pointer (some ⟨b3, 0, none⟩), .pointer (some ⟨b2, 0, none⟩), .pointer (some ⟨b6, 0, none⟩), .pointer (some ⟨b7, 0, none⟩), .pointer (some ⟨b5, 0, none⟩), .pointer (some ⟨b8, 0, none⟩)]]) (by simp) b8 rfl⟩
   have h9 := lok_all (bU := b3) (bT := b2) (bA := b6) (bB := b7) (bC := b5) (bL := b8) (bm := bm) (un := un) (to := to) (cw := cw) (cl := cl) h hLg ho.h0 ho.h1 ho.h2 (by omega) Y.nw _ Y.start Y.day [] [] [] none 0 ⟨((none, 0), fun _ => none, fun _ => 0, [], 0), rfl⟩ ⟨by omega, by omega⟩ ⟨by omega, by omega⟩ (by simp) (cntB_bd _) (by simp) (by simp; omega) hs hX ⟨Rd.nil, fun i hi => absurd hi (Nat.not_lt_zero i)⟩ (fun h9 => absurd h9 (Nat.not_lt_zero 0))
   rw [show wys (fun v => ldL (fun k => (Y.x k).u) v Y.nl) (arW Y.x Y.g Y.p0) to un Y.nw Y.start Y.day [] [] [] = wsW Y to un from rfl] at h9
   exact h9) ?_
  rintro ⟨⟨⟨A9, c9⟩, ia, ic, t, n⟩, hgl⟩
  simp only [lokM, List.cons_append, List.nil_append]
  refine TL.p Pu.no ?_
  refine TL.nil (TQ.thenN (hY12 _ _ ?_))
  refine TW.cond rfl (fun hc2 => ?_) (fun hc2 => ?_)
  try simp only [zcb9] at hc2
  have hbig : 200 < (wsW Y to un).length := by first | omega | (simp at hc2; omega)
  have hwd : wsC Y to un = 9 := by rw [hwc.out, if_pos hbig]
  refine TW.seq fun Y13 hY13 => TW.region ?_
  refine TL.p Pu.as ?_
  refine TL.p Pu.as ?_
  refine TL.nil (TQ.thenN (hY13 _ _ ?_))
  refine TW.ret ?_
  refine TQ.thenR ?_
  refine TQ.ret Tryz.results34 rfl ((.tmp rfl (.tmp rfl .nil))) ?_
  exact fun w hw => ws_bad hw hwd (by decide)
  try simp only [zcb9] at hc2
  have hsm : ¬ 200 < (wsW Y to un).length := by first | omega | (simp at hc2; omega)
  have hwd : wsC Y to un = 0 := by rw [hwc.out, if_neg hsm]
  have hld : wsL Y to un = wsW Y to un := if_pos hwd
  refine TW.skip ?_
  refine TQ.thenN (hY11 _ _ ?_)
  refine TW.seq fun Y14 hY14 => TW.region ?_
  refine TL.p (Pu.ld ty_sc87) ?_
  refine TL.p Pu.as ?_
  refine TL.p Pu.as ?_
  refine TL.nil (TQ.thenN (hY14 _ _ ?_))
  refine TW.ret ?_
  refine TQ.ret Tryz.results34 rfl ((.tmp rfl (.tmp rfl .nil))) ?_
  exact fun w hw => ⟨((A9, c9), ia, ic), by rw [hwd, hld]; rfl, by rw [hld]; exact hw.sub (KSub.cons pk9 (KSub.cons pk9 KSub.nil))⟩
  refine TW.region ?_
  refine TL.p (by first | exact Pu.fb ty_fa25_0 | exact Pu.fe ty_fa25_0) ?_
  refine TL.p (Pu.ld ty_sc22) ?_
  refine TL.p (Pu.ln Tryz.underlying22) ?_
  refine TL.p Pu.sb ?_
  refine TL.p Pu.mv ?_
  refine TL.p (Pu.ld ty_sc3) ?_
  refine TL.m Mk.bl ?_
  intro b9
  refine TL.cr rfl (enters Tryz.func69 rfl rfl) (fun w hw => by
   exact fromTwo_any _ _ _ _ (hw.holds _ (List.mem_cons_self ..))) ?_
  refine TL.p Pu.no ?_
  refine TL.p Pu.mv ?_
  refine TL.guard (t := 39) rfl (fun hg1 => ?_) (fun hg1 => ?_)
  refine TL.gs ?_
  refine TL.gs ?_
  refine TL.gs ?_
  refine TL.gs ?_
  refine TL.gs ?_
  refine TL.p Pu.kt ?_
  refine TL.p Pu.as ?_
  refine TL.nil ?_
  exact TQ.sub (by repeat (first | exact trivial | refine ⟨rfl, ?_⟩ | refine ⟨trivial, ?_⟩ | refine ⟨(by show some (Value.bool _) = some (Value.bool _); first | (simp [hg1, askW]; done) | (refine congrArg (fun z => some (Value.bool z)) (Bool.eq_iff_iff.2 ?_); simp [hg1, askW]; omega)), ?_⟩)) ks9 hJ1
  refine TL.gd Pu.mv ?_
  refine TL.gd (Pu.ld ty_sc3) ?_
  refine TL.gm Mk.bl ?_
  intro b10
  refine TL.cr rfl (enters Tryz.func69 rfl rfl) (fun w hw => by
   exact fromTwo_any _ _ _ _ (hw.holds _ (List.mem_cons_self ..))) ?_
  refine TL.gd Pu.no ?_
  refine TL.p Pu.kf ?_
  refine TL.p Pu.as ?_
  refine TL.nil ?_
  exact TQ.sub (by repeat (first | exact trivial | refine ⟨rfl, ?_⟩ | refine ⟨trivial, ?_⟩ | refine ⟨(by show some (Value.bool _) = some (Value.bool _); first | (simp [hg1, askW]; done) | (refine congrArg (fun z => some (Value.bool z)) (Bool.eq_iff_iff.2 ?_); simp [hg1, askW]; omega)), ?_⟩)) ks9 hJ1
end
end Go.Proofs.YtfaenhhgkhcghaaGreatDoor
namespace Go.Proofs.YtfaenhhgkhcghaaGreatDoor
set_option linter.all false
set_option linter.unusedVariables false
set_option linter.unusedSimpArgs false
open Go.RowKit
def wsV (Y : Wy) (v : List Int) : Wy := { Y with n := v.length, ls := fun k => v.getD k 0 }
theorem getI_app {v : List Int} {a : Int} {k : Nat} (h : k < v.length) : (v ++ [a]).getD k 0 = v.getD k 0 := by
 rw [List.getD_eq_getElem?_getD, List.getD_eq_getElem?_getD, List.getElem?_append_left h]
theorem getI_last {v : List Int} {a : Int} : (v ++ [a]).getD v.length 0 = a := by
 rw [List.getD_eq_getElem?_getD, List.getElem?_append_right (Nat.le_refl _), Nat.sub_self]
 rfl
section
variable {Y : Wy} {v : List Int} {a : Int} {un to : Int}
theorem wl_app : ∀ k, k ≤ v.length → wlY (wsV Y (v ++ [a])) k = wlY (wsV Y v) k
 | 0, _ => rfl
 | k + 1, h => by
  have ih := wl_app k (by omega)
  rw [wlY_s, wlY_s, ih]
  show endV Y.nl (uY Y) ((v ++ [a]).getD k 0) _ = endV Y.nl (uY Y) (v.getD k 0) _
  rw [getI_app (by omega)]
theorem at_s (Y : Wy) (k : Nat) : atSY Y (k + 1) = arW Y.x Y.g Y.p0 (Y.ls k) (atSY Y k) := rfl
theorem at_app : ∀ k, k ≤ v.length → atSY (wsV Y (v ++ [a])) k = atSY (wsV Y v) k
 | 0, _ => rfl
 | k + 1, h => by
  have ih := at_app k (by omega)
  rw [at_s, at_s, ih]
  show arW Y.x Y.g Y.p0 ((v ++ [a]).getD k 0) _ = arW Y.x Y.g Y.p0 (v.getD k 0) _
  rw [getI_app (by omega)]
theorem wl_last : wlY (wsV Y (v ++ [a])) (v.length + 1) = endV Y.nl (uY Y) a (wlY (wsV Y v) v.length) := by
 rw [wlY_s, wl_app _ (Nat.le_refl _)]
 show endV Y.nl (uY Y) ((v ++ [a]).getD v.length 0) _ = _
 rw [getI_last]
theorem at_last : atSY (wsV Y (v ++ [a])) (v.length + 1) = arW Y.x Y.g Y.p0 a (atSY (wsV Y v) v.length) := by
 rw [at_s, at_app _ (Nat.le_refl _)]
 show arW Y.x Y.g Y.p0 ((v ++ [a]).getD v.length 0) _ = _
 rw [getI_last]
def GoodW (Y : Wy) (un : Int) (v : List Int) : Prop := v.length ≤ Y.nw ∧ ∀ k, k < v.length → 0 ≤ wlY (wsV Y v) (k + 1) ∧ atSY (wsV Y v) (k + 1) ≤ un
structure OnW (Y : Wy) (un : Int) (v : List Int) (well day : Int) : Prop where
 w : wlY (wsV Y v) v.length = well
 d : atSY (wsV Y v) v.length = day
 p : ∀ k, k < v.length → 0 ≤ wlY (wsV Y v) (k + 1)
 t : ∀ k, k + 1 < v.length → atSY (wsV Y v) (k + 1) ≤ un
theorem OnW.good {well day : Int} (h : OnW Y un v well day) (hd : day ≤ un) (hn : v.length ≤ Y.nw) : GoodW Y un v := ⟨hn, fun k hk => ⟨h.p k hk, by
 by_cases e : k + 1 = v.length
 · rw [e, h.d]; exact hd
 · exact h.t k (by omega)⟩⟩
theorem OnW.step {well day : Int} (h : OnW Y un v well day) (hd : day ≤ un) {k : Nat} (hk : k < Y.nl) (hw : atW (Y.x k).u well) (he : 0 ≤ othV (Y.x k).u well) : OnW Y un (v ++ [(k : Int)]) (othV (Y.x k).u well) (arW Y.x Y.g Y.p0 k day) := by
  have hl : (v ++ [(k : Int)]).length = v.length + 1 := by rw [List.length_append]; rfl
  have e9 : endV Y.nl (uY Y) (k : Int) well = othV (Y.x k).u well := by
    unfold endV
    rw [if_pos ⟨by omega, by omega⟩, Int.toNat_natCast]
    rfl
  refine ⟨?_, ?_, fun j hj => ?_, fun j hj => ?_⟩
  · rw [hl, wl_last, h.w, e9]
  · rw [hl, at_last, h.d]
  · rw [hl] at hj
    by_cases e : j = v.length
    · subst e
      rw [wl_last, h.w, e9]
      exact he
    · rw [wl_app _ (by omega)]
      exact h.p j (by omega)
  · rw [hl] at hj
    rw [at_app _ (by omega)]
    by_cases e : j + 1 = v.length
    · rw [e, h.d]; exact hd
    · exact h.t j (by omega)
theorem wys_good (hLg : LegsOk Y.nw Y.nl Y.x Y.g) : ∀ (r : Nat) (well day : Int) (been way : List Int) (out : List (List Int)), OnW Y un way well day → way.length + r ≤ Y.nw → (∀ v, v ∈ out → GoodW Y un v) →
    ∀ v, v ∈ wys (fun v => ldL (fun k => (Y.x k).u) v Y.nl) (arW Y.x Y.g Y.p0) to un r well day been way out → GoodW Y un v
  | 0, _, _, _, _, _, _, _, ho => ho
  | r + 1, well, day, been, way, out, h, hn, ho => by
    simp only [wys]
    by_cases hd : un < day
    · rw [if_pos hd]; exact ho
    · rw [if_neg hd]
      by_cases ht : well = to
      · rw [if_pos ht]
        intro v hv
        rcases List.mem_append.1 hv with hv | hv
        · exact ho v hv
        · rw [List.mem_singleton.1 hv]; exact h.good (by omega) (by omega)
      · rw [if_neg ht]
        have key : ∀ q, q ≤ (ldL (fun k => (Y.x k).u) well Y.nl).length → ∀ v, v ∈ wysN (fun y o => wys (fun v => ldL (fun k => (Y.x k).u) v Y.nl) (arW Y.x Y.g Y.p0) to un r y.2 (arW Y.x Y.g Y.p0 y.1 day) (been ++ [well]) (way ++ [y.1]) o) (been ++ [well]) (ldL (fun k => (Y.x k).u) well Y.nl) out q → GoodW Y un v := by
          intro q
          induction q with
          | zero => exact fun _ => ho
          | succ q ih =>
            intro hq
            have ih := ih (by omega)
            simp only [wysN]
            split
            · exact ih
            · split
              · exact ih
              · obtain ⟨k, hk, ha, e⟩ := ld_in Y.nl (getD_in (L := ldL (fun k => (Y.x k).u) well Y.nl) (q := q) (by omega))
                have he : 0 ≤ othV (Y.x k).u well := by
                  have := hLg.e k hk
                  unfold othV
                  rcases ha with ha | ha
                  · rw [if_pos ha]; omega
                  · split
                    · omega
                    · omega
                have h9 := h.step (by omega) hk ha he
                rw [e]
                exact wys_good hLg r _ _ _ _ _ h9 (by rw [List.length_append, List.length_singleton]; omega) ih
        exact key _ (Nat.le_refl _)
theorem good_wk (hok : okY Y = 0) (hb : begY Y = true) (hun : un ≤ 100000) (h : GoodW Y un v) : wkC (wsV Y v) = 0 := by
 have hnw : Y.nw ≤ 12 := by
   unfold okY askC at hok
   split at hok
   · next h1 =>
     unfold landOk inB5 at h1
     simp only [Bool.and_eq_true, decide_eq_true_eq] at h1
     omega
   · cases hok
 refine wkC_ok (Y := wsV Y v) hok hb ?_ ?_ ?_
 · show ¬ 24 < v.length
   have := h.1
   omega
 · unfold lostY
   cases e : exB (wsV Y v).n fun k => decide (wlY (wsV Y v) (k + 1) < 0) with
   | false => rfl
   | true =>
     obtain ⟨k, hk, e⟩ := exB_iff.1 e
     have := (h.2 k hk).1
     rw [decide_eq_true_eq] at e
     omega
 · unfold lateY
   cases e : exB (wsV Y v).n fun k => decide (100000 < atSY (wsV Y v) (k + 1)) with
   | false => rfl
   | true =>
     obtain ⟨k, hk, e⟩ := exB_iff.1 e
     have := (h.2 k hk).2
     rw [decide_eq_true_eq] at e
     omega
theorem wsL_all {v : List Int} (hc : wsC Y to un = 0) (hv : v ∈ wsL Y to un) : okY Y = 0 ∧ begY Y = true ∧ un ≤ 100000 ∧ GoodW Y un v := by
 have hl : wsL Y to un = wsW Y to un := if_pos hc
 rw [hl] at hv
 have hok : okY Y = 0 := by
  by_cases h : okY Y = 0
  · exact h
  · unfold wsC at hc; rw [if_pos h] at hc; exact absurd hc h
 have ha : askW Y to un = true := by
  cases e : askW Y to un with
  | true => rfl
  | false => unfold wsC at hc; rw [if_neg (by omega), if_pos e] at hc; cases hc
 have hb : begY Y = true ∧ un ≤ 100000 := by
  unfold askW at ha
  simp only [Bool.and_eq_true] at ha
  unfold begY
  rw [ha.1.1, ha.2.1]
  have := ha.2.2
  unfold inB5 at this
  simp only [Bool.and_eq_true, decide_eq_true_eq] at this
  exact ⟨rfl, this.2⟩
 exact ⟨hok, hb.1, hb.2, wys_good (legs_ok hok) Y.nw Y.start Y.day [] [] [] ⟨rfl, rfl, fun k hk => absurd hk (Nat.not_lt_zero k), fun k hk => absurd hk (Nat.not_lt_zero _)⟩ (by simp) (fun v hv => by cases hv) v hv⟩
theorem wsL_wk {v : List Int} (hc : wsC Y to un = 0) (hv : v ∈ wsL Y to un) : wkC (wsV Y v) = 0 := by
 obtain ⟨h1, h2, h3, h4⟩ := wsL_all hc hv
 exact good_wk h1 h2 h3 h4
theorem wsL_n {v : List Int} (hc : wsC Y to un = 0) (hv : v ∈ wsL Y to un) : v.length ≤ 24 := by
 have h := wsL_wk hc hv
 unfold wkC at h
 by_cases h9 : 24 < v.length
 · obtain ⟨h1, h2, _⟩ := wsL_all hc hv
   have e1 : okY (wsV Y v) = 0 := h1
   have e2 : begY (wsV Y v) = true := h2
   rw [if_neg (by omega), if_neg (by rw [e2]; simp), if_pos (show 24 < (wsV Y v).n from h9)] at h
   cases h
 · omega
theorem wsL_len (hc : wsC Y to un = 0) : (wsL Y to un).length ≤ 200 := by
 have hl : wsL Y to un = wsW Y to un := if_pos hc
 rw [hl]
 by_cases h9 : 200 < (wsW Y to un).length
 · unfold wsC at hc
   split at hc
   · next h => exact absurd hc h
   · split at hc
     · cases hc
     · cases hc
 · omega
end
end Go.Proofs.YtfaenhhgkhcghaaGreatDoor
