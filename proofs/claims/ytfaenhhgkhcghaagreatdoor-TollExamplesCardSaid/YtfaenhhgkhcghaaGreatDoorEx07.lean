/-
  Part 7 of the proof of tollExamples_holds: declarations of several texts, in build order. No condition on a program.
-/
import Derived.Ground.SlgmProg
import Derived.Shelf.SortM.Plain
import Derived.Shelf.SortM.SortNone
import Derived.Test.YtfaenhhgkhcghaaGreatDoorProg
import Derived.Test.YtfaenhhgkhcghaaGreatDoorEx06
import Derived.Test.YtfaenhhgkhcghaaGreatDoorEx03
import Derived.Test.YtfaenhhgkhcghaaGreatDoorEx04
namespace Go.Proofs
open Go.Shelf
def Tryz.laysSlM5_f148_ren : Go.Shelf.Ren := ⟨fun | 5 => 148 | 8 => 155 | 7 => 154 | 19 => 164 | 20 => 165 | 10 => 156 | 11 => 157 | 12 => 158 | 13 => 159 | 14 => 160 | 15 => 161 | 16 => 152 | 17 => 162 | 18 => 163 | 30 => 166 | 31 => 167 | 32 => 168 | 33 => 169 | 34 => 170 | 35 => 128 | 40 => 171 | n => n, fun | 23 => 31 | 25 => 3 | 3 => 3 | 32 => 219 | 22 => 31 | 0 => 0 | 44 => 229 | 46 => 231 | 4 => 4 | 36 => 222 | 35 => 221 | 41 => 226 | 5 => 5 | 9 => 9 | 53 => 232 | 57 => 236 | 63 => 238 | 64 => 162 | n => n, fun | n => n⟩
theorem Tryz.laysSlM5_f148 : Go.Proofs.SlLaysM.n5 Tryz.prog Tryz.laysSlM5_f148_ren := {
 mixed := by kernel_rfl
 f5 := ⟨Tryz.f148.name, by decide, Tryz.func148.trans (congrArg some (by kernel_rfl))⟩
 f7 := ⟨Tryz.f154.name, by decide, Tryz.func154.trans (congrArg some (by kernel_rfl))⟩
 f8 := Tryz.func155.trans (congrArg some (by kernel_rfl))
 f10 := ⟨Tryz.f156.name, by decide, Tryz.func156.trans (congrArg some (by kernel_rfl))⟩
 f11 := ⟨Tryz.f157.name, by decide, Tryz.func157.trans (congrArg some (by kernel_rfl))⟩
 f12 := ⟨Tryz.f158.name, by decide, Tryz.func158.trans (congrArg some (by kernel_rfl))⟩
 f13 := ⟨Tryz.f159.name, by decide, Tryz.func159.trans (congrArg some (by kernel_rfl))⟩
 f14 := ⟨Tryz.f160.name, by decide, Tryz.func160.trans (congrArg some (by kernel_rfl))⟩
 f15 := ⟨Tryz.f161.name, by decide, Tryz.func161.trans (congrArg some (by kernel_rfl))⟩
 f16 := ⟨Tryz.f152.name, by decide, Tryz.func152.trans (congrArg some (by kernel_rfl))⟩
 f17 := ⟨Tryz.f162.name, by decide, Tryz.func162.trans (congrArg some (by kernel_rfl))⟩
 f18 := ⟨Tryz.f163.name, by decide, Tryz.func163.trans (congrArg some (by kernel_rfl))⟩
 f19 := Tryz.func164.trans (congrArg some (by kernel_rfl))
 f20 := Tryz.func165.trans (congrArg some (by kernel_rfl))
 f30 := ⟨Tryz.f166.name, by decide, Tryz.func166.trans (congrArg some (by kernel_rfl))⟩
 f31 := Tryz.func167.trans (congrArg some (by kernel_rfl))
 f32 := Tryz.func168.trans (congrArg some (by kernel_rfl))
 f33 := ⟨Tryz.f169.name, by decide, Tryz.func169.trans (congrArg some (by kernel_rfl))⟩
 f34 := ⟨Tryz.f170.name, by decide, Tryz.func170.trans (congrArg some (by kernel_rfl))⟩
 f35 := ⟨Tryz.f128.name, by decide, Tryz.func128.trans (congrArg some (by kernel_rfl))⟩
 f40 := ⟨Tryz.f171.name, by decide, Tryz.func171.trans (congrArg some (by kernel_rfl))⟩
 t0 := Tryz.underlying0
 a0 := Tryz.isAgg0
 z0 := Tryz.sizeOf0
 v0 := Tryz.zeroValue0
 t3 := Tryz.underlying3
 a3 := Tryz.isAgg3
 z3 := Tryz.sizeOf3
 v3 := Tryz.zeroValue3
 t4 := Tryz.underlying4
 a4 := Tryz.isAgg4
 z4 := Tryz.sizeOf4
 v4 := Tryz.zeroValue4
 t5 := Tryz.underlying5
 a5 := Tryz.isAgg5
 z5 := Tryz.sizeOf5
 v5 := Tryz.zeroValue5
 t9 := Tryz.underlying9
 a9 := Tryz.isAgg9
 z9 := Tryz.sizeOf9
 v9 := Tryz.zeroValue9
 t22 := Tryz.underlying31
 a22 := Tryz.isAgg31
 z22 := Tryz.sizeOf31
 v22 := Tryz.zeroValue31
 t23 := Tryz.underlying31
 a23 := Tryz.isAgg31
 z23 := Tryz.sizeOf31
 v23 := Tryz.zeroValue31
 t25 := Tryz.underlying3
 a25 := Tryz.isAgg3
 z25 := Tryz.sizeOf3
 v25 := Tryz.zeroValue3
 t32 := Tryz.underlying219
 a32 := Tryz.isAgg219
 z32 := Tryz.sizeOf219
 v32 := Tryz.zeroValue219
 t35 := Tryz.underlying221
 a35 := Tryz.isAgg221
 z35 := Tryz.sizeOf221
 v35 := Tryz.zeroValue221
 t36 := Tryz.underlying222
 a36 := Tryz.isAgg222
 z36 := Tryz.sizeOf222
 v36 := Tryz.zeroValue222
 t41 := Tryz.underlying226
 a41 := Tryz.isAgg226
 z41 := Tryz.sizeOf226
 v41 := Tryz.zeroValue226
 t44 := Tryz.underlying229
 a44 := Tryz.isAgg229
 z44 := Tryz.sizeOf229
 v44 := Tryz.zeroValue229
 t46 := Tryz.underlying231
 a46 := Tryz.isAgg231
 z46 := Tryz.sizeOf231
 v46 := Tryz.zeroValue231
 t53 := Tryz.underlying232
 a53 := Tryz.isAgg232
 z53 := Tryz.sizeOf232
 v53 := Tryz.zeroValue232
 t57 := Tryz.underlying236
 a57 := Tryz.isAgg236
 z57 := Tryz.sizeOf236
 v57 := Tryz.zeroValue236
 t63 := Tryz.underlying238
 a63 := Tryz.isAgg238
 z63 := Tryz.sizeOf238
 v63 := Tryz.zeroValue238
 t64 := Tryz.underlying162
 a64 := Tryz.isAgg162
 z64 := Tryz.sizeOf162
 v64 := Tryz.zeroValue162 }
open Go.Sort Go.RowKit in
theorem Tryz.slices_Sort_int (blk off cap : Nat) (zs : List Int) (w : World) (hH : Holds (Value.int .i64) w blk off zs.toArray) (hblk : blk < w.heap.size) (hsz : zs.length < 4611686018427387904) :
 Calls Tryz.prog 148 #[.slice (some ⟨blk, off, none⟩) zs.length cap] w fun e w' =>
  e = .returned (.tuple #[]) ∧ ∃ n os, w' = grow (putRow (Value.int .i64) (Sort.ahead w n) blk off (zs.mergeSort fun x y => decide (x ≤ y)).toArray) os := AnyM.slices_Sort_int Tryz.laysSlM5_f148 blk off cap zs w hH hblk hsz
open Go.RowKit Go.Sort in
theorem Tryz.slices_Sort_int_none (p : Option Addr) (cap : Nat) (w : World) :
 Calls Tryz.prog 148 #[.slice p 0 cap] w fun e w' => e = .returned (.tuple #[]) ∧ w' = w := AnyM.slices_Sort_int_none Tryz.laysSlM5_f148 p cap w
end Go.Proofs
namespace Go.Proofs.YtfaenhhgkhcghaaGreatDoor
set_option linter.all false
set_option linter.unusedVariables false
set_option linter.unusedSimpArgs false
open Go.RowKit
theorem sortT_any {w : World} {A : Option Addr} {n cp : Nat} {L : List Int} (hn : n = L.length) (h1 : n ≤ 1000000) (h : OwnR w A n cp 3 1 (iL L)) :
   CallsK Tryz.prog 148 #[.slice A n cp] [.own A n cp 3 1 (iL L)] w Unit (fun _ => .tuple #[]) (fun _ => [.own A n cp 3 1 (iL (srt L))]) := by
 subst hn
 rcases h.own.2 with ⟨e, h0⟩ | ⟨g, cap, cur, e, hg, hh, hnc, hcm, hcs, ht⟩
 · have hL : L = [] := List.length_eq_zero_iff.1 h0
   subst hL
   refine (Tryz.slices_Sort_int_none A cp w).mono ?_
   rintro e' w' ⟨rfl, rfl⟩
   refine ⟨(), rfl, ?_⟩
   rw [srt_nil]
   exact Sat.own1 h
 · simp only [Value.slice.injEq] at e
   obtain ⟨rfl, _, rfl⟩ := e
   have hlt := lt_of_get hh
   have hH : Sort.Holds (Value.int .i64) w g 0 L.toArray := fun j hj => by
    have hj' : j < L.length := by simpa using hj
    have hrd := h.own.form1 (by omega)
    obtain ⟨g', c', e, _, _, _, hcell, hfr⟩ := hrd
    cases e
    refine ⟨?_, hfr _⟩
    have := hcell j 0 hj' (by omega)
    rw [Nat.mul_one, Nat.add_zero] at this
    rw [Nat.zero_add, this]
    simp [rowF, iL, List.getD_eq_getElem?_getD, hj']
   refine (Tryz.slices_Sort_int g 0 cp L w hH hlt (by omega)).mono ?_
   rintro e' w' ⟨rfl, n, os, rfl⟩
   rw [ms_srt]
   exact ⟨(), rfl, own_putRow os n (srt_len L) h⟩
theorem growI_any (k : Nat) (w : World) (hk : k ≤ 1000000000) (r : Nat → List Value) :
  CallsK Tryz.prog 105 #[.slice none 0 0, .int .i64 k] [] w (Option Addr × Nat) (fun x => .slice x.1 0 x.2) (fun x => [.own x.1 0 x.2 3 1 r]) := by
 refine K_enter (S := []) (K := []) Tryz.func105 rfl Tryz.ntmps105 rfl (Sat.start _) ?_
 refine TW.seq fun Y1 hY1 => TW.region ?_
 refine TL.p Pu.as ?_
 refine TL.nil (TQ.thenN (hY1 _ _ ?_))
 refine TW.seq fun Y2 hY2 => ?_
 refine TW.seq fun Y3 hY3 => TW.region ?_
 refine TL.p Pu.mv ?_
 refine TL.p Pu.lt ?_
 refine TL.nil (TQ.thenN (hY3 _ _ ?_))
 refine TW.condF rfl ((by first | (simp; done) | (simp; omega))) ?_
 refine TW.skip ?_
 refine TQ.thenN (hY2 _ _ ?_)
 refine TW.seq fun Y4 hY4 => ?_
 refine TW.seq fun Y5 hY5 => TW.region ?_
 refine TL.p Pu.mv ?_
 refine TL.p Pu.mv ?_
 refine TL.p (Pu.cp Tryz.underlying31) ?_
 refine TL.p Pu.mv ?_
 refine TL.p (Pu.ln Tryz.underlying31) ?_
 refine TL.p Pu.sb ?_
 refine TL.p Pu.sb ?_
 refine TL.p Pu.as ?_
 refine TL.nil (TQ.thenN (hY5 _ _ ?_))
 refine TW.seq fun Y6 hY6 => TW.region ?_
 refine TL.p Pu.mv ?_
 refine TL.p Pu.gt ?_
 refine TL.nil (TQ.thenN (hY6 _ _ ?_))
 refine TW.cond rfl (fun hc1 => ?_) (fun hc1 => ?_)
 try simp only [zcb9] at hc1
 refine TW.region ?_
 refine TL.p Pu.mv ?_
 refine TL.p Pu.mv ?_
 refine TL.p (Pu.cp Tryz.underlying31) ?_
 refine TL.p (Pu.sh ty_et31) ?_
 refine TL.p Pu.mv ?_
 refine TL.az (r := r) ty_et31 Tryz.underlying3 ?_
 intro g1 c1 hc1 hm1
 refine TL.p Pu.mv ?_
 refine TL.p (Pu.ln Tryz.underlying31) ?_
 refine TL.p (Pu.sh ty_et31) ?_
 refine TL.p Pu.as ?_
 refine TL.nil (TQ.thenN (hY4 _ _ ?_))
 refine TW.seq fun Y7 hY7 => TW.region ?_
 refine TL.p Pu.mv ?_
 refine TL.p Pu.as ?_
 refine TL.nil (TQ.thenN (hY7 _ _ ?_))
 refine TW.ret ?_
 refine TQ.ret Tryz.results105 rfl ((.tmp rfl .nil)) ?_
 exact fun w hw => ⟨(some ⟨g1, 0, none⟩, c1), rfl, hw⟩
 try simp only [zcb9] at hc1
 refine TW.skip ?_
 refine TQ.thenN (hY4 _ _ ?_)
 refine TW.seq fun Y8 hY8 => TW.region ?_
 refine TL.p Pu.mv ?_
 refine TL.p Pu.as ?_
 refine TL.nil (TQ.thenN (hY8 _ _ ?_))
 refine TW.ret ?_
 refine TQ.ret Tryz.results105 rfl ((.tmp rfl .nil)) ?_
 exact fun w hw => ⟨(none, 0), rfl, hw.sub (KSub.nilOwn KSub.nil)⟩
def totT (l : Nat → Nat) : Nat → Nat
 | 0 => 0
 | q + 1 => totT l q + l q
def catT (l : Nat → Nat) (s : Nat → Nat → List Value) : Nat → Nat → List Value
 | 0 => fun _ => []
 | q + 1 => catR (totT l q) (catT l s q) (s q)
theorem totT_mono {l : Nat → Nat} {p q : Nat} (h : p ≤ q) : totT l p ≤ totT l q := by
  induction q with
  | zero => have : p = 0 := by omega
            subst this; exact Nat.le_refl _
  | succ q ih =>
    by_cases hp : p = q + 1
    · subst hp; exact Nat.le_refl _
    · have := ih (by omega); simp only [totT]; omega
theorem concatI_any {A : Option Addr} {m cp : Nat} {a : Nat → Option Addr} {l c : Nat → Nat} {v : Nat → Nat → Int} {w : World} (hm : m ≤ 1000000000) (ht : totT l m ≤ 1000000000)
  (hR : RdR w 1 A m (fun i => [.slice (a i) (l i) (c i)])) (hI : ∀ i, i < m → RdR w 1 (a i) (l i) (fun k => [.int .i64 (v i k)])) :
  CallsK Tryz.prog 59 #[.slice A m cp] [] w (Option Addr × Nat) (fun x => .slice x.1 (totT l m) x.2) (fun x => [.own x.1 (totT l m) x.2 3 1 (catT l (fun i k => [.int .i64 (v i k)]) m)]) := by
 refine K_enter (S := []) (K := []) Tryz.func59 rfl Tryz.ntmps59 rfl (Sat.start _) ?_
 refine TW.seq fun Y1 hY1 => TW.region ?_
 refine TL.p Pu.as ?_
 refine TL.nil (TQ.thenN (hY1 _ _ ?_))
 refine TW.seq fun Y2 hY2 => TW.region ?_
 refine TL.p Pu.as ?_
 refine TL.nil (TQ.thenN (hY2 _ _ ?_))
 refine TW.seq fun Y3 hY3 => ?_
 refine TW.seq fun Y4 hY4 => TW.region ?_
 refine TL.p Pu.mv ?_
 refine TL.p (Pu.ln Tryz.underlying87) ?_
 refine TL.p Pu.mv ?_
 refine TL.nil (TQ.thenN (hY4 _ _ ?_))
 refine TW.block ?_
 refine TW.loop2 (fun (q : Nat) (z : Int) => [(11, .int .i64 (q : Int)), (10, .int .i64 (m : Int)), (9, .slice A m cp), (0, .slice A m cp), (3, .int .i64 z)]) (fun q z => []) (fun q z => q ≤ m ∧ z = (totT l q : Int)) (fun q z => m - q) 0 _ fs9 ?_ ?_ ?_
 exact ks9
 exact ⟨by omega, rfl⟩
 rintro q z ⟨hq, hz⟩ Z0 hZ0
 refine TW.seq fun Y5 hY5 => TW.region ?_
 refine TL.p Pu.lt ?_
 refine TL.nil (TQ.thenN (hY5 _ _ ?_))
 refine TW.seq fun Y6 hY6 => ?_
 refine TW.cond rfl (fun hc0 => ?_) (fun hc0 => ?_)
 try simp only [zcb9] at hc0
 have hqm : q < m := by omega
 have h1 := totT_mono (l := l) (show q + 1 ≤ m by omega)
 simp only [totT] at h1
 refine TW.skip ?_
 refine TQ.thenN (hY6 _ _ ?_)
 refine TW.seq fun Y7 hY7 => ?_
 refine TW.block ?_
 refine TW.seq fun Y8 hY8 => TW.region ?_
 refine TL.p (Pu.el ty_et87) ?_
 refine TL.p (Pu.ld ty_sc31) ?_
 refine TL.p Pu.as ?_
 refine TL.nil (TQ.thenN (hY8 _ _ ?_))
 refine TW.seq fun Y9 hY9 => TW.region ?_
 refine TL.p Pu.mv ?_
 refine TL.p Pu.mv ?_
 refine TL.p (Pu.ln Tryz.underlying31) ?_
 refine TL.p Pu.ad ?_
 refine TL.p Pu.as ?_
 refine TL.nil (TQ.thenN (hY9 _ _ ?_))
 refine TW.seq fun Y10 hY10 => TW.region ?_
 refine TL.p Pu.mv ?_
 refine TL.p Pu.lt ?_
 refine TL.nil (TQ.thenN (hY10 _ _ ?_))
 refine TW.condF rfl ((by first | (simp; done) | (simp; omega))) ?_
 refine TW.skip ?_
 refine TQ.blkN ?_
 refine TQ.thenN (hY7 _ _ ?_)
 refine TW.region ?_
 refine TL.p Pu.ad ?_
 refine TL.p Pu.mv ?_
 refine TL.nil ?_
 refine TQ.thenN (hZ0 (q + 1) _ _ _ ?_ ?_ fs9 ?_)
 exact ⟨by omega, by simp only [totT]; omega⟩
 exact zom9
 exact ks9
 try simp only [zcb9] at hc0
 refine TW.exit ?_
 refine TQ.thenX ?_
 refine TQ.thenX ?_
 refine TQ.blkX ?_
 refine TQ.thenN (hY3 _ _ ?_)
 refine TW.seq fun Y11 hY11 => TW.region ?_
 refine TL.p Pu.mv ?_
 refine TL.call (M := []) rfl (enters Tryz.func105 rfl rfl) (List.Perm.refl _) rfl (fun w hw => by
   obtain rfl : q = m := by omega
   subst hz
   exact growI_any _ w ht (fun _ => [])) ?_
 rintro ⟨A0, c0⟩
 refine TL.p Pu.as ?_
 refine TL.nil (TQ.thenN (hY11 _ _ ?_))
 refine TW.seq fun Y12 hY12 => ?_
 refine TW.seq fun Y13 hY13 => TW.region ?_
 refine TL.p Pu.mv ?_
 refine TL.p (Pu.ln Tryz.underlying87) ?_
 refine TL.p Pu.mv ?_
 refine TL.nil (TQ.thenN (hY13 _ _ ?_))
 refine TW.block ?_
 refine TW.loop3 (fun (q : Nat) (A1 : Option Addr) (c1 : Nat) => [(27, .int .i64 (q : Int)), (26, .int .i64 (m : Int)), (25, .slice A m cp), (6, .slice A1 (totT l q) c1)]) (fun q A1 c1 => [.own A1 (totT l q) c1 3 1 (catT l (fun i k => [.int .i64 (v i k)]) q)]) (fun q A1 c1 => q ≤ m) (fun q A1 c1 => m - q) 0 _ _ fs9 ?_ ?_ ?_
 exact ks9
 exact Nat.zero_le _
 rintro q A1 c1 hq Z1 hZ1
 refine TW.seq fun Y14 hY14 => TW.region ?_
 refine TL.p Pu.lt ?_
 refine TL.nil (TQ.thenN (hY14 _ _ ?_))
 refine TW.seq fun Y15 hY15 => ?_
 refine TW.cond rfl (fun hc2 => ?_) (fun hc2 => ?_)
 try simp only [zcb9] at hc2
 have hqm : q < m := by omega
 have h1 := totT_mono (l := l) (show q + 1 ≤ m by omega)
 simp only [totT] at h1
 have hIq := hI q hqm
 refine TW.skip ?_
 refine TQ.thenN (hY15 _ _ ?_)
 refine TW.seq fun Y16 hY16 => ?_
 refine TW.block ?_
 refine TW.seq fun Y17 hY17 => TW.region ?_
 refine TL.p (Pu.el ty_et87) ?_
 refine TL.p (Pu.ld ty_sc31) ?_
 refine TL.p Pu.as ?_
 refine TL.nil (TQ.thenN (hY17 _ _ ?_))
 refine TW.region ?_
 refine TL.p Pu.mv ?_
 refine TL.p Pu.mv ?_
 first | refine TL.a0 ty_et31 ?_ | refine TL.ap ty_et31 ?_
 intro A1 c1
 refine TL.p Pu.as ?_
 refine TL.nil ?_
 refine TQ.blkN ?_
 refine TQ.thenN (hY16 _ _ ?_)
 refine TW.region ?_
 refine TL.p Pu.ad ?_
 refine TL.p Pu.mv ?_
 refine TL.nil ?_
 refine TQ.thenN (hZ1 (q + 1) _ _ _ _ ?_ ?_ fs9 ?_)
 exact (by omega)
 exact zom9
 exact ks9
 try simp only [zcb9] at hc2
 obtain rfl : q = m := by omega
 refine TW.exit ?_
 refine TQ.thenX ?_
 refine TQ.thenX ?_
 refine TQ.blkX ?_
 refine TQ.thenN (hY12 _ _ ?_)
 refine TW.seq fun Y18 hY18 => TW.region ?_
 refine TL.p Pu.mv ?_
 refine TL.p Pu.as ?_
 refine TL.nil (TQ.thenN (hY18 _ _ ?_))
 refine TW.ret ?_
 refine TQ.ret Tryz.results59 rfl ((.tmp rfl .nil)) ?_
 exact fun w hw => ⟨(A1, c1), rfl, hw⟩
section
variable {c : Cx} {Q : Exit → Act → World → Prop} {F : Fr} {K K' : List Fact} {ops : Array Oper} {rest : List Oper} {d : Option Tmp} {ty : TypeId} {pos : String} {af : Array Edge} {g : Option (Nat × Bool)}
theorem TL.gcm {f : FuncId} {xs : List Operand} {ts : Array TypeId} {us : List Value} {M : List Fact} {X : Type} {val : X → Value} {L : X → List Fact} (hx : evs F xs = some us) (hen : Enters c.P f) (hM : K.Perm (M ++ K'))
  (hc : ∀ w, Sat c.S c.w0 K w → CallsK c.P f us.toArray M w X val L) (h : ∀ x, TL c ops Q rest (fput F d (val x)) (L x ++ K')) (hg : gdB F ops g = some true := by rfl) (hd : dok d c.n = true := by rfl) :
  TL c ops Q (⟨d, .call { callee := .value (.func f), args := xs.toArray, argTypes := ts }, ty, pos, af, g⟩ :: rest) F K := fun a w hF hK => by
 unfold wpList
 rw [if_pos (hF.wanted hg)]
 refine .inl ?_
 have hr : (execOp a.eval ⟨d, .call { callee := .value (.func f), args := xs.toArray, argTypes := ts }, ty, pos, af, g⟩).run c.P w = .ok (.enter f us.toArray) w := by
  have := hF.evsl hx
  have h9 := hen us.toArray w
  simp [execOp, resolve, invoke, Deferred.ofValue, Act.eval, this, h9]
 unfold Oper.wp
 rw [hr]
 refine Calls.mono (hc w hK) ?_
 rintro e w' ⟨x, rfl, hs⟩
 exact h x _ _ (hF.fput hd _) ((hK.perm hM).step hs)
end
set_option maxRecDepth 100000 in
theorem cloneI_any {A : Option Addr} {n cp : Nat} {v : Nat → Int} {w : World} (hn : n ≤ 1000000000) (hR : RdR w 1 A n (fun k => [.int .i64 (v k)])) :
  CallsK Tryz.prog 71 #[.slice A n cp] [] w (Option Addr × Nat) (fun x => .slice x.1 n x.2) (fun x => [.own x.1 n x.2 3 1 (iL (toI v n))]) := by
 cases A with
 | none =>
  have h0 : n = 0 := by
   rcases Nat.eq_zero_or_pos n with h | h
   exact h
   obtain ⟨b, o, e, _⟩ := hR.rd h
   cases e
  subst h0
  refine K_enter (S := []) (K := []) Tryz.func71 rfl Tryz.ntmps71 rfl (Sat.start _) ?_
  refine TW.seq fun Y1 hY1 => TW.region ?_
  refine TL.p Pu.as ?_
  refine TL.nil (TQ.thenN (hY1 _ _ ?_))
  refine TW.seq fun Y2 hY2 => ?_
  refine TW.seq fun Y3 hY3 => TW.region ?_
  refine TL.p Pu.mv ?_
  refine TL.p Pu.bn ?_
  refine TL.nil (TQ.thenN (hY3 _ _ ?_))
  refine TW.condT rfl (rfl) ?_
  refine TW.seq fun Y4 hY4 => TW.region ?_
  refine TL.p Pu.as ?_
  refine TL.nil (TQ.thenN (hY4 _ _ ?_))
  refine TW.ret ?_
  refine TQ.thenR ?_
  refine TQ.ret Tryz.results71 rfl ((.tmp rfl .nil)) ?_
  exact fun w hw => ⟨(none, 0), rfl, hw.sub (KSub.nilOwn KSub.nil)⟩
 | some p =>
  refine K_enter (S := []) (K := []) Tryz.func71 rfl Tryz.ntmps71 rfl (Sat.start _) ?_
  refine TW.seq fun Y1 hY1 => TW.region ?_
  refine TL.p Pu.as ?_
  refine TL.nil (TQ.thenN (hY1 _ _ ?_))
  refine TW.seq fun Y2 hY2 => ?_
  refine TW.seq fun Y3 hY3 => TW.region ?_
  refine TL.p Pu.mv ?_
  refine TL.p Pu.bn ?_
  refine TL.nil (TQ.thenN (hY3 _ _ ?_))
  refine TW.condF rfl (rfl) ?_
  refine TW.skip ?_
  refine TQ.thenN (hY2 _ _ ?_)
  refine TW.seq fun Y4 hY4 => TW.region ?_
  refine TL.m Mk.bl ?_
  intro b1
  refine TL.p Pu.mv ?_
  refine TL.subK (KSub.ofBlk (n := 0) (sz := 1) (r := fun _ => []) Pick.hd rfl (fun _ h => by omega) rfl rfl KSub.nil) ?_
  first | refine TL.a0 ty_et31 ?_ | refine TL.ap ty_et31 ?_
  intro A2 c2
  refine TL.p Pu.as ?_
  refine TL.nil (TQ.thenN (hY4 _ _ ?_))
  refine TW.ret ?_
  refine TQ.ret Tryz.results71 rfl ((.tmp rfl .nil)) ?_
  exact fun w hw => ⟨(A2, c2), rfl, hw.sub (KSub.own Pick.hd (fun i hi => by simp only [iL, toI_get hi]) KSub.nil)⟩
theorem lessI_any (a b : Int) (w : World) : Calls Tryz.prog 152 #[.int .i64 a, .int .i64 b] w (Ret w (.bool (decide (a < b)))) := by
 refine K_enter (S := []) (K := []) Tryz.func152 rfl Tryz.ntmps152 rfl (Sat.start _) ?_
 refine TW.seq fun Y1 hY1 => TW.region ?_
 refine TL.p Pu.as ?_
 refine TL.nil (TQ.thenN (hY1 _ _ ?_))
 refine TW.seq fun Y2 hY2 => ?_
 refine TW.join [(4, .bool (decide (a < b)))] ?_ (fun hJ1 => ?_)
 refine TQ.thenN (hY2 _ _ ?_)
 refine TW.ret ?_
 refine TQ.ret Tryz.results152 rfl ((.tmp rfl .nil)) ?_
 exact fun w hw => Ret.of hw
 refine TW.region ?_
 refine TL.p Pu.mv ?_
 refine TL.cr rfl (enters Tryz.func128 rfl rfl) (fun w hw => by
  exact isNaN_any _ _) ?_
 refine TL.p Pu.mv ?_
 refine TL.gs ?_
 refine TL.gs ?_
 refine TL.gs ?_
 refine TL.p Pu.kf ?_
 refine TL.p Pu.mv ?_
 refine TL.gd Pu.mv ?_
 refine TL.gd Pu.mv ?_
 refine TL.gd Pu.lt ?_
 refine TL.p Pu.kf ?_
 refine TL.p Pu.as ?_
 refine TL.nil ?_
 exact TQ.sub (by repeat (first | exact trivial | refine ⟨rfl, ?_⟩ | refine ⟨trivial, ?_⟩ | refine ⟨(by show some (Value.bool _) = some (Value.bool _); first | (simp []; done) | (refine congrArg (fun z => some (Value.bool z)) (Bool.eq_iff_iff.2 ?_); simp []; omega)), ?_⟩)) ks9 hJ1
set_option maxRecDepth 100000 in
theorem isSorted_any {A : Option Addr} {n cp : Nat} {v : Nat → Int} {w : World} (hn : n ≤ 1000000) (hR : RdR w 1 A n (fun k => [.int .i64 (v k)])) :
  Calls Tryz.prog 138 #[.slice A n cp] w (Ret w (.bool (sortB v n))) := by
 refine K_enter (S := []) (K := []) Tryz.func138 rfl Tryz.ntmps138 rfl (Sat.start _) ?_
 refine TW.seq fun Y1 hY1 => TW.region ?_
 refine TL.p Pu.as ?_
 refine TL.nil (TQ.thenN (hY1 _ _ ?_))
 refine TW.seq fun Y2 hY2 => ?_
 refine TW.seq fun Y3 hY3 => TW.region ?_
 refine TL.p Pu.mv ?_
 refine TL.p (Pu.ln Tryz.underlying31) ?_
 refine TL.p Pu.sb ?_
 refine TL.p Pu.as ?_
 refine TL.nil (TQ.thenN (hY3 _ _ ?_))
 refine TW.block ?_
 refine TW.loop1 (fun (k : Nat) => [(3, .int .i64 ((k : Int) - 1)), (0, .slice A n cp)]) (fun k => []) (fun k => k ≤ n ∧ ∀ j, k ≤ j → j < n → ¬ v j < v (j - 1)) (fun k => k) n fs9 ?_ ?_ ?_
 exact ks9
 exact ⟨Nat.le_refl _, fun j h1 h2 => by omega⟩
 rintro k ⟨hk, hall⟩ Z0 hZ0
 refine TW.seq fun Y4 hY4 => ?_
 refine TW.seq fun Y5 hY5 => TW.region ?_
 refine TL.p Pu.mv ?_
 refine TL.p Pu.gt ?_
 refine TL.nil (TQ.thenN (hY5 _ _ ?_))
 refine TW.cond rfl (fun hc0 => ?_) (fun hc0 => ?_)
 try simp only [zcb9] at hc0
 have hk2 : 2 ≤ k := by omega
 refine TW.skip ?_
 refine TQ.thenN (hY4 _ _ ?_)
 refine TW.seq fun Y6 hY6 => ?_
 refine TW.block ?_
 refine TW.seq fun Y7 hY7 => ?_
 refine TW.dw 10 ?_
 refine RK.tk Pu.mv ?_
 refine RK.tk Pu.mv ?_
 refine RK.tk (Pu.el (q := k - 1) ty_et31 (hk := by omega)) ?_
 refine RK.tk (Pu.ld ty_sc3) ?_
 refine RK.tk Pu.mv ?_
 refine RK.tk Pu.mv ?_
 refine RK.tk Pu.sb ?_
 refine RK.tk (Pu.el (q := k - 1 - 1) ty_et31 (hk := by omega)) ?_
 refine RK.tk (Pu.ld ty_sc3) ?_
 refine RK.keep ?_
 refine RK.ch [false] ?_ trivial
 refine WK.cr rfl (enters Tryz.func152 rfl rfl) (fun w hw => by
   exact lessI_any _ _ _) ?_
 refine WK.n ?_
 refine TL.nil (TQ.thenN (hY7 _ _ ?_))
 refine TW.cond rfl (fun hc1 => ?_) (fun hc1 => ?_)
 try simp only [zcb9] at hc1
 have hg : v (k - 1) < v (k - 1 - 1) := by omega
 refine TW.seq fun Y8 hY8 => TW.region ?_
 refine TL.p Pu.as ?_
 refine TL.nil (TQ.thenN (hY8 _ _ ?_))
 refine TW.ret ?_
 refine TQ.blkR ?_
 refine TQ.thenR ?_
 refine TQ.thenR ?_
 refine TQ.blkR ?_
 refine TQ.thenR ?_
 refine TQ.ret Tryz.results138 rfl ((.tmp rfl .nil)) ?_
 have hs : sortB v n = false := by
  unfold sortB
  rw [Bool.eq_false_iff]
  intro hh
  have := allB_iff.1 hh (k - 1) (by omega)
  rw [decide_eq_true hg, decide_eq_false (by omega)] at this
  cases this
 exact fun w hw => ⟨ret_bool (by rw [hs]), Chg.ext hw.chg⟩
 try simp only [zcb9] at hc1
 have hg : ¬ v (k - 1) < v (k - 1 - 1) := by omega
 refine TW.skip ?_
 refine TQ.blkN ?_
 refine TQ.thenN (hY6 _ _ ?_)
 refine TW.region ?_
 refine TL.p Pu.mv ?_
 refine TL.p Pu.sb ?_
 refine TL.p Pu.as ?_
 refine TL.nil ?_
 refine TQ.thenN (hZ0 (k - 1) _ _ ?_ ?_ (by refine ⟨congrArg (fun z => some (Value.int .i64 z)) (by omega), ?_⟩; (repeat (first | exact trivial | refine ⟨rfl, ?_⟩ | refine ⟨trivial, ?_⟩))) ?_)
 refine ⟨by omega, fun j h1 h2 => ?_⟩
 by_cases e : j = k - 1
 subst e; exact hg
 exact hall j (by omega) h2
 exact zom9
 exact ks9
 try simp only [zcb9] at hc0
 have hk2 : k ≤ 1 := by omega
 refine TW.exit ?_
 refine TQ.thenX ?_
 refine TQ.thenX ?_
 refine TQ.blkX ?_
 refine TQ.thenN (hY2 _ _ ?_)
 refine TW.seq fun Y9 hY9 => TW.region ?_
 refine TL.p Pu.as ?_
 refine TL.nil (TQ.thenN (hY9 _ _ ?_))
 refine TW.ret ?_
 refine TQ.ret Tryz.results138 rfl ((.tmp rfl .nil)) ?_
 have hs : sortB v n = true := allB_iff.2 fun j hj => by
  by_cases e : j = 0
  subst e; rfl
  rw [decide_eq_false (hall j (by omega) hj)]; simp
 exact fun w hw => ⟨ret_bool (by rw [hs]), Chg.ext hw.chg⟩
theorem indexT_any {w : World} {A : Option Addr} {n cp : Nat} {v : Nat → Int} (x : Int) (h1 : n ≤ 1000000) (hR : RdR w 1 A n (fun k => [.int .i64 (v k)])) :
  CallsK Tryz.prog 149 #[.slice A n cp, .int .i64 x] [] w { k : Int // decide (0 ≤ k) = hasB v n x } (fun k => .int .i64 k.1) (fun _ => []) := by
 refine K_enter (S := []) (K := []) Tryz.func149 rfl Tryz.ntmps149 rfl (Sat.start _) ?_
 refine TW.seq fun Y1 hY1 => TW.region ?_
 refine TL.p Pu.as ?_
 refine TL.nil (TQ.thenN (hY1 _ _ ?_))
 refine TW.seq fun Y2 hY2 => ?_
 refine TW.seq fun Y3 hY3 => TW.region ?_
 refine TL.p Pu.mv ?_
 refine TL.p (Pu.ln Tryz.underlying31) ?_
 refine TL.p Pu.mv ?_
 refine TL.nil (TQ.thenN (hY3 _ _ ?_))
 refine TW.block ?_
 refine TW.loop1 (fun (k : Nat) => [(8, .int .i64 (k : Int)), (7, .int .i64 (n : Int)), (0, .slice A n cp), (1, .int .i64 x)]) (fun k => []) (fun k => k ≤ n ∧ ∀ j, j < k → v j ≠ x) (fun k => n - k) 0 fs9 ?_ ?_ ?_
 exact ks9
 exact ⟨Nat.zero_le _, fun j hj => by omega⟩
 rintro k ⟨hk, hall⟩ Z0 hZ0
 refine TW.seq fun Y4 hY4 => TW.region ?_
 refine TL.p Pu.lt ?_
 refine TL.nil (TQ.thenN (hY4 _ _ ?_))
 refine TW.seq fun Y5 hY5 => ?_
 refine TW.cond rfl (fun hc0 => ?_) (fun hc0 => ?_)
 try simp only [zcb9] at hc0
 have hkn : k < n := by omega
 refine TW.skip ?_
 refine TQ.thenN (hY5 _ _ ?_)
 refine TW.seq fun Y6 hY6 => ?_
 refine TW.block ?_
 refine TW.seq fun Y7 hY7 => TW.region ?_
 refine TL.p Pu.mv ?_
 refine TL.p Pu.as ?_
 refine TL.nil (TQ.thenN (hY7 _ _ ?_))
 refine TW.seq fun Y8 hY8 => TW.region ?_
 refine TL.p Pu.mv ?_
 refine TL.p Pu.mv ?_
 refine TL.p Pu.mv ?_
 refine TL.p (Pu.el ty_et31) ?_
 refine TL.p (Pu.ld ty_sc3) ?_
 refine TL.p Pu.eq ?_
 refine TL.nil (TQ.thenN (hY8 _ _ ?_))
 refine TW.cond rfl (fun hc1 => ?_) (fun hc1 => ?_)
 try simp only [zcb9] at hc1
 have hx : v k = x := by omega
 refine TW.seq fun Y9 hY9 => TW.region ?_
 refine TL.p Pu.mv ?_
 refine TL.p Pu.as ?_
 refine TL.nil (TQ.thenN (hY9 _ _ ?_))
 refine TW.ret ?_
 refine TQ.blkR ?_
 refine TQ.thenR ?_
 refine TQ.thenR ?_
 refine TQ.blkR ?_
 refine TQ.thenR ?_
 refine TQ.ret Tryz.results149 rfl ((.tmp rfl .nil)) ?_
 exact fun w hw => ⟨⟨_, by rw [has_yes hkn hx]; simp⟩, rfl, hw.sub KSub.nil⟩
 try simp only [zcb9] at hc1
 have hx : v k ≠ x := by omega
 refine TW.skip ?_
 refine TQ.blkN ?_
 refine TQ.thenN (hY6 _ _ ?_)
 refine TW.region ?_
 refine TL.p Pu.ad ?_
 refine TL.p Pu.mv ?_
 refine TL.nil ?_
 refine TQ.thenN (hZ0 (k + 1) _ _ ?_ ?_ fs9 ?_)
 exact ⟨by omega, fun j hj => (Nat.lt_succ_iff_lt_or_eq.1 hj).elim (hall j) (fun e => e ▸ hx)⟩
 exact zom9
 exact ks9
 try simp only [zcb9] at hc0
 have hkn : k = n := by omega
 refine TW.exit ?_
 refine TQ.thenX ?_
 refine TQ.thenX ?_
 refine TQ.blkX ?_
 refine TQ.thenN (hY2 _ _ ?_)
 refine TW.seq fun Y10 hY10 => TW.region ?_
 refine TL.p Pu.as ?_
 refine TL.nil (TQ.thenN (hY10 _ _ ?_))
 refine TW.ret ?_
 refine TQ.ret Tryz.results149 rfl ((.tmp rfl .nil)) ?_
 exact fun w hw => ⟨⟨_, by rw [has_no (hkn ▸ hall)]; rfl⟩, rfl, hw.sub KSub.nil⟩
theorem contains_any {w : World} {A : Option Addr} {n cp : Nat} {v : Nat → Int} (x : Int) (h1 : n ≤ 1000000) (hR : RdR w 1 A n (fun k => [.int .i64 (v k)])) :
  Calls Tryz.prog 122 #[.slice A n cp, .int .i64 x] w (Ret w (.bool (hasB v n x))) := by
 refine K_enter (S := []) (K := []) Tryz.func122 rfl Tryz.ntmps122 rfl (Sat.start _) ?_
 refine TW.seq fun Y1 hY1 => TW.region ?_
 refine TL.p Pu.as ?_
 refine TL.nil (TQ.thenN (hY1 _ _ ?_))
 refine TW.seq fun Y2 hY2 => TW.region ?_
 refine TL.p Pu.mv ?_
 refine TL.p Pu.mv ?_
 refine TL.call (M := []) rfl (enters Tryz.func149 rfl rfl) (List.Perm.refl _) rfl (fun w hw => by
   exact indexT_any x h1 (hR.sat hw Apart.nil)) ?_
 rintro ⟨k, hk⟩
 refine TL.p Pu.ge ?_
 refine TL.p Pu.as ?_
 refine TL.nil (TQ.thenN (hY2 _ _ ?_))
 refine TW.ret ?_
 refine TQ.ret Tryz.results122 rfl ((.tmp rfl .nil)) ?_
 exact fun w hw => ⟨ret_bool hk.symm, Chg.ext hw.chg⟩
def mxF (v : Nat → Int) : Nat → Int
 | 0 => v 0
 | k + 1 => max (mxF v k) (v (k + 1))
theorem slMax_any {A : Option Addr} {n cp : Nat} {v : Nat → Int} {w : World} (hn : 0 < n) (hm : n ≤ 1000000) (hR : RdR w 1 A n (fun k => [.int .i64 (v k)])) :
  Calls Tryz.prog 123 #[.slice A n cp] w (Ret w (.int .i64 (mxF v (n - 1)))) := by
 refine K_enter (S := []) (K := []) Tryz.func123 rfl Tryz.ntmps123 rfl (Sat.start _) ?_
 refine TW.seq fun Y1 hY1 => TW.region ?_
 refine TL.p Pu.as ?_
 refine TL.nil (TQ.thenN (hY1 _ _ ?_))
 refine TW.seq fun Y2 hY2 => ?_
 refine TW.seq fun Y3 hY3 => TW.region ?_
 refine TL.p Pu.mv ?_
 refine TL.p (Pu.ln Tryz.underlying31) ?_
 refine TL.p Pu.lt ?_
 refine TL.nil (TQ.thenN (hY3 _ _ ?_))
 refine TW.condF rfl ((decide_eq_false (by omega))) ?_
 refine TW.skip ?_
 refine TQ.thenN (hY2 _ _ ?_)
 refine TW.seq fun Y4 hY4 => TW.region ?_
 refine TL.p Pu.mv ?_
 refine TL.p (Pu.el ty_et31) ?_
 refine TL.p (Pu.ld ty_sc3) ?_
 refine TL.p Pu.as ?_
 refine TL.nil (TQ.thenN (hY4 _ _ ?_))
 refine TW.seq fun Y5 hY5 => ?_
 refine TW.seq fun Y6 hY6 => TW.region ?_
 refine TL.p Pu.as ?_
 refine TL.nil (TQ.thenN (hY6 _ _ ?_))
 refine TW.block ?_
 refine TW.loop1 (fun (k : Nat) => [(0, .slice A n cp), (3, .int .i64 (mxF v k)), (4, .int .i64 ((k : Int) + 1))]) (fun k => []) (fun k => k < n) (fun k => n - k) 0 fs9 ?_ ?_ ?_
 exact ks9
 exact hn
 rintro k hk Z0 hZ0
 refine TW.seq fun Y7 hY7 => ?_
 refine TW.seq fun Y8 hY8 => TW.region ?_
 refine TL.p Pu.mv ?_
 refine TL.p Pu.mv ?_
 refine TL.p (Pu.ln Tryz.underlying31) ?_
 refine TL.p Pu.lt ?_
 refine TL.nil (TQ.thenN (hY8 _ _ ?_))
 refine TW.cond rfl (fun hc1 => ?_) (fun hc1 => ?_)
 try simp only [zcb9] at hc1
 have hkn : k + 1 < n := by omega
 refine TW.skip ?_
 refine TQ.thenN (hY7 _ _ ?_)
 refine TW.seq fun Y9 hY9 => ?_
 refine TW.block ?_
 refine TW.region ?_
 refine TL.p Pu.mv ?_
 refine TL.p Pu.mv ?_
 refine TL.p Pu.mv ?_
 refine TL.p (Pu.el ty_et31) ?_
 refine TL.p (Pu.ld ty_sc3) ?_
 refine TL.p Pu.mx ?_
 refine TL.p Pu.as ?_
 refine TL.nil ?_
 refine TQ.blkN ?_
 refine TQ.thenN (hY9 _ _ ?_)
 refine TW.region ?_
 refine TL.p Pu.mv ?_
 refine TL.p Pu.ad ?_
 refine TL.p Pu.as ?_
 refine TL.nil ?_
 refine TQ.thenN (hZ0 (k + 1) _ _ ?_ ?_ fs9 ?_)
 exact hkn
 exact zom9
 exact ks9
 try simp only [zcb9] at hc1
 have hkn : k + 1 = n := by omega
 refine TW.exit ?_
 refine TQ.thenX ?_
 refine TQ.thenX ?_
 refine TQ.blkX ?_
 refine TQ.thenN (hY5 _ _ ?_)
 refine TW.seq fun Y10 hY10 => TW.region ?_
 refine TL.p Pu.mv ?_
 refine TL.p Pu.as ?_
 refine TL.nil (TQ.thenN (hY10 _ _ ?_))
 refine TW.ret ?_
 refine TQ.ret Tryz.results123 rfl ((.tmp rfl .nil)) ?_
 exact fun w hw => ⟨ret_int (by subst hkn; rfl), Chg.ext hw.chg⟩
theorem everyInt1_any {g : FuncId} {fs cs : List Value} {b : Nat} {u : Int} {p : Bool} {w : World} (hen : Enters Tryz.prog g) (hb : OldB w b [.func (.func g) fs.toArray cs.toArray])
  (hg : ∀ w', Below w.heap.size w w' → Calls Tryz.prog g (fs ++ [Value.int .i64 u] ++ cs).toArray w' (Ret w' (.bool p))) :
  Calls Tryz.prog 151 #[Value.int .i64 u, .pointer (some ⟨b, 0, none⟩)] w (Ret w (.bool (!p))) := by
 refine K_enter (S := []) (K := []) Tryz.func151 rfl Tryz.ntmps151 rfl (Sat.start _) ?_
 refine TW.seq fun Y1 hY1 => TW.region ?_
 refine TL.p Pu.as ?_
 refine TL.nil (TQ.thenN (hY1 _ _ ?_))
 refine TW.seq fun Y2 hY2 => TW.region ?_
 refine TL.p (by first | exact (Pu.ld ty_sc113) | exact (Pu.ldo ty_sc113)) ?_
 refine TL.p Pu.mv ?_
 refine TL.cv rfl rfl hen (fun w hw => by
   exact hg _ (Chg.ext hw.chg)) ?_
 refine TL.p Pu.no ?_
 refine TL.p Pu.as ?_
 refine TL.nil (TQ.thenN (hY2 _ _ ?_))
 refine TW.ret ?_
 refine TQ.ret Tryz.results151 rfl ((.tmp rfl .nil)) ?_
 exact fun w hw => Ret.of hw
theorem everyInt_any {g : FuncId} {fs cs : List Value} {A : Option Addr} {n cp : Nat} {v : Nat → Int} {p : Nat → Bool} {w : World} (hen : Enters Tryz.prog g) (hn : n ≤ 9223372036854775807)
  (hR : RdR w 1 A n (fun k => [.int .i64 (v k)])) (hg : ∀ k, k < n → ∀ w', Below w.heap.size w w' → Calls Tryz.prog g (fs ++ [Value.int .i64 (v k)] ++ cs).toArray w' (Ret w' (.bool (p k)))) :
  Calls Tryz.prog 137 #[.slice A n cp, .func (.func g) fs.toArray cs.toArray] w (Ret w (.bool (allB n p))) := by
 refine K_enter (S := []) (K := []) Tryz.func137 rfl Tryz.ntmps137 rfl (Sat.start _) ?_
 refine TW.seq fun Y1 hY1 => TW.region ?_
 refine TL.m Mk.bx ?_
 intro b1
 refine TL.p Pu.as ?_
 refine TL.nil (TQ.thenN (hY1 _ _ ?_))
 refine TW.seq fun Y2 hY2 => TW.region ?_
 refine TL.p Pu.mv ?_
 refine TL.p Pu.fn ?_
 refine TL.cr rfl (enters Tryz.func114 rfl rfl) (fun w hw => by
   have h1 := OldB.of_blk (hw.holds (.blk b1 113 [.func (.func g) fs.toArray cs.toArray]) (by simp))
   exact hasInt_any (fs := []) (v := v) (p := fun k => !p k) (enters Tryz.func151 rfl rfl) hn (hR.sat hw Apart.nil) fun k hk w' hb => everyInt1_any hen (h1.ext hb) fun w'' hb' => hg k hk w'' (((Chg.ext hw.chg).trans (hb.mono (Chg.ext hw.chg).size)).trans (hb'.mono (Nat.le_trans (Chg.ext hw.chg).size hb.size)))) ?_
 refine TL.p Pu.no ?_
 refine TL.p Pu.as ?_
 refine TL.nil (TQ.thenN (hY2 _ _ ?_))
 refine TW.ret ?_
 refine TQ.ret Tryz.results137 rfl ((.tmp rfl .nil)) ?_
 exact fun w hw => ⟨ret_bool (by rw [not_anyB]; simp), Chg.ext hw.chg⟩
theorem indexInts_any {g : FuncId} {fs cs : List Value} {A : Option Addr} {n cp : Nat} {v : Nat → Option Addr × Nat × Nat} {p : Nat → Bool} {M : Nat → List Fact} {w : World} (hen : Enters Tryz.prog g) (hn : n ≤ 9223372036854775807)
  (hR : RdR w 1 A n (fun k => [.slice (v k).1 (v k).2.1 (v k).2.2])) (hA : 0 < n → Apart (feet (M 0)) A) (hM : Sat (feet (M 0)) w (M 0) w) (hfe : ∀ k, feet (M k) = feet (M 0))
  (hg : ∀ k, k < n → (∀ j, j < k → p j = false) → ∀ w', Sat (feet (M 0)) w (M k) w' → CallsK Tryz.prog g (fs ++ [Value.slice (v k).1 (v k).2.1 (v k).2.2] ++ cs).toArray (M k) w' Unit (fun _ => .bool (p k)) (fun _ => M (k + 1))) :
  CallsK Tryz.prog 150 #[.slice A n cp, .func (.func g) fs.toArray cs.toArray] (M 0) w (Fst p n) (fun x => .int .i64 (if x.1 < n then (x.1 : Int) else -1)) (fun x => M (aft n x.1)) := by
 refine K_enter (S := feet (M 0)) (K := M 0) Tryz.func150 rfl Tryz.ntmps150 rfl hM ?_
 refine TW.seq fun Y1 hY1 => TW.region ?_
 refine TL.p Pu.as ?_
 refine TL.nil (TQ.thenN (hY1 _ _ ?_))
 refine TW.seq fun Y2 hY2 => ?_
 refine TW.seq fun Y3 hY3 => TW.region ?_
 refine TL.p Pu.mv ?_
 refine TL.p (Pu.ln Tryz.underlying87) ?_
 refine TL.p Pu.mv ?_
 refine TL.nil (TQ.thenN (hY3 _ _ ?_))
 refine TW.block ?_
 refine TW.loop1 (fun (k : Nat) => [(8, .int .i64 (k : Int)), (7, .int .i64 (n : Int)), (0, .slice A n cp), (1, .func (.func g) fs.toArray cs.toArray)]) (fun k => M k) (fun k => k ≤ n ∧ ∀ j, j < k → p j = false) (fun k => n - k) 0 fs9 ?_ ?_ ?_
 exact KSub.refl _
 exact ⟨by omega, fun j hj => by omega⟩
 rintro k ⟨hk, hall⟩ Z0 hZ0
 refine TW.seq fun Y4 hY4 => TW.region ?_
 refine TL.p Pu.lt ?_
 refine TL.nil (TQ.thenN (hY4 _ _ ?_))
 refine TW.seq fun Y5 hY5 => ?_
 refine TW.cond rfl (fun hc0 => ?_) (fun hc0 => ?_)
 try simp only [zcb9] at hc0
 have hkn : k < n := by omega
 have hA := hA (by omega)
 refine TW.skip ?_
 refine TQ.thenN (hY5 _ _ ?_)
 refine TW.seq fun Y6 hY6 => ?_
 refine TW.block ?_
 refine TW.seq fun Y7 hY7 => TW.region ?_
 refine TL.p Pu.mv ?_
 refine TL.p Pu.as ?_
 refine TL.nil (TQ.thenN (hY7 _ _ ?_))
 refine TW.seq fun Y8 hY8 => TW.region ?_
 refine TL.p Pu.mv ?_
 refine TL.p Pu.mv ?_
 refine TL.p Pu.mv ?_
 refine TL.p (Pu.el ty_et87) ?_
 refine TL.p (Pu.ld ty_sc31) ?_
 refine TL.cvk rfl rfl hen (by rw [List.append_nil]) (fun w hw => by
   exact hg k (by omega) hall w hw) ?_
 intro _
 refine TL.nil (TQ.thenN (hY8 _ _ ?_))
 refine TW.cond rfl (fun hc1 => ?_) (fun hc1 => ?_)
 try simp only [zcb9] at hc1
 refine TW.seq fun Y9 hY9 => TW.region ?_
 refine TL.p Pu.mv ?_
 refine TL.p Pu.as ?_
 refine TL.nil (TQ.thenN (hY9 _ _ ?_))
 refine TW.ret ?_
 refine TQ.blkR ?_
 refine TQ.thenR ?_
 refine TQ.thenR ?_
 refine TQ.blkR ?_
 refine TQ.thenR ?_
 refine TQ.ret Tryz.results150 rfl ((.tmp rfl .nil)) ?_
 exact fun w hw => ⟨⟨k, by omega, hall, fun _ => hc1⟩, by simp [hkn]; rfl, by simpa [aft, hkn] using hw⟩
 try simp only [zcb9] at hc1
 refine TW.skip ?_
 refine TQ.blkN ?_
 refine TQ.thenN (hY6 _ _ ?_)
 refine TW.region ?_
 refine TL.p Pu.ad ?_
 refine TL.p Pu.mv ?_
 refine TL.nil ?_
 refine TQ.thenN (hZ0 (k + 1) _ _ ?_ ?_ fs9 ?_)
 refine ⟨by omega, fun j hj => ?_⟩
 by_cases h : j = k
 subst h; exact hc1
 exact hall j (by omega)
 exact zom9
 rw [List.append_nil]; exact KSub.refl _
 try simp only [zcb9] at hc0
 have hkn : k = n := by omega
 refine TW.exit ?_
 refine TQ.thenX ?_
 refine TQ.thenX ?_
 refine TQ.blkX ?_
 refine TQ.thenN (hY2 _ _ ?_)
 refine TW.seq fun Y10 hY10 => TW.region ?_
 refine TL.p Pu.as ?_
 refine TL.nil (TQ.thenN (hY10 _ _ ?_))
 refine TW.ret ?_
 refine TQ.ret Tryz.results150 rfl ((.tmp rfl .nil)) ?_
 exact fun w hw => ⟨⟨k, by omega, hall, fun h => by omega⟩, by simp [hkn]; rfl, by simpa [aft, hkn] using hw⟩
theorem hasInts_st {g : FuncId} {fs cs : List Value} {A : Option Addr} {n cp : Nat} {v : Nat → Option Addr × Nat × Nat} {p : Nat → Bool} {M : Nat → List Fact} {w : World} (hen : Enters Tryz.prog g) (hn : n ≤ 9223372036854775807)
  (hR : RdR w 1 A n (fun k => [.slice (v k).1 (v k).2.1 (v k).2.2])) (hA : 0 < n → Apart (feet (M 0)) A) (hM : Sat (feet (M 0)) w (M 0) w) (hfe : ∀ k, feet (M k) = feet (M 0))
  (hg : ∀ k, k < n → (∀ j, j < k → p j = false) → ∀ w', Sat (feet (M 0)) w (M k) w' → CallsK Tryz.prog g (fs ++ [Value.slice (v k).1 (v k).2.1 (v k).2.2] ++ cs).toArray (M k) w' Unit (fun _ => .bool (p k)) (fun _ => M (k + 1))) :
  CallsK Tryz.prog 135 #[.slice A n cp, .func (.func g) fs.toArray cs.toArray] (M 0) w (Fst p n) (fun x => .bool (decide (x.1 < n))) (fun x => M (aft n x.1)) := by
 refine K_enter (S := feet (M 0)) (K := M 0) Tryz.func135 rfl Tryz.ntmps135 rfl hM ?_
 refine TW.seq fun Y1 hY1 => TW.region ?_
 refine TL.p Pu.as ?_
 refine TL.nil (TQ.thenN (hY1 _ _ ?_))
 refine TW.seq fun Y2 hY2 => TW.region ?_
 refine TL.p Pu.mv ?_
 refine TL.p Pu.mv ?_
 refine TL.call rfl (enters Tryz.func150 rfl rfl) (by rw [List.append_nil]) rfl (fun w hw => by
   exact indexInts_any hen hn (hR.sat0 hw hA) hA hw.self hfe (fun k hk hp w' hw' => hg k hk hp w' (hw'.from hw.chg fun _ hb => .inl hb))) ?_
 intro x
 refine TL.p Pu.ge ?_
 refine TL.p Pu.as ?_
 refine TL.nil (TQ.thenN (hY2 _ _ ?_))
 refine TW.ret ?_
 refine TQ.ret Tryz.results135 rfl ((.tmp rfl .nil)) ?_
 exact fun w hw => ⟨x, by by_cases h : x.1 < n <;> simp [retV, h], by simpa using hw⟩
theorem hasInts_any {g : FuncId} {fs cs : List Value} {A : Option Addr} {n cp : Nat} {v : Nat → Option Addr × Nat × Nat} {p : Nat → Bool} {w : World} (hen : Enters Tryz.prog g) (hn : n ≤ 9223372036854775807)
  (hR : RdR w 1 A n (fun k => [.slice (v k).1 (v k).2.1 (v k).2.2])) (hg : ∀ k, k < n → ∀ w', Below w.heap.size w w' → Calls Tryz.prog g (fs ++ [Value.slice (v k).1 (v k).2.1 (v k).2.2] ++ cs).toArray w' (Ret w' (.bool (p k)))) :
  Calls Tryz.prog 135 #[.slice A n cp, .func (.func g) fs.toArray cs.toArray] w (Ret w (.bool (anyB n p))) :=
 CallsK.retOf (hasInts_st (M := fun _ => []) hen hn hR (fun _ => Apart.nil) (Sat.start w) (fun _ => rfl) fun k hk _ w' hw' => CallsK.ret (hg k hk w' (Chg.ext hw'.chg))) fun x => by rw [x.any]; rfl
theorem everyInts1_any {g : FuncId} {fs cs : List Value} {b : Nat} {u : Option Addr × Nat × Nat} {p : Bool} {w : World} (hen : Enters Tryz.prog g) (hb : OldB w b [.func (.func g) fs.toArray cs.toArray])
  (hg : ∀ w', Below w.heap.size w w' → Calls Tryz.prog g (fs ++ [Value.slice u.1 u.2.1 u.2.2] ++ cs).toArray w' (Ret w' (.bool p))) :
  Calls Tryz.prog 136 #[Value.slice u.1 u.2.1 u.2.2, .pointer (some ⟨b, 0, none⟩)] w (Ret w (.bool (!p))) := by
 refine K_enter (S := []) (K := []) Tryz.func136 rfl Tryz.ntmps136 rfl (Sat.start _) ?_
 refine TW.seq fun Y1 hY1 => TW.region ?_
 refine TL.p Pu.as ?_
 refine TL.nil (TQ.thenN (hY1 _ _ ?_))
 refine TW.seq fun Y2 hY2 => TW.region ?_
 refine TL.p (by first | exact (Pu.ld ty_sc134) | exact (Pu.ldo ty_sc134)) ?_
 refine TL.p Pu.mv ?_
 refine TL.cv rfl rfl hen (fun w hw => by
   exact hg _ (Chg.ext hw.chg)) ?_
 refine TL.p Pu.no ?_
 refine TL.p Pu.as ?_
 refine TL.nil (TQ.thenN (hY2 _ _ ?_))
 refine TW.ret ?_
 refine TQ.ret Tryz.results136 rfl ((.tmp rfl .nil)) ?_
 exact fun w hw => Ret.of hw
theorem everyInts_any {g : FuncId} {fs cs : List Value} {A : Option Addr} {n cp : Nat} {v : Nat → Option Addr × Nat × Nat} {p : Nat → Bool} {w : World} (hen : Enters Tryz.prog g) (hn : n ≤ 9223372036854775807)
  (hR : RdR w 1 A n (fun k => [.slice (v k).1 (v k).2.1 (v k).2.2])) (hg : ∀ k, k < n → ∀ w', Below w.heap.size w w' → Calls Tryz.prog g (fs ++ [Value.slice (v k).1 (v k).2.1 (v k).2.2] ++ cs).toArray w' (Ret w' (.bool (p k)))) :
  Calls Tryz.prog 98 #[.slice A n cp, .func (.func g) fs.toArray cs.toArray] w (Ret w (.bool (allB n p))) := by
 refine K_enter (S := []) (K := []) Tryz.func98 rfl Tryz.ntmps98 rfl (Sat.start _) ?_
 refine TW.seq fun Y1 hY1 => TW.region ?_
 refine TL.m Mk.bx ?_
 intro b1
 refine TL.p Pu.as ?_
 refine TL.nil (TQ.thenN (hY1 _ _ ?_))
 refine TW.seq fun Y2 hY2 => TW.region ?_
 refine TL.p Pu.mv ?_
 refine TL.p Pu.fn ?_
 refine TL.cr rfl (enters Tryz.func135 rfl rfl) (fun w hw => by
   have h1 := OldB.of_blk (hw.holds (.blk b1 134 [.func (.func g) fs.toArray cs.toArray]) (by simp))
   exact hasInts_any (fs := []) (v := v) (p := fun k => !p k) (enters Tryz.func136 rfl rfl) hn (hR.sat hw Apart.nil) fun k hk w' hb => everyInts1_any hen (h1.ext hb) fun w'' hb' => hg k hk w'' (((Chg.ext hw.chg).trans (hb.mono (Chg.ext hw.chg).size)).trans (hb'.mono (Nat.le_trans (Chg.ext hw.chg).size hb.size)))) ?_
 refine TL.p Pu.no ?_
 refine TL.p Pu.as ?_
 refine TL.nil (TQ.thenN (hY2 _ _ ?_))
 refine TW.ret ?_
 refine TQ.ret Tryz.results98 rfl ((.tmp rfl .nil)) ?_
 exact fun w hw => ⟨ret_bool (by rw [not_anyB]; simp), Chg.ext hw.chg⟩
set_option maxRecDepth 100000 in
theorem tribes_any {A : Option Addr} {n cp : Nat} {v : Nat → Int} {w : World} (hn : n ≤ 1000) (hR : RdR w 1 A n (fun k => [.int .i64 (v k)])) :
  Calls Tryz.prog 99 #[.slice A n cp] w (Ret w (.bool (triOk v n))) := by
 refine K_enter (S := []) (K := []) Tryz.func99 rfl Tryz.ntmps99 rfl (Sat.start _) ?_
 refine TW.seq fun Y1 hY1 => TW.region ?_
 refine TL.p Pu.as ?_
 refine TL.nil (TQ.thenN (hY1 _ _ ?_))
 refine TW.seq fun Y2 hY2 => ?_
 refine TW.join [(2, .bool ((allB n fun i => inB5 0 7 (v i)) && sortB v n && decide ((cmpL (toI v n)).length = n)))] ?_ (fun hJ1 => ?_)
 refine TQ.thenN (hY2 _ _ ?_)
 refine TW.ret ?_
 refine TQ.ret Tryz.results99 rfl ((.tmp rfl .nil)) ?_
 exact fun w hw => ⟨ret_bool tri_eq.symm, Chg.ext hw.chg⟩
 refine TW.region ?_
 refine TL.p Pu.mv ?_
 refine TL.cr rfl (enters Tryz.func137 rfl rfl) (fun w hw => by
   exact everyInt_any (fs := []) (cs := []) (v := v) (p := fun k => inB5 0 7 (v k)) (enters Tryz.func48 rfl rfl) (by omega) (hR.sat hw Apart.nil) fun k hk w' hb => tribe_any (v k) w') ?_
 refine TL.p Pu.mv ?_
 refine TL.guard (t := 5) rfl (fun hg1 => ?_) (fun hg1 => ?_)
 refine TL.gd Pu.mv ?_
 refine TL.cr rfl (enters Tryz.func138 rfl rfl) (fun w hw => by
   exact isSorted_any (by omega) (hR.sat hw Apart.nil)) ?_
 refine TL.p Pu.kt ?_
 refine TL.p Pu.mv ?_
 refine TL.guard (t := 9) rfl (fun hg2 => ?_) (fun hg2 => ?_)
 refine TL.gd Pu.mv ?_
 refine TL.gck rfl (enters Tryz.func71 rfl rfl) (fun w hw => by
   exact cloneI_any (v := v) (by omega) (hR.sat hw Apart.nil)) ?_
 rintro ⟨A9, c9⟩
 refine TL.gcm rfl (enters Tryz.func139 rfl rfl) (M := [.own A9 n c9 3 1 (iL (toI v n))]) (List.Perm.refl _) (fun w hw => compact_any (L := toI v n) toI_len.symm (by omega) (hw.holds (.own A9 n c9 3 1 (iL (toI v n))) (by simp))) ?_
 rintro ⟨⟩
 refine TL.gd (Pu.ln Tryz.underlying31) ?_
 refine TL.gd Pu.mv ?_
 refine TL.gd (Pu.ln Tryz.underlying31) ?_
 refine TL.gd Pu.eq ?_
 refine TL.p Pu.kt ?_
 refine TL.p Pu.as ?_
 refine TL.nil ?_
 exact TQ.sub (by repeat (first | exact trivial | refine ⟨rfl, ?_⟩ | refine ⟨trivial, ?_⟩ | refine ⟨(by show some (Value.bool _) = some (Value.bool _); first | (simp [hg1, hg2]; done) | (refine congrArg (fun z => some (Value.bool z)) (Bool.eq_iff_iff.2 ?_); simp [hg1, hg2]; omega)), ?_⟩)) ks9 hJ1
 refine TL.gs ?_
 refine TL.gs ?_
 refine TL.gs ?_
 refine TL.gs ?_
 refine TL.gs ?_
 refine TL.gs ?_
 refine TL.gs ?_
 refine TL.p Pu.kf ?_
 refine TL.p Pu.as ?_
 refine TL.nil ?_
 exact TQ.sub (by repeat (first | exact trivial | refine ⟨rfl, ?_⟩ | refine ⟨trivial, ?_⟩ | refine ⟨(by show some (Value.bool _) = some (Value.bool _); first | (simp [hg1, hg2]; done) | (refine congrArg (fun z => some (Value.bool z)) (Bool.eq_iff_iff.2 ?_); simp [hg1, hg2]; omega)), ?_⟩)) ks9 hJ1
 refine TL.gs ?_
 refine TL.gs ?_
 refine TL.p Pu.kf ?_
 refine TL.p Pu.mv ?_
 refine TL.gs ?_
 refine TL.gs ?_
 refine TL.gs ?_
 refine TL.gs ?_
 refine TL.gs ?_
 refine TL.gs ?_
 refine TL.gs ?_
 refine TL.p Pu.kf ?_
 refine TL.p Pu.as ?_
 refine TL.nil ?_
 exact TQ.sub (by repeat (first | exact trivial | refine ⟨rfl, ?_⟩ | refine ⟨trivial, ?_⟩ | refine ⟨(by show some (Value.bool _) = some (Value.bool _); first | (simp [hg1]; done) | (refine congrArg (fun z => some (Value.bool z)) (Bool.eq_iff_iff.2 ?_); simp [hg1]; omega)), ?_⟩)) ks9 hJ1
def sl3 (O : Option Addr) (no co : Nat) (U : Option Addr) (nu cu : Nat) (V : Option Addr) (nv cv : Nat) : Nat → Option Addr × Nat × Nat
 | 0 => (O, no, co)
 | 1 => (U, nu, cu)
 | _ => (V, nv, cv)
def tri3 (T : Trp) : Nat → Bool
 | 0 => triOk T.o T.no
 | 1 => triOk T.u T.nu
 | _ => triOk T.v T.nv
set_option maxRecDepth 100000 in
theorem cValid_any {T : Trp} {O U V : Option Addr} {co cu cv : Nat} {w : World} (h : TrpIn w T O U V) :
  Calls Tryz.prog 54 #[.agg (troopL T.hd T.wo O T.no co U T.nu cu V T.nv cv).toArray] w (Ret w (.bool (trpOk T))) := by
 have hno := h.hno
 have hnu := h.hnu
 have hnv := h.hnv
 unfold troopL
 refine K_enter (S := []) (K := []) Tryz.func54 rfl Tryz.ntmps54 rfl (Sat.start _) ?_
 refine TW.seq fun Y1 hY1 => TW.region ?_
 refine TL.m Mk.bx ?_
 intro b1
 refine TL.p Pu.as ?_
 refine TL.nil (TQ.thenN (hY1 _ _ ?_))
 refine TW.seq fun Y2 hY2 => ?_
 refine TW.join [(2, .bool (inB5 1 1000 T.hd && inB5 0 1000000000000 T.wo && allB 3 (tri3 T)))] ?_ (fun hJ1 => ?_)
 refine TQ.thenN (hY2 _ _ ?_)
 refine TW.ret ?_
 refine TQ.ret Tryz.results54 rfl ((.tmp rfl .nil)) ?_
 exact fun w hw => ⟨ret_bool (by unfold trpOk; simp only [allB, List.range_succ, List.range_zero, List.nil_append, List.all_cons, List.all_append, List.all_nil, Bool.and_true, tri3, Bool.and_assoc]), Chg.ext hw.chg⟩
 refine TW.region ?_
 refine TL.p (by first | exact Pu.fb ty_fa33_0 | exact Pu.fe ty_fa33_0) ?_
 refine TL.p (Pu.ld ty_sc3) ?_
 refine TL.cr rfl (enters Tryz.func41 rfl rfl) (fun w hw => by
   exact in_any _ _ _ _) ?_
 refine TL.p Pu.mv ?_
 refine TL.guard (t := 6) rfl (fun hg1 => ?_) (fun hg1 => ?_)
 refine TL.gd (by first | exact Pu.fb ty_fa33_1 | exact Pu.fe ty_fa33_1) ?_
 refine TL.gd (Pu.ld ty_sc3) ?_
 refine TL.cr rfl (enters Tryz.func41 rfl rfl) (fun w hw => by
   exact in_any _ _ _ _) ?_
 refine TL.p Pu.kt ?_
 refine TL.p Pu.mv ?_
 refine TL.guard (t := 11) rfl (fun hg2 => ?_) (fun hg2 => ?_)
 refine TL.gd (by first | exact Pu.fb ty_fa33_2 | exact Pu.fe ty_fa33_2) ?_
 refine TL.gd (Pu.ld ty_sc31) ?_
 refine TL.gd (by first | exact Pu.fb ty_fa33_3 | exact Pu.fe ty_fa33_3) ?_
 refine TL.gd (Pu.ld ty_sc31) ?_
 refine TL.gd (by first | exact Pu.fb ty_fa33_4 | exact Pu.fe ty_fa33_4) ?_
 refine TL.gd (Pu.ld ty_sc31) ?_
 refine TL.gm Mk.bl ?_
 intro b2
 refine TL.cr rfl (enters Tryz.func98 rfl rfl) (fun w hw => by
   exact everyInts_any (fs := []) (cs := []) (n := 3) (v := sl3 O T.no co U T.nu cu V T.nv cv) (p := tri3 T) (enters Tryz.func99 rfl rfl) (by omega) (RdR.blk (cs := [.slice O T.no co, .slice U T.nu cu, .slice V T.nv cv]) (hw.holds _ (List.mem_cons_self ..)) rfl (fun _ _ => rfl)) fun k hk w' hb => by
    have hk3 : k = 0 ∨ k = 1 ∨ k = 2 := by omega
    have hx := h.ext ((Chg.ext hw.chg).trans (hb.mono (Chg.ext hw.chg).size))
    rcases hk3 with rfl | rfl | rfl
    exact tribes_any h.hno hx.hO
    exact tribes_any h.hnu hx.hU
    exact tribes_any h.hnv hx.hV) ?_
 refine TL.p Pu.kt ?_
 refine TL.p Pu.as ?_
 refine TL.nil ?_
 exact TQ.sub (by repeat (first | exact trivial | refine ⟨rfl, ?_⟩ | refine ⟨trivial, ?_⟩ | refine ⟨(by show some (Value.bool _) = some (Value.bool _); first | (simp [hg1, hg2]; done) | (refine congrArg (fun z => some (Value.bool z)) (Bool.eq_iff_iff.2 ?_); simp [hg1, hg2]; omega)), ?_⟩)) ks9 hJ1
 refine TL.gs ?_
 refine TL.gs ?_
 refine TL.gs ?_
 refine TL.gs ?_
 refine TL.gs ?_
 refine TL.gs ?_
 refine TL.gs ?_
 refine TL.gs ?_
 refine TL.p Pu.kf ?_
 refine TL.p Pu.as ?_
 refine TL.nil ?_
 exact TQ.sub (by repeat (first | exact trivial | refine ⟨rfl, ?_⟩ | refine ⟨trivial, ?_⟩ | refine ⟨(by show some (Value.bool _) = some (Value.bool _); first | (simp [hg1, hg2]; done) | (refine congrArg (fun z => some (Value.bool z)) (Bool.eq_iff_iff.2 ?_); simp [hg1, hg2]; omega)), ?_⟩)) ks9 hJ1
 refine TL.gs ?_
 refine TL.gs ?_
 refine TL.gs ?_
 refine TL.p Pu.kf ?_
 refine TL.p Pu.mv ?_
 refine TL.gs ?_
 refine TL.gs ?_
 refine TL.gs ?_
 refine TL.gs ?_
 refine TL.gs ?_
 refine TL.gs ?_
 refine TL.gs ?_
 refine TL.gs ?_
 refine TL.p Pu.kf ?_
 refine TL.p Pu.as ?_
 refine TL.nil ?_
 exact TQ.sub (by repeat (first | exact trivial | refine ⟨rfl, ?_⟩ | refine ⟨trivial, ?_⟩ | refine ⟨(by show some (Value.bool _) = some (Value.bool _); first | (simp [hg1]; done) | (refine congrArg (fun z => some (Value.bool z)) (Bool.eq_iff_iff.2 ?_); simp [hg1]; omega)), ?_⟩)) ks9 hJ1
end Go.Proofs.YtfaenhhgkhcghaaGreatDoor
namespace Go.Proofs.YtfaenhhgkhcghaaGreatDoor
set_option linter.all false
set_option linter.unusedVariables false
set_option linter.unusedSimpArgs false
open Go.RowKit
theorem WK.gm {c : Cx} {Q : Exit → Act → World → Prop} {F : Fr} {K : List Fact} {ops : Array Oper} {nf : Nat} {fl : List Fl} {bs : List Bool} {pend : List (Nat × Oper)} {i : Nat} {d : Option Tmp} {op : Op} {ty : TypeId} {pos : String} {af : Array Edge} {g : Option (Nat × Bool)} {v : Nat → Value} {t : TypeId} {cs : List Value}
  (hm : Mk c F K ⟨d, op, ty, pos, af, g⟩ v t cs) (h : ∀ b, WK c ops Q nf fl bs pend (fput F d (v b)) (.blk b t cs :: K)) (hg : gdB F (frontOf ops nf) g = some true := by rfl) (hd : dok d c.n = true := by rfl) : WK c ops Q nf fl (false :: bs) ((i, ⟨d, op, ty, pos, af, g⟩) :: pend) F K :=
 WK.act fun a w' K' hF hK ho hK' => by
  refine wpOp_of ho (hF.wanted hg) ?_
  have hr := hm a w' hF hK
  unfold Oper.wp
  rw [hr]
  have hs : Sat [] w' [.blk w'.heap.size t cs] (w'.alloc (.cells cs.toArray t)) := (Sat.start w').new t cs
  exact hK' _ [.blk w'.heap.size t cs] _ _ hs (hF.fput hd _) (h w'.heap.size)
end Go.Proofs.YtfaenhhgkhcghaaGreatDoor
namespace Go.Proofs.YtfaenhhgkhcghaaGreatDoor
set_option linter.all false
set_option linter.unusedVariables false
set_option linter.unusedSimpArgs false
open Go.RowKit
def trkL (T : Trp) (O : Option Addr) (co : Nat) (U : Option Addr) (cu : Nat) (V : Option Addr) (cv : Nat) (Z : Cus) (C : Option Addr) (cc : Nat) (D : Option Addr) (cd : Nat) (B : Option Addr) (cb : Nat) (S : Option Addr) (n cs : Nat) : List Value :=
 [.int .i64 T.hd, .int .i64 T.wo, .slice O T.no co, .slice U T.nu cu, .slice V T.nv cv, .slice C Z.nc cc, .slice D Z.nd cd, .slice B Z.nb cb, .slice S n cs]
def hclO (Z : Cus) (leg day : Int) : (Nat → Int) × Bool := if 0 ≤ holZ Z leg day then hclZ Z leg day else (fun _ => 0, false)
theorem ex_any {n : Nat} {p : Nat → Bool} : anyB n p = exB n p := by
 rw [Bool.eq_iff_iff, exB_iff]
 unfold anyB
 rw [List.any_eq_true]
 exact ⟨fun ⟨k, hk, h⟩ => ⟨k, List.mem_range.1 hk, h⟩, fun ⟨k, hk, h⟩ => ⟨k, List.mem_range.2 hk, h⟩⟩
theorem catT_peo {T : Trp} {w : World} {A : Option Addr} {a : Nat → Nat} {v : Nat → Nat → Int} (h : RdR w 1 A (totT a 2) (catT a (fun i k => [.int .i64 (v i k)]) 2)) (h0 : a 0 = T.no := by rfl) (h1 : a 1 = T.nu := by rfl) (e0 : v 0 = T.o := by rfl) (e1 : v 1 = T.u := by rfl) :
    RdR w 1 A (0 + T.no + T.nu) (fun k => [.int .i64 (peoA T k)]) := by
  have en : totT a 2 = 0 + T.no + T.nu := by simp only [totT, h0, h1]
  rw [en] at h
  have er : ∀ i, i < 0 + T.no + T.nu → catT a (fun i k => [Value.int .i64 (v i k)]) 2 i = [Value.int .i64 (peoA T i)] := fun i hi => by
    simp only [catT, catR, totT, h0, h1, e0, e1, Nat.zero_add, Nat.not_lt_zero, if_false, Nat.sub_zero, peoA]
    split <;> rfl
  exact ⟨h.rd.congr fun i j hi _ => by simp only [rowF, er i hi], fun i hi => rfl⟩
section
variable {Z : Cus} {T : Trp} {C D B O U V S : Option Addr} {cc cd cb co cu cv n cs bt : Nat} {w : World}
set_option maxRecDepth 100000 in
set_option maxHeartbeats 1000000 in
theorem cHost_any (leg day : Int) (hok : CusOk Z) (h : CustIn w C Z.nc D Z.nd B Z.nb Z.c Z.d Z.b) (ht : OldB w bt (trkL T O co U cu V cv Z C cc D cd B cb S n cs)) :
  Calls Tryz.prog 121 #[.pointer (some ⟨bt, 0, none⟩), .int .i64 leg, .int .i64 day] w (Ret w (.tuple #[.agg (claimL (hclO Z leg day)).toArray, .bool (decide (0 ≤ holZ Z leg day))])) := by
 have hRC := h.hC
 have h1 := h.hnc
 have hol := hol_bd (Z := Z) (leg := leg) (day := day)
 unfold trkL at ht
 have fH := fun (w' : World) (h' : RdR w' 7 C Z.nc (fun k => claimL (Z.c k))) => holder_any (C := C) (D := D) (B := B) (cc := cc) (nd := Z.nd) (cd := cd) (nb := Z.nb) (cb := cb) leg day w' h1 h'
 unfold custL at fH
 refine K_enter (S := []) (K := []) Tryz.func121 rfl Tryz.ntmps121 rfl (Sat.start _) ?_
 refine TW.seq fun Y1 hY1 => TW.region ?_
 refine TL.m (Mk.al ty_zr70) ?_
 intro b1
 refine TL.p Pu.as ?_
 refine TL.nil (TQ.thenN (hY1 _ _ ?_))
 refine TW.seq fun Y2 hY2 => ?_
 refine TW.seq fun Y3 hY3 => TW.region ?_
 refine TL.p Pu.mv ?_
 refine TL.p (by first | exact Pu.nn | exact Pu.nc) ?_
 refine TL.p (by first | exact Pu.fb ty_fa129_1 | exact Pu.fe ty_fa129_1) ?_
 refine TL.p (Pu.ldso ty_ag30) ?_
 refine TL.p Pu.mv ?_
 refine TL.p Pu.mv ?_
 refine TL.cr rfl (enters Tryz.func42 rfl rfl) (fun w hw => by
   exact fH _ (hRC.sat hw Apart.nil)) ?_
 refine TL.p Pu.as ?_
 refine TL.nil (TQ.thenN (hY3 _ _ ?_))
 refine TW.seq fun Y4 hY4 => TW.region ?_
 refine TL.p Pu.mv ?_
 refine TL.p Pu.ge ?_
 refine TL.nil (TQ.thenN (hY4 _ _ ?_))
 refine TW.cond rfl (fun hc0 => ?_) (fun hc0 => ?_)
 try simp only [zcb9] at hc0
 have hh : 0 ≤ holZ Z leg day := by unfold holZ; omega
 have hhc : hclO Z leg day = Z.c (hb leg day Z.c Z.nc).toNat := if_pos hh
 have hol2 : hb leg day Z.c Z.nc < Z.nc := hol.2
 refine TW.seq fun Y5 hY5 => TW.region ?_
 refine TL.p Pu.mv ?_
 refine TL.p (by first | exact Pu.nn | exact Pu.nc) ?_
 refine TL.p (by first | exact Pu.fb ty_fa129_1 | exact Pu.fe ty_fa129_1) ?_
 refine TL.p (by first | exact Pu.fb ty_fa30_0 | exact Pu.fe ty_fa30_0) ?_
 refine TL.p (Pu.ldo ty_sc26) ?_
 refine TL.p Pu.mv ?_
 refine TL.p (Pu.el (q := (hb leg day Z.c Z.nc).toNat) ty_et26 (hk := rfl)) ?_
 refine TL.p (Pu.lds ty_ag70) ?_
 first | refine TL.st ty_sz70 ?_ | refine TL.se ty_sz70 ?_
 refine TL.p Pu.as ?_
 refine TL.nil (TQ.thenN (hY5 _ _ ?_))
 refine TW.ret ?_
 refine TQ.thenR ?_
 refine TQ.ret Tryz.results121 rfl ((RV.cs ty_ag70 (.tmp rfl .nil))) ?_
 exact fun w hw => ⟨by rw [hhc, decide_eq_true hh]; rfl, Chg.ext hw.chg⟩
 try simp only [zcb9] at hc0
 have hh : ¬ 0 ≤ holZ Z leg day := by unfold holZ; omega
 have hhc : hclO Z leg day = (fun _ => 0, false) := if_neg hh
 refine TW.skip ?_
 refine TQ.thenN (hY2 _ _ ?_)
 refine TW.seq fun Y6 hY6 => TW.region ?_
 refine TL.p Pu.bd ?_
 first | refine TL.st ty_sz70 ?_ | refine TL.se ty_sz70 ?_
 refine TL.p Pu.as ?_
 refine TL.nil (TQ.thenN (hY6 _ _ ?_))
 refine TW.ret ?_
 refine TQ.ret Tryz.results121 rfl ((RV.cs ty_ag70 (.tmp rfl .nil))) ?_
 exact fun w hw => ⟨by rw [hhc, decide_eq_false hh]; rfl, Chg.ext hw.chg⟩
theorem cClosed1_any {b1 b2 : Nat} (x : Nat → Int) (leg day : Int) (h1 : OldB w b1 [.int .i64 leg]) (h2 : OldB w b2 [.int .i64 day]) :
  Calls Tryz.prog 195 #[.agg (borderL x).toArray, .pointer (some ⟨b1, 0, none⟩), .pointer (some ⟨b2, 0, none⟩)] w (Ret w (.bool (decide (x 0 = leg) && inB5 (x 1) (x 2) day))) := by
 refine K_enter (S := []) (K := []) Tryz.func195 rfl Tryz.ntmps195 rfl (Sat.start _) ?_
 refine TW.seq fun Y1 hY1 => TW.region ?_
 refine TL.m Mk.bx ?_
 intro b1
 refine TL.p Pu.as ?_
 refine TL.nil (TQ.thenN (hY1 _ _ ?_))
 refine TW.seq fun Y2 hY2 => ?_
 refine TW.join [(4, .bool (decide (x 0 = leg) && inB5 (x 1) (x 2) day))] ?_ (fun hJ1 => ?_)
 refine TQ.thenN (hY2 _ _ ?_)
 refine TW.ret ?_
 refine TQ.ret Tryz.results195 rfl ((.tmp rfl .nil)) ?_
 exact fun w hw => Ret.of hw
 refine TW.region ?_
 refine TL.p (by first | exact Pu.fb ty_fa72_0 | exact Pu.fe ty_fa72_0) ?_
 refine TL.p (by first | exact (Pu.ld ty_sc3) | exact (Pu.ldo ty_sc3)) ?_
 refine TL.p (by first | exact (Pu.ld ty_sc3) | exact (Pu.ldo ty_sc3)) ?_
 refine TL.p Pu.eq ?_
 refine TL.p Pu.mv ?_
 refine TL.guard (t := 9) rfl (fun hg1 => ?_) (fun hg1 => ?_)
 refine TL.gd (by first | exact (Pu.lds ty_ag72) | exact (Pu.ldso ty_ag72)) ?_
 refine TL.gd Pu.fc ?_
 refine TL.gd (by first | exact (Pu.ld ty_sc3) | exact (Pu.ldo ty_sc3)) ?_
 refine TL.cr rfl (enters Tryz.func84 rfl rfl) (fun w hw => by
   exact holds_any _ _ borderMeth (enters Tryz.func190 rfl rfl) (fun w => borderDays_any x w)) ?_
 refine TL.p Pu.kt ?_
 refine TL.p Pu.as ?_
 refine TL.nil ?_
 exact TQ.sub (by repeat (first | exact trivial | refine ⟨rfl, ?_⟩ | refine ⟨trivial, ?_⟩ | refine ⟨(by show some (Value.bool _) = some (Value.bool _); first | (simp [hg1]; done) | (refine congrArg (fun z => some (Value.bool z)) (Bool.eq_iff_iff.2 ?_); simp [hg1]; omega)), ?_⟩)) ks9 hJ1
 refine TL.gs ?_
 refine TL.gs ?_
 refine TL.gs ?_
 refine TL.gs ?_
 refine TL.p Pu.kf ?_
 refine TL.p Pu.as ?_
 refine TL.nil ?_
 exact TQ.sub (by repeat (first | exact trivial | refine ⟨rfl, ?_⟩ | refine ⟨trivial, ?_⟩ | refine ⟨(by show some (Value.bool _) = some (Value.bool _); first | (simp [hg1]; done) | (refine congrArg (fun z => some (Value.bool z)) (Bool.eq_iff_iff.2 ?_); simp [hg1]; omega)), ?_⟩)) ks9 hJ1
set_option maxRecDepth 100000 in
theorem cClosed_any (leg day : Int) (h : CustIn w C Z.nc D Z.nd B Z.nb Z.c Z.d Z.b) (ht : OldB w bt (trkL T O co U cu V cv Z C cc D cd B cb S n cs)) :
  Calls Tryz.prog 192 #[.pointer (some ⟨bt, 0, none⟩), .int .i64 leg, .int .i64 day] w (Ret w (.bool (closZ Z leg day))) := by
 have hRB := h.hB
 have h3 := h.hnb
 unfold trkL at ht
 refine K_enter (S := []) (K := []) Tryz.func192 rfl Tryz.ntmps192 rfl (Sat.start _) ?_
 refine TW.seq fun Y1 hY1 => TW.region ?_
 refine TL.m Mk.bx ?_
 intro b1
 refine TL.m Mk.bx ?_
 intro b2
 refine TL.p Pu.as ?_
 refine TL.nil (TQ.thenN (hY1 _ _ ?_))
 refine TW.seq fun Y2 hY2 => TW.region ?_
 refine TL.p Pu.mv ?_
 refine TL.p (by first | exact Pu.nn | exact Pu.nc) ?_
 refine TL.p (by first | exact Pu.fb ty_fa129_1 | exact Pu.fe ty_fa129_1) ?_
 refine TL.p (by first | exact Pu.fb ty_fa30_2 | exact Pu.fe ty_fa30_2) ?_
 refine TL.p (Pu.ldo ty_sc28) ?_
 refine TL.p Pu.fn ?_
 refine TL.cr rfl (enters Tryz.func96 rfl rfl) (fun w hw => by
   have h1 := OldB.of_blk (hw.holds (.blk b1 3 [.int .i64 leg]) (by simp))
   have h2 := OldB.of_blk (hw.holds (.blk b2 3 [.int .i64 day]) (by simp))
   exact hasBorder_any (fs := []) (v := Z.b) (p := fun k => decide (Z.b k 0 = leg) && inB5 (Z.b k 1) (Z.b k 2) day) (enters Tryz.func195 rfl rfl) (by omega) (hRB.sat hw Apart.nil) fun k hk w' hb => cClosed1_any (Z.b k) leg day (h1.ext hb) (h2.ext hb)) ?_
 refine TL.p Pu.as ?_
 refine TL.nil (TQ.thenN (hY2 _ _ ?_))
 refine TW.ret ?_
 refine TQ.ret Tryz.results192 rfl ((.tmp rfl .nil)) ?_
 exact fun w hw => ⟨ret_bool ex_any.symm, Chg.ext hw.chg⟩
set_option maxRecDepth 100000 in
set_option maxHeartbeats 1000000 in
theorem cHated1_any {q1 q2 q3 : Nat} (x : Nat → Int) (y : (Nat → Int) × Bool) (day : Int) (hx : 0 ≤ x 0 ∧ x 0 ≤ 7 ∧ 0 ≤ x 1 ∧ x 1 ≤ 7) (hy : 0 ≤ y.1 1 ∧ y.1 1 ≤ 7) (h1 : OldB w q1 (claimL y)) (h2 : OldB w q2 [.int .i64 day]) (h3 : OldB w q3 [.pointer (some ⟨bt, 0, none⟩)])
  (t : TrpIn w T O U V) (ht : OldB w bt (trkL T O co U cu V cv Z C cc D cd B cb S n cs)) :
  Calls Tryz.prog 196 #[.agg (feudL x).toArray, .pointer (some ⟨q1, 0, none⟩), .pointer (some ⟨q2, 0, none⟩), .pointer (some ⟨q3, 0, none⟩)] w (Ret w (.bool (feuC (T.no + T.nu) (peoA T) (y.1 1) day x))) := by
 have hno := t.hno
 have hnu := t.hnu
 have hRO := t.hO
 have hRU := t.hU
 unfold trkL at ht
 refine K_enter (S := []) (K := []) Tryz.func196 rfl Tryz.ntmps196 rfl (Sat.start _) ?_
 refine TW.seq fun Y1 hY1 => TW.region ?_
 refine TL.m Mk.bx ?_
 intro b1
 refine TL.p Pu.as ?_
 refine TL.nil (TQ.thenN (hY1 _ _ ?_))
 refine TW.seq fun Y2 hY2 => TW.region ?_
 refine TL.p (by first | exact Pu.fb ty_fa109_0 | exact Pu.fe ty_fa109_0) ?_
 refine TL.p (by first | exact (Pu.ld ty_sc3) | exact (Pu.ldo ty_sc3)) ?_
 refine TL.p (by first | exact Pu.fb ty_fa109_1 | exact Pu.fe ty_fa109_1) ?_
 refine TL.p (by first | exact (Pu.ld ty_sc3) | exact (Pu.ldo ty_sc3)) ?_
 refine TL.p Pu.ad ?_
 refine TL.p (by first | exact Pu.fb ty_fa70_1 | exact Pu.fe ty_fa70_1) ?_
 refine TL.p (by first | exact (Pu.ld ty_sc3) | exact (Pu.ldo ty_sc3)) ?_
 refine TL.p Pu.sb ?_
 refine TL.p Pu.as ?_
 refine TL.nil (TQ.thenN (hY2 _ _ ?_))
 refine TW.seq fun Y3 hY3 => ?_
 refine TW.join [(5, .bool (feuC (T.no + T.nu) (peoA T) (y.1 1) day x))] ?_ (fun hJ1 => ?_)
 refine TQ.thenN (hY3 _ _ ?_)
 refine TW.ret ?_
 refine TQ.ret Tryz.results196 rfl ((.tmp rfl .nil)) ?_
 exact fun w hw => Ret.of hw
 refine TW.ex0k [.blk b1 109 [.int .i64 (x 0), .int .i64 (x 1), .int .i64 (x 2), .int .i64 (x 3)]] ?_
 refine RG.tk 0 rfl (by first | exact Pu.fb ty_fa109_0 | exact Pu.fe ty_fa109_0) ?_
 refine RG.tk 1 rfl (by first | exact (Pu.ld ty_sc3) | exact (Pu.ldo ty_sc3)) ?_
 refine RG.tk 2 rfl (by first | exact Pu.fb ty_fa70_1 | exact Pu.fe ty_fa70_1) ?_
 refine RG.tk 3 rfl (by first | exact (Pu.ld ty_sc3) | exact (Pu.ldo ty_sc3)) ?_
 refine RG.tk 4 rfl Pu.eq ?_
 refine RG.tk 5 rfl Pu.mv ?_
 refine RG.guard (t := 20) rfl (fun hg1 => ?_) (fun hg1 => ?_)
 refine RG.ts 6 rfl ?_
 refine RG.ts 7 rfl ?_
 refine RG.ts 8 rfl ?_
 refine RG.ts 9 rfl ?_
 refine RG.ts 10 rfl ?_
 refine RG.tk 11 rfl Pu.kt ?_
 refine RG.tk 12 rfl Pu.mv ?_
 refine RG.tk 13 rfl (by first | exact (Pu.lds ty_ag109) | exact (Pu.ldso ty_ag109)) ?_
 refine RG.tk 15 rfl (by first | exact (Pu.ld ty_sc3) | exact (Pu.ldo ty_sc3)) ?_
 refine RG.a1 14 rfl (fun X14 hX14 => ?_)
 refine TL.gd Pu.fc ?_
 refine TL.nil ?_
 refine TQ.nxt (hX14 _ _ hl9 ?_)
 refine RG.a1 16 rfl (fun X16 hX16 => ?_)
 refine TL.cr rfl (enters Tryz.func84 rfl rfl) (fun w hw => by
   exact holds_any _ _ feudMeth (enters Tryz.func189 rfl rfl) (fun w => feudDays_any x w)) ?_
 refine TL.nil ?_
 refine TQ.nxt (hX16 _ _ hl9 ?_)
 refine RG.tk 17 rfl Pu.kt ?_
 refine RG.tk 18 rfl Pu.mv ?_
 refine RG.guard (t := 33) rfl (fun hg2 => ?_) (fun hg2 => ?_)
 refine RG.tk 19 rfl (by first | exact (Pu.ld ty_sc76) | exact (Pu.ldo ty_sc76)) ?_
 refine RG.tk 24 rfl (by first | exact (Pu.ld ty_sc76) | exact (Pu.ldo ty_sc76)) ?_
 refine RG.tk 31 rfl Pu.mv ?_
 refine RG.a2 20 25 rfl rfl (fun X20 hX20 => ?_) (fun X25 hX25 => ?_)
 refine TL.gd (by first | exact Pu.nn | exact Pu.nc) ?_
 refine TL.nil ?_
 refine TQ.nxt (hX20 _ _ hl9 ?_)
 refine RG.tk 21 rfl (by first | exact Pu.fb ty_fa129_0 | exact Pu.fe ty_fa129_0) ?_
 refine RG.tk 22 rfl (by first | exact Pu.fb ty_fa33_2 | exact Pu.fe ty_fa33_2) ?_
 refine RG.tk 23 rfl (by first | exact (Pu.ld ty_sc31) | exact (Pu.ldo ty_sc31)) ?_
 refine RG.a1 25 rfl (fun X25 hX25 => ?_)
 refine TL.gd (by first | exact Pu.nn | exact Pu.nc) ?_
 refine TL.nil ?_
 refine TQ.nxt (hX25 _ _ hl9 ?_)
 refine RG.tk 26 rfl (by first | exact Pu.fb ty_fa129_0 | exact Pu.fe ty_fa129_0) ?_
 refine RG.tk 27 rfl (by first | exact Pu.fb ty_fa33_3 | exact Pu.fe ty_fa33_3) ?_
 refine RG.tk 28 rfl (by first | exact (Pu.ld ty_sc31) | exact (Pu.ldo ty_sc31)) ?_
 refine RG.a1 29 rfl (fun X29 hX29 => ?_)
 refine TL.gm Mk.bl ?_
 intro b2
 refine TL.nil ?_
 refine TQ.nxt (hX29 _ _ hl9 ?_)
 refine RG.a1 30 rfl (fun X30 hX30 => ?_)
 refine TL.gck rfl (enters Tryz.func59 rfl rfl) (fun w hw => by
   have hb := RdR.blk (cs := [.slice O T.no co, .slice U T.nu cu]) (n := 2) (sz := 1) (r := fun i => [.slice (sl3 O T.no co U T.nu cu none 0 0 i).1 (sl3 O T.no co U T.nu cu none 0 0 i).2.1 (sl3 O T.no co U T.nu cu none 0 0 i).2.2]) (hw.holds _ (List.mem_cons_self ..)) rfl (fun _ _ => rfl)
   exact concatI_any (m := 2) (a := fun i => (sl3 O T.no co U T.nu cu none 0 0 i).1) (l := fun i => (sl3 O T.no co U T.nu cu none 0 0 i).2.1) (c := fun i => (sl3 O T.no co U T.nu cu none 0 0 i).2.2) (v := fun i => if i = 0 then T.o else T.u) (by omega) (by show totT _ 1 + T.nu ≤ _; simp only [totT, sl3]; omega) hb (fun i hi => by
    have : i = 0 ∨ i = 1 := by omega
    rcases this with rfl | rfl
    exact hRO.sat hw Apart.nil
    exact hRU.sat hw Apart.nil)) ?_
 rintro ⟨A9, c9⟩
 refine TL.nil ?_
 refine TQ.nxt (hX30 _ _ hl9 ?_)
 refine RG.a1 32 rfl (fun X32 hX32 => ?_)
 refine TL.cr rfl (enters Tryz.func122 rfl rfl) (fun w hw => by
   exact contains_any (n := 0 + T.no + T.nu) (v := peoA T) _ (by omega) (catT_peo (OwnR.rdr (hw.holds _ (List.mem_cons_self ..))))) ?_
 refine TL.nil ?_
 refine TQ.nxt (hX32 _ _ hl9 ?_)
 refine RG.tk 33 rfl Pu.kt ?_
 refine RG.tk 34 rfl Pu.as ?_
 refine RG.nil ?_ (by kernel_rfl)
 exact TQ.sub (by repeat (first | exact trivial | refine ⟨rfl, ?_⟩ | refine ⟨trivial, ?_⟩ | refine ⟨(by show some (Value.bool _) = some (Value.bool _); first | (simp [hg1, hg2, feuC, hasB, Nat.zero_add]; done) | (refine congrArg (fun z => some (Value.bool z)) (Bool.eq_iff_iff.2 ?_); simp [hg1, hg2, feuC, hasB, Nat.zero_add]; omega)), ?_⟩)) ks9 hJ1
 refine TL.gd (by first | exact Pu.nn | exact Pu.nc) ?_
 refine TL.nil ?_
 refine TQ.nxt (hX25 _ _ hl9 ?_)
 refine RG.tk 26 rfl (by first | exact Pu.fb ty_fa129_0 | exact Pu.fe ty_fa129_0) ?_
 refine RG.tk 27 rfl (by first | exact Pu.fb ty_fa33_3 | exact Pu.fe ty_fa33_3) ?_
 refine RG.tk 28 rfl (by first | exact (Pu.ld ty_sc31) | exact (Pu.ldo ty_sc31)) ?_
 refine RG.a1 20 rfl (fun X20 hX20 => ?_)
 refine TL.gd (by first | exact Pu.nn | exact Pu.nc) ?_
 refine TL.nil ?_
 refine TQ.nxt (hX20 _ _ hl9 ?_)
 refine RG.tk 21 rfl (by first | exact Pu.fb ty_fa129_0 | exact Pu.fe ty_fa129_0) ?_
 refine RG.tk 22 rfl (by first | exact Pu.fb ty_fa33_2 | exact Pu.fe ty_fa33_2) ?_
 refine RG.tk 23 rfl (by first | exact (Pu.ld ty_sc31) | exact (Pu.ldo ty_sc31)) ?_
 refine RG.a1 29 rfl (fun X29 hX29 => ?_)
 refine TL.gm Mk.bl ?_
 intro b3
 refine TL.nil ?_
 refine TQ.nxt (hX29 _ _ hl9 ?_)
 refine RG.a1 30 rfl (fun X30 hX30 => ?_)
 refine TL.gck rfl (enters Tryz.func59 rfl rfl) (fun w hw => by
   have hb := RdR.blk (cs := [.slice O T.no co, .slice U T.nu cu]) (n := 2) (sz := 1) (r := fun i => [.slice (sl3 O T.no co U T.nu cu none 0 0 i).1 (sl3 O T.no co U T.nu cu none 0 0 i).2.1 (sl3 O T.no co U T.nu cu none 0 0 i).2.2]) (hw.holds _ (List.mem_cons_self ..)) rfl (fun _ _ => rfl)
   exact concatI_any (m := 2) (a := fun i => (sl3 O T.no co U T.nu cu none 0 0 i).1) (l := fun i => (sl3 O T.no co U T.nu cu none 0 0 i).2.1) (c := fun i => (sl3 O T.no co U T.nu cu none 0 0 i).2.2) (v := fun i => if i = 0 then T.o else T.u) (by omega) (by show totT _ 1 + T.nu ≤ _; simp only [totT, sl3]; omega) hb (fun i hi => by
    have : i = 0 ∨ i = 1 := by omega
    rcases this with rfl | rfl
    exact hRO.sat hw Apart.nil
    exact hRU.sat hw Apart.nil)) ?_
 rintro ⟨A9, c9⟩
 refine TL.nil ?_
 refine TQ.nxt (hX30 _ _ hl9 ?_)
 refine RG.a1 32 rfl (fun X32 hX32 => ?_)
 refine TL.cr rfl (enters Tryz.func122 rfl rfl) (fun w hw => by
   exact contains_any (n := 0 + T.no + T.nu) (v := peoA T) _ (by omega) (catT_peo (OwnR.rdr (hw.holds _ (List.mem_cons_self ..))))) ?_
 refine TL.nil ?_
 refine TQ.nxt (hX32 _ _ hl9 ?_)
 refine RG.tk 33 rfl Pu.kt ?_
 refine RG.tk 34 rfl Pu.as ?_
 refine RG.nil ?_ (by kernel_rfl)
 exact TQ.sub (by repeat (first | exact trivial | refine ⟨rfl, ?_⟩ | refine ⟨trivial, ?_⟩ | refine ⟨(by show some (Value.bool _) = some (Value.bool _); first | (simp [hg1, hg2, feuC, hasB, Nat.zero_add]; done) | (refine congrArg (fun z => some (Value.bool z)) (Bool.eq_iff_iff.2 ?_); simp [hg1, hg2, feuC, hasB, Nat.zero_add]; omega)), ?_⟩)) ks9 hJ1
 refine RG.ts 19 rfl ?_
 refine RG.ts 20 rfl ?_
 refine RG.ts 21 rfl ?_
 refine RG.ts 22 rfl ?_
 refine RG.ts 23 rfl ?_
 refine RG.ts 24 rfl ?_
 refine RG.ts 25 rfl ?_
 refine RG.ts 26 rfl ?_
 refine RG.ts 27 rfl ?_
 refine RG.ts 28 rfl ?_
 refine RG.ts 29 rfl ?_
 refine RG.ts 30 rfl ?_
 refine RG.ts 31 rfl ?_
 refine RG.ts 32 rfl ?_
 refine RG.tk 33 rfl Pu.kf ?_
 refine RG.tk 34 rfl Pu.as ?_
 refine RG.nil ?_ (by kernel_rfl)
 exact TQ.sub (by repeat (first | exact trivial | refine ⟨rfl, ?_⟩ | refine ⟨trivial, ?_⟩ | refine ⟨(by show some (Value.bool _) = some (Value.bool _); first | (simp [hg1, hg2, feuC, hasB, Nat.zero_add]; done) | (refine congrArg (fun z => some (Value.bool z)) (Bool.eq_iff_iff.2 ?_); simp [hg1, hg2, feuC, hasB, Nat.zero_add]; omega)), ?_⟩)) ks9 hJ1
 refine RG.tk 6 rfl (by first | exact Pu.fb ty_fa109_1 | exact Pu.fe ty_fa109_1) ?_
 refine RG.tk 7 rfl (by first | exact (Pu.ld ty_sc3) | exact (Pu.ldo ty_sc3)) ?_
 refine RG.tk 8 rfl (by first | exact Pu.fb ty_fa70_1 | exact Pu.fe ty_fa70_1) ?_
 refine RG.tk 9 rfl (by first | exact (Pu.ld ty_sc3) | exact (Pu.ldo ty_sc3)) ?_
 refine RG.tk 10 rfl Pu.eq ?_
 refine RG.tk 11 rfl Pu.kf ?_
 refine RG.tk 12 rfl Pu.mv ?_
 refine RG.guard (t := 27) rfl (fun hg3 => ?_) (fun hg3 => ?_)
 refine RG.tk 13 rfl (by first | exact (Pu.lds ty_ag109) | exact (Pu.ldso ty_ag109)) ?_
 refine RG.tk 15 rfl (by first | exact (Pu.ld ty_sc3) | exact (Pu.ldo ty_sc3)) ?_
 refine RG.a1 14 rfl (fun X14 hX14 => ?_)
 refine TL.gd Pu.fc ?_
 refine TL.nil ?_
 refine TQ.nxt (hX14 _ _ hl9 ?_)
 refine RG.a1 16 rfl (fun X16 hX16 => ?_)
 refine TL.cr rfl (enters Tryz.func84 rfl rfl) (fun w hw => by
   exact holds_any _ _ feudMeth (enters Tryz.func189 rfl rfl) (fun w => feudDays_any x w)) ?_
 refine TL.nil ?_
 refine TQ.nxt (hX16 _ _ hl9 ?_)
 refine RG.tk 17 rfl Pu.kt ?_
 refine RG.tk 18 rfl Pu.mv ?_
 refine RG.guard (t := 33) rfl (fun hg4 => ?_) (fun hg4 => ?_)
 refine RG.tk 19 rfl (by first | exact (Pu.ld ty_sc76) | exact (Pu.ldo ty_sc76)) ?_
 refine RG.tk 24 rfl (by first | exact (Pu.ld ty_sc76) | exact (Pu.ldo ty_sc76)) ?_
 refine RG.tk 31 rfl Pu.mv ?_
 refine RG.a2 20 25 rfl rfl (fun X20 hX20 => ?_) (fun X25 hX25 => ?_)
 refine TL.gd (by first | exact Pu.nn | exact Pu.nc) ?_
 refine TL.nil ?_
 refine TQ.nxt (hX20 _ _ hl9 ?_)
 refine RG.tk 21 rfl (by first | exact Pu.fb ty_fa129_0 | exact Pu.fe ty_fa129_0) ?_
 refine RG.tk 22 rfl (by first | exact Pu.fb ty_fa33_2 | exact Pu.fe ty_fa33_2) ?_
 refine RG.tk 23 rfl (by first | exact (Pu.ld ty_sc31) | exact (Pu.ldo ty_sc31)) ?_
 refine RG.a1 25 rfl (fun X25 hX25 => ?_)
 refine TL.gd (by first | exact Pu.nn | exact Pu.nc) ?_
 refine TL.nil ?_
 refine TQ.nxt (hX25 _ _ hl9 ?_)
 refine RG.tk 26 rfl (by first | exact Pu.fb ty_fa129_0 | exact Pu.fe ty_fa129_0) ?_
 refine RG.tk 27 rfl (by first | exact Pu.fb ty_fa33_3 | exact Pu.fe ty_fa33_3) ?_
 refine RG.tk 28 rfl (by first | exact (Pu.ld ty_sc31) | exact (Pu.ldo ty_sc31)) ?_
 refine RG.a1 29 rfl (fun X29 hX29 => ?_)
 refine TL.gm Mk.bl ?_
 intro b4
 refine TL.nil ?_
 refine TQ.nxt (hX29 _ _ hl9 ?_)
 refine RG.a1 30 rfl (fun X30 hX30 => ?_)
 refine TL.gck rfl (enters Tryz.func59 rfl rfl) (fun w hw => by
   have hb := RdR.blk (cs := [.slice O T.no co, .slice U T.nu cu]) (n := 2) (sz := 1) (r := fun i => [.slice (sl3 O T.no co U T.nu cu none 0 0 i).1 (sl3 O T.no co U T.nu cu none 0 0 i).2.1 (sl3 O T.no co U T.nu cu none 0 0 i).2.2]) (hw.holds _ (List.mem_cons_self ..)) rfl (fun _ _ => rfl)
   exact concatI_any (m := 2) (a := fun i => (sl3 O T.no co U T.nu cu none 0 0 i).1) (l := fun i => (sl3 O T.no co U T.nu cu none 0 0 i).2.1) (c := fun i => (sl3 O T.no co U T.nu cu none 0 0 i).2.2) (v := fun i => if i = 0 then T.o else T.u) (by omega) (by show totT _ 1 + T.nu ≤ _; simp only [totT, sl3]; omega) hb (fun i hi => by
    have : i = 0 ∨ i = 1 := by omega
    rcases this with rfl | rfl
    exact hRO.sat hw Apart.nil
    exact hRU.sat hw Apart.nil)) ?_
 rintro ⟨A9, c9⟩
 refine TL.nil ?_
 refine TQ.nxt (hX30 _ _ hl9 ?_)
 refine RG.a1 32 rfl (fun X32 hX32 => ?_)
 refine TL.cr rfl (enters Tryz.func122 rfl rfl) (fun w hw => by
   exact contains_any (n := 0 + T.no + T.nu) (v := peoA T) _ (by omega) (catT_peo (OwnR.rdr (hw.holds _ (List.mem_cons_self ..))))) ?_
 refine TL.nil ?_
 refine TQ.nxt (hX32 _ _ hl9 ?_)
 refine RG.tk 33 rfl Pu.kt ?_
 refine RG.tk 34 rfl Pu.as ?_
 refine RG.nil ?_ (by kernel_rfl)
 exact TQ.sub (by repeat (first | exact trivial | refine ⟨rfl, ?_⟩ | refine ⟨trivial, ?_⟩ | refine ⟨(by show some (Value.bool _) = some (Value.bool _); first | (simp [hg1, hg3, hg4, feuC, hasB, Nat.zero_add]; done) | (refine congrArg (fun z => some (Value.bool z)) (Bool.eq_iff_iff.2 ?_); simp [hg1, hg3, hg4, feuC, hasB, Nat.zero_add]; omega)), ?_⟩)) ks9 hJ1
 refine TL.gd (by first | exact Pu.nn | exact Pu.nc) ?_
 refine TL.nil ?_
 refine TQ.nxt (hX25 _ _ hl9 ?_)
 refine RG.tk 26 rfl (by first | exact Pu.fb ty_fa129_0 | exact Pu.fe ty_fa129_0) ?_
 refine RG.tk 27 rfl (by first | exact Pu.fb ty_fa33_3 | exact Pu.fe ty_fa33_3) ?_
 refine RG.tk 28 rfl (by first | exact (Pu.ld ty_sc31) | exact (Pu.ldo ty_sc31)) ?_
 refine RG.a1 20 rfl (fun X20 hX20 => ?_)
 refine TL.gd (by first | exact Pu.nn | exact Pu.nc) ?_
 refine TL.nil ?_
 refine TQ.nxt (hX20 _ _ hl9 ?_)
 refine RG.tk 21 rfl (by first | exact Pu.fb ty_fa129_0 | exact Pu.fe ty_fa129_0) ?_
 refine RG.tk 22 rfl (by first | exact Pu.fb ty_fa33_2 | exact Pu.fe ty_fa33_2) ?_
 refine RG.tk 23 rfl (by first | exact (Pu.ld ty_sc31) | exact (Pu.ldo ty_sc31)) ?_
 refine RG.a1 29 rfl (fun X29 hX29 => ?_)
 refine TL.gm Mk.bl ?_
 intro b5
 refine TL.nil ?_
 refine TQ.nxt (hX29 _ _ hl9 ?_)
 refine RG.a1 30 rfl (fun X30 hX30 => ?_)
 refine TL.gck rfl (enters Tryz.func59 rfl rfl) (fun w hw => by
   have hb := RdR.blk (cs := [.slice O T.no co, .slice U T.nu cu]) (n := 2) (sz := 1) (r := fun i => [.slice (sl3 O T.no co U T.nu cu none 0 0 i).1 (sl3 O T.no co U T.nu cu none 0 0 i).2.1 (sl3 O T.no co U T.nu cu none 0 0 i).2.2]) (hw.holds _ (List.mem_cons_self ..)) rfl (fun _ _ => rfl)
   exact concatI_any (m := 2) (a := fun i => (sl3 O T.no co U T.nu cu none 0 0 i).1) (l := fun i => (sl3 O T.no co U T.nu cu none 0 0 i).2.1) (c := fun i => (sl3 O T.no co U T.nu cu none 0 0 i).2.2) (v := fun i => if i = 0 then T.o else T.u) (by omega) (by show totT _ 1 + T.nu ≤ _; simp only [totT, sl3]; omega) hb (fun i hi => by
    have : i = 0 ∨ i = 1 := by omega
    rcases this with rfl | rfl
    exact hRO.sat hw Apart.nil
    exact hRU.sat hw Apart.nil)) ?_
 rintro ⟨A9, c9⟩
 refine TL.nil ?_
 refine TQ.nxt (hX30 _ _ hl9 ?_)
 refine RG.a1 32 rfl (fun X32 hX32 => ?_)
 refine TL.cr rfl (enters Tryz.func122 rfl rfl) (fun w hw => by
   exact contains_any (n := 0 + T.no + T.nu) (v := peoA T) _ (by omega) (catT_peo (OwnR.rdr (hw.holds _ (List.mem_cons_self ..))))) ?_
 refine TL.nil ?_
 refine TQ.nxt (hX32 _ _ hl9 ?_)
 refine RG.tk 33 rfl Pu.kt ?_
 refine RG.tk 34 rfl Pu.as ?_
 refine RG.nil ?_ (by kernel_rfl)
 exact TQ.sub (by repeat (first | exact trivial | refine ⟨rfl, ?_⟩ | refine ⟨trivial, ?_⟩ | refine ⟨(by show some (Value.bool _) = some (Value.bool _); first | (simp [hg1, hg3, hg4, feuC, hasB, Nat.zero_add]; done) | (refine congrArg (fun z => some (Value.bool z)) (Bool.eq_iff_iff.2 ?_); simp [hg1, hg3, hg4, feuC, hasB, Nat.zero_add]; omega)), ?_⟩)) ks9 hJ1
 refine RG.ts 19 rfl ?_
 refine RG.ts 20 rfl ?_
 refine RG.ts 21 rfl ?_
 refine RG.ts 22 rfl ?_
 refine RG.ts 23 rfl ?_
 refine RG.ts 24 rfl ?_
 refine RG.ts 25 rfl ?_
 refine RG.ts 26 rfl ?_
 refine RG.ts 27 rfl ?_
 refine RG.ts 28 rfl ?_
 refine RG.ts 29 rfl ?_
 refine RG.ts 30 rfl ?_
 refine RG.ts 31 rfl ?_
 refine RG.ts 32 rfl ?_
 refine RG.tk 33 rfl Pu.kf ?_
 refine RG.tk 34 rfl Pu.as ?_
 refine RG.nil ?_ (by kernel_rfl)
 exact TQ.sub (by repeat (first | exact trivial | refine ⟨rfl, ?_⟩ | refine ⟨trivial, ?_⟩ | refine ⟨(by show some (Value.bool _) = some (Value.bool _); first | (simp [hg1, hg3, hg4, feuC, hasB, Nat.zero_add]; done) | (refine congrArg (fun z => some (Value.bool z)) (Bool.eq_iff_iff.2 ?_); simp [hg1, hg3, hg4, feuC, hasB, Nat.zero_add]; omega)), ?_⟩)) ks9 hJ1
 refine RG.ts 13 rfl ?_
 refine RG.ts 14 rfl ?_
 refine RG.ts 15 rfl ?_
 refine RG.ts 16 rfl ?_
 refine RG.tk 17 rfl Pu.kf ?_
 refine RG.tk 18 rfl Pu.mv ?_
 refine RG.ts 19 rfl ?_
 refine RG.ts 20 rfl ?_
 refine RG.ts 21 rfl ?_
 refine RG.ts 22 rfl ?_
 refine RG.ts 23 rfl ?_
 refine RG.ts 24 rfl ?_
 refine RG.ts 25 rfl ?_
 refine RG.ts 26 rfl ?_
 refine RG.ts 27 rfl ?_
 refine RG.ts 28 rfl ?_
 refine RG.ts 29 rfl ?_
 refine RG.ts 30 rfl ?_
 refine RG.ts 31 rfl ?_
 refine RG.ts 32 rfl ?_
 refine RG.tk 33 rfl Pu.kf ?_
 refine RG.tk 34 rfl Pu.as ?_
 refine RG.nil ?_ (by kernel_rfl)
 exact TQ.sub (by repeat (first | exact trivial | refine ⟨rfl, ?_⟩ | refine ⟨trivial, ?_⟩ | refine ⟨(by show some (Value.bool _) = some (Value.bool _); first | (simp [hg1, hg3, feuC, hasB, Nat.zero_add]; done) | (refine congrArg (fun z => some (Value.bool z)) (Bool.eq_iff_iff.2 ?_); simp [hg1, hg3, feuC, hasB, Nat.zero_add]; omega)), ?_⟩)) ks9 hJ1
end
end Go.Proofs.YtfaenhhgkhcghaaGreatDoor
namespace Go.Proofs.YtfaenhhgkhcghaaGreatDoor
set_option linter.all false
set_option linter.unusedVariables false
set_option linter.unusedSimpArgs false
open Go.RowKit
theorem hclO_bd {Z : Cus} (hok : CusOk Z) {leg day : Int} : 0 ≤ (hclO Z leg day).1 1 ∧ (hclO Z leg day).1 1 ≤ 7 := by
 unfold hclO
 split
 · have hol := hol_bd (Z := Z) (leg := leg) (day := day)
   have := hok.c (holZ Z leg day).toNat (by omega)
   unfold hclZ
   omega
 · exact ⟨Int.le_refl _, by decide⟩
theorem hat_eq {Z : Cus} {T : Trp} {leg day : Int} : (decide (0 ≤ holZ Z leg day) && anyB Z.nd fun k => feuC (T.no + T.nu) (peoA T) ((hclO Z leg day).1 1) day (Z.d k)) = hatZ Z T leg day := by
 unfold hatZ
 by_cases h : 0 ≤ holZ Z leg day
 · rw [decide_eq_true h, Bool.true_and, Bool.true_and, ex_any, feu_eq]
   unfold hclO feuZ
   rw [if_pos h]
 · rw [decide_eq_false h, Bool.false_and, Bool.false_and]
theorem los_eq {Z : Cus} {T : Trp} {leg day : Int} : (decide (0 ≤ holZ Z leg day) && (hclO Z leg day).2 && !hasB T.u T.nu ((hclO Z leg day).1 1)) = losZ Z T leg day := by
 unfold losZ
 by_cases h : 0 ≤ holZ Z leg day
 · unfold hclO
   rw [decide_eq_true h, Bool.true_and, Bool.true_and, if_pos h]
 · rw [decide_eq_false h, Bool.false_and, Bool.false_and, Bool.false_and]
section
variable {Z : Cus} {T : Trp} {C D B O U V S : Option Addr} {cc cd cb co cu cv n cs bt : Nat} {w : World}
set_option maxRecDepth 100000 in
set_option maxHeartbeats 1000000 in
theorem cHated_any (leg day : Int) (hok : CusOk Z) (h : CustIn w C Z.nc D Z.nd B Z.nb Z.c Z.d Z.b) (t : TrpIn w T O U V) (ht : OldB w bt (trkL T O co U cu V cv Z C cc D cd B cb S n cs)) :
  Calls Tryz.prog 193 #[.pointer (some ⟨bt, 0, none⟩), .int .i64 leg, .int .i64 day] w (Ret w (.bool (hatZ Z T leg day))) := by
 have hRD := h.hD
 have h2 := h.hnd
 have ht9 := ht
 have hbd := hclO_bd hok (leg := leg) (day := day)
 unfold trkL at ht
 refine K_enter (S := []) (K := []) Tryz.func193 rfl Tryz.ntmps193 rfl (Sat.start _) ?_
 refine TW.seq fun Y1 hY1 => TW.region ?_
 refine TL.m Mk.bx ?_
 intro b1
 refine TL.m Mk.bx ?_
 intro b2
 refine TL.p Pu.as ?_
 refine TL.nil (TQ.thenN (hY1 _ _ ?_))
 refine TW.seq fun Y2 hY2 => TW.region ?_
 refine TL.p (Pu.ld ty_sc76) ?_
 refine TL.p Pu.mv ?_
 refine TL.p (Pu.ld ty_sc3) ?_
 refine TL.cr rfl (enters Tryz.func121 rfl rfl) (fun w hw => by
   exact cHost_any leg day hok (h.ext (Chg.ext hw.chg)) (ht9.ext (Chg.ext hw.chg))) ?_
 refine TL.p Pu.mv ?_
 refine TL.p Pu.ex ?_
 refine TL.p Pu.ex ?_
 refine TL.m (Mk.al ty_zr70) ?_
 intro b3
 first | refine TL.st ty_sz70 ?_ | refine TL.se ty_sz70 ?_
 refine TL.p Pu.as ?_
 refine TL.nil (TQ.thenN (hY2 _ _ ?_))
 refine TW.seq fun Y3 hY3 => ?_
 refine TW.join [(6, .bool (decide (0 ≤ holZ Z leg day) && anyB Z.nd fun k => feuC (T.no + T.nu) (peoA T) ((hclO Z leg day).1 1) day (Z.d k)))] ?_ (fun hJ1 => ?_)
 refine TQ.thenN (hY3 _ _ ?_)
 refine TW.ret ?_
 refine TQ.ret Tryz.results193 rfl ((.tmp rfl .nil)) ?_
 exact fun w hw => ⟨ret_bool hat_eq.symm, Chg.ext hw.chg⟩
 refine TW.region ?_
 refine TL.p Pu.mv ?_
 refine TL.p Pu.mv ?_
 refine TL.guard (t := 17) rfl (fun hg1 => ?_) (fun hg1 => ?_)
 refine TL.gd (Pu.ld ty_sc76) ?_
 refine TL.gd (by first | exact Pu.nn | exact Pu.nc) ?_
 refine TL.gd (by first | exact Pu.fb ty_fa129_1 | exact Pu.fe ty_fa129_1) ?_
 refine TL.gd (by first | exact Pu.fb ty_fa30_1 | exact Pu.fe ty_fa30_1) ?_
 refine TL.gd (Pu.ldo ty_sc27) ?_
 refine TL.gd Pu.fn ?_
 refine TL.cr rfl (enters Tryz.func94 rfl rfl) (fun w hw => by
   have q1 := OldB.of_blk (hw.holds (.blk b3 70 (claimL (hclO Z leg day))) (by simp [claimL]))
   have q2 := OldB.of_blk (hw.holds (.blk b2 3 [.int .i64 day]) (by simp))
   have q3 := OldB.of_blk (hw.holds (.blk b1 76 [.pointer (some ⟨bt, 0, none⟩)]) (by simp))
   exact hasFeud_any (fs := []) (v := Z.d) (p := fun k => feuC (T.no + T.nu) (peoA T) ((hclO Z leg day).1 1) day (Z.d k)) (enters Tryz.func196 rfl rfl) (by omega) (hRD.sat hw Apart.nil) fun k hk w' hb => cHated1_any (Z.d k) (hclO Z leg day) day (by have := hok.d k hk; omega) hbd (q1.ext hb) (q2.ext hb) (q3.ext hb) ((t.ext (Chg.ext hw.chg)).ext hb) ((ht9.ext (Chg.ext hw.chg)).ext hb)) ?_
 refine TL.p Pu.kt ?_
 refine TL.p Pu.as ?_
 refine TL.nil ?_
 exact TQ.sub (by repeat (first | exact trivial | refine ⟨rfl, ?_⟩ | refine ⟨trivial, ?_⟩ | refine ⟨(by show some (Value.bool _) = some (Value.bool _); first | (simp [hg1]; done) | (refine congrArg (fun z => some (Value.bool z)) (Bool.eq_iff_iff.2 ?_); simp [hg1]; omega)), ?_⟩)) ks9 hJ1
 refine TL.gs ?_
 refine TL.gs ?_
 refine TL.gs ?_
 refine TL.gs ?_
 refine TL.gs ?_
 refine TL.gs ?_
 refine TL.gs ?_
 refine TL.p Pu.kf ?_
 refine TL.p Pu.as ?_
 refine TL.nil ?_
 exact TQ.sub (by repeat (first | exact trivial | refine ⟨rfl, ?_⟩ | refine ⟨trivial, ?_⟩ | refine ⟨(by show some (Value.bool _) = some (Value.bool _); first | (simp [hg1]; done) | (refine congrArg (fun z => some (Value.bool z)) (Bool.eq_iff_iff.2 ?_); simp [hg1]; omega)), ?_⟩)) ks9 hJ1
set_option maxRecDepth 100000 in
set_option maxHeartbeats 1000000 in
theorem cLost_any (leg day : Int) (hok : CusOk Z) (h : CustIn w C Z.nc D Z.nd B Z.nb Z.c Z.d Z.b) (t : TrpIn w T O U V) (ht : OldB w bt (trkL T O co U cu V cv Z C cc D cd B cb S n cs)) :
  Calls Tryz.prog 194 #[.pointer (some ⟨bt, 0, none⟩), .int .i64 leg, .int .i64 day] w (Ret w (.bool (losZ Z T leg day))) := by
 have hnu := t.hnu
 have hRU := t.hU
 have ht9 := ht
 obtain ⟨y, hy⟩ : ∃ y, y = hclO Z leg day := ⟨_, rfl⟩
 have fH := fun (w' : World) (h' : CustIn w' C Z.nc D Z.nd B Z.nb Z.c Z.d Z.b) (ht' : OldB w' bt (trkL T O co U cu V cv Z C cc D cd B cb S n cs)) => cHost_any leg day hok h' ht'
 rw [← hy] at fH
 unfold trkL at ht
 refine K_enter (S := []) (K := []) Tryz.func194 rfl Tryz.ntmps194 rfl (Sat.start _) ?_
 refine TW.seq fun Y1 hY1 => TW.region ?_
 refine TL.p Pu.as ?_
 refine TL.nil (TQ.thenN (hY1 _ _ ?_))
 refine TW.seq fun Y2 hY2 => TW.region ?_
 refine TL.p Pu.mv ?_
 refine TL.p Pu.mv ?_
 refine TL.p Pu.mv ?_
 refine TL.cr rfl (enters Tryz.func121 rfl rfl) (fun w hw => by
   exact fH _ (h.ext (Chg.ext hw.chg)) (ht9.ext (Chg.ext hw.chg))) ?_
 refine TL.p Pu.mv ?_
 refine TL.p Pu.ex ?_
 refine TL.p Pu.ex ?_
 refine TL.m (Mk.al ty_zr70) ?_
 intro b1
 first | refine TL.st ty_sz70 ?_ | refine TL.se ty_sz70 ?_
 refine TL.p Pu.as ?_
 refine TL.nil (TQ.thenN (hY2 _ _ ?_))
 refine TW.seq fun Y3 hY3 => ?_
 refine TW.join [(6, .bool (decide (0 ≤ holZ Z leg day) && y.2 && !hasB T.u T.nu (y.1 1)))] ?_ (fun hJ1 => ?_)
 refine TQ.thenN (hY3 _ _ ?_)
 refine TW.ret ?_
 refine TQ.ret Tryz.results194 rfl ((.tmp rfl .nil)) ?_
 exact fun w hw => ⟨ret_bool (by rw [hy]; exact los_eq.symm), Chg.ext hw.chg⟩
 refine TW.ex0k [.blk b1 70 (claimL y)] ?_
 refine RG.tk 0 rfl Pu.mv ?_
 refine RG.tk 1 rfl Pu.mv ?_
 refine RG.guard (t := 17) rfl (fun hg1 => ?_) (fun hg1 => ?_)
 refine RG.tk 2 rfl (by first | exact Pu.fb ty_fa70_6 | exact Pu.fe ty_fa70_6) ?_
 refine RG.tk 3 rfl (Pu.ld ty_sc4) ?_
 refine RG.tk 4 rfl Pu.kt ?_
 refine RG.tk 5 rfl Pu.mv ?_
 refine RG.guard (t := 21) rfl (fun hg2 => ?_) (fun hg2 => ?_)
 refine RG.tk 6 rfl Pu.mv ?_
 refine RG.tk 11 rfl (by first | exact Pu.fb ty_fa70_1 | exact Pu.fe ty_fa70_1) ?_
 refine RG.tk 12 rfl (Pu.ld ty_sc3) ?_
 refine RG.a1 7 rfl (fun X7 hX7 => ?_)
 refine TL.gd (by first | exact Pu.nn | exact Pu.nc) ?_
 refine TL.nil ?_
 refine TQ.nxt (hX7 _ _ hl9 ?_)
 refine RG.tk 8 rfl (by first | exact Pu.fb ty_fa129_0 | exact Pu.fe ty_fa129_0) ?_
 refine RG.tk 9 rfl (by first | exact Pu.fb ty_fa33_3 | exact Pu.fe ty_fa33_3) ?_
 refine RG.tk 10 rfl (Pu.ldo ty_sc31) ?_
 refine RG.a1 13 rfl (fun X13 hX13 => ?_)
 refine TL.cr rfl (enters Tryz.func122 rfl rfl) (fun w hw => by
   exact contains_any (v := T.u) _ (by omega) (hRU.sat hw Apart.nil)) ?_
 refine TL.nil ?_
 refine TQ.nxt (hX13 _ _ hl9 ?_)
 refine RG.tk 14 rfl Pu.no ?_
 refine RG.tk 15 rfl Pu.kt ?_
 refine RG.tk 16 rfl Pu.as ?_
 refine RG.nil ?_ (by kernel_rfl)
 exact TQ.sub (by repeat (first | exact trivial | refine ⟨rfl, ?_⟩ | refine ⟨trivial, ?_⟩ | refine ⟨(by show some (Value.bool _) = some (Value.bool _); first | (simp [hg1, hg2]; done) | (refine congrArg (fun z => some (Value.bool z)) (Bool.eq_iff_iff.2 ?_); simp [hg1, hg2]; omega)), ?_⟩)) ks9 hJ1
 refine RG.ts 6 rfl ?_
 refine RG.ts 7 rfl ?_
 refine RG.ts 8 rfl ?_
 refine RG.ts 9 rfl ?_
 refine RG.ts 10 rfl ?_
 refine RG.ts 11 rfl ?_
 refine RG.ts 12 rfl ?_
 refine RG.ts 13 rfl ?_
 refine RG.ts 14 rfl ?_
 refine RG.tk 15 rfl Pu.kf ?_
 refine RG.tk 16 rfl Pu.as ?_
 refine RG.nil ?_ (by kernel_rfl)
 exact TQ.sub (by repeat (first | exact trivial | refine ⟨rfl, ?_⟩ | refine ⟨trivial, ?_⟩ | refine ⟨(by show some (Value.bool _) = some (Value.bool _); first | (simp [hg1, hg2]; done) | (refine congrArg (fun z => some (Value.bool z)) (Bool.eq_iff_iff.2 ?_); simp [hg1, hg2]; omega)), ?_⟩)) ks9 hJ1
 refine RG.ts 2 rfl ?_
 refine RG.ts 3 rfl ?_
 refine RG.tk 4 rfl Pu.kf ?_
 refine RG.tk 5 rfl Pu.mv ?_
 refine RG.ts 6 rfl ?_
 refine RG.ts 7 rfl ?_
 refine RG.ts 8 rfl ?_
 refine RG.ts 9 rfl ?_
 refine RG.ts 10 rfl ?_
 refine RG.ts 11 rfl ?_
 refine RG.ts 12 rfl ?_
 refine RG.ts 13 rfl ?_
 refine RG.ts 14 rfl ?_
 refine RG.tk 15 rfl Pu.kf ?_
 refine RG.tk 16 rfl Pu.as ?_
 refine RG.nil ?_ (by kernel_rfl)
 exact TQ.sub (by repeat (first | exact trivial | refine ⟨rfl, ?_⟩ | refine ⟨trivial, ?_⟩ | refine ⟨(by show some (Value.bool _) = some (Value.bool _); first | (simp [hg1]; done) | (refine congrArg (fun z => some (Value.bool z)) (Bool.eq_iff_iff.2 ?_); simp [hg1]; omega)), ?_⟩)) ks9 hJ1
def lstF (a : Int) (v : Nat → Int) : Nat → Int
 | 0 => a
 | k + 1 => min (lstF a v k) (v k)
theorem leastU_any {A : Option Addr} {n cp : Nat} {v : Nat → Int} (a : Int) (hn : n ≤ 1000000) (hR : RdR w 1 A n (fun k => [.int .u8 (v k)])) :
  Calls Tryz.prog 129 #[.int .u8 a, .slice A n cp] w (Ret w (.int .u8 (lstF a v n))) := by
 refine K_enter (S := []) (K := []) Tryz.func129 rfl Tryz.ntmps129 rfl (Sat.start _) ?_
 refine TW.seq fun Y1 hY1 => TW.region ?_
 refine TL.p Pu.as ?_
 refine TL.nil (TQ.thenN (hY1 _ _ ?_))
 refine TW.seq fun Y2 hY2 => ?_
 refine TW.seq fun Y3 hY3 => TW.region ?_
 refine TL.p Pu.mv ?_
 refine TL.p (Pu.ln Tryz.underlying214) ?_
 refine TL.p Pu.mv ?_
 refine TL.nil (TQ.thenN (hY3 _ _ ?_))
 refine TW.block ?_
 refine TW.loop1 (fun (k : Nat) => [(9, .int .i64 (k : Int)), (8, .int .i64 (n : Int)), (7, .slice A n cp), (0, .int .u8 (lstF a v k))]) (fun k => []) (fun k => k ≤ n) (fun k => n - k) 0 fs9 ?_ ?_ ?_
 exact ks9
 exact Nat.zero_le _
 rintro k hk Z0 hZ0
 refine TW.seq fun Y4 hY4 => TW.region ?_
 refine TL.p Pu.lt ?_
 refine TL.nil (TQ.thenN (hY4 _ _ ?_))
 refine TW.seq fun Y5 hY5 => ?_
 refine TW.cond rfl (fun hc0 => ?_) (fun hc0 => ?_)
 try simp only [zcb9] at hc0
 have hkn : k < n := by omega
 refine TW.skip ?_
 refine TQ.thenN (hY5 _ _ ?_)
 refine TW.seq fun Y6 hY6 => ?_
 refine TW.block ?_
 refine TW.seq fun Y7 hY7 => TW.region ?_
 refine TL.p (Pu.el ty_et214) ?_
 refine TL.p (Pu.ld ty_sc5) ?_
 refine TL.p Pu.as ?_
 refine TL.nil (TQ.thenN (hY7 _ _ ?_))
 refine TW.region ?_
 refine TL.p Pu.mv ?_
 refine TL.p Pu.mv ?_
 refine TL.p Pu.mn ?_
 refine TL.p Pu.as ?_
 refine TL.nil ?_
 refine TQ.blkN ?_
 refine TQ.thenN (hY6 _ _ ?_)
 refine TW.region ?_
 refine TL.p Pu.ad ?_
 refine TL.p Pu.mv ?_
 refine TL.nil ?_
 refine TQ.thenN (hZ0 (k + 1) _ _ ?_ ?_ fs9 ?_)
 exact (by omega)
 exact zom9
 exact ks9
 try simp only [zcb9] at hc0
 obtain rfl : k = n := by omega
 refine TW.exit ?_
 refine TQ.thenX ?_
 refine TQ.thenX ?_
 refine TQ.blkX ?_
 refine TQ.thenN (hY2 _ _ ?_)
 refine TW.seq fun Y8 hY8 => TW.region ?_
 refine TL.p Pu.mv ?_
 refine TL.p Pu.as ?_
 refine TL.nil (TQ.thenN (hY8 _ _ ?_))
 refine TW.ret ?_
 refine TQ.ret Tryz.results129 rfl ((.tmp rfl .nil)) ?_
 exact fun w hw => Ret.of hw
theorem leastI_any {A : Option Addr} {n cp : Nat} {v : Nat → Int} (a : Int) (hn : n ≤ 1000000) (hR : RdR w 1 A n (fun k => [.int .i64 (v k)])) :
  Calls Tryz.prog 124 #[.int .i64 a, .slice A n cp] w (Ret w (.int .i64 (lstF a v n))) := by
 refine K_enter (S := []) (K := []) Tryz.func124 rfl Tryz.ntmps124 rfl (Sat.start _) ?_
 refine TW.seq fun Y1 hY1 => TW.region ?_
 refine TL.p Pu.as ?_
 refine TL.nil (TQ.thenN (hY1 _ _ ?_))
 refine TW.seq fun Y2 hY2 => ?_
 refine TW.seq fun Y3 hY3 => TW.region ?_
 refine TL.p Pu.mv ?_
 refine TL.p (Pu.ln Tryz.underlying31) ?_
 refine TL.p Pu.mv ?_
 refine TL.nil (TQ.thenN (hY3 _ _ ?_))
 refine TW.block ?_
 refine TW.loop1 (fun (k : Nat) => [(9, .int .i64 (k : Int)), (8, .int .i64 (n : Int)), (7, .slice A n cp), (0, .int .i64 (lstF a v k))]) (fun k => []) (fun k => k ≤ n) (fun k => n - k) 0 fs9 ?_ ?_ ?_
 exact ks9
 exact Nat.zero_le _
 rintro k hk Z0 hZ0
 refine TW.seq fun Y4 hY4 => TW.region ?_
 refine TL.p Pu.lt ?_
 refine TL.nil (TQ.thenN (hY4 _ _ ?_))
 refine TW.seq fun Y5 hY5 => ?_
 refine TW.cond rfl (fun hc0 => ?_) (fun hc0 => ?_)
 try simp only [zcb9] at hc0
 have hkn : k < n := by omega
 refine TW.skip ?_
 refine TQ.thenN (hY5 _ _ ?_)
 refine TW.seq fun Y6 hY6 => ?_
 refine TW.block ?_
 refine TW.seq fun Y7 hY7 => TW.region ?_
 refine TL.p (Pu.el ty_et31) ?_
 refine TL.p (Pu.ld ty_sc3) ?_
 refine TL.p Pu.as ?_
 refine TL.nil (TQ.thenN (hY7 _ _ ?_))
 refine TW.region ?_
 refine TL.p Pu.mv ?_
 refine TL.p Pu.mv ?_
 refine TL.p Pu.mn ?_
 refine TL.p Pu.as ?_
 refine TL.nil ?_
 refine TQ.blkN ?_
 refine TQ.thenN (hY6 _ _ ?_)
 refine TW.region ?_
 refine TL.p Pu.ad ?_
 refine TL.p Pu.mv ?_
 refine TL.nil ?_
 refine TQ.thenN (hZ0 (k + 1) _ _ ?_ ?_ fs9 ?_)
 exact (by omega)
 exact zom9
 exact ks9
 try simp only [zcb9] at hc0
 obtain rfl : k = n := by omega
 refine TW.exit ?_
 refine TQ.thenX ?_
 refine TQ.thenX ?_
 refine TQ.blkX ?_
 refine TQ.thenN (hY2 _ _ ?_)
 refine TW.seq fun Y8 hY8 => TW.region ?_
 refine TL.p Pu.mv ?_
 refine TL.p Pu.as ?_
 refine TL.nil (TQ.thenN (hY8 _ _ ?_))
 refine TW.ret ?_
 refine TQ.ret Tryz.results124 rfl ((.tmp rfl .nil)) ?_
 exact fun w hw => Ret.of hw
end
end Go.Proofs.YtfaenhhgkhcghaaGreatDoor
