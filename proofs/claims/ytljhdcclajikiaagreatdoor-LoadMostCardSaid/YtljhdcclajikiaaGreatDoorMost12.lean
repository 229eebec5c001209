/-
  Part 12 of the proof of loadMost_holds: declarations of several texts, in build order. No condition on a program.
-/
import Derived.Test.YtljhdcclajikiaaGreatDoorMost11
import Derived.Test.YtljhdcclajikiaaGreatDoorMost08
import Derived.Test.YtljhdcclajikiaaGreatDoorMost10
import Derived.Test.YtljhdcclajikiaaGreatDoorMost03
import Derived.Test.YtljhdcclajikiaaGreatDoorMost07
namespace Go.Proofs.YtljhdcclajikiaaGreatDoor
set_option linter.all false
set_option linter.unusedVariables false
set_option linter.unusedSimpArgs false
open Go.RowKit
set_option maxRecDepth 100000 in
theorem eStow2 : sln 3 4 (stowB 4 balP 1 (fun _ => 80) (fun k => (k : Int) + 1) 15).way 0 = 1 ∧ sln 3 4 (stowB 4 balP 1 (fun _ => 80) (fun k => (k : Int) + 1) 15).way 1 = 1 ∧ svl 3 4 (stowB 4 balP 1 (fun _ => 80) (fun k => (k : Int) + 1) 15).way 0 0 = 2 ∧ svl 3 4 (stowB 4 balP 1 (fun _ => 80) (fun k => (k : Int) + 1) 15).way 1 0 = 3 := by decide +kernel
theorem CallsK.to {P : Program} {f : FuncId} {args : Array Value} {M : List Fact} {w : World} {X : Type} {val val2 : X → Value} {L L2 : X → List Fact} (h : CallsK P f args M w X val L) (hv : ∀ x, val x = val2 x) (hL : ∀ x, KSub (L x) (L2 x)) : CallsK P f args M w X val2 L2 :=
  h.mono fun _ _ ⟨x, e, hs⟩ => ⟨x, by rw [e, hv], hs.sub (hL x)⟩
theorem restSalt (w : World) (hG : None0 w) : Calls Tryz.prog 14 #[.agg (packL (sltP 150)).toArray] w (Ret w (.tuple #[.agg #[.int .i64 36000, .int .i64 41000], .agg #[.int .i64 0, .int .i64 4100], .int .u8 1, .int .i64 0])) := by
  have h := rest_any (sltP 150) w hG
  rw [eSalt] at h
  exact h
theorem restWater (w : World) (hG : None0 w) : Calls Tryz.prog 14 #[.agg (packL (watP 55)).toArray] w (Ret w (.tuple #[.agg #[.int .i64 0, .int .i64 2500], .agg #[.int .i64 27500, .int .i64 30000], .int .u8 0, .int .i64 0])) := by
  have h := rest_any (watP 55) w hG
  rw [eWater] at h
  exact h
theorem balEx {w : World} {A A0 A1 : Option Addr} {cp c0 c1 : Nat} (hG : None0 w) (hR : RdR w 11 A 4 (fun k => packL (balP k))) (h0 : RdR w 1 A0 2 (iL [0, 1])) (h1 : RdR w 1 A1 1 (iL [3])) :
    Calls Tryz.prog 9 #[.slice A 4 cp, .agg #[.slice A0 2 c0, .slice A1 1 c1, .slice none 0 0], .int .i64 15] w (Ret w (.tuple #[.int .u8 2, .int .i64 0])) := by
  have h := loadBalance_any (cp := cp) (c := prC c0 c1) (b := 15) (lay_pair (L0 := [0, 1]) (L1 := [3]) hG hR h0 h1 (by decide))
  rw [eBal.1, eBal.2] at h
  exact h
theorem setEx {w : World} {A A0 : Option Addr} {cp c0 : Nat} (hG : None0 w) (hR : RdR w 11 A 4 (fun k => packL (balP k))) (h0 : RdR w 1 A0 4 (iL [0, 1, 2, 3])) :
    CallsK Tryz.prog 19 #[.slice A 4 cp, .agg #[.slice A0 4 c0, .slice none 0 0, .slice none 0 0], .int .i64 5] [] w (Option Addr × Nat) (fun y => .tuple #[.slice y.1 2 y.2, .int .i64 0]) (fun y => [.own y.1 2 y.2 3 1 (iL [0, 3])]) := by
  have h := loadSettle_any (cp := cp) (c := prC c0 0) (b := 5) (lay_pair (L0 := [0, 1, 2, 3]) (L1 := []) (A1 := none) hG hR h0 ⟨Rd.nil, fun i hi => rfl⟩ (by decide))
  rw [eSet.1, eSet.2] at h
  exact h
theorem readyEx {w : World} {A A0 A1 : Option Addr} {cp c0 c1 : Nat} (hG : None0 w) (hR : RdR w 11 A 4 (fun k => packL (balP k))) (h0 : RdR w 1 A0 2 (iL [0, 1])) (h1 : RdR w 1 A1 1 (iL [2])) :
    Calls Tryz.prog 21 #[.agg (breedL strB).toArray, .agg (camL strC false).toArray, .slice A 4 cp, .agg #[.slice A0 2 c0, .slice A1 1 c1, .slice none 0 0], .int .i64 0] w (Ret w (.tuple #[.int .u8 2, .int .i64 0])) := by
  have h := loadReady_any (cp := cp) (c := prC c0 c1) (b := 0) (f := strB) (g := strC) (m := false) (lay_pair (L0 := [0, 1]) (L1 := [2]) hG hR h0 h1 (by decide))
  rw [eReady.1, eReady.2] at h
  exact h
theorem lays_pair {w : World} {A A2 A0 A1 : Option Addr} {c0 c1 : Nat} {L0 L1 : List Int} (hG : None0 w) (hR : RdR w 11 A 4 (fun k => packL (balP k))) (hT : RdR w 3 A2 1 (fun _ => tieL (prA A0 A1) (prL' L0 L1) (prC c0 c1))) (h0 : RdR w 1 A0 L0.length (iL L0)) (h1 : RdR w 1 A1 L1.length (iL L1)) (hl : L0.length + L1.length ≤ 1000) :
    Lay w A A2 4 1 balP (fun _ => prA A0 A1) (fun _ => prL' L0 L1) (fun _ => prC c0 c1) (fun _ => prV L0 L1) :=
  have h := lay_pair hG hR h0 h1 hl
  ⟨hG, by decide, by decide, hR, hT, fun _ _ => h.hI, fun _ _ => h.hL⟩
set_option maxRecDepth 100000 in
theorem tradeEx {w : World} {A A2 Af AP A0 A1 : Option Addr} {cp cT cf cP c0 c1 : Nat} (hG : None0 w) (hR : RdR w 11 A 4 (fun k => packL (balP k))) (hT : RdR w 3 A2 1 (fun _ => tieL (prA A0 A1) (prL' [0, 1] [2]) (prC c0 c1))) (h0 : RdR w 1 A0 2 (iL [0, 1])) (h1 : RdR w 1 A1 1 (iL [2]))
    (hF : RdR w 1 Af 1 (iL [1])) (hP : RdR w 3 AP 1 (fun _ => putL (onP 0))) :
    CallsK Tryz.prog 8 #[.slice A 4 cp, .slice A2 1 cT, .slice Af 1 cf, .slice AP 1 cP, .int .i64 5] [] w TRx (fun z => .tuple #[.slice z.1.1.1 1 z.1.1.2, .slice z.2.1 1 z.2.2, .int .i64 0])
      (fun z => [.own z.2.1 1 z.2.2 3 1 (iL [0]), .own z.1.1.1 1 z.1.1.2 34 3 (fun _ => tieL z.1.2.1 (prL' [3] [0, 2]) z.1.2.2), .own (z.1.2.1 1) 2 (z.1.2.2 1) 3 1 (iL [0, 2]), .own (z.1.2.1 0) 1 (z.1.2.2 0) 3 1 (iL [3])]) := by
  have h := loadTrade_any (cp := cp) (cT := cT) (nf := 1) (cf := cf) (cP := cP) (F := [1]) (P := fun _ => onP 0) (b := 5) (lays_pair (L0 := [0, 1]) (L1 := [2]) hG hR hT h0 h1 (by decide)) hF rfl (by decide) hP (by decide) (by decide)
  have hN : tradeN 4 balP 1 (fun _ => prL' [0, 1] [2]) (fun _ => prV [0, 1] [2]) [1] (fun _ => onP 0) 1 5 = 1 := by unfold tradeN; rw [if_pos eTrade.1]
  rw [eTrade.1, eTrade.2, hN] at h
  refine h.to (fun _ => rfl) fun z => ?_
  refine KSub.cons Pick.hd ?_
  refine KSub.own Pick.hd (fun i hi => ?_) ?_
  · obtain rfl : i = 0 := by omega
    unfold tieX
    show [Value.slice (z.1.2.1 0) (tradeT balP 1 _ _ [1] _ 1 5 0).length (z.1.2.2 0), .slice (z.1.2.1 1) (tradeT balP 1 _ _ [1] _ 1 5 1).length (z.1.2.2 1), .slice (z.1.2.1 2) (tradeT balP 1 _ _ [1] _ 1 5 2).length (z.1.2.2 2)] = _
    rw [eTrade2.1, eTrade2.2.1, eTrade2.2.2]
    rfl
  show KSub [Fact.own (z.1.2.1 2) (tradeT balP 1 _ _ [1] _ 1 5 2).length (z.1.2.2 2) 3 1 (iL (tradeT balP 1 _ _ [1] _ 1 5 2)), .own (z.1.2.1 1) (tradeT balP 1 _ _ [1] _ 1 5 1).length (z.1.2.2 1) 3 1 (iL (tradeT balP 1 _ _ [1] _ 1 5 1)), .own (z.1.2.1 0) (tradeT balP 1 _ _ [1] _ 1 5 0).length (z.1.2.2 0) 3 1 (iL (tradeT balP 1 _ _ [1] _ 1 5 0))] _
  rw [eTrade2.1, eTrade2.2.1, eTrade2.2.2]
  exact KSub.drop (KSub.refl _)
set_option maxRecDepth 100000 in
theorem stowEx {w : World} {A Ac Av : Option Addr} {cp cc cv : Nat} (hG : None0 w) (hR : RdR w 11 A 4 (fun k => packL (balP k))) (hC : RdR w 1 Ac 1 (fun _ => [.int .i64 80])) (hV : RdR w 1 Av 4 (fun k => [.int .i64 ((k : Int) + 1)])) :
    CallsK Tryz.prog 10 #[.slice A 4 cp, .slice Ac 1 cc, .slice Av 4 cv, .int .i64 15] [] w TX (fun x => .tuple #[.slice x.1.1 1 x.1.2, .int .i64 7, .int .i64 0])
      (fun x => [.own x.1.1 1 x.1.2 34 3 (fun _ => tieL (prA (x.2.1 0) (x.2.1 1)) (prL' [2] [3]) (prC (x.2.2 0) (x.2.2 1))), .own (x.2.1 1) 1 (x.2.2 1) 3 1 (iL [3]), .own (x.2.1 0) 1 (x.2.2 0) 3 1 (iL [2])]) := by
  have h := loadStow_any (cp := cp) (cc := cc) (cv := cv) (cans := fun _ => 80) (wv := fun k => (k : Int) + 1) (b := 15) hG (by decide) (by decide) (by decide) hR hC hV
  rw [eStow.1, eStow.2.1, eStow.2.2] at h
  refine h.to (fun _ => rfl) fun x => ?_
  refine KSub.own Pick.hd (fun i hi => ?_) ?_
  · obtain rfl : i = 0 := by omega
    show [Value.slice (x.2.1 0) (sln 3 4 _ 0) (x.2.2 0), .slice (x.2.1 1) (sln 3 4 _ 1) (x.2.2 1), .slice none 0 0] = _
    rw [eStow2.1, eStow2.2.1]
    rfl
  show KSub [Fact.own (x.2.1 1) (sln 3 4 _ 1) (x.2.2 1) 3 1 (fun k => [.int .i64 (svl 3 4 _ 1 k)]), .own (x.2.1 0) (sln 3 4 _ 0) (x.2.2 0) 3 1 (fun k => [.int .i64 (svl 3 4 _ 0 k)])] _
  rw [eStow2.1, eStow2.2.1]
  refine KSub.own Pick.hd (fun i hi => ?_) (KSub.own Pick.hd (fun i hi => ?_) KSub.nil)
  · obtain rfl : i = 0 := by omega
    exact congrArg (fun z => [Value.int .i64 z]) eStow2.2.2.2
  · obtain rfl : i = 0 := by omega
    exact congrArg (fun z => [Value.int .i64 z]) eStow2.2.2.1
theorem sameEx {w : World} {A B : Option Addr} {cA cB : Nat} {a b : Nat → Option Addr} {c d : Nat → Nat} {L0 L1 : List Int} (hl : L0.length + L1.length ≤ 1000) (hA : RdR w 3 A 1 (fun _ => tieL a (prL' L0 L1) c)) (hB : RdR w 3 B 1 (fun _ => tieL b (prL' L0 L1) d))
    (h0 : RdR w 1 (a 0) L0.length (iL L0)) (h1 : RdR w 1 (a 1) L1.length (iL L1)) (k0 : RdR w 1 (b 0) L0.length (iL L0)) (k1 : RdR w 1 (b 1) L1.length (iL L1)) : Calls Tryz.prog 24 #[.slice A 1 cA, .slice B 1 cB] w (Ret w (.bool true)) :=
  sameTies_any (a := fun _ => a) (b := fun _ => b) (l := fun _ => prL' L0 L1) (c := fun _ => c) (d := fun _ => d) (v := fun _ => prV L0 L1) (by decide) (fun i hi => by rw [tot3]; show L0.length + L1.length + 0 ≤ 1000; omega) hA hB
    (fun i hi j hj => by
      have : j = 0 ∨ j = 1 ∨ j = 2 := by omega
      rcases this with rfl | rfl | rfl
      · exact h0
      · exact h1
      · exact ⟨Rd.nil, fun i hi => by cases hi⟩)
    (fun i hi j hj => by
      have : j = 0 ∨ j = 1 ∨ j = 2 := by omega
      rcases this with rfl | rfl | rfl
      · exact k0
      · exact k1
      · exact ⟨Rd.nil, fun i hi => by cases hi⟩)
theorem sameEx2 {w : World} {A B0 B1 : Option Addr} {b cA cB c0 c1 : Nat} {T : TypeId} {a : Nat → Option Addr} {c : Nat → Nat} {L0 L1 : List Int} (hl : L0.length + L1.length ≤ 1000) (hA : RdR w 3 A 1 (fun _ => tieL a (prL' L0 L1) c)) (hB : Blk w b T #[.slice B0 L0.length c0, .slice B1 L1.length c1, .slice none 0 0])
    (h0 : RdR w 1 (a 0) L0.length (iL L0)) (h1 : RdR w 1 (a 1) L1.length (iL L1)) (k0 : RdR w 1 B0 L0.length (iL L0)) (k1 : RdR w 1 B1 L1.length (iL L1)) : Calls Tryz.prog 24 #[.slice A 1 cA, .slice (some ⟨b, 0, none⟩) 1 cB] w (Ret w (.bool true)) :=
  sameEx (b := prA B0 B1) (d := prC c0 c1) hl hA (RdR.blk (cs := [_, _, _]) hB rfl (fun _ _ => rfl)) h0 h1 k0 k1
theorem sameIEx {w : World} {A B : Option Addr} {n cA cB : Nat} {L : List Int} (hn : L.length ≤ 1000) (hk : n = L.length) (hA : RdR w 1 A n (iL L)) (hB : RdR w 1 B n (iL L)) : Calls Tryz.prog 23 #[.slice A n cA, .slice B n cB] w (Ret w (.bool true)) := by
  have h := sameInts_any (c1 := cA) (c2 := cB) (v1 := fun k => L.getD k 0) (v2 := fun k => L.getD k 0) (by omega) hA hB
  rw [sameI_self] at h
  exact h
end Go.Proofs.YtljhdcclajikiaaGreatDoor
namespace Go.Proofs.YtljhdcclajikiaaGreatDoor
set_option linter.all false
set_option linter.unusedVariables false
set_option linter.unusedSimpArgs false
open Go.RowKit
set_option maxRecDepth 100000 in
set_option maxHeartbeats 4000000 in
theorem alive_any (w : World) (hG : None0 w) : Calls Tryz.prog 5 #[] w (Ret w (.bool true)) := by
  refine K_enter (S := []) (K := []) Tryz.func5 rfl Tryz.ntmps5 rfl (Sat.start _) ?_
  refine TW.seq fun Y1 hY1 => ?_
  refine TW.region ?_
  refine TL.p Pu.as ?_
  refine TL.nil ?_
  refine TQ.thenN (hY1 _ _ ?_)
  refine TW.seq fun Y2 hY2 => ?_
  refine TW.region ?_
  refine TL.cr rfl (enters Tryz.func15 rfl rfl) (fun w hw => by
      exact salt_any _ _) ?_
  refine TL.cr rfl (enters Tryz.func14 rfl rfl) (fun w hw => by
      exact restSalt _ (hG.sat hw (by simp))) ?_
  refine TL.p Pu.mv ?_
  refine TL.p Pu.ex ?_
  refine TL.p Pu.ex ?_
  refine TL.p Pu.ex ?_
  refine TL.p Pu.ex ?_
  refine TL.m (Mk.al ty_zr47) ?_
  intro b1
  refine TL.m (Mk.al ty_zr47) ?_
  intro b2
  first | refine TL.st ty_sz47 ?_ | refine TL.se ty_sz47 ?_
  first | refine TL.st ty_sz47 ?_ | refine TL.se ty_sz47 ?_
  refine TL.p Pu.as ?_
  refine TL.p Pu.as ?_
  refine TL.nil ?_
  refine TQ.thenN (hY2 _ _ ?_)
  refine TW.seq fun Y3 hY3 => ?_
  refine TW.region ?_
  refine TL.cr rfl (enters Tryz.func16 rfl rfl) (fun w hw => by
      exact water_any _ _) ?_
  refine TL.cr rfl (enters Tryz.func14 rfl rfl) (fun w hw => by
      exact restWater _ (hG.sat hw (by simp))) ?_
  refine TL.p Pu.mv ?_
  refine TL.p Pu.ex ?_
  refine TL.p Pu.ex ?_
  refine TL.p Pu.ex ?_
  refine TL.p Pu.ex ?_
  refine TL.m (Mk.al ty_zr47) ?_
  intro b3
  refine TL.m (Mk.al ty_zr47) ?_
  intro b4
  first | refine TL.st ty_sz47 ?_ | refine TL.se ty_sz47 ?_
  first | refine TL.st ty_sz47 ?_ | refine TL.se ty_sz47 ?_
  refine TL.p Pu.as ?_
  refine TL.p Pu.as ?_
  refine TL.nil ?_
  refine TQ.thenN (hY3 _ _ ?_)
  refine TW.seq fun Y4 hY4 => ?_
  refine TW.region ?_
  refine TL.call (M := []) rfl (enters Tryz.func17 rfl rfl) (List.Perm.refl _) rfl (fun w hw => by
      exact bales_any _) ?_
  rintro ⟨B1, e1⟩
  refine TL.m Mk.bl ?_
  intro b5
  refine TL.m Mk.bl ?_
  intro b6
  refine TL.cr rfl (enters Tryz.func18 rfl rfl) (fun w hw => by
      exact pair_any _ _ _ _ _ _ _) ?_
  refine TL.cr rfl (enters Tryz.func9 rfl rfl) (fun w hw => by
      exact balEx (hG.sat hw (by simp)) (OwnR.rdr (hw.holds (.own B1 4 e1 58 11 (fun k => packL (balP k))) (by simp))) (RdR.blk (hw.holds (.blk b5 3 [.int .i64 0, .int .i64 1]) (by simp)) rfl (fun _ _ => rfl)) (RdR.blk (hw.holds (.blk b6 3 [.int .i64 3]) (by simp)) rfl (fun _ _ => rfl))) ?_
  refine TL.p Pu.mv ?_
  refine TL.p Pu.ex ?_
  refine TL.p Pu.ex ?_
  refine TL.p Pu.as ?_
  refine TL.p Pu.as ?_
  refine TL.nil ?_
  refine TQ.thenN (hY4 _ _ ?_)
  refine TW.seq fun Y5 hY5 => ?_
  refine TW.region ?_
  refine TL.call (M := []) rfl (enters Tryz.func17 rfl rfl) (List.Perm.refl _) rfl (fun w hw => by
      exact bales_any _) ?_
  rintro ⟨B1, e1⟩
  refine TL.m Mk.bl ?_
  intro b7
  refine TL.cr rfl (enters Tryz.func18 rfl rfl) (fun w hw => by
      exact pair_any _ _ _ _ _ _ _) ?_
  refine TL.call (M := []) rfl (enters Tryz.func19 rfl rfl) (List.Perm.refl _) rfl (fun w hw => by
      exact setEx (hG.sat hw (by simp)) (OwnR.rdr (hw.holds (.own B1 4 e1 58 11 (fun k => packL (balP k))) (by simp))) (RdR.blk (hw.holds (.blk b7 3 [.int .i64 0, .int .i64 1, .int .i64 2, .int .i64 3]) (by simp)) rfl (fun _ _ => rfl))) ?_
  rintro ⟨Q1, q1⟩
  refine TL.p Pu.mv ?_
  refine TL.p Pu.ex ?_
  refine TL.p Pu.ex ?_
  refine TL.p Pu.as ?_
  refine TL.p Pu.as ?_
  refine TL.nil ?_
  refine TQ.thenN (hY5 _ _ ?_)
  refine TW.seq fun Y6 hY6 => ?_
  refine TW.region ?_
  refine TL.call (M := []) rfl (enters Tryz.func17 rfl rfl) (List.Perm.refl _) rfl (fun w hw => by
      exact bales_any _) ?_
  rintro ⟨B1, e1⟩
  refine TL.m Mk.bl ?_
  intro b8
  refine TL.m Mk.bl ?_
  intro b9
  refine TL.cr rfl (enters Tryz.func18 rfl rfl) (fun w hw => by
      exact pair_any _ _ _ _ _ _ _) ?_
  refine TL.m Mk.bl ?_
  intro b10
  refine TL.m Mk.bl ?_
  intro b11
  refine TL.p Pu.bd ?_
  refine TL.m Mk.bl ?_
  intro b12
  refine TL.call (M := []) rfl (enters Tryz.func8 rfl rfl) (List.Perm.refl _) rfl (fun w hw => by
      exact tradeEx (hG.sat hw (by simp)) (OwnR.rdr (hw.holds (.own B1 4 e1 58 11 (fun k => packL (balP k))) (by simp))) (RdR.blk (hw.holds (.blk b10 34 [.slice (some ⟨b8, 0, none⟩) 2 2, .slice (some ⟨b9, 0, none⟩) 1 1, .slice none 0 0]) (by simp)) rfl (fun _ _ => rfl)) (RdR.blk (hw.holds (.blk b8 3 [.int .i64 0, .int .i64 1]) (by simp)) rfl (fun _ _ => rfl)) (RdR.blk (hw.holds (.blk b9 3 [.int .i64 2]) (by simp)) rfl (fun _ _ => rfl)) (RdR.blk (hw.holds (.blk b11 3 [.int .i64 1]) (by simp)) rfl (fun _ _ => rfl)) (RdR.blk (hw.holds (.blk b12 37 [.int .i64 3, .int .i64 0, .int .u8 0]) (by simp)) rfl (fun _ _ => rfl))) ?_
  rintro ⟨⟨⟨An, cn⟩, X, D⟩, ⟨Am, cm⟩⟩
  refine TL.p Pu.mv ?_
  refine TL.p Pu.ex ?_
  refine TL.p Pu.ex ?_
  refine TL.p Pu.ex ?_
  refine TL.p Pu.as ?_
  refine TL.p Pu.as ?_
  refine TL.p Pu.as ?_
  refine TL.nil ?_
  refine TQ.thenN (hY6 _ _ ?_)
  refine TW.seq fun Y7 hY7 => ?_
  refine TW.region ?_
  refine TL.call (M := []) rfl (enters Tryz.func17 rfl rfl) (List.Perm.refl _) rfl (fun w hw => by
      exact bales_any _) ?_
  rintro ⟨B1, e1⟩
  refine TL.m Mk.bl ?_
  intro b13
  refine TL.m Mk.bl ?_
  intro b14
  refine TL.call (M := []) rfl (enters Tryz.func10 rfl rfl) (List.Perm.refl _) rfl (fun w hw => by
      exact stowEx (hG.sat hw (by simp)) (OwnR.rdr (hw.holds (.own B1 4 e1 58 11 (fun k => packL (balP k))) (by simp))) (RdR.blk (hw.holds (.blk b13 3 [.int .i64 80]) (by simp)) rfl (fun _ _ => rfl)) (RdR.blk (hw.holds (.blk b14 3 [.int .i64 1, .int .i64 2, .int .i64 3, .int .i64 4]) (by simp)) rfl (fun _ _ => rfl))) ?_
  rintro ⟨⟨Sn, sn⟩, Y, E⟩
  refine TL.p Pu.mv ?_
  refine TL.p Pu.ex ?_
  refine TL.p Pu.ex ?_
  refine TL.p Pu.ex ?_
  refine TL.p Pu.as ?_
  refine TL.p Pu.as ?_
  refine TL.p Pu.as ?_
  refine TL.nil ?_
  refine TQ.thenN (hY7 _ _ ?_)
  refine TW.seq fun Y8 hY8 => ?_
  refine TW.region ?_
  refine TL.cr rfl (enters Tryz.func20 rfl rfl) (fun w hw => by
      exact strong_any _) ?_
  refine TL.p Pu.mv ?_
  refine TL.p Pu.ex ?_
  refine TL.p Pu.ex ?_
  refine TL.m (Mk.al ty_zr65) ?_
  intro b15
  refine TL.m (Mk.al ty_zr67) ?_
  intro b16
  first | refine TL.st ty_sz65 ?_ | refine TL.se ty_sz65 ?_
  first | refine TL.st ty_sz67 ?_ | refine TL.se ty_sz67 ?_
  refine TL.nil ?_
  refine TQ.thenN (hY8 _ _ ?_)
  refine TW.seq fun Y9 hY9 => ?_
  as_aux_lemma =>
    refine TW.expl (fun (e1 : Nat) => ([(22, .int .i64 0), (21, .int .u8 2), (18, .int .i64 0), (17, .int .i64 7), (16, .slice Sn 1 sn), (15, .int .i64 0), (14, .slice Am 1 cm), (13, .slice An 1 cn), (12, .int .i64 0), (11, .slice Q1 2 q1), (10, .int .i64 0), (9, .int .u8 2), (8, .int .i64 0), (6, .pointer (some ⟨b4, 0, none⟩)), (5, .pointer (some ⟨b3, 0, none⟩)), (4, .int .i64 0), (3, .int .u8 1), (2, .pointer (some ⟨b2, 0, none⟩)), (1, .pointer (some ⟨b1, 0, none⟩))] : Fr)) (fun (e1 : Nat) => [.blk b1 47 [.int .i64 36000, .int .i64 41000], .blk b2 47 [.int .i64 0, .int .i64 4100], .blk b3 47 [.int .i64 0, .int .i64 2500], .blk b4 47 [.int .i64 27500, .int .i64 30000], .own Q1 2 q1 3 1 (iL [0, 3]), .own Am 1 cm 3 1 (iL [0]), .own An 1 cn 34 3 (fun _ => tieL X (prL' [3] [0, 2]) D), .own (X 1) 2 (D 1) 3 1 (iL [0, 2]), .own (X 0) 1 (D 0) 3 1 (iL [3]), .own Sn 1 sn 34 3 (fun _ => tieL (prA (Y 0) (Y 1)) (prL' [2] [3]) (prC (E 0) (E 1))), .own (Y 1) 1 (E 1) 3 1 (iL [3]), .own (Y 0) 1 (E 0) 3 1 (iL [2])]) Drop.done ?_ (fun hE => ?_)
    · rintro e1
      refine TQ.thenN (hY9 _ _ ?_)
      refine TW.seq fun Y10 hY10 => ?_
      as_aux_lemma =>
        refine TW.ex0 Drop.done ?_
        refine RG.tk 0 rfl Pu.mv ?_
        refine RG.tk 1 rfl Pu.eq ?_
        refine RG.a1 2 rfl (fun X2 hX2 => ?_)
        refine TL.p Pu.mv ?_
        refine TL.lit (t := 89) (b' := true) rfl ((by decide)) ?_
        refine TL.nil ?_
        refine TQ.nxt (hX2 _ _ (by repeat (first | exact HasL.nil | refine HasL.cons (by repeat (first | exact Pick.hd | apply Pick.tl)) ?_)) ?_)
        refine RG.tk 3 rfl (Pu.lds ty_ag47) ?_
        refine RG.a1 4 rfl (fun X4 hX4 => ?_)
        refine TL.cr rfl (enters Tryz.func22 rfl rfl) (fun w hw => by
            exact span_any _ _ _) ?_
        refine TL.nil ?_
        refine TQ.nxt (hX4 _ _ (by repeat (first | exact HasL.nil | refine HasL.cons (by repeat (first | exact Pick.hd | apply Pick.tl)) ?_)) ?_)
        refine RG.tk 5 rfl (Pu.q2 ty_q2_47) ?_
        refine RG.tk 6 rfl Pu.kt ?_
        refine RG.a1 7 rfl (fun X7 hX7 => ?_)
        refine TL.p Pu.mv ?_
        refine TL.lit (t := 94) (b' := true) rfl ((by decide)) ?_
        refine TL.nil ?_
        refine TQ.nxt (hX7 _ _ (by repeat (first | exact HasL.nil | refine HasL.cons (by repeat (first | exact Pick.hd | apply Pick.tl)) ?_)) ?_)
        refine RG.tk 8 rfl (Pu.lds ty_ag47) ?_
        refine RG.a1 9 rfl (fun X9 hX9 => ?_)
        refine TL.cr rfl (enters Tryz.func22 rfl rfl) (fun w hw => by
            exact span_any _ _ _) ?_
        refine TL.nil ?_
        refine TQ.nxt (hX9 _ _ (by repeat (first | exact HasL.nil | refine HasL.cons (by repeat (first | exact Pick.hd | apply Pick.tl)) ?_)) ?_)
        refine RG.tk 10 rfl (Pu.q2 ty_q2_47) ?_
        refine RG.tk 11 rfl Pu.kt ?_
        refine RG.a1 12 rfl (fun X12 hX12 => ?_)
        refine TL.p Pu.mv ?_
        refine TL.lit (t := 99) (b' := true) rfl ((by decide)) ?_
        refine TL.nil ?_
        refine TQ.nxt (hX12 _ _ (by repeat (first | exact HasL.nil | refine HasL.cons (by repeat (first | exact Pick.hd | apply Pick.tl)) ?_)) ?_)
        refine RG.tk 13 rfl Pu.mv ?_
        refine RG.tk 14 rfl Pu.eq ?_
        refine RG.tk 15 rfl Pu.kt ?_
        refine RG.a1 16 rfl (fun X16 hX16 => ?_)
        refine TL.p Pu.mv ?_
        refine TL.lit (t := 103) (b' := true) rfl ((by decide)) ?_
        refine TL.nil ?_
        refine TQ.nxt (hX16 _ _ (by repeat (first | exact HasL.nil | refine HasL.cons (by repeat (first | exact Pick.hd | apply Pick.tl)) ?_)) ?_)
        refine RG.tk 17 rfl Pu.mv ?_
        refine RG.tk 18 rfl Pu.eq ?_
        refine RG.tk 19 rfl Pu.kt ?_
        refine RG.a1 20 rfl (fun X20 hX20 => ?_)
        refine TL.p Pu.mv ?_
        refine TL.lit (t := 107) (b' := true) rfl ((by decide)) ?_
        refine TL.nil ?_
        refine TQ.nxt (hX20 _ _ (by repeat (first | exact HasL.nil | refine HasL.cons (by repeat (first | exact Pick.hd | apply Pick.tl)) ?_)) ?_)
        refine RG.tk 21 rfl (Pu.lds ty_ag47) ?_
        refine RG.a1 22 rfl (fun X22 hX22 => ?_)
        refine TL.cr rfl (enters Tryz.func22 rfl rfl) (fun w hw => by
            exact span_any _ _ _) ?_
        refine TL.nil ?_
        refine TQ.nxt (hX22 _ _ (by repeat (first | exact HasL.nil | refine HasL.cons (by repeat (first | exact Pick.hd | apply Pick.tl)) ?_)) ?_)
        refine RG.tk 23 rfl (Pu.q2 ty_q2_47) ?_
        refine RG.tk 24 rfl Pu.kt ?_
        refine RG.a1 25 rfl (fun X25 hX25 => ?_)
        refine TL.p Pu.mv ?_
        refine TL.lit (t := 112) (b' := true) rfl ((by decide)) ?_
        refine TL.nil ?_
        refine TQ.nxt (hX25 _ _ (by repeat (first | exact HasL.nil | refine HasL.cons (by repeat (first | exact Pick.hd | apply Pick.tl)) ?_)) ?_)
        refine RG.tk 26 rfl (Pu.lds ty_ag47) ?_
        refine RG.a1 27 rfl (fun X27 hX27 => ?_)
        refine TL.cr rfl (enters Tryz.func22 rfl rfl) (fun w hw => by
            exact span_any _ _ _) ?_
        refine TL.nil ?_
        refine TQ.nxt (hX27 _ _ (by repeat (first | exact HasL.nil | refine HasL.cons (by repeat (first | exact Pick.hd | apply Pick.tl)) ?_)) ?_)
        refine RG.tk 28 rfl (Pu.q2 ty_q2_47) ?_
        refine RG.tk 29 rfl Pu.kt ?_
        refine RG.a1 30 rfl (fun X30 hX30 => ?_)
        refine TL.p Pu.mv ?_
        refine TL.lit (t := 117) (b' := true) rfl ((by decide)) ?_
        refine TL.nil ?_
        refine TQ.nxt (hX30 _ _ (by repeat (first | exact HasL.nil | refine HasL.cons (by repeat (first | exact Pick.hd | apply Pick.tl)) ?_)) ?_)
        refine RG.tk 31 rfl Pu.mv ?_
        refine RG.tk 32 rfl Pu.eq ?_
        refine RG.tk 33 rfl Pu.kt ?_
        refine RG.a1 34 rfl (fun X34 hX34 => ?_)
        refine TL.p Pu.mv ?_
        refine TL.lit (t := 121) (b' := true) rfl ((by decide)) ?_
        refine TL.nil ?_
        refine TQ.nxt (hX34 _ _ (by repeat (first | exact HasL.nil | refine HasL.cons (by repeat (first | exact Pick.hd | apply Pick.tl)) ?_)) ?_)
        refine RG.tk 35 rfl Pu.mv ?_
        refine RG.tk 36 rfl Pu.eq ?_
        refine RG.tk 37 rfl Pu.kt ?_
        refine RG.a1 38 rfl (fun X38 hX38 => ?_)
        refine TL.p Pu.mv ?_
        refine TL.lit (t := 125) (b' := true) rfl ((by decide)) ?_
        refine TL.nil ?_
        refine TQ.nxt (hX38 _ _ (by repeat (first | exact HasL.nil | refine HasL.cons (by repeat (first | exact Pick.hd | apply Pick.tl)) ?_)) ?_)
        refine RG.tk 39 rfl Pu.mv ?_
        refine RG.tk 40 rfl Pu.eq ?_
        refine RG.tk 41 rfl Pu.kt ?_
        refine RG.a1 42 rfl (fun X42 hX42 => ?_)
        refine TL.p Pu.mv ?_
        refine TL.lit (t := 129) (b' := true) rfl ((by decide)) ?_
        refine TL.nil ?_
        refine TQ.nxt (hX42 _ _ (by repeat (first | exact HasL.nil | refine HasL.cons (by repeat (first | exact Pick.hd | apply Pick.tl)) ?_)) ?_)
        refine RG.tk 43 rfl Pu.mv ?_
        refine RG.a1 44 rfl (fun X44 hX44 => ?_)
        refine TL.gm Mk.bl ?_
        intro b17
        refine TL.nil ?_
        refine TQ.nxt (hX44 _ _ (by repeat (first | exact HasL.nil | refine HasL.cons (by repeat (first | exact Pick.hd | apply Pick.tl)) ?_)) ?_)
        refine RG.a1 45 rfl (fun X45 hX45 => ?_)
        refine TL.cr rfl (enters Tryz.func23 rfl rfl) (fun w hw => by
            exact sameIEx (L := [0, 3]) (by decide) rfl (OwnR.rdr (hw.holds (.own Q1 2 q1 3 1 (iL [0, 3])) (by simp))) (RdR.blk (hw.holds (.blk _ 3 [.int .i64 0, .int .i64 3]) (by simp)) rfl (fun _ _ => rfl))) ?_
        refine TL.nil ?_
        refine TQ.nxt (hX45 _ _ (by repeat (first | exact HasL.nil | refine HasL.cons (by repeat (first | exact Pick.hd | apply Pick.tl)) ?_)) ?_)
        refine RG.tk 46 rfl Pu.kt ?_
        refine RG.a1 47 rfl (fun X47 hX47 => ?_)
        refine TL.p Pu.mv ?_
        refine TL.lit (t := 134) (b' := true) rfl ((by decide)) ?_
        refine TL.nil ?_
        refine TQ.nxt (hX47 _ _ (by repeat (first | exact HasL.nil | refine HasL.cons (by repeat (first | exact Pick.hd | apply Pick.tl)) ?_)) ?_)
        refine RG.tk 48 rfl Pu.mv ?_
        refine RG.tk 49 rfl Pu.eq ?_
        refine RG.tk 50 rfl Pu.kt ?_
        refine RG.a1 51 rfl (fun X51 hX51 => ?_)
        refine TL.p Pu.mv ?_
        refine TL.lit (t := 138) (b' := true) rfl ((by decide)) ?_
        refine TL.nil ?_
        refine TQ.nxt (hX51 _ _ (by repeat (first | exact HasL.nil | refine HasL.cons (by repeat (first | exact Pick.hd | apply Pick.tl)) ?_)) ?_)
        refine RG.tk 52 rfl Pu.mv ?_
        refine RG.a2 53 54 rfl rfl (fun X53 hX53 => ?_) (fun X54 hX54 => ?_)
        · as_aux_lemma =>
            refine TL.gm Mk.bl ?_
            intro b18
            refine TL.nil ?_
            refine TQ.nxt (hX53 _ _ (by repeat (first | exact HasL.nil | refine HasL.cons (by repeat (first | exact Pick.hd | apply Pick.tl)) ?_)) ?_)
            refine RG.a1 54 rfl (fun X54 hX54 => ?_)
            refine TL.gm Mk.bl ?_
            intro b19
            refine TL.nil ?_
            refine TQ.nxt (hX54 _ _ (by repeat (first | exact HasL.nil | refine HasL.cons (by repeat (first | exact Pick.hd | apply Pick.tl)) ?_)) ?_)
            refine RG.a1 55 rfl (fun X55 hX55 => ?_)
            refine TL.cr rfl (enters Tryz.func18 rfl rfl) (fun w hw => by
                exact pair_any _ _ _ _ _ _ _) ?_
            refine TL.nil ?_
            refine TQ.nxt (hX55 _ _ (by repeat (first | exact HasL.nil | refine HasL.cons (by repeat (first | exact Pick.hd | apply Pick.tl)) ?_)) ?_)
            refine RG.a1 56 rfl (fun X56 hX56 => ?_)
            refine TL.gm Mk.bl ?_
            intro b20
            refine TL.nil ?_
            refine TQ.nxt (hX56 _ _ (by repeat (first | exact HasL.nil | refine HasL.cons (by repeat (first | exact Pick.hd | apply Pick.tl)) ?_)) ?_)
            refine RG.a1 57 rfl (fun X57 hX57 => ?_)
            refine TL.cr rfl (enters Tryz.func24 rfl rfl) (fun w hw => by
                exact sameEx2 (a := X) (c := D) (L0 := [3]) (L1 := [0, 2]) (by decide) (OwnR.rdr (hw.holds (.own An 1 cn 34 3 (fun _ => tieL X (prL' [3] [0, 2]) D)) (by simp))) (hw.holds _ (List.mem_cons_self ..)) (OwnR.rdr (hw.holds (.own (X 0) 1 (D 0) 3 1 (iL [3])) (by simp))) (OwnR.rdr (hw.holds (.own (X 1) 2 (D 1) 3 1 (iL [0, 2])) (by simp))) (RdR.blk (hw.holds (.blk _ 3 [.int .i64 3]) (by simp)) rfl (fun _ _ => rfl)) (RdR.blk (hw.holds (.blk _ 3 [.int .i64 0, .int .i64 2]) (by simp)) rfl (fun _ _ => rfl))) ?_
            refine TL.nil ?_
            refine TQ.nxt (hX57 _ _ (by repeat (first | exact HasL.nil | refine HasL.cons (by repeat (first | exact Pick.hd | apply Pick.tl)) ?_)) ?_)
            refine RG.tk 58 rfl Pu.kt ?_
            refine RG.a1 59 rfl (fun X59 hX59 => ?_)
            refine TL.p Pu.mv ?_
            refine TL.lit (t := 146) (b' := true) rfl ((by decide)) ?_
            refine TL.nil ?_
            refine TQ.nxt (hX59 _ _ (by repeat (first | exact HasL.nil | refine HasL.cons (by repeat (first | exact Pick.hd | apply Pick.tl)) ?_)) ?_)
            refine RG.tk 60 rfl Pu.mv ?_
            refine RG.a1 61 rfl (fun X61 hX61 => ?_)
            refine TL.gm Mk.bl ?_
            intro b21
            refine TL.nil ?_
            refine TQ.nxt (hX61 _ _ (by repeat (first | exact HasL.nil | refine HasL.cons (by repeat (first | exact Pick.hd | apply Pick.tl)) ?_)) ?_)
            refine RG.a1 62 rfl (fun X62 hX62 => ?_)
            refine TL.cr rfl (enters Tryz.func23 rfl rfl) (fun w hw => by
                exact sameIEx (L := [0]) (by decide) rfl (OwnR.rdr (hw.holds (.own Am 1 cm 3 1 (iL [0])) (by simp))) (RdR.blk (hw.holds (.blk _ 3 [.int .i64 0]) (by simp)) rfl (fun _ _ => rfl))) ?_
            refine TL.nil ?_
            refine TQ.nxt (hX62 _ _ (by repeat (first | exact HasL.nil | refine HasL.cons (by repeat (first | exact Pick.hd | apply Pick.tl)) ?_)) ?_)
            refine RG.tk 63 rfl Pu.kt ?_
            refine RG.a1 64 rfl (fun X64 hX64 => ?_)
            refine TL.p Pu.mv ?_
            refine TL.lit (t := 151) (b' := true) rfl ((by decide)) ?_
            refine TL.nil ?_
            refine TQ.nxt (hX64 _ _ (by repeat (first | exact HasL.nil | refine HasL.cons (by repeat (first | exact Pick.hd | apply Pick.tl)) ?_)) ?_)
            refine RG.tk 65 rfl Pu.mv ?_
            refine RG.tk 66 rfl Pu.eq ?_
            refine RG.tk 67 rfl Pu.kt ?_
            refine RG.a1 68 rfl (fun X68 hX68 => ?_)
            refine TL.p Pu.mv ?_
            refine TL.lit (t := 155) (b' := true) rfl ((by decide)) ?_
            refine TL.nil ?_
            refine TQ.nxt (hX68 _ _ (by repeat (first | exact HasL.nil | refine HasL.cons (by repeat (first | exact Pick.hd | apply Pick.tl)) ?_)) ?_)
            refine RG.tk 69 rfl Pu.mv ?_
            refine RG.tk 70 rfl Pu.eq ?_
            refine RG.tk 71 rfl Pu.kt ?_
            refine RG.a1 72 rfl (fun X72 hX72 => ?_)
            refine TL.p Pu.mv ?_
            refine TL.lit (t := 159) (b' := true) rfl ((by decide)) ?_
            refine TL.nil ?_
            refine TQ.nxt (hX72 _ _ (by repeat (first | exact HasL.nil | refine HasL.cons (by repeat (first | exact Pick.hd | apply Pick.tl)) ?_)) ?_)
            refine RG.tk 73 rfl Pu.mv ?_
            refine RG.a2 74 75 rfl rfl (fun X74 hX74 => ?_) (fun X75 hX75 => ?_)
            · as_aux_lemma =>
                refine TL.gm Mk.bl ?_
                intro b22
                refine TL.nil ?_
                refine TQ.nxt (hX74 _ _ (by repeat (first | exact HasL.nil | refine HasL.cons (by repeat (first | exact Pick.hd | apply Pick.tl)) ?_)) ?_)
                refine RG.a1 75 rfl (fun X75 hX75 => ?_)
                refine TL.gm Mk.bl ?_
                intro b23
                refine TL.nil ?_
                refine TQ.nxt (hX75 _ _ (by repeat (first | exact HasL.nil | refine HasL.cons (by repeat (first | exact Pick.hd | apply Pick.tl)) ?_)) ?_)
                refine RG.a1 76 rfl (fun X76 hX76 => ?_)
                refine TL.cr rfl (enters Tryz.func18 rfl rfl) (fun w hw => by
                    exact pair_any _ _ _ _ _ _ _) ?_
                refine TL.nil ?_
                refine TQ.nxt (hX76 _ _ (by repeat (first | exact HasL.nil | refine HasL.cons (by repeat (first | exact Pick.hd | apply Pick.tl)) ?_)) ?_)
                refine RG.a1 77 rfl (fun X77 hX77 => ?_)
                refine TL.gm Mk.bl ?_
                intro b24
                refine TL.nil ?_
                refine TQ.nxt (hX77 _ _ (by repeat (first | exact HasL.nil | refine HasL.cons (by repeat (first | exact Pick.hd | apply Pick.tl)) ?_)) ?_)
                refine RG.a1 78 rfl (fun X78 hX78 => ?_)
                refine TL.cr rfl (enters Tryz.func24 rfl rfl) (fun w hw => by
                    exact sameEx2 (a := prA (Y 0) (Y 1)) (c := prC (E 0) (E 1)) (L0 := [2]) (L1 := [3]) (by decide) (OwnR.rdr (hw.holds (.own Sn 1 sn 34 3 (fun _ => tieL (prA (Y 0) (Y 1)) (prL' [2] [3]) (prC (E 0) (E 1)))) (by simp))) (hw.holds _ (List.mem_cons_self ..)) (OwnR.rdr (hw.holds (.own (Y 0) 1 (E 0) 3 1 (iL [2])) (by simp))) (OwnR.rdr (hw.holds (.own (Y 1) 1 (E 1) 3 1 (iL [3])) (by simp))) (RdR.blk (hw.holds (.blk _ 3 [.int .i64 2]) (by simp)) rfl (fun _ _ => rfl)) (RdR.blk (hw.holds (.blk _ 3 [.int .i64 3]) (by simp)) rfl (fun _ _ => rfl))) ?_
                refine TL.nil ?_
                refine TQ.nxt (hX78 _ _ (by repeat (first | exact HasL.nil | refine HasL.cons (by repeat (first | exact Pick.hd | apply Pick.tl)) ?_)) ?_)
                refine RG.tk 79 rfl Pu.kt ?_
                refine RG.a1 80 rfl (fun X80 hX80 => ?_)
                refine TL.p Pu.mv ?_
                refine TL.lit (t := 167) (b' := true) rfl ((by decide)) ?_
                refine TL.nil ?_
                refine TQ.nxt (hX80 _ _ (by repeat (first | exact HasL.nil | refine HasL.cons (by repeat (first | exact Pick.hd | apply Pick.tl)) ?_)) ?_)
                refine RG.tk 81 rfl Pu.mv ?_
                refine RG.tk 82 rfl Pu.eq ?_
                refine RG.tk 83 rfl Pu.kt ?_
                refine RG.a1 84 rfl (fun X84 hX84 => ?_)
                refine TL.p Pu.mv ?_
                refine TL.lit (t := 171) (b' := true) rfl ((by decide)) ?_
                refine TL.nil ?_
                refine TQ.nxt (hX84 _ _ (by repeat (first | exact HasL.nil | refine HasL.cons (by repeat (first | exact Pick.hd | apply Pick.tl)) ?_)) ?_)
                refine RG.tk 85 rfl Pu.mv ?_
                refine RG.tk 86 rfl Pu.eq ?_
                refine RG.tk 87 rfl Pu.kt ?_
                refine RG.tk 88 rfl Pu.as ?_
                refine RG.nil ?_ (by kernel_rfl)
                refine TQ.thenN (hY10 _ _ ?_)
                refine TW.ret ?_
                refine TQ.ret Tryz.results5 rfl ((.tmp rfl .nil)) ?_
                exact fun w hw => Ret.of hw
            · as_aux_lemma =>
                refine TL.gm Mk.bl ?_
                intro b25
                refine TL.nil ?_
                refine TQ.nxt (hX75 _ _ (by repeat (first | exact HasL.nil | refine HasL.cons (by repeat (first | exact Pick.hd | apply Pick.tl)) ?_)) ?_)
                refine RG.a1 74 rfl (fun X74 hX74 => ?_)
                refine TL.gm Mk.bl ?_
                intro b26
                refine TL.nil ?_
                refine TQ.nxt (hX74 _ _ (by repeat (first | exact HasL.nil | refine HasL.cons (by repeat (first | exact Pick.hd | apply Pick.tl)) ?_)) ?_)
                refine RG.a1 76 rfl (fun X76 hX76 => ?_)
                refine TL.cr rfl (enters Tryz.func18 rfl rfl) (fun w hw => by
                    exact pair_any _ _ _ _ _ _ _) ?_
                refine TL.nil ?_
                refine TQ.nxt (hX76 _ _ (by repeat (first | exact HasL.nil | refine HasL.cons (by repeat (first | exact Pick.hd | apply Pick.tl)) ?_)) ?_)
                refine RG.a1 77 rfl (fun X77 hX77 => ?_)
                refine TL.gm Mk.bl ?_
                intro b27
                refine TL.nil ?_
                refine TQ.nxt (hX77 _ _ (by repeat (first | exact HasL.nil | refine HasL.cons (by repeat (first | exact Pick.hd | apply Pick.tl)) ?_)) ?_)
                refine RG.a1 78 rfl (fun X78 hX78 => ?_)
                refine TL.cr rfl (enters Tryz.func24 rfl rfl) (fun w hw => by
                    exact sameEx2 (a := prA (Y 0) (Y 1)) (c := prC (E 0) (E 1)) (L0 := [2]) (L1 := [3]) (by decide) (OwnR.rdr (hw.holds (.own Sn 1 sn 34 3 (fun _ => tieL (prA (Y 0) (Y 1)) (prL' [2] [3]) (prC (E 0) (E 1)))) (by simp))) (hw.holds _ (List.mem_cons_self ..)) (OwnR.rdr (hw.holds (.own (Y 0) 1 (E 0) 3 1 (iL [2])) (by simp))) (OwnR.rdr (hw.holds (.own (Y 1) 1 (E 1) 3 1 (iL [3])) (by simp))) (RdR.blk (hw.holds (.blk _ 3 [.int .i64 2]) (by simp)) rfl (fun _ _ => rfl)) (RdR.blk (hw.holds (.blk _ 3 [.int .i64 3]) (by simp)) rfl (fun _ _ => rfl))) ?_
                refine TL.nil ?_
                refine TQ.nxt (hX78 _ _ (by repeat (first | exact HasL.nil | refine HasL.cons (by repeat (first | exact Pick.hd | apply Pick.tl)) ?_)) ?_)
                refine RG.tk 79 rfl Pu.kt ?_
                refine RG.a1 80 rfl (fun X80 hX80 => ?_)
                refine TL.p Pu.mv ?_
                refine TL.lit (t := 167) (b' := true) rfl ((by decide)) ?_
                refine TL.nil ?_
                refine TQ.nxt (hX80 _ _ (by repeat (first | exact HasL.nil | refine HasL.cons (by repeat (first | exact Pick.hd | apply Pick.tl)) ?_)) ?_)
                refine RG.tk 81 rfl Pu.mv ?_
                refine RG.tk 82 rfl Pu.eq ?_
                refine RG.tk 83 rfl Pu.kt ?_
                refine RG.a1 84 rfl (fun X84 hX84 => ?_)
                refine TL.p Pu.mv ?_
                refine TL.lit (t := 171) (b' := true) rfl ((by decide)) ?_
                refine TL.nil ?_
                refine TQ.nxt (hX84 _ _ (by repeat (first | exact HasL.nil | refine HasL.cons (by repeat (first | exact Pick.hd | apply Pick.tl)) ?_)) ?_)
                refine RG.tk 85 rfl Pu.mv ?_
                refine RG.tk 86 rfl Pu.eq ?_
                refine RG.tk 87 rfl Pu.kt ?_
                refine RG.tk 88 rfl Pu.as ?_
                refine RG.nil ?_ (by kernel_rfl)
                refine TQ.thenN (hY10 _ _ ?_)
                refine TW.ret ?_
                refine TQ.ret Tryz.results5 rfl ((.tmp rfl .nil)) ?_
                exact fun w hw => Ret.of hw
        · as_aux_lemma =>
            refine TL.gm Mk.bl ?_
            intro b28
            refine TL.nil ?_
            refine TQ.nxt (hX54 _ _ (by repeat (first | exact HasL.nil | refine HasL.cons (by repeat (first | exact Pick.hd | apply Pick.tl)) ?_)) ?_)
            refine RG.a1 53 rfl (fun X53 hX53 => ?_)
            refine TL.gm Mk.bl ?_
            intro b29
            refine TL.nil ?_
            refine TQ.nxt (hX53 _ _ (by repeat (first | exact HasL.nil | refine HasL.cons (by repeat (first | exact Pick.hd | apply Pick.tl)) ?_)) ?_)
            refine RG.a1 55 rfl (fun X55 hX55 => ?_)
            refine TL.cr rfl (enters Tryz.func18 rfl rfl) (fun w hw => by
                exact pair_any _ _ _ _ _ _ _) ?_
            refine TL.nil ?_
            refine TQ.nxt (hX55 _ _ (by repeat (first | exact HasL.nil | refine HasL.cons (by repeat (first | exact Pick.hd | apply Pick.tl)) ?_)) ?_)
            refine RG.a1 56 rfl (fun X56 hX56 => ?_)
            refine TL.gm Mk.bl ?_
            intro b30
            refine TL.nil ?_
            refine TQ.nxt (hX56 _ _ (by repeat (first | exact HasL.nil | refine HasL.cons (by repeat (first | exact Pick.hd | apply Pick.tl)) ?_)) ?_)
            refine RG.a1 57 rfl (fun X57 hX57 => ?_)
            refine TL.cr rfl (enters Tryz.func24 rfl rfl) (fun w hw => by
                exact sameEx2 (a := X) (c := D) (L0 := [3]) (L1 := [0, 2]) (by decide) (OwnR.rdr (hw.holds (.own An 1 cn 34 3 (fun _ => tieL X (prL' [3] [0, 2]) D)) (by simp))) (hw.holds _ (List.mem_cons_self ..)) (OwnR.rdr (hw.holds (.own (X 0) 1 (D 0) 3 1 (iL [3])) (by simp))) (OwnR.rdr (hw.holds (.own (X 1) 2 (D 1) 3 1 (iL [0, 2])) (by simp))) (RdR.blk (hw.holds (.blk _ 3 [.int .i64 3]) (by simp)) rfl (fun _ _ => rfl)) (RdR.blk (hw.holds (.blk _ 3 [.int .i64 0, .int .i64 2]) (by simp)) rfl (fun _ _ => rfl))) ?_
            refine TL.nil ?_
            refine TQ.nxt (hX57 _ _ (by repeat (first | exact HasL.nil | refine HasL.cons (by repeat (first | exact Pick.hd | apply Pick.tl)) ?_)) ?_)
            refine RG.tk 58 rfl Pu.kt ?_
            refine RG.a1 59 rfl (fun X59 hX59 => ?_)
            refine TL.p Pu.mv ?_
            refine TL.lit (t := 146) (b' := true) rfl ((by decide)) ?_
            refine TL.nil ?_
            refine TQ.nxt (hX59 _ _ (by repeat (first | exact HasL.nil | refine HasL.cons (by repeat (first | exact Pick.hd | apply Pick.tl)) ?_)) ?_)
            refine RG.tk 60 rfl Pu.mv ?_
            refine RG.a1 61 rfl (fun X61 hX61 => ?_)
            refine TL.gm Mk.bl ?_
            intro b31
            refine TL.nil ?_
            refine TQ.nxt (hX61 _ _ (by repeat (first | exact HasL.nil | refine HasL.cons (by repeat (first | exact Pick.hd | apply Pick.tl)) ?_)) ?_)
            refine RG.a1 62 rfl (fun X62 hX62 => ?_)
            refine TL.cr rfl (enters Tryz.func23 rfl rfl) (fun w hw => by
                exact sameIEx (L := [0]) (by decide) rfl (OwnR.rdr (hw.holds (.own Am 1 cm 3 1 (iL [0])) (by simp))) (RdR.blk (hw.holds (.blk _ 3 [.int .i64 0]) (by simp)) rfl (fun _ _ => rfl))) ?_
            refine TL.nil ?_
            refine TQ.nxt (hX62 _ _ (by repeat (first | exact HasL.nil | refine HasL.cons (by repeat (first | exact Pick.hd | apply Pick.tl)) ?_)) ?_)
            refine RG.tk 63 rfl Pu.kt ?_
            refine RG.a1 64 rfl (fun X64 hX64 => ?_)
            refine TL.p Pu.mv ?_
            refine TL.lit (t := 151) (b' := true) rfl ((by decide)) ?_
            refine TL.nil ?_
            refine TQ.nxt (hX64 _ _ (by repeat (first | exact HasL.nil | refine HasL.cons (by repeat (first | exact Pick.hd | apply Pick.tl)) ?_)) ?_)
            refine RG.tk 65 rfl Pu.mv ?_
            refine RG.tk 66 rfl Pu.eq ?_
            refine RG.tk 67 rfl Pu.kt ?_
            refine RG.a1 68 rfl (fun X68 hX68 => ?_)
            refine TL.p Pu.mv ?_
            refine TL.lit (t := 155) (b' := true) rfl ((by decide)) ?_
            refine TL.nil ?_
            refine TQ.nxt (hX68 _ _ (by repeat (first | exact HasL.nil | refine HasL.cons (by repeat (first | exact Pick.hd | apply Pick.tl)) ?_)) ?_)
            refine RG.tk 69 rfl Pu.mv ?_
            refine RG.tk 70 rfl Pu.eq ?_
            refine RG.tk 71 rfl Pu.kt ?_
            refine RG.a1 72 rfl (fun X72 hX72 => ?_)
            refine TL.p Pu.mv ?_
            refine TL.lit (t := 159) (b' := true) rfl ((by decide)) ?_
            refine TL.nil ?_
            refine TQ.nxt (hX72 _ _ (by repeat (first | exact HasL.nil | refine HasL.cons (by repeat (first | exact Pick.hd | apply Pick.tl)) ?_)) ?_)
            refine RG.tk 73 rfl Pu.mv ?_
            refine RG.a2 74 75 rfl rfl (fun X74 hX74 => ?_) (fun X75 hX75 => ?_)
            · as_aux_lemma =>
                refine TL.gm Mk.bl ?_
                intro b32
                refine TL.nil ?_
                refine TQ.nxt (hX74 _ _ (by repeat (first | exact HasL.nil | refine HasL.cons (by repeat (first | exact Pick.hd | apply Pick.tl)) ?_)) ?_)
                refine RG.a1 75 rfl (fun X75 hX75 => ?_)
                refine TL.gm Mk.bl ?_
                intro b33
                refine TL.nil ?_
                refine TQ.nxt (hX75 _ _ (by repeat (first | exact HasL.nil | refine HasL.cons (by repeat (first | exact Pick.hd | apply Pick.tl)) ?_)) ?_)
                refine RG.a1 76 rfl (fun X76 hX76 => ?_)
                refine TL.cr rfl (enters Tryz.func18 rfl rfl) (fun w hw => by
                    exact pair_any _ _ _ _ _ _ _) ?_
                refine TL.nil ?_
                refine TQ.nxt (hX76 _ _ (by repeat (first | exact HasL.nil | refine HasL.cons (by repeat (first | exact Pick.hd | apply Pick.tl)) ?_)) ?_)
                refine RG.a1 77 rfl (fun X77 hX77 => ?_)
                refine TL.gm Mk.bl ?_
                intro b34
                refine TL.nil ?_
                refine TQ.nxt (hX77 _ _ (by repeat (first | exact HasL.nil | refine HasL.cons (by repeat (first | exact Pick.hd | apply Pick.tl)) ?_)) ?_)
                refine RG.a1 78 rfl (fun X78 hX78 => ?_)
                refine TL.cr rfl (enters Tryz.func24 rfl rfl) (fun w hw => by
                    exact sameEx2 (a := prA (Y 0) (Y 1)) (c := prC (E 0) (E 1)) (L0 := [2]) (L1 := [3]) (by decide) (OwnR.rdr (hw.holds (.own Sn 1 sn 34 3 (fun _ => tieL (prA (Y 0) (Y 1)) (prL' [2] [3]) (prC (E 0) (E 1)))) (by simp))) (hw.holds _ (List.mem_cons_self ..)) (OwnR.rdr (hw.holds (.own (Y 0) 1 (E 0) 3 1 (iL [2])) (by simp))) (OwnR.rdr (hw.holds (.own (Y 1) 1 (E 1) 3 1 (iL [3])) (by simp))) (RdR.blk (hw.holds (.blk _ 3 [.int .i64 2]) (by simp)) rfl (fun _ _ => rfl)) (RdR.blk (hw.holds (.blk _ 3 [.int .i64 3]) (by simp)) rfl (fun _ _ => rfl))) ?_
                refine TL.nil ?_
                refine TQ.nxt (hX78 _ _ (by repeat (first | exact HasL.nil | refine HasL.cons (by repeat (first | exact Pick.hd | apply Pick.tl)) ?_)) ?_)
                refine RG.tk 79 rfl Pu.kt ?_
                refine RG.a1 80 rfl (fun X80 hX80 => ?_)
                refine TL.p Pu.mv ?_
                refine TL.lit (t := 167) (b' := true) rfl ((by decide)) ?_
                refine TL.nil ?_
                refine TQ.nxt (hX80 _ _ (by repeat (first | exact HasL.nil | refine HasL.cons (by repeat (first | exact Pick.hd | apply Pick.tl)) ?_)) ?_)
                refine RG.tk 81 rfl Pu.mv ?_
                refine RG.tk 82 rfl Pu.eq ?_
                refine RG.tk 83 rfl Pu.kt ?_
                refine RG.a1 84 rfl (fun X84 hX84 => ?_)
                refine TL.p Pu.mv ?_
                refine TL.lit (t := 171) (b' := true) rfl ((by decide)) ?_
                refine TL.nil ?_
                refine TQ.nxt (hX84 _ _ (by repeat (first | exact HasL.nil | refine HasL.cons (by repeat (first | exact Pick.hd | apply Pick.tl)) ?_)) ?_)
                refine RG.tk 85 rfl Pu.mv ?_
                refine RG.tk 86 rfl Pu.eq ?_
                refine RG.tk 87 rfl Pu.kt ?_
                refine RG.tk 88 rfl Pu.as ?_
                refine RG.nil ?_ (by kernel_rfl)
                refine TQ.thenN (hY10 _ _ ?_)
                refine TW.ret ?_
                refine TQ.ret Tryz.results5 rfl ((.tmp rfl .nil)) ?_
                exact fun w hw => Ret.of hw
            · as_aux_lemma =>
                refine TL.gm Mk.bl ?_
                intro b35
                refine TL.nil ?_
                refine TQ.nxt (hX75 _ _ (by repeat (first | exact HasL.nil | refine HasL.cons (by repeat (first | exact Pick.hd | apply Pick.tl)) ?_)) ?_)
                refine RG.a1 74 rfl (fun X74 hX74 => ?_)
                refine TL.gm Mk.bl ?_
                intro b36
                refine TL.nil ?_
                refine TQ.nxt (hX74 _ _ (by repeat (first | exact HasL.nil | refine HasL.cons (by repeat (first | exact Pick.hd | apply Pick.tl)) ?_)) ?_)
                refine RG.a1 76 rfl (fun X76 hX76 => ?_)
                refine TL.cr rfl (enters Tryz.func18 rfl rfl) (fun w hw => by
                    exact pair_any _ _ _ _ _ _ _) ?_
                refine TL.nil ?_
                refine TQ.nxt (hX76 _ _ (by repeat (first | exact HasL.nil | refine HasL.cons (by repeat (first | exact Pick.hd | apply Pick.tl)) ?_)) ?_)
                refine RG.a1 77 rfl (fun X77 hX77 => ?_)
                refine TL.gm Mk.bl ?_
                intro b37
                refine TL.nil ?_
                refine TQ.nxt (hX77 _ _ (by repeat (first | exact HasL.nil | refine HasL.cons (by repeat (first | exact Pick.hd | apply Pick.tl)) ?_)) ?_)
                refine RG.a1 78 rfl (fun X78 hX78 => ?_)
                refine TL.cr rfl (enters Tryz.func24 rfl rfl) (fun w hw => by
                    exact sameEx2 (a := prA (Y 0) (Y 1)) (c := prC (E 0) (E 1)) (L0 := [2]) (L1 := [3]) (by decide) (OwnR.rdr (hw.holds (.own Sn 1 sn 34 3 (fun _ => tieL (prA (Y 0) (Y 1)) (prL' [2] [3]) (prC (E 0) (E 1)))) (by simp))) (hw.holds _ (List.mem_cons_self ..)) (OwnR.rdr (hw.holds (.own (Y 0) 1 (E 0) 3 1 (iL [2])) (by simp))) (OwnR.rdr (hw.holds (.own (Y 1) 1 (E 1) 3 1 (iL [3])) (by simp))) (RdR.blk (hw.holds (.blk _ 3 [.int .i64 2]) (by simp)) rfl (fun _ _ => rfl)) (RdR.blk (hw.holds (.blk _ 3 [.int .i64 3]) (by simp)) rfl (fun _ _ => rfl))) ?_
                refine TL.nil ?_
                refine TQ.nxt (hX78 _ _ (by repeat (first | exact HasL.nil | refine HasL.cons (by repeat (first | exact Pick.hd | apply Pick.tl)) ?_)) ?_)
                refine RG.tk 79 rfl Pu.kt ?_
                refine RG.a1 80 rfl (fun X80 hX80 => ?_)
                refine TL.p Pu.mv ?_
                refine TL.lit (t := 167) (b' := true) rfl ((by decide)) ?_
                refine TL.nil ?_
                refine TQ.nxt (hX80 _ _ (by repeat (first | exact HasL.nil | refine HasL.cons (by repeat (first | exact Pick.hd | apply Pick.tl)) ?_)) ?_)
                refine RG.tk 81 rfl Pu.mv ?_
                refine RG.tk 82 rfl Pu.eq ?_
                refine RG.tk 83 rfl Pu.kt ?_
                refine RG.a1 84 rfl (fun X84 hX84 => ?_)
                refine TL.p Pu.mv ?_
                refine TL.lit (t := 171) (b' := true) rfl ((by decide)) ?_
                refine TL.nil ?_
                refine TQ.nxt (hX84 _ _ (by repeat (first | exact HasL.nil | refine HasL.cons (by repeat (first | exact Pick.hd | apply Pick.tl)) ?_)) ?_)
                refine RG.tk 85 rfl Pu.mv ?_
                refine RG.tk 86 rfl Pu.eq ?_
                refine RG.tk 87 rfl Pu.kt ?_
                refine RG.tk 88 rfl Pu.as ?_
                refine RG.nil ?_ (by kernel_rfl)
                refine TQ.thenN (hY10 _ _ ?_)
                refine TW.ret ?_
                refine TQ.ret Tryz.results5 rfl ((.tmp rfl .nil)) ?_
                exact fun w hw => Ret.of hw
    refine RG.tk 0 rfl (Pu.lds ty_ag65) ?_
    refine RG.tk 1 rfl (Pu.lds ty_ag67) ?_
    refine RG.a3 2 3 4 rfl rfl rfl (fun X2 hX2 => ?_) (fun X3 hX3 => ?_) (fun X4 hX4 => ?_)
    · as_aux_lemma =>
        refine TL.call (M := []) rfl (enters Tryz.func17 rfl rfl) (List.Perm.refl _) rfl (fun w hw => by
            exact bales_any _) ?_
        rintro ⟨B1, e1⟩
        refine TL.nil ?_
        refine TQ.nxt (hX2 _ _ (by repeat (first | exact HasL.nil | refine HasL.cons (by repeat (first | exact Pick.hd | apply Pick.tl)) ?_)) ?_)
        refine RG.a2 3 4 rfl rfl (fun X3 hX3 => ?_) (fun X4 hX4 => ?_)
        · as_aux_lemma =>
            refine TL.m Mk.bl ?_
            intro x3
            refine TL.nil ?_
            refine TQ.nxt (hX3 _ _ (by repeat (first | exact HasL.nil | refine HasL.cons (by repeat (first | exact Pick.hd | apply Pick.tl)) ?_)) ?_)
            refine RG.a1 4 rfl (fun X4 hX4 => ?_)
            refine TL.m Mk.bl ?_
            intro x4
            refine TL.nil ?_
            refine TQ.nxt (hX4 _ _ (by repeat (first | exact HasL.nil | refine HasL.cons (by repeat (first | exact Pick.hd | apply Pick.tl)) ?_)) ?_)
            refine RG.a1 5 rfl (fun X5 hX5 => ?_)
            refine TL.cr rfl (enters Tryz.func18 rfl rfl) (fun w hw => by
                exact pair_any _ _ _ _ _ _ _) ?_
            refine TL.nil ?_
            refine TQ.nxt (hX5 _ _ (by repeat (first | exact HasL.nil | refine HasL.cons (by repeat (first | exact Pick.hd | apply Pick.tl)) ?_)) ?_)
            refine RG.a1 6 rfl (fun X6 hX6 => ?_)
            refine TL.cr rfl (enters Tryz.func21 rfl rfl) (fun w hw => by
                exact readyEx (hG.sat hw (by simp)) (OwnR.rdr (hw.holds (.own B1 4 e1 58 11 (fun k => packL (balP k))) (by simp))) (RdR.blk (hw.holds (.blk _ 3 [.int .i64 0, .int .i64 1]) (by simp)) rfl (fun _ _ => rfl)) (RdR.blk (hw.holds (.blk _ 3 [.int .i64 2]) (by simp)) rfl (fun _ _ => rfl))) ?_
            refine TL.nil ?_
            refine TQ.nxt (hX6 _ _ (by repeat (first | exact HasL.nil | refine HasL.cons (by repeat (first | exact Pick.hd | apply Pick.tl)) ?_)) ?_)
            refine RG.tk 7 rfl Pu.mv ?_
            refine RG.tk 8 rfl Pu.ex ?_
            refine RG.tk 9 rfl Pu.ex ?_
            refine RG.tk 10 rfl Pu.as ?_
            refine RG.tk 11 rfl Pu.as ?_
            exact RG.nil (TQ.sub (by repeat (first | exact trivial | refine ⟨rfl, ?_⟩ | refine ⟨trivial, ?_⟩)) (by repeat (first | exact KSub.nil | refine KSub.cons (by repeat (first | exact Pick.hd | apply Pick.tl)) ?_ | exact KSub.refl _ | refine KSub.drop ?_)) (hE e1)) (by kernel_rfl)
        · as_aux_lemma =>
            refine TL.m Mk.bl ?_
            intro x4
            refine TL.nil ?_
            refine TQ.nxt (hX4 _ _ (by repeat (first | exact HasL.nil | refine HasL.cons (by repeat (first | exact Pick.hd | apply Pick.tl)) ?_)) ?_)
            refine RG.a1 3 rfl (fun X3 hX3 => ?_)
            refine TL.m Mk.bl ?_
            intro x3
            refine TL.nil ?_
            refine TQ.nxt (hX3 _ _ (by repeat (first | exact HasL.nil | refine HasL.cons (by repeat (first | exact Pick.hd | apply Pick.tl)) ?_)) ?_)
            refine RG.a1 5 rfl (fun X5 hX5 => ?_)
            refine TL.cr rfl (enters Tryz.func18 rfl rfl) (fun w hw => by
                exact pair_any _ _ _ _ _ _ _) ?_
            refine TL.nil ?_
            refine TQ.nxt (hX5 _ _ (by repeat (first | exact HasL.nil | refine HasL.cons (by repeat (first | exact Pick.hd | apply Pick.tl)) ?_)) ?_)
            refine RG.a1 6 rfl (fun X6 hX6 => ?_)
            refine TL.cr rfl (enters Tryz.func21 rfl rfl) (fun w hw => by
                exact readyEx (hG.sat hw (by simp)) (OwnR.rdr (hw.holds (.own B1 4 e1 58 11 (fun k => packL (balP k))) (by simp))) (RdR.blk (hw.holds (.blk _ 3 [.int .i64 0, .int .i64 1]) (by simp)) rfl (fun _ _ => rfl)) (RdR.blk (hw.holds (.blk _ 3 [.int .i64 2]) (by simp)) rfl (fun _ _ => rfl))) ?_
            refine TL.nil ?_
            refine TQ.nxt (hX6 _ _ (by repeat (first | exact HasL.nil | refine HasL.cons (by repeat (first | exact Pick.hd | apply Pick.tl)) ?_)) ?_)
            refine RG.tk 7 rfl Pu.mv ?_
            refine RG.tk 8 rfl Pu.ex ?_
            refine RG.tk 9 rfl Pu.ex ?_
            refine RG.tk 10 rfl Pu.as ?_
            refine RG.tk 11 rfl Pu.as ?_
            exact RG.nil (TQ.sub (by repeat (first | exact trivial | refine ⟨rfl, ?_⟩ | refine ⟨trivial, ?_⟩)) (by repeat (first | exact KSub.nil | refine KSub.cons (by repeat (first | exact Pick.hd | apply Pick.tl)) ?_ | exact KSub.refl _ | refine KSub.drop ?_)) (hE e1)) (by kernel_rfl)
    · as_aux_lemma =>
        refine TL.m Mk.bl ?_
        intro x3
        refine TL.nil ?_
        refine TQ.nxt (hX3 _ _ (by repeat (first | exact HasL.nil | refine HasL.cons (by repeat (first | exact Pick.hd | apply Pick.tl)) ?_)) ?_)
        refine RG.a2 2 4 rfl rfl (fun X2 hX2 => ?_) (fun X4 hX4 => ?_)
        · as_aux_lemma =>
            refine TL.call (M := []) rfl (enters Tryz.func17 rfl rfl) (List.Perm.refl _) rfl (fun w hw => by
                exact bales_any _) ?_
            rintro ⟨B1, e1⟩
            refine TL.nil ?_
            refine TQ.nxt (hX2 _ _ (by repeat (first | exact HasL.nil | refine HasL.cons (by repeat (first | exact Pick.hd | apply Pick.tl)) ?_)) ?_)
            refine RG.a1 4 rfl (fun X4 hX4 => ?_)
            refine TL.m Mk.bl ?_
            intro x4
            refine TL.nil ?_
            refine TQ.nxt (hX4 _ _ (by repeat (first | exact HasL.nil | refine HasL.cons (by repeat (first | exact Pick.hd | apply Pick.tl)) ?_)) ?_)
            refine RG.a1 5 rfl (fun X5 hX5 => ?_)
            refine TL.cr rfl (enters Tryz.func18 rfl rfl) (fun w hw => by
                exact pair_any _ _ _ _ _ _ _) ?_
            refine TL.nil ?_
            refine TQ.nxt (hX5 _ _ (by repeat (first | exact HasL.nil | refine HasL.cons (by repeat (first | exact Pick.hd | apply Pick.tl)) ?_)) ?_)
            refine RG.a1 6 rfl (fun X6 hX6 => ?_)
            refine TL.cr rfl (enters Tryz.func21 rfl rfl) (fun w hw => by
                exact readyEx (hG.sat hw (by simp)) (OwnR.rdr (hw.holds (.own B1 4 e1 58 11 (fun k => packL (balP k))) (by simp))) (RdR.blk (hw.holds (.blk _ 3 [.int .i64 0, .int .i64 1]) (by simp)) rfl (fun _ _ => rfl)) (RdR.blk (hw.holds (.blk _ 3 [.int .i64 2]) (by simp)) rfl (fun _ _ => rfl))) ?_
            refine TL.nil ?_
            refine TQ.nxt (hX6 _ _ (by repeat (first | exact HasL.nil | refine HasL.cons (by repeat (first | exact Pick.hd | apply Pick.tl)) ?_)) ?_)
            refine RG.tk 7 rfl Pu.mv ?_
            refine RG.tk 8 rfl Pu.ex ?_
            refine RG.tk 9 rfl Pu.ex ?_
            refine RG.tk 10 rfl Pu.as ?_
            refine RG.tk 11 rfl Pu.as ?_
            exact RG.nil (TQ.sub (by repeat (first | exact trivial | refine ⟨rfl, ?_⟩ | refine ⟨trivial, ?_⟩)) (by repeat (first | exact KSub.nil | refine KSub.cons (by repeat (first | exact Pick.hd | apply Pick.tl)) ?_ | exact KSub.refl _ | refine KSub.drop ?_)) (hE e1)) (by kernel_rfl)
        · as_aux_lemma =>
            refine TL.m Mk.bl ?_
            intro x4
            refine TL.nil ?_
            refine TQ.nxt (hX4 _ _ (by repeat (first | exact HasL.nil | refine HasL.cons (by repeat (first | exact Pick.hd | apply Pick.tl)) ?_)) ?_)
            refine RG.a1 2 rfl (fun X2 hX2 => ?_)
            refine TL.call (M := []) rfl (enters Tryz.func17 rfl rfl) (List.Perm.refl _) rfl (fun w hw => by
                exact bales_any _) ?_
            rintro ⟨B1, e1⟩
            refine TL.nil ?_
            refine TQ.nxt (hX2 _ _ (by repeat (first | exact HasL.nil | refine HasL.cons (by repeat (first | exact Pick.hd | apply Pick.tl)) ?_)) ?_)
            refine RG.a1 5 rfl (fun X5 hX5 => ?_)
            refine TL.cr rfl (enters Tryz.func18 rfl rfl) (fun w hw => by
                exact pair_any _ _ _ _ _ _ _) ?_
            refine TL.nil ?_
            refine TQ.nxt (hX5 _ _ (by repeat (first | exact HasL.nil | refine HasL.cons (by repeat (first | exact Pick.hd | apply Pick.tl)) ?_)) ?_)
            refine RG.a1 6 rfl (fun X6 hX6 => ?_)
            refine TL.cr rfl (enters Tryz.func21 rfl rfl) (fun w hw => by
                exact readyEx (hG.sat hw (by simp)) (OwnR.rdr (hw.holds (.own B1 4 e1 58 11 (fun k => packL (balP k))) (by simp))) (RdR.blk (hw.holds (.blk _ 3 [.int .i64 0, .int .i64 1]) (by simp)) rfl (fun _ _ => rfl)) (RdR.blk (hw.holds (.blk _ 3 [.int .i64 2]) (by simp)) rfl (fun _ _ => rfl))) ?_
            refine TL.nil ?_
            refine TQ.nxt (hX6 _ _ (by repeat (first | exact HasL.nil | refine HasL.cons (by repeat (first | exact Pick.hd | apply Pick.tl)) ?_)) ?_)
            refine RG.tk 7 rfl Pu.mv ?_
            refine RG.tk 8 rfl Pu.ex ?_
            refine RG.tk 9 rfl Pu.ex ?_
            refine RG.tk 10 rfl Pu.as ?_
            refine RG.tk 11 rfl Pu.as ?_
            exact RG.nil (TQ.sub (by repeat (first | exact trivial | refine ⟨rfl, ?_⟩ | refine ⟨trivial, ?_⟩)) (by repeat (first | exact KSub.nil | refine KSub.cons (by repeat (first | exact Pick.hd | apply Pick.tl)) ?_ | exact KSub.refl _ | refine KSub.drop ?_)) (hE e1)) (by kernel_rfl)
    · as_aux_lemma =>
        refine TL.m Mk.bl ?_
        intro x4
        refine TL.nil ?_
        refine TQ.nxt (hX4 _ _ (by repeat (first | exact HasL.nil | refine HasL.cons (by repeat (first | exact Pick.hd | apply Pick.tl)) ?_)) ?_)
        refine RG.a2 2 3 rfl rfl (fun X2 hX2 => ?_) (fun X3 hX3 => ?_)
        · as_aux_lemma =>
            refine TL.call (M := []) rfl (enters Tryz.func17 rfl rfl) (List.Perm.refl _) rfl (fun w hw => by
                exact bales_any _) ?_
            rintro ⟨B1, e1⟩
            refine TL.nil ?_
            refine TQ.nxt (hX2 _ _ (by repeat (first | exact HasL.nil | refine HasL.cons (by repeat (first | exact Pick.hd | apply Pick.tl)) ?_)) ?_)
            refine RG.a1 3 rfl (fun X3 hX3 => ?_)
            refine TL.m Mk.bl ?_
            intro x3
            refine TL.nil ?_
            refine TQ.nxt (hX3 _ _ (by repeat (first | exact HasL.nil | refine HasL.cons (by repeat (first | exact Pick.hd | apply Pick.tl)) ?_)) ?_)
            refine RG.a1 5 rfl (fun X5 hX5 => ?_)
            refine TL.cr rfl (enters Tryz.func18 rfl rfl) (fun w hw => by
                exact pair_any _ _ _ _ _ _ _) ?_
            refine TL.nil ?_
            refine TQ.nxt (hX5 _ _ (by repeat (first | exact HasL.nil | refine HasL.cons (by repeat (first | exact Pick.hd | apply Pick.tl)) ?_)) ?_)
            refine RG.a1 6 rfl (fun X6 hX6 => ?_)
            refine TL.cr rfl (enters Tryz.func21 rfl rfl) (fun w hw => by
                exact readyEx (hG.sat hw (by simp)) (OwnR.rdr (hw.holds (.own B1 4 e1 58 11 (fun k => packL (balP k))) (by simp))) (RdR.blk (hw.holds (.blk _ 3 [.int .i64 0, .int .i64 1]) (by simp)) rfl (fun _ _ => rfl)) (RdR.blk (hw.holds (.blk _ 3 [.int .i64 2]) (by simp)) rfl (fun _ _ => rfl))) ?_
            refine TL.nil ?_
            refine TQ.nxt (hX6 _ _ (by repeat (first | exact HasL.nil | refine HasL.cons (by repeat (first | exact Pick.hd | apply Pick.tl)) ?_)) ?_)
            refine RG.tk 7 rfl Pu.mv ?_
            refine RG.tk 8 rfl Pu.ex ?_
            refine RG.tk 9 rfl Pu.ex ?_
            refine RG.tk 10 rfl Pu.as ?_
            refine RG.tk 11 rfl Pu.as ?_
            exact RG.nil (TQ.sub (by repeat (first | exact trivial | refine ⟨rfl, ?_⟩ | refine ⟨trivial, ?_⟩)) (by repeat (first | exact KSub.nil | refine KSub.cons (by repeat (first | exact Pick.hd | apply Pick.tl)) ?_ | exact KSub.refl _ | refine KSub.drop ?_)) (hE e1)) (by kernel_rfl)
        · as_aux_lemma =>
            refine TL.m Mk.bl ?_
            intro x3
            refine TL.nil ?_
            refine TQ.nxt (hX3 _ _ (by repeat (first | exact HasL.nil | refine HasL.cons (by repeat (first | exact Pick.hd | apply Pick.tl)) ?_)) ?_)
            refine RG.a1 2 rfl (fun X2 hX2 => ?_)
            refine TL.call (M := []) rfl (enters Tryz.func17 rfl rfl) (List.Perm.refl _) rfl (fun w hw => by
                exact bales_any _) ?_
            rintro ⟨B1, e1⟩
            refine TL.nil ?_
            refine TQ.nxt (hX2 _ _ (by repeat (first | exact HasL.nil | refine HasL.cons (by repeat (first | exact Pick.hd | apply Pick.tl)) ?_)) ?_)
            refine RG.a1 5 rfl (fun X5 hX5 => ?_)
            refine TL.cr rfl (enters Tryz.func18 rfl rfl) (fun w hw => by
                exact pair_any _ _ _ _ _ _ _) ?_
            refine TL.nil ?_
            refine TQ.nxt (hX5 _ _ (by repeat (first | exact HasL.nil | refine HasL.cons (by repeat (first | exact Pick.hd | apply Pick.tl)) ?_)) ?_)
            refine RG.a1 6 rfl (fun X6 hX6 => ?_)
            refine TL.cr rfl (enters Tryz.func21 rfl rfl) (fun w hw => by
                exact readyEx (hG.sat hw (by simp)) (OwnR.rdr (hw.holds (.own B1 4 e1 58 11 (fun k => packL (balP k))) (by simp))) (RdR.blk (hw.holds (.blk _ 3 [.int .i64 0, .int .i64 1]) (by simp)) rfl (fun _ _ => rfl)) (RdR.blk (hw.holds (.blk _ 3 [.int .i64 2]) (by simp)) rfl (fun _ _ => rfl))) ?_
            refine TL.nil ?_
            refine TQ.nxt (hX6 _ _ (by repeat (first | exact HasL.nil | refine HasL.cons (by repeat (first | exact Pick.hd | apply Pick.tl)) ?_)) ?_)
            refine RG.tk 7 rfl Pu.mv ?_
            refine RG.tk 8 rfl Pu.ex ?_
            refine RG.tk 9 rfl Pu.ex ?_
            refine RG.tk 10 rfl Pu.as ?_
            refine RG.tk 11 rfl Pu.as ?_
            exact RG.nil (TQ.sub (by repeat (first | exact trivial | refine ⟨rfl, ?_⟩ | refine ⟨trivial, ?_⟩)) (by repeat (first | exact KSub.nil | refine KSub.cons (by repeat (first | exact Pick.hd | apply Pick.tl)) ?_ | exact KSub.refl _ | refine KSub.drop ?_)) (hE e1)) (by kernel_rfl)
end Go.Proofs.YtljhdcclajikiaaGreatDoor
namespace Go.Proofs.YtljhdcclajikiaaGreatDoor
set_option linter.all false
set_option linter.unusedVariables false
set_option linter.unusedSimpArgs false
abbrev Asc (L : List Int) : Prop := L.Pairwise (· < ·)
theorem asc_getD {L : List Int} (h : Asc L) {j k : Nat} (hjk : j < k) (hk : k < L.length) : L.getD j 0 < L.getD k 0 := by
  have := List.pairwise_iff_getElem.1 h j k (by omega) hk hjk
  simpa [List.getD_eq_getElem?_getD, List.getElem?_eq_getElem hk, List.getElem?_eq_getElem (show j < L.length by omega)] using this
theorem asc_of {L : List Int} (h : ∀ k, k + 1 < L.length → L.getD k 0 < L.getD (k + 1) 0) : Asc L := by
  have key : ∀ d j, j + d + 1 < L.length → L.getD j 0 < L.getD (j + d + 1) 0 := by
    intro d
    induction d with
    | zero => exact fun j hj => h j hj
    | succ d ih => exact fun j hj => Int.lt_trans (ih j (by omega)) (h (j + d + 1) (by omega))
  refine List.pairwise_iff_getElem.2 fun j k hj hk hjk => ?_
  have := key (k - j - 1) j (by omega)
  rw [show j + (k - j - 1) + 1 = k by omega] at this
  simpa [List.getD_eq_getElem?_getD, List.getElem?_eq_getElem hk, List.getElem?_eq_getElem hj] using this
theorem asc_srt {L : List Int} (h : L.Nodup) : Asc (srt L) := by
  have h1 : (srt L).Pairwise (· ≠ ·) := ((srt_perm L).nodup_iff).2 h
  exact List.Pairwise.imp₂ (fun a b hle hne => Int.lt_iff_le_and_ne.2 ⟨hle, hne⟩) (srt_mono L) h1
theorem asc_nodup {L : List Int} (h : Asc L) : L.Nodup := h.imp fun h => Int.ne_of_lt h
end Go.Proofs.YtljhdcclajikiaaGreatDoor
namespace Go.Proofs.YtljhdcclajikiaaGreatDoor
set_option linter.all false
set_option linter.unusedVariables false
set_option linter.unusedSimpArgs false
open Go.RowKit
def dg (P w : Nat) : Nat → Nat
  | 0 => w
  | m + 1 => dg P w m / P
section
variable {P np w m s : Nat}
end
section
variable {c : Cx} {F : Fr} {K : List Fact} {d : Option Tmp} {ty : TypeId} {pos : String} {af : Array Edge} {g : Option (Nat × Bool)} {x y : Operand} {xt yt : TypeId} {i j : Nat}
end
section
variable {P np w m k i : Nat} {A : Nat → Option Addr} {c : Nat → Nat} {A2 : Option Addr} {c2 : Nat}
end
end Go.Proofs.YtljhdcclajikiaaGreatDoor
namespace Go.Proofs.YtljhdcclajikiaaGreatDoor
set_option linter.all false
set_option linter.unusedVariables false
set_option linter.unusedSimpArgs false
open Go.RowKit
theorem packsOk_iff {np : Nat} {pk : Nat → Nat → Int} : packsOk np pk = true ↔ (np : Int) ≤ 30 ∧ ∀ q, q < np → packOk (pk q) = true := by
  unfold packsOk
  rw [Bool.and_eq_true, decide_eq_true_eq, allB_iff]
theorem checkV0 {np : Nat} {pk : Nat → Nat → Int} {l : Nat → Nat → Nat} {v : Nat → Nat → Nat → Int} : checkV np pk 0 l v = if packsOk np pk then 0 else 50 := by
  unfold checkV
  have : tiesOk np 0 l v = true := by simp [tiesOk, allB, held, markAll]
  rw [this]
  rfl
section
variable {w : World} {TA : Nat → Option Addr} {Tc : Nat → Nat} {P np way k nc ns : Nat} {A : Option Addr} {cp : Nat} {pk : Nat → Nat → Int}
end
section
variable {np nc nw : Nat} {pk : Nat → Nat → Int} {cans wv : Nat → Int} {b : Int}
end
def leafW (P np nc : Nat) (pk : Nat → Nat → Int) (cans wv : Nat → Int) (b : Int) (q : Nat) : St := iter (leafS P np nc (fun q => rl (pk q)) (fun q => rh (pk q)) cans wv b) q ⟨-1, 0, 0⟩
theorem leafW_all {np nc : Nat} {pk : Nat → Nat → Int} {cans wv : Nat → Int} {b : Int} : leafW (2 * nc + 1) np nc pk cans wv b ((2 * nc + 1) ^ np) = stowB np pk nc cans wv b := by
  unfold leafW stowB
  rw [dfs_row]
  simp
end Go.Proofs.YtljhdcclajikiaaGreatDoor
namespace Go.Proofs.YtljhdcclajikiaaGreatDoor
set_option linter.all false
set_option linter.unusedVariables false
set_option linter.unusedSimpArgs false
theorem rise_asc {v : Nat → Int} {n : Nat} {N : Nat} : allB n (riseP v N) = true ↔ Asc (toI v n) ∧ InxL (toI v n) N := by
  constructor
  · intro h
    refine ⟨asc_of fun k hk => ?_, inxL_toI (rise_inx h)⟩
    rw [toI_len] at hk
    rw [toI_get (v := v) (k := k) (by omega), toI_get hk]
    have := allB_iff.1 h (k + 1) hk
    have h9 : lastV v (k + 1) = v k := rfl
    simp only [riseP, inB5, h9, Bool.and_eq_true, decide_eq_true_eq] at this
    omega
  · rintro ⟨h1, h2⟩
    refine allB_iff.2 fun k hk => ?_
    have h3 := h2 (v k) (by rw [← toI_get (v := v) hk]; exact mem_getD (by rw [toI_len]; exact hk))
    simp only [riseP, inB5, Bool.and_eq_true, decide_eq_true_eq]
    cases k with
    | zero => simp only [lastV]; omega
    | succ k =>
      have := asc_getD h1 (Nat.lt_succ_self k) (by rw [toI_len]; exact hk)
      rw [toI_get (v := v) (k := k) (by omega), toI_get hk] at this
      simp only [lastV]
      omega
section
variable {np : Nat} {pk : Nat → Nat → Int} {l : Nat → Nat} {v : Nat → Nat → Int} {b : Int} {M : List Int}
theorem check1_iff : check1 np pk l v = 0 ↔ packsOk np pk = true ∧ (∀ j, j < 3 → Asc (toI (v j) (l j)) ∧ InxL (toI (v j) (l j)) np) ∧ tot l 3 ≤ 10 ∧ (toI (v 0) (l 0) ++ toI (v 1) (l 1) ++ toI (v 2) (l 2)).Nodup := by
  have hh : held (fun _ => l) (fun _ => v) 1 = toI (v 0) (l 0) ++ toI (v 1) (l 1) ++ toI (v 2) (l 2) := rfl
  have ht : tiesOk np 1 (fun _ => l) (fun _ => v) = true ↔ (∀ j, j < 3 → Asc (toI (v j) (l j)) ∧ InxL (toI (v j) (l j)) np) ∧ tot l 3 ≤ 10 ∧ (toI (v 0) (l 0) ++ toI (v 1) (l 1) ++ toI (v 2) (l 2)).Nodup := by
    rw [ties_dup]
    unfold dupOk
    rw [hh]
    simp only [Bool.and_eq_true, decide_eq_true_eq, allB_iff]
    constructor
    · rintro ⟨h1, _, h2⟩
      have h3 := h1 0 (by omega)
      simp only [tieOk, Bool.and_eq_true, decide_eq_true_eq, allB_iff] at h3
      exact ⟨fun j hj => rise_asc.1 (allB_iff.2 (h3.1 j hj)), h3.2, h2⟩
    · rintro ⟨h1, h2, h3⟩
      refine ⟨fun i _ => ?_, by decide, h3⟩
      simp only [tieOk, Bool.and_eq_true, decide_eq_true_eq]
      exact ⟨allB_iff.2 fun j hj => rise_asc.2 (h1 j hj), h2⟩
  unfold check1 checkV
  constructor
  · intro h
    split at h
    · rename_i hp
      split at h
      · rename_i h2
        exact ⟨hp, ht.1 h2⟩
      · cases h
    · cases h
  · rintro ⟨h1, h2⟩
    rw [if_pos h1, if_pos (ht.2 h2)]
end
end Go.Proofs.YtljhdcclajikiaaGreatDoor
namespace Go.Proofs.YtljhdcclajikiaaGreatDoor
set_option linter.all false
set_option linter.unusedVariables false
set_option linter.unusedSimpArgs false
open Go.RowKit
theorem flatT_held {l : Nat → Nat → Nat} {v : Nat → Nat → Nat → Int} : ∀ m, flatT (T0 l v) (3 * m) = held l v m
  | 0 => rfl
  | m + 1 => by
    rw [show 3 * (m + 1) = 3 * m + 3 from rfl]
    simp only [flatT, flatT_held m, held]
    have e0 : T0 l v (3 * m) = toI (v m 0) (l m 0) := T0_at (k := 0) (by omega)
    have e1 : T0 l v (3 * m + 1) = toI (v m 1) (l m 1) := T0_at (by omega)
    have e2 : T0 l v (3 * m + 2) = toI (v m 2) (l m 2) := T0_at (by omega)
    rw [e0, e1, e2, List.append_assoc, List.append_assoc]
    congr 1
    simp only [lsts, lst, List.nil_append, List.append_assoc]
    rfl
section
variable {np m nP : Nat} {pk : Nat → Nat → Int} {l : Nat → Nat → Nat} {v : Nat → Nat → Nat → Int} {F : List Int} {P : Nat → Nat → Int}
theorem trd_check (h : checkV np pk m l v = 0) : m ≤ 8 ∧ np ≤ 30 ∧ (flatT (T0 l v) (3 * m)).Nodup ∧ ∀ s, s < 3 * m → Asc (T0 l v s) ∧ InxL (T0 l v s) np ∧ (T0 l v s).length ≤ 10 := by
  obtain ⟨h1, h2, h3⟩ := check_ok h
  have h4 : tiesOk np m l v = true := by
    unfold checkV at h
    split at h
    · split at h
      · assumption
      · cases h
    · cases h
  rw [ties_dup] at h4
  unfold dupOk at h4
  simp only [Bool.and_eq_true, decide_eq_true_eq] at h4
  refine ⟨by omega, h1, by rw [flatT_held]; exact h4.2.2, fun s hs => ?_⟩
  obtain ⟨a1, a2⟩ := T0_bd h3 s hs
  exact ⟨(rise_asc.1 ((h3 (s / 3) (by omega)).1 (s % 3) (by omega))).1, a1, a2⟩
end
end Go.Proofs.YtljhdcclajikiaaGreatDoor
namespace Go.Proofs.YtljhdcclajikiaaGreatDoor
set_option linter.all false
set_option linter.unusedVariables false
set_option linter.unusedSimpArgs false
open Go.RowKit
section
variable {P np nc : Nat} {r0 r1 cans cans2 wv : Nat → Int} {b b2 : Int}
theorem leaf_best : ∀ q, (∀ w, w < q → allB nc (okT P np r0 r1 cans b w) = true → wsum P wv np w ≤ (iter (leafS P np nc r0 r1 cans wv b) q ⟨-1, 0, 0⟩).worth) ∧
    ((iter (leafS P np nc r0 r1 cans wv b) q ⟨-1, 0, 0⟩).worth = -1 ∨ (iter (leafS P np nc r0 r1 cans wv b) q ⟨-1, 0, 0⟩).way < q ∧ allB nc (okT P np r0 r1 cans b (iter (leafS P np nc r0 r1 cans wv b) q ⟨-1, 0, 0⟩).way) = true ∧ (iter (leafS P np nc r0 r1 cans wv b) q ⟨-1, 0, 0⟩).worth = wsum P wv np (iter (leafS P np nc r0 r1 cans wv b) q ⟨-1, 0, 0⟩).way)
  | 0 => ⟨fun w hw => by omega, .inl rfl⟩
  | q + 1 => by
    obtain ⟨h1, h2⟩ := leaf_best q
    simp only [iter]
    generalize iter (leafS P np nc r0 r1 cans wv b) q ⟨-1, 0, 0⟩ = st at *
    unfold leafS
    split
    · rename_i h
      refine ⟨fun w hw hf => ?_, h2.imp id fun ⟨a, b⟩ => ⟨by omega, b⟩⟩
      by_cases e : w = q
      · subst e; exact h
      · exact h1 w (by omega) hf
    · rename_i h
      split
      · rename_i hf
        refine ⟨fun w hw hf2 => ?_, .inr ⟨Nat.lt_succ_self q, hf, rfl⟩⟩
        by_cases e : w = q
        · subst e; exact Int.le_refl _
        · have := h1 w (by omega) hf2
          show wsum P wv np w ≤ wsum P wv np q
          omega
      · rename_i hf
        refine ⟨fun w hw hf2 => ?_, h2.imp id fun ⟨a, b⟩ => ⟨by omega, b⟩⟩
        by_cases e : w = q
        · subst e; exact absurd hf2 hf
        · exact h1 w (by omega) hf2
theorem okT_mono (hc : ∀ k, k < nc → cans k ≤ cans2 k) (hb : b ≤ b2) {w : Nat} (h : allB nc (okT P np r0 r1 cans b w) = true) : allB nc (okT P np r0 r1 cans2 b2 w) = true := by
  refine allB_iff.2 fun k hk => ?_
  have h1 := allB_iff.1 h k hk
  have h2 := hc k hk
  unfold okT at h1 ⊢
  simp only [Bool.and_eq_true, decide_eq_true_eq] at h1 ⊢
  refine ⟨?_, by omega⟩
  have h3 := h1.1
  unfold balV at h3 ⊢
  split at h3
  · rw [if_pos (by omega)]
  · split at h3 <;> omega
end
section
variable {np nc nw : Nat} {pk : Nat → Nat → Int} {cans cans2 wv : Nat → Int} {b b2 : Int}
theorem stowB_iter : stowB np pk nc cans wv b = iter (leafS (2 * nc + 1) np nc (fun q => rl (pk q)) (fun q => rh (pk q)) cans wv b) ((2 * nc + 1) ^ np) ⟨-1, 0, 0⟩ := by
  rw [← leafW_all]; rfl
theorem stow_best (hb : 0 ≤ b) (hc : ∀ k, k < nc → 0 ≤ cans k) : (stowB np pk nc cans wv b).n = nc ∧ 0 ≤ (stowB np pk nc cans wv b).worth ∧ (stowB np pk nc cans wv b).way < (2 * nc + 1) ^ np ∧
    allB nc (okT (2 * nc + 1) np (fun q => rl (pk q)) (fun q => rh (pk q)) cans b (stowB np pk nc cans wv b).way) = true ∧ (stowB np pk nc cans wv b).worth = wsum (2 * nc + 1) wv np (stowB np pk nc cans wv b).way ∧
    ∀ w, w < (2 * nc + 1) ^ np → allB nc (okT (2 * nc + 1) np (fun q => rl (pk q)) (fun q => rh (pk q)) cans b w) = true → wsum (2 * nc + 1) wv np w ≤ (stowB np pk nc cans wv b).worth := by
  have hf := dfs_found (P := 2 * nc + 1) (np := np) (nc := nc) (r0 := fun q => rl (pk q)) (r1 := fun q => rh (pk q)) (wv := wv) (by omega) hb hc
  have hl := leaf_best (P := 2 * nc + 1) (np := np) (nc := nc) (r0 := fun q => rl (pk q)) (r1 := fun q => rh (pk q)) (cans := cans) (wv := wv) (b := b) ((2 * nc + 1) ^ np)
  rw [← stowB_iter] at hl
  change (stowB np pk nc cans wv b).n = nc ∧ 0 ≤ (stowB np pk nc cans wv b).worth at hf
  rcases hl.2 with h | ⟨h1, h2, h3⟩
  · omega
  · exact ⟨hf.1, hf.2, h1, h2, h3, hl.1⟩
theorem stow_more (hb : 0 ≤ b) (hc : ∀ k, k < nc → 0 ≤ cans k) (hb2 : b ≤ b2) (hc2 : ∀ k, k < nc → cans k ≤ cans2 k) : (stowB np pk nc cans wv b).worth ≤ (stowB np pk nc cans2 wv b2).worth := by
  obtain ⟨_, _, a3, a4, a5, _⟩ := stow_best (np := np) (pk := pk) (wv := wv) hb hc
  obtain ⟨_, _, _, _, _, b6⟩ := stow_best (np := np) (pk := pk) (nc := nc) (cans := cans2) (wv := wv) (b := b2) (by omega) fun k hk => by have := hc k hk; have := hc2 k hk; omega
  rw [a5]
  exact b6 _ a3 (okT_mono hc2 hb2 a4)
end
def digO (P i w x : Nat) : Nat := w / P ^ (i - 1 - x) % P
theorem side_mem {P s x : Nat} : ∀ {i w : Nat}, x ∈ side P i w s → x < i ∧ digO P i w x = s + 1
  | 0, _, h => by cases h
  | i + 1, w, h => by
    simp only [side, List.mem_append] at h
    rcases h with h | h
    · obtain ⟨h1, h2⟩ := side_mem h
      refine ⟨by omega, ?_⟩
      unfold digO at h2 ⊢
      rw [show i + 1 - 1 - x = i - 1 - x + 1 by omega, Nat.pow_succ, Nat.mul_comm, ← Nat.div_div_eq_div_mul]
      exact h2
    · split at h
      · rename_i h2
        simp at h
        subst h
        refine ⟨Nat.lt_succ_self _, ?_⟩
        unfold digO
        rw [show x + 1 - 1 - x = 0 by omega, Nat.pow_zero, Nat.div_one]
        exact h2
      · cases h
theorem side_asc {P s : Nat} : ∀ {i w : Nat}, (side P i w s).Pairwise (· < ·)
  | 0, _ => List.Pairwise.nil
  | i + 1, w => by
    simp only [side]
    refine List.pairwise_append.2 ⟨side_asc, ?_, fun x hx y hy => ?_⟩
    · split
      · exact List.pairwise_singleton _ _
      · exact List.Pairwise.nil
    · split at hy
      · simp at hy; subst hy; exact (side_mem hx).1
      · cases hy
def sideI (P i w s : Nat) : List Int := (side P i w s).map fun x : Nat => (x : Int)
theorem sideI_toI {P i w s : Nat} : toI (svl P i w s) (sln P i w s) = sideI P i w s := by
  unfold toI svl sln sideI
  refine List.ext_getElem (by simp) fun k h1 h2 => ?_
  simp at h1
  simp [List.getD_eq_getElem?_getD, h1]
theorem sideI_asc {P i w s : Nat} : Asc (sideI P i w s) := by
  unfold sideI Asc
  rw [List.pairwise_map]
  exact side_asc.imp fun h => by omega
theorem sideI_mem {P i w s : Nat} {x : Int} (h : x ∈ sideI P i w s) : 0 ≤ x ∧ x < i ∧ digO P i w x.toNat = s + 1 := by
  unfold sideI at h
  obtain ⟨y, hy, rfl⟩ := List.mem_map.1 h
  have := side_mem hy
  exact ⟨by omega, by omega, this.2⟩
theorem nodup_flat {T : Nat → List Int} (g : Int → Nat) : ∀ n, (∀ s, s < n → (T s).Nodup) → (∀ s, s < n → ∀ x ∈ T s, g x = s) → (flatT T n).Nodup
  | 0, _, _ => List.nodup_nil
  | n + 1, h1, h2 => by
    simp only [flatT]
    refine List.nodup_append.2 ⟨nodup_flat g n (fun s hs => h1 s (by omega)) (fun s hs => h2 s (by omega)), h1 n (by omega), fun x hx y hy e => ?_⟩
    subst e
    have hm : ∀ m, m ≤ n → x ∈ flatT T m → ∃ s, s < m ∧ x ∈ T s := by
      intro m
      induction m with
      | zero => intro _ h; cases h
      | succ m ih =>
        intro hm h
        simp only [flatT, List.mem_append] at h
        rcases h with h | h
        · obtain ⟨s, a, b⟩ := ih (by omega) h
          exact ⟨s, by omega, b⟩
        · exact ⟨m, Nat.lt_succ_self m, h⟩
    obtain ⟨s, hs, hxs⟩ := hm n (Nat.le_refl n) hx
    have := h2 s (by omega) x hxs
    have := h2 n (by omega) x hy
    omega
theorem asc_bound {L : List Int} {n : Nat} (h : Asc L) (hi : InxL L n) : L.length ≤ n := by
  have key : ∀ k, k < L.length → (k : Int) ≤ L.getD k 0 := by
    intro k
    induction k with
    | zero => intro h0; exact (hi _ (mem_getD h0)).1
    | succ k ih =>
      intro hk
      have h1 := ih (by omega)
      have h2 := asc_getD h (show k < k + 1 by omega) hk
      omega
  by_cases h0 : L.length = 0
  · omega
  · have h1 := key (L.length - 1) (by omega)
    have h2 := (hi _ (mem_getD (show L.length - 1 < L.length by omega))).2
    omega
theorem nodup_bound {L : List Int} {n : Nat} (h : L.Nodup) (hi : InxL L n) : L.length ≤ n := by
  have := asc_bound (asc_srt h) fun x hx => hi x (mem_srt.1 hx)
  rwa [srt_len] at this
section
variable {P np nc way : Nat} {pk : Nat → Nat → Int}
theorem tvl_list {k j : Nat} (hj : j < 3) : toI (tvl P np way k j) (tln P np way k j) = if j = 2 then [] else sideI P np way (2 * k + j) := by
  unfold tvl tln
  by_cases h : j = 2
  · rw [if_pos h, if_pos h, if_pos h]; rfl
  · rw [if_neg h, if_neg h, if_neg h]; exact sideI_toI
theorem way_check (hnp : np ≤ 7) (hnc : nc ≤ 2) (hp : packsOk np pk = true) : checkV np pk nc (tln P np way) (tvl P np way) = 0 := by
  have hT : ∀ s, T0 (tln P np way) (tvl P np way) s = if s % 3 = 2 then [] else sideI P np way (2 * (s / 3) + s % 3) := fun s => tvl_list (Nat.mod_lt _ (by omega))
  have hnd : (flatT (T0 (tln P np way) (tvl P np way)) (3 * nc)).Nodup := by
    refine nodup_flat (fun x => 3 * ((digO P np way x.toNat - 1) / 2) + (digO P np way x.toNat - 1) % 2) _ (fun s _ => ?_) (fun s _ x hx => ?_)
    · rw [hT]
      split
      · exact List.nodup_nil
      · exact asc_nodup sideI_asc
    · rw [hT] at hx
      split at hx
      · cases hx
      · have h9 := (sideI_mem hx).2.2
        rw [h9]
        omega
  have hin : ∀ s, InxL (T0 (tln P np way) (tvl P np way) s) np := fun s x hx => by
    rw [hT] at hx
    split at hx
    · cases hx
    · exact ⟨(sideI_mem hx).1, (sideI_mem hx).2.1⟩
  unfold checkV
  rw [if_pos hp, if_pos]
  rw [ties_dup]
  unfold dupOk
  simp only [Bool.and_eq_true, decide_eq_true_eq, allB_iff]
  refine ⟨fun i hi => ?_, by omega, by rw [← flatT_held]; exact hnd⟩
  unfold tieOk
  simp only [Bool.and_eq_true, decide_eq_true_eq, allB_iff]
  have t0 := T0_at (l := tln P np way) (v := tvl P np way) (i := i) (k := 0) (by omega)
  have t1 := T0_at (l := tln P np way) (v := tvl P np way) (i := i) (k := 1) (by omega)
  have t2 := T0_at (l := tln P np way) (v := tvl P np way) (i := i) (k := 2) (by omega)
  refine ⟨fun j hj k hk => ?_, ?_⟩
  · refine allB_iff.1 (rise_asc.2 ?_) k hk
    have e := tvl_list (P := P) (np := np) (way := way) (k := i) hj
    have e2 := T0_at (l := tln P np way) (v := tvl P np way) (i := i) hj
    refine ⟨?_, by rw [← e2]; exact hin _⟩
    rw [e]
    split
    · exact List.Pairwise.nil
    · exact sideI_asc
  · have hsub : (T0 (tln P np way) (tvl P np way) (3 * i + 0) ++ T0 (tln P np way) (tvl P np way) (3 * i + 1) ++ T0 (tln P np way) (tvl P np way) (3 * i + 2)).Nodup := by
      have hsp : ∀ m, i < m → (flatT (T0 (tln P np way) (tvl P np way)) (3 * m)).Nodup → (T0 (tln P np way) (tvl P np way) (3 * i + 0) ++ T0 (tln P np way) (tvl P np way) (3 * i + 1) ++ T0 (tln P np way) (tvl P np way) (3 * i + 2)).Nodup := by
        intro m
        induction m with
        | zero => intro h; omega
        | succ m ih =>
          intro hm h
          rw [show 3 * (m + 1) = 3 * m + 3 from rfl] at h
          simp only [flatT] at h
          by_cases e : i = m
          · subst e
            rw [List.append_assoc, List.append_assoc] at h
            rw [List.append_assoc]
            exact (List.nodup_append.1 h).2.1
          · exact ih (by omega) (List.nodup_append.1 (List.nodup_append.1 (List.nodup_append.1 h).1).1).1
      exact hsp nc hi hnd
    have hb := nodup_bound hsub fun x hx => by
      rcases List.mem_append.1 hx with hx | hx
      · rcases List.mem_append.1 hx with hx | hx
        · exact hin _ x hx
        · exact hin _ x hx
      · exact hin _ x hx
    rw [List.length_append, List.length_append, t0, t1, t2, toI_len, toI_len, toI_len] at hb
    rw [tot3]
    omega
theorem way_check1 (hnp : np ≤ 7) (hp : packsOk np pk = true) {k : Nat} (hk : k < nc) (hnc : nc ≤ 2) : check1 np pk (tln P np way k) (tvl P np way k) = 0 := by
  have h := way_check (P := P) (nc := nc) (way := way) hnp hnc hp
  obtain ⟨h1, h2, h3, h4⟩ := trd_check h
  obtain ⟨_, h5, h6⟩ := check_ok h
  obtain ⟨h7, h8⟩ := h6 k hk
  refine check1_iff.2 ⟨hp, fun j hj => rise_asc.1 (h7 j hj), h8, ?_⟩
  have t0 := T0_at (l := tln P np way) (v := tvl P np way) (i := k) (k := 0) (by omega)
  have t1 := T0_at (l := tln P np way) (v := tvl P np way) (i := k) (k := 1) (by omega)
  have t2 := T0_at (l := tln P np way) (v := tvl P np way) (i := k) (k := 2) (by omega)
  rw [← t0, ← t1, ← t2]
  have hsp : ∀ m, k < m → (flatT (T0 (tln P np way) (tvl P np way)) (3 * m)).Nodup → (T0 (tln P np way) (tvl P np way) (3 * k + 0) ++ T0 (tln P np way) (tvl P np way) (3 * k + 1) ++ T0 (tln P np way) (tvl P np way) (3 * k + 2)).Nodup := by
    intro m
    induction m with
    | zero => intro h; omega
    | succ m ih =>
      intro hm h
      rw [show 3 * (m + 1) = 3 * m + 3 from rfl] at h
      simp only [flatT] at h
      by_cases e : k = m
      · subst e
        rw [List.append_assoc, List.append_assoc] at h
        rw [List.append_assoc]
        exact (List.nodup_append.1 h).2.1
      · exact ih (by omega) (List.nodup_append.1 (List.nodup_append.1 (List.nodup_append.1 h).1).1).1
  exact hsp nc hk h3
end
end Go.Proofs.YtljhdcclajikiaaGreatDoor
namespace Go.Proofs.YtljhdcclajikiaaGreatDoor
set_option linter.all false
set_option linter.unusedVariables false
set_option linter.unusedSimpArgs false
open Go.RowKit
section
variable {c : Cx} {Q : Exit → Act → World → Prop} {F : Fr} {K K' : List Fact} {d : Option Tmp} {ty : TypeId} {pos : String} {af : Array Edge} {g : Option (Nat × Bool)} {x y : Operand} {xt yt : TypeId}
end
def othP (i k : Nat) (S T : List Int) : Prop := Asc T ∧ (∀ x ∈ T, x ∈ S) ∧ ((T.length ≤ i ∧ ∀ x ∈ T, x < i) ∨ (T.length ≤ i + 1 ∧ (∀ x ∈ T, x < (i : Int) + 1) ∧ ∃ k', k' < k ∧ S.getD k' 0 = i))
theorem othP.start {S : List Int} : othP 0 0 S [] := ⟨List.Pairwise.nil, (fun _ h => by cases h), .inl ⟨Nat.le_refl _, fun _ h => by cases h⟩⟩
theorem othP.skip {i k : Nat} {S T : List Int} (h : othP i k S T) : othP i (k + 1) S T := by
  obtain ⟨h1, h2, h3 | ⟨h3, h4, k', h5, h6⟩⟩ := h
  · exact ⟨h1, h2, .inl h3⟩
  · exact ⟨h1, h2, .inr ⟨h3, h4, k', by omega, h6⟩⟩
theorem nodup_getD {S : List Int} (h : S.Nodup) {i j : Nat} (hi : i < S.length) (hj : j < S.length) (e : S.getD i 0 = S.getD j 0) : i = j := by
  have e1 : S.getD i 0 = S[i] := by simp [List.getD_eq_getElem?_getD, hi]
  have e2 : S.getD j 0 = S[j] := by simp [List.getD_eq_getElem?_getD, hj]
  rw [e1, e2] at e
  exact (List.getElem_inj h).1 e
theorem othP.take {i k : Nat} {S T : List Int} (h : othP i k S T) (hS : S.Nodup) (hk : k < S.length) (e : S.getD k 0 = i) : othP i (k + 1) S (T ++ [(i : Int)]) := by
  obtain ⟨h1, h2, h3 | ⟨h3, h4, k', h5, h6⟩⟩ := h
  · refine ⟨List.pairwise_append.2 ⟨h1, List.pairwise_singleton _ _, fun x hx y hy => ?_⟩, fun x hx => ?_, .inr ⟨by rw [List.length_append]; simp; omega, fun x hx => ?_, k, by omega, e⟩⟩
    · obtain rfl := List.mem_singleton.1 hy
      exact h3.2 x hx
    · rcases List.mem_append.1 hx with hx | hx
      · exact h2 x hx
      · obtain rfl := List.mem_singleton.1 hx
        rw [← e]; exact mem_getD hk
    · rcases List.mem_append.1 hx with hx | hx
      · have := h3.2 x hx; omega
      · obtain rfl := List.mem_singleton.1 hx
        omega
  · have := nodup_getD hS (by omega) hk (h6.trans e.symm)
    omega
theorem othP.len {i k : Nat} {S T : List Int} (h : othP i k S T) : T.length ≤ i + 1 := by
  obtain ⟨h1, h2, h3 | h3⟩ := h
  · omega
  · exact h3.1
end Go.Proofs.YtljhdcclajikiaaGreatDoor
namespace Go.Proofs.YtljhdcclajikiaaGreatDoor
set_option linter.all false
set_option linter.unusedVariables false
set_option linter.unusedSimpArgs false
open Go.RowKit
theorem lsts_get3 {l : Nat → Nat} {v : Nat → Nat → Int} {k : Nat} (h : k < tot l 3) : (lsts l v 3).getD k 0 = catI l v k := by
  rw [tot3] at h
  have e : lsts l v 3 = toI (v 0) (l 0) ++ toI (v 1) (l 1) ++ toI (v 2) (l 2) := by simp only [lsts, lst, List.nil_append]; rfl
  rw [e, getD_app, getD_app, List.length_append, toI_len, toI_len]
  unfold catI
  by_cases h1 : k < l 0 + l 1
  · rw [if_pos h1, if_pos h1]
    by_cases h2 : k < l 0
    · rw [if_pos h2, if_pos h2, toI_get h2]
    · rw [if_neg h2, if_neg h2, toI_get (by omega)]
  · rw [if_neg h1, if_neg h1, toI_get (by omega)]
section
variable {np m nP : Nat} {pk : Nat → Nat → Int} {l : Nat → Nat → Nat} {v : Nat → Nat → Nat → Int} {F : List Int} {P : Nat → Nat → Int}
end
end Go.Proofs.YtljhdcclajikiaaGreatDoor
namespace Go.Proofs.YtljhdcclajikiaaGreatDoor
set_option linter.all false
set_option linter.unusedVariables false
set_option linter.unusedSimpArgs false
open Go.RowKit
theorem sumF_plus {f g : Nat → Int} : ∀ n, sumF (fun s => f s + g s) n = sumF f n + sumF g n
  | 0 => rfl
  | n + 1 => by simp only [sumF, sumF_plus n]; omega
theorem sumF_same {f g : Nat → Int} : ∀ n, (∀ k, k < n → f k = g k) → sumF f n = sumF g n
  | 0, _ => rfl
  | n + 1, h => by simp only [sumF]; rw [sumF_same n fun k hk => h k (by omega), h n (by omega)]
theorem sumF_one {d : Nat} {c : Int} : ∀ n, sumF (fun s => if d = s + 1 then c else 0) n = if 0 < d ∧ d ≤ n then c else 0
  | 0 => by simp only [sumF]; rw [if_neg (by omega)]
  | n + 1 => by
    simp only [sumF, sumF_one n]
    by_cases h : d = n + 1
    · rw [if_neg (by omega), if_pos h, if_pos (by omega)]; omega
    · rw [if_neg h]
      by_cases h2 : 0 < d ∧ d ≤ n
      · rw [if_pos h2, if_pos (by omega)]; omega
      · rw [if_neg h2, if_neg (by omega)]; omega
def sideW (wv : Nat → Int) (P i w s : Nat) : Int := ((side P i w s).map wv).sum
theorem sides_sum {nc : Nat} {wv : Nat → Int} : ∀ i w, sumF (sideW wv (2 * nc + 1) i w) (2 * nc) = wsum (2 * nc + 1) wv i w
  | 0, w => by
    have h : ∀ n, sumF (sideW wv (2 * nc + 1) 0 w) n = 0 := fun n => by
      induction n with
      | zero => rfl
      | succ n ih => simp only [sumF, ih]; rfl
    rw [h]; rfl
  | i + 1, w => by
    have e : ∀ s, sideW wv (2 * nc + 1) (i + 1) w s = sideW wv (2 * nc + 1) i (w / (2 * nc + 1)) s + (if w % (2 * nc + 1) = s + 1 then wv i else 0) := fun s => by
      unfold sideW
      simp only [side, List.map_append, List.sum_append]
      congr 1
      split
      · simp
      · rfl
    rw [sumF_same _ fun k _ => e k, sumF_plus, sides_sum i, sumF_one]
    simp only [wsum]
    have hm := Nat.mod_lt w (show 0 < 2 * nc + 1 by omega)
    by_cases h : w % (2 * nc + 1) = 0
    · rw [if_neg (by omega), if_pos h]
    · rw [if_pos (by omega), if_neg h]
def rightS (wv : Nat → Int) (P np way : Nat) : Nat → Int
  | 0 => 0
  | k + 1 => rightS wv P np way k + wS wv (catI (tln P np way k) (tvl P np way k)) (tot (tln P np way k) 3)
theorem way_lsts {P np way k : Nat} : lsts (tln P np way k) (tvl P np way k) 3 = sideI P np way (2 * k) ++ sideI P np way (2 * k + 1) := by
  have e : lsts (tln P np way k) (tvl P np way k) 3 = toI (tvl P np way k 0) (tln P np way k 0) ++ toI (tvl P np way k 1) (tln P np way k 1) ++ toI (tvl P np way k 2) (tln P np way k 2) := by simp only [lsts, lst, List.nil_append]; rfl
  rw [e, tvl_list (by omega), tvl_list (by omega), tvl_list (by omega)]
  simp
theorem sideI_sum {wv : Nat → Int} {P i w s : Nat} : ((sideI P i w s).map fun x => wv x.toNat).sum = sideW wv P i w s := by
  unfold sideI sideW
  rw [List.map_map]
  congr 1
theorem way_wS {wv : Nat → Int} {P np way k : Nat} : wS wv (catI (tln P np way k) (tvl P np way k)) (tot (tln P np way k) 3) = sideW wv P np way (2 * k) + sideW wv P np way (2 * k + 1) := by
  have h := wS_toI (r := wv) (L := lsts (tln P np way k) (tvl P np way k) 3)
  rw [lsts_length] at h
  have e : wS wv (catI (tln P np way k) (tvl P np way k)) (tot (tln P np way k) 3) = wS wv (fun q => (lsts (tln P np way k) (tvl P np way k) 3).getD q 0) (tot (tln P np way k) 3) := sumF_same _ fun q hq => by
    show wv (catI _ _ q).toNat = wv ((lsts _ _ 3).getD q 0).toNat
    rw [lsts_get3 hq]
  rw [e, h, way_lsts, List.map_append, List.sum_append, sideI_sum, sideI_sum]
theorem rightS_all {wv : Nat → Int} {nc np way : Nat} : rightS wv (2 * nc + 1) np way nc = wsum (2 * nc + 1) wv np way := by
  rw [← sides_sum]
  have key : ∀ k, rightS wv (2 * nc + 1) np way k = sumF (sideW wv (2 * nc + 1) np way) (2 * k) := by
    intro k
    induction k with
    | zero => rfl
    | succ k ih =>
      rw [show 2 * (k + 1) = 2 * k + 1 + 1 from rfl]
      simp only [rightS, sumF, ih, way_wS]
      omega
  exact key nc
theorem side_pad {P i w s : Nat} (hP : 0 < P) : ∀ m, side P (i + m) (w * P ^ m) s = side P i w s
  | 0 => by simp
  | m + 1 => by
    have h := side_child (P := P) (i := i + m) (w := w * P ^ m) (q := 0) (s := s) hP
    rw [Nat.add_zero, if_neg (by omega), List.append_nil, side_pad hP m] at h
    rw [Nat.pow_succ, ← Nat.mul_assoc]
    exact h
theorem wS_bd {wv : Nat → Int} {v : Nat → Int} {np : Nat} (hw : ∀ k, k < np → 0 ≤ wv k ∧ wv k ≤ 1000000000000) : ∀ n, Inx v n np → 0 ≤ wS wv v n ∧ wS wv v n ≤ n * 1000000000000
  | 0, _ => by simp [wS, sumF]
  | n + 1, h => by
    have h1 := wS_bd hw n fun k hk => h k (by omega)
    have h2 := h n (by omega)
    have h3 := hw (v n).toNat (by omega)
    have e : wS wv v (n + 1) = wS wv v n + wv (v n).toNat := rfl
    rw [e]
    omega
end Go.Proofs.YtljhdcclajikiaaGreatDoor
