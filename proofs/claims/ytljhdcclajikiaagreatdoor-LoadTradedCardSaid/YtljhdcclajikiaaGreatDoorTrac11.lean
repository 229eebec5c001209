/-
  Part 11 of the proof of loadTraded_holds: declarations of several texts, in build order. No condition on a program.
-/
import Derived.Test.YtljhdcclajikiaaGreatDoorTrac10
import Derived.Test.YtljhdcclajikiaaGreatDoorTrac06
import Derived.Test.YtljhdcclajikiaaGreatDoorTrac03
import Derived.Test.YtljhdcclajikiaaGreatDoorTrac07
import Derived.Test.YtljhdcclajikiaaGreatDoorTrac09
namespace Go.Proofs.YtljhdcclajikiaaGreatDoor
set_option linter.all false
set_option linter.unusedVariables false
set_option linter.unusedSimpArgs false
open Go.RowKit
set_option maxRecDepth 100000 in
theorem eStow2 : sln 3 4 (stowB 4 balP 1 (fun _ => 80) (fun k => (k : Int) + 1) 15).way 0 = 1 ∧ sln 3 4 (stowB 4 balP 1 (fun _ => 80) (fun k => (k : Int) + 1) 15).way 1 = 1 ∧ svl 3 4 (stowB 4 balP 1 (fun _ => 80) (fun k => (k : Int) + 1) 15).way 0 0 = 2 ∧ svl 3 4 (stowB 4 balP 1 (fun _ => 80) (fun k => (k : Int) + 1) 15).way 1 0 = 3 := by decide +kernel
theorem CallsK.to {P : Program} {f : FuncId} {args : Array Value} {M : List Fact} {w : World} {X : Type} {val val2 : X → Value} {L L2 : X → List Fact} (h : CallsK P f args M w X val L) (hv : ∀ x, val x = val2 x) (hL : ∀ x, KSub (L x) (L2 x)) : CallsK P f args M w X val2 L2 :=
  h.mono fun _ _ ⟨x, e, hs⟩ => ⟨x, by rw [e, hv], hs.sub (hL x)⟩
theorem restSalt (w : World) (hG : None0 w) : Calls Tryz.prog 14 #[.agg (packL (sltP 150)).toArray] w (Ret w (.tuple #[.agg #[.int .i64 36000, .int .i64 41000], .agg #[.int .i64 0, .int .i64 4100], .int .u8 1, .int .i64 0])) := by
  have h := rest_any (sltP 150) w hG
  rw [eSalt] at h
  exact h
theorem restWater (w : World) (hG : None0 w) : Calls Tryz.prog 14 #[.agg (packL (watP 55)).toArray] w (Ret w (.tuple #[.agg #[.int .i64 0, .int .i64 2500], .agg #[.int .i64 27500, .int .i64 30000], .int .u8 0, .int .i64 0])) := by
  have h := rest_any (watP 55) w hG
  rw [eWater] at h
  exact h
theorem balEx {w : World} {A A0 A1 : Option Addr} {cp c0 c1 : Nat} (hG : None0 w) (hR : RdR w 11 A 4 (fun k => packL (balP k))) (h0 : RdR w 1 A0 2 (iL [0, 1])) (h1 : RdR w 1 A1 1 (iL [3])) :
    Calls Tryz.prog 9 #[.slice A 4 cp, .agg #[.slice A0 2 c0, .slice A1 1 c1, .slice none 0 0], .int .i64 15] w (Ret w (.tuple #[.int .u8 2, .int .i64 0])) := by
  have h := loadBalance_any (cp := cp) (c := prC c0 c1) (b := 15) (lay_pair (L0 := [0, 1]) (L1 := [3]) hG hR h0 h1 (by decide))
  rw [eBal.1, eBal.2] at h
  exact h
theorem setEx {w : World} {A A0 : Option Addr} {cp c0 : Nat} (hG : None0 w) (hR : RdR w 11 A 4 (fun k => packL (balP k))) (h0 : RdR w 1 A0 4 (iL [0, 1, 2, 3])) :
    CallsK Tryz.prog 19 #[.slice A 4 cp, .agg #[.slice A0 4 c0, .slice none 0 0, .slice none 0 0], .int .i64 5] [] w (Option Addr × Nat) (fun y => .tuple #[.slice y.1 2 y.2, .int .i64 0]) (fun y => [.own y.1 2 y.2 3 1 (iL [0, 3])]) := by
  have h := loadSettle_any (cp := cp) (c := prC c0 0) (b := 5) (lay_pair (L0 := [0, 1, 2, 3]) (L1 := []) (A1 := none) hG hR h0 ⟨Rd.nil, fun i hi => rfl⟩ (by decide))
  rw [eSet.1, eSet.2] at h
  exact h
theorem readyEx {w : World} {A A0 A1 : Option Addr} {cp c0 c1 : Nat} (hG : None0 w) (hR : RdR w 11 A 4 (fun k => packL (balP k))) (h0 : RdR w 1 A0 2 (iL [0, 1])) (h1 : RdR w 1 A1 1 (iL [2])) :
    Calls Tryz.prog 21 #[.agg (breedL strB).toArray, .agg (camL strC false).toArray, .slice A 4 cp, .agg #[.slice A0 2 c0, .slice A1 1 c1, .slice none 0 0], .int .i64 0] w (Ret w (.tuple #[.int .u8 2, .int .i64 0])) := by
  have h := loadReady_any (cp := cp) (c := prC c0 c1) (b := 0) (f := strB) (g := strC) (m := false) (lay_pair (L0 := [0, 1]) (L1 := [2]) hG hR h0 h1 (by decide))
  rw [eReady.1, eReady.2] at h
  exact h
theorem lays_pair {w : World} {A A2 A0 A1 : Option Addr} {c0 c1 : Nat} {L0 L1 : List Int} (hG : None0 w) (hR : RdR w 11 A 4 (fun k => packL (balP k))) (hT : RdR w 3 A2 1 (fun _ => tieL (prA A0 A1) (prL' L0 L1) (prC c0 c1))) (h0 : RdR w 1 A0 L0.length (iL L0)) (h1 : RdR w 1 A1 L1.length (iL L1)) (hl : L0.length + L1.length ≤ 1000) :
    Lay w A A2 4 1 balP (fun _ => prA A0 A1) (fun _ => prL' L0 L1) (fun _ => prC c0 c1) (fun _ => prV L0 L1) :=
  have h := lay_pair hG hR h0 h1 hl
  ⟨hG, by decide, by decide, hR, hT, fun _ _ => h.hI, fun _ _ => h.hL⟩
set_option maxRecDepth 100000 in
theorem tradeEx {w : World} {A A2 Af AP A0 A1 : Option Addr} {cp cT cf cP c0 c1 : Nat} (hG : None0 w) (hR : RdR w 11 A 4 (fun k => packL (balP k))) (hT : RdR w 3 A2 1 (fun _ => tieL (prA A0 A1) (prL' [0, 1] [2]) (prC c0 c1))) (h0 : RdR w 1 A0 2 (iL [0, 1])) (h1 : RdR w 1 A1 1 (iL [2]))
    (hF : RdR w 1 Af 1 (iL [1])) (hP : RdR w 3 AP 1 (fun _ => putL (onP 0))) :
    CallsK Tryz.prog 8 #[.slice A 4 cp, .slice A2 1 cT, .slice Af 1 cf, .slice AP 1 cP, .int .i64 5] [] w TRx (fun z => .tuple #[.slice z.1.1.1 1 z.1.1.2, .slice z.2.1 1 z.2.2, .int .i64 0])
      (fun z => [.own z.2.1 1 z.2.2 3 1 (iL [0]), .own z.1.1.1 1 z.1.1.2 34 3 (fun _ => tieL z.1.2.1 (prL' [3] [0, 2]) z.1.2.2), .own (z.1.2.1 1) 2 (z.1.2.2 1) 3 1 (iL [0, 2]), .own (z.1.2.1 0) 1 (z.1.2.2 0) 3 1 (iL [3])]) := by
  have h := loadTrade_any (cp := cp) (cT := cT) (nf := 1) (cf := cf) (cP := cP) (F := [1]) (P := fun _ => onP 0) (b := 5) (lays_pair (L0 := [0, 1]) (L1 := [2]) hG hR hT h0 h1 (by decide)) hF rfl (by decide) hP (by decide) (by decide)
  have hN : tradeN 4 balP 1 (fun _ => prL' [0, 1] [2]) (fun _ => prV [0, 1] [2]) [1] (fun _ => onP 0) 1 5 = 1 := by unfold tradeN; rw [if_pos eTrade.1]
  rw [eTrade.1, eTrade.2, hN] at h
  refine h.to (fun _ => rfl) fun z => ?_
  refine KSub.cons Pick.hd ?_
  refine KSub.own Pick.hd (fun i hi => ?_) ?_
  · obtain rfl : i = 0 := by omega
    unfold tieX
    show [Value.slice (z.1.2.1 0) (tradeT balP 1 _ _ [1] _ 1 5 0).length (z.1.2.2 0), .slice (z.1.2.1 1) (tradeT balP 1 _ _ [1] _ 1 5 1).length (z.1.2.2 1), .slice (z.1.2.1 2) (tradeT balP 1 _ _ [1] _ 1 5 2).length (z.1.2.2 2)] = _
    rw [eTrade2.1, eTrade2.2.1, eTrade2.2.2]
    rfl
  show KSub [Fact.own (z.1.2.1 2) (tradeT balP 1 _ _ [1] _ 1 5 2).length (z.1.2.2 2) 3 1 (iL (tradeT balP 1 _ _ [1] _ 1 5 2)), .own (z.1.2.1 1) (tradeT balP 1 _ _ [1] _ 1 5 1).length (z.1.2.2 1) 3 1 (iL (tradeT balP 1 _ _ [1] _ 1 5 1)), .own (z.1.2.1 0) (tradeT balP 1 _ _ [1] _ 1 5 0).length (z.1.2.2 0) 3 1 (iL (tradeT balP 1 _ _ [1] _ 1 5 0))] _
  rw [eTrade2.1, eTrade2.2.1, eTrade2.2.2]
  exact KSub.drop (KSub.refl _)
set_option maxRecDepth 100000 in
theorem stowEx {w : World} {A Ac Av : Option Addr} {cp cc cv : Nat} (hG : None0 w) (hR : RdR w 11 A 4 (fun k => packL (balP k))) (hC : RdR w 1 Ac 1 (fun _ => [.int .i64 80])) (hV : RdR w 1 Av 4 (fun k => [.int .i64 ((k : Int) + 1)])) :
    CallsK Tryz.prog 10 #[.slice A 4 cp, .slice Ac 1 cc, .slice Av 4 cv, .int .i64 15] [] w TX (fun x => .tuple #[.slice x.1.1 1 x.1.2, .int .i64 7, .int .i64 0])
      (fun x => [.own x.1.1 1 x.1.2 34 3 (fun _ => tieL (prA (x.2.1 0) (x.2.1 1)) (prL' [2] [3]) (prC (x.2.2 0) (x.2.2 1))), .own (x.2.1 1) 1 (x.2.2 1) 3 1 (iL [3]), .own (x.2.1 0) 1 (x.2.2 0) 3 1 (iL [2])]) := by
  have h := loadStow_any (cp := cp) (cc := cc) (cv := cv) (cans := fun _ => 80) (wv := fun k => (k : Int) + 1) (b := 15) hG (by decide) (by decide) (by decide) hR hC hV
  rw [eStow.1, eStow.2.1, eStow.2.2] at h
  refine h.to (fun _ => rfl) fun x => ?_
  refine KSub.own Pick.hd (fun i hi => ?_) ?_
  · obtain rfl : i = 0 := by omega
    show [Value.slice (x.2.1 0) (sln 3 4 _ 0) (x.2.2 0), .slice (x.2.1 1) (sln 3 4 _ 1) (x.2.2 1), .slice none 0 0] = _
    rw [eStow2.1, eStow2.2.1]
    rfl
  show KSub [Fact.own (x.2.1 1) (sln 3 4 _ 1) (x.2.2 1) 3 1 (fun k => [.int .i64 (svl 3 4 _ 1 k)]), .own (x.2.1 0) (sln 3 4 _ 0) (x.2.2 0) 3 1 (fun k => [.int .i64 (svl 3 4 _ 0 k)])] _
  rw [eStow2.1, eStow2.2.1]
  refine KSub.own Pick.hd (fun i hi => ?_) (KSub.own Pick.hd (fun i hi => ?_) KSub.nil)
  · obtain rfl : i = 0 := by omega
    exact congrArg (fun z => [Value.int .i64 z]) eStow2.2.2.2
  · obtain rfl : i = 0 := by omega
    exact congrArg (fun z => [Value.int .i64 z]) eStow2.2.2.1
theorem sameEx {w : World} {A B : Option Addr} {cA cB : Nat} {a b : Nat → Option Addr} {c d : Nat → Nat} {L0 L1 : List Int} (hl : L0.length + L1.length ≤ 1000) (hA : RdR w 3 A 1 (fun _ => tieL a (prL' L0 L1) c)) (hB : RdR w 3 B 1 (fun _ => tieL b (prL' L0 L1) d))
    (h0 : RdR w 1 (a 0) L0.length (iL L0)) (h1 : RdR w 1 (a 1) L1.length (iL L1)) (k0 : RdR w 1 (b 0) L0.length (iL L0)) (k1 : RdR w 1 (b 1) L1.length (iL L1)) : Calls Tryz.prog 24 #[.slice A 1 cA, .slice B 1 cB] w (Ret w (.bool true)) :=
  sameTies_any (a := fun _ => a) (b := fun _ => b) (l := fun _ => prL' L0 L1) (c := fun _ => c) (d := fun _ => d) (v := fun _ => prV L0 L1) (by decide) (fun i hi => by rw [tot3]; show L0.length + L1.length + 0 ≤ 1000; omega) hA hB
    (fun i hi j hj => by
      have : j = 0 ∨ j = 1 ∨ j = 2 := by omega
      rcases this with rfl | rfl | rfl
      · exact h0
      · exact h1
      · exact ⟨Rd.nil, fun i hi => by cases hi⟩)
    (fun i hi j hj => by
      have : j = 0 ∨ j = 1 ∨ j = 2 := by omega
      rcases this with rfl | rfl | rfl
      · exact k0
      · exact k1
      · exact ⟨Rd.nil, fun i hi => by cases hi⟩)
theorem sameEx2 {w : World} {A B0 B1 : Option Addr} {b cA cB c0 c1 : Nat} {T : TypeId} {a : Nat → Option Addr} {c : Nat → Nat} {L0 L1 : List Int} (hl : L0.length + L1.length ≤ 1000) (hA : RdR w 3 A 1 (fun _ => tieL a (prL' L0 L1) c)) (hB : Blk w b T #[.slice B0 L0.length c0, .slice B1 L1.length c1, .slice none 0 0])
    (h0 : RdR w 1 (a 0) L0.length (iL L0)) (h1 : RdR w 1 (a 1) L1.length (iL L1)) (k0 : RdR w 1 B0 L0.length (iL L0)) (k1 : RdR w 1 B1 L1.length (iL L1)) : Calls Tryz.prog 24 #[.slice A 1 cA, .slice (some ⟨b, 0, none⟩) 1 cB] w (Ret w (.bool true)) :=
  sameEx (b := prA B0 B1) (d := prC c0 c1) hl hA (RdR.blk (cs := [_, _, _]) hB rfl (fun _ _ => rfl)) h0 h1 k0 k1
theorem sameIEx {w : World} {A B : Option Addr} {n cA cB : Nat} {L : List Int} (hn : L.length ≤ 1000) (hk : n = L.length) (hA : RdR w 1 A n (iL L)) (hB : RdR w 1 B n (iL L)) : Calls Tryz.prog 23 #[.slice A n cA, .slice B n cB] w (Ret w (.bool true)) := by
  have h := sameInts_any (c1 := cA) (c2 := cB) (v1 := fun k => L.getD k 0) (v2 := fun k => L.getD k 0) (by omega) hA hB
  rw [sameI_self] at h
  exact h
end Go.Proofs.YtljhdcclajikiaaGreatDoor
namespace Go.Proofs.YtljhdcclajikiaaGreatDoor
set_option linter.all false
set_option linter.unusedVariables false
set_option linter.unusedSimpArgs false
open Go.RowKit
set_option maxRecDepth 100000 in
set_option maxHeartbeats 4000000 in
theorem alive_any (w : World) (hG : None0 w) : Calls Tryz.prog 5 #[] w (Ret w (.bool true)) := by
  refine K_enter (S := []) (K := []) Tryz.func5 rfl Tryz.ntmps5 rfl (Sat.start _) ?_
  refine TW.seq fun Y1 hY1 => ?_
  refine TW.region ?_
  refine TL.p Pu.as ?_
  refine TL.nil ?_
  refine TQ.thenN (hY1 _ _ ?_)
  refine TW.seq fun Y2 hY2 => ?_
  refine TW.region ?_
  refine TL.cr rfl (enters Tryz.func15 rfl rfl) (fun w hw => by
      exact salt_any _ _) ?_
  refine TL.cr rfl (enters Tryz.func14 rfl rfl) (fun w hw => by
      exact restSalt _ (hG.sat hw (by simp))) ?_
  refine TL.p Pu.mv ?_
  refine TL.p Pu.ex ?_
  refine TL.p Pu.ex ?_
  refine TL.p Pu.ex ?_
  refine TL.p Pu.ex ?_
  refine TL.m (Mk.al ty_zr47) ?_
  intro b1
  refine TL.m (Mk.al ty_zr47) ?_
  intro b2
  first | refine TL.st ty_sz47 ?_ | refine TL.se ty_sz47 ?_
  first | refine TL.st ty_sz47 ?_ | refine TL.se ty_sz47 ?_
  refine TL.p Pu.as ?_
  refine TL.p Pu.as ?_
  refine TL.nil ?_
  refine TQ.thenN (hY2 _ _ ?_)
  refine TW.seq fun Y3 hY3 => ?_
  refine TW.region ?_
  refine TL.cr rfl (enters Tryz.func16 rfl rfl) (fun w hw => by
      exact water_any _ _) ?_
  refine TL.cr rfl (enters Tryz.func14 rfl rfl) (fun w hw => by
      exact restWater _ (hG.sat hw (by simp))) ?_
  refine TL.p Pu.mv ?_
  refine TL.p Pu.ex ?_
  refine TL.p Pu.ex ?_
  refine TL.p Pu.ex ?_
  refine TL.p Pu.ex ?_
  refine TL.m (Mk.al ty_zr47) ?_
  intro b3
  refine TL.m (Mk.al ty_zr47) ?_
  intro b4
  first | refine TL.st ty_sz47 ?_ | refine TL.se ty_sz47 ?_
  first | refine TL.st ty_sz47 ?_ | refine TL.se ty_sz47 ?_
  refine TL.p Pu.as ?_
  refine TL.p Pu.as ?_
  refine TL.nil ?_
  refine TQ.thenN (hY3 _ _ ?_)
  refine TW.seq fun Y4 hY4 => ?_
  refine TW.region ?_
  refine TL.call (M := []) rfl (enters Tryz.func17 rfl rfl) (List.Perm.refl _) rfl (fun w hw => by
      exact bales_any _) ?_
  rintro ⟨B1, e1⟩
  refine TL.m Mk.bl ?_
  intro b5
  refine TL.m Mk.bl ?_
  intro b6
  refine TL.cr rfl (enters Tryz.func18 rfl rfl) (fun w hw => by
      exact pair_any _ _ _ _ _ _ _) ?_
  refine TL.cr rfl (enters Tryz.func9 rfl rfl) (fun w hw => by
      exact balEx (hG.sat hw (by simp)) (OwnR.rdr (hw.holds (.own B1 4 e1 58 11 (fun k => packL (balP k))) (by simp))) (RdR.blk (hw.holds (.blk b5 3 [.int .i64 0, .int .i64 1]) (by simp)) rfl (fun _ _ => rfl)) (RdR.blk (hw.holds (.blk b6 3 [.int .i64 3]) (by simp)) rfl (fun _ _ => rfl))) ?_
  refine TL.p Pu.mv ?_
  refine TL.p Pu.ex ?_
  refine TL.p Pu.ex ?_
  refine TL.p Pu.as ?_
  refine TL.p Pu.as ?_
  refine TL.nil ?_
  refine TQ.thenN (hY4 _ _ ?_)
  refine TW.seq fun Y5 hY5 => ?_
  refine TW.region ?_
  refine TL.call (M := []) rfl (enters Tryz.func17 rfl rfl) (List.Perm.refl _) rfl (fun w hw => by
      exact bales_any _) ?_
  rintro ⟨B1, e1⟩
  refine TL.m Mk.bl ?_
  intro b7
  refine TL.cr rfl (enters Tryz.func18 rfl rfl) (fun w hw => by
      exact pair_any _ _ _ _ _ _ _) ?_
  refine TL.call (M := []) rfl (enters Tryz.func19 rfl rfl) (List.Perm.refl _) rfl (fun w hw => by
      exact setEx (hG.sat hw (by simp)) (OwnR.rdr (hw.holds (.own B1 4 e1 58 11 (fun k => packL (balP k))) (by simp))) (RdR.blk (hw.holds (.blk b7 3 [.int .i64 0, .int .i64 1, .int .i64 2, .int .i64 3]) (by simp)) rfl (fun _ _ => rfl))) ?_
  rintro ⟨Q1, q1⟩
  refine TL.p Pu.mv ?_
  refine TL.p Pu.ex ?_
  refine TL.p Pu.ex ?_
  refine TL.p Pu.as ?_
  refine TL.p Pu.as ?_
  refine TL.nil ?_
  refine TQ.thenN (hY5 _ _ ?_)
  refine TW.seq fun Y6 hY6 => ?_
  refine TW.region ?_
  refine TL.call (M := []) rfl (enters Tryz.func17 rfl rfl) (List.Perm.refl _) rfl (fun w hw => by
      exact bales_any _) ?_
  rintro ⟨B1, e1⟩
  refine TL.m Mk.bl ?_
  intro b8
  refine TL.m Mk.bl ?_
  intro b9
  refine TL.cr rfl (enters Tryz.func18 rfl rfl) (fun w hw => by
      exact pair_any _ _ _ _ _ _ _) ?_
  refine TL.m Mk.bl ?_
  intro b10
  refine TL.m Mk.bl ?_
  intro b11
  refine TL.p Pu.bd ?_
  refine TL.m Mk.bl ?_
  intro b12
  refine TL.call (M := []) rfl (enters Tryz.func8 rfl rfl) (List.Perm.refl _) rfl (fun w hw => by
      exact tradeEx (hG.sat hw (by simp)) (OwnR.rdr (hw.holds (.own B1 4 e1 58 11 (fun k => packL (balP k))) (by simp))) (RdR.blk (hw.holds (.blk b10 34 [.slice (some ⟨b8, 0, none⟩) 2 2, .slice (some ⟨b9, 0, none⟩) 1 1, .slice none 0 0]) (by simp)) rfl (fun _ _ => rfl)) (RdR.blk (hw.holds (.blk b8 3 [.int .i64 0, .int .i64 1]) (by simp)) rfl (fun _ _ => rfl)) (RdR.blk (hw.holds (.blk b9 3 [.int .i64 2]) (by simp)) rfl (fun _ _ => rfl)) (RdR.blk (hw.holds (.blk b11 3 [.int .i64 1]) (by simp)) rfl (fun _ _ => rfl)) (RdR.blk (hw.holds (.blk b12 37 [.int .i64 3, .int .i64 0, .int .u8 0]) (by simp)) rfl (fun _ _ => rfl))) ?_
  rintro ⟨⟨⟨An, cn⟩, X, D⟩, ⟨Am, cm⟩⟩
  refine TL.p Pu.mv ?_
  refine TL.p Pu.ex ?_
  refine TL.p Pu.ex ?_
  refine TL.p Pu.ex ?_
  refine TL.p Pu.as ?_
  refine TL.p Pu.as ?_
  refine TL.p Pu.as ?_
  refine TL.nil ?_
  refine TQ.thenN (hY6 _ _ ?_)
  refine TW.seq fun Y7 hY7 => ?_
  refine TW.region ?_
  refine TL.call (M := []) rfl (enters Tryz.func17 rfl rfl) (List.Perm.refl _) rfl (fun w hw => by
      exact bales_any _) ?_
  rintro ⟨B1, e1⟩
  refine TL.m Mk.bl ?_
  intro b13
  refine TL.m Mk.bl ?_
  intro b14
  refine TL.call (M := []) rfl (enters Tryz.func10 rfl rfl) (List.Perm.refl _) rfl (fun w hw => by
      exact stowEx (hG.sat hw (by simp)) (OwnR.rdr (hw.holds (.own B1 4 e1 58 11 (fun k => packL (balP k))) (by simp))) (RdR.blk (hw.holds (.blk b13 3 [.int .i64 80]) (by simp)) rfl (fun _ _ => rfl)) (RdR.blk (hw.holds (.blk b14 3 [.int .i64 1, .int .i64 2, .int .i64 3, .int .i64 4]) (by simp)) rfl (fun _ _ => rfl))) ?_
  rintro ⟨⟨Sn, sn⟩, Y, E⟩
  refine TL.p Pu.mv ?_
  refine TL.p Pu.ex ?_
  refine TL.p Pu.ex ?_
  refine TL.p Pu.ex ?_
  refine TL.p Pu.as ?_
  refine TL.p Pu.as ?_
  refine TL.p Pu.as ?_
  refine TL.nil ?_
  refine TQ.thenN (hY7 _ _ ?_)
  refine TW.seq fun Y8 hY8 => ?_
  refine TW.region ?_
  refine TL.cr rfl (enters Tryz.func20 rfl rfl) (fun w hw => by
      exact strong_any _) ?_
  refine TL.p Pu.mv ?_
  refine TL.p Pu.ex ?_
  refine TL.p Pu.ex ?_
  refine TL.m (Mk.al ty_zr65) ?_
  intro b15
  refine TL.m (Mk.al ty_zr67) ?_
  intro b16
  first | refine TL.st ty_sz65 ?_ | refine TL.se ty_sz65 ?_
  first | refine TL.st ty_sz67 ?_ | refine TL.se ty_sz67 ?_
  refine TL.nil ?_
  refine TQ.thenN (hY8 _ _ ?_)
  refine TW.seq fun Y9 hY9 => ?_
  as_aux_lemma =>
    refine TW.expl (fun (e1 : Nat) => ([(22, .int .i64 0), (21, .int .u8 2), (18, .int .i64 0), (17, .int .i64 7), (16, .slice Sn 1 sn), (15, .int .i64 0), (14, .slice Am 1 cm), (13, .slice An 1 cn), (12, .int .i64 0), (11, .slice Q1 2 q1), (10, .int .i64 0), (9, .int .u8 2), (8, .int .i64 0), (6, .pointer (some ⟨b4, 0, none⟩)), (5, .pointer (some ⟨b3, 0, none⟩)), (4, .int .i64 0), (3, .int .u8 1), (2, .pointer (some ⟨b2, 0, none⟩)), (1, .pointer (some ⟨b1, 0, none⟩))] : Fr)) (fun (e1 : Nat) => [.blk b1 47 [.int .i64 36000, .int .i64 41000], .blk b2 47 [.int .i64 0, .int .i64 4100], .blk b3 47 [.int .i64 0, .int .i64 2500], .blk b4 47 [.int .i64 27500, .int .i64 30000], .own Q1 2 q1 3 1 (iL [0, 3]), .own Am 1 cm 3 1 (iL [0]), .own An 1 cn 34 3 (fun _ => tieL X (prL' [3] [0, 2]) D), .own (X 1) 2 (D 1) 3 1 (iL [0, 2]), .own (X 0) 1 (D 0) 3 1 (iL [3]), .own Sn 1 sn 34 3 (fun _ => tieL (prA (Y 0) (Y 1)) (prL' [2] [3]) (prC (E 0) (E 1))), .own (Y 1) 1 (E 1) 3 1 (iL [3]), .own (Y 0) 1 (E 0) 3 1 (iL [2])]) Drop.done ?_ (fun hE => ?_)
    · rintro e1
      refine TQ.thenN (hY9 _ _ ?_)
      refine TW.seq fun Y10 hY10 => ?_
      as_aux_lemma =>
        refine TW.ex0 Drop.done ?_
        refine RG.tk 0 rfl Pu.mv ?_
        refine RG.tk 1 rfl Pu.eq ?_
        refine RG.a1 2 rfl (fun X2 hX2 => ?_)
        refine TL.p Pu.mv ?_
        refine TL.lit (t := 89) (b' := true) rfl ((by decide)) ?_
        refine TL.nil ?_
        refine TQ.nxt (hX2 _ _ (by repeat (first | exact HasL.nil | refine HasL.cons (by repeat (first | exact Pick.hd | apply Pick.tl)) ?_)) ?_)
        refine RG.tk 3 rfl (Pu.lds ty_ag47) ?_
        refine RG.a1 4 rfl (fun X4 hX4 => ?_)
        refine TL.cr rfl (enters Tryz.func22 rfl rfl) (fun w hw => by
            exact span_any _ _ _) ?_
        refine TL.nil ?_
        refine TQ.nxt (hX4 _ _ (by repeat (first | exact HasL.nil | refine HasL.cons (by repeat (first | exact Pick.hd | apply Pick.tl)) ?_)) ?_)
        refine RG.tk 5 rfl (Pu.q2 ty_q2_47) ?_
        refine RG.tk 6 rfl Pu.kt ?_
        refine RG.a1 7 rfl (fun X7 hX7 => ?_)
        refine TL.p Pu.mv ?_
        refine TL.lit (t := 94) (b' := true) rfl ((by decide)) ?_
        refine TL.nil ?_
        refine TQ.nxt (hX7 _ _ (by repeat (first | exact HasL.nil | refine HasL.cons (by repeat (first | exact Pick.hd | apply Pick.tl)) ?_)) ?_)
        refine RG.tk 8 rfl (Pu.lds ty_ag47) ?_
        refine RG.a1 9 rfl (fun X9 hX9 => ?_)
        refine TL.cr rfl (enters Tryz.func22 rfl rfl) (fun w hw => by
            exact span_any _ _ _) ?_
        refine TL.nil ?_
        refine TQ.nxt (hX9 _ _ (by repeat (first | exact HasL.nil | refine HasL.cons (by repeat (first | exact Pick.hd | apply Pick.tl)) ?_)) ?_)
        refine RG.tk 10 rfl (Pu.q2 ty_q2_47) ?_
        refine RG.tk 11 rfl Pu.kt ?_
        refine RG.a1 12 rfl (fun X12 hX12 => ?_)
        refine TL.p Pu.mv ?_
        refine TL.lit (t := 99) (b' := true) rfl ((by decide)) ?_
        refine TL.nil ?_
        refine TQ.nxt (hX12 _ _ (by repeat (first | exact HasL.nil | refine HasL.cons (by repeat (first | exact Pick.hd | apply Pick.tl)) ?_)) ?_)
        refine RG.tk 13 rfl Pu.mv ?_
        refine RG.tk 14 rfl Pu.eq ?_
        refine RG.tk 15 rfl Pu.kt ?_
        refine RG.a1 16 rfl (fun X16 hX16 => ?_)
        refine TL.p Pu.mv ?_
        refine TL.lit (t := 103) (b' := true) rfl ((by decide)) ?_
        refine TL.nil ?_
        refine TQ.nxt (hX16 _ _ (by repeat (first | exact HasL.nil | refine HasL.cons (by repeat (first | exact Pick.hd | apply Pick.tl)) ?_)) ?_)
        refine RG.tk 17 rfl Pu.mv ?_
        refine RG.tk 18 rfl Pu.eq ?_
        refine RG.tk 19 rfl Pu.kt ?_
        refine RG.a1 20 rfl (fun X20 hX20 => ?_)
        refine TL.p Pu.mv ?_
        refine TL.lit (t := 107) (b' := true) rfl ((by decide)) ?_
        refine TL.nil ?_
        refine TQ.nxt (hX20 _ _ (by repeat (first | exact HasL.nil | refine HasL.cons (by repeat (first | exact Pick.hd | apply Pick.tl)) ?_)) ?_)
        refine RG.tk 21 rfl (Pu.lds ty_ag47) ?_
        refine RG.a1 22 rfl (fun X22 hX22 => ?_)
        refine TL.cr rfl (enters Tryz.func22 rfl rfl) (fun w hw => by
            exact span_any _ _ _) ?_
        refine TL.nil ?_
        refine TQ.nxt (hX22 _ _ (by repeat (first | exact HasL.nil | refine HasL.cons (by repeat (first | exact Pick.hd | apply Pick.tl)) ?_)) ?_)
        refine RG.tk 23 rfl (Pu.q2 ty_q2_47) ?_
        refine RG.tk 24 rfl Pu.kt ?_
        refine RG.a1 25 rfl (fun X25 hX25 => ?_)
        refine TL.p Pu.mv ?_
        refine TL.lit (t := 112) (b' := true) rfl ((by decide)) ?_
        refine TL.nil ?_
        refine TQ.nxt (hX25 _ _ (by repeat (first | exact HasL.nil | refine HasL.cons (by repeat (first | exact Pick.hd | apply Pick.tl)) ?_)) ?_)
        refine RG.tk 26 rfl (Pu.lds ty_ag47) ?_
        refine RG.a1 27 rfl (fun X27 hX27 => ?_)
        refine TL.cr rfl (enters Tryz.func22 rfl rfl) (fun w hw => by
            exact span_any _ _ _) ?_
        refine TL.nil ?_
        refine TQ.nxt (hX27 _ _ (by repeat (first | exact HasL.nil | refine HasL.cons (by repeat (first | exact Pick.hd | apply Pick.tl)) ?_)) ?_)
        refine RG.tk 28 rfl (Pu.q2 ty_q2_47) ?_
        refine RG.tk 29 rfl Pu.kt ?_
        refine RG.a1 30 rfl (fun X30 hX30 => ?_)
        refine TL.p Pu.mv ?_
        refine TL.lit (t := 117) (b' := true) rfl ((by decide)) ?_
        refine TL.nil ?_
        refine TQ.nxt (hX30 _ _ (by repeat (first | exact HasL.nil | refine HasL.cons (by repeat (first | exact Pick.hd | apply Pick.tl)) ?_)) ?_)
        refine RG.tk 31 rfl Pu.mv ?_
        refine RG.tk 32 rfl Pu.eq ?_
        refine RG.tk 33 rfl Pu.kt ?_
        refine RG.a1 34 rfl (fun X34 hX34 => ?_)
        refine TL.p Pu.mv ?_
        refine TL.lit (t := 121) (b' := true) rfl ((by decide)) ?_
        refine TL.nil ?_
        refine TQ.nxt (hX34 _ _ (by repeat (first | exact HasL.nil | refine HasL.cons (by repeat (first | exact Pick.hd | apply Pick.tl)) ?_)) ?_)
        refine RG.tk 35 rfl Pu.mv ?_
        refine RG.tk 36 rfl Pu.eq ?_
        refine RG.tk 37 rfl Pu.kt ?_
        refine RG.a1 38 rfl (fun X38 hX38 => ?_)
        refine TL.p Pu.mv ?_
        refine TL.lit (t := 125) (b' := true) rfl ((by decide)) ?_
        refine TL.nil ?_
        refine TQ.nxt (hX38 _ _ (by repeat (first | exact HasL.nil | refine HasL.cons (by repeat (first | exact Pick.hd | apply Pick.tl)) ?_)) ?_)
        refine RG.tk 39 rfl Pu.mv ?_
        refine RG.tk 40 rfl Pu.eq ?_
        refine RG.tk 41 rfl Pu.kt ?_
        refine RG.a1 42 rfl (fun X42 hX42 => ?_)
        refine TL.p Pu.mv ?_
        refine TL.lit (t := 129) (b' := true) rfl ((by decide)) ?_
        refine TL.nil ?_
        refine TQ.nxt (hX42 _ _ (by repeat (first | exact HasL.nil | refine HasL.cons (by repeat (first | exact Pick.hd | apply Pick.tl)) ?_)) ?_)
        refine RG.tk 43 rfl Pu.mv ?_
        refine RG.a1 44 rfl (fun X44 hX44 => ?_)
        refine TL.gm Mk.bl ?_
        intro b17
        refine TL.nil ?_
        refine TQ.nxt (hX44 _ _ (by repeat (first | exact HasL.nil | refine HasL.cons (by repeat (first | exact Pick.hd | apply Pick.tl)) ?_)) ?_)
        refine RG.a1 45 rfl (fun X45 hX45 => ?_)
        refine TL.cr rfl (enters Tryz.func23 rfl rfl) (fun w hw => by
            exact sameIEx (L := [0, 3]) (by decide) rfl (OwnR.rdr (hw.holds (.own Q1 2 q1 3 1 (iL [0, 3])) (by simp))) (RdR.blk (hw.holds (.blk _ 3 [.int .i64 0, .int .i64 3]) (by simp)) rfl (fun _ _ => rfl))) ?_
        refine TL.nil ?_
        refine TQ.nxt (hX45 _ _ (by repeat (first | exact HasL.nil | refine HasL.cons (by repeat (first | exact Pick.hd | apply Pick.tl)) ?_)) ?_)
        refine RG.tk 46 rfl Pu.kt ?_
        refine RG.a1 47 rfl (fun X47 hX47 => ?_)
        refine TL.p Pu.mv ?_
        refine TL.lit (t := 134) (b' := true) rfl ((by decide)) ?_
        refine TL.nil ?_
        refine TQ.nxt (hX47 _ _ (by repeat (first | exact HasL.nil | refine HasL.cons (by repeat (first | exact Pick.hd | apply Pick.tl)) ?_)) ?_)
        refine RG.tk 48 rfl Pu.mv ?_
        refine RG.tk 49 rfl Pu.eq ?_
        refine RG.tk 50 rfl Pu.kt ?_
        refine RG.a1 51 rfl (fun X51 hX51 => ?_)
        refine TL.p Pu.mv ?_
        refine TL.lit (t := 138) (b' := true) rfl ((by decide)) ?_
        refine TL.nil ?_
        refine TQ.nxt (hX51 _ _ (by repeat (first | exact HasL.nil | refine HasL.cons (by repeat (first | exact Pick.hd | apply Pick.tl)) ?_)) ?_)
        refine RG.tk 52 rfl Pu.mv ?_
        refine RG.a2 53 54 rfl rfl (fun X53 hX53 => ?_) (fun X54 hX54 => ?_)
        · as_aux_lemma =>
            refine TL.gm Mk.bl ?_
            intro b18
            refine TL.nil ?_
            refine TQ.nxt (hX53 _ _ (by repeat (first | exact HasL.nil | refine HasL.cons (by repeat (first | exact Pick.hd | apply Pick.tl)) ?_)) ?_)
            refine RG.a1 54 rfl (fun X54 hX54 => ?_)
            refine TL.gm Mk.bl ?_
            intro b19
            refine TL.nil ?_
            refine TQ.nxt (hX54 _ _ (by repeat (first | exact HasL.nil | refine HasL.cons (by repeat (first | exact Pick.hd | apply Pick.tl)) ?_)) ?_)
            refine RG.a1 55 rfl (fun X55 hX55 => ?_)
            refine TL.cr rfl (enters Tryz.func18 rfl rfl) (fun w hw => by
                exact pair_any _ _ _ _ _ _ _) ?_
            refine TL.nil ?_
            refine TQ.nxt (hX55 _ _ (by repeat (first | exact HasL.nil | refine HasL.cons (by repeat (first | exact Pick.hd | apply Pick.tl)) ?_)) ?_)
            refine RG.a1 56 rfl (fun X56 hX56 => ?_)
            refine TL.gm Mk.bl ?_
            intro b20
            refine TL.nil ?_
            refine TQ.nxt (hX56 _ _ (by repeat (first | exact HasL.nil | refine HasL.cons (by repeat (first | exact Pick.hd | apply Pick.tl)) ?_)) ?_)
            refine RG.a1 57 rfl (fun X57 hX57 => ?_)
            refine TL.cr rfl (enters Tryz.func24 rfl rfl) (fun w hw => by
                exact sameEx2 (a := X) (c := D) (L0 := [3]) (L1 := [0, 2]) (by decide) (OwnR.rdr (hw.holds (.own An 1 cn 34 3 (fun _ => tieL X (prL' [3] [0, 2]) D)) (by simp))) (hw.holds _ (List.mem_cons_self ..)) (OwnR.rdr (hw.holds (.own (X 0) 1 (D 0) 3 1 (iL [3])) (by simp))) (OwnR.rdr (hw.holds (.own (X 1) 2 (D 1) 3 1 (iL [0, 2])) (by simp))) (RdR.blk (hw.holds (.blk _ 3 [.int .i64 3]) (by simp)) rfl (fun _ _ => rfl)) (RdR.blk (hw.holds (.blk _ 3 [.int .i64 0, .int .i64 2]) (by simp)) rfl (fun _ _ => rfl))) ?_
            refine TL.nil ?_
            refine TQ.nxt (hX57 _ _ (by repeat (first | exact HasL.nil | refine HasL.cons (by repeat (first | exact Pick.hd | apply Pick.tl)) ?_)) ?_)
            refine RG.tk 58 rfl Pu.kt ?_
            refine RG.a1 59 rfl (fun X59 hX59 => ?_)
            refine TL.p Pu.mv ?_
            refine TL.lit (t := 146) (b' := true) rfl ((by decide)) ?_
            refine TL.nil ?_
            refine TQ.nxt (hX59 _ _ (by repeat (first | exact HasL.nil | refine HasL.cons (by repeat (first | exact Pick.hd | apply Pick.tl)) ?_)) ?_)
            refine RG.tk 60 rfl Pu.mv ?_
            refine RG.a1 61 rfl (fun X61 hX61 => ?_)
            refine TL.gm Mk.bl ?_
            intro b21
            refine TL.nil ?_
            refine TQ.nxt (hX61 _ _ (by repeat (first | exact HasL.nil | refine HasL.cons (by repeat (first | exact Pick.hd | apply Pick.tl)) ?_)) ?_)
            refine RG.a1 62 rfl (fun X62 hX62 => ?_)
            refine TL.cr rfl (enters Tryz.func23 rfl rfl) (fun w hw => by
                exact sameIEx (L := [0]) (by decide) rfl (OwnR.rdr (hw.holds (.own Am 1 cm 3 1 (iL [0])) (by simp))) (RdR.blk (hw.holds (.blk _ 3 [.int .i64 0]) (by simp)) rfl (fun _ _ => rfl))) ?_
            refine TL.nil ?_
            refine TQ.nxt (hX62 _ _ (by repeat (first | exact HasL.nil | refine HasL.cons (by repeat (first | exact Pick.hd | apply Pick.tl)) ?_)) ?_)
            refine RG.tk 63 rfl Pu.kt ?_
            refine RG.a1 64 rfl (fun X64 hX64 => ?_)
            refine TL.p Pu.mv ?_
            refine TL.lit (t := 151) (b' := true) rfl ((by decide)) ?_
            refine TL.nil ?_
            refine TQ.nxt (hX64 _ _ (by repeat (first | exact HasL.nil | refine HasL.cons (by repeat (first | exact Pick.hd | apply Pick.tl)) ?_)) ?_)
            refine RG.tk 65 rfl Pu.mv ?_
            refine RG.tk 66 rfl Pu.eq ?_
            refine RG.tk 67 rfl Pu.kt ?_
            refine RG.a1 68 rfl (fun X68 hX68 => ?_)
            refine TL.p Pu.mv ?_
            refine TL.lit (t := 155) (b' := true) rfl ((by decide)) ?_
            refine TL.nil ?_
            refine TQ.nxt (hX68 _ _ (by repeat (first | exact HasL.nil | refine HasL.cons (by repeat (first | exact Pick.hd | apply Pick.tl)) ?_)) ?_)
            refine RG.tk 69 rfl Pu.mv ?_
            refine RG.tk 70 rfl Pu.eq ?_
            refine RG.tk 71 rfl Pu.kt ?_
            refine RG.a1 72 rfl (fun X72 hX72 => ?_)
            refine TL.p Pu.mv ?_
            refine TL.lit (t := 159) (b' := true) rfl ((by decide)) ?_
            refine TL.nil ?_
            refine TQ.nxt (hX72 _ _ (by repeat (first | exact HasL.nil | refine HasL.cons (by repeat (first | exact Pick.hd | apply Pick.tl)) ?_)) ?_)
            refine RG.tk 73 rfl Pu.mv ?_
            refine RG.a2 74 75 rfl rfl (fun X74 hX74 => ?_) (fun X75 hX75 => ?_)
            · as_aux_lemma =>
                refine TL.gm Mk.bl ?_
                intro b22
                refine TL.nil ?_
                refine TQ.nxt (hX74 _ _ (by repeat (first | exact HasL.nil | refine HasL.cons (by repeat (first | exact Pick.hd | apply Pick.tl)) ?_)) ?_)
                refine RG.a1 75 rfl (fun X75 hX75 => ?_)
                refine TL.gm Mk.bl ?_
                intro b23
                refine TL.nil ?_
                refine TQ.nxt (hX75 _ _ (by repeat (first | exact HasL.nil | refine HasL.cons (by repeat (first | exact Pick.hd | apply Pick.tl)) ?_)) ?_)
                refine RG.a1 76 rfl (fun X76 hX76 => ?_)
                refine TL.cr rfl (enters Tryz.func18 rfl rfl) (fun w hw => by
                    exact pair_any _ _ _ _ _ _ _) ?_
                refine TL.nil ?_
                refine TQ.nxt (hX76 _ _ (by repeat (first | exact HasL.nil | refine HasL.cons (by repeat (first | exact Pick.hd | apply Pick.tl)) ?_)) ?_)
                refine RG.a1 77 rfl (fun X77 hX77 => ?_)
                refine TL.gm Mk.bl ?_
                intro b24
                refine TL.nil ?_
                refine TQ.nxt (hX77 _ _ (by repeat (first | exact HasL.nil | refine HasL.cons (by repeat (first | exact Pick.hd | apply Pick.tl)) ?_)) ?_)
                refine RG.a1 78 rfl (fun X78 hX78 => ?_)
                refine TL.cr rfl (enters Tryz.func24 rfl rfl) (fun w hw => by
                    exact sameEx2 (a := prA (Y 0) (Y 1)) (c := prC (E 0) (E 1)) (L0 := [2]) (L1 := [3]) (by decide) (OwnR.rdr (hw.holds (.own Sn 1 sn 34 3 (fun _ => tieL (prA (Y 0) (Y 1)) (prL' [2] [3]) (prC (E 0) (E 1)))) (by simp))) (hw.holds _ (List.mem_cons_self ..)) (OwnR.rdr (hw.holds (.own (Y 0) 1 (E 0) 3 1 (iL [2])) (by simp))) (OwnR.rdr (hw.holds (.own (Y 1) 1 (E 1) 3 1 (iL [3])) (by simp))) (RdR.blk (hw.holds (.blk _ 3 [.int .i64 2]) (by simp)) rfl (fun _ _ => rfl)) (RdR.blk (hw.holds (.blk _ 3 [.int .i64 3]) (by simp)) rfl (fun _ _ => rfl))) ?_
                refine TL.nil ?_
                refine TQ.nxt (hX78 _ _ (by repeat (first | exact HasL.nil | refine HasL.cons (by repeat (first | exact Pick.hd | apply Pick.tl)) ?_)) ?_)
                refine RG.tk 79 rfl Pu.kt ?_
                refine RG.a1 80 rfl (fun X80 hX80 => ?_)
                refine TL.p Pu.mv ?_
                refine TL.lit (t := 167) (b' := true) rfl ((by decide)) ?_
                refine TL.nil ?_
                refine TQ.nxt (hX80 _ _ (by repeat (first | exact HasL.nil | refine HasL.cons (by repeat (first | exact Pick.hd | apply Pick.tl)) ?_)) ?_)
                refine RG.tk 81 rfl Pu.mv ?_
                refine RG.tk 82 rfl Pu.eq ?_
                refine RG.tk 83 rfl Pu.kt ?_
                refine RG.a1 84 rfl (fun X84 hX84 => ?_)
                refine TL.p Pu.mv ?_
                refine TL.lit (t := 171) (b' := true) rfl ((by decide)) ?_
                refine TL.nil ?_
                refine TQ.nxt (hX84 _ _ (by repeat (first | exact HasL.nil | refine HasL.cons (by repeat (first | exact Pick.hd | apply Pick.tl)) ?_)) ?_)
                refine RG.tk 85 rfl Pu.mv ?_
                refine RG.tk 86 rfl Pu.eq ?_
                refine RG.tk 87 rfl Pu.kt ?_
                refine RG.tk 88 rfl Pu.as ?_
                refine RG.nil ?_ (by kernel_rfl)
                refine TQ.thenN (hY10 _ _ ?_)
                refine TW.ret ?_
                refine TQ.ret Tryz.results5 rfl ((.tmp rfl .nil)) ?_
                exact fun w hw => Ret.of hw
            · as_aux_lemma =>
                refine TL.gm Mk.bl ?_
                intro b25
                refine TL.nil ?_
                refine TQ.nxt (hX75 _ _ (by repeat (first | exact HasL.nil | refine HasL.cons (by repeat (first | exact Pick.hd | apply Pick.tl)) ?_)) ?_)
                refine RG.a1 74 rfl (fun X74 hX74 => ?_)
                refine TL.gm Mk.bl ?_
                intro b26
                refine TL.nil ?_
                refine TQ.nxt (hX74 _ _ (by repeat (first | exact HasL.nil | refine HasL.cons (by repeat (first | exact Pick.hd | apply Pick.tl)) ?_)) ?_)
                refine RG.a1 76 rfl (fun X76 hX76 => ?_)
                refine TL.cr rfl (enters Tryz.func18 rfl rfl) (fun w hw => by
                    exact pair_any _ _ _ _ _ _ _) ?_
                refine TL.nil ?_
                refine TQ.nxt (hX76 _ _ (by repeat (first | exact HasL.nil | refine HasL.cons (by repeat (first | exact Pick.hd | apply Pick.tl)) ?_)) ?_)
                refine RG.a1 77 rfl (fun X77 hX77 => ?_)
                refine TL.gm Mk.bl ?_
                intro b27
                refine TL.nil ?_
                refine TQ.nxt (hX77 _ _ (by repeat (first | exact HasL.nil | refine HasL.cons (by repeat (first | exact Pick.hd | apply Pick.tl)) ?_)) ?_)
                refine RG.a1 78 rfl (fun X78 hX78 => ?_)
                refine TL.cr rfl (enters Tryz.func24 rfl rfl) (fun w hw => by
                    exact sameEx2 (a := prA (Y 0) (Y 1)) (c := prC (E 0) (E 1)) (L0 := [2]) (L1 := [3]) (by decide) (OwnR.rdr (hw.holds (.own Sn 1 sn 34 3 (fun _ => tieL (prA (Y 0) (Y 1)) (prL' [2] [3]) (prC (E 0) (E 1)))) (by simp))) (hw.holds _ (List.mem_cons_self ..)) (OwnR.rdr (hw.holds (.own (Y 0) 1 (E 0) 3 1 (iL [2])) (by simp))) (OwnR.rdr (hw.holds (.own (Y 1) 1 (E 1) 3 1 (iL [3])) (by simp))) (RdR.blk (hw.holds (.blk _ 3 [.int .i64 2]) (by simp)) rfl (fun _ _ => rfl)) (RdR.blk (hw.holds (.blk _ 3 [.int .i64 3]) (by simp)) rfl (fun _ _ => rfl))) ?_
                refine TL.nil ?_
                refine TQ.nxt (hX78 _ _ (by repeat (first | exact HasL.nil | refine HasL.cons (by repeat (first | exact Pick.hd | apply Pick.tl)) ?_)) ?_)
                refine RG.tk 79 rfl Pu.kt ?_
                refine RG.a1 80 rfl (fun X80 hX80 => ?_)
                refine TL.p Pu.mv ?_
                refine TL.lit (t := 167) (b' := true) rfl ((by decide)) ?_
                refine TL.nil ?_
                refine TQ.nxt (hX80 _ _ (by repeat (first | exact HasL.nil | refine HasL.cons (by repeat (first | exact Pick.hd | apply Pick.tl)) ?_)) ?_)
                refine RG.tk 81 rfl Pu.mv ?_
                refine RG.tk 82 rfl Pu.eq ?_
                refine RG.tk 83 rfl Pu.kt ?_
                refine RG.a1 84 rfl (fun X84 hX84 => ?_)
                refine TL.p Pu.mv ?_
                refine TL.lit (t := 171) (b' := true) rfl ((by decide)) ?_
                refine TL.nil ?_
                refine TQ.nxt (hX84 _ _ (by repeat (first | exact HasL.nil | refine HasL.cons (by repeat (first | exact Pick.hd | apply Pick.tl)) ?_)) ?_)
                refine RG.tk 85 rfl Pu.mv ?_
                refine RG.tk 86 rfl Pu.eq ?_
                refine RG.tk 87 rfl Pu.kt ?_
                refine RG.tk 88 rfl Pu.as ?_
                refine RG.nil ?_ (by kernel_rfl)
                refine TQ.thenN (hY10 _ _ ?_)
                refine TW.ret ?_
                refine TQ.ret Tryz.results5 rfl ((.tmp rfl .nil)) ?_
                exact fun w hw => Ret.of hw
        · as_aux_lemma =>
            refine TL.gm Mk.bl ?_
            intro b28
            refine TL.nil ?_
            refine TQ.nxt (hX54 _ _ (by repeat (first | exact HasL.nil | refine HasL.cons (by repeat (first | exact Pick.hd | apply Pick.tl)) ?_)) ?_)
            refine RG.a1 53 rfl (fun X53 hX53 => ?_)
            refine TL.gm Mk.bl ?_
            intro b29
            refine TL.nil ?_
            refine TQ.nxt (hX53 _ _ (by repeat (first | exact HasL.nil | refine HasL.cons (by repeat (first | exact Pick.hd | apply Pick.tl)) ?_)) ?_)
            refine RG.a1 55 rfl (fun X55 hX55 => ?_)
            refine TL.cr rfl (enters Tryz.func18 rfl rfl) (fun w hw => by
                exact pair_any _ _ _ _ _ _ _) ?_
            refine TL.nil ?_
            refine TQ.nxt (hX55 _ _ (by repeat (first | exact HasL.nil | refine HasL.cons (by repeat (first | exact Pick.hd | apply Pick.tl)) ?_)) ?_)
            refine RG.a1 56 rfl (fun X56 hX56 => ?_)
            refine TL.gm Mk.bl ?_
            intro b30
            refine TL.nil ?_
            refine TQ.nxt (hX56 _ _ (by repeat (first | exact HasL.nil | refine HasL.cons (by repeat (first | exact Pick.hd | apply Pick.tl)) ?_)) ?_)
            refine RG.a1 57 rfl (fun X57 hX57 => ?_)
            refine TL.cr rfl (enters Tryz.func24 rfl rfl) (fun w hw => by
                exact sameEx2 (a := X) (c := D) (L0 := [3]) (L1 := [0, 2]) (by decide) (OwnR.rdr (hw.holds (.own An 1 cn 34 3 (fun _ => tieL X (prL' [3] [0, 2]) D)) (by simp))) (hw.holds _ (List.mem_cons_self ..)) (OwnR.rdr (hw.holds (.own (X 0) 1 (D 0) 3 1 (iL [3])) (by simp))) (OwnR.rdr (hw.holds (.own (X 1) 2 (D 1) 3 1 (iL [0, 2])) (by simp))) (RdR.blk (hw.holds (.blk _ 3 [.int .i64 3]) (by simp)) rfl (fun _ _ => rfl)) (RdR.blk (hw.holds (.blk _ 3 [.int .i64 0, .int .i64 2]) (by simp)) rfl (fun _ _ => rfl))) ?_
            refine TL.nil ?_
            refine TQ.nxt (hX57 _ _ (by repeat (first | exact HasL.nil | refine HasL.cons (by repeat (first | exact Pick.hd | apply Pick.tl)) ?_)) ?_)
            refine RG.tk 58 rfl Pu.kt ?_
            refine RG.a1 59 rfl (fun X59 hX59 => ?_)
            refine TL.p Pu.mv ?_
            refine TL.lit (t := 146) (b' := true) rfl ((by decide)) ?_
            refine TL.nil ?_
            refine TQ.nxt (hX59 _ _ (by repeat (first | exact HasL.nil | refine HasL.cons (by repeat (first | exact Pick.hd | apply Pick.tl)) ?_)) ?_)
            refine RG.tk 60 rfl Pu.mv ?_
            refine RG.a1 61 rfl (fun X61 hX61 => ?_)
            refine TL.gm Mk.bl ?_
            intro b31
            refine TL.nil ?_
            refine TQ.nxt (hX61 _ _ (by repeat (first | exact HasL.nil | refine HasL.cons (by repeat (first | exact Pick.hd | apply Pick.tl)) ?_)) ?_)
            refine RG.a1 62 rfl (fun X62 hX62 => ?_)
            refine TL.cr rfl (enters Tryz.func23 rfl rfl) (fun w hw => by
                exact sameIEx (L := [0]) (by decide) rfl (OwnR.rdr (hw.holds (.own Am 1 cm 3 1 (iL [0])) (by simp))) (RdR.blk (hw.holds (.blk _ 3 [.int .i64 0]) (by simp)) rfl (fun _ _ => rfl))) ?_
            refine TL.nil ?_
            refine TQ.nxt (hX62 _ _ (by repeat (first | exact HasL.nil | refine HasL.cons (by repeat (first | exact Pick.hd | apply Pick.tl)) ?_)) ?_)
            refine RG.tk 63 rfl Pu.kt ?_
            refine RG.a1 64 rfl (fun X64 hX64 => ?_)
            refine TL.p Pu.mv ?_
            refine TL.lit (t := 151) (b' := true) rfl ((by decide)) ?_
            refine TL.nil ?_
            refine TQ.nxt (hX64 _ _ (by repeat (first | exact HasL.nil | refine HasL.cons (by repeat (first | exact Pick.hd | apply Pick.tl)) ?_)) ?_)
            refine RG.tk 65 rfl Pu.mv ?_
            refine RG.tk 66 rfl Pu.eq ?_
            refine RG.tk 67 rfl Pu.kt ?_
            refine RG.a1 68 rfl (fun X68 hX68 => ?_)
            refine TL.p Pu.mv ?_
            refine TL.lit (t := 155) (b' := true) rfl ((by decide)) ?_
            refine TL.nil ?_
            refine TQ.nxt (hX68 _ _ (by repeat (first | exact HasL.nil | refine HasL.cons (by repeat (first | exact Pick.hd | apply Pick.tl)) ?_)) ?_)
            refine RG.tk 69 rfl Pu.mv ?_
            refine RG.tk 70 rfl Pu.eq ?_
            refine RG.tk 71 rfl Pu.kt ?_
            refine RG.a1 72 rfl (fun X72 hX72 => ?_)
            refine TL.p Pu.mv ?_
            refine TL.lit (t := 159) (b' := true) rfl ((by decide)) ?_
            refine TL.nil ?_
            refine TQ.nxt (hX72 _ _ (by repeat (first | exact HasL.nil | refine HasL.cons (by repeat (first | exact Pick.hd | apply Pick.tl)) ?_)) ?_)
            refine RG.tk 73 rfl Pu.mv ?_
            refine RG.a2 74 75 rfl rfl (fun X74 hX74 => ?_) (fun X75 hX75 => ?_)
            · as_aux_lemma =>
                refine TL.gm Mk.bl ?_
                intro b32
                refine TL.nil ?_
                refine TQ.nxt (hX74 _ _ (by repeat (first | exact HasL.nil | refine HasL.cons (by repeat (first | exact Pick.hd | apply Pick.tl)) ?_)) ?_)
                refine RG.a1 75 rfl (fun X75 hX75 => ?_)
                refine TL.gm Mk.bl ?_
                intro b33
                refine TL.nil ?_
                refine TQ.nxt (hX75 _ _ (by repeat (first | exact HasL.nil | refine HasL.cons (by repeat (first | exact Pick.hd | apply Pick.tl)) ?_)) ?_)
                refine RG.a1 76 rfl (fun X76 hX76 => ?_)
                refine TL.cr rfl (enters Tryz.func18 rfl rfl) (fun w hw => by
                    exact pair_any _ _ _ _ _ _ _) ?_
                refine TL.nil ?_
                refine TQ.nxt (hX76 _ _ (by repeat (first | exact HasL.nil | refine HasL.cons (by repeat (first | exact Pick.hd | apply Pick.tl)) ?_)) ?_)
                refine RG.a1 77 rfl (fun X77 hX77 => ?_)
                refine TL.gm Mk.bl ?_
                intro b34
                refine TL.nil ?_
                refine TQ.nxt (hX77 _ _ (by repeat (first | exact HasL.nil | refine HasL.cons (by repeat (first | exact Pick.hd | apply Pick.tl)) ?_)) ?_)
                refine RG.a1 78 rfl (fun X78 hX78 => ?_)
                refine TL.cr rfl (enters Tryz.func24 rfl rfl) (fun w hw => by
                    exact sameEx2 (a := prA (Y 0) (Y 1)) (c := prC (E 0) (E 1)) (L0 := [2]) (L1 := [3]) (by decide) (OwnR.rdr (hw.holds (.own Sn 1 sn 34 3 (fun _ => tieL (prA (Y 0) (Y 1)) (prL' [2] [3]) (prC (E 0) (E 1)))) (by simp))) (hw.holds _ (List.mem_cons_self ..)) (OwnR.rdr (hw.holds (.own (Y 0) 1 (E 0) 3 1 (iL [2])) (by simp))) (OwnR.rdr (hw.holds (.own (Y 1) 1 (E 1) 3 1 (iL [3])) (by simp))) (RdR.blk (hw.holds (.blk _ 3 [.int .i64 2]) (by simp)) rfl (fun _ _ => rfl)) (RdR.blk (hw.holds (.blk _ 3 [.int .i64 3]) (by simp)) rfl (fun _ _ => rfl))) ?_
                refine TL.nil ?_
                refine TQ.nxt (hX78 _ _ (by repeat (first | exact HasL.nil | refine HasL.cons (by repeat (first | exact Pick.hd | apply Pick.tl)) ?_)) ?_)
                refine RG.tk 79 rfl Pu.kt ?_
                refine RG.a1 80 rfl (fun X80 hX80 => ?_)
                refine TL.p Pu.mv ?_
                refine TL.lit (t := 167) (b' := true) rfl ((by decide)) ?_
                refine TL.nil ?_
                refine TQ.nxt (hX80 _ _ (by repeat (first | exact HasL.nil | refine HasL.cons (by repeat (first | exact Pick.hd | apply Pick.tl)) ?_)) ?_)
                refine RG.tk 81 rfl Pu.mv ?_
                refine RG.tk 82 rfl Pu.eq ?_
                refine RG.tk 83 rfl Pu.kt ?_
                refine RG.a1 84 rfl (fun X84 hX84 => ?_)
                refine TL.p Pu.mv ?_
                refine TL.lit (t := 171) (b' := true) rfl ((by decide)) ?_
                refine TL.nil ?_
                refine TQ.nxt (hX84 _ _ (by repeat (first | exact HasL.nil | refine HasL.cons (by repeat (first | exact Pick.hd | apply Pick.tl)) ?_)) ?_)
                refine RG.tk 85 rfl Pu.mv ?_
                refine RG.tk 86 rfl Pu.eq ?_
                refine RG.tk 87 rfl Pu.kt ?_
                refine RG.tk 88 rfl Pu.as ?_
                refine RG.nil ?_ (by kernel_rfl)
                refine TQ.thenN (hY10 _ _ ?_)
                refine TW.ret ?_
                refine TQ.ret Tryz.results5 rfl ((.tmp rfl .nil)) ?_
                exact fun w hw => Ret.of hw
            · as_aux_lemma =>
                refine TL.gm Mk.bl ?_
                intro b35
                refine TL.nil ?_
                refine TQ.nxt (hX75 _ _ (by repeat (first | exact HasL.nil | refine HasL.cons (by repeat (first | exact Pick.hd | apply Pick.tl)) ?_)) ?_)
                refine RG.a1 74 rfl (fun X74 hX74 => ?_)
                refine TL.gm Mk.bl ?_
                intro b36
                refine TL.nil ?_
                refine TQ.nxt (hX74 _ _ (by repeat (first | exact HasL.nil | refine HasL.cons (by repeat (first | exact Pick.hd | apply Pick.tl)) ?_)) ?_)
                refine RG.a1 76 rfl (fun X76 hX76 => ?_)
                refine TL.cr rfl (enters Tryz.func18 rfl rfl) (fun w hw => by
                    exact pair_any _ _ _ _ _ _ _) ?_
                refine TL.nil ?_
                refine TQ.nxt (hX76 _ _ (by repeat (first | exact HasL.nil | refine HasL.cons (by repeat (first | exact Pick.hd | apply Pick.tl)) ?_)) ?_)
                refine RG.a1 77 rfl (fun X77 hX77 => ?_)
                refine TL.gm Mk.bl ?_
                intro b37
                refine TL.nil ?_
                refine TQ.nxt (hX77 _ _ (by repeat (first | exact HasL.nil | refine HasL.cons (by repeat (first | exact Pick.hd | apply Pick.tl)) ?_)) ?_)
                refine RG.a1 78 rfl (fun X78 hX78 => ?_)
                refine TL.cr rfl (enters Tryz.func24 rfl rfl) (fun w hw => by
                    exact sameEx2 (a := prA (Y 0) (Y 1)) (c := prC (E 0) (E 1)) (L0 := [2]) (L1 := [3]) (by decide) (OwnR.rdr (hw.holds (.own Sn 1 sn 34 3 (fun _ => tieL (prA (Y 0) (Y 1)) (prL' [2] [3]) (prC (E 0) (E 1)))) (by simp))) (hw.holds _ (List.mem_cons_self ..)) (OwnR.rdr (hw.holds (.own (Y 0) 1 (E 0) 3 1 (iL [2])) (by simp))) (OwnR.rdr (hw.holds (.own (Y 1) 1 (E 1) 3 1 (iL [3])) (by simp))) (RdR.blk (hw.holds (.blk _ 3 [.int .i64 2]) (by simp)) rfl (fun _ _ => rfl)) (RdR.blk (hw.holds (.blk _ 3 [.int .i64 3]) (by simp)) rfl (fun _ _ => rfl))) ?_
                refine TL.nil ?_
                refine TQ.nxt (hX78 _ _ (by repeat (first | exact HasL.nil | refine HasL.cons (by repeat (first | exact Pick.hd | apply Pick.tl)) ?_)) ?_)
                refine RG.tk 79 rfl Pu.kt ?_
                refine RG.a1 80 rfl (fun X80 hX80 => ?_)
                refine TL.p Pu.mv ?_
                refine TL.lit (t := 167) (b' := true) rfl ((by decide)) ?_
                refine TL.nil ?_
                refine TQ.nxt (hX80 _ _ (by repeat (first | exact HasL.nil | refine HasL.cons (by repeat (first | exact Pick.hd | apply Pick.tl)) ?_)) ?_)
                refine RG.tk 81 rfl Pu.mv ?_
                refine RG.tk 82 rfl Pu.eq ?_
                refine RG.tk 83 rfl Pu.kt ?_
                refine RG.a1 84 rfl (fun X84 hX84 => ?_)
                refine TL.p Pu.mv ?_
                refine TL.lit (t := 171) (b' := true) rfl ((by decide)) ?_
                refine TL.nil ?_
                refine TQ.nxt (hX84 _ _ (by repeat (first | exact HasL.nil | refine HasL.cons (by repeat (first | exact Pick.hd | apply Pick.tl)) ?_)) ?_)
                refine RG.tk 85 rfl Pu.mv ?_
                refine RG.tk 86 rfl Pu.eq ?_
                refine RG.tk 87 rfl Pu.kt ?_
                refine RG.tk 88 rfl Pu.as ?_
                refine RG.nil ?_ (by kernel_rfl)
                refine TQ.thenN (hY10 _ _ ?_)
                refine TW.ret ?_
                refine TQ.ret Tryz.results5 rfl ((.tmp rfl .nil)) ?_
                exact fun w hw => Ret.of hw
    refine RG.tk 0 rfl (Pu.lds ty_ag65) ?_
    refine RG.tk 1 rfl (Pu.lds ty_ag67) ?_
    refine RG.a3 2 3 4 rfl rfl rfl (fun X2 hX2 => ?_) (fun X3 hX3 => ?_) (fun X4 hX4 => ?_)
    · as_aux_lemma =>
        refine TL.call (M := []) rfl (enters Tryz.func17 rfl rfl) (List.Perm.refl _) rfl (fun w hw => by
            exact bales_any _) ?_
        rintro ⟨B1, e1⟩
        refine TL.nil ?_
        refine TQ.nxt (hX2 _ _ (by repeat (first | exact HasL.nil | refine HasL.cons (by repeat (first | exact Pick.hd | apply Pick.tl)) ?_)) ?_)
        refine RG.a2 3 4 rfl rfl (fun X3 hX3 => ?_) (fun X4 hX4 => ?_)
        · as_aux_lemma =>
            refine TL.m Mk.bl ?_
            intro x3
            refine TL.nil ?_
            refine TQ.nxt (hX3 _ _ (by repeat (first | exact HasL.nil | refine HasL.cons (by repeat (first | exact Pick.hd | apply Pick.tl)) ?_)) ?_)
            refine RG.a1 4 rfl (fun X4 hX4 => ?_)
            refine TL.m Mk.bl ?_
            intro x4
            refine TL.nil ?_
            refine TQ.nxt (hX4 _ _ (by repeat (first | exact HasL.nil | refine HasL.cons (by repeat (first | exact Pick.hd | apply Pick.tl)) ?_)) ?_)
            refine RG.a1 5 rfl (fun X5 hX5 => ?_)
            refine TL.cr rfl (enters Tryz.func18 rfl rfl) (fun w hw => by
                exact pair_any _ _ _ _ _ _ _) ?_
            refine TL.nil ?_
            refine TQ.nxt (hX5 _ _ (by repeat (first | exact HasL.nil | refine HasL.cons (by repeat (first | exact Pick.hd | apply Pick.tl)) ?_)) ?_)
            refine RG.a1 6 rfl (fun X6 hX6 => ?_)
            refine TL.cr rfl (enters Tryz.func21 rfl rfl) (fun w hw => by
                exact readyEx (hG.sat hw (by simp)) (OwnR.rdr (hw.holds (.own B1 4 e1 58 11 (fun k => packL (balP k))) (by simp))) (RdR.blk (hw.holds (.blk _ 3 [.int .i64 0, .int .i64 1]) (by simp)) rfl (fun _ _ => rfl)) (RdR.blk (hw.holds (.blk _ 3 [.int .i64 2]) (by simp)) rfl (fun _ _ => rfl))) ?_
            refine TL.nil ?_
            refine TQ.nxt (hX6 _ _ (by repeat (first | exact HasL.nil | refine HasL.cons (by repeat (first | exact Pick.hd | apply Pick.tl)) ?_)) ?_)
            refine RG.tk 7 rfl Pu.mv ?_
            refine RG.tk 8 rfl Pu.ex ?_
            refine RG.tk 9 rfl Pu.ex ?_
            refine RG.tk 10 rfl Pu.as ?_
            refine RG.tk 11 rfl Pu.as ?_
            exact RG.nil (TQ.sub (by repeat (first | exact trivial | refine ⟨rfl, ?_⟩ | refine ⟨trivial, ?_⟩)) (by repeat (first | exact KSub.nil | refine KSub.cons (by repeat (first | exact Pick.hd | apply Pick.tl)) ?_ | exact KSub.refl _ | refine KSub.drop ?_)) (hE e1)) (by kernel_rfl)
        · as_aux_lemma =>
            refine TL.m Mk.bl ?_
            intro x4
            refine TL.nil ?_
            refine TQ.nxt (hX4 _ _ (by repeat (first | exact HasL.nil | refine HasL.cons (by repeat (first | exact Pick.hd | apply Pick.tl)) ?_)) ?_)
            refine RG.a1 3 rfl (fun X3 hX3 => ?_)
            refine TL.m Mk.bl ?_
            intro x3
            refine TL.nil ?_
            refine TQ.nxt (hX3 _ _ (by repeat (first | exact HasL.nil | refine HasL.cons (by repeat (first | exact Pick.hd | apply Pick.tl)) ?_)) ?_)
            refine RG.a1 5 rfl (fun X5 hX5 => ?_)
            refine TL.cr rfl (enters Tryz.func18 rfl rfl) (fun w hw => by
                exact pair_any _ _ _ _ _ _ _) ?_
            refine TL.nil ?_
            refine TQ.nxt (hX5 _ _ (by repeat (first | exact HasL.nil | refine HasL.cons (by repeat (first | exact Pick.hd | apply Pick.tl)) ?_)) ?_)
            refine RG.a1 6 rfl (fun X6 hX6 => ?_)
            refine TL.cr rfl (enters Tryz.func21 rfl rfl) (fun w hw => by
                exact readyEx (hG.sat hw (by simp)) (OwnR.rdr (hw.holds (.own B1 4 e1 58 11 (fun k => packL (balP k))) (by simp))) (RdR.blk (hw.holds (.blk _ 3 [.int .i64 0, .int .i64 1]) (by simp)) rfl (fun _ _ => rfl)) (RdR.blk (hw.holds (.blk _ 3 [.int .i64 2]) (by simp)) rfl (fun _ _ => rfl))) ?_
            refine TL.nil ?_
            refine TQ.nxt (hX6 _ _ (by repeat (first | exact HasL.nil | refine HasL.cons (by repeat (first | exact Pick.hd | apply Pick.tl)) ?_)) ?_)
            refine RG.tk 7 rfl Pu.mv ?_
            refine RG.tk 8 rfl Pu.ex ?_
            refine RG.tk 9 rfl Pu.ex ?_
            refine RG.tk 10 rfl Pu.as ?_
            refine RG.tk 11 rfl Pu.as ?_
            exact RG.nil (TQ.sub (by repeat (first | exact trivial | refine ⟨rfl, ?_⟩ | refine ⟨trivial, ?_⟩)) (by repeat (first | exact KSub.nil | refine KSub.cons (by repeat (first | exact Pick.hd | apply Pick.tl)) ?_ | exact KSub.refl _ | refine KSub.drop ?_)) (hE e1)) (by kernel_rfl)
    · as_aux_lemma =>
        refine TL.m Mk.bl ?_
        intro x3
        refine TL.nil ?_
        refine TQ.nxt (hX3 _ _ (by repeat (first | exact HasL.nil | refine HasL.cons (by repeat (first | exact Pick.hd | apply Pick.tl)) ?_)) ?_)
        refine RG.a2 2 4 rfl rfl (fun X2 hX2 => ?_) (fun X4 hX4 => ?_)
        · as_aux_lemma =>
            refine TL.call (M := []) rfl (enters Tryz.func17 rfl rfl) (List.Perm.refl _) rfl (fun w hw => by
                exact bales_any _) ?_
            rintro ⟨B1, e1⟩
            refine TL.nil ?_
            refine TQ.nxt (hX2 _ _ (by repeat (first | exact HasL.nil | refine HasL.cons (by repeat (first | exact Pick.hd | apply Pick.tl)) ?_)) ?_)
            refine RG.a1 4 rfl (fun X4 hX4 => ?_)
            refine TL.m Mk.bl ?_
            intro x4
            refine TL.nil ?_
            refine TQ.nxt (hX4 _ _ (by repeat (first | exact HasL.nil | refine HasL.cons (by repeat (first | exact Pick.hd | apply Pick.tl)) ?_)) ?_)
            refine RG.a1 5 rfl (fun X5 hX5 => ?_)
            refine TL.cr rfl (enters Tryz.func18 rfl rfl) (fun w hw => by
                exact pair_any _ _ _ _ _ _ _) ?_
            refine TL.nil ?_
            refine TQ.nxt (hX5 _ _ (by repeat (first | exact HasL.nil | refine HasL.cons (by repeat (first | exact Pick.hd | apply Pick.tl)) ?_)) ?_)
            refine RG.a1 6 rfl (fun X6 hX6 => ?_)
            refine TL.cr rfl (enters Tryz.func21 rfl rfl) (fun w hw => by
                exact readyEx (hG.sat hw (by simp)) (OwnR.rdr (hw.holds (.own B1 4 e1 58 11 (fun k => packL (balP k))) (by simp))) (RdR.blk (hw.holds (.blk _ 3 [.int .i64 0, .int .i64 1]) (by simp)) rfl (fun _ _ => rfl)) (RdR.blk (hw.holds (.blk _ 3 [.int .i64 2]) (by simp)) rfl (fun _ _ => rfl))) ?_
            refine TL.nil ?_
            refine TQ.nxt (hX6 _ _ (by repeat (first | exact HasL.nil | refine HasL.cons (by repeat (first | exact Pick.hd | apply Pick.tl)) ?_)) ?_)
            refine RG.tk 7 rfl Pu.mv ?_
            refine RG.tk 8 rfl Pu.ex ?_
            refine RG.tk 9 rfl Pu.ex ?_
            refine RG.tk 10 rfl Pu.as ?_
            refine RG.tk 11 rfl Pu.as ?_
            exact RG.nil (TQ.sub (by repeat (first | exact trivial | refine ⟨rfl, ?_⟩ | refine ⟨trivial, ?_⟩)) (by repeat (first | exact KSub.nil | refine KSub.cons (by repeat (first | exact Pick.hd | apply Pick.tl)) ?_ | exact KSub.refl _ | refine KSub.drop ?_)) (hE e1)) (by kernel_rfl)
        · as_aux_lemma =>
            refine TL.m Mk.bl ?_
            intro x4
            refine TL.nil ?_
            refine TQ.nxt (hX4 _ _ (by repeat (first | exact HasL.nil | refine HasL.cons (by repeat (first | exact Pick.hd | apply Pick.tl)) ?_)) ?_)
            refine RG.a1 2 rfl (fun X2 hX2 => ?_)
            refine TL.call (M := []) rfl (enters Tryz.func17 rfl rfl) (List.Perm.refl _) rfl (fun w hw => by
                exact bales_any _) ?_
            rintro ⟨B1, e1⟩
            refine TL.nil ?_
            refine TQ.nxt (hX2 _ _ (by repeat (first | exact HasL.nil | refine HasL.cons (by repeat (first | exact Pick.hd | apply Pick.tl)) ?_)) ?_)
            refine RG.a1 5 rfl (fun X5 hX5 => ?_)
            refine TL.cr rfl (enters Tryz.func18 rfl rfl) (fun w hw => by
                exact pair_any _ _ _ _ _ _ _) ?_
            refine TL.nil ?_
            refine TQ.nxt (hX5 _ _ (by repeat (first | exact HasL.nil | refine HasL.cons (by repeat (first | exact Pick.hd | apply Pick.tl)) ?_)) ?_)
            refine RG.a1 6 rfl (fun X6 hX6 => ?_)
            refine TL.cr rfl (enters Tryz.func21 rfl rfl) (fun w hw => by
                exact readyEx (hG.sat hw (by simp)) (OwnR.rdr (hw.holds (.own B1 4 e1 58 11 (fun k => packL (balP k))) (by simp))) (RdR.blk (hw.holds (.blk _ 3 [.int .i64 0, .int .i64 1]) (by simp)) rfl (fun _ _ => rfl)) (RdR.blk (hw.holds (.blk _ 3 [.int .i64 2]) (by simp)) rfl (fun _ _ => rfl))) ?_
            refine TL.nil ?_
            refine TQ.nxt (hX6 _ _ (by repeat (first | exact HasL.nil | refine HasL.cons (by repeat (first | exact Pick.hd | apply Pick.tl)) ?_)) ?_)
            refine RG.tk 7 rfl Pu.mv ?_
            refine RG.tk 8 rfl Pu.ex ?_
            refine RG.tk 9 rfl Pu.ex ?_
            refine RG.tk 10 rfl Pu.as ?_
            refine RG.tk 11 rfl Pu.as ?_
            exact RG.nil (TQ.sub (by repeat (first | exact trivial | refine ⟨rfl, ?_⟩ | refine ⟨trivial, ?_⟩)) (by repeat (first | exact KSub.nil | refine KSub.cons (by repeat (first | exact Pick.hd | apply Pick.tl)) ?_ | exact KSub.refl _ | refine KSub.drop ?_)) (hE e1)) (by kernel_rfl)
    · as_aux_lemma =>
        refine TL.m Mk.bl ?_
        intro x4
        refine TL.nil ?_
        refine TQ.nxt (hX4 _ _ (by repeat (first | exact HasL.nil | refine HasL.cons (by repeat (first | exact Pick.hd | apply Pick.tl)) ?_)) ?_)
        refine RG.a2 2 3 rfl rfl (fun X2 hX2 => ?_) (fun X3 hX3 => ?_)
        · as_aux_lemma =>
            refine TL.call (M := []) rfl (enters Tryz.func17 rfl rfl) (List.Perm.refl _) rfl (fun w hw => by
                exact bales_any _) ?_
            rintro ⟨B1, e1⟩
            refine TL.nil ?_
            refine TQ.nxt (hX2 _ _ (by repeat (first | exact HasL.nil | refine HasL.cons (by repeat (first | exact Pick.hd | apply Pick.tl)) ?_)) ?_)
            refine RG.a1 3 rfl (fun X3 hX3 => ?_)
            refine TL.m Mk.bl ?_
            intro x3
            refine TL.nil ?_
            refine TQ.nxt (hX3 _ _ (by repeat (first | exact HasL.nil | refine HasL.cons (by repeat (first | exact Pick.hd | apply Pick.tl)) ?_)) ?_)
            refine RG.a1 5 rfl (fun X5 hX5 => ?_)
            refine TL.cr rfl (enters Tryz.func18 rfl rfl) (fun w hw => by
                exact pair_any _ _ _ _ _ _ _) ?_
            refine TL.nil ?_
            refine TQ.nxt (hX5 _ _ (by repeat (first | exact HasL.nil | refine HasL.cons (by repeat (first | exact Pick.hd | apply Pick.tl)) ?_)) ?_)
            refine RG.a1 6 rfl (fun X6 hX6 => ?_)
            refine TL.cr rfl (enters Tryz.func21 rfl rfl) (fun w hw => by
                exact readyEx (hG.sat hw (by simp)) (OwnR.rdr (hw.holds (.own B1 4 e1 58 11 (fun k => packL (balP k))) (by simp))) (RdR.blk (hw.holds (.blk _ 3 [.int .i64 0, .int .i64 1]) (by simp)) rfl (fun _ _ => rfl)) (RdR.blk (hw.holds (.blk _ 3 [.int .i64 2]) (by simp)) rfl (fun _ _ => rfl))) ?_
            refine TL.nil ?_
            refine TQ.nxt (hX6 _ _ (by repeat (first | exact HasL.nil | refine HasL.cons (by repeat (first | exact Pick.hd | apply Pick.tl)) ?_)) ?_)
            refine RG.tk 7 rfl Pu.mv ?_
            refine RG.tk 8 rfl Pu.ex ?_
            refine RG.tk 9 rfl Pu.ex ?_
            refine RG.tk 10 rfl Pu.as ?_
            refine RG.tk 11 rfl Pu.as ?_
            exact RG.nil (TQ.sub (by repeat (first | exact trivial | refine ⟨rfl, ?_⟩ | refine ⟨trivial, ?_⟩)) (by repeat (first | exact KSub.nil | refine KSub.cons (by repeat (first | exact Pick.hd | apply Pick.tl)) ?_ | exact KSub.refl _ | refine KSub.drop ?_)) (hE e1)) (by kernel_rfl)
        · as_aux_lemma =>
            refine TL.m Mk.bl ?_
            intro x3
            refine TL.nil ?_
            refine TQ.nxt (hX3 _ _ (by repeat (first | exact HasL.nil | refine HasL.cons (by repeat (first | exact Pick.hd | apply Pick.tl)) ?_)) ?_)
            refine RG.a1 2 rfl (fun X2 hX2 => ?_)
            refine TL.call (M := []) rfl (enters Tryz.func17 rfl rfl) (List.Perm.refl _) rfl (fun w hw => by
                exact bales_any _) ?_
            rintro ⟨B1, e1⟩
            refine TL.nil ?_
            refine TQ.nxt (hX2 _ _ (by repeat (first | exact HasL.nil | refine HasL.cons (by repeat (first | exact Pick.hd | apply Pick.tl)) ?_)) ?_)
            refine RG.a1 5 rfl (fun X5 hX5 => ?_)
            refine TL.cr rfl (enters Tryz.func18 rfl rfl) (fun w hw => by
                exact pair_any _ _ _ _ _ _ _) ?_
            refine TL.nil ?_
            refine TQ.nxt (hX5 _ _ (by repeat (first | exact HasL.nil | refine HasL.cons (by repeat (first | exact Pick.hd | apply Pick.tl)) ?_)) ?_)
            refine RG.a1 6 rfl (fun X6 hX6 => ?_)
            refine TL.cr rfl (enters Tryz.func21 rfl rfl) (fun w hw => by
                exact readyEx (hG.sat hw (by simp)) (OwnR.rdr (hw.holds (.own B1 4 e1 58 11 (fun k => packL (balP k))) (by simp))) (RdR.blk (hw.holds (.blk _ 3 [.int .i64 0, .int .i64 1]) (by simp)) rfl (fun _ _ => rfl)) (RdR.blk (hw.holds (.blk _ 3 [.int .i64 2]) (by simp)) rfl (fun _ _ => rfl))) ?_
            refine TL.nil ?_
            refine TQ.nxt (hX6 _ _ (by repeat (first | exact HasL.nil | refine HasL.cons (by repeat (first | exact Pick.hd | apply Pick.tl)) ?_)) ?_)
            refine RG.tk 7 rfl Pu.mv ?_
            refine RG.tk 8 rfl Pu.ex ?_
            refine RG.tk 9 rfl Pu.ex ?_
            refine RG.tk 10 rfl Pu.as ?_
            refine RG.tk 11 rfl Pu.as ?_
            exact RG.nil (TQ.sub (by repeat (first | exact trivial | refine ⟨rfl, ?_⟩ | refine ⟨trivial, ?_⟩)) (by repeat (first | exact KSub.nil | refine KSub.cons (by repeat (first | exact Pick.hd | apply Pick.tl)) ?_ | exact KSub.refl _ | refine KSub.drop ?_)) (hE e1)) (by kernel_rfl)
end Go.Proofs.YtljhdcclajikiaaGreatDoor
namespace Go.Proofs.YtljhdcclajikiaaGreatDoor
set_option linter.all false
set_option linter.unusedVariables false
set_option linter.unusedSimpArgs false
open Go.RowKit
section
variable {P : Program} {ops : Array Oper} {Q : Exit → Act → World → Prop} {md : Region.Mode} {S1 S : World → Prop} {s : Nat}
def wpUntil (P : Program) (md : Region.Mode) (ops : Array Oper) (Q : Exit → Act → World → Prop) (S1 S : World → Prop) (s : Nat) : Nat → Array Bool → Act → World → Prop
  | 0, l, a, w => Region.ready md ops l = [] ∧ Q .normal a w
  | n + 1, l, a, w => (Region.ready md ops l = [] → Q .normal a w) ∧ ∀ i ∈ Region.ready md ops l, wpOp P ops Q i (fun a' w' => S1 w' ∧ ((l.setIfInBounds i true).getD s true = false → S w') ∧ wpUntil P md ops Q S1 S s n (l.setIfInBounds i true) a' w') a w
theorem until_any : ∀ (n : Nat) (l : Array Bool) (a : Act) (w : World), wpUntil P md ops Q S1 S s n l a w → wpAnyH P md ops Q S1 n l a w
  | 0, _, _, _, h => h
  | n + 1, _, _, _, h => ⟨h.1, fun i hi => wpOp_mono (fun a' w' h' => ⟨h'.1, until_any n _ a' w' h'.2.2⟩) (h.2 i hi)⟩
theorem set_stays {l : Array Bool} {i : Nat} (h : l.getD s true = true) : (l.setIfInBounds i true).getD s true = true := by
  by_cases hi : i = s
  · subst hi
    by_cases hlt : i < l.size
    · simp [hlt]
    · simp [hlt]
  · rw [getD_set_ne true hi]; exact h
theorem until_of_any : ∀ (n : Nat) (l : Array Bool) (a : Act) (w : World), l.getD s true = true → wpAnyH P md ops Q S1 n l a w → wpUntil P md ops Q S1 S s n l a w
  | 0, _, _, _, _, h => h
  | n + 1, l, _, _, hs, h => ⟨h.1, fun i hi => wpOp_mono (fun a' w' h' => ⟨h'.1, fun h0 => (by rw [set_stays hs] at h0; cases h0), until_of_any n _ a' w' (set_stays hs) h'.2⟩) (h.2 i hi)⟩
theorem until_first {i : Nat} {oi : Oper} {v : Value} {T : World → Prop} (hi : ops[i]? = some oi) (hsel : ∀ (j : Nat) (o : Oper) cs b, ops[j]? = some o → o.op ≠ .select cs b)
    (hQ : ∀ c a w, Q (.panic c) (a.put oi.dst v) w → Q (.panic c) a w) (his : i ≠ s)
    (hT : (T = S ∧ ∃ os, ops[s]? = some os ∧ ∃ e ∈ os.after, Region.binds md e = true ∧ e.on = i) ∨ T = S1) :
    ∀ (n : Nat) (l : Array Bool) (a : Act) (w : World),
      (∀ j oj, ops[j]? = some oj → j ≠ i → l.getD j true = false → (∀ e ∈ oj.after, Region.binds md e = true → e.on ≠ i) → oi.apart ops oj = true) →
      i ∈ Region.ready md ops l → YieldsIf P ops T oi v a → l.getD s true = false → S1 w → S w →
      wpUntil P md ops Q S1 S s n (l.setIfInBounds i true) (a.put oi.dst v) w → wpUntil P md ops Q S1 S s (n + 1) l a w := by
  intro n
  have hTw : ∀ w, S1 w → S w → T w := fun w h1 h => by
    rcases hT with ⟨rfl, _⟩ | rfl
    · exact h
    · exact h1
  induction n with
  | zero =>
    intro l a w _ hr hy hs hS1 hS H
    refine ⟨fun h => (by rw [h] at hr; cases hr), fun j hj => ?_⟩
    by_cases hji : j = i
    · subst hji; exact hy.wpOp hi (hTw w hS1 hS) ⟨hS1, fun _ => hS, H⟩
    · have := ready_mono hj hji
      rw [H.1] at this
      cases this
  | succ n ih =>
    intro l a w hfree hr hy hs hS1 hS H
    refine ⟨fun h => (by rw [h] at hr; cases hr), fun j hj => ?_⟩
    by_cases hji : j = i
    · subst hji; exact hy.wpOp hi (hTw w hS1 hS) ⟨hS1, fun _ => hS, H⟩
    · have h1 := H.2 j (ready_mono hj hji)
      obtain ⟨hjun, oj, hoj, hall⟩ := mem_ready.1 hj
      have hiun := (mem_ready.1 hr).1
      have hnot : ∀ e ∈ oj.after, Region.binds md e = true → e.on ≠ i := fun e he hb heq => by
        have h2 := hall e he hb
        rw [heq] at h2
        rcases Nat.lt_or_ge i l.size with h' | h'
        · simp [h'] at hiun h2; rw [hiun] at h2; cases h2
        · simp [Array.getElem?_eq_none h'] at h2
      have h2 := wpOp_putIf hoj (hfree j oj hoj hji hjun hnot) (fun cs b => hsel i oi cs b hi) (fun cs b => hsel j oj cs b hoj) hQ hy h1
      have hfree' : ∀ k ok, ops[k]? = some ok → k ≠ i → (l.setIfInBounds j true).getD k true = false →
          (∀ e ∈ ok.after, Region.binds md e = true → e.on ≠ i) → oi.apart ops ok = true := fun k ok hk hki hun hno => by
        refine hfree k ok hk hki ?_ hno
        by_cases hjk : j = k
        · subst hjk; exact hjun
        · rw [getD_set_ne true hjk] at hun; exact hun
      have hcomm : (l.setIfInBounds i true).setIfInBounds j true = (l.setIfInBounds j true).setIfInBounds i true := Array.setIfInBounds_comm _ _ (fun e => hji e.symm)
      have hbit : ((l.setIfInBounds i true).setIfInBounds j true).getD s true = (l.setIfInBounds j true).getD s true := by rw [hcomm, getD_set_ne true his]
      refine wpOp_mono (fun a' w' h3 => ?_) h2
      obtain ⟨hy', hS1', hS', H'⟩ := h3
      rw [hbit] at hS'
      by_cases hjs : (l.setIfInBounds j true).getD s true = false
      · refine ⟨hS1', fun _ => hS' hjs, ih (l.setIfInBounds j true) a' w' hfree' (ready_mono hr (Ne.symm hji)) hy' hjs hS1' (hS' hjs) ?_⟩
        rw [← hcomm]
        exact H'
      · have hjs' : (l.setIfInBounds j true).getD s true = true := by simpa using hjs
        refine ⟨hS1', fun h => absurd h hjs, ?_⟩
        rcases hT with ⟨_, os, hos, e, he, hb, hei⟩ | rfl
        · exfalso
          have hsj : j = s := by
            by_cases hne : j = s
            · exact hne
            · rw [getD_set_ne true hne, hs] at hjs'; cases hjs'
          subst hsj
          rw [hoj] at hos
          cases hos
          exact hnot e he hb hei
        · refine until_of_any _ _ _ _ hjs' (wpAnyH_first hi hsel hQ n (l.setIfInBounds j true) a' w' hfree' (ready_mono hr (Ne.symm hji)) hy' hS1' ?_)
          have := until_any _ _ _ _ H'
          rw [hcomm] at this
          exact this
end
theorem wpOp_of_TL {c : Cx} {Q : Exit → Act → World → Prop} {F : Fr} {K : List Fact} {ops : Array Oper} {j : Nat} {o : Oper} {Z : Act → World → Prop} (ho : ops[j]? = some o) (h : TL c ops (nxt Z Q) [o] F K) {a : Act} {w : World} (hF : FS c.n c.D F a) (hK : Sat c.S c.w0 K w) : wpOp c.P ops Q j Z a w := by
  have h1 := h a w hF hK
  unfold wpList at h1
  unfold wpOp
  simp only [ho]
  split
  · rename_i hw
    rw [if_pos hw] at h1
    rcases h1 with h1 | ⟨hA, hL⟩
    · refine .inl ?_
      unfold Oper.wp at *
      generalize (execOp a.eval o).run c.P w = r at *
      cases r with
      | ok x w' =>
        cases x <;> simp only [Oper.upon] at h1 ⊢ <;> first
          | exact h1
          | exact Calls.mono h1 (fun e w'' he => by
              cases e with
              | returned v => exact he
              | panicked ch => exact he
              | outgrown => obtain ⟨x, y, z⟩ := he; exact ⟨x, y, z⟩)
          | exact Rows.mono h1 (fun _ _ he => he)
      | halt x w' => cases x <;> simp only [Oper.upon] at h1 ⊢ <;> exact h1
    · obtain ⟨x, y, z⟩ := hL
      exact .inr ⟨hA, x, y, z⟩
  · rename_i hw
    rw [if_neg hw] at h1
    exact h1
section
variable {c : Cx} {Q : Exit → Act → World → Prop} {F F' : Fr} {K K' K0 : List Fact} {ops : Array Oper} {listed : Array Bool} {fuel s : Nat}
def RU (c : Cx) (ops : Array Oper) (Q : Exit → Act → World → Prop) (K0 : List Fact) (s : Nat) (listed : Array Bool) (fuel : Nat) (F : Fr) (K : List Fact) : Prop :=
  ∀ a w, FS c.n c.D F a → Sat c.S c.w0 K w → wpUntil c.P .any ops Q (Sat c.S c.w0 []) (Sat c.S c.w0 K0) s fuel listed a w
def waitsB (ops : Array Oper) (s i : Nat) : Bool := match ops[s]? with
  | some o => o.after.any fun e => Region.binds .any e && e.on == i
  | none => false
theorem waits_spec {i : Nat} (h : waitsB ops s i = true) : ∃ os, ops[s]? = some os ∧ ∃ e ∈ os.after, Region.binds .any e = true ∧ e.on = i := by
  unfold waitsB at h
  split at h
  · rename_i o ho
    obtain ⟨e, he, h2⟩ := Array.any_eq_true'.1 h
    simp only [Bool.and_eq_true, beq_iff_eq] at h2
    exact ⟨o, ho, e, he, h2.1, h2.2⟩
  · cases h
theorem RU.tk (i : Nat) {op : Op} {ty : TypeId} {pos : String} {af : Array Edge} {g : Option (Nat × Bool)} {t : Nat} {v : Value} (ho : ops[i]? = some ⟨some t, op, ty, pos, af, g⟩) (hp : Pu c F K0 ⟨some t, op, ty, pos, af, g⟩ v) (h : RU c ops Q K0 s (listed.setIfInBounds i true) fuel ((t, v) :: F) K) (hh : HasL K K0 := by repeat (first | exact HasL.nil | refine HasL.cons (by repeat (first | exact Pick.hd | apply Pick.tl)) ?_)) (hk : takeA ops listed i = true := by kernel_rfl) (hw : waitsB ops s i = true := by kernel_rfl) (hn : Nat.beq i s = false := by rfl) (hu : listed.getD s true = false := by kernel_rfl) (hg : gdB F ops g = some true := by rfl) (hd : Nat.blt t c.n = true := by rfl) (hpan : Pan Q := by (intro d _ _ _ _; cases d <;> exact Iff.rfl)) :
    RU c ops Q K0 s listed (fuel + 1) F K := fun a w hF hK => by
  simp only [takeA, Bool.and_eq_true] at hk
  have his : i ≠ s := fun e => by rw [beq_iff.2 e] at hn; cases hn
  exact until_first ho (Region.noSelect_spec hk.1.1) (fun ch a w h => (hpan _ v ch a w).1 h) his (.inl ⟨rfl, waits_spec hw⟩) fuel listed a w (Region.free_spec ho hk.1.2) (by simpa using hk.2) (.inl ⟨hF.wanted hg, fun w' hS => hp a w' hF hS⟩) hu (HasL.nil.has.sat hK) (hh.has.sat hK) (h _ w (hF.put hd v) hK)
theorem RU.a1 (i : Nat) {o : Oper} (ho : ops[i]? = some o) (h : ∀ Z : Act → World → Prop, (∀ F2 K2, HasL K2 K0 → RU c ops Q K0 s (listed.setIfInBounds i true) fuel F2 K2 → TQ c (fun _ => Z) .normal F2 K2) → TL c ops (nxt Z Q) [o] F K) (hr : Region.ready .any ops listed = [i] := by kernel_rfl) : RU c ops Q K0 s listed (fuel + 1) F K := fun a w hF hK => by
  refine ⟨fun h0 => (by rw [hr] at h0; cases h0), fun j hj => ?_⟩
  rw [hr, List.mem_singleton] at hj
  subst hj
  exact wpOp_of_TL ho (h (fun a' w' => Sat c.S c.w0 [] w' ∧ ((listed.setIfInBounds j true).getD s true = false → Sat c.S c.w0 K0 w') ∧ wpUntil c.P .any ops Q (Sat c.S c.w0 []) (Sat c.S c.w0 K0) s fuel (listed.setIfInBounds j true) a' w') (fun F2 K2 hh hg a' w' hF2 hK2 => ⟨HasL.nil.has.sat hK2, fun _ => hh.has.sat hK2, hg a' w' hF2 hK2⟩)) hF hK
theorem RU.st {o : Oper} (ho : ops[s]? = some o) (h : ∀ Z : Act → World → Prop, (∀ F2 K2, RG c ops Q [] [] (listed.setIfInBounds s true) fuel F2 K2 → TQ c (fun _ => Z) .normal F2 K2) → TL c ops (nxt Z Q) [o] F K) (hr : Region.ready .any ops listed = [s] := by kernel_rfl) (hu : (listed.setIfInBounds s true).getD s true = true := by kernel_rfl) : RU c ops Q K0 s listed (fuel + 1) F K := fun a w hF hK => by
  refine ⟨fun h0 => (by rw [hr] at h0; cases h0), fun j hj => ?_⟩
  rw [hr, List.mem_singleton] at hj
  subst hj
  exact wpOp_of_TL ho (h (fun a' w' => Sat c.S c.w0 [] w' ∧ ((listed.setIfInBounds j true).getD j true = false → Sat c.S c.w0 K0 w') ∧ wpUntil c.P .any ops Q (Sat c.S c.w0 []) (Sat c.S c.w0 K0) j fuel (listed.setIfInBounds j true) a' w') (fun F2 K2 hg a' w' hF2 hK2 => ⟨HasL.nil.has.sat hK2, fun h0 => (by rw [hu] at h0; cases h0), until_of_any _ _ _ _ hu (hg (fun p hp => by cases hp) a' w' hF2 hK2)⟩)) hF hK
end
end Go.Proofs.YtljhdcclajikiaaGreatDoor
namespace Go.Proofs.YtljhdcclajikiaaGreatDoor
set_option linter.all false
set_option linter.unusedVariables false
set_option linter.unusedSimpArgs false
open Go.RowKit Go.MapKept
abbrev Gl := List (Int × Value × Nat)
def entG (kk : IntKind) (x : Int × Value × Nat) : MapEntry := { key := .int kk x.1, val := x.2.1, born := x.2.2 }
def gO (kk : IntKind) (t : Gl) (n : Nat) : Obj := .map (t.map (entG kk)).toArray n
def gl (t : Gl) : List (Int × Value) := t.map fun x => (x.1, x.2.1)
def mdel (i : Int) : List (Int × Value) → List (Int × Value)
  | [] => []
  | (k, u) :: l => if i = k then l else (k, u) :: mdel i l
theorem findNow_entG (kk : IntKind) (i : Int) : ∀ (t : Gl) (q : Nat), Instr.findNow (.int kk) (.int kk i) (t.map (entG kk)) q = some (mfind i q (gl t))
  | [], _ => rfl
  | (k, v, s) :: l, q => by
    by_cases h : i = k
    · subst h; simp [entG, gl, Instr.findNow, Instr.sameNow, mfind]
    · have hb : (i == k) = false := by simpa using h
      have ih := findNow_entG kk i l (q + 1)
      simp only [List.map_cons, gl] at ih ⊢
      simp [entG, Instr.findNow, Instr.sameNow, mfind, h, hb]
      simpa [entG] using ih
theorem mfind_at {i : Int} {u : Value} : ∀ {t : Gl} {q p : Nat}, mfind i q (gl t) = some (q + p, u) → ∃ b, t[p]? = some (i, u, b) ∧ gl (t.eraseIdx p) = mdel i (gl t) ∧ ∀ v, gl (t.modify p fun x => (i, v, x.2.2)) = mput i v (gl t)
  | [], _, _, h => by simp [gl, mfind] at h
  | (k, w, s) :: l, q, p, h => by
    by_cases hk : i = k
    · simp [gl, mfind, hk] at h
      obtain ⟨h1, h2⟩ := h
      subst h1 h2 hk
      exact ⟨s, by simp, by simp [gl, mdel], fun v => by simp [gl, mput]⟩
    · have h' : mfind i (q + 1) (gl l) = some (q + p, u) := by simpa [gl, mfind, hk] using h
      have hp : 0 < p := by
        have := mput_some.mfind_ge h'
        omega
      obtain ⟨p', rfl⟩ : ∃ p', p = p' + 1 := ⟨p - 1, by omega⟩
      rw [show q + (p' + 1) = (q + 1) + p' by omega] at h'
      obtain ⟨b, h1, h2, h3⟩ := mfind_at h'
      refine ⟨b, by simpa using h1, ?_, fun v => ?_⟩
      · simp only [List.eraseIdx_cons_succ]
        show (k, w) :: gl (l.eraseIdx p') = mdel i ((k, w) :: gl l)
        rw [h2]; simp [mdel, hk]
      · simp only [List.modify_succ_cons]
        show (k, w) :: gl (l.modify p' _) = mput i v ((k, w) :: gl l)
        rw [h3 v]; simp [mput, hk]
theorem mput_no {i : Int} {v : Value} : ∀ {l : List (Int × Value)} {q : Nat}, mfind i q l = none → mput i v l = l ++ [(i, v)]
  | [], _, _ => rfl
  | (k, u) :: l, q, h => by
    by_cases hk : i = k
    · simp [mfind, hk] at h
    · have h' : mfind i (q + 1) l = none := by simpa [mfind, hk] using h
      simp [mput, hk, mput_no h']
theorem mdel_no {i : Int} : ∀ {l : List (Int × Value)} {q : Nat}, mfind i q l = none → mdel i l = l
  | [], _, _ => rfl
  | (k, u) :: l, q, h => by
    by_cases hk : i = k
    · simp [mfind, hk] at h
    · have h' : mfind i (q + 1) l = none := by simpa [mfind, hk] using h
      simp [mdel, hk, mdel_no h']
theorem erase_map {α β : Type} (f : α → β) : ∀ (l : List α) (p : Nat), (l.map f).eraseIdx p = (l.eraseIdx p).map f
  | [], _ => rfl
  | _ :: _, 0 => rfl
  | x :: l, p + 1 => by simp [erase_map f l p]
theorem run_getObj_g {P : Program} {w : World} {b n : Nat} {kk : IntKind} {t : Gl} (hb : w.heap[b]? = some (gO kk t n)) : (getObj b).run P w = .ok (.map (t.map (entG kk)).toArray n) w := by
  unfold gO at hb
  exact Go.MapKept.run_getObj_map hb
theorem run_setObj_g {P : Program} {w : World} {b n : Nat} {kk : IntKind} {t : Gl} (o : Obj) (hb : w.heap[b]? = some (gO kk t n)) : (setObj b o).run P w = .ok () { w with heap := w.heap.setIfInBounds b o } := by
  unfold gO at hb
  exact Go.MapKept.run_setObj_map o hb
theorem run_lookup_g {P : Program} {T kt et : TypeId} {kk : IntKind} {w : World} {b n : Nat} {t : Gl} {i : Int} {z : Value} (hT : MapT P T kt et kk) (hb : w.heap[b]? = some (gO kk t n)) (hz : (zeroValue et).run P w = .ok z w) (ok : Bool) :
    (Instr.lookup T (.map (some b)) (.int kk i) ok).run P w = .ok (if ok then .tuple #[(mlook i (gl t)).getD z, .bool (mlook i (gl t)).isSome] else (mlook i (gl t)).getD z) w := by
  have h0 := findNow_entG kk i t 0
  have hf : (Instr.findKey kt (.int kk i) (t.map (entG kk))).run P w = .ok (mfind i 0 (gl t)) w := run_findKey hT.key h0
  have hl := mfind_look i (gl t) 0
  unfold Instr.lookup
  simp only [Sem.run_bind, run_underlying hT.map, Result.andThen_ok, run_getObj_g hb, Sem.run_pure, run_checkKey hT.key (isKey_int kk i), hf]
  cases hm : mfind i 0 (gl t) with
  | none =>
    rw [hm] at hl
    have hl' : mlook i (gl t) = none := by simpa using hl.symm
    simp [hz, hl', Result.andThen_ok]
  | some x =>
    rw [hm] at hl
    have hl' : mlook i (gl t) = some x.2 := by simpa using hl.symm
    simp [hl', Result.andThen_ok]
theorem run_mapUpdate_g {P : Program} {T kt et : TypeId} {kk : IntKind} {w : World} {b n : Nat} {t : Gl} {i : Int} {v : Value} (hT : MapT P T kt et kk) (hb : w.heap[b]? = some (gO kk t n)) :
    ∃ t' n', gl t' = mput i v (gl t) ∧ (Instr.mapUpdate T (.map (some b)) (.int kk i) v).run P w = .ok () { w with heap := w.heap.setIfInBounds b (gO kk t' n') } := by
  have h0 := findNow_entG kk i t 0
  have hf : (Instr.findKey kt (.int kk i) (t.map (entG kk))).run P w = .ok (mfind i 0 (gl t)) w := run_findKey hT.key h0
  unfold Instr.mapUpdate
  simp only [Sem.run_bind, run_underlying hT.map, Result.andThen_ok, run_getObj_g hb, run_checkKey hT.key (isKey_int kk i), hf]
  cases hm : mfind i 0 (gl t) with
  | none =>
    refine ⟨t ++ [(i, v, n)], n + 1, by rw [mput_no hm]; simp [gl], ?_⟩
    simp only [run_setObj_g _ hb]
    unfold gO
    simp [entG]
  | some x =>
    obtain ⟨p, u⟩ := x
    obtain ⟨c, h3, _, h4⟩ := mfind_at (q := 0) (p := p) (by rw [hm, Nat.zero_add])
    refine ⟨_, n, h4 v, ?_⟩
    have hk : ((((t.map (entG kk)).toArray[p]?).map (·.key)).getD (Value.int kk i)) = .int kk i := by simp [h3, entG]
    have hkeep : (Instr.keyThatStays (.int kk i) (.int kk i)).run P w = .ok (.int kk i) w := by simp [Instr.keyThatStays, Instr.sameBits]
    simp only [hk, hkeep, Sem.run_bind, Result.andThen_ok, run_setObj_g _ hb]
    have e : (t.map (entG kk)).modify p (fun e => { e with key := .int kk i, val := v }) = (t.modify p fun x => (i, v, x.2.2)).map (entG kk) := by
      apply List.ext_getElem?
      intro j
      simp only [List.getElem?_map, List.getElem?_modify]
      by_cases hj : p = j <;> cases t[j]? <;> simp [hj, entG]
    unfold gO
    simp [← e]
theorem run_delete_g {P : Program} {T kt kt' et ty : TypeId} {kk : IntKind} {w : World} {b n : Nat} {t : Gl} {i : Int} (hT : MapT P T kt et kk) (hb : w.heap[b]? = some (gO kk t n)) :
    ∃ t', gl t' = mdel i (gl t) ∧ (Builtin.delete_ #[T, kt'] ty #[.map (some b), .int kk i]).run P w = .ok (.tuple #[]) { w with heap := w.heap.setIfInBounds b (gO kk t' n) } := by
  have h0 := findNow_entG kk i t 0
  have hf : (Instr.findKey kt (.int kk i) (t.map (entG kk))).run P w = .ok (mfind i 0 (gl t)) w := run_findKey hT.key h0
  cases hm : mfind i 0 (gl t) with
  | none =>
    refine ⟨t, (mdel_no hm).symm, ?_⟩
    rw [hm] at hf
    simp [Builtin.delete_, run_underlying hT.map, run_getObj_g hb, run_checkKey hT.key (isKey_int kk i), hf, run_setObj_g _ hb, Result.andThen, gO]
  | some x =>
    obtain ⟨p, u⟩ := x
    obtain ⟨c, h3, h4, _⟩ := mfind_at (q := 0) (p := p) (by rw [hm, Nat.zero_add])
    refine ⟨_, h4, ?_⟩
    rw [hm] at hf
    have hp : p < (t.map (entG kk)).toArray.size := by
      have := (List.getElem?_eq_some_iff.1 h3).1
      simpa using this
    have e : (t.map (entG kk)).toArray.eraseIdxIfInBounds p = ((t.eraseIdx p).map (entG kk)).toArray := by
      unfold Array.eraseIdxIfInBounds
      rw [dif_pos hp]
      simp [erase_map]
    simp [Builtin.delete_, run_underlying hT.map, run_getObj_g hb, run_checkKey hT.key (isKey_int kk i), hf, run_setObj_g _ hb, Result.andThen, gO, erase_map]
section
variable {c : Cx} {Q : Exit → Act → World → Prop} {F F' : Fr} {K K' K0 : List Fact} {ops : Array Oper} {rest : List Oper} {d : Option Tmp} {ty : TypeId} {pos : String} {af : Array Edge} {g : Option (Nat × Bool)} {k fuel t nf : Nat}
theorem TL.mmG {T : TypeId} {kk : IntKind} (h : ∀ b, TL c ops Q rest ((t, .map (some b)) :: F) (.obj b (gO kk [] 0) :: K)) (hd : Nat.blt t c.n = true := by rfl) : TL c ops Q (⟨some t, .makeMap T none, ty, pos, af, none⟩ :: rest) F K :=
  TL.mm (kk := kk) h hd
theorem TL.muG {m x y : Operand} {T kt et : TypeId} {kk : IntKind} {b n : Nat} {i : Int} {v : Value} {l : Gl} (hT : MapT c.P T kt et kk) (h : ∀ l' n', gl l' = mput i v (gl l) → TL c ops Q rest F (.obj b (gO kk l' n') :: K')) (hm : ev F m = some (.map (some b)) := by rfl) (hx : ev F x = some (.int kk i) := by rfl) (hy : ev F y = some v := by rfl)
    (hp : Pick K (.obj b (gO kk l n)) K' := by repeat (first | exact Pick.hd | apply Pick.tl)) : TL c ops Q (⟨none, .mapUpdate T m x y, ty, pos, af, none⟩ :: rest) F K := fun a w hF hK => by
  have hs := hK.pick hp
  have hb : w.heap[b]? = some (gO kk l n) := (hs.holds (.obj b (gO kk l n)) (by simp)).1
  obtain ⟨l', n', hl, hr⟩ := run_mapUpdate_g (i := i) (v := v) hT hb
  refine wpList_skip rfl (w' := { w with heap := w.heap.setIfInBounds b (gO kk l' n') }) ?_ (h l' n' hl a _ hF (hs.turn ?_ (by simp [Fact.foot]) (fun q hq => .inl hq) ⟨(heap_set hb).1, rfl⟩))
  · simp [execOp, hF.evl hm, hF.evl hx, hF.evl hy, hr]
  · exact ⟨rfl, rfl, rfl, by simp, fun q _ hq => (heap_set hb).2 q (by simpa [Fact.foot] using hq)⟩
theorem TL.deG {m x : Operand} {T kt kt' et : TypeId} {kk : IntKind} {b n : Nat} {i : Int} {l : Gl} (hT : MapT c.P T kt et kk) (h : ∀ l', gl l' = mdel i (gl l) → TL c ops Q rest F (.obj b (gO kk l' n) :: K')) (hm : ev F m = some (.map (some b)) := by rfl) (hx : ev F x = some (.int kk i) := by rfl)
    (hp : Pick K (.obj b (gO kk l n)) K' := by repeat (first | exact Pick.hd | apply Pick.tl)) : TL c ops Q (⟨none, .call { callee := .builtin .delete, args := #[m, x], argTypes := #[T, kt'] }, ty, pos, af, none⟩ :: rest) F K := fun a w hF hK => by
  have hs := hK.pick hp
  have hb : w.heap[b]? = some (gO kk l n) := (hs.holds (.obj b (gO kk l n)) (by simp)).1
  obtain ⟨l', hl, hr⟩ := run_delete_g (i := i) (kt' := kt') (ty := ty) hT hb
  refine wpList_plain rfl fun Z hZ => ?_
  have hr2 : (execOp a.eval ⟨none, .call { callee := .builtin .delete, args := #[m, x], argTypes := #[T, kt'] }, ty, pos, af, none⟩).run c.P w = .ok (.value (.tuple #[])) { w with heap := w.heap.setIfInBounds b (gO kk l' n) } := by
    simp [execOp, resolve, invoke, builtin, hF.evl hm, hF.evl hx, hr]
  unfold Oper.wp
  rw [hr2]
  exact hZ _ _ (h l' hl a _ hF (hs.turn ⟨rfl, rfl, rfl, by simp, fun q _ hq => (heap_set hb).2 q (by simpa [Fact.foot] using hq)⟩ (by simp [Fact.foot]) (fun q hq => .inl hq) ⟨(heap_set hb).1, rfl⟩))
theorem Pu.lkG {x y : Operand} {T kt et : TypeId} {kk : IntKind} {b n : Nat} {i : Int} {z : Value} {l : Gl} (hT : MapT c.P T kt et kk) (hz : ∀ w, (zeroValue et).run c.P w = .ok z w) (hx : ev F x = some (.map (some b)) := by rfl) (hy : ev F y = some (.int kk i) := by rfl)
    (hp : Pick K (.obj b (gO kk l n)) K' := by repeat (first | exact Pick.hd | apply Pick.tl)) : Pu c F K ⟨d, .lookup T x y true, ty, pos, af, g⟩ (.tuple #[(mlook i (gl l)).getD z, .bool (mlook i (gl l)).isSome]) := fun a w hF hK => by
  have hb : w.heap[b]? = some (gO kk l n) := (hK.holds _ hp.mem).1
  have hr := run_lookup_g (i := i) hT hb (hz w) true
  simp [execOp, hF.evl hx, hF.evl hy, hr]
end
end Go.Proofs.YtljhdcclajikiaaGreatDoor
namespace Go.Proofs.YtljhdcclajikiaaGreatDoor
set_option linter.all false
set_option linter.unusedVariables false
set_option linter.unusedSimpArgs false
abbrev Asc (L : List Int) : Prop := L.Pairwise (· < ·)
theorem asc_getD {L : List Int} (h : Asc L) {j k : Nat} (hjk : j < k) (hk : k < L.length) : L.getD j 0 < L.getD k 0 := by
  have := List.pairwise_iff_getElem.1 h j k (by omega) hk hjk
  simpa [List.getD_eq_getElem?_getD, List.getElem?_eq_getElem hk, List.getElem?_eq_getElem (show j < L.length by omega)] using this
theorem asc_of {L : List Int} (h : ∀ k, k + 1 < L.length → L.getD k 0 < L.getD (k + 1) 0) : Asc L := by
  have key : ∀ d j, j + d + 1 < L.length → L.getD j 0 < L.getD (j + d + 1) 0 := by
    intro d
    induction d with
    | zero => exact fun j hj => h j hj
    | succ d ih => exact fun j hj => Int.lt_trans (ih j (by omega)) (h (j + d + 1) (by omega))
  refine List.pairwise_iff_getElem.2 fun j k hj hk hjk => ?_
  have := key (k - j - 1) j (by omega)
  rw [show j + (k - j - 1) + 1 = k by omega] at this
  simpa [List.getD_eq_getElem?_getD, List.getElem?_eq_getElem hk, List.getElem?_eq_getElem hj] using this
theorem asc_srt {L : List Int} (h : L.Nodup) : Asc (srt L) := by
  have h1 : (srt L).Pairwise (· ≠ ·) := ((srt_perm L).nodup_iff).2 h
  exact List.Pairwise.imp₂ (fun a b hle hne => Int.lt_iff_le_and_ne.2 ⟨hle, hne⟩) (srt_mono L) h1
theorem asc_nodup {L : List Int} (h : Asc L) : L.Nodup := h.imp fun h => Int.ne_of_lt h
theorem asc_le {L : List Int} (h : Asc L) : L.Pairwise (· ≤ ·) := h.imp Int.le_of_lt
theorem mem_take_getD {L : List Int} {x : Int} {i : Nat} (h : x ∈ L.take i) : ∃ j, j < i ∧ j < L.length ∧ x = L.getD j 0 := by
  obtain ⟨j, hj, e⟩ := List.getElem_of_mem h
  rw [List.length_take] at hj
  refine ⟨j, by omega, by omega, ?_⟩
  rw [List.getElem_take] at e
  rw [← e]
  simp [List.getD_eq_getElem?_getD, List.getElem?_eq_getElem (show j < L.length by omega)]
theorem sel_take {L : List Int} {b : Nat} {x : Int} : ∀ {i}, i ≤ L.length → x ∈ sel L b i → x ∈ L.take i
  | 0, _, h => by cases h
  | i + 1, hi, h => by
    rw [take_succ (by omega)]
    simp only [sel] at h
    split at h
    · rcases List.mem_append.1 h with h | h
      · exact List.mem_append.2 (.inl (sel_take (by omega) h))
      · exact List.mem_append.2 (.inr h)
    · exact List.mem_append.2 (.inl (sel_take (by omega) h))
theorem sel_asc {L : List Int} {b : Nat} (hL : Asc L) : ∀ {i}, i ≤ L.length → Asc (sel L b i)
  | 0, _ => List.Pairwise.nil
  | i + 1, hi => by
    have ih := sel_asc (b := b) hL (i := i) (by omega)
    simp only [sel]
    split
    · refine List.pairwise_append.2 ⟨ih, by simp, fun x hx y hy => ?_⟩
      obtain ⟨j, h1, h2, rfl⟩ := mem_take_getD (sel_take (by omega) hx)
      obtain rfl := List.mem_singleton.1 hy
      exact asc_getD hL h1 (by omega)
    · exact ih
def maskP (p : Int → Bool) (S : List Int) : Nat → Nat
  | 0 => 0
  | i + 1 => maskP p S i + if p (S.getD i 0) = true then 2 ^ i else 0
theorem maskP_lt {p : Int → Bool} {S : List Int} : ∀ i, maskP p S i < 2 ^ i
  | 0 => by simp [maskP]
  | i + 1 => by
    have := maskP_lt (p := p) (S := S) i
    simp only [maskP, Nat.pow_succ]
    split <;> omega
theorem sel_mask {p : Int → Bool} {S : List Int} : ∀ {i}, i ≤ S.length → ∀ {b : Nat}, b % 2 ^ i = maskP p S i → sel S b i = (S.take i).filter p
  | 0, _, _, _ => by simp [sel]
  | i + 1, hi, b, hb => by
    have h1 := maskP_lt (p := p) (S := S) i
    have h2 : b % 2 ^ i < 2 ^ i := Nat.mod_lt _ (Nat.two_pow_pos i)
    rw [Nat.pow_succ, Nat.mod_mul] at hb
    simp only [maskP] at hb
    rw [take_succ (by omega), List.filter_append]
    simp only [sel]
    rcases (show b / 2 ^ i % 2 = 0 ∨ b / 2 ^ i % 2 = 1 by omega) with hd | hd
    · rw [hd, Nat.mul_zero, Nat.add_zero] at hb
      have hp : p (S.getD i 0) = false := by
        cases hp : p (S.getD i 0) with
        | false => rfl
        | true => rw [hp, if_pos rfl] at hb; omega
      rw [hp] at hb
      rw [if_neg (by omega), sel_mask (by omega) (by simpa using hb), List.filter_cons, hp]
      simp
    · rw [hd, Nat.mul_one] at hb
      have hp : p (S.getD i 0) = true := by
        cases hp : p (S.getD i 0) with
        | true => rfl
        | false => rw [hp] at hb; simp at hb; omega
      rw [hp, if_pos rfl] at hb
      rw [if_pos hd, sel_mask (p := p) (by omega) (by omega), List.filter_cons, hp]
      simp
theorem asc_filter : ∀ {S M : List Int}, Asc S → Asc M → (∀ x ∈ M, x ∈ S) → S.filter (fun x => M.contains x) = M
  | [], M, _, _, h => by
    cases M with
    | nil => rfl
    | cons m M => cases h m (by simp)
  | s :: S, [], _, _, _ => by simp
  | s :: S, m :: M, hS, hM, h => by
    have hS1 := List.pairwise_cons.1 hS
    have hM1 := List.pairwise_cons.1 hM
    rcases List.mem_cons.1 (h m (by simp)) with e | hm
    · subst e
      have h1 : ∀ x ∈ M, x ∈ S := fun x hx => by
        rcases List.mem_cons.1 (h x (by simp [hx])) with e | hx'
        · have := hM1.1 x hx; omega
        · exact hx'
      rw [List.filter_cons, if_pos (by simp)]
      congr 1
      rw [← asc_filter hS1.2 hM1.2 h1]
      refine List.filter_congr fun x hx => ?_
      have h2 := hS1.1 x hx
      have : (x == m) = false := by simp; omega
      rw [List.contains_cons, this, Bool.false_or]
      rw [asc_filter hS1.2 hM1.2 h1]
    · have h2 := hS1.1 m hm
      have h3 : ∀ x ∈ m :: M, x ∈ S := fun x hx => by
        rcases List.mem_cons.1 (h x hx) with e | hx'
        · rcases List.mem_cons.1 hx with e2 | hx2
          · omega
          · have := hM1.1 x hx2; omega
        · exact hx'
      have h4 : s ∉ m :: M := fun hs => by
        rcases List.mem_cons.1 hs with e2 | hx2
        · omega
        · have := hM1.1 s hx2; omega
      rw [List.filter_cons, if_neg (by simpa using h4)]
      exact asc_filter hS1.2 hM h3
theorem sel_all {S M : List Int} (hS : Asc S) (hM : Asc M) (h : ∀ x ∈ M, x ∈ S) : ∃ q, q < 2 ^ S.length ∧ sel S q S.length = M := by
  refine ⟨maskP (fun x => M.contains x) S S.length, maskP_lt _, ?_⟩
  rw [sel_mask (p := fun x => M.contains x) (Nat.le_refl _) (Nat.mod_eq_of_lt (maskP_lt _)), List.take_length, asc_filter hS hM h]
theorem cmpV_lt {a b : Int} : cmpV a b < 0 ↔ a < b := by unfold cmpV; (repeat' split) <;> omega
theorem cmpV_eq {a b : Int} : cmpV a b = 0 ↔ a = b := by unfold cmpV; (repeat' split) <;> omega
theorem cmpI_cons {a b : Int} {xs ys : List Int} : cmpI (a :: xs) (b :: ys) < 0 ↔ a < b ∨ a = b ∧ cmpI xs ys < 0 := by
  simp only [cmpI]
  split
  · rename_i h
    rw [cmpV_eq] at h
    omega
  · rename_i h
    rw [cmpV_eq] at h
    rw [cmpV_lt]
    omega
theorem cmpI_trans : ∀ {x y z : List Int}, cmpI x y < 0 → cmpI y z < 0 → cmpI x z < 0
  | [], [], _, h, _ => by simp [cmpI] at h
  | [], _ :: _, [], _, h => by simp [cmpI] at h
  | [], _ :: _, _ :: _, _, _ => by simp [cmpI]
  | _ :: _, [], _, h, _ => by simp [cmpI] at h
  | _ :: _, _ :: _, [], _, h => by simp [cmpI] at h
  | a :: xs, b :: ys, c :: zs, h, k => by
    rw [cmpI_cons] at h k ⊢
    rcases h with h | ⟨h, h'⟩
    · rcases k with k | ⟨k, _⟩
      · exact .inl (by omega)
      · exact .inl (by omega)
    · rcases k with k | ⟨k, k'⟩
      · exact .inl (by omega)
      · exact .inr ⟨by omega, cmpI_trans h' k'⟩
theorem setRun_inv {L : List Int} {ok : List Int → Bool} : ∀ q,
    ((∀ p, p < q → ok (sel L p L.length) = false) ∧ setRun L ok q = ([], L.length + 1)) ∨
    (∃ p, p < q ∧ (setRun L ok q).1 = sel L p L.length ∧ (setRun L ok q).2 = (setRun L ok q).1.length ∧ ok (setRun L ok q).1 = true ∧
      ∀ p, p < q → ok (sel L p L.length) = true → (setRun L ok q).1.length < (sel L p L.length).length ∨ (setRun L ok q).1.length = (sel L p L.length).length ∧ ¬ cmpI (sel L p L.length) (setRun L ok q).1 < 0)
  | 0 => .inl ⟨fun p hp => by omega, rfl⟩
  | q + 1 => by
    have hq := sel_len (L := L) (b := q) L.length
    rcases setRun_inv (L := L) (ok := ok) q with ⟨h1, h2⟩ | ⟨p, hp, h1, h2, h3, h4⟩
    · simp only [setRun, setStep, h2]
      cases hok : ok (sel L q L.length) with
      | false =>
        refine .inl ⟨fun p hp => ?_, by simp⟩
        rcases (show p < q ∨ p = q by omega) with h | h
        · exact h1 p h
        · rw [h]; exact hok
      | true =>
        rw [if_pos ⟨.inl (by omega), rfl⟩]
        refine .inr ⟨q, by omega, rfl, rfl, hok, fun p hp hpo => ?_⟩
        rcases (show p < q ∨ p = q by omega) with h | h
        · rw [h1 p h] at hpo; cases hpo
        · rw [h]; exact .inr ⟨rfl, cmpI_irr⟩
    · generalize hs : setRun L ok q = s at *
      simp only [setRun, setStep, hs]
      split
      · rename_i hb
        refine .inr ⟨q, by omega, rfl, rfl, hb.2, fun p' hp' hpo => ?_⟩
        rcases (show p' < q ∨ p' = q by omega) with h | h
        · rcases h4 p' h hpo with h5 | ⟨h5, h6⟩
          · rcases hb.1 with h7 | ⟨h7, h8⟩
            · exact .inl (by show (sel L q L.length).length < _; omega)
            · exact .inl (by show (sel L q L.length).length < _; omega)
          · rcases hb.1 with h7 | ⟨h7, h8⟩
            · exact .inl (by show (sel L q L.length).length < _; omega)
            · exact .inr ⟨by show (sel L q L.length).length = _; omega, fun h9 => h6 (cmpI_trans h9 h8)⟩
        · rw [h]; exact .inr ⟨rfl, cmpI_irr⟩
      · rename_i hb
        refine .inr ⟨p, by omega, h1, h2, h3, fun p' hp' hpo => ?_⟩
        rcases (show p' < q ∨ p' = q by omega) with h | h
        · exact h4 p' h hpo
        · rw [h] at hpo ⊢
          have hb' : ¬ ((sel L q L.length).length < s.2 ∨ (sel L q L.length).length = s.2 ∧ cmpI (sel L q L.length) s.1 < 0) := fun h => hb ⟨h, hpo⟩
          rw [h2] at hb'
          by_cases hl : s.1.length < (sel L q L.length).length
          · exact .inl hl
          · exact .inr ⟨by omega, fun h => hb' (.inr ⟨by omega, h⟩)⟩
where
  cmpI_irr : ∀ {x : List Int}, ¬ cmpI x x < 0
    | [] => by simp [cmpI]
    | a :: xs => by
      rw [cmpI_cons]
      rintro (h | ⟨_, h⟩)
      · omega
      · exact cmpI_irr h
theorem best_cases {r0 r1 : Nat → Int} {b : Int} {L0 L1 : List Int} (hnd : (L0 ++ L1).Nodup) :
    (bestC r0 r1 b L0 L1 = 52 ∧ ∀ M, Asc M → (∀ x ∈ M, x ∈ L0 ∨ x ∈ L1) → mvOk r0 r1 b L0 L1 M = false) ∨
    (bestC r0 r1 b L0 L1 = 0 ∧ Asc (bestE r0 r1 b L0 L1).1 ∧ (∀ x ∈ (bestE r0 r1 b L0 L1).1, x ∈ L0 ∨ x ∈ L1) ∧ mvOk r0 r1 b L0 L1 (bestE r0 r1 b L0 L1).1 = true ∧
      ∀ M, Asc M → (∀ x ∈ M, x ∈ L0 ∨ x ∈ L1) → mvOk r0 r1 b L0 L1 M = true → (bestE r0 r1 b L0 L1).1.length < M.length ∨ (bestE r0 r1 b L0 L1).1.length = M.length ∧ ¬ cmpI M (bestE r0 r1 b L0 L1).1 < 0) := by
  have hS : Asc (sidesL L0 L1) := asc_srt hnd
  have hm : ∀ x, x ∈ sidesL L0 L1 ↔ x ∈ L0 ∨ x ∈ L1 := fun x => by unfold sidesL; rw [mem_srt, List.mem_append]
  have hl := sides_len (L0 := L0) (L1 := L1)
  have hall : ∀ M, Asc M → (∀ x ∈ M, x ∈ L0 ∨ x ∈ L1) → ∃ q, q < 2 ^ (L0.length + L1.length) ∧ sel (sidesL L0 L1) q (sidesL L0 L1).length = M := fun M h1 h2 => by
    obtain ⟨q, h3, h4⟩ := sel_all hS h1 fun x hx => (hm x).2 (h2 x hx)
    exact ⟨q, by rw [← hl]; exact h3, h4⟩
  unfold bestC bestE bestS
  rcases setRun_inv (L := sidesL L0 L1) (ok := mvOk r0 r1 b L0 L1) (2 ^ (L0.length + L1.length)) with ⟨h1, h2⟩ | ⟨p, hp, h1, h2, h3, h4⟩
  · rw [h2]
    refine .inl ⟨if_neg (by show ¬ (sidesL L0 L1).length + 1 ≤ _; omega), fun M k1 k2 => ?_⟩
    obtain ⟨q, k3, k4⟩ := hall M k1 k2
    rw [← k4]
    exact h1 q k3
  · refine .inr ⟨if_pos ?_, ?_, fun x hx => ?_, h3, fun M k1 k2 k3 => ?_⟩
    · rw [h2, h1]
      have := sel_len (L := sidesL L0 L1) (b := p) (sidesL L0 L1).length
      omega
    · rw [h1]; exact sel_asc hS (Nat.le_refl _)
    · rw [h1] at hx
      exact (hm x).1 (sel_mem (Nat.le_refl _) hx)
    · obtain ⟨q, k4, k5⟩ := hall M k1 k2
      rw [← k5] at k3 ⊢
      exact h4 q k4 k3
end Go.Proofs.YtljhdcclajikiaaGreatDoor
namespace Go.Proofs.YtljhdcclajikiaaGreatDoor
set_option linter.all false
set_option linter.unusedVariables false
set_option linter.unusedSimpArgs false
open Go.RowKit
def dg (P w : Nat) : Nat → Nat
  | 0 => w
  | m + 1 => dg P w m / P
section
variable {P np w m s : Nat}
end
section
variable {c : Cx} {F : Fr} {K : List Fact} {d : Option Tmp} {ty : TypeId} {pos : String} {af : Array Edge} {g : Option (Nat × Bool)} {x y : Operand} {xt yt : TypeId} {i j : Nat}
end
section
variable {P np w m k i : Nat} {A : Nat → Option Addr} {c : Nat → Nat} {A2 : Option Addr} {c2 : Nat}
end
end Go.Proofs.YtljhdcclajikiaaGreatDoor
namespace Go.Proofs.YtljhdcclajikiaaGreatDoor
set_option linter.all false
set_option linter.unusedVariables false
set_option linter.unusedSimpArgs false
theorem rise_asc {v : Nat → Int} {n : Nat} {N : Nat} : allB n (riseP v N) = true ↔ Asc (toI v n) ∧ InxL (toI v n) N := by
  constructor
  · intro h
    refine ⟨asc_of fun k hk => ?_, inxL_toI (rise_inx h)⟩
    rw [toI_len] at hk
    rw [toI_get (v := v) (k := k) (by omega), toI_get hk]
    have := allB_iff.1 h (k + 1) hk
    have h9 : lastV v (k + 1) = v k := rfl
    simp only [riseP, inB5, h9, Bool.and_eq_true, decide_eq_true_eq] at this
    omega
  · rintro ⟨h1, h2⟩
    refine allB_iff.2 fun k hk => ?_
    have h3 := h2 (v k) (by rw [← toI_get (v := v) hk]; exact mem_getD (by rw [toI_len]; exact hk))
    simp only [riseP, inB5, Bool.and_eq_true, decide_eq_true_eq]
    cases k with
    | zero => simp only [lastV]; omega
    | succ k =>
      have := asc_getD h1 (Nat.lt_succ_self k) (by rw [toI_len]; exact hk)
      rw [toI_get (v := v) (k := k) (by omega), toI_get hk] at this
      simp only [lastV]
      omega
section
variable {np : Nat} {pk : Nat → Nat → Int} {l : Nat → Nat} {v : Nat → Nat → Int} {b : Int} {M : List Int}
theorem check1_iff : check1 np pk l v = 0 ↔ packsOk np pk = true ∧ (∀ j, j < 3 → Asc (toI (v j) (l j)) ∧ InxL (toI (v j) (l j)) np) ∧ tot l 3 ≤ 10 ∧ (toI (v 0) (l 0) ++ toI (v 1) (l 1) ++ toI (v 2) (l 2)).Nodup := by
  have hh : held (fun _ => l) (fun _ => v) 1 = toI (v 0) (l 0) ++ toI (v 1) (l 1) ++ toI (v 2) (l 2) := rfl
  have ht : tiesOk np 1 (fun _ => l) (fun _ => v) = true ↔ (∀ j, j < 3 → Asc (toI (v j) (l j)) ∧ InxL (toI (v j) (l j)) np) ∧ tot l 3 ≤ 10 ∧ (toI (v 0) (l 0) ++ toI (v 1) (l 1) ++ toI (v 2) (l 2)).Nodup := by
    rw [ties_dup]
    unfold dupOk
    rw [hh]
    simp only [Bool.and_eq_true, decide_eq_true_eq, allB_iff]
    constructor
    · rintro ⟨h1, _, h2⟩
      have h3 := h1 0 (by omega)
      simp only [tieOk, Bool.and_eq_true, decide_eq_true_eq, allB_iff] at h3
      exact ⟨fun j hj => rise_asc.1 (allB_iff.2 (h3.1 j hj)), h3.2, h2⟩
    · rintro ⟨h1, h2, h3⟩
      refine ⟨fun i _ => ?_, by decide, h3⟩
      simp only [tieOk, Bool.and_eq_true, decide_eq_true_eq]
      exact ⟨allB_iff.2 fun j hj => rise_asc.2 (h1 j hj), h2⟩
  unfold check1 checkV
  constructor
  · intro h
    split at h
    · rename_i hp
      split at h
      · rename_i h2
        exact ⟨hp, ht.1 h2⟩
      · cases h
    · cases h
  · rintro ⟨h1, h2⟩
    rw [if_pos h1, if_pos (ht.2 h2)]
theorem mvd_perm {S C : List Int} : (mvd S C M ++ mvd C S M).Perm (S ++ C) := by
  unfold mvd
  refine ((srt_perm _).append (srt_perm _)).trans ?_
  have h1 := List.filter_append_perm (fun x => M.contains x) S
  have h2 := List.filter_append_perm (fun x => M.contains x) C
  refine List.Perm.trans ?_ (h1.append h2)
  generalize S.filter (fun x => !M.contains x) = s1
  generalize S.filter (fun x => M.contains x) = s2
  generalize C.filter (fun x => !M.contains x) = c1
  generalize C.filter (fun x => M.contains x) = c2
  -- (s1 ++ c2) ++ (c1 ++ s2) ~ (s2 ++ s1) ++ (c2 ++ c1)
  have e1 : (s1 ++ c2 ++ (c1 ++ s2)).Perm ((c1 ++ s2) ++ (s1 ++ c2)) := List.perm_append_comm
  refine e1.trans ?_
  rw [List.append_assoc]
  refine (List.perm_append_comm (l₁ := c1)).trans ?_
  simp only [List.append_assoc]
  exact List.Perm.refl _
theorem mvd_asc {S C : List Int} (h : (S ++ C).Nodup) : Asc (mvd S C M) := by
  have h1 := (mvd_perm (M := M)).nodup_iff.2 h
  have h2 : (mvd S C M).Nodup := (List.nodup_append.1 h1).1
  unfold mvd at h2 ⊢
  exact asc_srt ((srt_perm _).nodup_iff.1 h2)
end
end Go.Proofs.YtljhdcclajikiaaGreatDoor
namespace Go.Proofs.YtljhdcclajikiaaGreatDoor
set_option linter.all false
set_option linter.unusedVariables false
set_option linter.unusedSimpArgs false
open Go.RowKit
theorem flatT_held {l : Nat → Nat → Nat} {v : Nat → Nat → Nat → Int} : ∀ m, flatT (T0 l v) (3 * m) = held l v m
  | 0 => rfl
  | m + 1 => by
    rw [show 3 * (m + 1) = 3 * m + 3 from rfl]
    simp only [flatT, flatT_held m, held]
    have e0 : T0 l v (3 * m) = toI (v m 0) (l m 0) := T0_at (k := 0) (by omega)
    have e1 : T0 l v (3 * m + 1) = toI (v m 1) (l m 1) := T0_at (by omega)
    have e2 : T0 l v (3 * m + 2) = toI (v m 2) (l m 2) := T0_at (by omega)
    rw [e0, e1, e2, List.append_assoc, List.append_assoc]
    congr 1
    simp only [lsts, lst, List.nil_append, List.append_assoc]
    rfl
theorem asc_same {L M : List Int} (hL : Asc L) (hM : Asc M) (h : ∀ x, x ∈ L ↔ x ∈ M) : L = M := by
  have h1 := asc_filter hL hM fun x hx => (h x).2 hx
  have h2 : L.filter (fun x => M.contains x) = L := List.filter_eq_self.2 fun x hx => List.contains_iff_mem.2 ((h x).1 hx)
  rw [← h2]
  exact h1
theorem nodup_len {L M : List Int} (hL : L.Nodup) (hM : M.Nodup) (h : ∀ x, x ∈ L ↔ x ∈ M) : L.length = M.length := by
  have := asc_same (asc_srt hL) (asc_srt hM) fun x => by rw [mem_srt, mem_srt]; exact h x
  rw [← srt_len L, ← srt_len M, this]
def putsTo (P : Nat → Nat → Int) : Nat → Nat → List Int
  | 0, _ => []
  | k + 1, s => if putS (P k) = s then putsTo P k s ++ [P k 0] else putsTo P k s
theorem putT_form {T : Nat → List Int} {P : Nat → Nat → Int} {s : Nat} (hm : (T s).Pairwise (· ≤ ·)) : ∀ k, (putT T P k s).Perm (T s ++ putsTo P k s) ∧ (putT T P k s).Pairwise (· ≤ ·)
  | 0 => by simp only [putT, putsTo, List.append_nil]; exact ⟨List.Perm.refl _, hm⟩
  | k + 1 => by
    obtain ⟨h1, h2⟩ := putT_form (P := P) hm k
    simp only [putT, putsTo, updN]
    by_cases h : putS (P k) = s
    · rw [if_pos h.symm, if_pos h]
      subst h
      refine ⟨(srt_perm _).trans ?_, srt_mono _⟩
      rw [← List.append_assoc]
      exact h1.append_right _
    · rw [if_neg (fun e => h e.symm), if_neg h]
      exact ⟨h1, h2⟩
section
variable {np m nP : Nat} {pk : Nat → Nat → Int} {l : Nat → Nat → Nat} {v : Nat → Nat → Nat → Int} {F : List Int} {P : Nat → Nat → Int}
theorem trd_check (h : checkV np pk m l v = 0) : m ≤ 8 ∧ np ≤ 30 ∧ (flatT (T0 l v) (3 * m)).Nodup ∧ ∀ s, s < 3 * m → Asc (T0 l v s) ∧ InxL (T0 l v s) np ∧ (T0 l v s).length ≤ 10 := by
  obtain ⟨h1, h2, h3⟩ := check_ok h
  have h4 : tiesOk np m l v = true := by
    unfold checkV at h
    split at h
    · split at h
      · assumption
      · cases h
    · cases h
  rw [ties_dup] at h4
  unfold dupOk at h4
  simp only [Bool.and_eq_true, decide_eq_true_eq] at h4
  refine ⟨by omega, h1, by rw [flatT_held]; exact h4.2.2, fun s hs => ?_⟩
  obtain ⟨a1, a2⟩ := T0_bd h3 s hs
  exact ⟨(rise_asc.1 ((h3 (s / 3) (by omega)).1 (s % 3) (by omega))).1, a1, a2⟩
end
end Go.Proofs.YtljhdcclajikiaaGreatDoor
