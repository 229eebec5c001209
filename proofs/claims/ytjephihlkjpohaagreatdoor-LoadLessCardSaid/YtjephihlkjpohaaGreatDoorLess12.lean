/-
  Part 12 of the proof of loadLess_holds: declarations of several texts, in build order. No condition on a program.
-/
import Derived.Test.YtjephihlkjpohaaGreatDoorLess11
import Derived.Test.YtjephihlkjpohaaGreatDoorLess04
import Derived.Test.YtjephihlkjpohaaGreatDoorLess06
import Derived.Test.YtjephihlkjpohaaGreatDoorLess07
namespace Go.Proofs.YtjephihlkjpohaaGreatDoor
set_option linter.all false
set_option linter.unusedVariables false
set_option linter.unusedSimpArgs false
open Go.RowKit
set_option maxRecDepth 100000 in
theorem eStow2 : sln 3 4 (stowB 4 balP 1 (fun _ => 80) (fun k => (k : Int) + 1) 15).way 0 = 1 ∧ sln 3 4 (stowB 4 balP 1 (fun _ => 80) (fun k => (k : Int) + 1) 15).way 1 = 1 ∧ svl 3 4 (stowB 4 balP 1 (fun _ => 80) (fun k => (k : Int) + 1) 15).way 0 0 = 2 ∧ svl 3 4 (stowB 4 balP 1 (fun _ => 80) (fun k => (k : Int) + 1) 15).way 1 0 = 3 := by decide +kernel
theorem CallsK.to {P : Program} {f : FuncId} {args : Array Value} {M : List Fact} {w : World} {X : Type} {val val2 : X → Value} {L L2 : X → List Fact} (h : CallsK P f args M w X val L) (hv : ∀ x, val x = val2 x) (hL : ∀ x, KSub (L x) (L2 x)) : CallsK P f args M w X val2 L2 :=
  h.mono fun _ _ ⟨x, e, hs⟩ => ⟨x, by rw [e, hv], hs.sub (hL x)⟩
theorem restSalt (w : World) (hG : None0 w) : Calls Tryz.prog 23 #[.agg (packL (sltP 150)).toArray] w (Ret w (.tuple #[.agg #[.int .i64 36000, .int .i64 41000], .agg #[.int .i64 0, .int .i64 4100], .int .u8 1, .int .i64 0])) := by
  have h := rest_any (sltP 150) w hG
  rw [eSalt] at h
  exact h
theorem restWater (w : World) (hG : None0 w) : Calls Tryz.prog 23 #[.agg (packL (watP 55)).toArray] w (Ret w (.tuple #[.agg #[.int .i64 0, .int .i64 2500], .agg #[.int .i64 27500, .int .i64 30000], .int .u8 0, .int .i64 0])) := by
  have h := rest_any (watP 55) w hG
  rw [eWater] at h
  exact h
theorem balEx {w : World} {A A0 A1 : Option Addr} {cp c0 c1 : Nat} (hG : None0 w) (hR : RdR w 11 A 4 (fun k => packL (balP k))) (h0 : RdR w 1 A0 2 (iL [0, 1])) (h1 : RdR w 1 A1 1 (iL [3])) :
    Calls Tryz.prog 28 #[.slice A 4 cp, .agg #[.slice A0 2 c0, .slice A1 1 c1, .slice none 0 0], .int .i64 15] w (Ret w (.tuple #[.int .u8 2, .int .i64 0])) := by
  have h := loadBalance_any (cp := cp) (c := prC c0 c1) (b := 15) (lay_pair (L0 := [0, 1]) (L1 := [3]) hG hR h0 h1 (by decide))
  rw [eBal.1, eBal.2] at h
  exact h
theorem setEx {w : World} {A A0 : Option Addr} {cp c0 : Nat} (hG : None0 w) (hR : RdR w 11 A 4 (fun k => packL (balP k))) (h0 : RdR w 1 A0 4 (iL [0, 1, 2, 3])) :
    CallsK Tryz.prog 19 #[.slice A 4 cp, .agg #[.slice A0 4 c0, .slice none 0 0, .slice none 0 0], .int .i64 5] [] w (Option Addr × Nat) (fun y => .tuple #[.slice y.1 2 y.2, .int .i64 0]) (fun y => [.own y.1 2 y.2 3 1 (iL [0, 3])]) := by
  have h := loadSettle_any (cp := cp) (c := prC c0 0) (b := 5) (lay_pair (L0 := [0, 1, 2, 3]) (L1 := []) (A1 := none) hG hR h0 ⟨Rd.nil, fun i hi => rfl⟩ (by decide))
  rw [eSet.1, eSet.2] at h
  exact h
theorem readyEx {w : World} {A A0 A1 : Option Addr} {cp c0 c1 : Nat} (hG : None0 w) (hR : RdR w 11 A 4 (fun k => packL (balP k))) (h0 : RdR w 1 A0 2 (iL [0, 1])) (h1 : RdR w 1 A1 1 (iL [2])) :
    Calls Tryz.prog 35 #[.agg (breedL strB).toArray, .agg (camL strC false).toArray, .slice A 4 cp, .agg #[.slice A0 2 c0, .slice A1 1 c1, .slice none 0 0], .int .i64 0] w (Ret w (.tuple #[.int .u8 2, .int .i64 0])) := by
  have h := loadReady_any (cp := cp) (c := prC c0 c1) (b := 0) (f := strB) (g := strC) (m := false) (lay_pair (L0 := [0, 1]) (L1 := [2]) hG hR h0 h1 (by decide))
  rw [eReady.1, eReady.2] at h
  exact h
theorem lays_pair {w : World} {A A2 A0 A1 : Option Addr} {c0 c1 : Nat} {L0 L1 : List Int} (hG : None0 w) (hR : RdR w 11 A 4 (fun k => packL (balP k))) (hT : RdR w 3 A2 1 (fun _ => tieL (prA A0 A1) (prL' L0 L1) (prC c0 c1))) (h0 : RdR w 1 A0 L0.length (iL L0)) (h1 : RdR w 1 A1 L1.length (iL L1)) (hl : L0.length + L1.length ≤ 1000) :
    Lay w A A2 4 1 balP (fun _ => prA A0 A1) (fun _ => prL' L0 L1) (fun _ => prC c0 c1) (fun _ => prV L0 L1) :=
  have h := lay_pair hG hR h0 h1 hl
  ⟨hG, by decide, by decide, hR, hT, fun _ _ => h.hI, fun _ _ => h.hL⟩
set_option maxRecDepth 100000 in
theorem tradeEx {w : World} {A A2 Af AP A0 A1 : Option Addr} {cp cT cf cP c0 c1 : Nat} (hG : None0 w) (hR : RdR w 11 A 4 (fun k => packL (balP k))) (hT : RdR w 3 A2 1 (fun _ => tieL (prA A0 A1) (prL' [0, 1] [2]) (prC c0 c1))) (h0 : RdR w 1 A0 2 (iL [0, 1])) (h1 : RdR w 1 A1 1 (iL [2]))
    (hF : RdR w 1 Af 1 (iL [1])) (hP : RdR w 3 AP 1 (fun _ => putL (onP 0))) :
    CallsK Tryz.prog 15 #[.slice A 4 cp, .slice A2 1 cT, .slice Af 1 cf, .slice AP 1 cP, .int .i64 5] [] w TRx (fun z => .tuple #[.slice z.1.1.1 1 z.1.1.2, .slice z.2.1 1 z.2.2, .int .i64 0])
      (fun z => [.own z.2.1 1 z.2.2 3 1 (iL [0]), .own z.1.1.1 1 z.1.1.2 36 3 (fun _ => tieL z.1.2.1 (prL' [3] [0, 2]) z.1.2.2), .own (z.1.2.1 1) 2 (z.1.2.2 1) 3 1 (iL [0, 2]), .own (z.1.2.1 0) 1 (z.1.2.2 0) 3 1 (iL [3])]) := by
  have h := loadTrade_any (cp := cp) (cT := cT) (nf := 1) (cf := cf) (cP := cP) (F := [1]) (P := fun _ => onP 0) (b := 5) (lays_pair (L0 := [0, 1]) (L1 := [2]) hG hR hT h0 h1 (by decide)) hF rfl (by decide) hP (by decide) (by decide)
  have hN : tradeN 4 balP 1 (fun _ => prL' [0, 1] [2]) (fun _ => prV [0, 1] [2]) [1] (fun _ => onP 0) 1 5 = 1 := by unfold tradeN; rw [if_pos eTrade.1]
  rw [eTrade.1, eTrade.2, hN] at h
  refine h.to (fun _ => rfl) fun z => ?_
  refine KSub.cons Pick.hd ?_
  refine KSub.own Pick.hd (fun i hi => ?_) ?_
  · obtain rfl : i = 0 := by omega
    unfold tieX
    show [Value.slice (z.1.2.1 0) (tradeT balP 1 _ _ [1] _ 1 5 0).length (z.1.2.2 0), .slice (z.1.2.1 1) (tradeT balP 1 _ _ [1] _ 1 5 1).length (z.1.2.2 1), .slice (z.1.2.1 2) (tradeT balP 1 _ _ [1] _ 1 5 2).length (z.1.2.2 2)] = _
    rw [eTrade2.1, eTrade2.2.1, eTrade2.2.2]
    rfl
  show KSub [Fact.own (z.1.2.1 2) (tradeT balP 1 _ _ [1] _ 1 5 2).length (z.1.2.2 2) 3 1 (iL (tradeT balP 1 _ _ [1] _ 1 5 2)), .own (z.1.2.1 1) (tradeT balP 1 _ _ [1] _ 1 5 1).length (z.1.2.2 1) 3 1 (iL (tradeT balP 1 _ _ [1] _ 1 5 1)), .own (z.1.2.1 0) (tradeT balP 1 _ _ [1] _ 1 5 0).length (z.1.2.2 0) 3 1 (iL (tradeT balP 1 _ _ [1] _ 1 5 0))] _
  rw [eTrade2.1, eTrade2.2.1, eTrade2.2.2]
  exact KSub.drop (KSub.refl _)
set_option maxRecDepth 100000 in
theorem stowEx {w : World} {A Ac Av : Option Addr} {cp cc cv : Nat} (hG : None0 w) (hR : RdR w 11 A 4 (fun k => packL (balP k))) (hC : RdR w 1 Ac 1 (fun _ => [.int .i64 80])) (hV : RdR w 1 Av 4 (fun k => [.int .i64 ((k : Int) + 1)])) :
    CallsK Tryz.prog 37 #[.slice A 4 cp, .slice Ac 1 cc, .slice Av 4 cv, .int .i64 15] [] w TX (fun x => .tuple #[.slice x.1.1 1 x.1.2, .int .i64 7, .int .i64 0])
      (fun x => [.own x.1.1 1 x.1.2 36 3 (fun _ => tieL (prA (x.2.1 0) (x.2.1 1)) (prL' [2] [3]) (prC (x.2.2 0) (x.2.2 1))), .own (x.2.1 1) 1 (x.2.2 1) 3 1 (iL [3]), .own (x.2.1 0) 1 (x.2.2 0) 3 1 (iL [2])]) := by
  have h := loadStow_any (cp := cp) (cc := cc) (cv := cv) (cans := fun _ => 80) (wv := fun k => (k : Int) + 1) (b := 15) hG (by decide) (by decide) (by decide) hR hC hV
  rw [eStow.1, eStow.2.1, eStow.2.2] at h
  refine h.to (fun _ => rfl) fun x => ?_
  refine KSub.own Pick.hd (fun i hi => ?_) ?_
  · obtain rfl : i = 0 := by omega
    show [Value.slice (x.2.1 0) (sln 3 4 _ 0) (x.2.2 0), .slice (x.2.1 1) (sln 3 4 _ 1) (x.2.2 1), .slice none 0 0] = _
    rw [eStow2.1, eStow2.2.1]
    rfl
  show KSub [Fact.own (x.2.1 1) (sln 3 4 _ 1) (x.2.2 1) 3 1 (fun k => [.int .i64 (svl 3 4 _ 1 k)]), .own (x.2.1 0) (sln 3 4 _ 0) (x.2.2 0) 3 1 (fun k => [.int .i64 (svl 3 4 _ 0 k)])] _
  rw [eStow2.1, eStow2.2.1]
  refine KSub.own Pick.hd (fun i hi => ?_) (KSub.own Pick.hd (fun i hi => ?_) KSub.nil)
  · obtain rfl : i = 0 := by omega
    exact congrArg (fun z => [Value.int .i64 z]) eStow2.2.2.2
  · obtain rfl : i = 0 := by omega
    exact congrArg (fun z => [Value.int .i64 z]) eStow2.2.2.1
theorem sameEx {w : World} {A B : Option Addr} {cA cB : Nat} {a b : Nat → Option Addr} {c d : Nat → Nat} {L0 L1 : List Int} (hl : L0.length + L1.length ≤ 1000) (hA : RdR w 3 A 1 (fun _ => tieL a (prL' L0 L1) c)) (hB : RdR w 3 B 1 (fun _ => tieL b (prL' L0 L1) d))
    (h0 : RdR w 1 (a 0) L0.length (iL L0)) (h1 : RdR w 1 (a 1) L1.length (iL L1)) (k0 : RdR w 1 (b 0) L0.length (iL L0)) (k1 : RdR w 1 (b 1) L1.length (iL L1)) : Calls Tryz.prog 17 #[.slice A 1 cA, .slice B 1 cB] w (Ret w (.bool true)) :=
  sameTies_any (a := fun _ => a) (b := fun _ => b) (l := fun _ => prL' L0 L1) (c := fun _ => c) (d := fun _ => d) (v := fun _ => prV L0 L1) (by decide) (fun i hi => by rw [tot3]; show L0.length + L1.length + 0 ≤ 1000; omega) hA hB
    (fun i hi j hj => by
      have : j = 0 ∨ j = 1 ∨ j = 2 := by omega
      rcases this with rfl | rfl | rfl
      · exact h0
      · exact h1
      · exact ⟨Rd.nil, fun i hi => by cases hi⟩)
    (fun i hi j hj => by
      have : j = 0 ∨ j = 1 ∨ j = 2 := by omega
      rcases this with rfl | rfl | rfl
      · exact k0
      · exact k1
      · exact ⟨Rd.nil, fun i hi => by cases hi⟩)
theorem sameEx2 {w : World} {A B0 B1 : Option Addr} {b cA cB c0 c1 : Nat} {T : TypeId} {a : Nat → Option Addr} {c : Nat → Nat} {L0 L1 : List Int} (hl : L0.length + L1.length ≤ 1000) (hA : RdR w 3 A 1 (fun _ => tieL a (prL' L0 L1) c)) (hB : Blk w b T #[.slice B0 L0.length c0, .slice B1 L1.length c1, .slice none 0 0])
    (h0 : RdR w 1 (a 0) L0.length (iL L0)) (h1 : RdR w 1 (a 1) L1.length (iL L1)) (k0 : RdR w 1 B0 L0.length (iL L0)) (k1 : RdR w 1 B1 L1.length (iL L1)) : Calls Tryz.prog 17 #[.slice A 1 cA, .slice (some ⟨b, 0, none⟩) 1 cB] w (Ret w (.bool true)) :=
  sameEx (b := prA B0 B1) (d := prC c0 c1) hl hA (RdR.blk (cs := [_, _, _]) hB rfl (fun _ _ => rfl)) h0 h1 k0 k1
theorem sameIEx {w : World} {A B : Option Addr} {n cA cB : Nat} {L : List Int} (hn : L.length ≤ 1000) (hk : n = L.length) (hA : RdR w 1 A n (iL L)) (hB : RdR w 1 B n (iL L)) : Calls Tryz.prog 18 #[.slice A n cA, .slice B n cB] w (Ret w (.bool true)) := by
  have h := sameInts_any (c1 := cA) (c2 := cB) (v1 := fun k => L.getD k 0) (v2 := fun k => L.getD k 0) (by omega) hA hB
  rw [sameI_self] at h
  exact h
end Go.Proofs.YtjephihlkjpohaaGreatDoor
namespace Go.Proofs.YtjephihlkjpohaaGreatDoor
set_option linter.all false
set_option linter.unusedVariables false
set_option linter.unusedSimpArgs false
open Go.RowKit
set_option maxRecDepth 100000 in
set_option maxHeartbeats 4000000 in
theorem alive_any (w : World) (hG : None0 w) : Calls Tryz.prog 21 #[] w (Ret w (.bool true)) := by
  refine K_enter (S := []) (K := []) Tryz.func21 rfl Tryz.ntmps21 rfl (Sat.start _) ?_
  refine TW.seq fun Y1 hY1 => ?_
  refine TW.region ?_
  refine TL.p Pu.as ?_
  refine TL.nil ?_
  refine TQ.thenN (hY1 _ _ ?_)
  refine TW.seq fun Y2 hY2 => ?_
  refine TW.region ?_
  refine TL.cr rfl (enters Tryz.func41 rfl rfl) (fun w hw => by
      exact salt_any _ _) ?_
  refine TL.cr rfl (enters Tryz.func23 rfl rfl) (fun w hw => by
      exact restSalt _ (hG.sat hw (by simp))) ?_
  refine TL.p Pu.mv ?_
  refine TL.p Pu.ex ?_
  refine TL.p Pu.ex ?_
  refine TL.p Pu.ex ?_
  refine TL.p Pu.ex ?_
  refine TL.m (Mk.al ty_zr43) ?_
  intro b1
  refine TL.m (Mk.al ty_zr43) ?_
  intro b2
  first | refine TL.st ty_sz43 ?_ | refine TL.se ty_sz43 ?_
  first | refine TL.st ty_sz43 ?_ | refine TL.se ty_sz43 ?_
  refine TL.p Pu.as ?_
  refine TL.p Pu.as ?_
  refine TL.nil ?_
  refine TQ.thenN (hY2 _ _ ?_)
  refine TW.seq fun Y3 hY3 => ?_
  refine TW.region ?_
  refine TL.cr rfl (enters Tryz.func42 rfl rfl) (fun w hw => by
      exact water_any _ _) ?_
  refine TL.cr rfl (enters Tryz.func23 rfl rfl) (fun w hw => by
      exact restWater _ (hG.sat hw (by simp))) ?_
  refine TL.p Pu.mv ?_
  refine TL.p Pu.ex ?_
  refine TL.p Pu.ex ?_
  refine TL.p Pu.ex ?_
  refine TL.p Pu.ex ?_
  refine TL.m (Mk.al ty_zr43) ?_
  intro b3
  refine TL.m (Mk.al ty_zr43) ?_
  intro b4
  first | refine TL.st ty_sz43 ?_ | refine TL.se ty_sz43 ?_
  first | refine TL.st ty_sz43 ?_ | refine TL.se ty_sz43 ?_
  refine TL.p Pu.as ?_
  refine TL.p Pu.as ?_
  refine TL.nil ?_
  refine TQ.thenN (hY3 _ _ ?_)
  refine TW.seq fun Y4 hY4 => ?_
  refine TW.region ?_
  refine TL.call (M := []) rfl (enters Tryz.func43 rfl rfl) (List.Perm.refl _) rfl (fun w hw => by
      exact bales_any _) ?_
  rintro ⟨B1, e1⟩
  refine TL.m Mk.bl ?_
  intro b5
  refine TL.m Mk.bl ?_
  intro b6
  refine TL.cr rfl (enters Tryz.func44 rfl rfl) (fun w hw => by
      exact pair_any _ _ _ _ _ _ _) ?_
  refine TL.cr rfl (enters Tryz.func28 rfl rfl) (fun w hw => by
      exact balEx (hG.sat hw (by simp)) (OwnR.rdr (hw.holds (.own B1 4 e1 45 11 (fun k => packL (balP k))) (by simp))) (RdR.blk (hw.holds (.blk b5 3 [.int .i64 0, .int .i64 1]) (by simp)) rfl (fun _ _ => rfl)) (RdR.blk (hw.holds (.blk b6 3 [.int .i64 3]) (by simp)) rfl (fun _ _ => rfl))) ?_
  refine TL.p Pu.mv ?_
  refine TL.p Pu.ex ?_
  refine TL.p Pu.ex ?_
  refine TL.p Pu.as ?_
  refine TL.p Pu.as ?_
  refine TL.nil ?_
  refine TQ.thenN (hY4 _ _ ?_)
  refine TW.seq fun Y5 hY5 => ?_
  refine TW.region ?_
  refine TL.call (M := []) rfl (enters Tryz.func43 rfl rfl) (List.Perm.refl _) rfl (fun w hw => by
      exact bales_any _) ?_
  rintro ⟨B1, e1⟩
  refine TL.m Mk.bl ?_
  intro b7
  refine TL.cr rfl (enters Tryz.func44 rfl rfl) (fun w hw => by
      exact pair_any _ _ _ _ _ _ _) ?_
  refine TL.call (M := []) rfl (enters Tryz.func19 rfl rfl) (List.Perm.refl _) rfl (fun w hw => by
      exact setEx (hG.sat hw (by simp)) (OwnR.rdr (hw.holds (.own B1 4 e1 45 11 (fun k => packL (balP k))) (by simp))) (RdR.blk (hw.holds (.blk b7 3 [.int .i64 0, .int .i64 1, .int .i64 2, .int .i64 3]) (by simp)) rfl (fun _ _ => rfl))) ?_
  rintro ⟨Q1, q1⟩
  refine TL.p Pu.mv ?_
  refine TL.p Pu.ex ?_
  refine TL.p Pu.ex ?_
  refine TL.p Pu.as ?_
  refine TL.p Pu.as ?_
  refine TL.nil ?_
  refine TQ.thenN (hY5 _ _ ?_)
  refine TW.seq fun Y6 hY6 => ?_
  refine TW.region ?_
  refine TL.call (M := []) rfl (enters Tryz.func43 rfl rfl) (List.Perm.refl _) rfl (fun w hw => by
      exact bales_any _) ?_
  rintro ⟨B1, e1⟩
  refine TL.m Mk.bl ?_
  intro b8
  refine TL.m Mk.bl ?_
  intro b9
  refine TL.cr rfl (enters Tryz.func44 rfl rfl) (fun w hw => by
      exact pair_any _ _ _ _ _ _ _) ?_
  refine TL.m Mk.bl ?_
  intro b10
  refine TL.m Mk.bl ?_
  intro b11
  refine TL.p Pu.bd ?_
  refine TL.m Mk.bl ?_
  intro b12
  refine TL.call (M := []) rfl (enters Tryz.func15 rfl rfl) (List.Perm.refl _) rfl (fun w hw => by
      exact tradeEx (hG.sat hw (by simp)) (OwnR.rdr (hw.holds (.own B1 4 e1 45 11 (fun k => packL (balP k))) (by simp))) (RdR.blk (hw.holds (.blk b10 36 [.slice (some ⟨b8, 0, none⟩) 2 2, .slice (some ⟨b9, 0, none⟩) 1 1, .slice none 0 0]) (by simp)) rfl (fun _ _ => rfl)) (RdR.blk (hw.holds (.blk b8 3 [.int .i64 0, .int .i64 1]) (by simp)) rfl (fun _ _ => rfl)) (RdR.blk (hw.holds (.blk b9 3 [.int .i64 2]) (by simp)) rfl (fun _ _ => rfl)) (RdR.blk (hw.holds (.blk b11 3 [.int .i64 1]) (by simp)) rfl (fun _ _ => rfl)) (RdR.blk (hw.holds (.blk b12 66 [.int .i64 3, .int .i64 0, .int .u8 0]) (by simp)) rfl (fun _ _ => rfl))) ?_
  rintro ⟨⟨⟨An, cn⟩, X, D⟩, ⟨Am, cm⟩⟩
  refine TL.p Pu.mv ?_
  refine TL.p Pu.ex ?_
  refine TL.p Pu.ex ?_
  refine TL.p Pu.ex ?_
  refine TL.p Pu.as ?_
  refine TL.p Pu.as ?_
  refine TL.p Pu.as ?_
  refine TL.nil ?_
  refine TQ.thenN (hY6 _ _ ?_)
  refine TW.seq fun Y7 hY7 => ?_
  refine TW.region ?_
  refine TL.call (M := []) rfl (enters Tryz.func43 rfl rfl) (List.Perm.refl _) rfl (fun w hw => by
      exact bales_any _) ?_
  rintro ⟨B1, e1⟩
  refine TL.m Mk.bl ?_
  intro b13
  refine TL.m Mk.bl ?_
  intro b14
  refine TL.call (M := []) rfl (enters Tryz.func37 rfl rfl) (List.Perm.refl _) rfl (fun w hw => by
      exact stowEx (hG.sat hw (by simp)) (OwnR.rdr (hw.holds (.own B1 4 e1 45 11 (fun k => packL (balP k))) (by simp))) (RdR.blk (hw.holds (.blk b13 3 [.int .i64 80]) (by simp)) rfl (fun _ _ => rfl)) (RdR.blk (hw.holds (.blk b14 3 [.int .i64 1, .int .i64 2, .int .i64 3, .int .i64 4]) (by simp)) rfl (fun _ _ => rfl))) ?_
  rintro ⟨⟨Sn, sn⟩, Y, E⟩
  refine TL.p Pu.mv ?_
  refine TL.p Pu.ex ?_
  refine TL.p Pu.ex ?_
  refine TL.p Pu.ex ?_
  refine TL.p Pu.as ?_
  refine TL.p Pu.as ?_
  refine TL.p Pu.as ?_
  refine TL.nil ?_
  refine TQ.thenN (hY7 _ _ ?_)
  refine TW.seq fun Y8 hY8 => ?_
  refine TW.region ?_
  refine TL.cr rfl (enters Tryz.func61 rfl rfl) (fun w hw => by
      exact strong_any _) ?_
  refine TL.p Pu.mv ?_
  refine TL.p Pu.ex ?_
  refine TL.p Pu.ex ?_
  refine TL.m (Mk.al ty_zr79) ?_
  intro b15
  refine TL.m (Mk.al ty_zr81) ?_
  intro b16
  first | refine TL.st ty_sz79 ?_ | refine TL.se ty_sz79 ?_
  first | refine TL.st ty_sz81 ?_ | refine TL.se ty_sz81 ?_
  refine TL.nil ?_
  refine TQ.thenN (hY8 _ _ ?_)
  refine TW.seq fun Y9 hY9 => ?_
  as_aux_lemma =>
    refine TW.expl (fun (e1 : Nat) => ([(22, .int .i64 0), (21, .int .u8 2), (18, .int .i64 0), (17, .int .i64 7), (16, .slice Sn 1 sn), (15, .int .i64 0), (14, .slice Am 1 cm), (13, .slice An 1 cn), (12, .int .i64 0), (11, .slice Q1 2 q1), (10, .int .i64 0), (9, .int .u8 2), (8, .int .i64 0), (6, .pointer (some ⟨b4, 0, none⟩)), (5, .pointer (some ⟨b3, 0, none⟩)), (4, .int .i64 0), (3, .int .u8 1), (2, .pointer (some ⟨b2, 0, none⟩)), (1, .pointer (some ⟨b1, 0, none⟩))] : Fr)) (fun (e1 : Nat) => [.blk b1 43 [.int .i64 36000, .int .i64 41000], .blk b2 43 [.int .i64 0, .int .i64 4100], .blk b3 43 [.int .i64 0, .int .i64 2500], .blk b4 43 [.int .i64 27500, .int .i64 30000], .own Q1 2 q1 3 1 (iL [0, 3]), .own Am 1 cm 3 1 (iL [0]), .own An 1 cn 36 3 (fun _ => tieL X (prL' [3] [0, 2]) D), .own (X 1) 2 (D 1) 3 1 (iL [0, 2]), .own (X 0) 1 (D 0) 3 1 (iL [3]), .own Sn 1 sn 36 3 (fun _ => tieL (prA (Y 0) (Y 1)) (prL' [2] [3]) (prC (E 0) (E 1))), .own (Y 1) 1 (E 1) 3 1 (iL [3]), .own (Y 0) 1 (E 0) 3 1 (iL [2])]) Drop.done ?_ (fun hE => ?_)
    · rintro e1
      refine TQ.thenN (hY9 _ _ ?_)
      refine TW.seq fun Y10 hY10 => ?_
      as_aux_lemma =>
        refine TW.ex0 Drop.done ?_
        refine RG.tk 0 rfl Pu.mv ?_
        refine RG.tk 1 rfl Pu.eq ?_
        refine RG.a1 2 rfl (fun X2 hX2 => ?_)
        refine TL.p Pu.mv ?_
        refine TL.lit (t := 89) (b' := true) rfl ((by decide)) ?_
        refine TL.nil ?_
        refine TQ.nxt (hX2 _ _ (by repeat (first | exact HasL.nil | refine HasL.cons (by repeat (first | exact Pick.hd | apply Pick.tl)) ?_)) ?_)
        refine RG.tk 3 rfl (Pu.lds ty_ag43) ?_
        refine RG.a1 4 rfl (fun X4 hX4 => ?_)
        refine TL.cr rfl (enters Tryz.func31 rfl rfl) (fun w hw => by
            exact span_any _ _ _) ?_
        refine TL.nil ?_
        refine TQ.nxt (hX4 _ _ (by repeat (first | exact HasL.nil | refine HasL.cons (by repeat (first | exact Pick.hd | apply Pick.tl)) ?_)) ?_)
        refine RG.tk 5 rfl (Pu.q2 ty_q2_43) ?_
        refine RG.tk 6 rfl Pu.kt ?_
        refine RG.a1 7 rfl (fun X7 hX7 => ?_)
        refine TL.p Pu.mv ?_
        refine TL.lit (t := 94) (b' := true) rfl ((by decide)) ?_
        refine TL.nil ?_
        refine TQ.nxt (hX7 _ _ (by repeat (first | exact HasL.nil | refine HasL.cons (by repeat (first | exact Pick.hd | apply Pick.tl)) ?_)) ?_)
        refine RG.tk 8 rfl (Pu.lds ty_ag43) ?_
        refine RG.a1 9 rfl (fun X9 hX9 => ?_)
        refine TL.cr rfl (enters Tryz.func31 rfl rfl) (fun w hw => by
            exact span_any _ _ _) ?_
        refine TL.nil ?_
        refine TQ.nxt (hX9 _ _ (by repeat (first | exact HasL.nil | refine HasL.cons (by repeat (first | exact Pick.hd | apply Pick.tl)) ?_)) ?_)
        refine RG.tk 10 rfl (Pu.q2 ty_q2_43) ?_
        refine RG.tk 11 rfl Pu.kt ?_
        refine RG.a1 12 rfl (fun X12 hX12 => ?_)
        refine TL.p Pu.mv ?_
        refine TL.lit (t := 99) (b' := true) rfl ((by decide)) ?_
        refine TL.nil ?_
        refine TQ.nxt (hX12 _ _ (by repeat (first | exact HasL.nil | refine HasL.cons (by repeat (first | exact Pick.hd | apply Pick.tl)) ?_)) ?_)
        refine RG.tk 13 rfl Pu.mv ?_
        refine RG.tk 14 rfl Pu.eq ?_
        refine RG.tk 15 rfl Pu.kt ?_
        refine RG.a1 16 rfl (fun X16 hX16 => ?_)
        refine TL.p Pu.mv ?_
        refine TL.lit (t := 103) (b' := true) rfl ((by decide)) ?_
        refine TL.nil ?_
        refine TQ.nxt (hX16 _ _ (by repeat (first | exact HasL.nil | refine HasL.cons (by repeat (first | exact Pick.hd | apply Pick.tl)) ?_)) ?_)
        refine RG.tk 17 rfl Pu.mv ?_
        refine RG.tk 18 rfl Pu.eq ?_
        refine RG.tk 19 rfl Pu.kt ?_
        refine RG.a1 20 rfl (fun X20 hX20 => ?_)
        refine TL.p Pu.mv ?_
        refine TL.lit (t := 107) (b' := true) rfl ((by decide)) ?_
        refine TL.nil ?_
        refine TQ.nxt (hX20 _ _ (by repeat (first | exact HasL.nil | refine HasL.cons (by repeat (first | exact Pick.hd | apply Pick.tl)) ?_)) ?_)
        refine RG.tk 21 rfl (Pu.lds ty_ag43) ?_
        refine RG.a1 22 rfl (fun X22 hX22 => ?_)
        refine TL.cr rfl (enters Tryz.func31 rfl rfl) (fun w hw => by
            exact span_any _ _ _) ?_
        refine TL.nil ?_
        refine TQ.nxt (hX22 _ _ (by repeat (first | exact HasL.nil | refine HasL.cons (by repeat (first | exact Pick.hd | apply Pick.tl)) ?_)) ?_)
        refine RG.tk 23 rfl (Pu.q2 ty_q2_43) ?_
        refine RG.tk 24 rfl Pu.kt ?_
        refine RG.a1 25 rfl (fun X25 hX25 => ?_)
        refine TL.p Pu.mv ?_
        refine TL.lit (t := 112) (b' := true) rfl ((by decide)) ?_
        refine TL.nil ?_
        refine TQ.nxt (hX25 _ _ (by repeat (first | exact HasL.nil | refine HasL.cons (by repeat (first | exact Pick.hd | apply Pick.tl)) ?_)) ?_)
        refine RG.tk 26 rfl (Pu.lds ty_ag43) ?_
        refine RG.a1 27 rfl (fun X27 hX27 => ?_)
        refine TL.cr rfl (enters Tryz.func31 rfl rfl) (fun w hw => by
            exact span_any _ _ _) ?_
        refine TL.nil ?_
        refine TQ.nxt (hX27 _ _ (by repeat (first | exact HasL.nil | refine HasL.cons (by repeat (first | exact Pick.hd | apply Pick.tl)) ?_)) ?_)
        refine RG.tk 28 rfl (Pu.q2 ty_q2_43) ?_
        refine RG.tk 29 rfl Pu.kt ?_
        refine RG.a1 30 rfl (fun X30 hX30 => ?_)
        refine TL.p Pu.mv ?_
        refine TL.lit (t := 117) (b' := true) rfl ((by decide)) ?_
        refine TL.nil ?_
        refine TQ.nxt (hX30 _ _ (by repeat (first | exact HasL.nil | refine HasL.cons (by repeat (first | exact Pick.hd | apply Pick.tl)) ?_)) ?_)
        refine RG.tk 31 rfl Pu.mv ?_
        refine RG.tk 32 rfl Pu.eq ?_
        refine RG.tk 33 rfl Pu.kt ?_
        refine RG.a1 34 rfl (fun X34 hX34 => ?_)
        refine TL.p Pu.mv ?_
        refine TL.lit (t := 121) (b' := true) rfl ((by decide)) ?_
        refine TL.nil ?_
        refine TQ.nxt (hX34 _ _ (by repeat (first | exact HasL.nil | refine HasL.cons (by repeat (first | exact Pick.hd | apply Pick.tl)) ?_)) ?_)
        refine RG.tk 35 rfl Pu.mv ?_
        refine RG.tk 36 rfl Pu.eq ?_
        refine RG.tk 37 rfl Pu.kt ?_
        refine RG.a1 38 rfl (fun X38 hX38 => ?_)
        refine TL.p Pu.mv ?_
        refine TL.lit (t := 125) (b' := true) rfl ((by decide)) ?_
        refine TL.nil ?_
        refine TQ.nxt (hX38 _ _ (by repeat (first | exact HasL.nil | refine HasL.cons (by repeat (first | exact Pick.hd | apply Pick.tl)) ?_)) ?_)
        refine RG.tk 39 rfl Pu.mv ?_
        refine RG.tk 40 rfl Pu.eq ?_
        refine RG.tk 41 rfl Pu.kt ?_
        refine RG.a1 42 rfl (fun X42 hX42 => ?_)
        refine TL.p Pu.mv ?_
        refine TL.lit (t := 129) (b' := true) rfl ((by decide)) ?_
        refine TL.nil ?_
        refine TQ.nxt (hX42 _ _ (by repeat (first | exact HasL.nil | refine HasL.cons (by repeat (first | exact Pick.hd | apply Pick.tl)) ?_)) ?_)
        refine RG.tk 43 rfl Pu.mv ?_
        refine RG.a1 44 rfl (fun X44 hX44 => ?_)
        refine TL.gm Mk.bl ?_
        intro b17
        refine TL.nil ?_
        refine TQ.nxt (hX44 _ _ (by repeat (first | exact HasL.nil | refine HasL.cons (by repeat (first | exact Pick.hd | apply Pick.tl)) ?_)) ?_)
        refine RG.a1 45 rfl (fun X45 hX45 => ?_)
        refine TL.cr rfl (enters Tryz.func18 rfl rfl) (fun w hw => by
            exact sameIEx (L := [0, 3]) (by decide) rfl (OwnR.rdr (hw.holds (.own Q1 2 q1 3 1 (iL [0, 3])) (by simp))) (RdR.blk (hw.holds (.blk _ 3 [.int .i64 0, .int .i64 3]) (by simp)) rfl (fun _ _ => rfl))) ?_
        refine TL.nil ?_
        refine TQ.nxt (hX45 _ _ (by repeat (first | exact HasL.nil | refine HasL.cons (by repeat (first | exact Pick.hd | apply Pick.tl)) ?_)) ?_)
        refine RG.tk 46 rfl Pu.kt ?_
        refine RG.a1 47 rfl (fun X47 hX47 => ?_)
        refine TL.p Pu.mv ?_
        refine TL.lit (t := 134) (b' := true) rfl ((by decide)) ?_
        refine TL.nil ?_
        refine TQ.nxt (hX47 _ _ (by repeat (first | exact HasL.nil | refine HasL.cons (by repeat (first | exact Pick.hd | apply Pick.tl)) ?_)) ?_)
        refine RG.tk 48 rfl Pu.mv ?_
        refine RG.tk 49 rfl Pu.eq ?_
        refine RG.tk 50 rfl Pu.kt ?_
        refine RG.a1 51 rfl (fun X51 hX51 => ?_)
        refine TL.p Pu.mv ?_
        refine TL.lit (t := 138) (b' := true) rfl ((by decide)) ?_
        refine TL.nil ?_
        refine TQ.nxt (hX51 _ _ (by repeat (first | exact HasL.nil | refine HasL.cons (by repeat (first | exact Pick.hd | apply Pick.tl)) ?_)) ?_)
        refine RG.tk 52 rfl Pu.mv ?_
        refine RG.a2 53 54 rfl rfl (fun X53 hX53 => ?_) (fun X54 hX54 => ?_)
        · as_aux_lemma =>
            refine TL.gm Mk.bl ?_
            intro b18
            refine TL.nil ?_
            refine TQ.nxt (hX53 _ _ (by repeat (first | exact HasL.nil | refine HasL.cons (by repeat (first | exact Pick.hd | apply Pick.tl)) ?_)) ?_)
            refine RG.a1 54 rfl (fun X54 hX54 => ?_)
            refine TL.gm Mk.bl ?_
            intro b19
            refine TL.nil ?_
            refine TQ.nxt (hX54 _ _ (by repeat (first | exact HasL.nil | refine HasL.cons (by repeat (first | exact Pick.hd | apply Pick.tl)) ?_)) ?_)
            refine RG.a1 55 rfl (fun X55 hX55 => ?_)
            refine TL.cr rfl (enters Tryz.func44 rfl rfl) (fun w hw => by
                exact pair_any _ _ _ _ _ _ _) ?_
            refine TL.nil ?_
            refine TQ.nxt (hX55 _ _ (by repeat (first | exact HasL.nil | refine HasL.cons (by repeat (first | exact Pick.hd | apply Pick.tl)) ?_)) ?_)
            refine RG.a1 56 rfl (fun X56 hX56 => ?_)
            refine TL.gm Mk.bl ?_
            intro b20
            refine TL.nil ?_
            refine TQ.nxt (hX56 _ _ (by repeat (first | exact HasL.nil | refine HasL.cons (by repeat (first | exact Pick.hd | apply Pick.tl)) ?_)) ?_)
            refine RG.a1 57 rfl (fun X57 hX57 => ?_)
            refine TL.cr rfl (enters Tryz.func17 rfl rfl) (fun w hw => by
                exact sameEx2 (a := X) (c := D) (L0 := [3]) (L1 := [0, 2]) (by decide) (OwnR.rdr (hw.holds (.own An 1 cn 36 3 (fun _ => tieL X (prL' [3] [0, 2]) D)) (by simp))) (hw.holds _ (List.mem_cons_self ..)) (OwnR.rdr (hw.holds (.own (X 0) 1 (D 0) 3 1 (iL [3])) (by simp))) (OwnR.rdr (hw.holds (.own (X 1) 2 (D 1) 3 1 (iL [0, 2])) (by simp))) (RdR.blk (hw.holds (.blk _ 3 [.int .i64 3]) (by simp)) rfl (fun _ _ => rfl)) (RdR.blk (hw.holds (.blk _ 3 [.int .i64 0, .int .i64 2]) (by simp)) rfl (fun _ _ => rfl))) ?_
            refine TL.nil ?_
            refine TQ.nxt (hX57 _ _ (by repeat (first | exact HasL.nil | refine HasL.cons (by repeat (first | exact Pick.hd | apply Pick.tl)) ?_)) ?_)
            refine RG.tk 58 rfl Pu.kt ?_
            refine RG.a1 59 rfl (fun X59 hX59 => ?_)
            refine TL.p Pu.mv ?_
            refine TL.lit (t := 146) (b' := true) rfl ((by decide)) ?_
            refine TL.nil ?_
            refine TQ.nxt (hX59 _ _ (by repeat (first | exact HasL.nil | refine HasL.cons (by repeat (first | exact Pick.hd | apply Pick.tl)) ?_)) ?_)
            refine RG.tk 60 rfl Pu.mv ?_
            refine RG.a1 61 rfl (fun X61 hX61 => ?_)
            refine TL.gm Mk.bl ?_
            intro b21
            refine TL.nil ?_
            refine TQ.nxt (hX61 _ _ (by repeat (first | exact HasL.nil | refine HasL.cons (by repeat (first | exact Pick.hd | apply Pick.tl)) ?_)) ?_)
            refine RG.a1 62 rfl (fun X62 hX62 => ?_)
            refine TL.cr rfl (enters Tryz.func18 rfl rfl) (fun w hw => by
                exact sameIEx (L := [0]) (by decide) rfl (OwnR.rdr (hw.holds (.own Am 1 cm 3 1 (iL [0])) (by simp))) (RdR.blk (hw.holds (.blk _ 3 [.int .i64 0]) (by simp)) rfl (fun _ _ => rfl))) ?_
            refine TL.nil ?_
            refine TQ.nxt (hX62 _ _ (by repeat (first | exact HasL.nil | refine HasL.cons (by repeat (first | exact Pick.hd | apply Pick.tl)) ?_)) ?_)
            refine RG.tk 63 rfl Pu.kt ?_
            refine RG.a1 64 rfl (fun X64 hX64 => ?_)
            refine TL.p Pu.mv ?_
            refine TL.lit (t := 151) (b' := true) rfl ((by decide)) ?_
            refine TL.nil ?_
            refine TQ.nxt (hX64 _ _ (by repeat (first | exact HasL.nil | refine HasL.cons (by repeat (first | exact Pick.hd | apply Pick.tl)) ?_)) ?_)
            refine RG.tk 65 rfl Pu.mv ?_
            refine RG.tk 66 rfl Pu.eq ?_
            refine RG.tk 67 rfl Pu.kt ?_
            refine RG.a1 68 rfl (fun X68 hX68 => ?_)
            refine TL.p Pu.mv ?_
            refine TL.lit (t := 155) (b' := true) rfl ((by decide)) ?_
            refine TL.nil ?_
            refine TQ.nxt (hX68 _ _ (by repeat (first | exact HasL.nil | refine HasL.cons (by repeat (first | exact Pick.hd | apply Pick.tl)) ?_)) ?_)
            refine RG.tk 69 rfl Pu.mv ?_
            refine RG.tk 70 rfl Pu.eq ?_
            refine RG.tk 71 rfl Pu.kt ?_
            refine RG.a1 72 rfl (fun X72 hX72 => ?_)
            refine TL.p Pu.mv ?_
            refine TL.lit (t := 159) (b' := true) rfl ((by decide)) ?_
            refine TL.nil ?_
            refine TQ.nxt (hX72 _ _ (by repeat (first | exact HasL.nil | refine HasL.cons (by repeat (first | exact Pick.hd | apply Pick.tl)) ?_)) ?_)
            refine RG.tk 73 rfl Pu.mv ?_
            refine RG.a2 74 75 rfl rfl (fun X74 hX74 => ?_) (fun X75 hX75 => ?_)
            · as_aux_lemma =>
                refine TL.gm Mk.bl ?_
                intro b22
                refine TL.nil ?_
                refine TQ.nxt (hX74 _ _ (by repeat (first | exact HasL.nil | refine HasL.cons (by repeat (first | exact Pick.hd | apply Pick.tl)) ?_)) ?_)
                refine RG.a1 75 rfl (fun X75 hX75 => ?_)
                refine TL.gm Mk.bl ?_
                intro b23
                refine TL.nil ?_
                refine TQ.nxt (hX75 _ _ (by repeat (first | exact HasL.nil | refine HasL.cons (by repeat (first | exact Pick.hd | apply Pick.tl)) ?_)) ?_)
                refine RG.a1 76 rfl (fun X76 hX76 => ?_)
                refine TL.cr rfl (enters Tryz.func44 rfl rfl) (fun w hw => by
                    exact pair_any _ _ _ _ _ _ _) ?_
                refine TL.nil ?_
                refine TQ.nxt (hX76 _ _ (by repeat (first | exact HasL.nil | refine HasL.cons (by repeat (first | exact Pick.hd | apply Pick.tl)) ?_)) ?_)
                refine RG.a1 77 rfl (fun X77 hX77 => ?_)
                refine TL.gm Mk.bl ?_
                intro b24
                refine TL.nil ?_
                refine TQ.nxt (hX77 _ _ (by repeat (first | exact HasL.nil | refine HasL.cons (by repeat (first | exact Pick.hd | apply Pick.tl)) ?_)) ?_)
                refine RG.a1 78 rfl (fun X78 hX78 => ?_)
                refine TL.cr rfl (enters Tryz.func17 rfl rfl) (fun w hw => by
                    exact sameEx2 (a := prA (Y 0) (Y 1)) (c := prC (E 0) (E 1)) (L0 := [2]) (L1 := [3]) (by decide) (OwnR.rdr (hw.holds (.own Sn 1 sn 36 3 (fun _ => tieL (prA (Y 0) (Y 1)) (prL' [2] [3]) (prC (E 0) (E 1)))) (by simp))) (hw.holds _ (List.mem_cons_self ..)) (OwnR.rdr (hw.holds (.own (Y 0) 1 (E 0) 3 1 (iL [2])) (by simp))) (OwnR.rdr (hw.holds (.own (Y 1) 1 (E 1) 3 1 (iL [3])) (by simp))) (RdR.blk (hw.holds (.blk _ 3 [.int .i64 2]) (by simp)) rfl (fun _ _ => rfl)) (RdR.blk (hw.holds (.blk _ 3 [.int .i64 3]) (by simp)) rfl (fun _ _ => rfl))) ?_
                refine TL.nil ?_
                refine TQ.nxt (hX78 _ _ (by repeat (first | exact HasL.nil | refine HasL.cons (by repeat (first | exact Pick.hd | apply Pick.tl)) ?_)) ?_)
                refine RG.tk 79 rfl Pu.kt ?_
                refine RG.a1 80 rfl (fun X80 hX80 => ?_)
                refine TL.p Pu.mv ?_
                refine TL.lit (t := 167) (b' := true) rfl ((by decide)) ?_
                refine TL.nil ?_
                refine TQ.nxt (hX80 _ _ (by repeat (first | exact HasL.nil | refine HasL.cons (by repeat (first | exact Pick.hd | apply Pick.tl)) ?_)) ?_)
                refine RG.tk 81 rfl Pu.mv ?_
                refine RG.tk 82 rfl Pu.eq ?_
                refine RG.tk 83 rfl Pu.kt ?_
                refine RG.a1 84 rfl (fun X84 hX84 => ?_)
                refine TL.p Pu.mv ?_
                refine TL.lit (t := 171) (b' := true) rfl ((by decide)) ?_
                refine TL.nil ?_
                refine TQ.nxt (hX84 _ _ (by repeat (first | exact HasL.nil | refine HasL.cons (by repeat (first | exact Pick.hd | apply Pick.tl)) ?_)) ?_)
                refine RG.tk 85 rfl Pu.mv ?_
                refine RG.tk 86 rfl Pu.eq ?_
                refine RG.tk 87 rfl Pu.kt ?_
                refine RG.tk 88 rfl Pu.as ?_
                refine RG.nil ?_ (by kernel_rfl)
                refine TQ.thenN (hY10 _ _ ?_)
                refine TW.ret ?_
                refine TQ.ret Tryz.results21 rfl ((.tmp rfl .nil)) ?_
                exact fun w hw => Ret.of hw
            · as_aux_lemma =>
                refine TL.gm Mk.bl ?_
                intro b25
                refine TL.nil ?_
                refine TQ.nxt (hX75 _ _ (by repeat (first | exact HasL.nil | refine HasL.cons (by repeat (first | exact Pick.hd | apply Pick.tl)) ?_)) ?_)
                refine RG.a1 74 rfl (fun X74 hX74 => ?_)
                refine TL.gm Mk.bl ?_
                intro b26
                refine TL.nil ?_
                refine TQ.nxt (hX74 _ _ (by repeat (first | exact HasL.nil | refine HasL.cons (by repeat (first | exact Pick.hd | apply Pick.tl)) ?_)) ?_)
                refine RG.a1 76 rfl (fun X76 hX76 => ?_)
                refine TL.cr rfl (enters Tryz.func44 rfl rfl) (fun w hw => by
                    exact pair_any _ _ _ _ _ _ _) ?_
                refine TL.nil ?_
                refine TQ.nxt (hX76 _ _ (by repeat (first | exact HasL.nil | refine HasL.cons (by repeat (first | exact Pick.hd | apply Pick.tl)) ?_)) ?_)
                refine RG.a1 77 rfl (fun X77 hX77 => ?_)
                refine TL.gm Mk.bl ?_
                intro b27
                refine TL.nil ?_
                refine TQ.nxt (hX77 _ _ (by repeat (first | exact HasL.nil | refine HasL.cons (by repeat (first | exact Pick.hd | apply Pick.tl)) ?_)) ?_)
                refine RG.a1 78 rfl (fun X78 hX78 => ?_)
                refine TL.cr rfl (enters Tryz.func17 rfl rfl) (fun w hw => by
                    exact sameEx2 (a := prA (Y 0) (Y 1)) (c := prC (E 0) (E 1)) (L0 := [2]) (L1 := [3]) (by decide) (OwnR.rdr (hw.holds (.own Sn 1 sn 36 3 (fun _ => tieL (prA (Y 0) (Y 1)) (prL' [2] [3]) (prC (E 0) (E 1)))) (by simp))) (hw.holds _ (List.mem_cons_self ..)) (OwnR.rdr (hw.holds (.own (Y 0) 1 (E 0) 3 1 (iL [2])) (by simp))) (OwnR.rdr (hw.holds (.own (Y 1) 1 (E 1) 3 1 (iL [3])) (by simp))) (RdR.blk (hw.holds (.blk _ 3 [.int .i64 2]) (by simp)) rfl (fun _ _ => rfl)) (RdR.blk (hw.holds (.blk _ 3 [.int .i64 3]) (by simp)) rfl (fun _ _ => rfl))) ?_
                refine TL.nil ?_
                refine TQ.nxt (hX78 _ _ (by repeat (first | exact HasL.nil | refine HasL.cons (by repeat (first | exact Pick.hd | apply Pick.tl)) ?_)) ?_)
                refine RG.tk 79 rfl Pu.kt ?_
                refine RG.a1 80 rfl (fun X80 hX80 => ?_)
                refine TL.p Pu.mv ?_
                refine TL.lit (t := 167) (b' := true) rfl ((by decide)) ?_
                refine TL.nil ?_
                refine TQ.nxt (hX80 _ _ (by repeat (first | exact HasL.nil | refine HasL.cons (by repeat (first | exact Pick.hd | apply Pick.tl)) ?_)) ?_)
                refine RG.tk 81 rfl Pu.mv ?_
                refine RG.tk 82 rfl Pu.eq ?_
                refine RG.tk 83 rfl Pu.kt ?_
                refine RG.a1 84 rfl (fun X84 hX84 => ?_)
                refine TL.p Pu.mv ?_
                refine TL.lit (t := 171) (b' := true) rfl ((by decide)) ?_
                refine TL.nil ?_
                refine TQ.nxt (hX84 _ _ (by repeat (first | exact HasL.nil | refine HasL.cons (by repeat (first | exact Pick.hd | apply Pick.tl)) ?_)) ?_)
                refine RG.tk 85 rfl Pu.mv ?_
                refine RG.tk 86 rfl Pu.eq ?_
                refine RG.tk 87 rfl Pu.kt ?_
                refine RG.tk 88 rfl Pu.as ?_
                refine RG.nil ?_ (by kernel_rfl)
                refine TQ.thenN (hY10 _ _ ?_)
                refine TW.ret ?_
                refine TQ.ret Tryz.results21 rfl ((.tmp rfl .nil)) ?_
                exact fun w hw => Ret.of hw
        · as_aux_lemma =>
            refine TL.gm Mk.bl ?_
            intro b28
            refine TL.nil ?_
            refine TQ.nxt (hX54 _ _ (by repeat (first | exact HasL.nil | refine HasL.cons (by repeat (first | exact Pick.hd | apply Pick.tl)) ?_)) ?_)
            refine RG.a1 53 rfl (fun X53 hX53 => ?_)
            refine TL.gm Mk.bl ?_
            intro b29
            refine TL.nil ?_
            refine TQ.nxt (hX53 _ _ (by repeat (first | exact HasL.nil | refine HasL.cons (by repeat (first | exact Pick.hd | apply Pick.tl)) ?_)) ?_)
            refine RG.a1 55 rfl (fun X55 hX55 => ?_)
            refine TL.cr rfl (enters Tryz.func44 rfl rfl) (fun w hw => by
                exact pair_any _ _ _ _ _ _ _) ?_
            refine TL.nil ?_
            refine TQ.nxt (hX55 _ _ (by repeat (first | exact HasL.nil | refine HasL.cons (by repeat (first | exact Pick.hd | apply Pick.tl)) ?_)) ?_)
            refine RG.a1 56 rfl (fun X56 hX56 => ?_)
            refine TL.gm Mk.bl ?_
            intro b30
            refine TL.nil ?_
            refine TQ.nxt (hX56 _ _ (by repeat (first | exact HasL.nil | refine HasL.cons (by repeat (first | exact Pick.hd | apply Pick.tl)) ?_)) ?_)
            refine RG.a1 57 rfl (fun X57 hX57 => ?_)
            refine TL.cr rfl (enters Tryz.func17 rfl rfl) (fun w hw => by
                exact sameEx2 (a := X) (c := D) (L0 := [3]) (L1 := [0, 2]) (by decide) (OwnR.rdr (hw.holds (.own An 1 cn 36 3 (fun _ => tieL X (prL' [3] [0, 2]) D)) (by simp))) (hw.holds _ (List.mem_cons_self ..)) (OwnR.rdr (hw.holds (.own (X 0) 1 (D 0) 3 1 (iL [3])) (by simp))) (OwnR.rdr (hw.holds (.own (X 1) 2 (D 1) 3 1 (iL [0, 2])) (by simp))) (RdR.blk (hw.holds (.blk _ 3 [.int .i64 3]) (by simp)) rfl (fun _ _ => rfl)) (RdR.blk (hw.holds (.blk _ 3 [.int .i64 0, .int .i64 2]) (by simp)) rfl (fun _ _ => rfl))) ?_
            refine TL.nil ?_
            refine TQ.nxt (hX57 _ _ (by repeat (first | exact HasL.nil | refine HasL.cons (by repeat (first | exact Pick.hd | apply Pick.tl)) ?_)) ?_)
            refine RG.tk 58 rfl Pu.kt ?_
            refine RG.a1 59 rfl (fun X59 hX59 => ?_)
            refine TL.p Pu.mv ?_
            refine TL.lit (t := 146) (b' := true) rfl ((by decide)) ?_
            refine TL.nil ?_
            refine TQ.nxt (hX59 _ _ (by repeat (first | exact HasL.nil | refine HasL.cons (by repeat (first | exact Pick.hd | apply Pick.tl)) ?_)) ?_)
            refine RG.tk 60 rfl Pu.mv ?_
            refine RG.a1 61 rfl (fun X61 hX61 => ?_)
            refine TL.gm Mk.bl ?_
            intro b31
            refine TL.nil ?_
            refine TQ.nxt (hX61 _ _ (by repeat (first | exact HasL.nil | refine HasL.cons (by repeat (first | exact Pick.hd | apply Pick.tl)) ?_)) ?_)
            refine RG.a1 62 rfl (fun X62 hX62 => ?_)
            refine TL.cr rfl (enters Tryz.func18 rfl rfl) (fun w hw => by
                exact sameIEx (L := [0]) (by decide) rfl (OwnR.rdr (hw.holds (.own Am 1 cm 3 1 (iL [0])) (by simp))) (RdR.blk (hw.holds (.blk _ 3 [.int .i64 0]) (by simp)) rfl (fun _ _ => rfl))) ?_
            refine TL.nil ?_
            refine TQ.nxt (hX62 _ _ (by repeat (first | exact HasL.nil | refine HasL.cons (by repeat (first | exact Pick.hd | apply Pick.tl)) ?_)) ?_)
            refine RG.tk 63 rfl Pu.kt ?_
            refine RG.a1 64 rfl (fun X64 hX64 => ?_)
            refine TL.p Pu.mv ?_
            refine TL.lit (t := 151) (b' := true) rfl ((by decide)) ?_
            refine TL.nil ?_
            refine TQ.nxt (hX64 _ _ (by repeat (first | exact HasL.nil | refine HasL.cons (by repeat (first | exact Pick.hd | apply Pick.tl)) ?_)) ?_)
            refine RG.tk 65 rfl Pu.mv ?_
            refine RG.tk 66 rfl Pu.eq ?_
            refine RG.tk 67 rfl Pu.kt ?_
            refine RG.a1 68 rfl (fun X68 hX68 => ?_)
            refine TL.p Pu.mv ?_
            refine TL.lit (t := 155) (b' := true) rfl ((by decide)) ?_
            refine TL.nil ?_
            refine TQ.nxt (hX68 _ _ (by repeat (first | exact HasL.nil | refine HasL.cons (by repeat (first | exact Pick.hd | apply Pick.tl)) ?_)) ?_)
            refine RG.tk 69 rfl Pu.mv ?_
            refine RG.tk 70 rfl Pu.eq ?_
            refine RG.tk 71 rfl Pu.kt ?_
            refine RG.a1 72 rfl (fun X72 hX72 => ?_)
            refine TL.p Pu.mv ?_
            refine TL.lit (t := 159) (b' := true) rfl ((by decide)) ?_
            refine TL.nil ?_
            refine TQ.nxt (hX72 _ _ (by repeat (first | exact HasL.nil | refine HasL.cons (by repeat (first | exact Pick.hd | apply Pick.tl)) ?_)) ?_)
            refine RG.tk 73 rfl Pu.mv ?_
            refine RG.a2 74 75 rfl rfl (fun X74 hX74 => ?_) (fun X75 hX75 => ?_)
            · as_aux_lemma =>
                refine TL.gm Mk.bl ?_
                intro b32
                refine TL.nil ?_
                refine TQ.nxt (hX74 _ _ (by repeat (first | exact HasL.nil | refine HasL.cons (by repeat (first | exact Pick.hd | apply Pick.tl)) ?_)) ?_)
                refine RG.a1 75 rfl (fun X75 hX75 => ?_)
                refine TL.gm Mk.bl ?_
                intro b33
                refine TL.nil ?_
                refine TQ.nxt (hX75 _ _ (by repeat (first | exact HasL.nil | refine HasL.cons (by repeat (first | exact Pick.hd | apply Pick.tl)) ?_)) ?_)
                refine RG.a1 76 rfl (fun X76 hX76 => ?_)
                refine TL.cr rfl (enters Tryz.func44 rfl rfl) (fun w hw => by
                    exact pair_any _ _ _ _ _ _ _) ?_
                refine TL.nil ?_
                refine TQ.nxt (hX76 _ _ (by repeat (first | exact HasL.nil | refine HasL.cons (by repeat (first | exact Pick.hd | apply Pick.tl)) ?_)) ?_)
                refine RG.a1 77 rfl (fun X77 hX77 => ?_)
                refine TL.gm Mk.bl ?_
                intro b34
                refine TL.nil ?_
                refine TQ.nxt (hX77 _ _ (by repeat (first | exact HasL.nil | refine HasL.cons (by repeat (first | exact Pick.hd | apply Pick.tl)) ?_)) ?_)
                refine RG.a1 78 rfl (fun X78 hX78 => ?_)
                refine TL.cr rfl (enters Tryz.func17 rfl rfl) (fun w hw => by
                    exact sameEx2 (a := prA (Y 0) (Y 1)) (c := prC (E 0) (E 1)) (L0 := [2]) (L1 := [3]) (by decide) (OwnR.rdr (hw.holds (.own Sn 1 sn 36 3 (fun _ => tieL (prA (Y 0) (Y 1)) (prL' [2] [3]) (prC (E 0) (E 1)))) (by simp))) (hw.holds _ (List.mem_cons_self ..)) (OwnR.rdr (hw.holds (.own (Y 0) 1 (E 0) 3 1 (iL [2])) (by simp))) (OwnR.rdr (hw.holds (.own (Y 1) 1 (E 1) 3 1 (iL [3])) (by simp))) (RdR.blk (hw.holds (.blk _ 3 [.int .i64 2]) (by simp)) rfl (fun _ _ => rfl)) (RdR.blk (hw.holds (.blk _ 3 [.int .i64 3]) (by simp)) rfl (fun _ _ => rfl))) ?_
                refine TL.nil ?_
                refine TQ.nxt (hX78 _ _ (by repeat (first | exact HasL.nil | refine HasL.cons (by repeat (first | exact Pick.hd | apply Pick.tl)) ?_)) ?_)
                refine RG.tk 79 rfl Pu.kt ?_
                refine RG.a1 80 rfl (fun X80 hX80 => ?_)
                refine TL.p Pu.mv ?_
                refine TL.lit (t := 167) (b' := true) rfl ((by decide)) ?_
                refine TL.nil ?_
                refine TQ.nxt (hX80 _ _ (by repeat (first | exact HasL.nil | refine HasL.cons (by repeat (first | exact Pick.hd | apply Pick.tl)) ?_)) ?_)
                refine RG.tk 81 rfl Pu.mv ?_
                refine RG.tk 82 rfl Pu.eq ?_
                refine RG.tk 83 rfl Pu.kt ?_
                refine RG.a1 84 rfl (fun X84 hX84 => ?_)
                refine TL.p Pu.mv ?_
                refine TL.lit (t := 171) (b' := true) rfl ((by decide)) ?_
                refine TL.nil ?_
                refine TQ.nxt (hX84 _ _ (by repeat (first | exact HasL.nil | refine HasL.cons (by repeat (first | exact Pick.hd | apply Pick.tl)) ?_)) ?_)
                refine RG.tk 85 rfl Pu.mv ?_
                refine RG.tk 86 rfl Pu.eq ?_
                refine RG.tk 87 rfl Pu.kt ?_
                refine RG.tk 88 rfl Pu.as ?_
                refine RG.nil ?_ (by kernel_rfl)
                refine TQ.thenN (hY10 _ _ ?_)
                refine TW.ret ?_
                refine TQ.ret Tryz.results21 rfl ((.tmp rfl .nil)) ?_
                exact fun w hw => Ret.of hw
            · as_aux_lemma =>
                refine TL.gm Mk.bl ?_
                intro b35
                refine TL.nil ?_
                refine TQ.nxt (hX75 _ _ (by repeat (first | exact HasL.nil | refine HasL.cons (by repeat (first | exact Pick.hd | apply Pick.tl)) ?_)) ?_)
                refine RG.a1 74 rfl (fun X74 hX74 => ?_)
                refine TL.gm Mk.bl ?_
                intro b36
                refine TL.nil ?_
                refine TQ.nxt (hX74 _ _ (by repeat (first | exact HasL.nil | refine HasL.cons (by repeat (first | exact Pick.hd | apply Pick.tl)) ?_)) ?_)
                refine RG.a1 76 rfl (fun X76 hX76 => ?_)
                refine TL.cr rfl (enters Tryz.func44 rfl rfl) (fun w hw => by
                    exact pair_any _ _ _ _ _ _ _) ?_
                refine TL.nil ?_
                refine TQ.nxt (hX76 _ _ (by repeat (first | exact HasL.nil | refine HasL.cons (by repeat (first | exact Pick.hd | apply Pick.tl)) ?_)) ?_)
                refine RG.a1 77 rfl (fun X77 hX77 => ?_)
                refine TL.gm Mk.bl ?_
                intro b37
                refine TL.nil ?_
                refine TQ.nxt (hX77 _ _ (by repeat (first | exact HasL.nil | refine HasL.cons (by repeat (first | exact Pick.hd | apply Pick.tl)) ?_)) ?_)
                refine RG.a1 78 rfl (fun X78 hX78 => ?_)
                refine TL.cr rfl (enters Tryz.func17 rfl rfl) (fun w hw => by
                    exact sameEx2 (a := prA (Y 0) (Y 1)) (c := prC (E 0) (E 1)) (L0 := [2]) (L1 := [3]) (by decide) (OwnR.rdr (hw.holds (.own Sn 1 sn 36 3 (fun _ => tieL (prA (Y 0) (Y 1)) (prL' [2] [3]) (prC (E 0) (E 1)))) (by simp))) (hw.holds _ (List.mem_cons_self ..)) (OwnR.rdr (hw.holds (.own (Y 0) 1 (E 0) 3 1 (iL [2])) (by simp))) (OwnR.rdr (hw.holds (.own (Y 1) 1 (E 1) 3 1 (iL [3])) (by simp))) (RdR.blk (hw.holds (.blk _ 3 [.int .i64 2]) (by simp)) rfl (fun _ _ => rfl)) (RdR.blk (hw.holds (.blk _ 3 [.int .i64 3]) (by simp)) rfl (fun _ _ => rfl))) ?_
                refine TL.nil ?_
                refine TQ.nxt (hX78 _ _ (by repeat (first | exact HasL.nil | refine HasL.cons (by repeat (first | exact Pick.hd | apply Pick.tl)) ?_)) ?_)
                refine RG.tk 79 rfl Pu.kt ?_
                refine RG.a1 80 rfl (fun X80 hX80 => ?_)
                refine TL.p Pu.mv ?_
                refine TL.lit (t := 167) (b' := true) rfl ((by decide)) ?_
                refine TL.nil ?_
                refine TQ.nxt (hX80 _ _ (by repeat (first | exact HasL.nil | refine HasL.cons (by repeat (first | exact Pick.hd | apply Pick.tl)) ?_)) ?_)
                refine RG.tk 81 rfl Pu.mv ?_
                refine RG.tk 82 rfl Pu.eq ?_
                refine RG.tk 83 rfl Pu.kt ?_
                refine RG.a1 84 rfl (fun X84 hX84 => ?_)
                refine TL.p Pu.mv ?_
                refine TL.lit (t := 171) (b' := true) rfl ((by decide)) ?_
                refine TL.nil ?_
                refine TQ.nxt (hX84 _ _ (by repeat (first | exact HasL.nil | refine HasL.cons (by repeat (first | exact Pick.hd | apply Pick.tl)) ?_)) ?_)
                refine RG.tk 85 rfl Pu.mv ?_
                refine RG.tk 86 rfl Pu.eq ?_
                refine RG.tk 87 rfl Pu.kt ?_
                refine RG.tk 88 rfl Pu.as ?_
                refine RG.nil ?_ (by kernel_rfl)
                refine TQ.thenN (hY10 _ _ ?_)
                refine TW.ret ?_
                refine TQ.ret Tryz.results21 rfl ((.tmp rfl .nil)) ?_
                exact fun w hw => Ret.of hw
    refine RG.tk 0 rfl (Pu.lds ty_ag79) ?_
    refine RG.tk 1 rfl (Pu.lds ty_ag81) ?_
    refine RG.a3 2 3 4 rfl rfl rfl (fun X2 hX2 => ?_) (fun X3 hX3 => ?_) (fun X4 hX4 => ?_)
    · as_aux_lemma =>
        refine TL.call (M := []) rfl (enters Tryz.func43 rfl rfl) (List.Perm.refl _) rfl (fun w hw => by
            exact bales_any _) ?_
        rintro ⟨B1, e1⟩
        refine TL.nil ?_
        refine TQ.nxt (hX2 _ _ (by repeat (first | exact HasL.nil | refine HasL.cons (by repeat (first | exact Pick.hd | apply Pick.tl)) ?_)) ?_)
        refine RG.a2 3 4 rfl rfl (fun X3 hX3 => ?_) (fun X4 hX4 => ?_)
        · as_aux_lemma =>
            refine TL.m Mk.bl ?_
            intro x3
            refine TL.nil ?_
            refine TQ.nxt (hX3 _ _ (by repeat (first | exact HasL.nil | refine HasL.cons (by repeat (first | exact Pick.hd | apply Pick.tl)) ?_)) ?_)
            refine RG.a1 4 rfl (fun X4 hX4 => ?_)
            refine TL.m Mk.bl ?_
            intro x4
            refine TL.nil ?_
            refine TQ.nxt (hX4 _ _ (by repeat (first | exact HasL.nil | refine HasL.cons (by repeat (first | exact Pick.hd | apply Pick.tl)) ?_)) ?_)
            refine RG.a1 5 rfl (fun X5 hX5 => ?_)
            refine TL.cr rfl (enters Tryz.func44 rfl rfl) (fun w hw => by
                exact pair_any _ _ _ _ _ _ _) ?_
            refine TL.nil ?_
            refine TQ.nxt (hX5 _ _ (by repeat (first | exact HasL.nil | refine HasL.cons (by repeat (first | exact Pick.hd | apply Pick.tl)) ?_)) ?_)
            refine RG.a1 6 rfl (fun X6 hX6 => ?_)
            refine TL.cr rfl (enters Tryz.func35 rfl rfl) (fun w hw => by
                exact readyEx (hG.sat hw (by simp)) (OwnR.rdr (hw.holds (.own B1 4 e1 45 11 (fun k => packL (balP k))) (by simp))) (RdR.blk (hw.holds (.blk _ 3 [.int .i64 0, .int .i64 1]) (by simp)) rfl (fun _ _ => rfl)) (RdR.blk (hw.holds (.blk _ 3 [.int .i64 2]) (by simp)) rfl (fun _ _ => rfl))) ?_
            refine TL.nil ?_
            refine TQ.nxt (hX6 _ _ (by repeat (first | exact HasL.nil | refine HasL.cons (by repeat (first | exact Pick.hd | apply Pick.tl)) ?_)) ?_)
            refine RG.tk 7 rfl Pu.mv ?_
            refine RG.tk 8 rfl Pu.ex ?_
            refine RG.tk 9 rfl Pu.ex ?_
            refine RG.tk 10 rfl Pu.as ?_
            refine RG.tk 11 rfl Pu.as ?_
            exact RG.nil (TQ.sub (by repeat (first | exact trivial | refine ⟨rfl, ?_⟩ | refine ⟨trivial, ?_⟩)) (by repeat (first | exact KSub.nil | refine KSub.cons (by repeat (first | exact Pick.hd | apply Pick.tl)) ?_ | exact KSub.refl _ | refine KSub.drop ?_)) (hE e1)) (by kernel_rfl)
        · as_aux_lemma =>
            refine TL.m Mk.bl ?_
            intro x4
            refine TL.nil ?_
            refine TQ.nxt (hX4 _ _ (by repeat (first | exact HasL.nil | refine HasL.cons (by repeat (first | exact Pick.hd | apply Pick.tl)) ?_)) ?_)
            refine RG.a1 3 rfl (fun X3 hX3 => ?_)
            refine TL.m Mk.bl ?_
            intro x3
            refine TL.nil ?_
            refine TQ.nxt (hX3 _ _ (by repeat (first | exact HasL.nil | refine HasL.cons (by repeat (first | exact Pick.hd | apply Pick.tl)) ?_)) ?_)
            refine RG.a1 5 rfl (fun X5 hX5 => ?_)
            refine TL.cr rfl (enters Tryz.func44 rfl rfl) (fun w hw => by
                exact pair_any _ _ _ _ _ _ _) ?_
            refine TL.nil ?_
            refine TQ.nxt (hX5 _ _ (by repeat (first | exact HasL.nil | refine HasL.cons (by repeat (first | exact Pick.hd | apply Pick.tl)) ?_)) ?_)
            refine RG.a1 6 rfl (fun X6 hX6 => ?_)
            refine TL.cr rfl (enters Tryz.func35 rfl rfl) (fun w hw => by
                exact readyEx (hG.sat hw (by simp)) (OwnR.rdr (hw.holds (.own B1 4 e1 45 11 (fun k => packL (balP k))) (by simp))) (RdR.blk (hw.holds (.blk _ 3 [.int .i64 0, .int .i64 1]) (by simp)) rfl (fun _ _ => rfl)) (RdR.blk (hw.holds (.blk _ 3 [.int .i64 2]) (by simp)) rfl (fun _ _ => rfl))) ?_
            refine TL.nil ?_
            refine TQ.nxt (hX6 _ _ (by repeat (first | exact HasL.nil | refine HasL.cons (by repeat (first | exact Pick.hd | apply Pick.tl)) ?_)) ?_)
            refine RG.tk 7 rfl Pu.mv ?_
            refine RG.tk 8 rfl Pu.ex ?_
            refine RG.tk 9 rfl Pu.ex ?_
            refine RG.tk 10 rfl Pu.as ?_
            refine RG.tk 11 rfl Pu.as ?_
            exact RG.nil (TQ.sub (by repeat (first | exact trivial | refine ⟨rfl, ?_⟩ | refine ⟨trivial, ?_⟩)) (by repeat (first | exact KSub.nil | refine KSub.cons (by repeat (first | exact Pick.hd | apply Pick.tl)) ?_ | exact KSub.refl _ | refine KSub.drop ?_)) (hE e1)) (by kernel_rfl)
    · as_aux_lemma =>
        refine TL.m Mk.bl ?_
        intro x3
        refine TL.nil ?_
        refine TQ.nxt (hX3 _ _ (by repeat (first | exact HasL.nil | refine HasL.cons (by repeat (first | exact Pick.hd | apply Pick.tl)) ?_)) ?_)
        refine RG.a2 2 4 rfl rfl (fun X2 hX2 => ?_) (fun X4 hX4 => ?_)
        · as_aux_lemma =>
            refine TL.call (M := []) rfl (enters Tryz.func43 rfl rfl) (List.Perm.refl _) rfl (fun w hw => by
                exact bales_any _) ?_
            rintro ⟨B1, e1⟩
            refine TL.nil ?_
            refine TQ.nxt (hX2 _ _ (by repeat (first | exact HasL.nil | refine HasL.cons (by repeat (first | exact Pick.hd | apply Pick.tl)) ?_)) ?_)
            refine RG.a1 4 rfl (fun X4 hX4 => ?_)
            refine TL.m Mk.bl ?_
            intro x4
            refine TL.nil ?_
            refine TQ.nxt (hX4 _ _ (by repeat (first | exact HasL.nil | refine HasL.cons (by repeat (first | exact Pick.hd | apply Pick.tl)) ?_)) ?_)
            refine RG.a1 5 rfl (fun X5 hX5 => ?_)
            refine TL.cr rfl (enters Tryz.func44 rfl rfl) (fun w hw => by
                exact pair_any _ _ _ _ _ _ _) ?_
            refine TL.nil ?_
            refine TQ.nxt (hX5 _ _ (by repeat (first | exact HasL.nil | refine HasL.cons (by repeat (first | exact Pick.hd | apply Pick.tl)) ?_)) ?_)
            refine RG.a1 6 rfl (fun X6 hX6 => ?_)
            refine TL.cr rfl (enters Tryz.func35 rfl rfl) (fun w hw => by
                exact readyEx (hG.sat hw (by simp)) (OwnR.rdr (hw.holds (.own B1 4 e1 45 11 (fun k => packL (balP k))) (by simp))) (RdR.blk (hw.holds (.blk _ 3 [.int .i64 0, .int .i64 1]) (by simp)) rfl (fun _ _ => rfl)) (RdR.blk (hw.holds (.blk _ 3 [.int .i64 2]) (by simp)) rfl (fun _ _ => rfl))) ?_
            refine TL.nil ?_
            refine TQ.nxt (hX6 _ _ (by repeat (first | exact HasL.nil | refine HasL.cons (by repeat (first | exact Pick.hd | apply Pick.tl)) ?_)) ?_)
            refine RG.tk 7 rfl Pu.mv ?_
            refine RG.tk 8 rfl Pu.ex ?_
            refine RG.tk 9 rfl Pu.ex ?_
            refine RG.tk 10 rfl Pu.as ?_
            refine RG.tk 11 rfl Pu.as ?_
            exact RG.nil (TQ.sub (by repeat (first | exact trivial | refine ⟨rfl, ?_⟩ | refine ⟨trivial, ?_⟩)) (by repeat (first | exact KSub.nil | refine KSub.cons (by repeat (first | exact Pick.hd | apply Pick.tl)) ?_ | exact KSub.refl _ | refine KSub.drop ?_)) (hE e1)) (by kernel_rfl)
        · as_aux_lemma =>
            refine TL.m Mk.bl ?_
            intro x4
            refine TL.nil ?_
            refine TQ.nxt (hX4 _ _ (by repeat (first | exact HasL.nil | refine HasL.cons (by repeat (first | exact Pick.hd | apply Pick.tl)) ?_)) ?_)
            refine RG.a1 2 rfl (fun X2 hX2 => ?_)
            refine TL.call (M := []) rfl (enters Tryz.func43 rfl rfl) (List.Perm.refl _) rfl (fun w hw => by
                exact bales_any _) ?_
            rintro ⟨B1, e1⟩
            refine TL.nil ?_
            refine TQ.nxt (hX2 _ _ (by repeat (first | exact HasL.nil | refine HasL.cons (by repeat (first | exact Pick.hd | apply Pick.tl)) ?_)) ?_)
            refine RG.a1 5 rfl (fun X5 hX5 => ?_)
            refine TL.cr rfl (enters Tryz.func44 rfl rfl) (fun w hw => by
                exact pair_any _ _ _ _ _ _ _) ?_
            refine TL.nil ?_
            refine TQ.nxt (hX5 _ _ (by repeat (first | exact HasL.nil | refine HasL.cons (by repeat (first | exact Pick.hd | apply Pick.tl)) ?_)) ?_)
            refine RG.a1 6 rfl (fun X6 hX6 => ?_)
            refine TL.cr rfl (enters Tryz.func35 rfl rfl) (fun w hw => by
                exact readyEx (hG.sat hw (by simp)) (OwnR.rdr (hw.holds (.own B1 4 e1 45 11 (fun k => packL (balP k))) (by simp))) (RdR.blk (hw.holds (.blk _ 3 [.int .i64 0, .int .i64 1]) (by simp)) rfl (fun _ _ => rfl)) (RdR.blk (hw.holds (.blk _ 3 [.int .i64 2]) (by simp)) rfl (fun _ _ => rfl))) ?_
            refine TL.nil ?_
            refine TQ.nxt (hX6 _ _ (by repeat (first | exact HasL.nil | refine HasL.cons (by repeat (first | exact Pick.hd | apply Pick.tl)) ?_)) ?_)
            refine RG.tk 7 rfl Pu.mv ?_
            refine RG.tk 8 rfl Pu.ex ?_
            refine RG.tk 9 rfl Pu.ex ?_
            refine RG.tk 10 rfl Pu.as ?_
            refine RG.tk 11 rfl Pu.as ?_
            exact RG.nil (TQ.sub (by repeat (first | exact trivial | refine ⟨rfl, ?_⟩ | refine ⟨trivial, ?_⟩)) (by repeat (first | exact KSub.nil | refine KSub.cons (by repeat (first | exact Pick.hd | apply Pick.tl)) ?_ | exact KSub.refl _ | refine KSub.drop ?_)) (hE e1)) (by kernel_rfl)
    · as_aux_lemma =>
        refine TL.m Mk.bl ?_
        intro x4
        refine TL.nil ?_
        refine TQ.nxt (hX4 _ _ (by repeat (first | exact HasL.nil | refine HasL.cons (by repeat (first | exact Pick.hd | apply Pick.tl)) ?_)) ?_)
        refine RG.a2 2 3 rfl rfl (fun X2 hX2 => ?_) (fun X3 hX3 => ?_)
        · as_aux_lemma =>
            refine TL.call (M := []) rfl (enters Tryz.func43 rfl rfl) (List.Perm.refl _) rfl (fun w hw => by
                exact bales_any _) ?_
            rintro ⟨B1, e1⟩
            refine TL.nil ?_
            refine TQ.nxt (hX2 _ _ (by repeat (first | exact HasL.nil | refine HasL.cons (by repeat (first | exact Pick.hd | apply Pick.tl)) ?_)) ?_)
            refine RG.a1 3 rfl (fun X3 hX3 => ?_)
            refine TL.m Mk.bl ?_
            intro x3
            refine TL.nil ?_
            refine TQ.nxt (hX3 _ _ (by repeat (first | exact HasL.nil | refine HasL.cons (by repeat (first | exact Pick.hd | apply Pick.tl)) ?_)) ?_)
            refine RG.a1 5 rfl (fun X5 hX5 => ?_)
            refine TL.cr rfl (enters Tryz.func44 rfl rfl) (fun w hw => by
                exact pair_any _ _ _ _ _ _ _) ?_
            refine TL.nil ?_
            refine TQ.nxt (hX5 _ _ (by repeat (first | exact HasL.nil | refine HasL.cons (by repeat (first | exact Pick.hd | apply Pick.tl)) ?_)) ?_)
            refine RG.a1 6 rfl (fun X6 hX6 => ?_)
            refine TL.cr rfl (enters Tryz.func35 rfl rfl) (fun w hw => by
                exact readyEx (hG.sat hw (by simp)) (OwnR.rdr (hw.holds (.own B1 4 e1 45 11 (fun k => packL (balP k))) (by simp))) (RdR.blk (hw.holds (.blk _ 3 [.int .i64 0, .int .i64 1]) (by simp)) rfl (fun _ _ => rfl)) (RdR.blk (hw.holds (.blk _ 3 [.int .i64 2]) (by simp)) rfl (fun _ _ => rfl))) ?_
            refine TL.nil ?_
            refine TQ.nxt (hX6 _ _ (by repeat (first | exact HasL.nil | refine HasL.cons (by repeat (first | exact Pick.hd | apply Pick.tl)) ?_)) ?_)
            refine RG.tk 7 rfl Pu.mv ?_
            refine RG.tk 8 rfl Pu.ex ?_
            refine RG.tk 9 rfl Pu.ex ?_
            refine RG.tk 10 rfl Pu.as ?_
            refine RG.tk 11 rfl Pu.as ?_
            exact RG.nil (TQ.sub (by repeat (first | exact trivial | refine ⟨rfl, ?_⟩ | refine ⟨trivial, ?_⟩)) (by repeat (first | exact KSub.nil | refine KSub.cons (by repeat (first | exact Pick.hd | apply Pick.tl)) ?_ | exact KSub.refl _ | refine KSub.drop ?_)) (hE e1)) (by kernel_rfl)
        · as_aux_lemma =>
            refine TL.m Mk.bl ?_
            intro x3
            refine TL.nil ?_
            refine TQ.nxt (hX3 _ _ (by repeat (first | exact HasL.nil | refine HasL.cons (by repeat (first | exact Pick.hd | apply Pick.tl)) ?_)) ?_)
            refine RG.a1 2 rfl (fun X2 hX2 => ?_)
            refine TL.call (M := []) rfl (enters Tryz.func43 rfl rfl) (List.Perm.refl _) rfl (fun w hw => by
                exact bales_any _) ?_
            rintro ⟨B1, e1⟩
            refine TL.nil ?_
            refine TQ.nxt (hX2 _ _ (by repeat (first | exact HasL.nil | refine HasL.cons (by repeat (first | exact Pick.hd | apply Pick.tl)) ?_)) ?_)
            refine RG.a1 5 rfl (fun X5 hX5 => ?_)
            refine TL.cr rfl (enters Tryz.func44 rfl rfl) (fun w hw => by
                exact pair_any _ _ _ _ _ _ _) ?_
            refine TL.nil ?_
            refine TQ.nxt (hX5 _ _ (by repeat (first | exact HasL.nil | refine HasL.cons (by repeat (first | exact Pick.hd | apply Pick.tl)) ?_)) ?_)
            refine RG.a1 6 rfl (fun X6 hX6 => ?_)
            refine TL.cr rfl (enters Tryz.func35 rfl rfl) (fun w hw => by
                exact readyEx (hG.sat hw (by simp)) (OwnR.rdr (hw.holds (.own B1 4 e1 45 11 (fun k => packL (balP k))) (by simp))) (RdR.blk (hw.holds (.blk _ 3 [.int .i64 0, .int .i64 1]) (by simp)) rfl (fun _ _ => rfl)) (RdR.blk (hw.holds (.blk _ 3 [.int .i64 2]) (by simp)) rfl (fun _ _ => rfl))) ?_
            refine TL.nil ?_
            refine TQ.nxt (hX6 _ _ (by repeat (first | exact HasL.nil | refine HasL.cons (by repeat (first | exact Pick.hd | apply Pick.tl)) ?_)) ?_)
            refine RG.tk 7 rfl Pu.mv ?_
            refine RG.tk 8 rfl Pu.ex ?_
            refine RG.tk 9 rfl Pu.ex ?_
            refine RG.tk 10 rfl Pu.as ?_
            refine RG.tk 11 rfl Pu.as ?_
            exact RG.nil (TQ.sub (by repeat (first | exact trivial | refine ⟨rfl, ?_⟩ | refine ⟨trivial, ?_⟩)) (by repeat (first | exact KSub.nil | refine KSub.cons (by repeat (first | exact Pick.hd | apply Pick.tl)) ?_ | exact KSub.refl _ | refine KSub.drop ?_)) (hE e1)) (by kernel_rfl)
end Go.Proofs.YtjephihlkjpohaaGreatDoor
namespace Go.Proofs.YtjephihlkjpohaaGreatDoor
set_option linter.all false
set_option linter.unusedVariables false
set_option linter.unusedSimpArgs false
open Go.RowKit
section
variable (f : Nat → Int) (n : Nat) (u : Nat → Int) (i : Nat)
end
theorem mul_mono {a b c d : Int} (ha : 0 ≤ a) (hab : a ≤ b) (hc : 0 ≤ c) (hcd : c ≤ d) : 0 ≤ a * c ∧ a * c ≤ b * d :=
  ⟨Int.mul_nonneg ha hc, Int.le_trans (Int.mul_le_mul_of_nonneg_right hab hc) (Int.mul_le_mul_of_nonneg_left hcd (by omega))⟩
end Go.Proofs.YtjephihlkjpohaaGreatDoor
namespace Go.Proofs.YtjephihlkjpohaaGreatDoor
set_option linter.all false
set_option linter.unusedVariables false
set_option linter.unusedSimpArgs false
def AddsH (T : (Nat → Nat → Int) → Nat → Nat → Int) : Prop := ∃ d : Nat → Int, (∀ q, 0 ≤ d q) ∧ ∀ f q j, T f q j = f q j + (if j = 9 then d q else 0)
theorem AddsH.id : AddsH fun f => f := ⟨fun _ => 0, fun _ => Int.le_refl _, fun f q j => by simp⟩
theorem AddsH.comp {S T : (Nat → Nat → Int) → Nat → Nat → Int} (hs : AddsH S) (ht : AddsH T) : AddsH fun f => T (S f) := by
  obtain ⟨d, d0, hd⟩ := hs
  obtain ⟨e, e0, he⟩ := ht
  refine ⟨fun q => d q + e q, fun q => by have h1 := d0 q; have h2 := e0 q; show 0 ≤ d q + e q; omega, fun f q j => ?_⟩
  show T (S f) q j = f q j + (if j = 9 then d q + e q else 0)
  rw [he, hd]
  split <;> omega
theorem AddsH.bump {x h : Int} (h0 : 0 ≤ h) : AddsH fun f => bump f x h := by
  refine ⟨fun q => if (q : Int) = x then h else 0, fun q => by dsimp only; split <;> omega, fun f q j => ?_⟩
  unfold Go.Proofs.YtjephihlkjpohaaGreatDoor.bump
  by_cases h1 : (q : Int) = x <;> by_cases h2 : j = 9 <;> simp [h1, h2]
theorem AddsH.hit {x h : Int} {top : Bool} (h0 : 0 ≤ h) : AddsH fun f => hit f h top x := by
  unfold Go.Proofs.YtjephihlkjpohaaGreatDoor.hit
  cases top with
  | true => exact (AddsH.bump h0).comp (AddsH.bump h0)
  | false => exact AddsH.bump h0
theorem AddsH.hitL {h : Int} {top : Bool} (h0 : 0 ≤ h) : ∀ xs : List Int, AddsH fun f => hitL f h top xs
  | [] => AddsH.id
  | x :: xs => (AddsH.hit h0).comp (AddsH.hitL h0 xs)
theorem AddsH.hitJ {h : Int} {l : Nat → Nat} {v : Nat → Nat → Int} (h0 : 0 ≤ h) : ∀ n, AddsH fun f => hitJ f h l v n
  | 0 => AddsH.id
  | n + 1 => (AddsH.hitJ h0 n).comp (AddsH.hitL h0 _)
theorem AddsH.hitAll {jt : Nat → Nat → Int} {l : Nat → Nat → Nat} {v : Nat → Nat → Nat → Int} : ∀ n, (∀ k, k < n → 0 ≤ jt k 1) → AddsH fun f => hitAll f jt l v n
  | 0, _ => AddsH.id
  | n + 1, h => (AddsH.hitAll n fun k hk => h k (by omega)).comp (AddsH.hitJ (h n (by omega)) 3)
theorem hitAll_split {f jt : Nat → Nat → Int} {l : Nat → Nat → Nat} {v : Nat → Nat → Nat → Int} {k : Nat} : ∀ n, hitAll (hitAll f jt l v k) (fun i => jt (k + i)) l v n = hitAll f jt l v (k + n)
  | 0 => rfl
  | n + 1 => by
    show hitJ (hitAll (hitAll f jt l v k) (fun i => jt (k + i)) l v n) _ _ _ 3 = hitJ (hitAll f jt l v (k + n)) _ _ _ 3
    rw [hitAll_split n]
    rfl
structure LessP (p p' : Nat → Int) : Prop where
  same : ∀ j, j ≠ 9 → j ≠ 10 → p' j = p j
  hurt : p 9 ≤ p' 9
  days : p 10 ≤ p' 10
theorem packOk_mid {p q r : Nat → Int} (h1 : LessP p q) (h2 : LessP q r) (hp : packOk p = true) (hr : packOk r = true) : packOk q = true := by
  obtain ⟨a, k⟩ := (packOk_iff p).1 hp
  obtain ⟨b, _⟩ := (packOk_iff r).1 hr
  have c := h2.hurt
  have d := h2.days
  have c' := h1.hurt
  have d' := h1.days
  apply (packOk_iff q).2
  unfold okF at *
  rw [h1.same 0 (by omega) (by omega), h1.same 1 (by omega) (by omega), h1.same 2 (by omega) (by omega), h1.same 3 (by omega) (by omega), h1.same 4 (by omega) (by omega), h1.same 5 (by omega) (by omega), h1.same 6 (by omega) (by omega), h1.same 7 (by omega) (by omega), h1.same 8 (by omega) (by omega)]
  refine ⟨⟨a.1, a.2.1, a.2.2.1, ?_, ?_, ?_, ?_⟩, k⟩ <;> omega
theorem rest_less {p p' : Nat → Int} (h : LessP p p') (hp : packOk p = true) : (restV p').getD 0 0 ≤ (restV p).getD 0 0 ∧ (restV p').getD 1 0 ≤ (restV p).getD 1 0 ∧ (restV p).getD 2 0 ≤ (restV p').getD 2 0 ∧ (restV p).getD 3 0 ≤ (restV p').getD 3 0 ∧ (restV p).getD 4 0 ≤ (restV p').getD 4 0 := by
  obtain ⟨⟨h1, h2, h3, h4, h5, h6, h7⟩, hk⟩ := (packOk_iff p).1 hp
  have c := h.hurt
  have d := h.days
  unfold restV
  simp only [h.same 0 (by omega) (by omega), h.same 1 (by omega) (by omega), h.same 2 (by omega) (by omega), h.same 3 (by omega) (by omega), h.same 4 (by omega) (by omega), h.same 5 (by omega) (by omega), h.same 6 (by omega) (by omega), h.same 7 (by omega) (by omega), h.same 8 (by omega) (by omega)]
  rcases hk with hk | hk | hk
  · have e1 := mul_mono (a := p 1) (b := p 1) (c := 1000 - p 6) (d := 1000) h1 (Int.le_refl _) (by omega) (by omega)
    have e2 := mul_mono (a := p 2) (b := p 2) (c := 1000 - p 5) (d := 1000) (by omega) (Int.le_refl _) (by omega) (by omega)
    have e3 := mul_mono (a := p 1) (b := p 1) (c := p 5) (d := 1000) h1 (Int.le_refl _) (by omega) (by omega)
    have e4 := mul_mono (a := p 2) (b := p 2) (c := p 6) (d := 1000) (by omega) (Int.le_refl _) (by omega) (by omega)
    rw [if_neg (by omega : ¬ p 0 = 3), if_neg (by omega : ¬ p 0 = 3)]
    (repeat' split) <;> simp only [List.getD_cons_zero, List.getD_cons_succ] <;> omega
  · rw [if_neg (by omega : ¬ p 0 = 3), if_neg (by omega : ¬ p 0 = 3), if_pos (.inl hk.1), if_pos (.inl hk.1)]
    simp
  · have e1 := mul_mono (a := p 7) (b := p 7) (c := p 10) (d := p' 10) (by omega) (Int.le_refl _) h6 d
    have e2 := mul_mono (a := p 8) (b := p 8) (c := p 10) (d := p' 10) (by omega) (Int.le_refl _) h6 d
    rw [if_pos hk.1, if_pos hk.1]
    simp only [List.getD_cons_zero, List.getD_cons_succ]
    omega
end Go.Proofs.YtjephihlkjpohaaGreatDoor
namespace Go.Proofs.YtjephihlkjpohaaGreatDoor
set_option linter.all false
set_option linter.unusedVariables false
set_option linter.unusedSimpArgs false
open Go.RowKit
def jn (np : Nat) (pk : Nat → Nat → Int) (m : Nat) (l : Nat → Nat → Nat) (v : Nat → Nat → Nat → Int) (nj : Nat) (jt : Nat → Nat → Int) (days : Int) : Nat := if jcode np pk m l v nj jt days = 0 then np else 0
set_option maxRecDepth 100000 in
theorem loadJolted_any {w : World} {A A2 A3 : Option Addr} {np m cp cp2 nj cp3 : Nat} {pk jt : Nat → Nat → Int} {a : Nat → Nat → Option Addr} {l c : Nat → Nat → Nat} {v : Nat → Nat → Nat → Int} {days : Int}
    (hLay : Lay w A A2 np m pk a l c v) (hJ : RdR w 2 A3 nj (fun k => spL (jt k 0) (jt k 1))) (hnj : nj ≤ 1000000) :
    CallsK Tryz.prog 39 #[.slice A np cp, .slice A2 m cp2, .slice A3 nj cp3, .int .i64 days] [] w (Option Addr × Nat) (fun x => .tuple #[.slice x.1 (jn np pk m l v nj jt days) x.2, .int .i64 (jcode np pk m l v nj jt days)])
      (fun x => [.own x.1 (jn np pk m l v nj jt days) x.2 45 11 (fun q => packL (finF pk jt l v np nj days q))]) := by
  refine K_enter (S := []) (K := []) Tryz.func39 rfl Tryz.ntmps39 rfl (Sat.start _) ?_
  refine TW.seq fun Y1 hY1 => ?_
  refine TW.region ?_
  refine TL.m Mk.bx ?_
  intro b1
  refine TL.m Mk.bx ?_
  intro b2
  refine TL.m Mk.bx ?_
  intro b3
  refine TL.m Mk.bx ?_
  intro b4
  refine TL.m (Mk.al ty_zr22) ?_
  intro b5
  refine TL.p Pu.as ?_
  refine TL.nil ?_
  refine TQ.thenN (hY1 _ _ ?_)
  refine TW.seq fun Y2 hY2 => ?_
  refine TW.region ?_
  refine TL.p Pu.fn ?_
  refine TL.call rfl (enters Tryz.func45 rfl rfl) (M := [.blk b5 22 [.slice none 0 0]]) (List.Perm.refl _) rfl (fun w hw => by
      have hB1 : Blk w b1 22 #[.slice A np cp] := hw.holds (.blk b1 22 [.slice A np cp]) (by simp)
      have hB2 : Blk w b2 23 #[.slice A2 m cp2] := hw.holds (.blk b2 23 [.slice A2 m cp2]) (by simp)
      have hB3 : Blk w b3 94 #[.slice A3 nj cp3] := hw.holds (.blk b3 94 [.slice A3 nj cp3]) (by simp)
      have hB4 : Blk w b4 3 #[.int .i64 days] := hw.holds (.blk b4 3 [.int .i64 days]) (by simp)
      have hnd := hw.nd
      simp [feet, Fact.foot] at hnd
      have hge : ∀ b ∈ [b5], _ ≤ b := fun b hb => by
        have := hw.ge b (by rw [List.mem_singleton] at hb; subst hb; simp [feet, Fact.foot])
        exact this.resolve_left (by simp)
      have hsub : Sat [] _ [.blk b5 22 [.slice none 0 0]] w := hw.sub (KSub.cons Pick.hd KSub.nil)
      have hbel := Chg.ext hw.chg
      have ht := trying_any (M := [.blk b5 22 [.slice none 0 0]]) (code := jcode np pk m l v nj jt days) (fs := []) (cs := [.pointer (some ⟨b1, 0, none⟩), .pointer (some ⟨b2, 0, none⟩), .pointer (some ⟨b4, 0, none⟩), .pointer (some ⟨b3, 0, none⟩), .pointer (some ⟨b5, 0, none⟩)]) (enters Tryz.func81 rfl rfl) hsub.self fun w' hw' => by
        have m5 : ∀ b, b ≠ b5 → b ∉ feet [.blk b5 22 [.slice none 0 0]] := fun b h => by simpa [feet, Fact.foot] using h
        refine jolted1_any hLay hJ hnj (old_below hbel hw' (by simpa [feet, Fact.foot] using hge)) (hge b5 (by simp)) ((OldB.of_blk (cs := [_]) hB1).sat hw' (m5 _ ?_)) ((OldB.of_blk (cs := [_]) hB2).sat hw' (m5 _ ?_)) ((OldB.of_blk (cs := [_]) hB4).sat hw' (m5 _ ?_)) ((OldB.of_blk (cs := [_]) hB3).sat hw' (m5 _ ?_)) ?_ ?_ ?_ ?_ hw'.self
        all_goals (intro e; subst e; simp at hnd)
      refine Calls.mono (R' := fun e w' => ∃ x : Option Addr × Nat, e = .returned (.int .i64 (jcode np pk m l v nj jt days)) ∧ Sat (feet [.blk b5 22 [.slice none 0 0]]) w [.blk b5 22 [.slice x.1 (jn np pk m l v nj jt days) x.2], .own x.1 (jn np pk m l v nj jt days) x.2 45 11 (fun q => packL (finF pk jt l v np nj days q))] w') ht ?_
      rintro e w' ⟨x, he, hs⟩
      by_cases h0 : jcode np pk m l v nj jt days = 0
      · refine ⟨x, he, ?_⟩
        replace hs : Sat _ w (if jcode np pk m l v nj jt days = 0 then _ else _) w' := hs
        rw [if_pos h0] at hs
        unfold jn
        rw [if_pos h0]
        exact hs
      · refine ⟨(none, 0), he, ?_⟩
        replace hs : Sat _ w (if jcode np pk m l v nj jt days = 0 then _ else _) w' := hs
        rw [if_neg h0] at hs
        unfold jn
        rw [if_neg h0]
        exact hs.sub (KSub.cons Pick.hd (KSub.nilOwn KSub.nil))) ?_
  rintro ⟨Ax, cx⟩
  refine TL.p Pu.as ?_
  refine TL.nil ?_
  refine TQ.thenN (hY2 _ _ ?_)
  refine TW.seq fun Y3 hY3 => ?_
  refine TW.region ?_
  refine TL.p (Pu.ld ty_sc22) ?_
  refine TL.p Pu.mv ?_
  first | refine TL.st ty_sz22 ?_ | refine TL.se ty_sz22 ?_
  refine TL.p Pu.as ?_
  refine TL.nil ?_
  refine TQ.thenN (hY3 _ _ ?_)
  refine TW.ret ?_
  refine TQ.ret Tryz.results39 rfl ((RV.c1 ty_sc22 (.tmp rfl .nil))) ?_
  exact fun w hw => ⟨(Ax, cx), rfl, hw.sub (KSub.cons (by repeat (first | exact Pick.hd | apply Pick.tl)) KSub.nil)⟩
end Go.Proofs.YtjephihlkjpohaaGreatDoor
namespace Go.Proofs.YtjephihlkjpohaaGreatDoor
set_option linter.all false
set_option linter.unusedVariables false
set_option linter.unusedSimpArgs false
section
variable {np m nj : Nat} {pk jt : Nat → Nat → Int} {l : Nat → Nat → Nat} {v : Nat → Nat → Nat → Int} {days : Int}
theorem jcode_ok : jcode np pk m l v nj jt days = 0 ↔ checkV np pk m l v = 0 ∧ 0 ≤ days ∧ days ≤ 100000 ∧ nj ≤ 60 ∧ (∀ k, k < nj → joltP m (jt k) = true) ∧ ∀ q, q < np → packOk (finF pk jt l v np nj days q) = true := by
  constructor
  · intro h
    unfold jcode at h
    split at h
    · rename_i h1
      split at h
      · rename_i h2
        split at h
        · rename_i h3
          split at h
          · rename_i h4
            split at h
            · rename_i h5
              simp only [inB5, Bool.and_eq_true, decide_eq_true_eq] at h2 h3
              exact ⟨h1, h2.1, h2.2, by omega, allB_iff.1 h4, allB_iff.1 h5⟩
            · omega
          · omega
        · omega
      · omega
    · omega
  · rintro ⟨h1, h2, h3, h4, h5, h6⟩
    unfold jcode inB5
    rw [if_pos h1, if_pos (by simp; omega), if_pos (by simp; omega), if_pos (allB_iff.2 h5), if_pos (allB_iff.2 h6)]
theorem joltP_nn {j : Nat → Int} (h : joltP m j = true) : 0 ≤ j 1 := by
  simp only [joltP, inB5, Bool.and_eq_true, decide_eq_true_eq] at h
  omega
theorem fin_form (hj : ∀ k, k < nj → joltP m (jt k) = true) : ∃ d : Nat → Int, (∀ q, 0 ≤ d q) ∧ (∀ f q j, hitAll f jt l v nj q j = f q j + (if j = 9 then d q else 0)) ∧ ∀ f dd q j, q < np → finF f jt l v np nj dd q j = f q j + (if j = 9 then d q else 0) + (if j = 10 then dd else 0) := by
  obtain ⟨d, h0, h1⟩ := AddsH.hitAll (jt := jt) (l := l) (v := v) nj fun k hk => joltP_nn (hj k hk)
  have h1 : ∀ f q j, hitAll f jt l v nj q j = f q j + (if j = 9 then d q else 0) := h1
  refine ⟨d, h0, h1, fun f dd q j hq => ?_⟩
  show aged (hitAll f jt l v nj) dd np q j = _
  unfold aged
  rw [h1]
  by_cases h10 : j = 10
  · rw [if_pos ⟨hq, h10⟩, if_pos h10]
  · rw [if_neg (fun h => h10 h.2), if_neg h10]; omega
theorem fin_less (hj : ∀ k, k < nj → joltP m (jt k) = true) (hd : 0 ≤ days) {q : Nat} (hq : q < np) : LessP (pk q) (finF pk jt l v np nj days q) ∧ finF pk jt l v np nj days q 10 = pk q 10 + days := by
  obtain ⟨d, h0, _, h2⟩ := fin_form (np := np) (l := l) (v := v) hj
  refine ⟨⟨fun j h9 h10 => ?_, ?_, ?_⟩, ?_⟩
  · rw [h2 _ _ _ _ hq, if_neg h9, if_neg h10]; omega
  · rw [h2 _ _ _ _ hq, if_pos rfl, if_neg (by omega)]; have := h0 q; omega
  · rw [h2 _ _ _ _ hq, if_neg (by omega), if_pos rfl]; omega
  · rw [h2 _ _ _ _ hq, if_neg (by omega), if_pos rfl]; omega
theorem fin_split (hj : ∀ k, k < nj → joltP m (jt k) = true) {k : Nat} (hk : k ≤ nj) (first : Int) {q j : Nat} (hq : q < np) :
    finF (finF pk jt l v np k first) (fun i => jt (k + i)) l v np (nj - k) (days - first) q j = finF pk jt l v np nj days q j := by
  obtain ⟨d1, _, a1, b1⟩ := fin_form (np := np) (nj := k) (jt := jt) (l := l) (v := v) (m := m) fun i hi => hj i (by omega)
  obtain ⟨d2, _, a2, b2⟩ := fin_form (np := np) (nj := nj - k) (jt := fun i => jt (k + i)) (l := l) (v := v) (m := m) fun i hi => hj (k + i) (by omega)
  obtain ⟨d, _, a3, b3⟩ := fin_form (np := np) (nj := nj) (jt := jt) (l := l) (v := v) (m := m) hj
  have e : d q = d1 q + d2 q := by
    have h := congrFun (congrFun (hitAll_split (f := fun _ _ => 0) (jt := jt) (l := l) (v := v) (k := k) (nj - k)) q) 9
    rw [show k + (nj - k) = nj by omega, a3, a2, a1] at h
    simp at h
    omega
  rw [b2 _ _ _ _ hq, b1 _ _ _ _ hq, b3 _ _ _ _ hq, e]
  split <;> split <;> omega
theorem less_in (h : jcode np pk m l v nj jt days = 0) {k : Nat} (hk : k ≤ nj) {first : Int} (h0 : 0 ≤ first) (h1 : first ≤ days) :
    jcode np pk m l v k jt first = 0 ∧ jcode np (finF pk jt l v np k first) m l v (nj - k) (fun i => jt (k + i)) (days - first) = 0 ∧ ∀ q, q < np → ∀ j, finF (finF pk jt l v np k first) (fun i => jt (k + i)) l v np (nj - k) (days - first) q j = finF pk jt l v np nj days q j := by
  obtain ⟨c1, c2, c3, c4, c5, c6⟩ := jcode_ok.1 h
  obtain ⟨_, hp, _⟩ := check_ok c1
  have hj1 : ∀ i, i < k → joltP m (jt i) = true := fun i hi => c5 i (by omega)
  have hj2 : ∀ i, i < nj - k → joltP m (jt (k + i)) = true := fun i hi => c5 (k + i) (by omega)
  have hs : ∀ q, q < np → ∀ j, finF (finF pk jt l v np k first) (fun i => jt (k + i)) l v np (nj - k) (days - first) q j = finF pk jt l v np nj days q j := fun q hq j => fin_split c5 hk first hq
  have hmid : ∀ q, q < np → packOk (finF pk jt l v np k first q) = true := fun q hq => by
    refine packOk_mid (fin_less hj1 h0 hq).1 (fin_less (l := l) (v := v) (days := days - first) hj2 (by omega) hq).1 (hp q hq) ?_
    have e : finF (finF pk jt l v np k first) (fun i => jt (k + i)) l v np (nj - k) (days - first) q = finF pk jt l v np nj days q := funext fun j => hs q hq j
    rw [e]
    exact c6 q hq
  refine ⟨jcode_ok.2 ⟨c1, h0, by omega, by omega, hj1, hmid⟩, jcode_ok.2 ⟨?_, by omega, by omega, by omega, hj2, fun q hq => ?_⟩, hs⟩
  · unfold checkV at c1 ⊢
    have e : packsOk np (finF pk jt l v np k first) = packsOk np pk := by
      unfold packsOk
      congr 1
      rw [allB_iff.2 hmid, allB_iff.2 hp]
    rw [e]
    exact c1
  · have e : finF (finF pk jt l v np k first) (fun i => jt (k + i)) l v np (nj - k) (days - first) q = finF pk jt l v np nj days q := funext fun j => hs q hq j
    rw [e]
    exact c6 q hq
end
end Go.Proofs.YtjephihlkjpohaaGreatDoor
namespace Go.Proofs.YtjephihlkjpohaaGreatDoor
set_option linter.all false
set_option linter.unusedVariables false
set_option linter.unusedSimpArgs false
open Go.RowKit
theorem great_no {np m : Nat} {l : Nat → Nat → Nat} (h : greatB np m l = false) : np ≤ 40 ∧ m ≤ 12 ∧ ∀ i, i < m → tot (l i) 3 ≤ 48 := by
  simp only [greatB, Bool.or_eq_false_iff, decide_eq_false_iff_not, anyB_false] at h
  refine ⟨by omega, by omega, fun i hi => ?_⟩
  have := h.2 i hi
  simp only [bigT, Bool.or_eq_false_iff, decide_eq_false_iff_not] at this
  rw [tot3]
  omega
end Go.Proofs.YtjephihlkjpohaaGreatDoor
namespace Go.Proofs.YtjephihlkjpohaaGreatDoor
set_option linter.all false
set_option linter.unusedVariables false
set_option linter.unusedSimpArgs false
open Go.RowKit
theorem rest_two {p p' : Nat → Int} (h : LessP p p') (hp : packOk p = true) (hp' : packOk p' = true) : ∃ x0 x1 x2 x3 x4 y0 y1 y2 y3 y4 : Int, restK p = [.agg #[.int .i64 x0, .int .i64 x1], .agg #[.int .i64 x2, .int .i64 x3], .int .u8 x4, .int .i64 0] ∧ restK p' = [.agg #[.int .i64 y0, .int .i64 y1], .agg #[.int .i64 y2, .int .i64 y3], .int .u8 y4, .int .i64 0] ∧ y0 ≤ x0 ∧ y1 ≤ x1 ∧ x2 ≤ y2 ∧ x3 ≤ y3 ∧ x4 ≤ y4 :=
  have T := rest_less h hp
  ⟨_, _, _, _, _, _, _, _, _, _, by unfold restK; rw [if_pos hp]; rfl, by unfold restK; rw [if_pos hp']; rfl, T.1, T.2.1, T.2.2.1, T.2.2.2.1, T.2.2.2.2⟩
theorem RdR.pre {w : World} {sz n q : Nat} {A : Option Addr} {r : Nat → List Value} (h : RdR w sz A n r) (hq : q ≤ n) : RdR w sz A q r := ⟨h.rd.pre hq, fun i hi => h.len i (by omega)⟩
theorem jolted_ok {w : World} {A A2 A3 : Option Addr} {np m cp cp2 nj cp3 : Nat} {pk jt : Nat → Nat → Int} {a : Nat → Nat → Option Addr} {l c : Nat → Nat → Nat} {v : Nat → Nat → Nat → Int} {days : Int}
    (hLay : Lay w A A2 np m pk a l c v) (hJ : RdR w 2 A3 nj (fun k => spL (jt k 0) (jt k 1))) (hnj : nj ≤ 1000000) (h0 : jcode np pk m l v nj jt days = 0) :
    CallsK Tryz.prog 39 #[.slice A np cp, .slice A2 m cp2, .slice A3 nj cp3, .int .i64 days] [] w (Option Addr × Nat) (fun x => .tuple #[.slice x.1 np x.2, .int .i64 0])
      (fun x => [.own x.1 np x.2 45 11 (fun q => packL (finF pk jt l v np nj days q))]) := by
  have h := loadJolted_any (cp := cp) (cp2 := cp2) (cp3 := cp3) (days := days) hLay hJ hnj
  have e : jn np pk m l v nj jt days = np := if_pos h0
  rw [e, h0] at h
  exact h
set_option maxRecDepth 100000 in
set_option maxHeartbeats 4000000 in
theorem lawLess_any {w : World} {A AT AJ : Option Addr} {np cp m cpT nj cpJ : Nat} {pk jt : Nat → Nat → Int} {a : Nat → Nat → Option Addr} {l c : Nat → Nat → Nat} {v : Nat → Nat → Nat → Int} {days cut early : Int}
    (hG : None0 w) (hR : RdR w 11 A np (fun k => packL (pk k))) (hT : RdR w 3 AT m (fun i => tieL (a i) (l i) (c i))) (hI : ∀ i, i < m → ∀ j, j < 3 → RdR w 1 (a i j) (l i j) (fun k => [.int .i64 (v i j k)]))
    (hJ : RdR w 2 AJ nj (fun k => spL (jt k 0) (jt k 1))) (hcJ : nj ≤ cpJ) (hcut : 0 ≤ cut ∧ cut ≤ 255) (hearly : 0 ≤ early ∧ early ≤ 4294967295) :
    Calls Tryz.prog 11 #[.slice A np cp, .slice AT m cpT, .slice AJ nj cpJ, .int .i64 days, .int .u8 cut, .int .u32 early] w (Ret w (.bool true)) := by
  refine K_enter (S := []) (K := []) Tryz.func11 rfl Tryz.ntmps11 rfl (Sat.start _) ?_
  refine TW.seq fun Y1 hY1 => ?_
  refine TW.region ?_
  refine TL.p Pu.as ?_
  refine TL.nil ?_
  refine TQ.thenN (hY1 _ _ ?_)
  refine TW.seq fun Y2 hY2 => ?_
  refine TW.region ?_
  refine TL.cr rfl (enters Tryz.func21 rfl rfl) (fun w hw => by
      exact alive_any _ (hG.sat hw (by simp))) ?_
  refine TL.p Pu.as ?_
  refine TL.nil ?_
  refine TQ.thenN (hY2 _ _ ?_)
  refine TW.seq fun Y3 hY3 => ?_
  refine TW.seq fun Y4 hY4 => ?_
  refine TW.region ?_
  refine TL.p Pu.mv ?_
  refine TL.p Pu.mv ?_
  refine TL.cr rfl (enters Tryz.func13 rfl rfl) (fun w hw => by
      exact great_any (hT.sat hw Apart.nil)) ?_
  refine TL.p Pu.mv ?_
  refine TL.guard (t := 36) rfl (fun hg1 => ?_) (fun hg1 => ?_)
  · try simp only [decide_eq_true_eq, decide_eq_false_iff_not, Bool.not_eq_true', Bool.not_eq_false', Int.natCast_pos] at hg1
    refine TL.gs ?_
    refine TL.gs ?_
    refine TL.gs ?_
    refine TL.p Pu.kt ?_
    refine TL.p Pu.mv ?_
    refine TL.gs ?_
    refine TL.gs ?_
    refine TL.gs ?_
    refine TL.gs ?_
    refine TL.p Pu.kt ?_
    refine TL.p Pu.mv ?_
    refine TL.gs ?_
    refine TL.gs ?_
    refine TL.p Pu.kt ?_
    refine TL.nil ?_
    refine TQ.thenN (hY4 _ _ ?_)
    refine TW.condT rfl rfl ?_
    refine TW.seq fun Y5 hY5 => ?_
    refine TW.region ?_
    refine TL.p Pu.mv ?_
    refine TL.p Pu.as ?_
    refine TL.nil ?_
    refine TQ.thenN (hY5 _ _ ?_)
    refine TW.ret ?_
    refine TQ.thenR ?_
    refine TQ.ret Tryz.results11 rfl ((.tmp rfl .nil)) ?_
    refine fun w hw => ⟨?_, Chg.ext hw.chg⟩
    refine congrArg (fun b => Ending.returned (Value.bool b)) ?_
    first
      | rfl
      | (simp [hjn]; done)
  · try simp only [decide_eq_true_eq, decide_eq_false_iff_not, Bool.not_eq_true', Bool.not_eq_false', Int.natCast_pos] at hg1
    refine TL.gd Pu.mv ?_
    refine TL.gd (Pu.ln Tryz.underlying94) ?_
    refine TL.gd Pu.gt ?_
    refine TL.p Pu.kf ?_
    refine TL.p Pu.mv ?_
    refine TL.guard (t := 41) rfl (fun hg2 => ?_) (fun hg2 => ?_)
    · try simp only [decide_eq_true_eq, decide_eq_false_iff_not, Bool.not_eq_true', Bool.not_eq_false', Int.natCast_pos] at hg2
      refine TL.gs ?_
      refine TL.gs ?_
      refine TL.gs ?_
      refine TL.gs ?_
      refine TL.p Pu.kt ?_
      refine TL.p Pu.mv ?_
      refine TL.gs ?_
      refine TL.gs ?_
      refine TL.p Pu.kt ?_
      refine TL.nil ?_
      refine TQ.thenN (hY4 _ _ ?_)
      refine TW.condT rfl rfl ?_
      refine TW.seq fun Y6 hY6 => ?_
      refine TW.region ?_
      refine TL.p Pu.mv ?_
      refine TL.p Pu.as ?_
      refine TL.nil ?_
      refine TQ.thenN (hY6 _ _ ?_)
      refine TW.ret ?_
      refine TQ.thenR ?_
      refine TQ.ret Tryz.results11 rfl ((.tmp rfl .nil)) ?_
      refine fun w hw => ⟨?_, Chg.ext hw.chg⟩
      refine congrArg (fun b => Ending.returned (Value.bool b)) ?_
      first
        | rfl
        | (simp [hjn]; done)
    · try simp only [decide_eq_true_eq, decide_eq_false_iff_not, Bool.not_eq_true', Bool.not_eq_false', Int.natCast_pos] at hg2
      have hno : greatB np m l = false := hg1
      obtain ⟨hnp40, hm12, hl48⟩ := great_no hno
      have hnj80 : nj ≤ 80 := by omega
      have hL : Lay w A AT np m pk a l c v := ⟨hG, by omega, by omega, hR, hT, hI, fun i hi => by have := hl48 i hi; omega⟩
      refine TL.gd Pu.mv ?_
      refine TL.gd Pu.mv ?_
      refine TL.cr rfl (enters Tryz.func27 rfl rfl) (fun w hw => by
          exact refCheck_any (hL.ext (Chg.ext hw.chg))) ?_
      refine TL.gd Pu.ne ?_
      refine TL.p Pu.kf ?_
      refine TL.p Pu.mv ?_
      refine TL.guard (t := 47) rfl (fun hg3 => ?_) (fun hg3 => ?_)
      · try simp only [decide_eq_true_eq, decide_eq_false_iff_not, Bool.not_eq_true', Bool.not_eq_false', Int.natCast_pos] at hg3
        refine TL.gs ?_
        refine TL.gs ?_
        refine TL.p Pu.kt ?_
        refine TL.nil ?_
        refine TQ.thenN (hY4 _ _ ?_)
        refine TW.condT rfl rfl ?_
        refine TW.seq fun Y7 hY7 => ?_
        refine TW.region ?_
        refine TL.p Pu.mv ?_
        refine TL.p Pu.as ?_
        refine TL.nil ?_
        refine TQ.thenN (hY7 _ _ ?_)
        refine TW.ret ?_
        refine TQ.thenR ?_
        refine TQ.ret Tryz.results11 rfl ((.tmp rfl .nil)) ?_
        refine fun w hw => ⟨?_, Chg.ext hw.chg⟩
        refine congrArg (fun b => Ending.returned (Value.bool b)) ?_
        first
          | rfl
          | (simp [hjn]; done)
      · try simp only [decide_eq_true_eq, decide_eq_false_iff_not, Bool.not_eq_true', Bool.not_eq_false', Int.natCast_pos] at hg3
        refine TL.gd Pu.mv ?_
        refine TL.gd Pu.no ?_
        refine TL.p Pu.kf ?_
        refine TL.nil ?_
        refine TQ.thenN (hY4 _ _ ?_)
        refine TW.condF rfl rfl ?_
        refine TW.skip ?_
        refine TQ.thenN (hY3 _ _ ?_)
        refine TW.seq fun Y8 hY8 => ?_
        refine TW.region ?_
        have hck : checkV np pk m l v = 0 := by omega
        refine TL.p Pu.mv ?_
        refine TL.p Pu.mv ?_
        refine TL.p Pu.mv ?_
        refine TL.p Pu.mv ?_
        refine TL.call (M := []) rfl (enters Tryz.func39 rfl rfl) (List.Perm.refl _) rfl (fun w hw => by
            exact loadJolted_any (hL.ext (Chg.ext hw.chg)) (hJ.sat hw Apart.nil) (by omega)) ?_
        rintro ⟨Aa, ca⟩
        refine TL.p Pu.mv ?_
        refine TL.p Pu.ex ?_
        refine TL.p Pu.ex ?_
        refine TL.p Pu.as ?_
        refine TL.p Pu.as ?_
        refine TL.nil ?_
        refine TQ.thenN (hY8 _ _ ?_)
        refine TW.seq fun Y9 hY9 => ?_
        refine TW.seq fun Y10 hY10 => ?_
        refine TW.region ?_
        refine TL.p Pu.mv ?_
        refine TL.p Pu.ne ?_
        refine TL.nil ?_
        refine TQ.thenN (hY10 _ _ ?_)
        refine TW.cond rfl (fun hc1 => ?_) (fun hc1 => ?_)
        · try simp only [decide_eq_true_eq, decide_eq_false_iff_not, Bool.not_eq_true', Bool.not_eq_false', Bool.and_eq_true, Bool.or_eq_true, Bool.and_eq_false_iff, Bool.or_eq_false_iff, Int.not_lt, Int.not_le] at hc1
          have hjn : jn np pk m l v nj jt days = 0 := if_neg hc1
          refine TW.seq fun Y11 hY11 => ?_
          refine TW.region ?_
          refine TL.p Pu.mv ?_
          refine TL.p Pu.mv ?_
          refine TL.lit (t := 63) (b' := true) rfl (rfl) ?_
          refine TL.gd Pu.mv ?_
          refine TL.gd (Pu.ln Tryz.underlying22) ?_
          refine TL.gd Pu.eq ?_
          refine TL.p Pu.kt ?_
          refine TL.p Pu.as ?_
          refine TL.nil ?_
          refine TQ.thenN (hY11 _ _ ?_)
          refine TW.ret ?_
          refine TQ.thenR ?_
          refine TQ.ret Tryz.results11 rfl ((.tmp rfl .nil)) ?_
          refine fun w hw => ⟨?_, Chg.ext hw.chg⟩
          refine congrArg (fun b => Ending.returned (Value.bool b)) ?_
          first
            | rfl
            | (simp [hjn]; done)
        · try simp only [decide_eq_true_eq, decide_eq_false_iff_not, Bool.not_eq_true', Bool.not_eq_false', Bool.and_eq_true, Bool.or_eq_true, Bool.and_eq_false_iff, Bool.or_eq_false_iff, Int.not_lt, Int.not_le] at hc1
          have hjc : jcode np pk m l v nj jt days = 0 := by omega
          have hjn : jn np pk m l v nj jt days = np := if_pos hjc
          obtain ⟨c1, c2, c3, c4, c5, c6⟩ := jcode_ok.1 hjc
          obtain ⟨_, hp, _⟩ := check_ok c1
          rw [hjn]
          refine TW.skip ?_
          refine TQ.thenN (hY9 _ _ ?_)
          refine TW.seq fun Y12 hY12 => ?_
          refine TW.seq fun Y13 hY13 => ?_
          refine TW.region ?_
          refine TL.p Pu.mv ?_
          refine TL.p (Pu.ln Tryz.underlying22) ?_
          refine TL.p Pu.mv ?_
          refine TL.p (Pu.ln Tryz.underlying22) ?_
          refine TL.p Pu.ne ?_
          refine TL.nil ?_
          refine TQ.thenN (hY13 _ _ ?_)
          refine TW.condF rfl ((by first | rfl | simp)) ?_
          refine TW.skip ?_
          refine TQ.thenN (hY12 _ _ ?_)
          refine TW.seq fun Y14 hY14 => ?_
          refine TW.seq fun Y15 hY15 => ?_
          refine TW.region ?_
          refine TL.p Pu.mv ?_
          refine TL.p (Pu.ln Tryz.underlying22) ?_
          refine TL.p Pu.mv ?_
          refine TL.nil ?_
          refine TQ.thenN (hY15 _ _ ?_)
          refine TW.block ?_
          refine TW.loop1 (fun (k : Nat) => [(75, .int .i64 (k : Int)), (74, .int .i64 (np : Int)), (73, .slice A np cp), (14, .slice Aa np ca), (3, .int .i64 days), (0, .slice A np cp), (1, .slice AT m cpT), (2, .slice AJ nj cpJ), (4, .int .u8 cut), (5, .int .u32 early), (13, .bool true)]) (fun k => [.own Aa np ca 45 11 (fun q => packL (finF pk jt l v np nj days q))]) (fun k => k ≤ np) (fun k => np - k) 0 (by repeat (first | exact trivial | refine ⟨rfl, ?_⟩ | refine ⟨trivial, ?_⟩)) ?_ ?_ ?_
          · exact (by repeat (first | exact KSub.nil | refine KSub.cons (by repeat (first | exact Pick.hd | apply Pick.tl)) ?_))
          · exact Nat.zero_le _
          rintro k hk Z0 hZ0
          refine TW.seq fun Y16 hY16 => ?_
          refine TW.region ?_
          refine TL.p Pu.lt ?_
          refine TL.nil ?_
          refine TQ.thenN (hY16 _ _ ?_)
          refine TW.seq fun Y17 hY17 => ?_
          refine TW.cond rfl (fun hc3 => ?_) (fun hc3 => ?_)
          · try simp only [decide_eq_true_eq, decide_eq_false_iff_not, Bool.not_eq_true', Bool.not_eq_false', Bool.and_eq_true, Bool.or_eq_true, Bool.and_eq_false_iff, Bool.or_eq_false_iff, Int.not_lt, Int.not_le] at hc3
            have hkl : k < np := by omega
            obtain ⟨hles, h10⟩ := fin_less (l := l) (v := v) (pk := pk) c5 c2 hkl
            have hpk := hp k hkl
            have hpa := c6 k hkl
            have e1 := hles.same 1 (by omega) (by omega)
            have e2 := hles.same 2 (by omega) (by omega)
            have e9 := hles.hurt
            obtain ⟨⟨q1, q2, q3, q4, q5, q6, q7⟩, _⟩ := (packOk_iff (pk k)).1 hpk
            obtain ⟨x0, x1, x2, x3, x4, y0, y1, y2, y3, y4, hx, hy, i0, i1, i2, i3, i4⟩ := rest_two hles hpk hpa
            refine TW.skip ?_
            refine TQ.thenN (hY17 _ _ ?_)
            refine TW.seq fun Y18 hY18 => ?_
            refine TW.block ?_
            refine TW.seq fun Y19 hY19 => ?_
            refine TW.region ?_
            refine TL.p Pu.mv ?_
            refine TL.p (Pu.el ty_et22) ?_
            refine TL.p (Pu.lds ty_ag45) ?_
            refine TL.m (Mk.al ty_zr45) ?_
            intro b1
            refine TL.p Pu.as ?_
            first | refine TL.st ty_sz45 ?_ | refine TL.se ty_sz45 ?_
            refine TL.nil ?_
            refine TQ.thenN (hY19 _ _ ?_)
            refine TW.seq fun Y20 hY20 => ?_
            refine TW.region ?_
            refine TL.p (Pu.lds ty_ag45) ?_
            refine TL.cr rfl (enters Tryz.func23 rfl rfl) (fun w hw => by
                have h := rest_any (pk k) w (hG.sat hw (by simp)); rw [hx] at h; exact h) ?_
            refine TL.p Pu.mv ?_
            refine TL.p Pu.ex ?_
            refine TL.p Pu.ex ?_
            refine TL.p Pu.ex ?_
            refine TL.p Pu.ex ?_
            refine TL.m (Mk.al ty_zr43) ?_
            intro b2
            refine TL.m (Mk.al ty_zr43) ?_
            intro b3
            first | refine TL.st ty_sz43 ?_ | refine TL.se ty_sz43 ?_
            first | refine TL.st ty_sz43 ?_ | refine TL.se ty_sz43 ?_
            refine TL.p Pu.as ?_
            refine TL.p Pu.as ?_
            refine TL.nil ?_
            refine TQ.thenN (hY20 _ _ ?_)
            refine TW.seq fun Y21 hY21 => ?_
            refine TW.region ?_
            refine TL.p Pu.mv ?_
            refine TL.p Pu.mv ?_
            refine TL.p (Pu.el ty_et22) ?_
            refine TL.p (Pu.lds ty_ag45) ?_
            refine TL.cr rfl (enters Tryz.func23 rfl rfl) (fun w hw => by
                have h := rest_any (finF pk jt l v np nj days k) w (hG.sat hw (by simp)); rw [hy] at h; exact h) ?_
            refine TL.p Pu.mv ?_
            refine TL.p Pu.ex ?_
            refine TL.p Pu.ex ?_
            refine TL.p Pu.ex ?_
            refine TL.p Pu.ex ?_
            refine TL.m (Mk.al ty_zr43) ?_
            intro b4
            refine TL.m (Mk.al ty_zr43) ?_
            intro b5
            first | refine TL.st ty_sz43 ?_ | refine TL.se ty_sz43 ?_
            first | refine TL.st ty_sz43 ?_ | refine TL.se ty_sz43 ?_
            refine TL.p Pu.as ?_
            refine TL.p Pu.as ?_
            refine TL.nil ?_
            refine TQ.thenN (hY21 _ _ ?_)
            refine TW.seq fun Y22 hY22 => ?_
            refine TW.ex0 Drop.done ?_
            refine RG.tk 0 rfl Pu.mv ?_
            refine RG.tk 1 rfl Pu.ne ?_
            refine RG.a1 2 rfl (fun X2 hX2 => ?_)
            refine TL.p Pu.mv ?_
            refine TL.lit (t := 99) (b' := false) rfl ((by simp)) ?_
            refine TL.nil ?_
            refine TQ.nxt (hX2 _ _ (by repeat (first | exact HasL.nil | refine HasL.cons (by repeat (first | exact Pick.hd | apply Pick.tl)) ?_)) ?_)
            refine RG.tk 3 rfl Pu.mv ?_
            refine RG.tk 4 rfl Pu.ne ?_
            refine RG.tk 5 rfl Pu.kf ?_
            refine RG.a1 6 rfl (fun X6 hX6 => ?_)
            refine TL.p Pu.mv ?_
            refine TL.lit (t := 103) (b' := false) rfl ((by simp)) ?_
            refine TL.nil ?_
            refine TQ.nxt (hX6 _ _ (by repeat (first | exact HasL.nil | refine HasL.cons (by repeat (first | exact Pick.hd | apply Pick.tl)) ?_)) ?_)
            refine RG.tk 7 rfl (by first | exact Pu.fb ty_fa43_0 | exact Pu.fe ty_fa43_0) ?_
            refine RG.tk 8 rfl (Pu.ld ty_sc3) ?_
            refine RG.tk 9 rfl (by first | exact Pu.fb ty_fa43_0 | exact Pu.fe ty_fa43_0) ?_
            refine RG.tk 10 rfl (Pu.ld ty_sc3) ?_
            refine RG.tk 11 rfl Pu.gt ?_
            refine RG.tk 12 rfl Pu.kf ?_
            refine RG.a1 13 rfl (fun X13 hX13 => ?_)
            refine TL.p Pu.mv ?_
            refine TL.lit (t := 110) (b' := false) rfl ((by simp; omega)) ?_
            refine TL.nil ?_
            refine TQ.nxt (hX13 _ _ (by repeat (first | exact HasL.nil | refine HasL.cons (by repeat (first | exact Pick.hd | apply Pick.tl)) ?_)) ?_)
            refine RG.tk 14 rfl (by first | exact Pu.fb ty_fa43_1 | exact Pu.fe ty_fa43_1) ?_
            refine RG.tk 15 rfl (Pu.ld ty_sc3) ?_
            refine RG.tk 16 rfl (by first | exact Pu.fb ty_fa43_1 | exact Pu.fe ty_fa43_1) ?_
            refine RG.tk 17 rfl (Pu.ld ty_sc3) ?_
            refine RG.tk 18 rfl Pu.gt ?_
            refine RG.tk 19 rfl Pu.kf ?_
            refine RG.a1 20 rfl (fun X20 hX20 => ?_)
            refine TL.p Pu.mv ?_
            refine TL.lit (t := 117) (b' := false) rfl ((by simp; omega)) ?_
            refine TL.nil ?_
            refine TQ.nxt (hX20 _ _ (by repeat (first | exact HasL.nil | refine HasL.cons (by repeat (first | exact Pick.hd | apply Pick.tl)) ?_)) ?_)
            refine RG.tk 21 rfl (by first | exact Pu.fb ty_fa43_0 | exact Pu.fe ty_fa43_0) ?_
            refine RG.tk 22 rfl (Pu.ld ty_sc3) ?_
            refine RG.tk 23 rfl (by first | exact Pu.fb ty_fa43_0 | exact Pu.fe ty_fa43_0) ?_
            refine RG.tk 24 rfl (Pu.ld ty_sc3) ?_
            refine RG.tk 25 rfl Pu.lt ?_
            refine RG.tk 26 rfl Pu.kf ?_
            refine RG.a1 27 rfl (fun X27 hX27 => ?_)
            refine TL.p Pu.mv ?_
            refine TL.lit (t := 124) (b' := false) rfl ((by simp; omega)) ?_
            refine TL.nil ?_
            refine TQ.nxt (hX27 _ _ (by repeat (first | exact HasL.nil | refine HasL.cons (by repeat (first | exact Pick.hd | apply Pick.tl)) ?_)) ?_)
            refine RG.tk 28 rfl (by first | exact Pu.fb ty_fa43_1 | exact Pu.fe ty_fa43_1) ?_
            refine RG.tk 29 rfl (Pu.ld ty_sc3) ?_
            refine RG.tk 30 rfl (by first | exact Pu.fb ty_fa43_1 | exact Pu.fe ty_fa43_1) ?_
            refine RG.tk 31 rfl (Pu.ld ty_sc3) ?_
            refine RG.tk 32 rfl Pu.lt ?_
            refine RG.tk 33 rfl Pu.kf ?_
            refine RG.a1 34 rfl (fun X34 hX34 => ?_)
            refine TL.p Pu.mv ?_
            refine TL.lit (t := 131) (b' := false) rfl ((by simp; omega)) ?_
            refine TL.nil ?_
            refine TQ.nxt (hX34 _ _ (by repeat (first | exact HasL.nil | refine HasL.cons (by repeat (first | exact Pick.hd | apply Pick.tl)) ?_)) ?_)
            refine RG.tk 35 rfl Pu.mv ?_
            refine RG.tk 36 rfl Pu.mv ?_
            refine RG.tk 37 rfl Pu.lt ?_
            refine RG.tk 38 rfl Pu.kf ?_
            refine RG.a1 39 rfl (fun X39 hX39 => ?_)
            refine TL.p Pu.mv ?_
            refine TL.lit (t := 136) (b' := false) rfl ((by simp; omega)) ?_
            refine TL.nil ?_
            refine TQ.nxt (hX39 _ _ (by repeat (first | exact HasL.nil | refine HasL.cons (by repeat (first | exact Pick.hd | apply Pick.tl)) ?_)) ?_)
            refine RG.tk 40 rfl Pu.mv ?_
            refine RG.tk 41 rfl Pu.mv ?_
            refine RG.tk 42 rfl (Pu.el ty_et22) ?_
            refine RG.tk 43 rfl (by first | exact Pu.fb ty_fa45_1 | exact Pu.fe ty_fa45_1) ?_
            refine RG.tk 44 rfl (Pu.lds ty_ag43) ?_
            refine RG.tk 45 rfl (by first | exact Pu.fb ty_fa45_1 | exact Pu.fe ty_fa45_1) ?_
            refine RG.tk 46 rfl (Pu.lds ty_ag43) ?_
            refine RG.tk 47 rfl (Pu.bn (r := .bool false) rfl rfl (fun w => by go_simp)) ?_
            refine RG.tk 48 rfl Pu.kf ?_
            refine RG.a1 49 rfl (fun X49 hX49 => ?_)
            refine TL.p Pu.mv ?_
            refine TL.lit (t := 146) (b' := false) rfl (rfl) ?_
            refine TL.nil ?_
            refine TQ.nxt (hX49 _ _ (by repeat (first | exact HasL.nil | refine HasL.cons (by repeat (first | exact Pick.hd | apply Pick.tl)) ?_)) ?_)
            refine RG.tk 50 rfl Pu.mv ?_
            refine RG.tk 51 rfl Pu.mv ?_
            refine RG.tk 52 rfl (Pu.el ty_et22) ?_
            refine RG.tk 53 rfl (by first | exact Pu.fb ty_fa45_6 | exact Pu.fe ty_fa45_6) ?_
            refine RG.tk 54 rfl (Pu.ld ty_sc3) ?_
            refine RG.tk 55 rfl (by first | exact Pu.fb ty_fa45_6 | exact Pu.fe ty_fa45_6) ?_
            refine RG.tk 56 rfl (Pu.ld ty_sc3) ?_
            refine RG.tk 57 rfl Pu.mv ?_
            refine RG.tk 58 rfl Pu.ad ?_
            refine RG.tk 59 rfl Pu.ne ?_
            refine RG.tk 60 rfl Pu.kf ?_
            refine RG.a1 61 rfl (fun X61 hX61 => ?_)
            refine TL.p Pu.mv ?_
            refine TL.lit (t := 158) (b' := false) rfl ((by simp; omega)) ?_
            refine TL.nil ?_
            refine TQ.nxt (hX61 _ _ (by repeat (first | exact HasL.nil | refine HasL.cons (by repeat (first | exact Pick.hd | apply Pick.tl)) ?_)) ?_)
            refine RG.tk 62 rfl Pu.mv ?_
            refine RG.tk 63 rfl Pu.mv ?_
            refine RG.tk 64 rfl (Pu.el ty_et22) ?_
            refine RG.tk 65 rfl (by first | exact Pu.fb ty_fa45_5 | exact Pu.fe ty_fa45_5) ?_
            refine RG.tk 66 rfl (Pu.ld ty_sc3) ?_
            refine RG.tk 67 rfl (by first | exact Pu.fb ty_fa45_5 | exact Pu.fe ty_fa45_5) ?_
            refine RG.tk 68 rfl (Pu.ld ty_sc3) ?_
            refine RG.tk 69 rfl Pu.lt ?_
            refine RG.tk 70 rfl Pu.kf ?_
            refine RG.nil ?_ (by kernel_rfl)
            refine TQ.thenN (hY22 _ _ ?_)
            refine TW.condF rfl ((by simp; omega)) ?_
            refine TW.skip ?_
            refine TQ.blkN ?_
            refine TQ.thenN (hY18 _ _ ?_)
            refine TW.region ?_
            refine TL.p Pu.ad ?_
            refine TL.p Pu.mv ?_
            refine TL.nil ?_
            refine TQ.thenN (hZ0 (k + 1) _ _ ?_ ?_ (by repeat (first | exact trivial | refine ⟨rfl, ?_⟩ | refine ⟨trivial, ?_⟩)) ?_)
            · exact (by omega)
            · exact (by first | omega | (simp only []; omega) | (simp; omega))
            · exact (by repeat (first | exact KSub.nil | refine KSub.cons (by repeat (first | exact Pick.hd | apply Pick.tl)) ?_))
          · try simp only [decide_eq_true_eq, decide_eq_false_iff_not, Bool.not_eq_true', Bool.not_eq_false', Bool.and_eq_true, Bool.or_eq_true, Bool.and_eq_false_iff, Bool.or_eq_false_iff, Int.not_lt, Int.not_le] at hc3
            obtain rfl : np = k := by omega
            refine TW.exit ?_
            refine TQ.thenX ?_
            refine TQ.thenX ?_
            refine TQ.blkX ?_
            refine TQ.thenN (hY14 _ _ ?_)
            refine TW.seq fun Y23 hY23 => ?_
            refine TW.seq fun Y24 hY24 => ?_
            refine TW.region ?_
            refine TL.p Pu.mv ?_
            refine TL.p Pu.lt ?_
            refine TL.nil ?_
            refine TQ.thenN (hY24 _ _ ?_)
            refine TW.condF rfl ((by simp; omega)) ?_
            refine TW.skip ?_
            refine TQ.thenN (hY23 _ _ ?_)
            refine TW.seq fun Y25 hY25 => ?_
            refine TW.dw 13 ?_
            refine RK.tk Pu.mv ?_
            refine RK.tk (Pu.cv (v := .int .i64 cut) rfl (fun w => by go_simp; rw [IntWalk.i64_in cut (by omega)])) ?_
            refine RK.tk Pu.mv ?_
            refine RK.tk (Pu.ln Tryz.underlying94) ?_
            refine RK.tk Pu.ad ?_
            refine RK.tk Pu.rm ?_
            refine RK.tk Pu.mv ?_
            refine RK.tk (Pu.cv (v := .int .i64 early) rfl (fun w => by go_simp; rw [IntWalk.i64_in early (by omega)])) ?_
            refine RK.tk Pu.mv ?_
            refine RK.tk Pu.ad ?_
            refine RK.tk Pu.rm ?_
            refine RK.tk Pu.as ?_
            refine RK.tk Pu.as ?_
            refine RK.ch [] ?_ trivial
            refine WK.n ?_
            refine TL.nil ?_
            refine TQ.thenN (hY25 _ _ ?_)
            refine TW.seq fun Y26 hY26 => ?_
            refine TW.region ?_
            have hq1 := Int.emod_nonneg cut (b := (nj : Int) + 1) (by omega)
            have hq2 := Int.emod_lt_of_pos cut (b := (nj : Int) + 1) (by omega)
            have hf1 := Int.emod_nonneg early (b := days + 1) (by omega)
            have hf2 := Int.emod_lt_of_pos early (b := days + 1) (by omega)
            obtain ⟨q, hq⟩ : ∃ q : Nat, cut % ((nj : Int) + 1) = q := ⟨(cut % ((nj : Int) + 1)).toNat, by omega⟩
            obtain ⟨s1, s2, s3⟩ := less_in hjc (k := q) (by omega) (first := early % (days + 1)) hf1 (by omega)
            refine TL.p Pu.mv ?_
            refine TL.p Pu.mv ?_
            refine TL.p Pu.mv ?_
            refine TL.p Pu.mv ?_
            refine TL.p (Pu.sh (q := q) ty_et94 (hk := by omega)) ?_
            refine TL.p Pu.mv ?_
            refine TL.call (M := []) rfl (enters Tryz.func39 rfl rfl) (List.Perm.refl _) rfl (fun w hw => by
                exact jolted_ok (hL.ext (Chg.ext hw.chg)) ((hJ.pre (by omega)).sat hw Apart.nil) (by omega) s1) ?_
            rintro ⟨Ah, ch⟩
            refine TL.p Pu.mv ?_
            refine TL.p Pu.ex ?_
            refine TL.p Pu.ex ?_
            refine TL.p Pu.as ?_
            refine TL.p Pu.as ?_
            refine TL.nil ?_
            refine TQ.thenN (hY26 _ _ ?_)
            refine TW.seq fun Y27 hY27 => ?_
            refine TW.region ?_
            refine TL.p Pu.mv ?_
            refine TL.p Pu.mv ?_
            refine TL.p Pu.mv ?_
            refine TL.p Pu.mv ?_
            refine TL.p (Pu.sf (q := q) ty_et94 (hk := by omega)) ?_
            refine TL.p Pu.mv ?_
            refine TL.p Pu.mv ?_
            refine TL.p Pu.sb ?_
            refine TL.call (M := []) rfl (enters Tryz.func39 rfl rfl) (List.Perm.refl _) rfl (fun w hw => by
                exact jolted_ok ⟨hG.sat hw (by simp), by omega, by omega, OwnR.rdr (hw.holds (.own Ah np ch 45 11 (fun i => packL (finF pk jt l v np q (early % (days + 1)) i))) (by simp)), hT.sat hw Apart.nil, fun i hi j hj => (hI i hi j hj).sat hw Apart.nil, hL.hL⟩ ((hJ.tail hcJ (by omega)).sat hw Apart.nil) (by omega) s2) ?_
            rintro ⟨Aw, cw⟩
            refine TL.p Pu.mv ?_
            refine TL.p Pu.ex ?_
            refine TL.p Pu.ex ?_
            refine TL.p Pu.as ?_
            refine TL.p Pu.as ?_
            refine TL.nil ?_
            refine TQ.thenN (hY27 _ _ ?_)
            refine TW.seq fun Y28 hY28 => ?_
            refine TW.region ?_
            refine TL.p Pu.mv ?_
            refine TL.p Pu.mv ?_
            refine TL.lit (t := 205) (b' := true) rfl (rfl) ?_
            refine TL.gd Pu.mv ?_
            refine TL.gd Pu.eq ?_
            refine TL.p Pu.kt ?_
            refine TL.p Pu.mv ?_
            refine TL.lit (t := 209) (b' := true) rfl ((by simp)) ?_
            refine TL.gd Pu.mv ?_
            refine TL.gd Pu.eq ?_
            refine TL.p Pu.kt ?_
            refine TL.p Pu.mv ?_
            refine TL.lit (t := 213) (b' := true) rfl ((by simp)) ?_
            refine TL.gd Pu.mv ?_
            refine TL.gd Pu.mv ?_
            refine TL.cr rfl (enters Tryz.func40 rfl rfl) (fun w hw => by
                have h1 := OwnR.rdr (hw.holds (.own Aw np cw 45 11 (fun i => packL (finF (finF pk jt l v np q (early % (days + 1))) (fun i => jt (q + i)) l v np (nj - q) (days - early % (days + 1)) i))) (by simp))
                have h2 := OwnR.rdr (hw.holds (.own Aa np ca 45 11 (fun q => packL (finF pk jt l v np nj days q))) (by simp))
                exact samePacks_any (by omega) ⟨h1.rd.congr fun i j hi _ => by simp only [rowF]; rw [show finF (finF pk jt l v np q (early % (days + 1))) (fun i => jt (q + i)) l v np (nj - q) (days - early % (days + 1)) i = finF pk jt l v np nj days i from funext fun j => s3 i hi j], fun i hi => rfl⟩ h2) ?_
            refine TL.p Pu.kt ?_
            refine TL.p Pu.as ?_
            refine TL.nil ?_
            refine TQ.thenN (hY28 _ _ ?_)
            refine TW.ret ?_
            refine TQ.ret Tryz.results11 rfl ((.tmp rfl .nil)) ?_
            refine fun w hw => ⟨?_, Chg.ext hw.chg⟩
            refine congrArg (fun b => Ending.returned (Value.bool b)) ?_
            first
              | rfl
              | (simp [hjn]; done)
end Go.Proofs.YtjephihlkjpohaaGreatDoor
