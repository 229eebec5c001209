/-
  Part 12 of the proof of loadSettled_holds: declarations of several texts, in build order. No condition on a program.
-/
import Derived.Test.YtjephihlkjpohaaGreatDoorSett11
import Derived.Test.YtjephihlkjpohaaGreatDoorSett08
import Derived.Test.YtjephihlkjpohaaGreatDoorSett03
namespace Go.Proofs.YtjephihlkjpohaaGreatDoor
set_option linter.all false
set_option linter.unusedVariables false
set_option linter.unusedSimpArgs false
open Go.RowKit
set_option maxRecDepth 100000 in
set_option maxHeartbeats 4000000 in
theorem alive_any (w : World) (hG : None0 w) : Calls Tryz.prog 21 #[] w (Ret w (.bool true)) := by
  refine K_enter (S := []) (K := []) Tryz.func21 rfl Tryz.ntmps21 rfl (Sat.start _) ?_
  refine TW.seq fun Y1 hY1 => ?_
  refine TW.region ?_
  refine TL.p Pu.as ?_
  refine TL.nil ?_
  refine TQ.thenN (hY1 _ _ ?_)
  refine TW.seq fun Y2 hY2 => ?_
  refine TW.region ?_
  refine TL.cr rfl (enters Tryz.func41 rfl rfl) (fun w hw => by
      exact salt_any _ _) ?_
  refine TL.cr rfl (enters Tryz.func23 rfl rfl) (fun w hw => by
      exact restSalt _ (hG.sat hw (by simp))) ?_
  refine TL.p Pu.mv ?_
  refine TL.p Pu.ex ?_
  refine TL.p Pu.ex ?_
  refine TL.p Pu.ex ?_
  refine TL.p Pu.ex ?_
  refine TL.m (Mk.al ty_zr43) ?_
  intro b1
  refine TL.m (Mk.al ty_zr43) ?_
  intro b2
  first | refine TL.st ty_sz43 ?_ | refine TL.se ty_sz43 ?_
  first | refine TL.st ty_sz43 ?_ | refine TL.se ty_sz43 ?_
  refine TL.p Pu.as ?_
  refine TL.p Pu.as ?_
  refine TL.nil ?_
  refine TQ.thenN (hY2 _ _ ?_)
  refine TW.seq fun Y3 hY3 => ?_
  refine TW.region ?_
  refine TL.cr rfl (enters Tryz.func42 rfl rfl) (fun w hw => by
      exact water_any _ _) ?_
  refine TL.cr rfl (enters Tryz.func23 rfl rfl) (fun w hw => by
      exact restWater _ (hG.sat hw (by simp))) ?_
  refine TL.p Pu.mv ?_
  refine TL.p Pu.ex ?_
  refine TL.p Pu.ex ?_
  refine TL.p Pu.ex ?_
  refine TL.p Pu.ex ?_
  refine TL.m (Mk.al ty_zr43) ?_
  intro b3
  refine TL.m (Mk.al ty_zr43) ?_
  intro b4
  first | refine TL.st ty_sz43 ?_ | refine TL.se ty_sz43 ?_
  first | refine TL.st ty_sz43 ?_ | refine TL.se ty_sz43 ?_
  refine TL.p Pu.as ?_
  refine TL.p Pu.as ?_
  refine TL.nil ?_
  refine TQ.thenN (hY3 _ _ ?_)
  refine TW.seq fun Y4 hY4 => ?_
  refine TW.region ?_
  refine TL.call (M := []) rfl (enters Tryz.func43 rfl rfl) (List.Perm.refl _) rfl (fun w hw => by
      exact bales_any _) ?_
  rintro ⟨B1, e1⟩
  refine TL.m Mk.bl ?_
  intro b5
  refine TL.m Mk.bl ?_
  intro b6
  refine TL.cr rfl (enters Tryz.func44 rfl rfl) (fun w hw => by
      exact pair_any _ _ _ _ _ _ _) ?_
  refine TL.cr rfl (enters Tryz.func28 rfl rfl) (fun w hw => by
      exact balEx (hG.sat hw (by simp)) (OwnR.rdr (hw.holds (.own B1 4 e1 45 11 (fun k => packL (balP k))) (by simp))) (RdR.blk (hw.holds (.blk b5 3 [.int .i64 0, .int .i64 1]) (by simp)) rfl (fun _ _ => rfl)) (RdR.blk (hw.holds (.blk b6 3 [.int .i64 3]) (by simp)) rfl (fun _ _ => rfl))) ?_
  refine TL.p Pu.mv ?_
  refine TL.p Pu.ex ?_
  refine TL.p Pu.ex ?_
  refine TL.p Pu.as ?_
  refine TL.p Pu.as ?_
  refine TL.nil ?_
  refine TQ.thenN (hY4 _ _ ?_)
  refine TW.seq fun Y5 hY5 => ?_
  refine TW.region ?_
  refine TL.call (M := []) rfl (enters Tryz.func43 rfl rfl) (List.Perm.refl _) rfl (fun w hw => by
      exact bales_any _) ?_
  rintro ⟨B1, e1⟩
  refine TL.m Mk.bl ?_
  intro b7
  refine TL.cr rfl (enters Tryz.func44 rfl rfl) (fun w hw => by
      exact pair_any _ _ _ _ _ _ _) ?_
  refine TL.call (M := []) rfl (enters Tryz.func19 rfl rfl) (List.Perm.refl _) rfl (fun w hw => by
      exact setEx (hG.sat hw (by simp)) (OwnR.rdr (hw.holds (.own B1 4 e1 45 11 (fun k => packL (balP k))) (by simp))) (RdR.blk (hw.holds (.blk b7 3 [.int .i64 0, .int .i64 1, .int .i64 2, .int .i64 3]) (by simp)) rfl (fun _ _ => rfl))) ?_
  rintro ⟨Q1, q1⟩
  refine TL.p Pu.mv ?_
  refine TL.p Pu.ex ?_
  refine TL.p Pu.ex ?_
  refine TL.p Pu.as ?_
  refine TL.p Pu.as ?_
  refine TL.nil ?_
  refine TQ.thenN (hY5 _ _ ?_)
  refine TW.seq fun Y6 hY6 => ?_
  refine TW.region ?_
  refine TL.call (M := []) rfl (enters Tryz.func43 rfl rfl) (List.Perm.refl _) rfl (fun w hw => by
      exact bales_any _) ?_
  rintro ⟨B1, e1⟩
  refine TL.m Mk.bl ?_
  intro b8
  refine TL.m Mk.bl ?_
  intro b9
  refine TL.cr rfl (enters Tryz.func44 rfl rfl) (fun w hw => by
      exact pair_any _ _ _ _ _ _ _) ?_
  refine TL.m Mk.bl ?_
  intro b10
  refine TL.m Mk.bl ?_
  intro b11
  refine TL.p Pu.bd ?_
  refine TL.m Mk.bl ?_
  intro b12
  refine TL.call (M := []) rfl (enters Tryz.func15 rfl rfl) (List.Perm.refl _) rfl (fun w hw => by
      exact tradeEx (hG.sat hw (by simp)) (OwnR.rdr (hw.holds (.own B1 4 e1 45 11 (fun k => packL (balP k))) (by simp))) (RdR.blk (hw.holds (.blk b10 36 [.slice (some ⟨b8, 0, none⟩) 2 2, .slice (some ⟨b9, 0, none⟩) 1 1, .slice none 0 0]) (by simp)) rfl (fun _ _ => rfl)) (RdR.blk (hw.holds (.blk b8 3 [.int .i64 0, .int .i64 1]) (by simp)) rfl (fun _ _ => rfl)) (RdR.blk (hw.holds (.blk b9 3 [.int .i64 2]) (by simp)) rfl (fun _ _ => rfl)) (RdR.blk (hw.holds (.blk b11 3 [.int .i64 1]) (by simp)) rfl (fun _ _ => rfl)) (RdR.blk (hw.holds (.blk b12 66 [.int .i64 3, .int .i64 0, .int .u8 0]) (by simp)) rfl (fun _ _ => rfl))) ?_
  rintro ⟨⟨⟨An, cn⟩, X, D⟩, ⟨Am, cm⟩⟩
  refine TL.p Pu.mv ?_
  refine TL.p Pu.ex ?_
  refine TL.p Pu.ex ?_
  refine TL.p Pu.ex ?_
  refine TL.p Pu.as ?_
  refine TL.p Pu.as ?_
  refine TL.p Pu.as ?_
  refine TL.nil ?_
  refine TQ.thenN (hY6 _ _ ?_)
  refine TW.seq fun Y7 hY7 => ?_
  refine TW.region ?_
  refine TL.call (M := []) rfl (enters Tryz.func43 rfl rfl) (List.Perm.refl _) rfl (fun w hw => by
      exact bales_any _) ?_
  rintro ⟨B1, e1⟩
  refine TL.m Mk.bl ?_
  intro b13
  refine TL.m Mk.bl ?_
  intro b14
  refine TL.call (M := []) rfl (enters Tryz.func37 rfl rfl) (List.Perm.refl _) rfl (fun w hw => by
      exact stowEx (hG.sat hw (by simp)) (OwnR.rdr (hw.holds (.own B1 4 e1 45 11 (fun k => packL (balP k))) (by simp))) (RdR.blk (hw.holds (.blk b13 3 [.int .i64 80]) (by simp)) rfl (fun _ _ => rfl)) (RdR.blk (hw.holds (.blk b14 3 [.int .i64 1, .int .i64 2, .int .i64 3, .int .i64 4]) (by simp)) rfl (fun _ _ => rfl))) ?_
  rintro ⟨⟨Sn, sn⟩, Y, E⟩
  refine TL.p Pu.mv ?_
  refine TL.p Pu.ex ?_
  refine TL.p Pu.ex ?_
  refine TL.p Pu.ex ?_
  refine TL.p Pu.as ?_
  refine TL.p Pu.as ?_
  refine TL.p Pu.as ?_
  refine TL.nil ?_
  refine TQ.thenN (hY7 _ _ ?_)
  refine TW.seq fun Y8 hY8 => ?_
  refine TW.region ?_
  refine TL.cr rfl (enters Tryz.func61 rfl rfl) (fun w hw => by
      exact strong_any _) ?_
  refine TL.p Pu.mv ?_
  refine TL.p Pu.ex ?_
  refine TL.p Pu.ex ?_
  refine TL.m (Mk.al ty_zr79) ?_
  intro b15
  refine TL.m (Mk.al ty_zr81) ?_
  intro b16
  first | refine TL.st ty_sz79 ?_ | refine TL.se ty_sz79 ?_
  first | refine TL.st ty_sz81 ?_ | refine TL.se ty_sz81 ?_
  refine TL.nil ?_
  refine TQ.thenN (hY8 _ _ ?_)
  refine TW.seq fun Y9 hY9 => ?_
  as_aux_lemma =>
    refine TW.expl (fun (e1 : Nat) => ([(22, .int .i64 0), (21, .int .u8 2), (18, .int .i64 0), (17, .int .i64 7), (16, .slice Sn 1 sn), (15, .int .i64 0), (14, .slice Am 1 cm), (13, .slice An 1 cn), (12, .int .i64 0), (11, .slice Q1 2 q1), (10, .int .i64 0), (9, .int .u8 2), (8, .int .i64 0), (6, .pointer (some ⟨b4, 0, none⟩)), (5, .pointer (some ⟨b3, 0, none⟩)), (4, .int .i64 0), (3, .int .u8 1), (2, .pointer (some ⟨b2, 0, none⟩)), (1, .pointer (some ⟨b1, 0, none⟩))] : Fr)) (fun (e1 : Nat) => [.blk b1 43 [.int .i64 36000, .int .i64 41000], .blk b2 43 [.int .i64 0, .int .i64 4100], .blk b3 43 [.int .i64 0, .int .i64 2500], .blk b4 43 [.int .i64 27500, .int .i64 30000], .own Q1 2 q1 3 1 (iL [0, 3]), .own Am 1 cm 3 1 (iL [0]), .own An 1 cn 36 3 (fun _ => tieL X (prL' [3] [0, 2]) D), .own (X 1) 2 (D 1) 3 1 (iL [0, 2]), .own (X 0) 1 (D 0) 3 1 (iL [3]), .own Sn 1 sn 36 3 (fun _ => tieL (prA (Y 0) (Y 1)) (prL' [2] [3]) (prC (E 0) (E 1))), .own (Y 1) 1 (E 1) 3 1 (iL [3]), .own (Y 0) 1 (E 0) 3 1 (iL [2])]) Drop.done ?_ (fun hE => ?_)
    · rintro e1
      refine TQ.thenN (hY9 _ _ ?_)
      refine TW.seq fun Y10 hY10 => ?_
      as_aux_lemma =>
        refine TW.ex0 Drop.done ?_
        refine RG.tk 0 rfl Pu.mv ?_
        refine RG.tk 1 rfl Pu.eq ?_
        refine RG.a1 2 rfl (fun X2 hX2 => ?_)
        refine TL.p Pu.mv ?_
        refine TL.lit (t := 89) (b' := true) rfl ((by decide)) ?_
        refine TL.nil ?_
        refine TQ.nxt (hX2 _ _ (by repeat (first | exact HasL.nil | refine HasL.cons (by repeat (first | exact Pick.hd | apply Pick.tl)) ?_)) ?_)
        refine RG.tk 3 rfl (Pu.lds ty_ag43) ?_
        refine RG.a1 4 rfl (fun X4 hX4 => ?_)
        refine TL.cr rfl (enters Tryz.func31 rfl rfl) (fun w hw => by
            exact span_any _ _ _) ?_
        refine TL.nil ?_
        refine TQ.nxt (hX4 _ _ (by repeat (first | exact HasL.nil | refine HasL.cons (by repeat (first | exact Pick.hd | apply Pick.tl)) ?_)) ?_)
        refine RG.tk 5 rfl (Pu.q2 ty_q2_43) ?_
        refine RG.tk 6 rfl Pu.kt ?_
        refine RG.a1 7 rfl (fun X7 hX7 => ?_)
        refine TL.p Pu.mv ?_
        refine TL.lit (t := 94) (b' := true) rfl ((by decide)) ?_
        refine TL.nil ?_
        refine TQ.nxt (hX7 _ _ (by repeat (first | exact HasL.nil | refine HasL.cons (by repeat (first | exact Pick.hd | apply Pick.tl)) ?_)) ?_)
        refine RG.tk 8 rfl (Pu.lds ty_ag43) ?_
        refine RG.a1 9 rfl (fun X9 hX9 => ?_)
        refine TL.cr rfl (enters Tryz.func31 rfl rfl) (fun w hw => by
            exact span_any _ _ _) ?_
        refine TL.nil ?_
        refine TQ.nxt (hX9 _ _ (by repeat (first | exact HasL.nil | refine HasL.cons (by repeat (first | exact Pick.hd | apply Pick.tl)) ?_)) ?_)
        refine RG.tk 10 rfl (Pu.q2 ty_q2_43) ?_
        refine RG.tk 11 rfl Pu.kt ?_
        refine RG.a1 12 rfl (fun X12 hX12 => ?_)
        refine TL.p Pu.mv ?_
        refine TL.lit (t := 99) (b' := true) rfl ((by decide)) ?_
        refine TL.nil ?_
        refine TQ.nxt (hX12 _ _ (by repeat (first | exact HasL.nil | refine HasL.cons (by repeat (first | exact Pick.hd | apply Pick.tl)) ?_)) ?_)
        refine RG.tk 13 rfl Pu.mv ?_
        refine RG.tk 14 rfl Pu.eq ?_
        refine RG.tk 15 rfl Pu.kt ?_
        refine RG.a1 16 rfl (fun X16 hX16 => ?_)
        refine TL.p Pu.mv ?_
        refine TL.lit (t := 103) (b' := true) rfl ((by decide)) ?_
        refine TL.nil ?_
        refine TQ.nxt (hX16 _ _ (by repeat (first | exact HasL.nil | refine HasL.cons (by repeat (first | exact Pick.hd | apply Pick.tl)) ?_)) ?_)
        refine RG.tk 17 rfl Pu.mv ?_
        refine RG.tk 18 rfl Pu.eq ?_
        refine RG.tk 19 rfl Pu.kt ?_
        refine RG.a1 20 rfl (fun X20 hX20 => ?_)
        refine TL.p Pu.mv ?_
        refine TL.lit (t := 107) (b' := true) rfl ((by decide)) ?_
        refine TL.nil ?_
        refine TQ.nxt (hX20 _ _ (by repeat (first | exact HasL.nil | refine HasL.cons (by repeat (first | exact Pick.hd | apply Pick.tl)) ?_)) ?_)
        refine RG.tk 21 rfl (Pu.lds ty_ag43) ?_
        refine RG.a1 22 rfl (fun X22 hX22 => ?_)
        refine TL.cr rfl (enters Tryz.func31 rfl rfl) (fun w hw => by
            exact span_any _ _ _) ?_
        refine TL.nil ?_
        refine TQ.nxt (hX22 _ _ (by repeat (first | exact HasL.nil | refine HasL.cons (by repeat (first | exact Pick.hd | apply Pick.tl)) ?_)) ?_)
        refine RG.tk 23 rfl (Pu.q2 ty_q2_43) ?_
        refine RG.tk 24 rfl Pu.kt ?_
        refine RG.a1 25 rfl (fun X25 hX25 => ?_)
        refine TL.p Pu.mv ?_
        refine TL.lit (t := 112) (b' := true) rfl ((by decide)) ?_
        refine TL.nil ?_
        refine TQ.nxt (hX25 _ _ (by repeat (first | exact HasL.nil | refine HasL.cons (by repeat (first | exact Pick.hd | apply Pick.tl)) ?_)) ?_)
        refine RG.tk 26 rfl (Pu.lds ty_ag43) ?_
        refine RG.a1 27 rfl (fun X27 hX27 => ?_)
        refine TL.cr rfl (enters Tryz.func31 rfl rfl) (fun w hw => by
            exact span_any _ _ _) ?_
        refine TL.nil ?_
        refine TQ.nxt (hX27 _ _ (by repeat (first | exact HasL.nil | refine HasL.cons (by repeat (first | exact Pick.hd | apply Pick.tl)) ?_)) ?_)
        refine RG.tk 28 rfl (Pu.q2 ty_q2_43) ?_
        refine RG.tk 29 rfl Pu.kt ?_
        refine RG.a1 30 rfl (fun X30 hX30 => ?_)
        refine TL.p Pu.mv ?_
        refine TL.lit (t := 117) (b' := true) rfl ((by decide)) ?_
        refine TL.nil ?_
        refine TQ.nxt (hX30 _ _ (by repeat (first | exact HasL.nil | refine HasL.cons (by repeat (first | exact Pick.hd | apply Pick.tl)) ?_)) ?_)
        refine RG.tk 31 rfl Pu.mv ?_
        refine RG.tk 32 rfl Pu.eq ?_
        refine RG.tk 33 rfl Pu.kt ?_
        refine RG.a1 34 rfl (fun X34 hX34 => ?_)
        refine TL.p Pu.mv ?_
        refine TL.lit (t := 121) (b' := true) rfl ((by decide)) ?_
        refine TL.nil ?_
        refine TQ.nxt (hX34 _ _ (by repeat (first | exact HasL.nil | refine HasL.cons (by repeat (first | exact Pick.hd | apply Pick.tl)) ?_)) ?_)
        refine RG.tk 35 rfl Pu.mv ?_
        refine RG.tk 36 rfl Pu.eq ?_
        refine RG.tk 37 rfl Pu.kt ?_
        refine RG.a1 38 rfl (fun X38 hX38 => ?_)
        refine TL.p Pu.mv ?_
        refine TL.lit (t := 125) (b' := true) rfl ((by decide)) ?_
        refine TL.nil ?_
        refine TQ.nxt (hX38 _ _ (by repeat (first | exact HasL.nil | refine HasL.cons (by repeat (first | exact Pick.hd | apply Pick.tl)) ?_)) ?_)
        refine RG.tk 39 rfl Pu.mv ?_
        refine RG.tk 40 rfl Pu.eq ?_
        refine RG.tk 41 rfl Pu.kt ?_
        refine RG.a1 42 rfl (fun X42 hX42 => ?_)
        refine TL.p Pu.mv ?_
        refine TL.lit (t := 129) (b' := true) rfl ((by decide)) ?_
        refine TL.nil ?_
        refine TQ.nxt (hX42 _ _ (by repeat (first | exact HasL.nil | refine HasL.cons (by repeat (first | exact Pick.hd | apply Pick.tl)) ?_)) ?_)
        refine RG.tk 43 rfl Pu.mv ?_
        refine RG.a1 44 rfl (fun X44 hX44 => ?_)
        refine TL.gm Mk.bl ?_
        intro b17
        refine TL.nil ?_
        refine TQ.nxt (hX44 _ _ (by repeat (first | exact HasL.nil | refine HasL.cons (by repeat (first | exact Pick.hd | apply Pick.tl)) ?_)) ?_)
        refine RG.a1 45 rfl (fun X45 hX45 => ?_)
        refine TL.cr rfl (enters Tryz.func18 rfl rfl) (fun w hw => by
            exact sameIEx (L := [0, 3]) (by decide) rfl (OwnR.rdr (hw.holds (.own Q1 2 q1 3 1 (iL [0, 3])) (by simp))) (RdR.blk (hw.holds (.blk _ 3 [.int .i64 0, .int .i64 3]) (by simp)) rfl (fun _ _ => rfl))) ?_
        refine TL.nil ?_
        refine TQ.nxt (hX45 _ _ (by repeat (first | exact HasL.nil | refine HasL.cons (by repeat (first | exact Pick.hd | apply Pick.tl)) ?_)) ?_)
        refine RG.tk 46 rfl Pu.kt ?_
        refine RG.a1 47 rfl (fun X47 hX47 => ?_)
        refine TL.p Pu.mv ?_
        refine TL.lit (t := 134) (b' := true) rfl ((by decide)) ?_
        refine TL.nil ?_
        refine TQ.nxt (hX47 _ _ (by repeat (first | exact HasL.nil | refine HasL.cons (by repeat (first | exact Pick.hd | apply Pick.tl)) ?_)) ?_)
        refine RG.tk 48 rfl Pu.mv ?_
        refine RG.tk 49 rfl Pu.eq ?_
        refine RG.tk 50 rfl Pu.kt ?_
        refine RG.a1 51 rfl (fun X51 hX51 => ?_)
        refine TL.p Pu.mv ?_
        refine TL.lit (t := 138) (b' := true) rfl ((by decide)) ?_
        refine TL.nil ?_
        refine TQ.nxt (hX51 _ _ (by repeat (first | exact HasL.nil | refine HasL.cons (by repeat (first | exact Pick.hd | apply Pick.tl)) ?_)) ?_)
        refine RG.tk 52 rfl Pu.mv ?_
        refine RG.a2 53 54 rfl rfl (fun X53 hX53 => ?_) (fun X54 hX54 => ?_)
        · as_aux_lemma =>
            refine TL.gm Mk.bl ?_
            intro b18
            refine TL.nil ?_
            refine TQ.nxt (hX53 _ _ (by repeat (first | exact HasL.nil | refine HasL.cons (by repeat (first | exact Pick.hd | apply Pick.tl)) ?_)) ?_)
            refine RG.a1 54 rfl (fun X54 hX54 => ?_)
            refine TL.gm Mk.bl ?_
            intro b19
            refine TL.nil ?_
            refine TQ.nxt (hX54 _ _ (by repeat (first | exact HasL.nil | refine HasL.cons (by repeat (first | exact Pick.hd | apply Pick.tl)) ?_)) ?_)
            refine RG.a1 55 rfl (fun X55 hX55 => ?_)
            refine TL.cr rfl (enters Tryz.func44 rfl rfl) (fun w hw => by
                exact pair_any _ _ _ _ _ _ _) ?_
            refine TL.nil ?_
            refine TQ.nxt (hX55 _ _ (by repeat (first | exact HasL.nil | refine HasL.cons (by repeat (first | exact Pick.hd | apply Pick.tl)) ?_)) ?_)
            refine RG.a1 56 rfl (fun X56 hX56 => ?_)
            refine TL.gm Mk.bl ?_
            intro b20
            refine TL.nil ?_
            refine TQ.nxt (hX56 _ _ (by repeat (first | exact HasL.nil | refine HasL.cons (by repeat (first | exact Pick.hd | apply Pick.tl)) ?_)) ?_)
            refine RG.a1 57 rfl (fun X57 hX57 => ?_)
            refine TL.cr rfl (enters Tryz.func17 rfl rfl) (fun w hw => by
                exact sameEx2 (a := X) (c := D) (L0 := [3]) (L1 := [0, 2]) (by decide) (OwnR.rdr (hw.holds (.own An 1 cn 36 3 (fun _ => tieL X (prL' [3] [0, 2]) D)) (by simp))) (hw.holds _ (List.mem_cons_self ..)) (OwnR.rdr (hw.holds (.own (X 0) 1 (D 0) 3 1 (iL [3])) (by simp))) (OwnR.rdr (hw.holds (.own (X 1) 2 (D 1) 3 1 (iL [0, 2])) (by simp))) (RdR.blk (hw.holds (.blk _ 3 [.int .i64 3]) (by simp)) rfl (fun _ _ => rfl)) (RdR.blk (hw.holds (.blk _ 3 [.int .i64 0, .int .i64 2]) (by simp)) rfl (fun _ _ => rfl))) ?_
            refine TL.nil ?_
            refine TQ.nxt (hX57 _ _ (by repeat (first | exact HasL.nil | refine HasL.cons (by repeat (first | exact Pick.hd | apply Pick.tl)) ?_)) ?_)
            refine RG.tk 58 rfl Pu.kt ?_
            refine RG.a1 59 rfl (fun X59 hX59 => ?_)
            refine TL.p Pu.mv ?_
            refine TL.lit (t := 146) (b' := true) rfl ((by decide)) ?_
            refine TL.nil ?_
            refine TQ.nxt (hX59 _ _ (by repeat (first | exact HasL.nil | refine HasL.cons (by repeat (first | exact Pick.hd | apply Pick.tl)) ?_)) ?_)
            refine RG.tk 60 rfl Pu.mv ?_
            refine RG.a1 61 rfl (fun X61 hX61 => ?_)
            refine TL.gm Mk.bl ?_
            intro b21
            refine TL.nil ?_
            refine TQ.nxt (hX61 _ _ (by repeat (first | exact HasL.nil | refine HasL.cons (by repeat (first | exact Pick.hd | apply Pick.tl)) ?_)) ?_)
            refine RG.a1 62 rfl (fun X62 hX62 => ?_)
            refine TL.cr rfl (enters Tryz.func18 rfl rfl) (fun w hw => by
                exact sameIEx (L := [0]) (by decide) rfl (OwnR.rdr (hw.holds (.own Am 1 cm 3 1 (iL [0])) (by simp))) (RdR.blk (hw.holds (.blk _ 3 [.int .i64 0]) (by simp)) rfl (fun _ _ => rfl))) ?_
            refine TL.nil ?_
            refine TQ.nxt (hX62 _ _ (by repeat (first | exact HasL.nil | refine HasL.cons (by repeat (first | exact Pick.hd | apply Pick.tl)) ?_)) ?_)
            refine RG.tk 63 rfl Pu.kt ?_
            refine RG.a1 64 rfl (fun X64 hX64 => ?_)
            refine TL.p Pu.mv ?_
            refine TL.lit (t := 151) (b' := true) rfl ((by decide)) ?_
            refine TL.nil ?_
            refine TQ.nxt (hX64 _ _ (by repeat (first | exact HasL.nil | refine HasL.cons (by repeat (first | exact Pick.hd | apply Pick.tl)) ?_)) ?_)
            refine RG.tk 65 rfl Pu.mv ?_
            refine RG.tk 66 rfl Pu.eq ?_
            refine RG.tk 67 rfl Pu.kt ?_
            refine RG.a1 68 rfl (fun X68 hX68 => ?_)
            refine TL.p Pu.mv ?_
            refine TL.lit (t := 155) (b' := true) rfl ((by decide)) ?_
            refine TL.nil ?_
            refine TQ.nxt (hX68 _ _ (by repeat (first | exact HasL.nil | refine HasL.cons (by repeat (first | exact Pick.hd | apply Pick.tl)) ?_)) ?_)
            refine RG.tk 69 rfl Pu.mv ?_
            refine RG.tk 70 rfl Pu.eq ?_
            refine RG.tk 71 rfl Pu.kt ?_
            refine RG.a1 72 rfl (fun X72 hX72 => ?_)
            refine TL.p Pu.mv ?_
            refine TL.lit (t := 159) (b' := true) rfl ((by decide)) ?_
            refine TL.nil ?_
            refine TQ.nxt (hX72 _ _ (by repeat (first | exact HasL.nil | refine HasL.cons (by repeat (first | exact Pick.hd | apply Pick.tl)) ?_)) ?_)
            refine RG.tk 73 rfl Pu.mv ?_
            refine RG.a2 74 75 rfl rfl (fun X74 hX74 => ?_) (fun X75 hX75 => ?_)
            · as_aux_lemma =>
                refine TL.gm Mk.bl ?_
                intro b22
                refine TL.nil ?_
                refine TQ.nxt (hX74 _ _ (by repeat (first | exact HasL.nil | refine HasL.cons (by repeat (first | exact Pick.hd | apply Pick.tl)) ?_)) ?_)
                refine RG.a1 75 rfl (fun X75 hX75 => ?_)
                refine TL.gm Mk.bl ?_
                intro b23
                refine TL.nil ?_
                refine TQ.nxt (hX75 _ _ (by repeat (first | exact HasL.nil | refine HasL.cons (by repeat (first | exact Pick.hd | apply Pick.tl)) ?_)) ?_)
                refine RG.a1 76 rfl (fun X76 hX76 => ?_)
                refine TL.cr rfl (enters Tryz.func44 rfl rfl) (fun w hw => by
                    exact pair_any _ _ _ _ _ _ _) ?_
                refine TL.nil ?_
                refine TQ.nxt (hX76 _ _ (by repeat (first | exact HasL.nil | refine HasL.cons (by repeat (first | exact Pick.hd | apply Pick.tl)) ?_)) ?_)
                refine RG.a1 77 rfl (fun X77 hX77 => ?_)
                refine TL.gm Mk.bl ?_
                intro b24
                refine TL.nil ?_
                refine TQ.nxt (hX77 _ _ (by repeat (first | exact HasL.nil | refine HasL.cons (by repeat (first | exact Pick.hd | apply Pick.tl)) ?_)) ?_)
                refine RG.a1 78 rfl (fun X78 hX78 => ?_)
                refine TL.cr rfl (enters Tryz.func17 rfl rfl) (fun w hw => by
                    exact sameEx2 (a := prA (Y 0) (Y 1)) (c := prC (E 0) (E 1)) (L0 := [2]) (L1 := [3]) (by decide) (OwnR.rdr (hw.holds (.own Sn 1 sn 36 3 (fun _ => tieL (prA (Y 0) (Y 1)) (prL' [2] [3]) (prC (E 0) (E 1)))) (by simp))) (hw.holds _ (List.mem_cons_self ..)) (OwnR.rdr (hw.holds (.own (Y 0) 1 (E 0) 3 1 (iL [2])) (by simp))) (OwnR.rdr (hw.holds (.own (Y 1) 1 (E 1) 3 1 (iL [3])) (by simp))) (RdR.blk (hw.holds (.blk _ 3 [.int .i64 2]) (by simp)) rfl (fun _ _ => rfl)) (RdR.blk (hw.holds (.blk _ 3 [.int .i64 3]) (by simp)) rfl (fun _ _ => rfl))) ?_
                refine TL.nil ?_
                refine TQ.nxt (hX78 _ _ (by repeat (first | exact HasL.nil | refine HasL.cons (by repeat (first | exact Pick.hd | apply Pick.tl)) ?_)) ?_)
                refine RG.tk 79 rfl Pu.kt ?_
                refine RG.a1 80 rfl (fun X80 hX80 => ?_)
                refine TL.p Pu.mv ?_
                refine TL.lit (t := 167) (b' := true) rfl ((by decide)) ?_
                refine TL.nil ?_
                refine TQ.nxt (hX80 _ _ (by repeat (first | exact HasL.nil | refine HasL.cons (by repeat (first | exact Pick.hd | apply Pick.tl)) ?_)) ?_)
                refine RG.tk 81 rfl Pu.mv ?_
                refine RG.tk 82 rfl Pu.eq ?_
                refine RG.tk 83 rfl Pu.kt ?_
                refine RG.a1 84 rfl (fun X84 hX84 => ?_)
                refine TL.p Pu.mv ?_
                refine TL.lit (t := 171) (b' := true) rfl ((by decide)) ?_
                refine TL.nil ?_
                refine TQ.nxt (hX84 _ _ (by repeat (first | exact HasL.nil | refine HasL.cons (by repeat (first | exact Pick.hd | apply Pick.tl)) ?_)) ?_)
                refine RG.tk 85 rfl Pu.mv ?_
                refine RG.tk 86 rfl Pu.eq ?_
                refine RG.tk 87 rfl Pu.kt ?_
                refine RG.tk 88 rfl Pu.as ?_
                refine RG.nil ?_ (by kernel_rfl)
                refine TQ.thenN (hY10 _ _ ?_)
                refine TW.ret ?_
                refine TQ.ret Tryz.results21 rfl ((.tmp rfl .nil)) ?_
                exact fun w hw => Ret.of hw
            · as_aux_lemma =>
                refine TL.gm Mk.bl ?_
                intro b25
                refine TL.nil ?_
                refine TQ.nxt (hX75 _ _ (by repeat (first | exact HasL.nil | refine HasL.cons (by repeat (first | exact Pick.hd | apply Pick.tl)) ?_)) ?_)
                refine RG.a1 74 rfl (fun X74 hX74 => ?_)
                refine TL.gm Mk.bl ?_
                intro b26
                refine TL.nil ?_
                refine TQ.nxt (hX74 _ _ (by repeat (first | exact HasL.nil | refine HasL.cons (by repeat (first | exact Pick.hd | apply Pick.tl)) ?_)) ?_)
                refine RG.a1 76 rfl (fun X76 hX76 => ?_)
                refine TL.cr rfl (enters Tryz.func44 rfl rfl) (fun w hw => by
                    exact pair_any _ _ _ _ _ _ _) ?_
                refine TL.nil ?_
                refine TQ.nxt (hX76 _ _ (by repeat (first | exact HasL.nil | refine HasL.cons (by repeat (first | exact Pick.hd | apply Pick.tl)) ?_)) ?_)
                refine RG.a1 77 rfl (fun X77 hX77 => ?_)
                refine TL.gm Mk.bl ?_
                intro b27
                refine TL.nil ?_
                refine TQ.nxt (hX77 _ _ (by repeat (first | exact HasL.nil | refine HasL.cons (by repeat (first | exact Pick.hd | apply Pick.tl)) ?_)) ?_)
                refine RG.a1 78 rfl (fun X78 hX78 => ?_)
                refine TL.cr rfl (enters Tryz.func17 rfl rfl) (fun w hw => by
                    exact sameEx2 (a := prA (Y 0) (Y 1)) (c := prC (E 0) (E 1)) (L0 := [2]) (L1 := [3]) (by decide) (OwnR.rdr (hw.holds (.own Sn 1 sn 36 3 (fun _ => tieL (prA (Y 0) (Y 1)) (prL' [2] [3]) (prC (E 0) (E 1)))) (by simp))) (hw.holds _ (List.mem_cons_self ..)) (OwnR.rdr (hw.holds (.own (Y 0) 1 (E 0) 3 1 (iL [2])) (by simp))) (OwnR.rdr (hw.holds (.own (Y 1) 1 (E 1) 3 1 (iL [3])) (by simp))) (RdR.blk (hw.holds (.blk _ 3 [.int .i64 2]) (by simp)) rfl (fun _ _ => rfl)) (RdR.blk (hw.holds (.blk _ 3 [.int .i64 3]) (by simp)) rfl (fun _ _ => rfl))) ?_
                refine TL.nil ?_
                refine TQ.nxt (hX78 _ _ (by repeat (first | exact HasL.nil | refine HasL.cons (by repeat (first | exact Pick.hd | apply Pick.tl)) ?_)) ?_)
                refine RG.tk 79 rfl Pu.kt ?_
                refine RG.a1 80 rfl (fun X80 hX80 => ?_)
                refine TL.p Pu.mv ?_
                refine TL.lit (t := 167) (b' := true) rfl ((by decide)) ?_
                refine TL.nil ?_
                refine TQ.nxt (hX80 _ _ (by repeat (first | exact HasL.nil | refine HasL.cons (by repeat (first | exact Pick.hd | apply Pick.tl)) ?_)) ?_)
                refine RG.tk 81 rfl Pu.mv ?_
                refine RG.tk 82 rfl Pu.eq ?_
                refine RG.tk 83 rfl Pu.kt ?_
                refine RG.a1 84 rfl (fun X84 hX84 => ?_)
                refine TL.p Pu.mv ?_
                refine TL.lit (t := 171) (b' := true) rfl ((by decide)) ?_
                refine TL.nil ?_
                refine TQ.nxt (hX84 _ _ (by repeat (first | exact HasL.nil | refine HasL.cons (by repeat (first | exact Pick.hd | apply Pick.tl)) ?_)) ?_)
                refine RG.tk 85 rfl Pu.mv ?_
                refine RG.tk 86 rfl Pu.eq ?_
                refine RG.tk 87 rfl Pu.kt ?_
                refine RG.tk 88 rfl Pu.as ?_
                refine RG.nil ?_ (by kernel_rfl)
                refine TQ.thenN (hY10 _ _ ?_)
                refine TW.ret ?_
                refine TQ.ret Tryz.results21 rfl ((.tmp rfl .nil)) ?_
                exact fun w hw => Ret.of hw
        · as_aux_lemma =>
            refine TL.gm Mk.bl ?_
            intro b28
            refine TL.nil ?_
            refine TQ.nxt (hX54 _ _ (by repeat (first | exact HasL.nil | refine HasL.cons (by repeat (first | exact Pick.hd | apply Pick.tl)) ?_)) ?_)
            refine RG.a1 53 rfl (fun X53 hX53 => ?_)
            refine TL.gm Mk.bl ?_
            intro b29
            refine TL.nil ?_
            refine TQ.nxt (hX53 _ _ (by repeat (first | exact HasL.nil | refine HasL.cons (by repeat (first | exact Pick.hd | apply Pick.tl)) ?_)) ?_)
            refine RG.a1 55 rfl (fun X55 hX55 => ?_)
            refine TL.cr rfl (enters Tryz.func44 rfl rfl) (fun w hw => by
                exact pair_any _ _ _ _ _ _ _) ?_
            refine TL.nil ?_
            refine TQ.nxt (hX55 _ _ (by repeat (first | exact HasL.nil | refine HasL.cons (by repeat (first | exact Pick.hd | apply Pick.tl)) ?_)) ?_)
            refine RG.a1 56 rfl (fun X56 hX56 => ?_)
            refine TL.gm Mk.bl ?_
            intro b30
            refine TL.nil ?_
            refine TQ.nxt (hX56 _ _ (by repeat (first | exact HasL.nil | refine HasL.cons (by repeat (first | exact Pick.hd | apply Pick.tl)) ?_)) ?_)
            refine RG.a1 57 rfl (fun X57 hX57 => ?_)
            refine TL.cr rfl (enters Tryz.func17 rfl rfl) (fun w hw => by
                exact sameEx2 (a := X) (c := D) (L0 := [3]) (L1 := [0, 2]) (by decide) (OwnR.rdr (hw.holds (.own An 1 cn 36 3 (fun _ => tieL X (prL' [3] [0, 2]) D)) (by simp))) (hw.holds _ (List.mem_cons_self ..)) (OwnR.rdr (hw.holds (.own (X 0) 1 (D 0) 3 1 (iL [3])) (by simp))) (OwnR.rdr (hw.holds (.own (X 1) 2 (D 1) 3 1 (iL [0, 2])) (by simp))) (RdR.blk (hw.holds (.blk _ 3 [.int .i64 3]) (by simp)) rfl (fun _ _ => rfl)) (RdR.blk (hw.holds (.blk _ 3 [.int .i64 0, .int .i64 2]) (by simp)) rfl (fun _ _ => rfl))) ?_
            refine TL.nil ?_
            refine TQ.nxt (hX57 _ _ (by repeat (first | exact HasL.nil | refine HasL.cons (by repeat (first | exact Pick.hd | apply Pick.tl)) ?_)) ?_)
            refine RG.tk 58 rfl Pu.kt ?_
            refine RG.a1 59 rfl (fun X59 hX59 => ?_)
            refine TL.p Pu.mv ?_
            refine TL.lit (t := 146) (b' := true) rfl ((by decide)) ?_
            refine TL.nil ?_
            refine TQ.nxt (hX59 _ _ (by repeat (first | exact HasL.nil | refine HasL.cons (by repeat (first | exact Pick.hd | apply Pick.tl)) ?_)) ?_)
            refine RG.tk 60 rfl Pu.mv ?_
            refine RG.a1 61 rfl (fun X61 hX61 => ?_)
            refine TL.gm Mk.bl ?_
            intro b31
            refine TL.nil ?_
            refine TQ.nxt (hX61 _ _ (by repeat (first | exact HasL.nil | refine HasL.cons (by repeat (first | exact Pick.hd | apply Pick.tl)) ?_)) ?_)
            refine RG.a1 62 rfl (fun X62 hX62 => ?_)
            refine TL.cr rfl (enters Tryz.func18 rfl rfl) (fun w hw => by
                exact sameIEx (L := [0]) (by decide) rfl (OwnR.rdr (hw.holds (.own Am 1 cm 3 1 (iL [0])) (by simp))) (RdR.blk (hw.holds (.blk _ 3 [.int .i64 0]) (by simp)) rfl (fun _ _ => rfl))) ?_
            refine TL.nil ?_
            refine TQ.nxt (hX62 _ _ (by repeat (first | exact HasL.nil | refine HasL.cons (by repeat (first | exact Pick.hd | apply Pick.tl)) ?_)) ?_)
            refine RG.tk 63 rfl Pu.kt ?_
            refine RG.a1 64 rfl (fun X64 hX64 => ?_)
            refine TL.p Pu.mv ?_
            refine TL.lit (t := 151) (b' := true) rfl ((by decide)) ?_
            refine TL.nil ?_
            refine TQ.nxt (hX64 _ _ (by repeat (first | exact HasL.nil | refine HasL.cons (by repeat (first | exact Pick.hd | apply Pick.tl)) ?_)) ?_)
            refine RG.tk 65 rfl Pu.mv ?_
            refine RG.tk 66 rfl Pu.eq ?_
            refine RG.tk 67 rfl Pu.kt ?_
            refine RG.a1 68 rfl (fun X68 hX68 => ?_)
            refine TL.p Pu.mv ?_
            refine TL.lit (t := 155) (b' := true) rfl ((by decide)) ?_
            refine TL.nil ?_
            refine TQ.nxt (hX68 _ _ (by repeat (first | exact HasL.nil | refine HasL.cons (by repeat (first | exact Pick.hd | apply Pick.tl)) ?_)) ?_)
            refine RG.tk 69 rfl Pu.mv ?_
            refine RG.tk 70 rfl Pu.eq ?_
            refine RG.tk 71 rfl Pu.kt ?_
            refine RG.a1 72 rfl (fun X72 hX72 => ?_)
            refine TL.p Pu.mv ?_
            refine TL.lit (t := 159) (b' := true) rfl ((by decide)) ?_
            refine TL.nil ?_
            refine TQ.nxt (hX72 _ _ (by repeat (first | exact HasL.nil | refine HasL.cons (by repeat (first | exact Pick.hd | apply Pick.tl)) ?_)) ?_)
            refine RG.tk 73 rfl Pu.mv ?_
            refine RG.a2 74 75 rfl rfl (fun X74 hX74 => ?_) (fun X75 hX75 => ?_)
            · as_aux_lemma =>
                refine TL.gm Mk.bl ?_
                intro b32
                refine TL.nil ?_
                refine TQ.nxt (hX74 _ _ (by repeat (first | exact HasL.nil | refine HasL.cons (by repeat (first | exact Pick.hd | apply Pick.tl)) ?_)) ?_)
                refine RG.a1 75 rfl (fun X75 hX75 => ?_)
                refine TL.gm Mk.bl ?_
                intro b33
                refine TL.nil ?_
                refine TQ.nxt (hX75 _ _ (by repeat (first | exact HasL.nil | refine HasL.cons (by repeat (first | exact Pick.hd | apply Pick.tl)) ?_)) ?_)
                refine RG.a1 76 rfl (fun X76 hX76 => ?_)
                refine TL.cr rfl (enters Tryz.func44 rfl rfl) (fun w hw => by
                    exact pair_any _ _ _ _ _ _ _) ?_
                refine TL.nil ?_
                refine TQ.nxt (hX76 _ _ (by repeat (first | exact HasL.nil | refine HasL.cons (by repeat (first | exact Pick.hd | apply Pick.tl)) ?_)) ?_)
                refine RG.a1 77 rfl (fun X77 hX77 => ?_)
                refine TL.gm Mk.bl ?_
                intro b34
                refine TL.nil ?_
                refine TQ.nxt (hX77 _ _ (by repeat (first | exact HasL.nil | refine HasL.cons (by repeat (first | exact Pick.hd | apply Pick.tl)) ?_)) ?_)
                refine RG.a1 78 rfl (fun X78 hX78 => ?_)
                refine TL.cr rfl (enters Tryz.func17 rfl rfl) (fun w hw => by
                    exact sameEx2 (a := prA (Y 0) (Y 1)) (c := prC (E 0) (E 1)) (L0 := [2]) (L1 := [3]) (by decide) (OwnR.rdr (hw.holds (.own Sn 1 sn 36 3 (fun _ => tieL (prA (Y 0) (Y 1)) (prL' [2] [3]) (prC (E 0) (E 1)))) (by simp))) (hw.holds _ (List.mem_cons_self ..)) (OwnR.rdr (hw.holds (.own (Y 0) 1 (E 0) 3 1 (iL [2])) (by simp))) (OwnR.rdr (hw.holds (.own (Y 1) 1 (E 1) 3 1 (iL [3])) (by simp))) (RdR.blk (hw.holds (.blk _ 3 [.int .i64 2]) (by simp)) rfl (fun _ _ => rfl)) (RdR.blk (hw.holds (.blk _ 3 [.int .i64 3]) (by simp)) rfl (fun _ _ => rfl))) ?_
                refine TL.nil ?_
                refine TQ.nxt (hX78 _ _ (by repeat (first | exact HasL.nil | refine HasL.cons (by repeat (first | exact Pick.hd | apply Pick.tl)) ?_)) ?_)
                refine RG.tk 79 rfl Pu.kt ?_
                refine RG.a1 80 rfl (fun X80 hX80 => ?_)
                refine TL.p Pu.mv ?_
                refine TL.lit (t := 167) (b' := true) rfl ((by decide)) ?_
                refine TL.nil ?_
                refine TQ.nxt (hX80 _ _ (by repeat (first | exact HasL.nil | refine HasL.cons (by repeat (first | exact Pick.hd | apply Pick.tl)) ?_)) ?_)
                refine RG.tk 81 rfl Pu.mv ?_
                refine RG.tk 82 rfl Pu.eq ?_
                refine RG.tk 83 rfl Pu.kt ?_
                refine RG.a1 84 rfl (fun X84 hX84 => ?_)
                refine TL.p Pu.mv ?_
                refine TL.lit (t := 171) (b' := true) rfl ((by decide)) ?_
                refine TL.nil ?_
                refine TQ.nxt (hX84 _ _ (by repeat (first | exact HasL.nil | refine HasL.cons (by repeat (first | exact Pick.hd | apply Pick.tl)) ?_)) ?_)
                refine RG.tk 85 rfl Pu.mv ?_
                refine RG.tk 86 rfl Pu.eq ?_
                refine RG.tk 87 rfl Pu.kt ?_
                refine RG.tk 88 rfl Pu.as ?_
                refine RG.nil ?_ (by kernel_rfl)
                refine TQ.thenN (hY10 _ _ ?_)
                refine TW.ret ?_
                refine TQ.ret Tryz.results21 rfl ((.tmp rfl .nil)) ?_
                exact fun w hw => Ret.of hw
            · as_aux_lemma =>
                refine TL.gm Mk.bl ?_
                intro b35
                refine TL.nil ?_
                refine TQ.nxt (hX75 _ _ (by repeat (first | exact HasL.nil | refine HasL.cons (by repeat (first | exact Pick.hd | apply Pick.tl)) ?_)) ?_)
                refine RG.a1 74 rfl (fun X74 hX74 => ?_)
                refine TL.gm Mk.bl ?_
                intro b36
                refine TL.nil ?_
                refine TQ.nxt (hX74 _ _ (by repeat (first | exact HasL.nil | refine HasL.cons (by repeat (first | exact Pick.hd | apply Pick.tl)) ?_)) ?_)
                refine RG.a1 76 rfl (fun X76 hX76 => ?_)
                refine TL.cr rfl (enters Tryz.func44 rfl rfl) (fun w hw => by
                    exact pair_any _ _ _ _ _ _ _) ?_
                refine TL.nil ?_
                refine TQ.nxt (hX76 _ _ (by repeat (first | exact HasL.nil | refine HasL.cons (by repeat (first | exact Pick.hd | apply Pick.tl)) ?_)) ?_)
                refine RG.a1 77 rfl (fun X77 hX77 => ?_)
                refine TL.gm Mk.bl ?_
                intro b37
                refine TL.nil ?_
                refine TQ.nxt (hX77 _ _ (by repeat (first | exact HasL.nil | refine HasL.cons (by repeat (first | exact Pick.hd | apply Pick.tl)) ?_)) ?_)
                refine RG.a1 78 rfl (fun X78 hX78 => ?_)
                refine TL.cr rfl (enters Tryz.func17 rfl rfl) (fun w hw => by
                    exact sameEx2 (a := prA (Y 0) (Y 1)) (c := prC (E 0) (E 1)) (L0 := [2]) (L1 := [3]) (by decide) (OwnR.rdr (hw.holds (.own Sn 1 sn 36 3 (fun _ => tieL (prA (Y 0) (Y 1)) (prL' [2] [3]) (prC (E 0) (E 1)))) (by simp))) (hw.holds _ (List.mem_cons_self ..)) (OwnR.rdr (hw.holds (.own (Y 0) 1 (E 0) 3 1 (iL [2])) (by simp))) (OwnR.rdr (hw.holds (.own (Y 1) 1 (E 1) 3 1 (iL [3])) (by simp))) (RdR.blk (hw.holds (.blk _ 3 [.int .i64 2]) (by simp)) rfl (fun _ _ => rfl)) (RdR.blk (hw.holds (.blk _ 3 [.int .i64 3]) (by simp)) rfl (fun _ _ => rfl))) ?_
                refine TL.nil ?_
                refine TQ.nxt (hX78 _ _ (by repeat (first | exact HasL.nil | refine HasL.cons (by repeat (first | exact Pick.hd | apply Pick.tl)) ?_)) ?_)
                refine RG.tk 79 rfl Pu.kt ?_
                refine RG.a1 80 rfl (fun X80 hX80 => ?_)
                refine TL.p Pu.mv ?_
                refine TL.lit (t := 167) (b' := true) rfl ((by decide)) ?_
                refine TL.nil ?_
                refine TQ.nxt (hX80 _ _ (by repeat (first | exact HasL.nil | refine HasL.cons (by repeat (first | exact Pick.hd | apply Pick.tl)) ?_)) ?_)
                refine RG.tk 81 rfl Pu.mv ?_
                refine RG.tk 82 rfl Pu.eq ?_
                refine RG.tk 83 rfl Pu.kt ?_
                refine RG.a1 84 rfl (fun X84 hX84 => ?_)
                refine TL.p Pu.mv ?_
                refine TL.lit (t := 171) (b' := true) rfl ((by decide)) ?_
                refine TL.nil ?_
                refine TQ.nxt (hX84 _ _ (by repeat (first | exact HasL.nil | refine HasL.cons (by repeat (first | exact Pick.hd | apply Pick.tl)) ?_)) ?_)
                refine RG.tk 85 rfl Pu.mv ?_
                refine RG.tk 86 rfl Pu.eq ?_
                refine RG.tk 87 rfl Pu.kt ?_
                refine RG.tk 88 rfl Pu.as ?_
                refine RG.nil ?_ (by kernel_rfl)
                refine TQ.thenN (hY10 _ _ ?_)
                refine TW.ret ?_
                refine TQ.ret Tryz.results21 rfl ((.tmp rfl .nil)) ?_
                exact fun w hw => Ret.of hw
    refine RG.tk 0 rfl (Pu.lds ty_ag79) ?_
    refine RG.tk 1 rfl (Pu.lds ty_ag81) ?_
    refine RG.a3 2 3 4 rfl rfl rfl (fun X2 hX2 => ?_) (fun X3 hX3 => ?_) (fun X4 hX4 => ?_)
    · as_aux_lemma =>
        refine TL.call (M := []) rfl (enters Tryz.func43 rfl rfl) (List.Perm.refl _) rfl (fun w hw => by
            exact bales_any _) ?_
        rintro ⟨B1, e1⟩
        refine TL.nil ?_
        refine TQ.nxt (hX2 _ _ (by repeat (first | exact HasL.nil | refine HasL.cons (by repeat (first | exact Pick.hd | apply Pick.tl)) ?_)) ?_)
        refine RG.a2 3 4 rfl rfl (fun X3 hX3 => ?_) (fun X4 hX4 => ?_)
        · as_aux_lemma =>
            refine TL.m Mk.bl ?_
            intro x3
            refine TL.nil ?_
            refine TQ.nxt (hX3 _ _ (by repeat (first | exact HasL.nil | refine HasL.cons (by repeat (first | exact Pick.hd | apply Pick.tl)) ?_)) ?_)
            refine RG.a1 4 rfl (fun X4 hX4 => ?_)
            refine TL.m Mk.bl ?_
            intro x4
            refine TL.nil ?_
            refine TQ.nxt (hX4 _ _ (by repeat (first | exact HasL.nil | refine HasL.cons (by repeat (first | exact Pick.hd | apply Pick.tl)) ?_)) ?_)
            refine RG.a1 5 rfl (fun X5 hX5 => ?_)
            refine TL.cr rfl (enters Tryz.func44 rfl rfl) (fun w hw => by
                exact pair_any _ _ _ _ _ _ _) ?_
            refine TL.nil ?_
            refine TQ.nxt (hX5 _ _ (by repeat (first | exact HasL.nil | refine HasL.cons (by repeat (first | exact Pick.hd | apply Pick.tl)) ?_)) ?_)
            refine RG.a1 6 rfl (fun X6 hX6 => ?_)
            refine TL.cr rfl (enters Tryz.func35 rfl rfl) (fun w hw => by
                exact readyEx (hG.sat hw (by simp)) (OwnR.rdr (hw.holds (.own B1 4 e1 45 11 (fun k => packL (balP k))) (by simp))) (RdR.blk (hw.holds (.blk _ 3 [.int .i64 0, .int .i64 1]) (by simp)) rfl (fun _ _ => rfl)) (RdR.blk (hw.holds (.blk _ 3 [.int .i64 2]) (by simp)) rfl (fun _ _ => rfl))) ?_
            refine TL.nil ?_
            refine TQ.nxt (hX6 _ _ (by repeat (first | exact HasL.nil | refine HasL.cons (by repeat (first | exact Pick.hd | apply Pick.tl)) ?_)) ?_)
            refine RG.tk 7 rfl Pu.mv ?_
            refine RG.tk 8 rfl Pu.ex ?_
            refine RG.tk 9 rfl Pu.ex ?_
            refine RG.tk 10 rfl Pu.as ?_
            refine RG.tk 11 rfl Pu.as ?_
            exact RG.nil (TQ.sub (by repeat (first | exact trivial | refine ⟨rfl, ?_⟩ | refine ⟨trivial, ?_⟩)) (by repeat (first | exact KSub.nil | refine KSub.cons (by repeat (first | exact Pick.hd | apply Pick.tl)) ?_ | exact KSub.refl _ | refine KSub.drop ?_)) (hE e1)) (by kernel_rfl)
        · as_aux_lemma =>
            refine TL.m Mk.bl ?_
            intro x4
            refine TL.nil ?_
            refine TQ.nxt (hX4 _ _ (by repeat (first | exact HasL.nil | refine HasL.cons (by repeat (first | exact Pick.hd | apply Pick.tl)) ?_)) ?_)
            refine RG.a1 3 rfl (fun X3 hX3 => ?_)
            refine TL.m Mk.bl ?_
            intro x3
            refine TL.nil ?_
            refine TQ.nxt (hX3 _ _ (by repeat (first | exact HasL.nil | refine HasL.cons (by repeat (first | exact Pick.hd | apply Pick.tl)) ?_)) ?_)
            refine RG.a1 5 rfl (fun X5 hX5 => ?_)
            refine TL.cr rfl (enters Tryz.func44 rfl rfl) (fun w hw => by
                exact pair_any _ _ _ _ _ _ _) ?_
            refine TL.nil ?_
            refine TQ.nxt (hX5 _ _ (by repeat (first | exact HasL.nil | refine HasL.cons (by repeat (first | exact Pick.hd | apply Pick.tl)) ?_)) ?_)
            refine RG.a1 6 rfl (fun X6 hX6 => ?_)
            refine TL.cr rfl (enters Tryz.func35 rfl rfl) (fun w hw => by
                exact readyEx (hG.sat hw (by simp)) (OwnR.rdr (hw.holds (.own B1 4 e1 45 11 (fun k => packL (balP k))) (by simp))) (RdR.blk (hw.holds (.blk _ 3 [.int .i64 0, .int .i64 1]) (by simp)) rfl (fun _ _ => rfl)) (RdR.blk (hw.holds (.blk _ 3 [.int .i64 2]) (by simp)) rfl (fun _ _ => rfl))) ?_
            refine TL.nil ?_
            refine TQ.nxt (hX6 _ _ (by repeat (first | exact HasL.nil | refine HasL.cons (by repeat (first | exact Pick.hd | apply Pick.tl)) ?_)) ?_)
            refine RG.tk 7 rfl Pu.mv ?_
            refine RG.tk 8 rfl Pu.ex ?_
            refine RG.tk 9 rfl Pu.ex ?_
            refine RG.tk 10 rfl Pu.as ?_
            refine RG.tk 11 rfl Pu.as ?_
            exact RG.nil (TQ.sub (by repeat (first | exact trivial | refine ⟨rfl, ?_⟩ | refine ⟨trivial, ?_⟩)) (by repeat (first | exact KSub.nil | refine KSub.cons (by repeat (first | exact Pick.hd | apply Pick.tl)) ?_ | exact KSub.refl _ | refine KSub.drop ?_)) (hE e1)) (by kernel_rfl)
    · as_aux_lemma =>
        refine TL.m Mk.bl ?_
        intro x3
        refine TL.nil ?_
        refine TQ.nxt (hX3 _ _ (by repeat (first | exact HasL.nil | refine HasL.cons (by repeat (first | exact Pick.hd | apply Pick.tl)) ?_)) ?_)
        refine RG.a2 2 4 rfl rfl (fun X2 hX2 => ?_) (fun X4 hX4 => ?_)
        · as_aux_lemma =>
            refine TL.call (M := []) rfl (enters Tryz.func43 rfl rfl) (List.Perm.refl _) rfl (fun w hw => by
                exact bales_any _) ?_
            rintro ⟨B1, e1⟩
            refine TL.nil ?_
            refine TQ.nxt (hX2 _ _ (by repeat (first | exact HasL.nil | refine HasL.cons (by repeat (first | exact Pick.hd | apply Pick.tl)) ?_)) ?_)
            refine RG.a1 4 rfl (fun X4 hX4 => ?_)
            refine TL.m Mk.bl ?_
            intro x4
            refine TL.nil ?_
            refine TQ.nxt (hX4 _ _ (by repeat (first | exact HasL.nil | refine HasL.cons (by repeat (first | exact Pick.hd | apply Pick.tl)) ?_)) ?_)
            refine RG.a1 5 rfl (fun X5 hX5 => ?_)
            refine TL.cr rfl (enters Tryz.func44 rfl rfl) (fun w hw => by
                exact pair_any _ _ _ _ _ _ _) ?_
            refine TL.nil ?_
            refine TQ.nxt (hX5 _ _ (by repeat (first | exact HasL.nil | refine HasL.cons (by repeat (first | exact Pick.hd | apply Pick.tl)) ?_)) ?_)
            refine RG.a1 6 rfl (fun X6 hX6 => ?_)
            refine TL.cr rfl (enters Tryz.func35 rfl rfl) (fun w hw => by
                exact readyEx (hG.sat hw (by simp)) (OwnR.rdr (hw.holds (.own B1 4 e1 45 11 (fun k => packL (balP k))) (by simp))) (RdR.blk (hw.holds (.blk _ 3 [.int .i64 0, .int .i64 1]) (by simp)) rfl (fun _ _ => rfl)) (RdR.blk (hw.holds (.blk _ 3 [.int .i64 2]) (by simp)) rfl (fun _ _ => rfl))) ?_
            refine TL.nil ?_
            refine TQ.nxt (hX6 _ _ (by repeat (first | exact HasL.nil | refine HasL.cons (by repeat (first | exact Pick.hd | apply Pick.tl)) ?_)) ?_)
            refine RG.tk 7 rfl Pu.mv ?_
            refine RG.tk 8 rfl Pu.ex ?_
            refine RG.tk 9 rfl Pu.ex ?_
            refine RG.tk 10 rfl Pu.as ?_
            refine RG.tk 11 rfl Pu.as ?_
            exact RG.nil (TQ.sub (by repeat (first | exact trivial | refine ⟨rfl, ?_⟩ | refine ⟨trivial, ?_⟩)) (by repeat (first | exact KSub.nil | refine KSub.cons (by repeat (first | exact Pick.hd | apply Pick.tl)) ?_ | exact KSub.refl _ | refine KSub.drop ?_)) (hE e1)) (by kernel_rfl)
        · as_aux_lemma =>
            refine TL.m Mk.bl ?_
            intro x4
            refine TL.nil ?_
            refine TQ.nxt (hX4 _ _ (by repeat (first | exact HasL.nil | refine HasL.cons (by repeat (first | exact Pick.hd | apply Pick.tl)) ?_)) ?_)
            refine RG.a1 2 rfl (fun X2 hX2 => ?_)
            refine TL.call (M := []) rfl (enters Tryz.func43 rfl rfl) (List.Perm.refl _) rfl (fun w hw => by
                exact bales_any _) ?_
            rintro ⟨B1, e1⟩
            refine TL.nil ?_
            refine TQ.nxt (hX2 _ _ (by repeat (first | exact HasL.nil | refine HasL.cons (by repeat (first | exact Pick.hd | apply Pick.tl)) ?_)) ?_)
            refine RG.a1 5 rfl (fun X5 hX5 => ?_)
            refine TL.cr rfl (enters Tryz.func44 rfl rfl) (fun w hw => by
                exact pair_any _ _ _ _ _ _ _) ?_
            refine TL.nil ?_
            refine TQ.nxt (hX5 _ _ (by repeat (first | exact HasL.nil | refine HasL.cons (by repeat (first | exact Pick.hd | apply Pick.tl)) ?_)) ?_)
            refine RG.a1 6 rfl (fun X6 hX6 => ?_)
            refine TL.cr rfl (enters Tryz.func35 rfl rfl) (fun w hw => by
                exact readyEx (hG.sat hw (by simp)) (OwnR.rdr (hw.holds (.own B1 4 e1 45 11 (fun k => packL (balP k))) (by simp))) (RdR.blk (hw.holds (.blk _ 3 [.int .i64 0, .int .i64 1]) (by simp)) rfl (fun _ _ => rfl)) (RdR.blk (hw.holds (.blk _ 3 [.int .i64 2]) (by simp)) rfl (fun _ _ => rfl))) ?_
            refine TL.nil ?_
            refine TQ.nxt (hX6 _ _ (by repeat (first | exact HasL.nil | refine HasL.cons (by repeat (first | exact Pick.hd | apply Pick.tl)) ?_)) ?_)
            refine RG.tk 7 rfl Pu.mv ?_
            refine RG.tk 8 rfl Pu.ex ?_
            refine RG.tk 9 rfl Pu.ex ?_
            refine RG.tk 10 rfl Pu.as ?_
            refine RG.tk 11 rfl Pu.as ?_
            exact RG.nil (TQ.sub (by repeat (first | exact trivial | refine ⟨rfl, ?_⟩ | refine ⟨trivial, ?_⟩)) (by repeat (first | exact KSub.nil | refine KSub.cons (by repeat (first | exact Pick.hd | apply Pick.tl)) ?_ | exact KSub.refl _ | refine KSub.drop ?_)) (hE e1)) (by kernel_rfl)
    · as_aux_lemma =>
        refine TL.m Mk.bl ?_
        intro x4
        refine TL.nil ?_
        refine TQ.nxt (hX4 _ _ (by repeat (first | exact HasL.nil | refine HasL.cons (by repeat (first | exact Pick.hd | apply Pick.tl)) ?_)) ?_)
        refine RG.a2 2 3 rfl rfl (fun X2 hX2 => ?_) (fun X3 hX3 => ?_)
        · as_aux_lemma =>
            refine TL.call (M := []) rfl (enters Tryz.func43 rfl rfl) (List.Perm.refl _) rfl (fun w hw => by
                exact bales_any _) ?_
            rintro ⟨B1, e1⟩
            refine TL.nil ?_
            refine TQ.nxt (hX2 _ _ (by repeat (first | exact HasL.nil | refine HasL.cons (by repeat (first | exact Pick.hd | apply Pick.tl)) ?_)) ?_)
            refine RG.a1 3 rfl (fun X3 hX3 => ?_)
            refine TL.m Mk.bl ?_
            intro x3
            refine TL.nil ?_
            refine TQ.nxt (hX3 _ _ (by repeat (first | exact HasL.nil | refine HasL.cons (by repeat (first | exact Pick.hd | apply Pick.tl)) ?_)) ?_)
            refine RG.a1 5 rfl (fun X5 hX5 => ?_)
            refine TL.cr rfl (enters Tryz.func44 rfl rfl) (fun w hw => by
                exact pair_any _ _ _ _ _ _ _) ?_
            refine TL.nil ?_
            refine TQ.nxt (hX5 _ _ (by repeat (first | exact HasL.nil | refine HasL.cons (by repeat (first | exact Pick.hd | apply Pick.tl)) ?_)) ?_)
            refine RG.a1 6 rfl (fun X6 hX6 => ?_)
            refine TL.cr rfl (enters Tryz.func35 rfl rfl) (fun w hw => by
                exact readyEx (hG.sat hw (by simp)) (OwnR.rdr (hw.holds (.own B1 4 e1 45 11 (fun k => packL (balP k))) (by simp))) (RdR.blk (hw.holds (.blk _ 3 [.int .i64 0, .int .i64 1]) (by simp)) rfl (fun _ _ => rfl)) (RdR.blk (hw.holds (.blk _ 3 [.int .i64 2]) (by simp)) rfl (fun _ _ => rfl))) ?_
            refine TL.nil ?_
            refine TQ.nxt (hX6 _ _ (by repeat (first | exact HasL.nil | refine HasL.cons (by repeat (first | exact Pick.hd | apply Pick.tl)) ?_)) ?_)
            refine RG.tk 7 rfl Pu.mv ?_
            refine RG.tk 8 rfl Pu.ex ?_
            refine RG.tk 9 rfl Pu.ex ?_
            refine RG.tk 10 rfl Pu.as ?_
            refine RG.tk 11 rfl Pu.as ?_
            exact RG.nil (TQ.sub (by repeat (first | exact trivial | refine ⟨rfl, ?_⟩ | refine ⟨trivial, ?_⟩)) (by repeat (first | exact KSub.nil | refine KSub.cons (by repeat (first | exact Pick.hd | apply Pick.tl)) ?_ | exact KSub.refl _ | refine KSub.drop ?_)) (hE e1)) (by kernel_rfl)
        · as_aux_lemma =>
            refine TL.m Mk.bl ?_
            intro x3
            refine TL.nil ?_
            refine TQ.nxt (hX3 _ _ (by repeat (first | exact HasL.nil | refine HasL.cons (by repeat (first | exact Pick.hd | apply Pick.tl)) ?_)) ?_)
            refine RG.a1 2 rfl (fun X2 hX2 => ?_)
            refine TL.call (M := []) rfl (enters Tryz.func43 rfl rfl) (List.Perm.refl _) rfl (fun w hw => by
                exact bales_any _) ?_
            rintro ⟨B1, e1⟩
            refine TL.nil ?_
            refine TQ.nxt (hX2 _ _ (by repeat (first | exact HasL.nil | refine HasL.cons (by repeat (first | exact Pick.hd | apply Pick.tl)) ?_)) ?_)
            refine RG.a1 5 rfl (fun X5 hX5 => ?_)
            refine TL.cr rfl (enters Tryz.func44 rfl rfl) (fun w hw => by
                exact pair_any _ _ _ _ _ _ _) ?_
            refine TL.nil ?_
            refine TQ.nxt (hX5 _ _ (by repeat (first | exact HasL.nil | refine HasL.cons (by repeat (first | exact Pick.hd | apply Pick.tl)) ?_)) ?_)
            refine RG.a1 6 rfl (fun X6 hX6 => ?_)
            refine TL.cr rfl (enters Tryz.func35 rfl rfl) (fun w hw => by
                exact readyEx (hG.sat hw (by simp)) (OwnR.rdr (hw.holds (.own B1 4 e1 45 11 (fun k => packL (balP k))) (by simp))) (RdR.blk (hw.holds (.blk _ 3 [.int .i64 0, .int .i64 1]) (by simp)) rfl (fun _ _ => rfl)) (RdR.blk (hw.holds (.blk _ 3 [.int .i64 2]) (by simp)) rfl (fun _ _ => rfl))) ?_
            refine TL.nil ?_
            refine TQ.nxt (hX6 _ _ (by repeat (first | exact HasL.nil | refine HasL.cons (by repeat (first | exact Pick.hd | apply Pick.tl)) ?_)) ?_)
            refine RG.tk 7 rfl Pu.mv ?_
            refine RG.tk 8 rfl Pu.ex ?_
            refine RG.tk 9 rfl Pu.ex ?_
            refine RG.tk 10 rfl Pu.as ?_
            refine RG.tk 11 rfl Pu.as ?_
            exact RG.nil (TQ.sub (by repeat (first | exact trivial | refine ⟨rfl, ?_⟩ | refine ⟨trivial, ?_⟩)) (by repeat (first | exact KSub.nil | refine KSub.cons (by repeat (first | exact Pick.hd | apply Pick.tl)) ?_ | exact KSub.refl _ | refine KSub.drop ?_)) (hE e1)) (by kernel_rfl)
end Go.Proofs.YtjephihlkjpohaaGreatDoor
namespace Go.Proofs.YtjephihlkjpohaaGreatDoor
set_option linter.all false
set_option linter.unusedVariables false
set_option linter.unusedSimpArgs false
abbrev Asc (L : List Int) : Prop := L.Pairwise (· < ·)
theorem asc_getD {L : List Int} (h : Asc L) {j k : Nat} (hjk : j < k) (hk : k < L.length) : L.getD j 0 < L.getD k 0 := by
  have := List.pairwise_iff_getElem.1 h j k (by omega) hk hjk
  simpa [List.getD_eq_getElem?_getD, List.getElem?_eq_getElem hk, List.getElem?_eq_getElem (show j < L.length by omega)] using this
theorem asc_of {L : List Int} (h : ∀ k, k + 1 < L.length → L.getD k 0 < L.getD (k + 1) 0) : Asc L := by
  have key : ∀ d j, j + d + 1 < L.length → L.getD j 0 < L.getD (j + d + 1) 0 := by
    intro d
    induction d with
    | zero => exact fun j hj => h j hj
    | succ d ih => exact fun j hj => Int.lt_trans (ih j (by omega)) (h (j + d + 1) (by omega))
  refine List.pairwise_iff_getElem.2 fun j k hj hk hjk => ?_
  have := key (k - j - 1) j (by omega)
  rw [show j + (k - j - 1) + 1 = k by omega] at this
  simpa [List.getD_eq_getElem?_getD, List.getElem?_eq_getElem hk, List.getElem?_eq_getElem hj] using this
theorem asc_srt {L : List Int} (h : L.Nodup) : Asc (srt L) := by
  have h1 : (srt L).Pairwise (· ≠ ·) := ((srt_perm L).nodup_iff).2 h
  exact List.Pairwise.imp₂ (fun a b hle hne => Int.lt_iff_le_and_ne.2 ⟨hle, hne⟩) (srt_mono L) h1
theorem mem_take_getD {L : List Int} {x : Int} {i : Nat} (h : x ∈ L.take i) : ∃ j, j < i ∧ j < L.length ∧ x = L.getD j 0 := by
  obtain ⟨j, hj, e⟩ := List.getElem_of_mem h
  rw [List.length_take] at hj
  refine ⟨j, by omega, by omega, ?_⟩
  rw [List.getElem_take] at e
  rw [← e]
  simp [List.getD_eq_getElem?_getD, List.getElem?_eq_getElem (show j < L.length by omega)]
theorem sel_take {L : List Int} {b : Nat} {x : Int} : ∀ {i}, i ≤ L.length → x ∈ sel L b i → x ∈ L.take i
  | 0, _, h => by cases h
  | i + 1, hi, h => by
    rw [take_succ (by omega)]
    simp only [sel] at h
    split at h
    · rcases List.mem_append.1 h with h | h
      · exact List.mem_append.2 (.inl (sel_take (by omega) h))
      · exact List.mem_append.2 (.inr h)
    · exact List.mem_append.2 (.inl (sel_take (by omega) h))
theorem sel_asc {L : List Int} {b : Nat} (hL : Asc L) : ∀ {i}, i ≤ L.length → Asc (sel L b i)
  | 0, _ => List.Pairwise.nil
  | i + 1, hi => by
    have ih := sel_asc (b := b) hL (i := i) (by omega)
    simp only [sel]
    split
    · refine List.pairwise_append.2 ⟨ih, by simp, fun x hx y hy => ?_⟩
      obtain ⟨j, h1, h2, rfl⟩ := mem_take_getD (sel_take (by omega) hx)
      obtain rfl := List.mem_singleton.1 hy
      exact asc_getD hL h1 (by omega)
    · exact ih
def maskP (p : Int → Bool) (S : List Int) : Nat → Nat
  | 0 => 0
  | i + 1 => maskP p S i + if p (S.getD i 0) = true then 2 ^ i else 0
theorem maskP_lt {p : Int → Bool} {S : List Int} : ∀ i, maskP p S i < 2 ^ i
  | 0 => by simp [maskP]
  | i + 1 => by
    have := maskP_lt (p := p) (S := S) i
    simp only [maskP, Nat.pow_succ]
    split <;> omega
theorem sel_mask {p : Int → Bool} {S : List Int} : ∀ {i}, i ≤ S.length → ∀ {b : Nat}, b % 2 ^ i = maskP p S i → sel S b i = (S.take i).filter p
  | 0, _, _, _ => by simp [sel]
  | i + 1, hi, b, hb => by
    have h1 := maskP_lt (p := p) (S := S) i
    have h2 : b % 2 ^ i < 2 ^ i := Nat.mod_lt _ (Nat.two_pow_pos i)
    rw [Nat.pow_succ, Nat.mod_mul] at hb
    simp only [maskP] at hb
    rw [take_succ (by omega), List.filter_append]
    simp only [sel]
    rcases (show b / 2 ^ i % 2 = 0 ∨ b / 2 ^ i % 2 = 1 by omega) with hd | hd
    · rw [hd, Nat.mul_zero, Nat.add_zero] at hb
      have hp : p (S.getD i 0) = false := by
        cases hp : p (S.getD i 0) with
        | false => rfl
        | true => rw [hp, if_pos rfl] at hb; omega
      rw [hp] at hb
      rw [if_neg (by omega), sel_mask (by omega) (by simpa using hb), List.filter_cons, hp]
      simp
    · rw [hd, Nat.mul_one] at hb
      have hp : p (S.getD i 0) = true := by
        cases hp : p (S.getD i 0) with
        | true => rfl
        | false => rw [hp] at hb; simp at hb; omega
      rw [hp, if_pos rfl] at hb
      rw [if_pos hd, sel_mask (p := p) (by omega) (by omega), List.filter_cons, hp]
      simp
theorem asc_filter : ∀ {S M : List Int}, Asc S → Asc M → (∀ x ∈ M, x ∈ S) → S.filter (fun x => M.contains x) = M
  | [], M, _, _, h => by
    cases M with
    | nil => rfl
    | cons m M => cases h m (by simp)
  | s :: S, [], _, _, _ => by simp
  | s :: S, m :: M, hS, hM, h => by
    have hS1 := List.pairwise_cons.1 hS
    have hM1 := List.pairwise_cons.1 hM
    rcases List.mem_cons.1 (h m (by simp)) with e | hm
    · subst e
      have h1 : ∀ x ∈ M, x ∈ S := fun x hx => by
        rcases List.mem_cons.1 (h x (by simp [hx])) with e | hx'
        · have := hM1.1 x hx; omega
        · exact hx'
      rw [List.filter_cons, if_pos (by simp)]
      congr 1
      rw [← asc_filter hS1.2 hM1.2 h1]
      refine List.filter_congr fun x hx => ?_
      have h2 := hS1.1 x hx
      have : (x == m) = false := by simp; omega
      rw [List.contains_cons, this, Bool.false_or]
      rw [asc_filter hS1.2 hM1.2 h1]
    · have h2 := hS1.1 m hm
      have h3 : ∀ x ∈ m :: M, x ∈ S := fun x hx => by
        rcases List.mem_cons.1 (h x hx) with e | hx'
        · rcases List.mem_cons.1 hx with e2 | hx2
          · omega
          · have := hM1.1 x hx2; omega
        · exact hx'
      have h4 : s ∉ m :: M := fun hs => by
        rcases List.mem_cons.1 hs with e2 | hx2
        · omega
        · have := hM1.1 s hx2; omega
      rw [List.filter_cons, if_neg (by simpa using h4)]
      exact asc_filter hS1.2 hM h3
theorem sel_all {S M : List Int} (hS : Asc S) (hM : Asc M) (h : ∀ x ∈ M, x ∈ S) : ∃ q, q < 2 ^ S.length ∧ sel S q S.length = M := by
  refine ⟨maskP (fun x => M.contains x) S S.length, maskP_lt _, ?_⟩
  rw [sel_mask (p := fun x => M.contains x) (Nat.le_refl _) (Nat.mod_eq_of_lt (maskP_lt _)), List.take_length, asc_filter hS hM h]
theorem cmpV_lt {a b : Int} : cmpV a b < 0 ↔ a < b := by unfold cmpV; (repeat' split) <;> omega
theorem cmpV_eq {a b : Int} : cmpV a b = 0 ↔ a = b := by unfold cmpV; (repeat' split) <;> omega
theorem cmpI_cons {a b : Int} {xs ys : List Int} : cmpI (a :: xs) (b :: ys) < 0 ↔ a < b ∨ a = b ∧ cmpI xs ys < 0 := by
  simp only [cmpI]
  split
  · rename_i h
    rw [cmpV_eq] at h
    omega
  · rename_i h
    rw [cmpV_eq] at h
    rw [cmpV_lt]
    omega
theorem cmpI_trans : ∀ {x y z : List Int}, cmpI x y < 0 → cmpI y z < 0 → cmpI x z < 0
  | [], [], _, h, _ => by simp [cmpI] at h
  | [], _ :: _, [], _, h => by simp [cmpI] at h
  | [], _ :: _, _ :: _, _, _ => by simp [cmpI]
  | _ :: _, [], _, h, _ => by simp [cmpI] at h
  | _ :: _, _ :: _, [], _, h => by simp [cmpI] at h
  | a :: xs, b :: ys, c :: zs, h, k => by
    rw [cmpI_cons] at h k ⊢
    rcases h with h | ⟨h, h'⟩
    · rcases k with k | ⟨k, _⟩
      · exact .inl (by omega)
      · exact .inl (by omega)
    · rcases k with k | ⟨k, k'⟩
      · exact .inl (by omega)
      · exact .inr ⟨by omega, cmpI_trans h' k'⟩
theorem cmpI_first : ∀ {k : Nat} {x y : List Int}, (∀ j, j < k → x.getD j 0 = y.getD j 0) → k < x.length → k < y.length → x.getD k 0 < y.getD k 0 → cmpI x y < 0
  | 0, a :: xs, b :: ys, _, _, _, h => cmpI_cons.2 (.inl (by simpa using h))
  | k + 1, a :: xs, b :: ys, hj, h1, h2, h => cmpI_cons.2 (.inr ⟨by simpa using hj 0 (by omega), cmpI_first (k := k) (fun j hjk => by simpa using hj (j + 1) (by omega)) (by simpa using h1) (by simpa using h2) (by simpa using h)⟩)
  | _, [], _, _, h, _, _ => by simp at h
  | _, _ :: _, [], _, _, h, _ => by simp at h
theorem setRun_inv {L : List Int} {ok : List Int → Bool} : ∀ q,
    ((∀ p, p < q → ok (sel L p L.length) = false) ∧ setRun L ok q = ([], L.length + 1)) ∨
    (∃ p, p < q ∧ (setRun L ok q).1 = sel L p L.length ∧ (setRun L ok q).2 = (setRun L ok q).1.length ∧ ok (setRun L ok q).1 = true ∧
      ∀ p, p < q → ok (sel L p L.length) = true → (setRun L ok q).1.length < (sel L p L.length).length ∨ (setRun L ok q).1.length = (sel L p L.length).length ∧ ¬ cmpI (sel L p L.length) (setRun L ok q).1 < 0)
  | 0 => .inl ⟨fun p hp => by omega, rfl⟩
  | q + 1 => by
    have hq := sel_len (L := L) (b := q) L.length
    rcases setRun_inv (L := L) (ok := ok) q with ⟨h1, h2⟩ | ⟨p, hp, h1, h2, h3, h4⟩
    · simp only [setRun, setStep, h2]
      cases hok : ok (sel L q L.length) with
      | false =>
        refine .inl ⟨fun p hp => ?_, by simp⟩
        rcases (show p < q ∨ p = q by omega) with h | h
        · exact h1 p h
        · rw [h]; exact hok
      | true =>
        rw [if_pos ⟨.inl (by omega), rfl⟩]
        refine .inr ⟨q, by omega, rfl, rfl, hok, fun p hp hpo => ?_⟩
        rcases (show p < q ∨ p = q by omega) with h | h
        · rw [h1 p h] at hpo; cases hpo
        · rw [h]; exact .inr ⟨rfl, cmpI_irr⟩
    · generalize hs : setRun L ok q = s at *
      simp only [setRun, setStep, hs]
      split
      · rename_i hb
        refine .inr ⟨q, by omega, rfl, rfl, hb.2, fun p' hp' hpo => ?_⟩
        rcases (show p' < q ∨ p' = q by omega) with h | h
        · rcases h4 p' h hpo with h5 | ⟨h5, h6⟩
          · rcases hb.1 with h7 | ⟨h7, h8⟩
            · exact .inl (by show (sel L q L.length).length < _; omega)
            · exact .inl (by show (sel L q L.length).length < _; omega)
          · rcases hb.1 with h7 | ⟨h7, h8⟩
            · exact .inl (by show (sel L q L.length).length < _; omega)
            · exact .inr ⟨by show (sel L q L.length).length = _; omega, fun h9 => h6 (cmpI_trans h9 h8)⟩
        · rw [h]; exact .inr ⟨rfl, cmpI_irr⟩
      · rename_i hb
        refine .inr ⟨p, by omega, h1, h2, h3, fun p' hp' hpo => ?_⟩
        rcases (show p' < q ∨ p' = q by omega) with h | h
        · exact h4 p' h hpo
        · rw [h] at hpo ⊢
          have hb' : ¬ ((sel L q L.length).length < s.2 ∨ (sel L q L.length).length = s.2 ∧ cmpI (sel L q L.length) s.1 < 0) := fun h => hb ⟨h, hpo⟩
          rw [h2] at hb'
          by_cases hl : s.1.length < (sel L q L.length).length
          · exact .inl hl
          · exact .inr ⟨by omega, fun h => hb' (.inr ⟨by omega, h⟩)⟩
where
  cmpI_irr : ∀ {x : List Int}, ¬ cmpI x x < 0
    | [] => by simp [cmpI]
    | a :: xs => by
      rw [cmpI_cons]
      rintro (h | ⟨_, h⟩)
      · omega
      · exact cmpI_irr h
theorem best_cases {r0 r1 : Nat → Int} {b : Int} {L0 L1 : List Int} (hnd : (L0 ++ L1).Nodup) :
    (bestC r0 r1 b L0 L1 = 52 ∧ ∀ M, Asc M → (∀ x ∈ M, x ∈ L0 ∨ x ∈ L1) → mvOk r0 r1 b L0 L1 M = false) ∨
    (bestC r0 r1 b L0 L1 = 0 ∧ Asc (bestE r0 r1 b L0 L1).1 ∧ (∀ x ∈ (bestE r0 r1 b L0 L1).1, x ∈ L0 ∨ x ∈ L1) ∧ mvOk r0 r1 b L0 L1 (bestE r0 r1 b L0 L1).1 = true ∧
      ∀ M, Asc M → (∀ x ∈ M, x ∈ L0 ∨ x ∈ L1) → mvOk r0 r1 b L0 L1 M = true → (bestE r0 r1 b L0 L1).1.length < M.length ∨ (bestE r0 r1 b L0 L1).1.length = M.length ∧ ¬ cmpI M (bestE r0 r1 b L0 L1).1 < 0) := by
  have hS : Asc (sidesL L0 L1) := asc_srt hnd
  have hm : ∀ x, x ∈ sidesL L0 L1 ↔ x ∈ L0 ∨ x ∈ L1 := fun x => by unfold sidesL; rw [mem_srt, List.mem_append]
  have hl := sides_len (L0 := L0) (L1 := L1)
  have hall : ∀ M, Asc M → (∀ x ∈ M, x ∈ L0 ∨ x ∈ L1) → ∃ q, q < 2 ^ (L0.length + L1.length) ∧ sel (sidesL L0 L1) q (sidesL L0 L1).length = M := fun M h1 h2 => by
    obtain ⟨q, h3, h4⟩ := sel_all hS h1 fun x hx => (hm x).2 (h2 x hx)
    exact ⟨q, by rw [← hl]; exact h3, h4⟩
  unfold bestC bestE bestS
  rcases setRun_inv (L := sidesL L0 L1) (ok := mvOk r0 r1 b L0 L1) (2 ^ (L0.length + L1.length)) with ⟨h1, h2⟩ | ⟨p, hp, h1, h2, h3, h4⟩
  · rw [h2]
    refine .inl ⟨if_neg (by show ¬ (sidesL L0 L1).length + 1 ≤ _; omega), fun M k1 k2 => ?_⟩
    obtain ⟨q, k3, k4⟩ := hall M k1 k2
    rw [← k4]
    exact h1 q k3
  · refine .inr ⟨if_pos ?_, ?_, fun x hx => ?_, h3, fun M k1 k2 k3 => ?_⟩
    · rw [h2, h1]
      have := sel_len (L := sidesL L0 L1) (b := p) (sidesL L0 L1).length
      omega
    · rw [h1]; exact sel_asc hS (Nat.le_refl _)
    · rw [h1] at hx
      exact (hm x).1 (sel_mem (Nat.le_refl _) hx)
    · obtain ⟨q, k4, k5⟩ := hall M k1 k2
      rw [← k5] at k3 ⊢
      exact h4 q k4 k3
end Go.Proofs.YtjephihlkjpohaaGreatDoor
namespace Go.Proofs.YtjephihlkjpohaaGreatDoor
set_option linter.all false
set_option linter.unusedVariables false
set_option linter.unusedSimpArgs false
open Go.RowKit
def dg (P w : Nat) : Nat → Nat
  | 0 => w
  | m + 1 => dg P w m / P
section
variable {P np w m s : Nat}
end
section
variable {c : Cx} {F : Fr} {K : List Fact} {d : Option Tmp} {ty : TypeId} {pos : String} {af : Array Edge} {g : Option (Nat × Bool)} {x y : Operand} {xt yt : TypeId} {i j : Nat}
end
section
variable {P np w m k i : Nat} {A : Nat → Option Addr} {c : Nat → Nat} {A2 : Option Addr} {c2 : Nat}
end
end Go.Proofs.YtjephihlkjpohaaGreatDoor
namespace Go.Proofs.YtjephihlkjpohaaGreatDoor
set_option linter.all false
set_option linter.unusedVariables false
set_option linter.unusedSimpArgs false
theorem rise_asc {v : Nat → Int} {n : Nat} {N : Nat} : allB n (riseP v N) = true ↔ Asc (toI v n) ∧ InxL (toI v n) N := by
  constructor
  · intro h
    refine ⟨asc_of fun k hk => ?_, inxL_toI (rise_inx h)⟩
    rw [toI_len] at hk
    rw [toI_get (v := v) (k := k) (by omega), toI_get hk]
    have := allB_iff.1 h (k + 1) hk
    have h9 : lastV v (k + 1) = v k := rfl
    simp only [riseP, inB5, h9, Bool.and_eq_true, decide_eq_true_eq] at this
    omega
  · rintro ⟨h1, h2⟩
    refine allB_iff.2 fun k hk => ?_
    have h3 := h2 (v k) (by rw [← toI_get (v := v) hk]; exact mem_getD (by rw [toI_len]; exact hk))
    simp only [riseP, inB5, Bool.and_eq_true, decide_eq_true_eq]
    cases k with
    | zero => simp only [lastV]; omega
    | succ k =>
      have := asc_getD h1 (Nat.lt_succ_self k) (by rw [toI_len]; exact hk)
      rw [toI_get (v := v) (k := k) (by omega), toI_get hk] at this
      simp only [lastV]
      omega
section
variable {np : Nat} {pk : Nat → Nat → Int} {l : Nat → Nat} {v : Nat → Nat → Int} {b : Int} {M : List Int}
theorem check1_iff : check1 np pk l v = 0 ↔ packsOk np pk = true ∧ (∀ j, j < 3 → Asc (toI (v j) (l j)) ∧ InxL (toI (v j) (l j)) np) ∧ tot l 3 ≤ 10 ∧ (toI (v 0) (l 0) ++ toI (v 1) (l 1) ++ toI (v 2) (l 2)).Nodup := by
  have hh : held (fun _ => l) (fun _ => v) 1 = toI (v 0) (l 0) ++ toI (v 1) (l 1) ++ toI (v 2) (l 2) := rfl
  have ht : tiesOk np 1 (fun _ => l) (fun _ => v) = true ↔ (∀ j, j < 3 → Asc (toI (v j) (l j)) ∧ InxL (toI (v j) (l j)) np) ∧ tot l 3 ≤ 10 ∧ (toI (v 0) (l 0) ++ toI (v 1) (l 1) ++ toI (v 2) (l 2)).Nodup := by
    rw [ties_dup]
    unfold dupOk
    rw [hh]
    simp only [Bool.and_eq_true, decide_eq_true_eq, allB_iff]
    constructor
    · rintro ⟨h1, _, h2⟩
      have h3 := h1 0 (by omega)
      simp only [tieOk, Bool.and_eq_true, decide_eq_true_eq, allB_iff] at h3
      exact ⟨fun j hj => rise_asc.1 (allB_iff.2 (h3.1 j hj)), h3.2, h2⟩
    · rintro ⟨h1, h2, h3⟩
      refine ⟨fun i _ => ?_, by decide, h3⟩
      simp only [tieOk, Bool.and_eq_true, decide_eq_true_eq]
      exact ⟨allB_iff.2 fun j hj => rise_asc.2 (h1 j hj), h2⟩
  unfold check1 checkV
  constructor
  · intro h
    split at h
    · rename_i hp
      split at h
      · rename_i h2
        exact ⟨hp, ht.1 h2⟩
      · cases h
    · cases h
  · rintro ⟨h1, h2⟩
    rw [if_pos h1, if_pos (ht.2 h2)]
def mvl (l : Nat → Nat) (v : Nat → Nat → Int) (M : List Int) : Nat → Nat := fun j => if j = 0 then (mvd (lft l v) (rgt l v) M).length else if j = 1 then (mvd (rgt l v) (lft l v) M).length else l 2
def mvv (l : Nat → Nat) (v : Nat → Nat → Int) (M : List Int) : Nat → Nat → Int := fun j => if j = 0 then fun k => (mvd (lft l v) (rgt l v) M).getD k 0 else if j = 1 then fun k => (mvd (rgt l v) (lft l v) M).getD k 0 else v 2
theorem mvd_perm {S C : List Int} : (mvd S C M ++ mvd C S M).Perm (S ++ C) := by
  unfold mvd
  refine ((srt_perm _).append (srt_perm _)).trans ?_
  have h1 := List.filter_append_perm (fun x => M.contains x) S
  have h2 := List.filter_append_perm (fun x => M.contains x) C
  refine List.Perm.trans ?_ (h1.append h2)
  generalize S.filter (fun x => !M.contains x) = s1
  generalize S.filter (fun x => M.contains x) = s2
  generalize C.filter (fun x => !M.contains x) = c1
  generalize C.filter (fun x => M.contains x) = c2
  -- (s1 ++ c2) ++ (c1 ++ s2) ~ (s2 ++ s1) ++ (c2 ++ c1)
  have e1 : (s1 ++ c2 ++ (c1 ++ s2)).Perm ((c1 ++ s2) ++ (s1 ++ c2)) := List.perm_append_comm
  refine e1.trans ?_
  rw [List.append_assoc]
  refine (List.perm_append_comm (l₁ := c1)).trans ?_
  simp only [List.append_assoc]
  exact List.Perm.refl _
theorem mvd_asc {S C : List Int} (h : (S ++ C).Nodup) : Asc (mvd S C M) := by
  have h1 := (mvd_perm (M := M)).nodup_iff.2 h
  have h2 : (mvd S C M).Nodup := (List.nodup_append.1 h1).1
  unfold mvd at h2 ⊢
  exact asc_srt ((srt_perm _).nodup_iff.1 h2)
theorem mvl_tot : tot (mvl l v M) 3 = tot l 3 := by
  have h := (mvd_perm (S := lft l v) (C := rgt l v) (M := M)).length_eq
  rw [List.length_append, List.length_append] at h
  have e0 : (lft l v).length = l 0 := toI_len
  have e1 : (rgt l v).length = l 1 := toI_len
  rw [e0, e1] at h
  rw [tot3, tot3]
  show (mvd (lft l v) (rgt l v) M).length + (mvd (rgt l v) (lft l v) M).length + l 2 = _
  omega
theorem check1_moved (h : check1 np pk l v = 0) : check1 np pk (mvl l v M) (mvv l v M) = 0 := by
  obtain ⟨h1, h2, h3, h4⟩ := check1_iff.1 h
  have n01 : (lft l v ++ rgt l v).Nodup := (List.nodup_append.1 h4).1
  have n10 : (rgt l v ++ lft l v).Nodup := List.perm_append_comm.nodup_iff.1 n01
  have e0 : toI (mvv l v M 0) (mvl l v M 0) = mvd (lft l v) (rgt l v) M := toI_getD _
  have e1 : toI (mvv l v M 1) (mvl l v M 1) = mvd (rgt l v) (lft l v) M := toI_getD _
  have e2 : toI (mvv l v M 2) (mvl l v M 2) = toI (v 2) (l 2) := rfl
  refine check1_iff.2 ⟨h1, fun j hj => ?_, by rw [mvl_tot]; exact h3, ?_⟩
  · rcases (show j = 0 ∨ j = 1 ∨ j = 2 by omega) with rfl | rfl | rfl
    · rw [e0]; exact ⟨mvd_asc n01, (h2 0 (by omega)).2.mvd (h2 1 (by omega)).2⟩
    · rw [e1]; exact ⟨mvd_asc n10, (h2 1 (by omega)).2.mvd (h2 0 (by omega)).2⟩
    · rw [e2]; exact h2 2 (by omega)
  · rw [e0, e1, e2]
    exact (mvd_perm.append_right _).nodup_iff.2 h4
theorem sides_nodup (h : check1 np pk l v = 0) : (lft l v ++ rgt l v).Nodup := (List.nodup_append.1 (check1_iff.1 h).2.2.2).1
theorem asked_moved (h : check1 np pk l v = 0) (hb : 0 ≤ b ∧ b ≤ 1000000000) : askedV np pk (mvl l v M) (mvv l v M) b = 0 := by
  unfold askedV inB5
  rw [if_pos (check1_moved h), if_pos (by simp; omega)]
def mvB (pk : Nat → Nat → Int) (l : Nat → Nat) (v : Nat → Nat → Int) (b : Int) (M : List Int) : Bool := mvOk (fun q => rl (pk q)) (fun q => rh (pk q)) b (lft l v) (rgt l v) M
theorem bal_moved (h : check1 np pk l v = 0) (hb : 0 ≤ b ∧ b ≤ 1000000000) : balR np pk (mvl l v M) (mvv l v M) b = 2 ↔ mvB pk l v b M = true := by
  unfold balR
  rw [if_pos (asked_moved h hb)]
  unfold mvB mvOk
  rw [decide_eq_true_eq]
  exact Iff.rfl
theorem sett_cases (h : check1 np pk l v = 0) (hb : 0 ≤ b ∧ b ≤ 1000000000) :
    (settC np pk l v b = 52 ∧ settL np pk l v b = [] ∧ ∀ M, Asc M → (∀ x ∈ M, x ∈ lft l v ++ rgt l v) → mvB pk l v b M = false) ∨
    (settC np pk l v b = 0 ∧ Asc (settL np pk l v b) ∧ (∀ x ∈ settL np pk l v b, x ∈ lft l v ++ rgt l v) ∧ (settL np pk l v b).length ≤ 10 ∧ mvB pk l v b (settL np pk l v b) = true ∧
      ∀ M, Asc M → (∀ x ∈ M, x ∈ lft l v ++ rgt l v) → mvB pk l v b M = true → (settL np pk l v b).length < M.length ∨ (settL np pk l v b).length = M.length ∧ ¬ cmpI M (settL np pk l v b) < 0) := by
  have ha : askedV np pk l v b = 0 := by
    unfold askedV inB5
    rw [if_pos h, if_pos (by simp; omega)]
  have hC : settC np pk l v b = settD pk l v b := if_pos ha
  obtain ⟨h1, h2, h3, h4⟩ := check1_iff.1 h
  rw [tot3] at h3
  have hlen := (setRun_le (L := sidesL (lft l v) (rgt l v)) (ok := mvOk (fun q => rl (pk q)) (fun q => rh (pk q)) b (lft l v) (rgt l v)) (2 ^ ((lft l v).length + (rgt l v).length))).2
  rw [sides_len] at hlen
  have e0 : (lft l v).length = l 0 := toI_len
  have e1 : (rgt l v).length = l 1 := toI_len
  simp only [List.mem_append]
  rcases best_cases (r0 := fun q => rl (pk q)) (r1 := fun q => rh (pk q)) (b := b) (sides_nodup h) with ⟨k1, k2⟩ | ⟨k1, k2, k3, k4, k5⟩
  · have hc : settC np pk l v b = 52 := hC.trans k1
    exact .inl ⟨hc, by unfold settL; rw [if_neg (by rw [hc]; decide)], k2⟩
  · have hc : settC np pk l v b = 0 := hC.trans k1
    have hl : settL np pk l v b = (bestE (fun q => rl (pk q)) (fun q => rh (pk q)) b (lft l v) (rgt l v)).1 := if_pos hc
    rw [hl]
    exact .inr ⟨hc, k2, k3, by show (setRun _ _ _).1.length ≤ 10; omega, k4, k5⟩
end
end Go.Proofs.YtjephihlkjpohaaGreatDoor
namespace Go.Proofs.YtjephihlkjpohaaGreatDoor
set_option linter.all false
set_option linter.unusedVariables false
set_option linter.unusedSimpArgs false
open Go.RowKit
section
variable {c : Cx} {Q : Exit → Act → World → Prop} {F F' : Fr} {K K' : List Fact}
theorem TW.loop9 {ι1 ι2 ι3 ι4 ι5 ι6 ι7 ι8 ι9 : Type} {x : Code} (FI : ι1 → ι2 → ι3 → ι4 → ι5 → ι6 → ι7 → ι8 → ι9 → Fr) (KI : ι1 → ι2 → ι3 → ι4 → ι5 → ι6 → ι7 → ι8 → ι9 → List Fact) (p : ι1 → ι2 → ι3 → ι4 → ι5 → ι6 → ι7 → ι8 → ι9 → Prop) (μ : ι1 → ι2 → ι3 → ι4 → ι5 → ι6 → ι7 → ι8 → ι9 → Nat) (i1 : ι1) (i2 : ι2) (i3 : ι3) (i4 : ι4) (i5 : ι5) (i6 : ι6) (i7 : ι7) (i8 : ι8) (i9 : ι9) (hF : fsub F (FI i1 i2 i3 i4 i5 i6 i7 i8 i9)) (hK : KSub K (KI i1 i2 i3 i4 i5 i6 i7 i8 i9)) (hp : p i1 i2 i3 i4 i5 i6 i7 i8 i9)
    (round : ∀ i1 i2 i3 i4 i5 i6 i7 i8 i9, p i1 i2 i3 i4 i5 i6 i7 i8 i9 → ∀ Y : Act → World → Prop, (∀ j1 j2 j3 j4 j5 j6 j7 j8 j9 F K, p j1 j2 j3 j4 j5 j6 j7 j8 j9 → μ j1 j2 j3 j4 j5 j6 j7 j8 j9 < μ i1 i2 i3 i4 i5 i6 i7 i8 i9 → fsub F (FI j1 j2 j3 j4 j5 j6 j7 j8 j9) → KSub K (KI j1 j2 j3 j4 j5 j6 j7 j8 j9) → TQ c (fun _ => Y) .normal F K) → TW c x (Exit.then Y Q) (FI i1 i2 i3 i4 i5 i6 i7 i8 i9) (KI i1 i2 i3 i4 i5 i6 i7 i8 i9)) : TW c (.loop x) Q F K :=
  TW.loop (ι := { t : ι1 × ι2 × ι3 × ι4 × ι5 × ι6 × ι7 × ι8 × ι9 // p t.1 t.2.1 t.2.2.1 t.2.2.2.1 t.2.2.2.2.1 t.2.2.2.2.2.1 t.2.2.2.2.2.2.1 t.2.2.2.2.2.2.2.1 t.2.2.2.2.2.2.2.2 }) (fun t => FI t.1.1 t.1.2.1 t.1.2.2.1 t.1.2.2.2.1 t.1.2.2.2.2.1 t.1.2.2.2.2.2.1 t.1.2.2.2.2.2.2.1 t.1.2.2.2.2.2.2.2.1 t.1.2.2.2.2.2.2.2.2) (fun t => KI t.1.1 t.1.2.1 t.1.2.2.1 t.1.2.2.2.1 t.1.2.2.2.2.1 t.1.2.2.2.2.2.1 t.1.2.2.2.2.2.2.1 t.1.2.2.2.2.2.2.2.1 t.1.2.2.2.2.2.2.2.2) (fun t => μ t.1.1 t.1.2.1 t.1.2.2.1 t.1.2.2.2.1 t.1.2.2.2.2.1 t.1.2.2.2.2.2.1 t.1.2.2.2.2.2.2.1 t.1.2.2.2.2.2.2.2.1 t.1.2.2.2.2.2.2.2.2) ⟨(i1, i2, i3, i4, i5, i6, i7, i8, i9), hp⟩ hF hK fun t Y hY => round t.1.1 t.1.2.1 t.1.2.2.1 t.1.2.2.2.1 t.1.2.2.2.2.1 t.1.2.2.2.2.2.1 t.1.2.2.2.2.2.2.1 t.1.2.2.2.2.2.2.2.1 t.1.2.2.2.2.2.2.2.2 t.2 Y fun j1 j2 j3 j4 j5 j6 j7 j8 j9 F K h1 h2 h3 h4 => hY ⟨(j1, j2, j3, j4, j5, j6, j7, j8, j9), h1⟩ F K h2 h3 h4
end
end Go.Proofs.YtjephihlkjpohaaGreatDoor
namespace Go.Proofs.YtjephihlkjpohaaGreatDoor
set_option linter.all false
set_option linter.unusedVariables false
set_option linter.unusedSimpArgs false
open Go.RowKit
theorem refHas_any {w : World} {A : Option Addr} {n cp : Nat} {L : List Int} (x : Int) (hn : n = L.length) (h1 : n ≤ 1000000) (hR : RdR w 1 A n (iL L)) :
    Calls Tryz.prog 69 #[.slice A n cp, .int .i64 x] w (Ret w (.bool (L.contains x))) := by
  subst hn
  refine K_enter (S := []) (K := []) Tryz.func69 rfl Tryz.ntmps69 rfl (Sat.start _) ?_
  refine TW.seq fun Y1 hY1 => ?_
  refine TW.region ?_
  refine TL.p Pu.as ?_
  refine TL.nil ?_
  refine TQ.thenN (hY1 _ _ ?_)
  refine TW.seq fun Y2 hY2 => ?_
  refine TW.seq fun Y3 hY3 => ?_
  refine TW.region ?_
  refine TL.p Pu.as ?_
  refine TL.nil ?_
  refine TQ.thenN (hY3 _ _ ?_)
  refine TW.block ?_
  refine TW.loop1 (fun (k : Nat) => [(5, .int .i64 (k : Int)), (0, .slice A L.length cp), (1, .int .i64 x)]) (fun k => []) (fun k => k ≤ L.length ∧ ∀ j, j < k → L.getD j 0 ≠ x) (fun k => L.length - k) 0 (by repeat (first | exact trivial | refine ⟨rfl, ?_⟩ | refine ⟨trivial, ?_⟩)) ?_ ?_ ?_
  · exact (by repeat (first | exact KSub.nil | refine KSub.cons (by repeat (first | exact Pick.hd | apply Pick.tl)) ?_))
  · exact ⟨Nat.zero_le _, fun j hj => by omega⟩
  rintro k ⟨hk, hall⟩ Z0 hZ0
  refine TW.seq fun Y4 hY4 => ?_
  refine TW.seq fun Y5 hY5 => ?_
  refine TW.region ?_
  refine TL.p Pu.mv ?_
  refine TL.p Pu.mv ?_
  refine TL.p (Pu.ln Tryz.underlying24) ?_
  refine TL.p Pu.lt ?_
  refine TL.nil ?_
  refine TQ.thenN (hY5 _ _ ?_)
  refine TW.cond rfl (fun hc0 => ?_) (fun hc0 => ?_)
  · try simp only [decide_eq_true_eq, decide_eq_false_iff_not, Bool.not_eq_true', Bool.not_eq_false', Bool.and_eq_true, Bool.or_eq_true, Bool.and_eq_false_iff, Bool.or_eq_false_iff, Int.not_lt, Int.not_le] at hc0
    have hkn : k < L.length := by omega
    refine TW.skip ?_
    refine TQ.thenN (hY4 _ _ ?_)
    refine TW.seq fun Y6 hY6 => ?_
    refine TW.block ?_
    refine TW.seq fun Y7 hY7 => ?_
    refine TW.region ?_
    refine TL.p Pu.mv ?_
    refine TL.p Pu.mv ?_
    refine TL.p (Pu.el ty_et24) ?_
    refine TL.p (Pu.ld ty_sc3) ?_
    refine TL.p Pu.mv ?_
    refine TL.p Pu.eq ?_
    refine TL.nil ?_
    refine TQ.thenN (hY7 _ _ ?_)
    refine TW.cond rfl (fun hc1 => ?_) (fun hc1 => ?_)
    · try simp only [decide_eq_true_eq, decide_eq_false_iff_not, Bool.not_eq_true', Bool.not_eq_false', Bool.and_eq_true, Bool.or_eq_true, Bool.and_eq_false_iff, Bool.or_eq_false_iff, Int.not_lt, Int.not_le] at hc1
      have hx : L.getD k 0 = x := hc1
      refine TW.seq fun Y8 hY8 => ?_
      refine TW.region ?_
      refine TL.p Pu.as ?_
      refine TL.nil ?_
      refine TQ.thenN (hY8 _ _ ?_)
      refine TW.ret ?_
      refine TQ.blkR ?_
      refine TQ.thenR ?_
      refine TQ.thenR ?_
      refine TQ.blkR ?_
      refine TQ.thenR ?_
      refine TQ.ret Tryz.results69 rfl ((.tmp rfl .nil)) ?_
      exact fun w hw => ⟨ret_bool (List.contains_iff_mem.2 (hx ▸ mem_getD hkn)), Chg.ext hw.chg⟩
    · try simp only [decide_eq_true_eq, decide_eq_false_iff_not, Bool.not_eq_true', Bool.not_eq_false', Bool.and_eq_true, Bool.or_eq_true, Bool.and_eq_false_iff, Bool.or_eq_false_iff, Int.not_lt, Int.not_le] at hc1
      have hx : L.getD k 0 ≠ x := hc1
      refine TW.skip ?_
      refine TQ.blkN ?_
      refine TQ.thenN (hY6 _ _ ?_)
      refine TW.region ?_
      refine TL.p Pu.mv ?_
      refine TL.p Pu.ad ?_
      refine TL.p Pu.as ?_
      refine TL.nil ?_
      refine TQ.thenN (hZ0 (k + 1) _ _ ?_ ?_ (by repeat (first | exact trivial | refine ⟨rfl, ?_⟩ | refine ⟨trivial, ?_⟩)) ?_)
      · refine ⟨by omega, fun j hj => ?_⟩
        by_cases h : j = k
        · subst h; exact hx
        · exact hall j (by omega)
      · exact (by first | omega | (simp only []; omega) | (simp; omega))
      · exact (by repeat (first | exact KSub.nil | refine KSub.cons (by repeat (first | exact Pick.hd | apply Pick.tl)) ?_))
  · try simp only [decide_eq_true_eq, decide_eq_false_iff_not, Bool.not_eq_true', Bool.not_eq_false', Bool.and_eq_true, Bool.or_eq_true, Bool.and_eq_false_iff, Bool.or_eq_false_iff, Int.not_lt, Int.not_le] at hc0
    have hkn : k = L.length := by omega
    refine TW.exit ?_
    refine TQ.thenX ?_
    refine TQ.thenX ?_
    refine TQ.blkX ?_
    refine TQ.thenN (hY2 _ _ ?_)
    refine TW.seq fun Y9 hY9 => ?_
    refine TW.region ?_
    refine TL.p Pu.as ?_
    refine TL.nil ?_
    refine TQ.thenN (hY9 _ _ ?_)
    refine TW.ret ?_
    refine TQ.ret Tryz.results69 rfl ((.tmp rfl .nil)) ?_
    exact fun w hw => ⟨ret_bool (by
      rw [Bool.eq_false_iff]
      intro h
      obtain ⟨j, hj, e⟩ := List.getElem_of_mem (List.contains_iff_mem.1 h)
      exact hall j (by omega) (by simp [List.getD_eq_getElem?_getD, hj, e])), Chg.ext hw.chg⟩
theorem getD_mid {P T : List Int} {x : Int} {k : Nat} (h : k = P.length) : (P ++ x :: T).getD k 0 = x := by
  subst h
  rw [getD_app, if_neg (by omega), Nat.sub_self]
  rfl
theorem swap_row {P T : List Int} {x y : Int} {k q : Nat} (hk : k = P.length + 1) (hq : q = P.length) : ∀ i,
    updR (updR (iL (P ++ y :: x :: T)) k [.int .i64 ((P ++ y :: x :: T).getD q 0)]) q [.int .i64 ((P ++ y :: x :: T).getD k 0)] i = iL (P ++ x :: y :: T) i := fun i => by
  have e1 : (P ++ y :: x :: T).getD q 0 = y := getD_mid hq
  have e2 : (P ++ y :: x :: T).getD k 0 = x := by
    rw [show P ++ y :: x :: T = (P ++ [y]) ++ x :: T by simp]
    exact getD_mid (by simp [hk])
  rw [e1, e2]
  unfold updR
  by_cases h1 : i = q
  · rw [if_pos h1]
    simp only [iL]
    rw [h1, getD_mid hq]
  · rw [if_neg h1]
    by_cases h2 : i = k
    · rw [if_pos h2]
      simp only [iL]
      rw [h2, show P ++ x :: y :: T = (P ++ [x]) ++ y :: T by simp, getD_mid (by simp [hk])]
    · rw [if_neg h2]
      simp only [iL, getD_app]
      by_cases h3 : i < P.length
      · rw [if_pos h3, if_pos h3]
      · rw [if_neg h3, if_neg h3]
        obtain ⟨d, hd⟩ : ∃ d, i - P.length = d + 2 := ⟨i - P.length - 2, by omega⟩
        rw [hd]
        rfl
theorem mono_ins {P Q : List Int} {x : Int} (h : (P ++ Q).Pairwise (· ≤ ·)) (hQ : ∀ y ∈ Q, x ≤ y) (hP : ∀ y ∈ P, y ≤ x) : (P ++ x :: Q).Pairwise (· ≤ ·) := by
  have h1 := List.pairwise_append.1 h
  refine List.pairwise_append.2 ⟨h1.1, List.pairwise_cons.2 ⟨hQ, h1.2.1⟩, fun a ha b hb => ?_⟩
  rcases List.mem_cons.1 hb with rfl | hb
  · exact hP a ha
  · exact h1.2.2 a ha b hb
theorem le_last {P Q : List Int} {k : Nat} {x : Int} (h : (P ++ Q).Pairwise (· ≤ ·)) (hk : k + 1 = P.length) (hx : P.getD k 0 ≤ x) : ∀ y ∈ P, y ≤ x := fun y hy => by
  obtain ⟨j, hj, e⟩ := List.getElem_of_mem hy
  have h1 := (List.pairwise_append.1 h).1
  have e2 : P.getD k 0 = P[k] := by simp [List.getD_eq_getElem?_getD, List.getElem?_eq_getElem (show k < P.length by omega)]
  rw [e2] at hx
  rcases (show j < k ∨ j = k by omega) with h2 | h2
  · have := List.pairwise_iff_getElem.1 h1 j k hj (by omega) h2
    omega
  · subst h2; omega
theorem put_ne {r : Nat → List Value} {k q : Nat} {u : List Value} {v x : Value} (h : q ≠ k) (hr : r q = [x]) : PutL (updR r k u q) 0 [v] [v] := by
  unfold updR
  rw [if_neg h, hr]
  exact PutL.put PutL.nil
set_option maxHeartbeats 1000000 in
theorem refSorted_any {w : World} {A : Option Addr} {n cp : Nat} {L : List Int} (hn : n = L.length) (h1 : n ≤ 1000000) (h : OwnR w A n cp 3 1 (iL L)) :
    CallsK Tryz.prog 58 #[.slice A n cp] [.own A n cp 3 1 (iL L)] w Unit (fun _ => .slice A n cp) (fun _ => [.own A n cp 3 1 (iL (srt L))]) := by
  have hM := Sat.own1 h
  replace hn : n ≤ L.length ∧ L.length ≤ n := by omega
  refine K_enter (S := feet [.own A n cp 3 1 (iL L)]) (K := [.own A n cp 3 1 (iL L)]) Tryz.func58 rfl Tryz.ntmps58 rfl hM ?_
  refine TW.seq fun Y1 hY1 => ?_
  refine TW.region ?_
  refine TL.p Pu.as ?_
  refine TL.nil ?_
  refine TQ.thenN (hY1 _ _ ?_)
  refine TW.seq fun Y2 hY2 => ?_
  refine TW.seq fun Y3 hY3 => ?_
  refine TW.region ?_
  refine TL.p Pu.as ?_
  refine TL.nil ?_
  refine TQ.thenN (hY3 _ _ ?_)
  refine TW.block ?_
  refine TW.loop3 (fun (i : Nat) (S : List Int) (R : List Int) => [(3, .int .i64 (i : Int)), (0, .slice A n cp)]) (fun i S R => [.own A n cp 3 1 (iL (S ++ R))]) (fun i S R => 1 ≤ i ∧ (S.length = i ∨ n ≤ i ∧ S.length = n) ∧ (S ++ R).Perm L ∧ S.Pairwise (· ≤ ·)) (fun i S R => n - i) 1 (L.take 1) (L.drop 1) (by repeat (first | exact trivial | refine ⟨rfl, ?_⟩ | refine ⟨trivial, ?_⟩)) ?_ ?_ ?_
  · exact KSub.own Pick.hd (fun i _ => by rw [List.take_append_drop]) KSub.nil
  · refine ⟨Nat.le_refl _, ?_, by rw [List.take_append_drop], ?_⟩
    · rw [List.length_take]; omega
    · cases L with
      | nil => exact List.Pairwise.nil
      | cons a L => simp
  rintro i S R ⟨hi1, hSl, hp, hso⟩ Z0 hZ0
  have hlen := hp.length_eq
  rw [List.length_append] at hlen
  refine TW.seq fun Y4 hY4 => ?_
  refine TW.seq fun Y5 hY5 => ?_
  refine TW.region ?_
  refine TL.p Pu.mv ?_
  refine TL.p Pu.mv ?_
  refine TL.p (Pu.ln Tryz.underlying24) ?_
  refine TL.p Pu.lt ?_
  refine TL.nil ?_
  refine TQ.thenN (hY5 _ _ ?_)
  refine TW.cond rfl (fun hc0 => ?_) (fun hc0 => ?_)
  · try simp only [decide_eq_true_eq, decide_eq_false_iff_not, Bool.not_eq_true', Bool.not_eq_false', Bool.and_eq_true, Bool.or_eq_true, Bool.and_eq_false_iff, Bool.or_eq_false_iff, Int.not_lt, Int.not_le] at hc0
    have hin : i < n := by omega
    have hS : S.length ≤ i ∧ i ≤ S.length := by omega
    obtain ⟨x, R, rfl⟩ : ∃ x R', R = x :: R' := by
      cases R with
      | nil => simp at hlen; omega
      | cons x R => exact ⟨x, R, rfl⟩
    refine TW.skip ?_
    refine TQ.thenN (hY4 _ _ ?_)
    refine TW.seq fun Y6 hY6 => ?_
    refine TW.block ?_
    refine TW.seq fun Y7 hY7 => ?_
    refine TW.region ?_
    refine TL.p Pu.mv ?_
    refine TL.p Pu.as ?_
    refine TL.nil ?_
    refine TQ.thenN (hY7 _ _ ?_)
    refine TW.block ?_
    refine TW.loop3 (fun (k : Nat) (P : List Int) (Q : List Int) => [(4, .int .i64 (k : Int)), (3, .int .i64 (i : Int)), (0, .slice A n cp)]) (fun k P Q => [.own A n cp 3 1 (iL (P ++ x :: (Q ++ R)))]) (fun k P Q => (P.length ≤ k ∧ k ≤ P.length) ∧ P ++ Q = S ∧ (∀ y ∈ Q, x ≤ y)) (fun k P Q => k) i S [] (by repeat (first | exact trivial | refine ⟨rfl, ?_⟩ | refine ⟨trivial, ?_⟩)) ?_ ?_ ?_
    · exact (by repeat (first | exact KSub.nil | refine KSub.cons (by repeat (first | exact Pick.hd | apply Pick.tl)) ?_))
    · exact ⟨hS, List.append_nil _, fun y hy => by cases hy⟩
    rintro k P Q ⟨hkl, hPQ, hQ⟩ Z1 hZ1
    have hPl : P.length + Q.length = S.length := by rw [← hPQ, List.length_append]
    refine TW.seq fun Y8 hY8 => ?_
    refine TW.seq fun Y9 hY9 => ?_
    refine TW.join [(25, .bool (decide (0 < (k : Int)) && decide ((P ++ x :: (Q ++ R)).getD k 0 < (P ++ x :: (Q ++ R)).getD (k - 1) 0)))] ?_ (fun hJ1 => ?_)
    · refine TQ.thenN (hY9 _ _ ?_)
      refine TW.cond rfl (fun hc1 => ?_) (fun hc1 => ?_)
      · try simp only [decide_eq_true_eq, decide_eq_false_iff_not, Bool.not_eq_true', Bool.not_eq_false', Bool.and_eq_true, Bool.or_eq_true, Bool.and_eq_false_iff, Bool.or_eq_false_iff, Int.not_lt, Int.not_le] at hc1
        have hk0 : 0 < k := by omega
        obtain ⟨P', y, rfl⟩ : ∃ P' y, P = P' ++ [y] := by
          rcases List.eq_nil_or_concat P with rfl | ⟨P', y, e⟩
          · simp at hkl; omega
          · exact ⟨P', y, by rw [e, List.concat_eq_append]⟩
        have hP'l : k = P'.length + 1 := by simp at hkl; omega
        have hlt : x < y := by
          have h2 := hc1.2
          rw [getD_mid (by simp; omega), show P' ++ [y] ++ x :: (Q ++ R) = P' ++ y :: (x :: (Q ++ R)) by simp, getD_mid (by omega)] at h2
          exact h2
        refine TW.skip ?_
        refine TQ.thenN (hY8 _ _ ?_)
        refine TW.seq fun Y10 hY10 => ?_
        refine TW.block ?_
        refine TW.expk [] (fun (_ : Unit) => ([(4, .int .i64 (k : Int)), (3, .int .i64 (i : Int)), (0, .slice A n cp)] : Fr)) (fun (_ : Unit) => [.own A n cp 3 1 (updR (updR (iL (P' ++ [y] ++ x :: (Q ++ R))) k [.int .i64 ((P' ++ [y] ++ x :: (Q ++ R)).getD (k - 1) 0)]) (k - 1) [.int .i64 ((P' ++ [y] ++ x :: (Q ++ R)).getD k 0)])]) ?_ (fun hE => ?_)
        · rintro ⟨⟩
          refine TQ.blkN ?_
          refine TQ.thenN (hY10 _ _ ?_)
          refine TW.region ?_
          refine TL.p Pu.mv ?_
          refine TL.p Pu.sb ?_
          refine TL.p Pu.as ?_
          refine TL.nil ?_
          refine TQ.thenN (hZ1 (k - 1) P' (y :: Q) _ _ ?_ ?_ ⟨(by show some (Value.int .i64 ((k : Int) - 1)) = some (Value.int .i64 ((k - 1 : Nat) : Int)); rw [show ((k - 1 : Nat) : Int) = (k : Int) - 1 by omega]), rfl, rfl, trivial⟩ ?_)
          · refine ⟨by omega, by rw [← hPQ]; simp, fun z hz => ?_⟩
            rcases List.mem_cons.1 hz with rfl | hz
            · omega
            · exact hQ z hz
          · exact (by first | omega | (simp only []; omega) | (simp; omega))
          · refine KSub.own Pick.hd (fun i hi => ?_) KSub.nil
            have e : P' ++ [y] ++ x :: (Q ++ R) = P' ++ y :: x :: (Q ++ R) := by simp
            rw [e]
            exact swap_row hP'l (by omega) i
        refine RG.tk 0 rfl Pu.mv ?_
        refine RG.tk 1 rfl Pu.mv ?_
        refine RG.tk 2 rfl Pu.mv ?_
        refine RG.tk 3 rfl Pu.mv ?_
        refine RG.tk 4 rfl Pu.sb ?_
        refine RG.tk 5 rfl Pu.mv ?_
        refine RG.tk 6 rfl Pu.mv ?_
        refine RG.tk 7 rfl Pu.sb ?_
        refine RG.tk 10 rfl Pu.mv ?_
        refine RG.tk 11 rfl Pu.mv ?_
        refine RG.a2 8 12 rfl rfl (fun X8 hX8 => ?_) (fun X12 hX12 => ?_)
        · refine TL.p (Pu.el (q := k - 1) ty_et24 (hk := by omega)) ?_
          refine TL.nil ?_
          refine TQ.nxt (hX8 _ _ (by repeat (first | exact HasL.nil | refine HasL.cons (by repeat (first | exact Pick.hd | apply Pick.tl)) ?_)) ?_)
          refine RG.a2 9 12 rfl rfl (fun X9 hX9 => ?_) (fun X12 hX12 => ?_)
          · refine TL.p (Pu.ld ty_sc3) ?_
            refine TL.nil ?_
            refine TQ.nxt (hX9 _ _ (by repeat (first | exact HasL.nil | refine HasL.cons (by repeat (first | exact Pick.hd | apply Pick.tl)) ?_)) ?_)
            refine RG.a1 12 rfl (fun X12 hX12 => ?_)
            refine TL.p (Pu.el ty_et24) ?_
            refine TL.nil ?_
            refine TQ.nxt (hX12 _ _ (by repeat (first | exact HasL.nil | refine HasL.cons (by repeat (first | exact Pick.hd | apply Pick.tl)) ?_)) ?_)
            refine RG.a1 13 rfl (fun X13 hX13 => ?_)
            refine TL.p (Pu.ld ty_sc3) ?_
            refine TL.nil ?_
            refine TQ.nxt (hX13 _ _ (by repeat (first | exact HasL.nil | refine HasL.cons (by repeat (first | exact Pick.hd | apply Pick.tl)) ?_)) ?_)
            refine RG.a1 14 rfl (fun X14 hX14 => ?_)
            refine TL.p (Pu.el ty_et24) ?_
            refine TL.nil ?_
            refine TQ.nxt (hX14 _ _ (by repeat (first | exact HasL.nil | refine HasL.cons (by repeat (first | exact Pick.hd | apply Pick.tl)) ?_)) ?_)
            refine RG.a1 15 rfl (fun X15 hX15 => ?_)
            first | refine TL.st ty_sz3 ?_ | refine TL.se ty_sz3 ?_
            refine TL.nil ?_
            refine TQ.nxt (hX15 _ _ (by repeat (first | exact HasL.nil | refine HasL.cons (by repeat (first | exact Pick.hd | apply Pick.tl)) ?_)) ?_)
            refine RG.a1 16 rfl (fun X16 hX16 => ?_)
            refine TL.p (Pu.el (q := k - 1) ty_et24 (hk := by omega)) ?_
            refine TL.nil ?_
            refine TQ.nxt (hX16 _ _ (by repeat (first | exact HasL.nil | refine HasL.cons (by repeat (first | exact Pick.hd | apply Pick.tl)) ?_)) ?_)
            refine RG.a1 17 rfl (fun X17 hX17 => ?_)
            refine TL.se ty_sz3 ?_ (hput := put_ne (by omega) rfl)
            refine TL.nil ?_
            refine TQ.nxt (hX17 _ _ (by repeat (first | exact HasL.nil | refine HasL.cons (by repeat (first | exact Pick.hd | apply Pick.tl)) ?_)) ?_)
            exact RG.nil (TQ.sub (by repeat (first | exact trivial | refine ⟨rfl, ?_⟩ | refine ⟨trivial, ?_⟩)) (by repeat (first | exact KSub.nil | refine KSub.cons (by repeat (first | exact Pick.hd | apply Pick.tl)) ?_ | exact KSub.refl _ | refine KSub.drop ?_)) (hE ⟨⟩)) (by kernel_rfl)
          · refine TL.p (Pu.el ty_et24) ?_
            refine TL.nil ?_
            refine TQ.nxt (hX12 _ _ (by repeat (first | exact HasL.nil | refine HasL.cons (by repeat (first | exact Pick.hd | apply Pick.tl)) ?_)) ?_)
            refine RG.a2 9 13 rfl rfl (fun X9 hX9 => ?_) (fun X13 hX13 => ?_)
            · refine TL.p (Pu.ld ty_sc3) ?_
              refine TL.nil ?_
              refine TQ.nxt (hX9 _ _ (by repeat (first | exact HasL.nil | refine HasL.cons (by repeat (first | exact Pick.hd | apply Pick.tl)) ?_)) ?_)
              refine RG.a1 13 rfl (fun X13 hX13 => ?_)
              refine TL.p (Pu.ld ty_sc3) ?_
              refine TL.nil ?_
              refine TQ.nxt (hX13 _ _ (by repeat (first | exact HasL.nil | refine HasL.cons (by repeat (first | exact Pick.hd | apply Pick.tl)) ?_)) ?_)
              refine RG.a1 14 rfl (fun X14 hX14 => ?_)
              refine TL.p (Pu.el ty_et24) ?_
              refine TL.nil ?_
              refine TQ.nxt (hX14 _ _ (by repeat (first | exact HasL.nil | refine HasL.cons (by repeat (first | exact Pick.hd | apply Pick.tl)) ?_)) ?_)
              refine RG.a1 15 rfl (fun X15 hX15 => ?_)
              first | refine TL.st ty_sz3 ?_ | refine TL.se ty_sz3 ?_
              refine TL.nil ?_
              refine TQ.nxt (hX15 _ _ (by repeat (first | exact HasL.nil | refine HasL.cons (by repeat (first | exact Pick.hd | apply Pick.tl)) ?_)) ?_)
              refine RG.a1 16 rfl (fun X16 hX16 => ?_)
              refine TL.p (Pu.el (q := k - 1) ty_et24 (hk := by omega)) ?_
              refine TL.nil ?_
              refine TQ.nxt (hX16 _ _ (by repeat (first | exact HasL.nil | refine HasL.cons (by repeat (first | exact Pick.hd | apply Pick.tl)) ?_)) ?_)
              refine RG.a1 17 rfl (fun X17 hX17 => ?_)
              refine TL.se ty_sz3 ?_ (hput := put_ne (by omega) rfl)
              refine TL.nil ?_
              refine TQ.nxt (hX17 _ _ (by repeat (first | exact HasL.nil | refine HasL.cons (by repeat (first | exact Pick.hd | apply Pick.tl)) ?_)) ?_)
              exact RG.nil (TQ.sub (by repeat (first | exact trivial | refine ⟨rfl, ?_⟩ | refine ⟨trivial, ?_⟩)) (by repeat (first | exact KSub.nil | refine KSub.cons (by repeat (first | exact Pick.hd | apply Pick.tl)) ?_ | exact KSub.refl _ | refine KSub.drop ?_)) (hE ⟨⟩)) (by kernel_rfl)
            · refine TL.p (Pu.ld ty_sc3) ?_
              refine TL.nil ?_
              refine TQ.nxt (hX13 _ _ (by repeat (first | exact HasL.nil | refine HasL.cons (by repeat (first | exact Pick.hd | apply Pick.tl)) ?_)) ?_)
              refine RG.a1 9 rfl (fun X9 hX9 => ?_)
              refine TL.p (Pu.ld ty_sc3) ?_
              refine TL.nil ?_
              refine TQ.nxt (hX9 _ _ (by repeat (first | exact HasL.nil | refine HasL.cons (by repeat (first | exact Pick.hd | apply Pick.tl)) ?_)) ?_)
              refine RG.a1 14 rfl (fun X14 hX14 => ?_)
              refine TL.p (Pu.el ty_et24) ?_
              refine TL.nil ?_
              refine TQ.nxt (hX14 _ _ (by repeat (first | exact HasL.nil | refine HasL.cons (by repeat (first | exact Pick.hd | apply Pick.tl)) ?_)) ?_)
              refine RG.a1 15 rfl (fun X15 hX15 => ?_)
              first | refine TL.st ty_sz3 ?_ | refine TL.se ty_sz3 ?_
              refine TL.nil ?_
              refine TQ.nxt (hX15 _ _ (by repeat (first | exact HasL.nil | refine HasL.cons (by repeat (first | exact Pick.hd | apply Pick.tl)) ?_)) ?_)
              refine RG.a1 16 rfl (fun X16 hX16 => ?_)
              refine TL.p (Pu.el (q := k - 1) ty_et24 (hk := by omega)) ?_
              refine TL.nil ?_
              refine TQ.nxt (hX16 _ _ (by repeat (first | exact HasL.nil | refine HasL.cons (by repeat (first | exact Pick.hd | apply Pick.tl)) ?_)) ?_)
              refine RG.a1 17 rfl (fun X17 hX17 => ?_)
              refine TL.se ty_sz3 ?_ (hput := put_ne (by omega) rfl)
              refine TL.nil ?_
              refine TQ.nxt (hX17 _ _ (by repeat (first | exact HasL.nil | refine HasL.cons (by repeat (first | exact Pick.hd | apply Pick.tl)) ?_)) ?_)
              exact RG.nil (TQ.sub (by repeat (first | exact trivial | refine ⟨rfl, ?_⟩ | refine ⟨trivial, ?_⟩)) (by repeat (first | exact KSub.nil | refine KSub.cons (by repeat (first | exact Pick.hd | apply Pick.tl)) ?_ | exact KSub.refl _ | refine KSub.drop ?_)) (hE ⟨⟩)) (by kernel_rfl)
        · refine TL.p (Pu.el ty_et24) ?_
          refine TL.nil ?_
          refine TQ.nxt (hX12 _ _ (by repeat (first | exact HasL.nil | refine HasL.cons (by repeat (first | exact Pick.hd | apply Pick.tl)) ?_)) ?_)
          refine RG.a2 8 13 rfl rfl (fun X8 hX8 => ?_) (fun X13 hX13 => ?_)
          · refine TL.p (Pu.el (q := k - 1) ty_et24 (hk := by omega)) ?_
            refine TL.nil ?_
            refine TQ.nxt (hX8 _ _ (by repeat (first | exact HasL.nil | refine HasL.cons (by repeat (first | exact Pick.hd | apply Pick.tl)) ?_)) ?_)
            refine RG.a2 9 13 rfl rfl (fun X9 hX9 => ?_) (fun X13 hX13 => ?_)
            · refine TL.p (Pu.ld ty_sc3) ?_
              refine TL.nil ?_
              refine TQ.nxt (hX9 _ _ (by repeat (first | exact HasL.nil | refine HasL.cons (by repeat (first | exact Pick.hd | apply Pick.tl)) ?_)) ?_)
              refine RG.a1 13 rfl (fun X13 hX13 => ?_)
              refine TL.p (Pu.ld ty_sc3) ?_
              refine TL.nil ?_
              refine TQ.nxt (hX13 _ _ (by repeat (first | exact HasL.nil | refine HasL.cons (by repeat (first | exact Pick.hd | apply Pick.tl)) ?_)) ?_)
              refine RG.a1 14 rfl (fun X14 hX14 => ?_)
              refine TL.p (Pu.el ty_et24) ?_
              refine TL.nil ?_
              refine TQ.nxt (hX14 _ _ (by repeat (first | exact HasL.nil | refine HasL.cons (by repeat (first | exact Pick.hd | apply Pick.tl)) ?_)) ?_)
              refine RG.a1 15 rfl (fun X15 hX15 => ?_)
              first | refine TL.st ty_sz3 ?_ | refine TL.se ty_sz3 ?_
              refine TL.nil ?_
              refine TQ.nxt (hX15 _ _ (by repeat (first | exact HasL.nil | refine HasL.cons (by repeat (first | exact Pick.hd | apply Pick.tl)) ?_)) ?_)
              refine RG.a1 16 rfl (fun X16 hX16 => ?_)
              refine TL.p (Pu.el (q := k - 1) ty_et24 (hk := by omega)) ?_
              refine TL.nil ?_
              refine TQ.nxt (hX16 _ _ (by repeat (first | exact HasL.nil | refine HasL.cons (by repeat (first | exact Pick.hd | apply Pick.tl)) ?_)) ?_)
              refine RG.a1 17 rfl (fun X17 hX17 => ?_)
              refine TL.se ty_sz3 ?_ (hput := put_ne (by omega) rfl)
              refine TL.nil ?_
              refine TQ.nxt (hX17 _ _ (by repeat (first | exact HasL.nil | refine HasL.cons (by repeat (first | exact Pick.hd | apply Pick.tl)) ?_)) ?_)
              exact RG.nil (TQ.sub (by repeat (first | exact trivial | refine ⟨rfl, ?_⟩ | refine ⟨trivial, ?_⟩)) (by repeat (first | exact KSub.nil | refine KSub.cons (by repeat (first | exact Pick.hd | apply Pick.tl)) ?_ | exact KSub.refl _ | refine KSub.drop ?_)) (hE ⟨⟩)) (by kernel_rfl)
            · refine TL.p (Pu.ld ty_sc3) ?_
              refine TL.nil ?_
              refine TQ.nxt (hX13 _ _ (by repeat (first | exact HasL.nil | refine HasL.cons (by repeat (first | exact Pick.hd | apply Pick.tl)) ?_)) ?_)
              refine RG.a1 9 rfl (fun X9 hX9 => ?_)
              refine TL.p (Pu.ld ty_sc3) ?_
              refine TL.nil ?_
              refine TQ.nxt (hX9 _ _ (by repeat (first | exact HasL.nil | refine HasL.cons (by repeat (first | exact Pick.hd | apply Pick.tl)) ?_)) ?_)
              refine RG.a1 14 rfl (fun X14 hX14 => ?_)
              refine TL.p (Pu.el ty_et24) ?_
              refine TL.nil ?_
              refine TQ.nxt (hX14 _ _ (by repeat (first | exact HasL.nil | refine HasL.cons (by repeat (first | exact Pick.hd | apply Pick.tl)) ?_)) ?_)
              refine RG.a1 15 rfl (fun X15 hX15 => ?_)
              first | refine TL.st ty_sz3 ?_ | refine TL.se ty_sz3 ?_
              refine TL.nil ?_
              refine TQ.nxt (hX15 _ _ (by repeat (first | exact HasL.nil | refine HasL.cons (by repeat (first | exact Pick.hd | apply Pick.tl)) ?_)) ?_)
              refine RG.a1 16 rfl (fun X16 hX16 => ?_)
              refine TL.p (Pu.el (q := k - 1) ty_et24 (hk := by omega)) ?_
              refine TL.nil ?_
              refine TQ.nxt (hX16 _ _ (by repeat (first | exact HasL.nil | refine HasL.cons (by repeat (first | exact Pick.hd | apply Pick.tl)) ?_)) ?_)
              refine RG.a1 17 rfl (fun X17 hX17 => ?_)
              refine TL.se ty_sz3 ?_ (hput := put_ne (by omega) rfl)
              refine TL.nil ?_
              refine TQ.nxt (hX17 _ _ (by repeat (first | exact HasL.nil | refine HasL.cons (by repeat (first | exact Pick.hd | apply Pick.tl)) ?_)) ?_)
              exact RG.nil (TQ.sub (by repeat (first | exact trivial | refine ⟨rfl, ?_⟩ | refine ⟨trivial, ?_⟩)) (by repeat (first | exact KSub.nil | refine KSub.cons (by repeat (first | exact Pick.hd | apply Pick.tl)) ?_ | exact KSub.refl _ | refine KSub.drop ?_)) (hE ⟨⟩)) (by kernel_rfl)
          · refine TL.p (Pu.ld ty_sc3) ?_
            refine TL.nil ?_
            refine TQ.nxt (hX13 _ _ (by repeat (first | exact HasL.nil | refine HasL.cons (by repeat (first | exact Pick.hd | apply Pick.tl)) ?_)) ?_)
            refine RG.a1 8 rfl (fun X8 hX8 => ?_)
            refine TL.p (Pu.el (q := k - 1) ty_et24 (hk := by omega)) ?_
            refine TL.nil ?_
            refine TQ.nxt (hX8 _ _ (by repeat (first | exact HasL.nil | refine HasL.cons (by repeat (first | exact Pick.hd | apply Pick.tl)) ?_)) ?_)
            refine RG.a1 9 rfl (fun X9 hX9 => ?_)
            refine TL.p (Pu.ld ty_sc3) ?_
            refine TL.nil ?_
            refine TQ.nxt (hX9 _ _ (by repeat (first | exact HasL.nil | refine HasL.cons (by repeat (first | exact Pick.hd | apply Pick.tl)) ?_)) ?_)
            refine RG.a1 14 rfl (fun X14 hX14 => ?_)
            refine TL.p (Pu.el ty_et24) ?_
            refine TL.nil ?_
            refine TQ.nxt (hX14 _ _ (by repeat (first | exact HasL.nil | refine HasL.cons (by repeat (first | exact Pick.hd | apply Pick.tl)) ?_)) ?_)
            refine RG.a1 15 rfl (fun X15 hX15 => ?_)
            first | refine TL.st ty_sz3 ?_ | refine TL.se ty_sz3 ?_
            refine TL.nil ?_
            refine TQ.nxt (hX15 _ _ (by repeat (first | exact HasL.nil | refine HasL.cons (by repeat (first | exact Pick.hd | apply Pick.tl)) ?_)) ?_)
            refine RG.a1 16 rfl (fun X16 hX16 => ?_)
            refine TL.p (Pu.el (q := k - 1) ty_et24 (hk := by omega)) ?_
            refine TL.nil ?_
            refine TQ.nxt (hX16 _ _ (by repeat (first | exact HasL.nil | refine HasL.cons (by repeat (first | exact Pick.hd | apply Pick.tl)) ?_)) ?_)
            refine RG.a1 17 rfl (fun X17 hX17 => ?_)
            refine TL.se ty_sz3 ?_ (hput := put_ne (by omega) rfl)
            refine TL.nil ?_
            refine TQ.nxt (hX17 _ _ (by repeat (first | exact HasL.nil | refine HasL.cons (by repeat (first | exact Pick.hd | apply Pick.tl)) ?_)) ?_)
            exact RG.nil (TQ.sub (by repeat (first | exact trivial | refine ⟨rfl, ?_⟩ | refine ⟨trivial, ?_⟩)) (by repeat (first | exact KSub.nil | refine KSub.cons (by repeat (first | exact Pick.hd | apply Pick.tl)) ?_ | exact KSub.refl _ | refine KSub.drop ?_)) (hE ⟨⟩)) (by kernel_rfl)
      · try simp only [decide_eq_true_eq, decide_eq_false_iff_not, Bool.not_eq_true', Bool.not_eq_false', Bool.and_eq_true, Bool.or_eq_true, Bool.and_eq_false_iff, Bool.or_eq_false_iff, Int.not_lt, Int.not_le] at hc1
        have hdone : (P ++ x :: Q).Pairwise (· ≤ ·) := by
          refine mono_ins (by rw [hPQ]; exact hso) hQ ?_
          rcases hc1 with h2 | h2
          · have : P = [] := List.length_eq_zero_iff.1 (by omega)
            subst this
            intro y hy; cases hy
          · by_cases hk0 : k = 0
            · have : P = [] := List.length_eq_zero_iff.1 (by omega)
              subst this
              intro y hy; cases hy
            · have e1 : (P ++ x :: (Q ++ R)).getD k 0 = x := getD_mid (by omega)
              have e2 : (P ++ x :: (Q ++ R)).getD (k - 1) 0 = P.getD (k - 1) 0 := by rw [getD_app, if_pos (by omega)]
              rw [e1, e2] at h2
              exact le_last (k := k - 1) (by rw [hPQ]; exact hso) (by omega) h2
        refine TW.exit ?_
        refine TQ.thenX ?_
        refine TQ.thenX ?_
        refine TQ.blkX ?_
        refine TQ.blkN ?_
        refine TQ.thenN (hY6 _ _ ?_)
        refine TW.region ?_
        refine TL.p Pu.mv ?_
        refine TL.p Pu.ad ?_
        refine TL.p Pu.as ?_
        refine TL.nil ?_
        refine TQ.thenN (hZ0 (i + 1) (P ++ x :: Q) R _ _ ?_ ?_ (by repeat (first | exact trivial | refine ⟨rfl, ?_⟩ | refine ⟨trivial, ?_⟩)) ?_)
        · refine ⟨by omega, .inl ?_, ?_, hdone⟩
          · rw [List.length_append, List.length_cons]; omega
          · refine List.Perm.trans ?_ hp
            rw [← hPQ, List.append_assoc, List.append_assoc]
            refine List.Perm.append_left _ ?_
            exact (List.perm_middle (l₁ := Q) (l₂ := R) (a := x)).symm
        · exact (by first | omega | (simp only []; omega) | (simp; omega))
        · refine KSub.own Pick.hd (fun i hi => ?_) KSub.nil
          rw [List.append_assoc]
          rfl
    refine TW.dw 14 ?_
    refine RK.tk Pu.mv ?_
    refine RK.tk Pu.gt ?_
    refine RK.tk Pu.mv ?_
    refine RK.guard (t := 14) rfl (fun hg1 => ?_) (fun hg1 => ?_)
    · try simp only [decide_eq_true_eq, decide_eq_false_iff_not, Bool.not_eq_true', Bool.not_eq_false', Int.natCast_pos] at hg1
      refine RK.tk Pu.mv ?_
      refine RK.tk Pu.mv ?_
      refine RK.tk (Pu.el ty_et24 (hk := Int.toNat_natCast _)) ?_
      refine RK.tk (Pu.ld ty_sc3) ?_
      refine RK.tk Pu.mv ?_
      refine RK.tk Pu.mv ?_
      refine RK.tk Pu.sb ?_
      refine RK.tk (Pu.el (q := k - 1) ty_et24 (hk := by omega)) ?_
      refine RK.tk (Pu.ld ty_sc3) ?_
      refine RK.tk Pu.lt ?_
      refine RK.tk Pu.kt ?_
      refine RK.ch [] ?_ trivial
      refine WK.n ?_
      refine TL.nil ?_
      exact TQ.sub (by repeat (first | exact trivial | refine ⟨rfl, ?_⟩ | refine ⟨trivial, ?_⟩ | refine ⟨(by show some (Value.bool _) = some (Value.bool _); simp [hg1]), ?_⟩)) (by repeat (first | exact KSub.nil | refine KSub.cons (by repeat (first | exact Pick.hd | apply Pick.tl)) ?_)) hJ1
    · try simp only [decide_eq_true_eq, decide_eq_false_iff_not, Bool.not_eq_true', Bool.not_eq_false', Int.natCast_pos] at hg1
      refine RK.s ?_
      refine RK.s ?_
      refine RK.s ?_
      refine RK.s ?_
      refine RK.s ?_
      refine RK.s ?_
      refine RK.s ?_
      refine RK.s ?_
      refine RK.s ?_
      refine RK.s ?_
      refine RK.tk Pu.kf ?_
      refine RK.ch [] ?_ trivial
      refine WK.n ?_
      refine TL.nil ?_
      exact TQ.sub (by repeat (first | exact trivial | refine ⟨rfl, ?_⟩ | refine ⟨trivial, ?_⟩ | refine ⟨(by show some (Value.bool _) = some (Value.bool _); simp [hg1]), ?_⟩)) (by repeat (first | exact KSub.nil | refine KSub.cons (by repeat (first | exact Pick.hd | apply Pick.tl)) ?_)) hJ1
  · try simp only [decide_eq_true_eq, decide_eq_false_iff_not, Bool.not_eq_true', Bool.not_eq_false', Bool.and_eq_true, Bool.or_eq_true, Bool.and_eq_false_iff, Bool.or_eq_false_iff, Int.not_lt, Int.not_le] at hc0
    have hS : S.length ≤ n ∧ n ≤ S.length := by omega
    refine TW.exit ?_
    refine TQ.thenX ?_
    refine TQ.thenX ?_
    refine TQ.blkX ?_
    refine TQ.thenN (hY2 _ _ ?_)
    refine TW.seq fun Y11 hY11 => ?_
    refine TW.region ?_
    refine TL.p Pu.mv ?_
    refine TL.p Pu.as ?_
    refine TL.nil ?_
    refine TQ.thenN (hY11 _ _ ?_)
    refine TW.ret ?_
    refine TQ.ret Tryz.results58 rfl ((.tmp rfl .nil)) ?_
    have hR0 : R = [] := List.length_eq_zero_iff.1 (by omega)
    subst hR0
    rw [List.append_nil] at hp
    have hres : srt L = S := srt_uniq hp.symm hso
    exact fun w hw => ⟨(), rfl, hw.sub (KSub.own Pick.hd (fun i _ => by rw [hres, List.append_nil]) KSub.nil)⟩
end Go.Proofs.YtjephihlkjpohaaGreatDoor
