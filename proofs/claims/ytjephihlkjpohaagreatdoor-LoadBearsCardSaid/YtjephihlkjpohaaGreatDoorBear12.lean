/-
  Part 12 of the proof of loadBears_holds: declarations of several texts, in build order. No condition on a program.
-/
import Derived.Test.YtjephihlkjpohaaGreatDoorBear11
import Derived.Test.YtjephihlkjpohaaGreatDoorBear04
import Derived.Test.YtjephihlkjpohaaGreatDoorBear10
import Derived.Test.YtjephihlkjpohaaGreatDoorBear06
namespace Go.Proofs.YtjephihlkjpohaaGreatDoor
set_option linter.all false
set_option linter.unusedVariables false
set_option linter.unusedSimpArgs false
open Go.RowKit
set_option maxRecDepth 100000 in
set_option maxHeartbeats 4000000 in
theorem alive_any (w : World) (hG : None0 w) : Calls Tryz.prog 21 #[] w (Ret w (.bool true)) := by
  refine K_enter (S := []) (K := []) Tryz.func21 rfl Tryz.ntmps21 rfl (Sat.start _) ?_
  refine TW.seq fun Y1 hY1 => ?_
  refine TW.region ?_
  refine TL.p Pu.as ?_
  refine TL.nil ?_
  refine TQ.thenN (hY1 _ _ ?_)
  refine TW.seq fun Y2 hY2 => ?_
  refine TW.region ?_
  refine TL.cr rfl (enters Tryz.func41 rfl rfl) (fun w hw => by
      exact salt_any _ _) ?_
  refine TL.cr rfl (enters Tryz.func23 rfl rfl) (fun w hw => by
      exact restSalt _ (hG.sat hw (by simp))) ?_
  refine TL.p Pu.mv ?_
  refine TL.p Pu.ex ?_
  refine TL.p Pu.ex ?_
  refine TL.p Pu.ex ?_
  refine TL.p Pu.ex ?_
  refine TL.m (Mk.al ty_zr43) ?_
  intro b1
  refine TL.m (Mk.al ty_zr43) ?_
  intro b2
  first | refine TL.st ty_sz43 ?_ | refine TL.se ty_sz43 ?_
  first | refine TL.st ty_sz43 ?_ | refine TL.se ty_sz43 ?_
  refine TL.p Pu.as ?_
  refine TL.p Pu.as ?_
  refine TL.nil ?_
  refine TQ.thenN (hY2 _ _ ?_)
  refine TW.seq fun Y3 hY3 => ?_
  refine TW.region ?_
  refine TL.cr rfl (enters Tryz.func42 rfl rfl) (fun w hw => by
      exact water_any _ _) ?_
  refine TL.cr rfl (enters Tryz.func23 rfl rfl) (fun w hw => by
      exact restWater _ (hG.sat hw (by simp))) ?_
  refine TL.p Pu.mv ?_
  refine TL.p Pu.ex ?_
  refine TL.p Pu.ex ?_
  refine TL.p Pu.ex ?_
  refine TL.p Pu.ex ?_
  refine TL.m (Mk.al ty_zr43) ?_
  intro b3
  refine TL.m (Mk.al ty_zr43) ?_
  intro b4
  first | refine TL.st ty_sz43 ?_ | refine TL.se ty_sz43 ?_
  first | refine TL.st ty_sz43 ?_ | refine TL.se ty_sz43 ?_
  refine TL.p Pu.as ?_
  refine TL.p Pu.as ?_
  refine TL.nil ?_
  refine TQ.thenN (hY3 _ _ ?_)
  refine TW.seq fun Y4 hY4 => ?_
  refine TW.region ?_
  refine TL.call (M := []) rfl (enters Tryz.func43 rfl rfl) (List.Perm.refl _) rfl (fun w hw => by
      exact bales_any _) ?_
  rintro ⟨B1, e1⟩
  refine TL.m Mk.bl ?_
  intro b5
  refine TL.m Mk.bl ?_
  intro b6
  refine TL.cr rfl (enters Tryz.func44 rfl rfl) (fun w hw => by
      exact pair_any _ _ _ _ _ _ _) ?_
  refine TL.cr rfl (enters Tryz.func28 rfl rfl) (fun w hw => by
      exact balEx (hG.sat hw (by simp)) (OwnR.rdr (hw.holds (.own B1 4 e1 45 11 (fun k => packL (balP k))) (by simp))) (RdR.blk (hw.holds (.blk b5 3 [.int .i64 0, .int .i64 1]) (by simp)) rfl (fun _ _ => rfl)) (RdR.blk (hw.holds (.blk b6 3 [.int .i64 3]) (by simp)) rfl (fun _ _ => rfl))) ?_
  refine TL.p Pu.mv ?_
  refine TL.p Pu.ex ?_
  refine TL.p Pu.ex ?_
  refine TL.p Pu.as ?_
  refine TL.p Pu.as ?_
  refine TL.nil ?_
  refine TQ.thenN (hY4 _ _ ?_)
  refine TW.seq fun Y5 hY5 => ?_
  refine TW.region ?_
  refine TL.call (M := []) rfl (enters Tryz.func43 rfl rfl) (List.Perm.refl _) rfl (fun w hw => by
      exact bales_any _) ?_
  rintro ⟨B1, e1⟩
  refine TL.m Mk.bl ?_
  intro b7
  refine TL.cr rfl (enters Tryz.func44 rfl rfl) (fun w hw => by
      exact pair_any _ _ _ _ _ _ _) ?_
  refine TL.call (M := []) rfl (enters Tryz.func19 rfl rfl) (List.Perm.refl _) rfl (fun w hw => by
      exact setEx (hG.sat hw (by simp)) (OwnR.rdr (hw.holds (.own B1 4 e1 45 11 (fun k => packL (balP k))) (by simp))) (RdR.blk (hw.holds (.blk b7 3 [.int .i64 0, .int .i64 1, .int .i64 2, .int .i64 3]) (by simp)) rfl (fun _ _ => rfl))) ?_
  rintro ⟨Q1, q1⟩
  refine TL.p Pu.mv ?_
  refine TL.p Pu.ex ?_
  refine TL.p Pu.ex ?_
  refine TL.p Pu.as ?_
  refine TL.p Pu.as ?_
  refine TL.nil ?_
  refine TQ.thenN (hY5 _ _ ?_)
  refine TW.seq fun Y6 hY6 => ?_
  refine TW.region ?_
  refine TL.call (M := []) rfl (enters Tryz.func43 rfl rfl) (List.Perm.refl _) rfl (fun w hw => by
      exact bales_any _) ?_
  rintro ⟨B1, e1⟩
  refine TL.m Mk.bl ?_
  intro b8
  refine TL.m Mk.bl ?_
  intro b9
  refine TL.cr rfl (enters Tryz.func44 rfl rfl) (fun w hw => by
      exact pair_any _ _ _ _ _ _ _) ?_
  refine TL.m Mk.bl ?_
  intro b10
  refine TL.m Mk.bl ?_
  intro b11
  refine TL.p Pu.bd ?_
  refine TL.m Mk.bl ?_
  intro b12
  refine TL.call (M := []) rfl (enters Tryz.func15 rfl rfl) (List.Perm.refl _) rfl (fun w hw => by
      exact tradeEx (hG.sat hw (by simp)) (OwnR.rdr (hw.holds (.own B1 4 e1 45 11 (fun k => packL (balP k))) (by simp))) (RdR.blk (hw.holds (.blk b10 36 [.slice (some ⟨b8, 0, none⟩) 2 2, .slice (some ⟨b9, 0, none⟩) 1 1, .slice none 0 0]) (by simp)) rfl (fun _ _ => rfl)) (RdR.blk (hw.holds (.blk b8 3 [.int .i64 0, .int .i64 1]) (by simp)) rfl (fun _ _ => rfl)) (RdR.blk (hw.holds (.blk b9 3 [.int .i64 2]) (by simp)) rfl (fun _ _ => rfl)) (RdR.blk (hw.holds (.blk b11 3 [.int .i64 1]) (by simp)) rfl (fun _ _ => rfl)) (RdR.blk (hw.holds (.blk b12 66 [.int .i64 3, .int .i64 0, .int .u8 0]) (by simp)) rfl (fun _ _ => rfl))) ?_
  rintro ⟨⟨⟨An, cn⟩, X, D⟩, ⟨Am, cm⟩⟩
  refine TL.p Pu.mv ?_
  refine TL.p Pu.ex ?_
  refine TL.p Pu.ex ?_
  refine TL.p Pu.ex ?_
  refine TL.p Pu.as ?_
  refine TL.p Pu.as ?_
  refine TL.p Pu.as ?_
  refine TL.nil ?_
  refine TQ.thenN (hY6 _ _ ?_)
  refine TW.seq fun Y7 hY7 => ?_
  refine TW.region ?_
  refine TL.call (M := []) rfl (enters Tryz.func43 rfl rfl) (List.Perm.refl _) rfl (fun w hw => by
      exact bales_any _) ?_
  rintro ⟨B1, e1⟩
  refine TL.m Mk.bl ?_
  intro b13
  refine TL.m Mk.bl ?_
  intro b14
  refine TL.call (M := []) rfl (enters Tryz.func37 rfl rfl) (List.Perm.refl _) rfl (fun w hw => by
      exact stowEx (hG.sat hw (by simp)) (OwnR.rdr (hw.holds (.own B1 4 e1 45 11 (fun k => packL (balP k))) (by simp))) (RdR.blk (hw.holds (.blk b13 3 [.int .i64 80]) (by simp)) rfl (fun _ _ => rfl)) (RdR.blk (hw.holds (.blk b14 3 [.int .i64 1, .int .i64 2, .int .i64 3, .int .i64 4]) (by simp)) rfl (fun _ _ => rfl))) ?_
  rintro ⟨⟨Sn, sn⟩, Y, E⟩
  refine TL.p Pu.mv ?_
  refine TL.p Pu.ex ?_
  refine TL.p Pu.ex ?_
  refine TL.p Pu.ex ?_
  refine TL.p Pu.as ?_
  refine TL.p Pu.as ?_
  refine TL.p Pu.as ?_
  refine TL.nil ?_
  refine TQ.thenN (hY7 _ _ ?_)
  refine TW.seq fun Y8 hY8 => ?_
  refine TW.region ?_
  refine TL.cr rfl (enters Tryz.func61 rfl rfl) (fun w hw => by
      exact strong_any _) ?_
  refine TL.p Pu.mv ?_
  refine TL.p Pu.ex ?_
  refine TL.p Pu.ex ?_
  refine TL.m (Mk.al ty_zr79) ?_
  intro b15
  refine TL.m (Mk.al ty_zr81) ?_
  intro b16
  first | refine TL.st ty_sz79 ?_ | refine TL.se ty_sz79 ?_
  first | refine TL.st ty_sz81 ?_ | refine TL.se ty_sz81 ?_
  refine TL.nil ?_
  refine TQ.thenN (hY8 _ _ ?_)
  refine TW.seq fun Y9 hY9 => ?_
  as_aux_lemma =>
    refine TW.expl (fun (e1 : Nat) => ([(22, .int .i64 0), (21, .int .u8 2), (18, .int .i64 0), (17, .int .i64 7), (16, .slice Sn 1 sn), (15, .int .i64 0), (14, .slice Am 1 cm), (13, .slice An 1 cn), (12, .int .i64 0), (11, .slice Q1 2 q1), (10, .int .i64 0), (9, .int .u8 2), (8, .int .i64 0), (6, .pointer (some ⟨b4, 0, none⟩)), (5, .pointer (some ⟨b3, 0, none⟩)), (4, .int .i64 0), (3, .int .u8 1), (2, .pointer (some ⟨b2, 0, none⟩)), (1, .pointer (some ⟨b1, 0, none⟩))] : Fr)) (fun (e1 : Nat) => [.blk b1 43 [.int .i64 36000, .int .i64 41000], .blk b2 43 [.int .i64 0, .int .i64 4100], .blk b3 43 [.int .i64 0, .int .i64 2500], .blk b4 43 [.int .i64 27500, .int .i64 30000], .own Q1 2 q1 3 1 (iL [0, 3]), .own Am 1 cm 3 1 (iL [0]), .own An 1 cn 36 3 (fun _ => tieL X (prL' [3] [0, 2]) D), .own (X 1) 2 (D 1) 3 1 (iL [0, 2]), .own (X 0) 1 (D 0) 3 1 (iL [3]), .own Sn 1 sn 36 3 (fun _ => tieL (prA (Y 0) (Y 1)) (prL' [2] [3]) (prC (E 0) (E 1))), .own (Y 1) 1 (E 1) 3 1 (iL [3]), .own (Y 0) 1 (E 0) 3 1 (iL [2])]) Drop.done ?_ (fun hE => ?_)
    · rintro e1
      refine TQ.thenN (hY9 _ _ ?_)
      refine TW.seq fun Y10 hY10 => ?_
      as_aux_lemma =>
        refine TW.ex0 Drop.done ?_
        refine RG.tk 0 rfl Pu.mv ?_
        refine RG.tk 1 rfl Pu.eq ?_
        refine RG.a1 2 rfl (fun X2 hX2 => ?_)
        refine TL.p Pu.mv ?_
        refine TL.lit (t := 89) (b' := true) rfl ((by decide)) ?_
        refine TL.nil ?_
        refine TQ.nxt (hX2 _ _ (by repeat (first | exact HasL.nil | refine HasL.cons (by repeat (first | exact Pick.hd | apply Pick.tl)) ?_)) ?_)
        refine RG.tk 3 rfl (Pu.lds ty_ag43) ?_
        refine RG.a1 4 rfl (fun X4 hX4 => ?_)
        refine TL.cr rfl (enters Tryz.func31 rfl rfl) (fun w hw => by
            exact span_any _ _ _) ?_
        refine TL.nil ?_
        refine TQ.nxt (hX4 _ _ (by repeat (first | exact HasL.nil | refine HasL.cons (by repeat (first | exact Pick.hd | apply Pick.tl)) ?_)) ?_)
        refine RG.tk 5 rfl (Pu.q2 ty_q2_43) ?_
        refine RG.tk 6 rfl Pu.kt ?_
        refine RG.a1 7 rfl (fun X7 hX7 => ?_)
        refine TL.p Pu.mv ?_
        refine TL.lit (t := 94) (b' := true) rfl ((by decide)) ?_
        refine TL.nil ?_
        refine TQ.nxt (hX7 _ _ (by repeat (first | exact HasL.nil | refine HasL.cons (by repeat (first | exact Pick.hd | apply Pick.tl)) ?_)) ?_)
        refine RG.tk 8 rfl (Pu.lds ty_ag43) ?_
        refine RG.a1 9 rfl (fun X9 hX9 => ?_)
        refine TL.cr rfl (enters Tryz.func31 rfl rfl) (fun w hw => by
            exact span_any _ _ _) ?_
        refine TL.nil ?_
        refine TQ.nxt (hX9 _ _ (by repeat (first | exact HasL.nil | refine HasL.cons (by repeat (first | exact Pick.hd | apply Pick.tl)) ?_)) ?_)
        refine RG.tk 10 rfl (Pu.q2 ty_q2_43) ?_
        refine RG.tk 11 rfl Pu.kt ?_
        refine RG.a1 12 rfl (fun X12 hX12 => ?_)
        refine TL.p Pu.mv ?_
        refine TL.lit (t := 99) (b' := true) rfl ((by decide)) ?_
        refine TL.nil ?_
        refine TQ.nxt (hX12 _ _ (by repeat (first | exact HasL.nil | refine HasL.cons (by repeat (first | exact Pick.hd | apply Pick.tl)) ?_)) ?_)
        refine RG.tk 13 rfl Pu.mv ?_
        refine RG.tk 14 rfl Pu.eq ?_
        refine RG.tk 15 rfl Pu.kt ?_
        refine RG.a1 16 rfl (fun X16 hX16 => ?_)
        refine TL.p Pu.mv ?_
        refine TL.lit (t := 103) (b' := true) rfl ((by decide)) ?_
        refine TL.nil ?_
        refine TQ.nxt (hX16 _ _ (by repeat (first | exact HasL.nil | refine HasL.cons (by repeat (first | exact Pick.hd | apply Pick.tl)) ?_)) ?_)
        refine RG.tk 17 rfl Pu.mv ?_
        refine RG.tk 18 rfl Pu.eq ?_
        refine RG.tk 19 rfl Pu.kt ?_
        refine RG.a1 20 rfl (fun X20 hX20 => ?_)
        refine TL.p Pu.mv ?_
        refine TL.lit (t := 107) (b' := true) rfl ((by decide)) ?_
        refine TL.nil ?_
        refine TQ.nxt (hX20 _ _ (by repeat (first | exact HasL.nil | refine HasL.cons (by repeat (first | exact Pick.hd | apply Pick.tl)) ?_)) ?_)
        refine RG.tk 21 rfl (Pu.lds ty_ag43) ?_
        refine RG.a1 22 rfl (fun X22 hX22 => ?_)
        refine TL.cr rfl (enters Tryz.func31 rfl rfl) (fun w hw => by
            exact span_any _ _ _) ?_
        refine TL.nil ?_
        refine TQ.nxt (hX22 _ _ (by repeat (first | exact HasL.nil | refine HasL.cons (by repeat (first | exact Pick.hd | apply Pick.tl)) ?_)) ?_)
        refine RG.tk 23 rfl (Pu.q2 ty_q2_43) ?_
        refine RG.tk 24 rfl Pu.kt ?_
        refine RG.a1 25 rfl (fun X25 hX25 => ?_)
        refine TL.p Pu.mv ?_
        refine TL.lit (t := 112) (b' := true) rfl ((by decide)) ?_
        refine TL.nil ?_
        refine TQ.nxt (hX25 _ _ (by repeat (first | exact HasL.nil | refine HasL.cons (by repeat (first | exact Pick.hd | apply Pick.tl)) ?_)) ?_)
        refine RG.tk 26 rfl (Pu.lds ty_ag43) ?_
        refine RG.a1 27 rfl (fun X27 hX27 => ?_)
        refine TL.cr rfl (enters Tryz.func31 rfl rfl) (fun w hw => by
            exact span_any _ _ _) ?_
        refine TL.nil ?_
        refine TQ.nxt (hX27 _ _ (by repeat (first | exact HasL.nil | refine HasL.cons (by repeat (first | exact Pick.hd | apply Pick.tl)) ?_)) ?_)
        refine RG.tk 28 rfl (Pu.q2 ty_q2_43) ?_
        refine RG.tk 29 rfl Pu.kt ?_
        refine RG.a1 30 rfl (fun X30 hX30 => ?_)
        refine TL.p Pu.mv ?_
        refine TL.lit (t := 117) (b' := true) rfl ((by decide)) ?_
        refine TL.nil ?_
        refine TQ.nxt (hX30 _ _ (by repeat (first | exact HasL.nil | refine HasL.cons (by repeat (first | exact Pick.hd | apply Pick.tl)) ?_)) ?_)
        refine RG.tk 31 rfl Pu.mv ?_
        refine RG.tk 32 rfl Pu.eq ?_
        refine RG.tk 33 rfl Pu.kt ?_
        refine RG.a1 34 rfl (fun X34 hX34 => ?_)
        refine TL.p Pu.mv ?_
        refine TL.lit (t := 121) (b' := true) rfl ((by decide)) ?_
        refine TL.nil ?_
        refine TQ.nxt (hX34 _ _ (by repeat (first | exact HasL.nil | refine HasL.cons (by repeat (first | exact Pick.hd | apply Pick.tl)) ?_)) ?_)
        refine RG.tk 35 rfl Pu.mv ?_
        refine RG.tk 36 rfl Pu.eq ?_
        refine RG.tk 37 rfl Pu.kt ?_
        refine RG.a1 38 rfl (fun X38 hX38 => ?_)
        refine TL.p Pu.mv ?_
        refine TL.lit (t := 125) (b' := true) rfl ((by decide)) ?_
        refine TL.nil ?_
        refine TQ.nxt (hX38 _ _ (by repeat (first | exact HasL.nil | refine HasL.cons (by repeat (first | exact Pick.hd | apply Pick.tl)) ?_)) ?_)
        refine RG.tk 39 rfl Pu.mv ?_
        refine RG.tk 40 rfl Pu.eq ?_
        refine RG.tk 41 rfl Pu.kt ?_
        refine RG.a1 42 rfl (fun X42 hX42 => ?_)
        refine TL.p Pu.mv ?_
        refine TL.lit (t := 129) (b' := true) rfl ((by decide)) ?_
        refine TL.nil ?_
        refine TQ.nxt (hX42 _ _ (by repeat (first | exact HasL.nil | refine HasL.cons (by repeat (first | exact Pick.hd | apply Pick.tl)) ?_)) ?_)
        refine RG.tk 43 rfl Pu.mv ?_
        refine RG.a1 44 rfl (fun X44 hX44 => ?_)
        refine TL.gm Mk.bl ?_
        intro b17
        refine TL.nil ?_
        refine TQ.nxt (hX44 _ _ (by repeat (first | exact HasL.nil | refine HasL.cons (by repeat (first | exact Pick.hd | apply Pick.tl)) ?_)) ?_)
        refine RG.a1 45 rfl (fun X45 hX45 => ?_)
        refine TL.cr rfl (enters Tryz.func18 rfl rfl) (fun w hw => by
            exact sameIEx (L := [0, 3]) (by decide) rfl (OwnR.rdr (hw.holds (.own Q1 2 q1 3 1 (iL [0, 3])) (by simp))) (RdR.blk (hw.holds (.blk _ 3 [.int .i64 0, .int .i64 3]) (by simp)) rfl (fun _ _ => rfl))) ?_
        refine TL.nil ?_
        refine TQ.nxt (hX45 _ _ (by repeat (first | exact HasL.nil | refine HasL.cons (by repeat (first | exact Pick.hd | apply Pick.tl)) ?_)) ?_)
        refine RG.tk 46 rfl Pu.kt ?_
        refine RG.a1 47 rfl (fun X47 hX47 => ?_)
        refine TL.p Pu.mv ?_
        refine TL.lit (t := 134) (b' := true) rfl ((by decide)) ?_
        refine TL.nil ?_
        refine TQ.nxt (hX47 _ _ (by repeat (first | exact HasL.nil | refine HasL.cons (by repeat (first | exact Pick.hd | apply Pick.tl)) ?_)) ?_)
        refine RG.tk 48 rfl Pu.mv ?_
        refine RG.tk 49 rfl Pu.eq ?_
        refine RG.tk 50 rfl Pu.kt ?_
        refine RG.a1 51 rfl (fun X51 hX51 => ?_)
        refine TL.p Pu.mv ?_
        refine TL.lit (t := 138) (b' := true) rfl ((by decide)) ?_
        refine TL.nil ?_
        refine TQ.nxt (hX51 _ _ (by repeat (first | exact HasL.nil | refine HasL.cons (by repeat (first | exact Pick.hd | apply Pick.tl)) ?_)) ?_)
        refine RG.tk 52 rfl Pu.mv ?_
        refine RG.a2 53 54 rfl rfl (fun X53 hX53 => ?_) (fun X54 hX54 => ?_)
        · as_aux_lemma =>
            refine TL.gm Mk.bl ?_
            intro b18
            refine TL.nil ?_
            refine TQ.nxt (hX53 _ _ (by repeat (first | exact HasL.nil | refine HasL.cons (by repeat (first | exact Pick.hd | apply Pick.tl)) ?_)) ?_)
            refine RG.a1 54 rfl (fun X54 hX54 => ?_)
            refine TL.gm Mk.bl ?_
            intro b19
            refine TL.nil ?_
            refine TQ.nxt (hX54 _ _ (by repeat (first | exact HasL.nil | refine HasL.cons (by repeat (first | exact Pick.hd | apply Pick.tl)) ?_)) ?_)
            refine RG.a1 55 rfl (fun X55 hX55 => ?_)
            refine TL.cr rfl (enters Tryz.func44 rfl rfl) (fun w hw => by
                exact pair_any _ _ _ _ _ _ _) ?_
            refine TL.nil ?_
            refine TQ.nxt (hX55 _ _ (by repeat (first | exact HasL.nil | refine HasL.cons (by repeat (first | exact Pick.hd | apply Pick.tl)) ?_)) ?_)
            refine RG.a1 56 rfl (fun X56 hX56 => ?_)
            refine TL.gm Mk.bl ?_
            intro b20
            refine TL.nil ?_
            refine TQ.nxt (hX56 _ _ (by repeat (first | exact HasL.nil | refine HasL.cons (by repeat (first | exact Pick.hd | apply Pick.tl)) ?_)) ?_)
            refine RG.a1 57 rfl (fun X57 hX57 => ?_)
            refine TL.cr rfl (enters Tryz.func17 rfl rfl) (fun w hw => by
                exact sameEx2 (a := X) (c := D) (L0 := [3]) (L1 := [0, 2]) (by decide) (OwnR.rdr (hw.holds (.own An 1 cn 36 3 (fun _ => tieL X (prL' [3] [0, 2]) D)) (by simp))) (hw.holds _ (List.mem_cons_self ..)) (OwnR.rdr (hw.holds (.own (X 0) 1 (D 0) 3 1 (iL [3])) (by simp))) (OwnR.rdr (hw.holds (.own (X 1) 2 (D 1) 3 1 (iL [0, 2])) (by simp))) (RdR.blk (hw.holds (.blk _ 3 [.int .i64 3]) (by simp)) rfl (fun _ _ => rfl)) (RdR.blk (hw.holds (.blk _ 3 [.int .i64 0, .int .i64 2]) (by simp)) rfl (fun _ _ => rfl))) ?_
            refine TL.nil ?_
            refine TQ.nxt (hX57 _ _ (by repeat (first | exact HasL.nil | refine HasL.cons (by repeat (first | exact Pick.hd | apply Pick.tl)) ?_)) ?_)
            refine RG.tk 58 rfl Pu.kt ?_
            refine RG.a1 59 rfl (fun X59 hX59 => ?_)
            refine TL.p Pu.mv ?_
            refine TL.lit (t := 146) (b' := true) rfl ((by decide)) ?_
            refine TL.nil ?_
            refine TQ.nxt (hX59 _ _ (by repeat (first | exact HasL.nil | refine HasL.cons (by repeat (first | exact Pick.hd | apply Pick.tl)) ?_)) ?_)
            refine RG.tk 60 rfl Pu.mv ?_
            refine RG.a1 61 rfl (fun X61 hX61 => ?_)
            refine TL.gm Mk.bl ?_
            intro b21
            refine TL.nil ?_
            refine TQ.nxt (hX61 _ _ (by repeat (first | exact HasL.nil | refine HasL.cons (by repeat (first | exact Pick.hd | apply Pick.tl)) ?_)) ?_)
            refine RG.a1 62 rfl (fun X62 hX62 => ?_)
            refine TL.cr rfl (enters Tryz.func18 rfl rfl) (fun w hw => by
                exact sameIEx (L := [0]) (by decide) rfl (OwnR.rdr (hw.holds (.own Am 1 cm 3 1 (iL [0])) (by simp))) (RdR.blk (hw.holds (.blk _ 3 [.int .i64 0]) (by simp)) rfl (fun _ _ => rfl))) ?_
            refine TL.nil ?_
            refine TQ.nxt (hX62 _ _ (by repeat (first | exact HasL.nil | refine HasL.cons (by repeat (first | exact Pick.hd | apply Pick.tl)) ?_)) ?_)
            refine RG.tk 63 rfl Pu.kt ?_
            refine RG.a1 64 rfl (fun X64 hX64 => ?_)
            refine TL.p Pu.mv ?_
            refine TL.lit (t := 151) (b' := true) rfl ((by decide)) ?_
            refine TL.nil ?_
            refine TQ.nxt (hX64 _ _ (by repeat (first | exact HasL.nil | refine HasL.cons (by repeat (first | exact Pick.hd | apply Pick.tl)) ?_)) ?_)
            refine RG.tk 65 rfl Pu.mv ?_
            refine RG.tk 66 rfl Pu.eq ?_
            refine RG.tk 67 rfl Pu.kt ?_
            refine RG.a1 68 rfl (fun X68 hX68 => ?_)
            refine TL.p Pu.mv ?_
            refine TL.lit (t := 155) (b' := true) rfl ((by decide)) ?_
            refine TL.nil ?_
            refine TQ.nxt (hX68 _ _ (by repeat (first | exact HasL.nil | refine HasL.cons (by repeat (first | exact Pick.hd | apply Pick.tl)) ?_)) ?_)
            refine RG.tk 69 rfl Pu.mv ?_
            refine RG.tk 70 rfl Pu.eq ?_
            refine RG.tk 71 rfl Pu.kt ?_
            refine RG.a1 72 rfl (fun X72 hX72 => ?_)
            refine TL.p Pu.mv ?_
            refine TL.lit (t := 159) (b' := true) rfl ((by decide)) ?_
            refine TL.nil ?_
            refine TQ.nxt (hX72 _ _ (by repeat (first | exact HasL.nil | refine HasL.cons (by repeat (first | exact Pick.hd | apply Pick.tl)) ?_)) ?_)
            refine RG.tk 73 rfl Pu.mv ?_
            refine RG.a2 74 75 rfl rfl (fun X74 hX74 => ?_) (fun X75 hX75 => ?_)
            · as_aux_lemma =>
                refine TL.gm Mk.bl ?_
                intro b22
                refine TL.nil ?_
                refine TQ.nxt (hX74 _ _ (by repeat (first | exact HasL.nil | refine HasL.cons (by repeat (first | exact Pick.hd | apply Pick.tl)) ?_)) ?_)
                refine RG.a1 75 rfl (fun X75 hX75 => ?_)
                refine TL.gm Mk.bl ?_
                intro b23
                refine TL.nil ?_
                refine TQ.nxt (hX75 _ _ (by repeat (first | exact HasL.nil | refine HasL.cons (by repeat (first | exact Pick.hd | apply Pick.tl)) ?_)) ?_)
                refine RG.a1 76 rfl (fun X76 hX76 => ?_)
                refine TL.cr rfl (enters Tryz.func44 rfl rfl) (fun w hw => by
                    exact pair_any _ _ _ _ _ _ _) ?_
                refine TL.nil ?_
                refine TQ.nxt (hX76 _ _ (by repeat (first | exact HasL.nil | refine HasL.cons (by repeat (first | exact Pick.hd | apply Pick.tl)) ?_)) ?_)
                refine RG.a1 77 rfl (fun X77 hX77 => ?_)
                refine TL.gm Mk.bl ?_
                intro b24
                refine TL.nil ?_
                refine TQ.nxt (hX77 _ _ (by repeat (first | exact HasL.nil | refine HasL.cons (by repeat (first | exact Pick.hd | apply Pick.tl)) ?_)) ?_)
                refine RG.a1 78 rfl (fun X78 hX78 => ?_)
                refine TL.cr rfl (enters Tryz.func17 rfl rfl) (fun w hw => by
                    exact sameEx2 (a := prA (Y 0) (Y 1)) (c := prC (E 0) (E 1)) (L0 := [2]) (L1 := [3]) (by decide) (OwnR.rdr (hw.holds (.own Sn 1 sn 36 3 (fun _ => tieL (prA (Y 0) (Y 1)) (prL' [2] [3]) (prC (E 0) (E 1)))) (by simp))) (hw.holds _ (List.mem_cons_self ..)) (OwnR.rdr (hw.holds (.own (Y 0) 1 (E 0) 3 1 (iL [2])) (by simp))) (OwnR.rdr (hw.holds (.own (Y 1) 1 (E 1) 3 1 (iL [3])) (by simp))) (RdR.blk (hw.holds (.blk _ 3 [.int .i64 2]) (by simp)) rfl (fun _ _ => rfl)) (RdR.blk (hw.holds (.blk _ 3 [.int .i64 3]) (by simp)) rfl (fun _ _ => rfl))) ?_
                refine TL.nil ?_
                refine TQ.nxt (hX78 _ _ (by repeat (first | exact HasL.nil | refine HasL.cons (by repeat (first | exact Pick.hd | apply Pick.tl)) ?_)) ?_)
                refine RG.tk 79 rfl Pu.kt ?_
                refine RG.a1 80 rfl (fun X80 hX80 => ?_)
                refine TL.p Pu.mv ?_
                refine TL.lit (t := 167) (b' := true) rfl ((by decide)) ?_
                refine TL.nil ?_
                refine TQ.nxt (hX80 _ _ (by repeat (first | exact HasL.nil | refine HasL.cons (by repeat (first | exact Pick.hd | apply Pick.tl)) ?_)) ?_)
                refine RG.tk 81 rfl Pu.mv ?_
                refine RG.tk 82 rfl Pu.eq ?_
                refine RG.tk 83 rfl Pu.kt ?_
                refine RG.a1 84 rfl (fun X84 hX84 => ?_)
                refine TL.p Pu.mv ?_
                refine TL.lit (t := 171) (b' := true) rfl ((by decide)) ?_
                refine TL.nil ?_
                refine TQ.nxt (hX84 _ _ (by repeat (first | exact HasL.nil | refine HasL.cons (by repeat (first | exact Pick.hd | apply Pick.tl)) ?_)) ?_)
                refine RG.tk 85 rfl Pu.mv ?_
                refine RG.tk 86 rfl Pu.eq ?_
                refine RG.tk 87 rfl Pu.kt ?_
                refine RG.tk 88 rfl Pu.as ?_
                refine RG.nil ?_ (by kernel_rfl)
                refine TQ.thenN (hY10 _ _ ?_)
                refine TW.ret ?_
                refine TQ.ret Tryz.results21 rfl ((.tmp rfl .nil)) ?_
                exact fun w hw => Ret.of hw
            · as_aux_lemma =>
                refine TL.gm Mk.bl ?_
                intro b25
                refine TL.nil ?_
                refine TQ.nxt (hX75 _ _ (by repeat (first | exact HasL.nil | refine HasL.cons (by repeat (first | exact Pick.hd | apply Pick.tl)) ?_)) ?_)
                refine RG.a1 74 rfl (fun X74 hX74 => ?_)
                refine TL.gm Mk.bl ?_
                intro b26
                refine TL.nil ?_
                refine TQ.nxt (hX74 _ _ (by repeat (first | exact HasL.nil | refine HasL.cons (by repeat (first | exact Pick.hd | apply Pick.tl)) ?_)) ?_)
                refine RG.a1 76 rfl (fun X76 hX76 => ?_)
                refine TL.cr rfl (enters Tryz.func44 rfl rfl) (fun w hw => by
                    exact pair_any _ _ _ _ _ _ _) ?_
                refine TL.nil ?_
                refine TQ.nxt (hX76 _ _ (by repeat (first | exact HasL.nil | refine HasL.cons (by repeat (first | exact Pick.hd | apply Pick.tl)) ?_)) ?_)
                refine RG.a1 77 rfl (fun X77 hX77 => ?_)
                refine TL.gm Mk.bl ?_
                intro b27
                refine TL.nil ?_
                refine TQ.nxt (hX77 _ _ (by repeat (first | exact HasL.nil | refine HasL.cons (by repeat (first | exact Pick.hd | apply Pick.tl)) ?_)) ?_)
                refine RG.a1 78 rfl (fun X78 hX78 => ?_)
                refine TL.cr rfl (enters Tryz.func17 rfl rfl) (fun w hw => by
                    exact sameEx2 (a := prA (Y 0) (Y 1)) (c := prC (E 0) (E 1)) (L0 := [2]) (L1 := [3]) (by decide) (OwnR.rdr (hw.holds (.own Sn 1 sn 36 3 (fun _ => tieL (prA (Y 0) (Y 1)) (prL' [2] [3]) (prC (E 0) (E 1)))) (by simp))) (hw.holds _ (List.mem_cons_self ..)) (OwnR.rdr (hw.holds (.own (Y 0) 1 (E 0) 3 1 (iL [2])) (by simp))) (OwnR.rdr (hw.holds (.own (Y 1) 1 (E 1) 3 1 (iL [3])) (by simp))) (RdR.blk (hw.holds (.blk _ 3 [.int .i64 2]) (by simp)) rfl (fun _ _ => rfl)) (RdR.blk (hw.holds (.blk _ 3 [.int .i64 3]) (by simp)) rfl (fun _ _ => rfl))) ?_
                refine TL.nil ?_
                refine TQ.nxt (hX78 _ _ (by repeat (first | exact HasL.nil | refine HasL.cons (by repeat (first | exact Pick.hd | apply Pick.tl)) ?_)) ?_)
                refine RG.tk 79 rfl Pu.kt ?_
                refine RG.a1 80 rfl (fun X80 hX80 => ?_)
                refine TL.p Pu.mv ?_
                refine TL.lit (t := 167) (b' := true) rfl ((by decide)) ?_
                refine TL.nil ?_
                refine TQ.nxt (hX80 _ _ (by repeat (first | exact HasL.nil | refine HasL.cons (by repeat (first | exact Pick.hd | apply Pick.tl)) ?_)) ?_)
                refine RG.tk 81 rfl Pu.mv ?_
                refine RG.tk 82 rfl Pu.eq ?_
                refine RG.tk 83 rfl Pu.kt ?_
                refine RG.a1 84 rfl (fun X84 hX84 => ?_)
                refine TL.p Pu.mv ?_
                refine TL.lit (t := 171) (b' := true) rfl ((by decide)) ?_
                refine TL.nil ?_
                refine TQ.nxt (hX84 _ _ (by repeat (first | exact HasL.nil | refine HasL.cons (by repeat (first | exact Pick.hd | apply Pick.tl)) ?_)) ?_)
                refine RG.tk 85 rfl Pu.mv ?_
                refine RG.tk 86 rfl Pu.eq ?_
                refine RG.tk 87 rfl Pu.kt ?_
                refine RG.tk 88 rfl Pu.as ?_
                refine RG.nil ?_ (by kernel_rfl)
                refine TQ.thenN (hY10 _ _ ?_)
                refine TW.ret ?_
                refine TQ.ret Tryz.results21 rfl ((.tmp rfl .nil)) ?_
                exact fun w hw => Ret.of hw
        · as_aux_lemma =>
            refine TL.gm Mk.bl ?_
            intro b28
            refine TL.nil ?_
            refine TQ.nxt (hX54 _ _ (by repeat (first | exact HasL.nil | refine HasL.cons (by repeat (first | exact Pick.hd | apply Pick.tl)) ?_)) ?_)
            refine RG.a1 53 rfl (fun X53 hX53 => ?_)
            refine TL.gm Mk.bl ?_
            intro b29
            refine TL.nil ?_
            refine TQ.nxt (hX53 _ _ (by repeat (first | exact HasL.nil | refine HasL.cons (by repeat (first | exact Pick.hd | apply Pick.tl)) ?_)) ?_)
            refine RG.a1 55 rfl (fun X55 hX55 => ?_)
            refine TL.cr rfl (enters Tryz.func44 rfl rfl) (fun w hw => by
                exact pair_any _ _ _ _ _ _ _) ?_
            refine TL.nil ?_
            refine TQ.nxt (hX55 _ _ (by repeat (first | exact HasL.nil | refine HasL.cons (by repeat (first | exact Pick.hd | apply Pick.tl)) ?_)) ?_)
            refine RG.a1 56 rfl (fun X56 hX56 => ?_)
            refine TL.gm Mk.bl ?_
            intro b30
            refine TL.nil ?_
            refine TQ.nxt (hX56 _ _ (by repeat (first | exact HasL.nil | refine HasL.cons (by repeat (first | exact Pick.hd | apply Pick.tl)) ?_)) ?_)
            refine RG.a1 57 rfl (fun X57 hX57 => ?_)
            refine TL.cr rfl (enters Tryz.func17 rfl rfl) (fun w hw => by
                exact sameEx2 (a := X) (c := D) (L0 := [3]) (L1 := [0, 2]) (by decide) (OwnR.rdr (hw.holds (.own An 1 cn 36 3 (fun _ => tieL X (prL' [3] [0, 2]) D)) (by simp))) (hw.holds _ (List.mem_cons_self ..)) (OwnR.rdr (hw.holds (.own (X 0) 1 (D 0) 3 1 (iL [3])) (by simp))) (OwnR.rdr (hw.holds (.own (X 1) 2 (D 1) 3 1 (iL [0, 2])) (by simp))) (RdR.blk (hw.holds (.blk _ 3 [.int .i64 3]) (by simp)) rfl (fun _ _ => rfl)) (RdR.blk (hw.holds (.blk _ 3 [.int .i64 0, .int .i64 2]) (by simp)) rfl (fun _ _ => rfl))) ?_
            refine TL.nil ?_
            refine TQ.nxt (hX57 _ _ (by repeat (first | exact HasL.nil | refine HasL.cons (by repeat (first | exact Pick.hd | apply Pick.tl)) ?_)) ?_)
            refine RG.tk 58 rfl Pu.kt ?_
            refine RG.a1 59 rfl (fun X59 hX59 => ?_)
            refine TL.p Pu.mv ?_
            refine TL.lit (t := 146) (b' := true) rfl ((by decide)) ?_
            refine TL.nil ?_
            refine TQ.nxt (hX59 _ _ (by repeat (first | exact HasL.nil | refine HasL.cons (by repeat (first | exact Pick.hd | apply Pick.tl)) ?_)) ?_)
            refine RG.tk 60 rfl Pu.mv ?_
            refine RG.a1 61 rfl (fun X61 hX61 => ?_)
            refine TL.gm Mk.bl ?_
            intro b31
            refine TL.nil ?_
            refine TQ.nxt (hX61 _ _ (by repeat (first | exact HasL.nil | refine HasL.cons (by repeat (first | exact Pick.hd | apply Pick.tl)) ?_)) ?_)
            refine RG.a1 62 rfl (fun X62 hX62 => ?_)
            refine TL.cr rfl (enters Tryz.func18 rfl rfl) (fun w hw => by
                exact sameIEx (L := [0]) (by decide) rfl (OwnR.rdr (hw.holds (.own Am 1 cm 3 1 (iL [0])) (by simp))) (RdR.blk (hw.holds (.blk _ 3 [.int .i64 0]) (by simp)) rfl (fun _ _ => rfl))) ?_
            refine TL.nil ?_
            refine TQ.nxt (hX62 _ _ (by repeat (first | exact HasL.nil | refine HasL.cons (by repeat (first | exact Pick.hd | apply Pick.tl)) ?_)) ?_)
            refine RG.tk 63 rfl Pu.kt ?_
            refine RG.a1 64 rfl (fun X64 hX64 => ?_)
            refine TL.p Pu.mv ?_
            refine TL.lit (t := 151) (b' := true) rfl ((by decide)) ?_
            refine TL.nil ?_
            refine TQ.nxt (hX64 _ _ (by repeat (first | exact HasL.nil | refine HasL.cons (by repeat (first | exact Pick.hd | apply Pick.tl)) ?_)) ?_)
            refine RG.tk 65 rfl Pu.mv ?_
            refine RG.tk 66 rfl Pu.eq ?_
            refine RG.tk 67 rfl Pu.kt ?_
            refine RG.a1 68 rfl (fun X68 hX68 => ?_)
            refine TL.p Pu.mv ?_
            refine TL.lit (t := 155) (b' := true) rfl ((by decide)) ?_
            refine TL.nil ?_
            refine TQ.nxt (hX68 _ _ (by repeat (first | exact HasL.nil | refine HasL.cons (by repeat (first | exact Pick.hd | apply Pick.tl)) ?_)) ?_)
            refine RG.tk 69 rfl Pu.mv ?_
            refine RG.tk 70 rfl Pu.eq ?_
            refine RG.tk 71 rfl Pu.kt ?_
            refine RG.a1 72 rfl (fun X72 hX72 => ?_)
            refine TL.p Pu.mv ?_
            refine TL.lit (t := 159) (b' := true) rfl ((by decide)) ?_
            refine TL.nil ?_
            refine TQ.nxt (hX72 _ _ (by repeat (first | exact HasL.nil | refine HasL.cons (by repeat (first | exact Pick.hd | apply Pick.tl)) ?_)) ?_)
            refine RG.tk 73 rfl Pu.mv ?_
            refine RG.a2 74 75 rfl rfl (fun X74 hX74 => ?_) (fun X75 hX75 => ?_)
            · as_aux_lemma =>
                refine TL.gm Mk.bl ?_
                intro b32
                refine TL.nil ?_
                refine TQ.nxt (hX74 _ _ (by repeat (first | exact HasL.nil | refine HasL.cons (by repeat (first | exact Pick.hd | apply Pick.tl)) ?_)) ?_)
                refine RG.a1 75 rfl (fun X75 hX75 => ?_)
                refine TL.gm Mk.bl ?_
                intro b33
                refine TL.nil ?_
                refine TQ.nxt (hX75 _ _ (by repeat (first | exact HasL.nil | refine HasL.cons (by repeat (first | exact Pick.hd | apply Pick.tl)) ?_)) ?_)
                refine RG.a1 76 rfl (fun X76 hX76 => ?_)
                refine TL.cr rfl (enters Tryz.func44 rfl rfl) (fun w hw => by
                    exact pair_any _ _ _ _ _ _ _) ?_
                refine TL.nil ?_
                refine TQ.nxt (hX76 _ _ (by repeat (first | exact HasL.nil | refine HasL.cons (by repeat (first | exact Pick.hd | apply Pick.tl)) ?_)) ?_)
                refine RG.a1 77 rfl (fun X77 hX77 => ?_)
                refine TL.gm Mk.bl ?_
                intro b34
                refine TL.nil ?_
                refine TQ.nxt (hX77 _ _ (by repeat (first | exact HasL.nil | refine HasL.cons (by repeat (first | exact Pick.hd | apply Pick.tl)) ?_)) ?_)
                refine RG.a1 78 rfl (fun X78 hX78 => ?_)
                refine TL.cr rfl (enters Tryz.func17 rfl rfl) (fun w hw => by
                    exact sameEx2 (a := prA (Y 0) (Y 1)) (c := prC (E 0) (E 1)) (L0 := [2]) (L1 := [3]) (by decide) (OwnR.rdr (hw.holds (.own Sn 1 sn 36 3 (fun _ => tieL (prA (Y 0) (Y 1)) (prL' [2] [3]) (prC (E 0) (E 1)))) (by simp))) (hw.holds _ (List.mem_cons_self ..)) (OwnR.rdr (hw.holds (.own (Y 0) 1 (E 0) 3 1 (iL [2])) (by simp))) (OwnR.rdr (hw.holds (.own (Y 1) 1 (E 1) 3 1 (iL [3])) (by simp))) (RdR.blk (hw.holds (.blk _ 3 [.int .i64 2]) (by simp)) rfl (fun _ _ => rfl)) (RdR.blk (hw.holds (.blk _ 3 [.int .i64 3]) (by simp)) rfl (fun _ _ => rfl))) ?_
                refine TL.nil ?_
                refine TQ.nxt (hX78 _ _ (by repeat (first | exact HasL.nil | refine HasL.cons (by repeat (first | exact Pick.hd | apply Pick.tl)) ?_)) ?_)
                refine RG.tk 79 rfl Pu.kt ?_
                refine RG.a1 80 rfl (fun X80 hX80 => ?_)
                refine TL.p Pu.mv ?_
                refine TL.lit (t := 167) (b' := true) rfl ((by decide)) ?_
                refine TL.nil ?_
                refine TQ.nxt (hX80 _ _ (by repeat (first | exact HasL.nil | refine HasL.cons (by repeat (first | exact Pick.hd | apply Pick.tl)) ?_)) ?_)
                refine RG.tk 81 rfl Pu.mv ?_
                refine RG.tk 82 rfl Pu.eq ?_
                refine RG.tk 83 rfl Pu.kt ?_
                refine RG.a1 84 rfl (fun X84 hX84 => ?_)
                refine TL.p Pu.mv ?_
                refine TL.lit (t := 171) (b' := true) rfl ((by decide)) ?_
                refine TL.nil ?_
                refine TQ.nxt (hX84 _ _ (by repeat (first | exact HasL.nil | refine HasL.cons (by repeat (first | exact Pick.hd | apply Pick.tl)) ?_)) ?_)
                refine RG.tk 85 rfl Pu.mv ?_
                refine RG.tk 86 rfl Pu.eq ?_
                refine RG.tk 87 rfl Pu.kt ?_
                refine RG.tk 88 rfl Pu.as ?_
                refine RG.nil ?_ (by kernel_rfl)
                refine TQ.thenN (hY10 _ _ ?_)
                refine TW.ret ?_
                refine TQ.ret Tryz.results21 rfl ((.tmp rfl .nil)) ?_
                exact fun w hw => Ret.of hw
            · as_aux_lemma =>
                refine TL.gm Mk.bl ?_
                intro b35
                refine TL.nil ?_
                refine TQ.nxt (hX75 _ _ (by repeat (first | exact HasL.nil | refine HasL.cons (by repeat (first | exact Pick.hd | apply Pick.tl)) ?_)) ?_)
                refine RG.a1 74 rfl (fun X74 hX74 => ?_)
                refine TL.gm Mk.bl ?_
                intro b36
                refine TL.nil ?_
                refine TQ.nxt (hX74 _ _ (by repeat (first | exact HasL.nil | refine HasL.cons (by repeat (first | exact Pick.hd | apply Pick.tl)) ?_)) ?_)
                refine RG.a1 76 rfl (fun X76 hX76 => ?_)
                refine TL.cr rfl (enters Tryz.func44 rfl rfl) (fun w hw => by
                    exact pair_any _ _ _ _ _ _ _) ?_
                refine TL.nil ?_
                refine TQ.nxt (hX76 _ _ (by repeat (first | exact HasL.nil | refine HasL.cons (by repeat (first | exact Pick.hd | apply Pick.tl)) ?_)) ?_)
                refine RG.a1 77 rfl (fun X77 hX77 => ?_)
                refine TL.gm Mk.bl ?_
                intro b37
                refine TL.nil ?_
                refine TQ.nxt (hX77 _ _ (by repeat (first | exact HasL.nil | refine HasL.cons (by repeat (first | exact Pick.hd | apply Pick.tl)) ?_)) ?_)
                refine RG.a1 78 rfl (fun X78 hX78 => ?_)
                refine TL.cr rfl (enters Tryz.func17 rfl rfl) (fun w hw => by
                    exact sameEx2 (a := prA (Y 0) (Y 1)) (c := prC (E 0) (E 1)) (L0 := [2]) (L1 := [3]) (by decide) (OwnR.rdr (hw.holds (.own Sn 1 sn 36 3 (fun _ => tieL (prA (Y 0) (Y 1)) (prL' [2] [3]) (prC (E 0) (E 1)))) (by simp))) (hw.holds _ (List.mem_cons_self ..)) (OwnR.rdr (hw.holds (.own (Y 0) 1 (E 0) 3 1 (iL [2])) (by simp))) (OwnR.rdr (hw.holds (.own (Y 1) 1 (E 1) 3 1 (iL [3])) (by simp))) (RdR.blk (hw.holds (.blk _ 3 [.int .i64 2]) (by simp)) rfl (fun _ _ => rfl)) (RdR.blk (hw.holds (.blk _ 3 [.int .i64 3]) (by simp)) rfl (fun _ _ => rfl))) ?_
                refine TL.nil ?_
                refine TQ.nxt (hX78 _ _ (by repeat (first | exact HasL.nil | refine HasL.cons (by repeat (first | exact Pick.hd | apply Pick.tl)) ?_)) ?_)
                refine RG.tk 79 rfl Pu.kt ?_
                refine RG.a1 80 rfl (fun X80 hX80 => ?_)
                refine TL.p Pu.mv ?_
                refine TL.lit (t := 167) (b' := true) rfl ((by decide)) ?_
                refine TL.nil ?_
                refine TQ.nxt (hX80 _ _ (by repeat (first | exact HasL.nil | refine HasL.cons (by repeat (first | exact Pick.hd | apply Pick.tl)) ?_)) ?_)
                refine RG.tk 81 rfl Pu.mv ?_
                refine RG.tk 82 rfl Pu.eq ?_
                refine RG.tk 83 rfl Pu.kt ?_
                refine RG.a1 84 rfl (fun X84 hX84 => ?_)
                refine TL.p Pu.mv ?_
                refine TL.lit (t := 171) (b' := true) rfl ((by decide)) ?_
                refine TL.nil ?_
                refine TQ.nxt (hX84 _ _ (by repeat (first | exact HasL.nil | refine HasL.cons (by repeat (first | exact Pick.hd | apply Pick.tl)) ?_)) ?_)
                refine RG.tk 85 rfl Pu.mv ?_
                refine RG.tk 86 rfl Pu.eq ?_
                refine RG.tk 87 rfl Pu.kt ?_
                refine RG.tk 88 rfl Pu.as ?_
                refine RG.nil ?_ (by kernel_rfl)
                refine TQ.thenN (hY10 _ _ ?_)
                refine TW.ret ?_
                refine TQ.ret Tryz.results21 rfl ((.tmp rfl .nil)) ?_
                exact fun w hw => Ret.of hw
    refine RG.tk 0 rfl (Pu.lds ty_ag79) ?_
    refine RG.tk 1 rfl (Pu.lds ty_ag81) ?_
    refine RG.a3 2 3 4 rfl rfl rfl (fun X2 hX2 => ?_) (fun X3 hX3 => ?_) (fun X4 hX4 => ?_)
    · as_aux_lemma =>
        refine TL.call (M := []) rfl (enters Tryz.func43 rfl rfl) (List.Perm.refl _) rfl (fun w hw => by
            exact bales_any _) ?_
        rintro ⟨B1, e1⟩
        refine TL.nil ?_
        refine TQ.nxt (hX2 _ _ (by repeat (first | exact HasL.nil | refine HasL.cons (by repeat (first | exact Pick.hd | apply Pick.tl)) ?_)) ?_)
        refine RG.a2 3 4 rfl rfl (fun X3 hX3 => ?_) (fun X4 hX4 => ?_)
        · as_aux_lemma =>
            refine TL.m Mk.bl ?_
            intro x3
            refine TL.nil ?_
            refine TQ.nxt (hX3 _ _ (by repeat (first | exact HasL.nil | refine HasL.cons (by repeat (first | exact Pick.hd | apply Pick.tl)) ?_)) ?_)
            refine RG.a1 4 rfl (fun X4 hX4 => ?_)
            refine TL.m Mk.bl ?_
            intro x4
            refine TL.nil ?_
            refine TQ.nxt (hX4 _ _ (by repeat (first | exact HasL.nil | refine HasL.cons (by repeat (first | exact Pick.hd | apply Pick.tl)) ?_)) ?_)
            refine RG.a1 5 rfl (fun X5 hX5 => ?_)
            refine TL.cr rfl (enters Tryz.func44 rfl rfl) (fun w hw => by
                exact pair_any _ _ _ _ _ _ _) ?_
            refine TL.nil ?_
            refine TQ.nxt (hX5 _ _ (by repeat (first | exact HasL.nil | refine HasL.cons (by repeat (first | exact Pick.hd | apply Pick.tl)) ?_)) ?_)
            refine RG.a1 6 rfl (fun X6 hX6 => ?_)
            refine TL.cr rfl (enters Tryz.func35 rfl rfl) (fun w hw => by
                exact readyEx (hG.sat hw (by simp)) (OwnR.rdr (hw.holds (.own B1 4 e1 45 11 (fun k => packL (balP k))) (by simp))) (RdR.blk (hw.holds (.blk _ 3 [.int .i64 0, .int .i64 1]) (by simp)) rfl (fun _ _ => rfl)) (RdR.blk (hw.holds (.blk _ 3 [.int .i64 2]) (by simp)) rfl (fun _ _ => rfl))) ?_
            refine TL.nil ?_
            refine TQ.nxt (hX6 _ _ (by repeat (first | exact HasL.nil | refine HasL.cons (by repeat (first | exact Pick.hd | apply Pick.tl)) ?_)) ?_)
            refine RG.tk 7 rfl Pu.mv ?_
            refine RG.tk 8 rfl Pu.ex ?_
            refine RG.tk 9 rfl Pu.ex ?_
            refine RG.tk 10 rfl Pu.as ?_
            refine RG.tk 11 rfl Pu.as ?_
            exact RG.nil (TQ.sub (by repeat (first | exact trivial | refine ⟨rfl, ?_⟩ | refine ⟨trivial, ?_⟩)) (by repeat (first | exact KSub.nil | refine KSub.cons (by repeat (first | exact Pick.hd | apply Pick.tl)) ?_ | exact KSub.refl _ | refine KSub.drop ?_)) (hE e1)) (by kernel_rfl)
        · as_aux_lemma =>
            refine TL.m Mk.bl ?_
            intro x4
            refine TL.nil ?_
            refine TQ.nxt (hX4 _ _ (by repeat (first | exact HasL.nil | refine HasL.cons (by repeat (first | exact Pick.hd | apply Pick.tl)) ?_)) ?_)
            refine RG.a1 3 rfl (fun X3 hX3 => ?_)
            refine TL.m Mk.bl ?_
            intro x3
            refine TL.nil ?_
            refine TQ.nxt (hX3 _ _ (by repeat (first | exact HasL.nil | refine HasL.cons (by repeat (first | exact Pick.hd | apply Pick.tl)) ?_)) ?_)
            refine RG.a1 5 rfl (fun X5 hX5 => ?_)
            refine TL.cr rfl (enters Tryz.func44 rfl rfl) (fun w hw => by
                exact pair_any _ _ _ _ _ _ _) ?_
            refine TL.nil ?_
            refine TQ.nxt (hX5 _ _ (by repeat (first | exact HasL.nil | refine HasL.cons (by repeat (first | exact Pick.hd | apply Pick.tl)) ?_)) ?_)
            refine RG.a1 6 rfl (fun X6 hX6 => ?_)
            refine TL.cr rfl (enters Tryz.func35 rfl rfl) (fun w hw => by
                exact readyEx (hG.sat hw (by simp)) (OwnR.rdr (hw.holds (.own B1 4 e1 45 11 (fun k => packL (balP k))) (by simp))) (RdR.blk (hw.holds (.blk _ 3 [.int .i64 0, .int .i64 1]) (by simp)) rfl (fun _ _ => rfl)) (RdR.blk (hw.holds (.blk _ 3 [.int .i64 2]) (by simp)) rfl (fun _ _ => rfl))) ?_
            refine TL.nil ?_
            refine TQ.nxt (hX6 _ _ (by repeat (first | exact HasL.nil | refine HasL.cons (by repeat (first | exact Pick.hd | apply Pick.tl)) ?_)) ?_)
            refine RG.tk 7 rfl Pu.mv ?_
            refine RG.tk 8 rfl Pu.ex ?_
            refine RG.tk 9 rfl Pu.ex ?_
            refine RG.tk 10 rfl Pu.as ?_
            refine RG.tk 11 rfl Pu.as ?_
            exact RG.nil (TQ.sub (by repeat (first | exact trivial | refine ⟨rfl, ?_⟩ | refine ⟨trivial, ?_⟩)) (by repeat (first | exact KSub.nil | refine KSub.cons (by repeat (first | exact Pick.hd | apply Pick.tl)) ?_ | exact KSub.refl _ | refine KSub.drop ?_)) (hE e1)) (by kernel_rfl)
    · as_aux_lemma =>
        refine TL.m Mk.bl ?_
        intro x3
        refine TL.nil ?_
        refine TQ.nxt (hX3 _ _ (by repeat (first | exact HasL.nil | refine HasL.cons (by repeat (first | exact Pick.hd | apply Pick.tl)) ?_)) ?_)
        refine RG.a2 2 4 rfl rfl (fun X2 hX2 => ?_) (fun X4 hX4 => ?_)
        · as_aux_lemma =>
            refine TL.call (M := []) rfl (enters Tryz.func43 rfl rfl) (List.Perm.refl _) rfl (fun w hw => by
                exact bales_any _) ?_
            rintro ⟨B1, e1⟩
            refine TL.nil ?_
            refine TQ.nxt (hX2 _ _ (by repeat (first | exact HasL.nil | refine HasL.cons (by repeat (first | exact Pick.hd | apply Pick.tl)) ?_)) ?_)
            refine RG.a1 4 rfl (fun X4 hX4 => ?_)
            refine TL.m Mk.bl ?_
            intro x4
            refine TL.nil ?_
            refine TQ.nxt (hX4 _ _ (by repeat (first | exact HasL.nil | refine HasL.cons (by repeat (first | exact Pick.hd | apply Pick.tl)) ?_)) ?_)
            refine RG.a1 5 rfl (fun X5 hX5 => ?_)
            refine TL.cr rfl (enters Tryz.func44 rfl rfl) (fun w hw => by
                exact pair_any _ _ _ _ _ _ _) ?_
            refine TL.nil ?_
            refine TQ.nxt (hX5 _ _ (by repeat (first | exact HasL.nil | refine HasL.cons (by repeat (first | exact Pick.hd | apply Pick.tl)) ?_)) ?_)
            refine RG.a1 6 rfl (fun X6 hX6 => ?_)
            refine TL.cr rfl (enters Tryz.func35 rfl rfl) (fun w hw => by
                exact readyEx (hG.sat hw (by simp)) (OwnR.rdr (hw.holds (.own B1 4 e1 45 11 (fun k => packL (balP k))) (by simp))) (RdR.blk (hw.holds (.blk _ 3 [.int .i64 0, .int .i64 1]) (by simp)) rfl (fun _ _ => rfl)) (RdR.blk (hw.holds (.blk _ 3 [.int .i64 2]) (by simp)) rfl (fun _ _ => rfl))) ?_
            refine TL.nil ?_
            refine TQ.nxt (hX6 _ _ (by repeat (first | exact HasL.nil | refine HasL.cons (by repeat (first | exact Pick.hd | apply Pick.tl)) ?_)) ?_)
            refine RG.tk 7 rfl Pu.mv ?_
            refine RG.tk 8 rfl Pu.ex ?_
            refine RG.tk 9 rfl Pu.ex ?_
            refine RG.tk 10 rfl Pu.as ?_
            refine RG.tk 11 rfl Pu.as ?_
            exact RG.nil (TQ.sub (by repeat (first | exact trivial | refine ⟨rfl, ?_⟩ | refine ⟨trivial, ?_⟩)) (by repeat (first | exact KSub.nil | refine KSub.cons (by repeat (first | exact Pick.hd | apply Pick.tl)) ?_ | exact KSub.refl _ | refine KSub.drop ?_)) (hE e1)) (by kernel_rfl)
        · as_aux_lemma =>
            refine TL.m Mk.bl ?_
            intro x4
            refine TL.nil ?_
            refine TQ.nxt (hX4 _ _ (by repeat (first | exact HasL.nil | refine HasL.cons (by repeat (first | exact Pick.hd | apply Pick.tl)) ?_)) ?_)
            refine RG.a1 2 rfl (fun X2 hX2 => ?_)
            refine TL.call (M := []) rfl (enters Tryz.func43 rfl rfl) (List.Perm.refl _) rfl (fun w hw => by
                exact bales_any _) ?_
            rintro ⟨B1, e1⟩
            refine TL.nil ?_
            refine TQ.nxt (hX2 _ _ (by repeat (first | exact HasL.nil | refine HasL.cons (by repeat (first | exact Pick.hd | apply Pick.tl)) ?_)) ?_)
            refine RG.a1 5 rfl (fun X5 hX5 => ?_)
            refine TL.cr rfl (enters Tryz.func44 rfl rfl) (fun w hw => by
                exact pair_any _ _ _ _ _ _ _) ?_
            refine TL.nil ?_
            refine TQ.nxt (hX5 _ _ (by repeat (first | exact HasL.nil | refine HasL.cons (by repeat (first | exact Pick.hd | apply Pick.tl)) ?_)) ?_)
            refine RG.a1 6 rfl (fun X6 hX6 => ?_)
            refine TL.cr rfl (enters Tryz.func35 rfl rfl) (fun w hw => by
                exact readyEx (hG.sat hw (by simp)) (OwnR.rdr (hw.holds (.own B1 4 e1 45 11 (fun k => packL (balP k))) (by simp))) (RdR.blk (hw.holds (.blk _ 3 [.int .i64 0, .int .i64 1]) (by simp)) rfl (fun _ _ => rfl)) (RdR.blk (hw.holds (.blk _ 3 [.int .i64 2]) (by simp)) rfl (fun _ _ => rfl))) ?_
            refine TL.nil ?_
            refine TQ.nxt (hX6 _ _ (by repeat (first | exact HasL.nil | refine HasL.cons (by repeat (first | exact Pick.hd | apply Pick.tl)) ?_)) ?_)
            refine RG.tk 7 rfl Pu.mv ?_
            refine RG.tk 8 rfl Pu.ex ?_
            refine RG.tk 9 rfl Pu.ex ?_
            refine RG.tk 10 rfl Pu.as ?_
            refine RG.tk 11 rfl Pu.as ?_
            exact RG.nil (TQ.sub (by repeat (first | exact trivial | refine ⟨rfl, ?_⟩ | refine ⟨trivial, ?_⟩)) (by repeat (first | exact KSub.nil | refine KSub.cons (by repeat (first | exact Pick.hd | apply Pick.tl)) ?_ | exact KSub.refl _ | refine KSub.drop ?_)) (hE e1)) (by kernel_rfl)
    · as_aux_lemma =>
        refine TL.m Mk.bl ?_
        intro x4
        refine TL.nil ?_
        refine TQ.nxt (hX4 _ _ (by repeat (first | exact HasL.nil | refine HasL.cons (by repeat (first | exact Pick.hd | apply Pick.tl)) ?_)) ?_)
        refine RG.a2 2 3 rfl rfl (fun X2 hX2 => ?_) (fun X3 hX3 => ?_)
        · as_aux_lemma =>
            refine TL.call (M := []) rfl (enters Tryz.func43 rfl rfl) (List.Perm.refl _) rfl (fun w hw => by
                exact bales_any _) ?_
            rintro ⟨B1, e1⟩
            refine TL.nil ?_
            refine TQ.nxt (hX2 _ _ (by repeat (first | exact HasL.nil | refine HasL.cons (by repeat (first | exact Pick.hd | apply Pick.tl)) ?_)) ?_)
            refine RG.a1 3 rfl (fun X3 hX3 => ?_)
            refine TL.m Mk.bl ?_
            intro x3
            refine TL.nil ?_
            refine TQ.nxt (hX3 _ _ (by repeat (first | exact HasL.nil | refine HasL.cons (by repeat (first | exact Pick.hd | apply Pick.tl)) ?_)) ?_)
            refine RG.a1 5 rfl (fun X5 hX5 => ?_)
            refine TL.cr rfl (enters Tryz.func44 rfl rfl) (fun w hw => by
                exact pair_any _ _ _ _ _ _ _) ?_
            refine TL.nil ?_
            refine TQ.nxt (hX5 _ _ (by repeat (first | exact HasL.nil | refine HasL.cons (by repeat (first | exact Pick.hd | apply Pick.tl)) ?_)) ?_)
            refine RG.a1 6 rfl (fun X6 hX6 => ?_)
            refine TL.cr rfl (enters Tryz.func35 rfl rfl) (fun w hw => by
                exact readyEx (hG.sat hw (by simp)) (OwnR.rdr (hw.holds (.own B1 4 e1 45 11 (fun k => packL (balP k))) (by simp))) (RdR.blk (hw.holds (.blk _ 3 [.int .i64 0, .int .i64 1]) (by simp)) rfl (fun _ _ => rfl)) (RdR.blk (hw.holds (.blk _ 3 [.int .i64 2]) (by simp)) rfl (fun _ _ => rfl))) ?_
            refine TL.nil ?_
            refine TQ.nxt (hX6 _ _ (by repeat (first | exact HasL.nil | refine HasL.cons (by repeat (first | exact Pick.hd | apply Pick.tl)) ?_)) ?_)
            refine RG.tk 7 rfl Pu.mv ?_
            refine RG.tk 8 rfl Pu.ex ?_
            refine RG.tk 9 rfl Pu.ex ?_
            refine RG.tk 10 rfl Pu.as ?_
            refine RG.tk 11 rfl Pu.as ?_
            exact RG.nil (TQ.sub (by repeat (first | exact trivial | refine ⟨rfl, ?_⟩ | refine ⟨trivial, ?_⟩)) (by repeat (first | exact KSub.nil | refine KSub.cons (by repeat (first | exact Pick.hd | apply Pick.tl)) ?_ | exact KSub.refl _ | refine KSub.drop ?_)) (hE e1)) (by kernel_rfl)
        · as_aux_lemma =>
            refine TL.m Mk.bl ?_
            intro x3
            refine TL.nil ?_
            refine TQ.nxt (hX3 _ _ (by repeat (first | exact HasL.nil | refine HasL.cons (by repeat (first | exact Pick.hd | apply Pick.tl)) ?_)) ?_)
            refine RG.a1 2 rfl (fun X2 hX2 => ?_)
            refine TL.call (M := []) rfl (enters Tryz.func43 rfl rfl) (List.Perm.refl _) rfl (fun w hw => by
                exact bales_any _) ?_
            rintro ⟨B1, e1⟩
            refine TL.nil ?_
            refine TQ.nxt (hX2 _ _ (by repeat (first | exact HasL.nil | refine HasL.cons (by repeat (first | exact Pick.hd | apply Pick.tl)) ?_)) ?_)
            refine RG.a1 5 rfl (fun X5 hX5 => ?_)
            refine TL.cr rfl (enters Tryz.func44 rfl rfl) (fun w hw => by
                exact pair_any _ _ _ _ _ _ _) ?_
            refine TL.nil ?_
            refine TQ.nxt (hX5 _ _ (by repeat (first | exact HasL.nil | refine HasL.cons (by repeat (first | exact Pick.hd | apply Pick.tl)) ?_)) ?_)
            refine RG.a1 6 rfl (fun X6 hX6 => ?_)
            refine TL.cr rfl (enters Tryz.func35 rfl rfl) (fun w hw => by
                exact readyEx (hG.sat hw (by simp)) (OwnR.rdr (hw.holds (.own B1 4 e1 45 11 (fun k => packL (balP k))) (by simp))) (RdR.blk (hw.holds (.blk _ 3 [.int .i64 0, .int .i64 1]) (by simp)) rfl (fun _ _ => rfl)) (RdR.blk (hw.holds (.blk _ 3 [.int .i64 2]) (by simp)) rfl (fun _ _ => rfl))) ?_
            refine TL.nil ?_
            refine TQ.nxt (hX6 _ _ (by repeat (first | exact HasL.nil | refine HasL.cons (by repeat (first | exact Pick.hd | apply Pick.tl)) ?_)) ?_)
            refine RG.tk 7 rfl Pu.mv ?_
            refine RG.tk 8 rfl Pu.ex ?_
            refine RG.tk 9 rfl Pu.ex ?_
            refine RG.tk 10 rfl Pu.as ?_
            refine RG.tk 11 rfl Pu.as ?_
            exact RG.nil (TQ.sub (by repeat (first | exact trivial | refine ⟨rfl, ?_⟩ | refine ⟨trivial, ?_⟩)) (by repeat (first | exact KSub.nil | refine KSub.cons (by repeat (first | exact Pick.hd | apply Pick.tl)) ?_ | exact KSub.refl _ | refine KSub.drop ?_)) (hE e1)) (by kernel_rfl)
end Go.Proofs.YtjephihlkjpohaaGreatDoor
namespace Go.Proofs.YtjephihlkjpohaaGreatDoor
set_option linter.all false
set_option linter.unusedVariables false
set_option linter.unusedSimpArgs false
open Go.RowKit
def chU (n : Nat) (u : Nat → Int) (i : Nat) : Int := if i < n then u i else 0
def insV (lo hi c : Int) : Int := lo + c % (hi - lo + 1)
theorem insV_in {lo hi c : Int} (h : lo ≤ hi) : lo ≤ insV lo hi c ∧ insV lo hi c ≤ hi := by
  unfold insV
  have h1 := Int.emod_nonneg c (b := hi - lo + 1) (by omega)
  have h2 := Int.emod_lt_of_pos c (b := hi - lo + 1) (by omega)
  omega
def U32 (n : Nat) (u : Nat → Int) : Prop := ∀ k, k < n → 0 ≤ u k ∧ u k < 4294967296
theorem chU_in {n : Nat} {u : Nat → Int} (h : U32 n u) (i : Nat) : 0 ≤ chU n u i ∧ chU n u i < 4294967296 := by
  unfold chU
  split
  · exact h i ‹_›
  · omega
theorem choose_any {A : Option Addr} {n cp : Nat} {u : Nat → Int} {w : World} (i : Nat) (hi : i ≤ 1000000000) (hn : n ≤ cp) (hR : RdR w 1 A n (fun k => [.int .u32 (u k)])) :
    Calls Tryz.prog 26 #[.slice A n cp, .int .i64 (i : Int)] w (Ret w (.int .u32 (chU n u i))) := by
  refine K_enter (S := []) (K := []) Tryz.func26 rfl Tryz.ntmps26 rfl (Sat.start _) ?_
  refine TW.seq fun Y1 hY1 => ?_
  refine TW.region ?_
  refine TL.p Pu.as ?_
  refine TL.nil ?_
  refine TQ.thenN (hY1 _ _ ?_)
  refine TW.seq fun Y2 hY2 => ?_
  refine TW.seq fun Y3 hY3 => ?_
  refine TW.region ?_
  refine TL.p Pu.mv ?_
  refine TL.p Pu.mv ?_
  refine TL.p (Pu.ln Tryz.underlying46) ?_
  refine TL.p Pu.lt ?_
  refine TL.nil ?_
  refine TQ.thenN (hY3 _ _ ?_)
  refine TW.cond rfl (fun hc0 => ?_) (fun hc0 => ?_)
  · try simp only [decide_eq_true_eq, decide_eq_false_iff_not, Bool.not_eq_true', Bool.not_eq_false', Bool.and_eq_true, Bool.or_eq_true, Bool.and_eq_false_iff, Bool.or_eq_false_iff, Int.not_lt, Int.not_le] at hc0
    have hin : i < n := by omega
    refine TW.seq fun Y4 hY4 => ?_
    refine TW.region ?_
    refine TL.p Pu.mv ?_
    refine TL.p Pu.mv ?_
    refine TL.p (Pu.el ty_et46) ?_
    refine TL.p (Pu.ld ty_sc54) ?_
    refine TL.p Pu.as ?_
    refine TL.nil ?_
    refine TQ.thenN (hY4 _ _ ?_)
    refine TW.ret ?_
    refine TQ.thenR ?_
    refine TQ.ret Tryz.results26 rfl ((.tmp rfl .nil)) ?_
    exact fun w hw => ⟨by unfold chU; rw [if_pos hin]; rfl, Chg.ext hw.chg⟩
  · try simp only [decide_eq_true_eq, decide_eq_false_iff_not, Bool.not_eq_true', Bool.not_eq_false', Bool.and_eq_true, Bool.or_eq_true, Bool.and_eq_false_iff, Bool.or_eq_false_iff, Int.not_lt, Int.not_le] at hc0
    refine TW.skip ?_
    refine TQ.thenN (hY2 _ _ ?_)
    refine TW.seq fun Y5 hY5 => ?_
    refine TW.region ?_
    refine TL.p Pu.as ?_
    refine TL.nil ?_
    refine TQ.thenN (hY5 _ _ ?_)
    refine TW.ret ?_
    refine TQ.ret Tryz.results26 rfl ((.tmp rfl .nil)) ?_
    exact fun w hw => ⟨by unfold chU; rw [if_neg (by omega)]; rfl, Chg.ext hw.chg⟩
theorem inside_any {lo hi c : Int} {w : World} (h : 0 ≤ lo ∧ lo ≤ hi ∧ hi ≤ 6000000) (hc : 0 ≤ c ∧ c < 4294967296) :
    Calls Tryz.prog 25 #[.agg #[.int .i64 lo, .int .i64 hi], .int .u32 c] w (Ret w (.int .i64 (insV lo hi c))) := by
  have hin := insV_in (c := c) h.2.1
  unfold insV at hin
  refine K_enter (S := []) (K := []) Tryz.func25 rfl Tryz.ntmps25 rfl (Sat.start _) ?_
  refine TW.seq fun Y1 hY1 => ?_
  refine TW.region ?_
  refine TL.m Mk.bx ?_
  intro b1
  refine TL.p Pu.as ?_
  refine TL.nil ?_
  refine TQ.thenN (hY1 _ _ ?_)
  refine TW.seq fun Y2 hY2 => ?_
  refine TW.dw 13 ?_
  refine RK.tk (by first | exact Pu.fb ty_fa43_0 | exact Pu.fe ty_fa43_0) ?_
  refine RK.tk (Pu.ld ty_sc3) ?_
  refine RK.tk Pu.mv ?_
  refine RK.tk (Pu.cv (v := .int .i64 c) rfl (fun w => by go_simp; rw [IntWalk.i64_in c (by omega)])) ?_
  refine RK.tk (by first | exact Pu.fb ty_fa43_1 | exact Pu.fe ty_fa43_1) ?_
  refine RK.tk (Pu.ld ty_sc3) ?_
  refine RK.tk (by first | exact Pu.fb ty_fa43_0 | exact Pu.fe ty_fa43_0) ?_
  refine RK.tk (Pu.ld ty_sc3) ?_
  refine RK.tk Pu.sb ?_
  refine RK.tk Pu.ad ?_
  refine RK.tk Pu.rm ?_
  refine RK.tk Pu.ad ?_
  refine RK.tk Pu.as ?_
  refine RK.ch [] ?_ trivial
  refine WK.n ?_
  refine TL.nil ?_
  refine TQ.thenN (hY2 _ _ ?_)
  refine TW.ret ?_
  refine TQ.ret Tryz.results25 rfl ((.tmp rfl .nil)) ?_
  exact fun w hw => Ret.of hw
end Go.Proofs.YtjephihlkjpohaaGreatDoor
namespace Go.Proofs.YtjephihlkjpohaaGreatDoor
set_option linter.all false
set_option linter.unusedVariables false
set_option linter.unusedSimpArgs false
open Go.RowKit
section
variable (f : Nat → Int) (n : Nat) (u : Nat → Int) (i : Nat)
def truM : Int := insV (f 1) (f 2) (chU n u i)
def truH : Int := insV (f 3) (f 4) (chU n u (i + 1))
def truC : Int := insV (f 5) (f 6) (chU n u (i + 2))
def truK : Int := insV (f 7) (f 8) (chU n u (i + 2))
def truL : Int := if f 0 = 1 then (if truH f n u i ≤ f 9 then truM f n u i * truC f n u i else 0) else if f 0 = 3 then min (1000 * truM f n u i) (1000 * truK f n u i * f 10) else 0
end
theorem mul_mono {a b c d : Int} (ha : 0 ≤ a) (hab : a ≤ b) (hc : 0 ≤ c) (hcd : c ≤ d) : 0 ≤ a * c ∧ a * c ≤ b * d :=
  ⟨Int.mul_nonneg ha hc, Int.le_trans (Int.mul_le_mul_of_nonneg_right hab hc) (Int.mul_le_mul_of_nonneg_left hcd (by omega))⟩
set_option maxRecDepth 100000 in
theorem truth_any {A : Option Addr} {n cp : Nat} {u : Nat → Int} {f : Nat → Int} {w : World} (i : Nat) (hi : i ≤ 1000000) (hn : n ≤ cp) (hU : U32 n u) (hf : packOk f = true) (hR : RdR w 1 A n (fun k => [.int .u32 (u k)])) :
    Calls Tryz.prog 24 #[.agg (packL f).toArray, .slice A n cp, .int .i64 (i : Int)] w (Ret w (.tuple #[.int .i64 (1000 * truM f n u i), .int .i64 (truL f n u i)])) := by
  obtain ⟨⟨h1, h2, h3, h4, h5, h6, h7⟩, hkind⟩ := (packOk_iff f).1 hf
  have hM := insV_in (c := chU n u i) h2
  have hcM := chU_in hU i
  have hcH := chU_in hU (i + 1)
  have hcC := chU_in hU (i + 2)
  have hH : f 3 ≤ f 4 := by omega
  have hC : f 5 ≤ f 6 := by omega
  have hK : f 7 ≤ f 8 := by omega
  have hH' := insV_in (c := chU n u (i + 1)) hH
  have hC' := insV_in (c := chU n u (i + 2)) hC
  have hK' := insV_in (c := chU n u (i + 2)) hK
  have m1 := mul_mono (a := insV (f 1) (f 2) (chU n u i)) (b := 1000000) (c := insV (f 5) (f 6) (chU n u (i + 2))) (d := 1000) (by omega) (by omega) (by omega) (by omega)
  have m2 := mul_mono (a := insV (f 7) (f 8) (chU n u (i + 2))) (b := 1000000) (c := f 10) (d := 100000) (by omega) (by omega) (by omega) (by omega)
  have m3 : 1000 * insV (f 7) (f 8) (chU n u (i + 2)) * f 10 = 1000 * (insV (f 7) (f 8) (chU n u (i + 2)) * f 10) := Int.mul_assoc ..
  have m4 : 1000 * insV (f 1) (f 2) (chU n u i) / 1000 = insV (f 1) (f 2) (chU n u i) := by omega
  have m5 : 1000 * insV (f 1) (f 2) (chU n u i) / 1000 * insV (f 5) (f 6) (chU n u (i + 2)) = insV (f 1) (f 2) (chU n u i) * insV (f 5) (f 6) (chU n u (i + 2)) := by rw [m4]
  refine K_enter (S := []) (K := []) Tryz.func24 rfl Tryz.ntmps24 rfl (Sat.start _) ?_
  refine TW.seq fun Y1 hY1 => ?_
  refine TW.region ?_
  refine TL.m Mk.bx ?_
  intro b1
  refine TL.p Pu.as ?_
  refine TL.p Pu.as ?_
  refine TL.nil ?_
  refine TQ.thenN (hY1 _ _ ?_)
  refine TW.seq fun Y2 hY2 => ?_
  refine TW.dw 8 ?_
  refine RK.tk (by first | exact Pu.fb ty_fa45_1 | exact Pu.fe ty_fa45_1) ?_
  refine RK.tk (Pu.lds ty_ag43) ?_
  refine RK.tk Pu.mv ?_
  refine RK.tk Pu.mv ?_
  refine RK.keep ?_
  refine RK.keep ?_
  refine RK.keep ?_
  refine RK.keep ?_
  refine RK.ch [false, false, true, true] ?_ trivial
  refine WK.cr rfl (enters Tryz.func26 rfl rfl) (fun w hw => by
      exact choose_any i (by omega) hn (hR.sat hw Apart.nil)) ?_
  refine WK.cr rfl (enters Tryz.func25 rfl rfl) (fun w hw => by
      exact inside_any (by omega) hcM) ?_
  refine WK.p Pu.ml ?_
  refine WK.p Pu.as ?_
  refine WK.n ?_
  refine TL.nil ?_
  refine TQ.thenN (hY2 _ _ ?_)
  refine TW.seq fun Y3 hY3 => ?_
  refine TW.seq fun Y4 hY4 => ?_
  refine TW.region ?_
  refine TL.p (by first | exact Pu.fb ty_fa45_0 | exact Pu.fe ty_fa45_0) ?_
  refine TL.p (Pu.ld ty_sc5) ?_
  refine TL.nil ?_
  refine TQ.thenN (hY4 _ _ ?_)
  refine TW.block ?_
  refine TW.seq fun Y5 hY5 => ?_
  refine TW.region ?_
  refine TL.p Pu.eq ?_
  refine TL.p Pu.as ?_
  refine TL.nil ?_
  refine TQ.thenN (hY5 _ _ ?_)
  refine TW.cond rfl (fun hc0 => ?_) (fun hc0 => ?_)
  · try simp only [decide_eq_true_eq, decide_eq_false_iff_not, Bool.not_eq_true', Bool.not_eq_false', Bool.and_eq_true, Bool.or_eq_true, Bool.and_eq_false_iff, Bool.or_eq_false_iff, Int.not_lt, Int.not_le] at hc0
    refine TW.seq fun Y6 hY6 => ?_
    refine TW.dw 10 ?_
    refine RK.tk (by first | exact Pu.fb ty_fa45_5 | exact Pu.fe ty_fa45_5) ?_
    refine RK.tk (Pu.ld ty_sc3) ?_
    refine RK.tk (by first | exact Pu.fb ty_fa45_2 | exact Pu.fe ty_fa45_2) ?_
    refine RK.tk (Pu.lds ty_ag43) ?_
    refine RK.tk Pu.mv ?_
    refine RK.tk Pu.mv ?_
    refine RK.tk Pu.ad ?_
    refine RK.keep ?_
    refine RK.keep ?_
    refine RK.keep ?_
    refine RK.ch [false, false, true] ?_ trivial
    refine WK.cr rfl (enters Tryz.func26 rfl rfl) (fun w hw => by
        exact choose_any (i + 1) (by omega) hn (hR.sat hw Apart.nil)) ?_
    refine WK.cr rfl (enters Tryz.func25 rfl rfl) (fun w hw => by
        exact inside_any (by omega) hcH) ?_
    refine WK.p Pu.ge ?_
    refine WK.n ?_
    refine TL.nil ?_
    refine TQ.thenN (hY6 _ _ ?_)
    refine TW.cond rfl (fun hc1 => ?_) (fun hc1 => ?_)
    · try simp only [decide_eq_true_eq, decide_eq_false_iff_not, Bool.not_eq_true', Bool.not_eq_false', Bool.and_eq_true, Bool.or_eq_true, Bool.and_eq_false_iff, Bool.or_eq_false_iff, Int.not_lt, Int.not_le] at hc1
      refine TW.dw 11 ?_
      refine RK.tk Pu.mv ?_
      refine RK.tk Pu.qu ?_
      refine RK.tk (by first | exact Pu.fb ty_fa45_3 | exact Pu.fe ty_fa45_3) ?_
      refine RK.tk (Pu.lds ty_ag43) ?_
      refine RK.tk Pu.mv ?_
      refine RK.tk Pu.mv ?_
      refine RK.tk Pu.ad ?_
      refine RK.keep ?_
      refine RK.keep ?_
      refine RK.keep ?_
      refine RK.keep ?_
      refine RK.ch [false, false, true, true] ?_ trivial
      refine WK.cr rfl (enters Tryz.func26 rfl rfl) (fun w hw => by
          exact choose_any (i + 2) (by omega) hn (hR.sat hw Apart.nil)) ?_
      refine WK.cr rfl (enters Tryz.func25 rfl rfl) (fun w hw => by
          exact inside_any (by omega) hcC) ?_
      refine WK.p Pu.ml ?_
      refine WK.p Pu.as ?_
      refine WK.n ?_
      refine TL.nil ?_
      refine TQ.blkN ?_
      refine TQ.thenN (hY3 _ _ ?_)
      refine TW.seq fun Y7 hY7 => ?_
      refine TW.region ?_
      refine TL.p Pu.mv ?_
      refine TL.p Pu.mv ?_
      refine TL.p Pu.as ?_
      refine TL.p Pu.as ?_
      refine TL.nil ?_
      refine TQ.thenN (hY7 _ _ ?_)
      refine TW.ret ?_
      refine TQ.ret Tryz.results24 rfl ((.tmp rfl (.tmp rfl .nil))) ?_
      exact fun w hw => ⟨by unfold truL truM truH truC; rw [if_pos hc0, if_pos hc1, ← m5]; rfl, Chg.ext hw.chg⟩
    · try simp only [decide_eq_true_eq, decide_eq_false_iff_not, Bool.not_eq_true', Bool.not_eq_false', Bool.and_eq_true, Bool.or_eq_true, Bool.and_eq_false_iff, Bool.or_eq_false_iff, Int.not_lt, Int.not_le] at hc1
      refine TW.skip ?_
      refine TQ.blkN ?_
      refine TQ.thenN (hY3 _ _ ?_)
      refine TW.seq fun Y8 hY8 => ?_
      refine TW.region ?_
      refine TL.p Pu.mv ?_
      refine TL.p Pu.mv ?_
      refine TL.p Pu.as ?_
      refine TL.p Pu.as ?_
      refine TL.nil ?_
      refine TQ.thenN (hY8 _ _ ?_)
      refine TW.ret ?_
      refine TQ.ret Tryz.results24 rfl ((.tmp rfl (.tmp rfl .nil))) ?_
      exact fun w hw => ⟨by unfold truL truM truH truC; rw [if_pos hc0, if_neg (by omega)]; rfl, Chg.ext hw.chg⟩
  · try simp only [decide_eq_true_eq, decide_eq_false_iff_not, Bool.not_eq_true', Bool.not_eq_false', Bool.and_eq_true, Bool.or_eq_true, Bool.and_eq_false_iff, Bool.or_eq_false_iff, Int.not_lt, Int.not_le] at hc0
    refine TW.seq fun Y9 hY9 => ?_
    refine TW.region ?_
    refine TL.p Pu.eq ?_
    refine TL.p Pu.as ?_
    refine TL.nil ?_
    refine TQ.thenN (hY9 _ _ ?_)
    refine TW.cond rfl (fun hc2 => ?_) (fun hc2 => ?_)
    · try simp only [decide_eq_true_eq, decide_eq_false_iff_not, Bool.not_eq_true', Bool.not_eq_false', Bool.and_eq_true, Bool.or_eq_true, Bool.and_eq_false_iff, Bool.or_eq_false_iff, Int.not_lt, Int.not_le] at hc2
      refine TW.dw 14 ?_
      refine RK.tk Pu.mv ?_
      refine RK.tk (by first | exact Pu.fb ty_fa45_4 | exact Pu.fe ty_fa45_4) ?_
      refine RK.tk (Pu.lds ty_ag43) ?_
      refine RK.tk Pu.mv ?_
      refine RK.tk Pu.mv ?_
      refine RK.tk Pu.ad ?_
      refine RK.keep ?_
      refine RK.keep ?_
      refine RK.keep ?_
      refine RK.tk (by first | exact Pu.fb ty_fa45_6 | exact Pu.fe ty_fa45_6) ?_
      refine RK.tk (Pu.ld ty_sc3) ?_
      refine RK.keep ?_
      refine RK.keep ?_
      refine RK.keep ?_
      refine RK.ch [false, false, true, true, true, true] ?_ trivial
      refine WK.cr rfl (enters Tryz.func26 rfl rfl) (fun w hw => by
          exact choose_any (i + 2) (by omega) hn (hR.sat hw Apart.nil)) ?_
      refine WK.cr rfl (enters Tryz.func25 rfl rfl) (fun w hw => by
          exact inside_any (by omega) hcC) ?_
      refine WK.p Pu.ml ?_
      refine WK.p Pu.ml ?_
      refine WK.p Pu.mn ?_
      refine WK.p Pu.as ?_
      refine WK.n ?_
      refine TL.nil ?_
      refine TQ.blkN ?_
      refine TQ.thenN (hY3 _ _ ?_)
      refine TW.seq fun Y10 hY10 => ?_
      refine TW.region ?_
      refine TL.p Pu.mv ?_
      refine TL.p Pu.mv ?_
      refine TL.p Pu.as ?_
      refine TL.p Pu.as ?_
      refine TL.nil ?_
      refine TQ.thenN (hY10 _ _ ?_)
      refine TW.ret ?_
      refine TQ.ret Tryz.results24 rfl ((.tmp rfl (.tmp rfl .nil))) ?_
      exact fun w hw => ⟨by unfold truL truM truK; rw [if_neg hc0, if_pos hc2]; rfl, Chg.ext hw.chg⟩
    · try simp only [decide_eq_true_eq, decide_eq_false_iff_not, Bool.not_eq_true', Bool.not_eq_false', Bool.and_eq_true, Bool.or_eq_true, Bool.and_eq_false_iff, Bool.or_eq_false_iff, Int.not_lt, Int.not_le] at hc2
      refine TW.skip ?_
      refine TQ.blkN ?_
      refine TQ.thenN (hY3 _ _ ?_)
      refine TW.seq fun Y11 hY11 => ?_
      refine TW.region ?_
      refine TL.p Pu.mv ?_
      refine TL.p Pu.mv ?_
      refine TL.p Pu.as ?_
      refine TL.p Pu.as ?_
      refine TL.nil ?_
      refine TQ.thenN (hY11 _ _ ?_)
      refine TW.ret ?_
      refine TQ.ret Tryz.results24 rfl ((.tmp rfl (.tmp rfl .nil))) ?_
      exact fun w hw => ⟨by unfold truL truM; rw [if_neg hc0, if_neg hc2]; rfl, Chg.ext hw.chg⟩
end Go.Proofs.YtjephihlkjpohaaGreatDoor
namespace Go.Proofs.YtjephihlkjpohaaGreatDoor
set_option linter.all false
set_option linter.unusedVariables false
set_option linter.unusedSimpArgs false
theorem lo_mul {a b m c k : Int} (h0 : 0 ≤ a) (h1 : a ≤ m) (h2 : c ≤ b) (h3 : b ≤ 1000) (hm : 0 ≤ m) : a * (1000 - b) ≤ 1000 * m - m * c := by
  have e1 : 1000 * m - m * c = m * (1000 - c) := by rw [Int.mul_sub, Int.mul_comm 1000 m]
  rw [e1]
  exact (mul_mono (b := m) (d := 1000 - c) h0 h1 (by omega) (by omega)).2
theorem hi_mul {a b m c : Int} (h1 : m ≤ a) (h2 : b ≤ c) (h3 : c ≤ 1000) (hm : 0 ≤ m) : 1000 * m - m * c ≤ a * (1000 - b) := by
  have e1 : 1000 * m - m * c = m * (1000 - c) := by rw [Int.mul_sub, Int.mul_comm 1000 m]
  rw [e1]
  exact (mul_mono (b := a) (d := 1000 - b) hm h1 (by omega) (by omega)).2
structure TruthIn (f : Nat → Int) (m L : Int) (br : Prop) (v : List Int) : Prop where
  a0 : 0 ≤ v.getD 0 0
  a1 : v.getD 0 0 ≤ v.getD 1 0
  a2 : v.getD 1 0 ≤ f 2
  b0 : 0 ≤ v.getD 2 0
  b1 : v.getD 2 0 ≤ v.getD 3 0
  b2 : v.getD 3 0 ≤ f 2
  l0 : 1000 * v.getD 0 0 ≤ 1000 * m - L
  l1 : 1000 * m - L ≤ 1000 * v.getD 1 0
  g0 : 1000 * v.getD 2 0 ≤ L
  g1 : L ≤ 1000 * v.getD 3 0
  k0 : 0 ≤ v.getD 4 0
  k1 : v.getD 4 0 ≤ 2
  k2 : v.getD 4 0 = 2 → br
  k3 : v.getD 4 0 = 0 → ¬ br
theorem truth_in {f : Nat → Int} {n : Nat} {u : Nat → Int} (i : Nat) (hf : packOk f = true) :
    TruthIn f (truM f n u i) (truL f n u i) (f 0 = 1 ∧ truH f n u i ≤ f 9) (restV f) := by
  obtain ⟨⟨h1, h2, h3, h4, h5, h6, h7⟩, hkind⟩ := (packOk_iff f).1 hf
  have hM : f 1 ≤ truM f n u i ∧ truM f n u i ≤ f 2 := insV_in h2
  have hH : f 3 ≤ truH f n u i ∧ truH f n u i ≤ f 4 := insV_in (by omega)
  have hC : f 5 ≤ truC f n u i ∧ truC f n u i ≤ f 6 := insV_in (by omega)
  have hK : f 7 ≤ truK f n u i ∧ truK f n u i ≤ f 8 := insV_in (by omega)
  unfold truL restV
  generalize truM f n u i = m at *
  generalize truH f n u i = hd at *
  generalize truC f n u i = c at *
  generalize truK f n u i = k at *
  rcases hkind with hk | hk | hk
  · -- a slab
    have hm0 : 0 ≤ m := by omega
    have e1 := lo_mul (a := f 1) (b := f 6) (m := m) (c := c) (k := 0) h1 hM.1 hC.2 (by omega) hm0
    have e2 := hi_mul (a := f 2) (b := f 5) (m := m) (c := c) hM.2 hC.1 (by omega) hm0
    have e3 := mul_mono (a := f 1) (b := m) (c := f 5) (d := c) h1 hM.1 (by omega) hC.1
    have e4 := mul_mono (a := m) (b := f 2) (c := c) (d := f 6) hm0 hM.2 (by omega) hC.2
    have e5 := lo_mul (a := f 1) (b := f 6) (m := f 1) (c := 0) (k := 0) h1 (Int.le_refl _) (by omega) (by omega) h1
    have e6 := mul_mono (a := f 1) (b := f 2) (c := 1000 - f 6) (d := 1000 - f 5) h1 h2 (by omega) (by omega)
    have e7 := mul_mono (a := f 1) (b := f 2) (c := f 5) (d := f 6) h1 h2 (by omega) (by omega)
    have e8 : f 2 * f 6 ≤ f 2 * 1000 := Int.mul_le_mul_of_nonneg_left (by omega) (by omega)
    have e9 : f 2 * (1000 - f 5) ≤ f 2 * 1000 := Int.mul_le_mul_of_nonneg_left (by omega) (by omega)
    rw [if_pos hk.1, if_neg (by omega : ¬ f 0 = 3)]
    by_cases hb : hd ≤ f 9
    · rw [if_pos hb]
      rw [if_neg (by omega : ¬ (f 0 = 2 ∨ f 9 < f 3))]
      split
      · constructor <;> simp only [List.getD_cons_zero, List.getD_cons_succ] <;> omega
      · constructor <;> simp only [List.getD_cons_zero, List.getD_cons_succ] <;> omega
    · rw [if_neg hb]
      split
      · constructor <;> simp only [List.getD_cons_zero, List.getD_cons_succ] <;> omega
      · rw [if_pos (by omega : f 9 < f 4)]
        constructor <;> simp only [List.getD_cons_zero, List.getD_cons_succ] <;> omega
  · rw [if_neg (by omega : ¬ f 0 = 1), if_neg (by omega : ¬ f 0 = 3), if_neg (by omega : ¬ f 0 = 3), if_pos (.inl hk.1)]
    constructor <;> simp only [List.getD_cons_zero, List.getD_cons_succ] <;> omega
  · have e1 := mul_mono (a := f 7) (b := k) (c := f 10) (d := f 10) (by omega) hK.1 h6 (Int.le_refl _)
    have e2 := mul_mono (a := k) (b := f 8) (c := f 10) (d := f 10) (by omega) hK.2 h6 (Int.le_refl _)
    have e3 : 1000 * k * f 10 = 1000 * (k * f 10) := Int.mul_assoc ..
    rw [if_neg (by omega : ¬ f 0 = 1), if_pos hk.1, if_pos hk.1, e3]
    generalize k * f 10 = x at *
    generalize f 7 * f 10 = y at *
    generalize f 8 * f 10 = z at *
    constructor <;> simp only [List.getD_cons_zero, List.getD_cons_succ] <;> omega
end Go.Proofs.YtjephihlkjpohaaGreatDoor
namespace Go.Proofs.YtjephihlkjpohaaGreatDoor
set_option linter.all false
set_option linter.unusedVariables false
set_option linter.unusedSimpArgs false
section
variable (pk : Nat → Nat → Int) (n : Nat) (u : Nat → Int)
def truW (f : Nat → Int) (i : Nat) : Int := 1000 * truM f n u i - truL f n u i
def trS (i : Nat) (v : Nat → Int) (k : Nat) : Int := sumF (fun q => truW n u (pk (v q).toNat) (i + 3 * q)) k
end
theorem trS_succ {pk : Nat → Nat → Int} {n i k : Nat} {u v : Nat → Int} : trS pk n u i v (k + 1) = trS pk n u i v k + truW n u (pk (v k).toNat) (i + 3 * k) := rfl
theorem sumF_scale {g : Nat → Int} : ∀ n : Nat, sumF (fun k => 1000 * g k) n = 1000 * sumF g n
  | 0 => rfl
  | n + 1 => by simp only [sumF]; rw [sumF_scale n]; omega
theorem truW_in {f : Nat → Int} {n : Nat} {u : Nat → Int} (i : Nat) (hf : packOk f = true) : 1000 * rl f ≤ truW n u f i ∧ truW n u f i ≤ 1000 * rh f :=
  have T := truth_in (n := n) (u := u) i hf
  ⟨T.l0, T.l1⟩
theorem tru_in {f : Nat → Int} {n : Nat} {u : Nat → Int} (i : Nat) (hf : packOk f = true) : 0 ≤ truM f n u i ∧ truM f n u i ≤ 1000000 ∧ 0 ≤ truL f n u i ∧ truL f n u i ≤ 1000000000 := by
  have T := truth_in (n := n) (u := u) i hf
  obtain ⟨⟨h1, h2, h3, h4, h5, h6, h7⟩, hkind⟩ := (packOk_iff f).1 hf
  have hM : f 1 ≤ truM f n u i ∧ truM f n u i ≤ f 2 := insV_in h2
  obtain ⟨_, _, _, b0, b1, b2, _, _, g0, g1, _, _, _, _⟩ := T
  omega
theorem trS_in {pk : Nat → Nat → Int} {np n i : Nat} {u v : Nat → Int} (hp : ∀ q, q < np → packOk (pk q) = true) : ∀ {k : Nat}, Inx v k np → 1000 * wlo pk v k ≤ trS pk n u i v k ∧ trS pk n u i v k ≤ 1000 * whi pk v k := fun {k} hv => by
  unfold trS wlo whi wS
  rw [← sumF_scale, ← sumF_scale]
  refine ⟨sumF_mono fun q hq => ?_, sumF_mono fun q hq => ?_⟩
  · have := hv q hq
    exact (truW_in _ (hp _ (by omega))).1
  · have := hv q hq
    exact (truW_in _ (hp _ (by omega))).2
theorem trS_bd {pk : Nat → Nat → Int} {np n i : Nat} {u v : Nat → Int} (hp : ∀ q, q < np → packOk (pk q) = true) {k : Nat} (hk : k ≤ 1000) (hv : Inx v k np) : 0 ≤ trS pk n u i v k ∧ trS pk n u i v k ≤ 1000000000000 := by
  have h1 := trS_in (n := n) (u := u) (i := i) hp hv
  have h2 := (RestOk.of_packs hp).wS hv hk
  unfold wlo whi at h1
  omega
end Go.Proofs.YtjephihlkjpohaaGreatDoor
namespace Go.Proofs.YtjephihlkjpohaaGreatDoor
set_option linter.all false
set_option linter.unusedVariables false
set_option linter.unusedSimpArgs false
theorem upD_ge {a b : Int} (hb : 0 < b) : a / b ≤ upD a b := Int.ediv_le_ediv hb (by omega)
theorem car_in {f g : Nat → Int} (h : camCode f g = 0) : 0 ≤ canLo f g ∧ canLo f g ≤ canHi f g ∧ canHi f g ≤ 1000000 := by
  obtain ⟨h1, h2⟩ := camCode_ok h
  have hb := (breedOk_iff f).1 h1
  have hg := (camOk_iff f g).1 h2
  have hf := fit_bd h1 h2
  have l0 : 2000 * g 0 / f 0 ≤ upD (2000 * g 1) (f 0) := Int.le_trans (Int.ediv_le_ediv (by omega) (by omega)) (upD_ge (by omega))
  have l1 : 2000 * g 2 / f 1 ≤ upD (2000 * g 3) (f 1) := Int.le_trans (Int.ediv_le_ediv (by omega) (by omega)) (upD_ge (by omega))
  have l2 : fitLo f g ≤ fitHi f g := by unfold fitLo fitHi; omega
  have m := mul_mono (a := f 15) (b := f 16) (c := fitLo f g) (d := fitHi f g) (by omega) (by omega) (by omega) l2
  have m2 := mul_mono (a := f 16) (b := 1000000) (c := fitHi f g) (d := 1000) (by omega) (by omega) (by omega) (by omega)
  unfold canLo canHi carLo carHi upD
  rw [if_pos h, if_pos h]
  generalize f 15 * fitLo f g = x at *
  generalize f 16 * fitHi f g = y at *
  omega
section
variable {np n : Nat} {pk : Nat → Nat → Int} {l : Nat → Nat} {v : Nat → Nat → Int} {u : Nat → Int} {b : Int} {f g : Nat → Int}
theorem bears_in (hc : check1 np pk l v = 0) : ∃ L0 H0 L1 H1 La Ha : Int, sidesR np pk l v = [L0, H0, L1, H1, La, Ha] ∧ 1000 * La ≤ trS pk n u 0 (catI l v) (tot l 3) ∧ trS pk n u 0 (catI l v) (tot l 3) ≤ 1000 * Ha ∧ 0 ≤ La ∧ La ≤ Ha ∧ Ha ≤ 1000000000 ∧
    (camCode f g ≠ 0 → readyC np pk l v b f g = camCode f g ∧ readyR np pk l v b f g = 0) ∧ (camCode f g = 0 → readyC np pk l v b f g = askedV np pk l v b) ∧ (askedV np pk l v b = 0 ∨ askedV np pk l v b = 2) ∧
    (camCode f g = 0 → askedV np pk l v b = 0 → readyR np pk l v b f g = readyV (balR np pk l v b) La Ha (canLo f g) (canHi f g)) ∧ (balR np pk l v b = 0 ∨ balR np pk l v b = 1 ∨ balR np pk l v b = 2) := by
  obtain ⟨k1, k2, k3, k4⟩ := check1_ok hc
  have hi := inx_cat k3
  have t := trS_in (n := n) (u := u) (i := 0) k2 hi
  have w := (RestOk.of_packs k2).wS hi (show tot l 3 ≤ 1000 by omega)
  refine ⟨_, _, _, _, _, _, by unfold sidesR; rw [if_pos hc], t.1, t.2, w.1, w.2.1, w.2.2, fun he => ?_, fun he => ?_, ?_, fun he ha => ?_, ?_⟩
  · have e : readyC np pk l v b f g = camCode f g := by unfold readyC; rw [if_pos hc, if_neg he]
    exact ⟨e, by unfold readyR; rw [e, if_neg he]⟩
  · unfold readyC askedV; rw [if_pos hc, if_pos hc, if_pos he]
  · unfold askedV; rw [if_pos hc]; split <;> simp
  · have e : readyC np pk l v b f g = 0 := by rw [← ha]; unfold readyC askedV; rw [if_pos hc, if_pos hc, if_pos he]
    unfold readyR readyF balR canLo canHi
    rw [if_pos e, if_pos ha, if_pos he, if_pos he]
  · unfold balR
    split
    · exact balV_form _ _ _ _ _
    · exact .inl rfl
end
theorem ready_in {bal wl wh cl ch T s : Int} (h1 : T ≤ 1000 * wh) (hb : bal = 0 ∨ bal = 1 ∨ bal = 2) (hs : cl ≤ s ∧ s ≤ ch) : 0 ≤ readyV bal wl wh cl ch ∧ readyV bal wl wh cl ch ≤ 2 ∧ (readyV bal wl wh cl ch = 2 → T ≤ 1000 * s ∧ bal = 2) ∧ (readyV bal wl wh cl ch = 0 → bal = 0 ∨ ch < wl) ∧ (readyV bal wl wh cl ch = 1 → bal ≠ 0) := by
  unfold readyV
  split
  · omega
  · split <;> omega
end Go.Proofs.YtjephihlkjpohaaGreatDoor
namespace Go.Proofs.YtjephihlkjpohaaGreatDoor
set_option linter.all false
set_option linter.unusedVariables false
set_option linter.unusedSimpArgs false
open Go.RowKit
theorem great_no {np m : Nat} {l : Nat → Nat → Nat} (h : greatB np m l = false) : np ≤ 40 ∧ m ≤ 12 ∧ ∀ i, i < m → tot (l i) 3 ≤ 48 := by
  simp only [greatB, Bool.or_eq_false_iff, decide_eq_false_iff_not, anyB_false] at h
  refine ⟨by omega, by omega, fun i hi => ?_⟩
  have := h.2 i hi
  simp only [bigT, Bool.or_eq_false_iff, decide_eq_false_iff_not] at this
  rw [tot3]
  omega
end Go.Proofs.YtjephihlkjpohaaGreatDoor
