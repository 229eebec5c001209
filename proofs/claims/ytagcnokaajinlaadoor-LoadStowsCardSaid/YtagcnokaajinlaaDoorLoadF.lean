/-
  load: valid, Rest.
-/
import Derived.Test.YtagcnokaajinlaaDoorLoadE
namespace Go.Proofs.YtagcnokaajinlaaDoor
set_option linter.all false
set_option linter.unusedVariables false
set_option linter.unusedSimpArgs false
open Go.RowKit
theorem valid_kind (f : Nat → Int) (g h : Nat) (vk : Bool) (w : World) (hG : None0 w) (hl : mlook (f 0) sortsL = some (sortV g h)) (hen : Enters Tryd.prog g) (hg : ∀ w', None0 w' → Calls Tryd.prog g #[.agg (packL f).toArray] w' (Ret w' (.bool vk))) :
    Calls Tryd.prog 25 #[.agg (packL f).toArray] w (Ret w (.bool (vk && ordB5 0 1000000 (f 1) (f 2) && inB5 0 6000000 (f 9) && inB5 0 100000 (f 10)))) := by
  refine K_enter (S := []) (K := []) Tryd.func25 rfl Tryd.ntmps25 rfl (Sat.start _) ?_
  refine TW.seq fun Y1 hY1 => ?_
  refine TW.region ?_
  refine TL.m Mk.bx ?_
  intro b1
  refine TL.p Pu.as ?_
  refine TL.nil ?_
  refine TQ.thenN (hY1 _ _ ?_)
  refine TW.seq fun Y2 hY2 => ?_
  refine TW.expl (fun (⟨bm, x7⟩ : Nat × Nat) => ([(3, .pointer (some ⟨x7, 0, none⟩)), (4, .bool true), (1, .pointer (some ⟨b1, 0, none⟩)), (2, .bool false)] : Fr)) (fun (⟨bm, x7⟩ : Nat × Nat) => [.blk x7 75 [fnV g, fnV h], .blk b1 25 (packL f)]) Drop.done ?_ (fun hE => ?_)
  · rintro ⟨bm, x7⟩
    refine TQ.thenN (hY2 _ _ ?_)
    refine TW.seq fun Y3 hY3 => ?_
    refine TW.join [(2, .bool (vk && ordB5 0 1000000 (f 1) (f 2) && inB5 0 6000000 (f 9) && inB5 0 100000 (f 10)))] ?_ (fun hJ1 => ?_)
    · refine TQ.thenN (hY3 _ _ ?_)
      refine TW.ret ?_
      refine TQ.ret Tryd.results25 rfl ((.tmp rfl .nil)) ?_
      exact fun w hw => Ret.of hw
    refine TW.region ?_
    refine TL.p Pu.mv ?_
    refine TL.p Pu.mv ?_
    refine TL.lit (t := 13) (b' := true) rfl (rfl) ?_
    refine TL.gd (by first | exact Pu.fb ty_fa75_0 | exact Pu.fe ty_fa75_0) ?_
    refine TL.gd (Pu.ld ty_sc71) ?_
    refine TL.gd (Pu.lds ty_ag25) ?_
    refine TL.cv rfl rfl hen (fun w hw => by
        exact hg w (hG.sat hw (by simp))) ?_
    refine TL.p Pu.kt ?_
    refine TL.p Pu.mv ?_
    refine TL.guard (t := 19) rfl (fun hg1 => ?_) (fun hg1 => ?_)
    · refine TL.gd (by first | exact Pu.fb ty_fa25_1 | exact Pu.fe ty_fa25_1) ?_
      refine TL.gd (Pu.lds ty_ag23) ?_
      refine TL.cr rfl (enters Tryd.func61 rfl rfl) (fun w hw => by
          exact proper_any _ _ _ _ _) ?_
      refine TL.p Pu.kt ?_
      refine TL.p Pu.mv ?_
      refine TL.guard (t := 24) rfl (fun hg2 => ?_) (fun hg2 => ?_)
      · refine TL.gd (by first | exact Pu.fb ty_fa25_5 | exact Pu.fe ty_fa25_5) ?_
        refine TL.gd (Pu.ld ty_sc3) ?_
        refine TL.gm Mk.bl ?_
        intro b2
        refine TL.cr rfl (enters Tryd.func33 rfl rfl) (fun w hw => by
            exact inOne_any _ _ _ (hw.holds _ (List.mem_cons_self ..))) ?_
        refine TL.p Pu.kt ?_
        refine TL.p Pu.mv ?_
        refine TL.guard (t := 30) rfl (fun hg3 => ?_) (fun hg3 => ?_)
        · refine TL.gd (by first | exact Pu.fb ty_fa25_6 | exact Pu.fe ty_fa25_6) ?_
          refine TL.gd (Pu.ld ty_sc3) ?_
          refine TL.gm Mk.bl ?_
          intro b3
          refine TL.cr rfl (enters Tryd.func33 rfl rfl) (fun w hw => by
              exact inOne_any _ _ _ (hw.holds _ (List.mem_cons_self ..))) ?_
          refine TL.p Pu.kt ?_
          refine TL.p Pu.as ?_
          refine TL.nil ?_
          exact TQ.sub (by repeat (first | exact trivial | refine ⟨rfl, ?_⟩ | refine ⟨trivial, ?_⟩ | refine ⟨(by show some (Value.bool _) = some (Value.bool _); simp [hg1, hg2, hg3]), ?_⟩)) (by repeat (first | exact KSub.nil | refine KSub.cons (by repeat (first | exact Pick.hd | apply Pick.tl)) ?_)) hJ1
        · refine TL.gs ?_
          refine TL.gs ?_
          refine TL.gs ?_
          refine TL.gs ?_
          refine TL.p Pu.kf ?_
          refine TL.p Pu.as ?_
          refine TL.nil ?_
          exact TQ.sub (by repeat (first | exact trivial | refine ⟨rfl, ?_⟩ | refine ⟨trivial, ?_⟩ | refine ⟨(by show some (Value.bool _) = some (Value.bool _); simp [hg1, hg2, hg3]), ?_⟩)) (by repeat (first | exact KSub.nil | refine KSub.cons (by repeat (first | exact Pick.hd | apply Pick.tl)) ?_)) hJ1
      · refine TL.gs ?_
        refine TL.gs ?_
        refine TL.gs ?_
        refine TL.gs ?_
        refine TL.p Pu.kf ?_
        refine TL.p Pu.mv ?_
        refine TL.gs ?_
        refine TL.gs ?_
        refine TL.gs ?_
        refine TL.gs ?_
        refine TL.p Pu.kf ?_
        refine TL.p Pu.as ?_
        refine TL.nil ?_
        exact TQ.sub (by repeat (first | exact trivial | refine ⟨rfl, ?_⟩ | refine ⟨trivial, ?_⟩ | refine ⟨(by show some (Value.bool _) = some (Value.bool _); simp [hg1, hg2]), ?_⟩)) (by repeat (first | exact KSub.nil | refine KSub.cons (by repeat (first | exact Pick.hd | apply Pick.tl)) ?_)) hJ1
    · refine TL.gs ?_
      refine TL.gs ?_
      refine TL.gs ?_
      refine TL.p Pu.kf ?_
      refine TL.p Pu.mv ?_
      refine TL.gs ?_
      refine TL.gs ?_
      refine TL.gs ?_
      refine TL.gs ?_
      refine TL.p Pu.kf ?_
      refine TL.p Pu.mv ?_
      refine TL.gs ?_
      refine TL.gs ?_
      refine TL.gs ?_
      refine TL.gs ?_
      refine TL.p Pu.kf ?_
      refine TL.p Pu.as ?_
      refine TL.nil ?_
      exact TQ.sub (by repeat (first | exact trivial | refine ⟨rfl, ?_⟩ | refine ⟨trivial, ?_⟩ | refine ⟨(by show some (Value.bool _) = some (Value.bool _); simp [hg1]), ?_⟩)) (by repeat (first | exact KSub.nil | refine KSub.cons (by repeat (first | exact Pick.hd | apply Pick.tl)) ?_)) hJ1
  refine RG.tk 1 rfl (by first | exact Pu.fb ty_fa25_0 | exact Pu.fe ty_fa25_0) ?_
  refine RG.tk 2 rfl (Pu.ld ty_sc5) ?_
  refine RG.a2 0 7 rfl rfl (fun X0 hX0 => ?_) (fun X7 hX7 => ?_)
  · refine TL.call (M := []) rfl (enters Tryd.func26 rfl rfl) (List.Perm.refl _) rfl (fun w hw => by
        exact sorts_any w) ?_
    intro bm
    refine TL.nil ?_
    refine TQ.nxt (hX0 _ _ (by repeat (first | exact HasL.nil | refine HasL.cons (by repeat (first | exact Pick.hd | apply Pick.tl)) ?_)) ?_)
    refine RG.a2 3 7 rfl rfl (fun X3 hX3 => ?_) (fun X7 hX7 => ?_)
    · refine TL.p (Pu.lkS ty_mp76 ty_zv75 hl) ?_
      refine TL.nil ?_
      refine TQ.nxt (hX3 _ _ (by repeat (first | exact HasL.nil | refine HasL.cons (by repeat (first | exact Pick.hd | apply Pick.tl)) ?_)) ?_)
      refine RG.tk 4 rfl Pu.mv ?_
      refine RG.tk 5 rfl Pu.ex ?_
      refine RG.tk 6 rfl Pu.ex ?_
      refine RG.a1 7 rfl (fun X7 hX7 => ?_)
      refine TL.m (Mk.al ty_zr75) ?_
      intro x7
      refine TL.nil ?_
      refine TQ.nxt (hX7 _ _ (by repeat (first | exact HasL.nil | refine HasL.cons (by repeat (first | exact Pick.hd | apply Pick.tl)) ?_)) ?_)
      refine RG.a1 8 rfl (fun X8 hX8 => ?_)
      first | refine TL.st ty_sz75 ?_ | refine TL.se ty_sz75 ?_
      refine TL.nil ?_
      refine TQ.nxt (hX8 _ _ (by repeat (first | exact HasL.nil | refine HasL.cons (by repeat (first | exact Pick.hd | apply Pick.tl)) ?_)) ?_)
      refine RG.tk 9 rfl Pu.as ?_
      exact RG.nil (TQ.sub (by repeat (first | exact trivial | refine ⟨rfl, ?_⟩ | refine ⟨trivial, ?_⟩)) (by repeat (first | exact KSub.nil | refine KSub.cons (by repeat (first | exact Pick.hd | apply Pick.tl)) ?_ | exact KSub.refl _ | exact KSub.drop (KSub.refl _))) (hE ⟨bm, x7⟩)) (by kernel_rfl)
    · refine TL.m (Mk.al ty_zr75) ?_
      intro x7
      refine TL.nil ?_
      refine TQ.nxt (hX7 _ _ (by repeat (first | exact HasL.nil | refine HasL.cons (by repeat (first | exact Pick.hd | apply Pick.tl)) ?_)) ?_)
      refine RG.a1 3 rfl (fun X3 hX3 => ?_)
      refine TL.p (Pu.lkS ty_mp76 ty_zv75 hl) ?_
      refine TL.nil ?_
      refine TQ.nxt (hX3 _ _ (by repeat (first | exact HasL.nil | refine HasL.cons (by repeat (first | exact Pick.hd | apply Pick.tl)) ?_)) ?_)
      refine RG.tk 4 rfl Pu.mv ?_
      refine RG.tk 5 rfl Pu.ex ?_
      refine RG.tk 6 rfl Pu.ex ?_
      refine RG.a1 8 rfl (fun X8 hX8 => ?_)
      first | refine TL.st ty_sz75 ?_ | refine TL.se ty_sz75 ?_
      refine TL.nil ?_
      refine TQ.nxt (hX8 _ _ (by repeat (first | exact HasL.nil | refine HasL.cons (by repeat (first | exact Pick.hd | apply Pick.tl)) ?_)) ?_)
      refine RG.tk 9 rfl Pu.as ?_
      exact RG.nil (TQ.sub (by repeat (first | exact trivial | refine ⟨rfl, ?_⟩ | refine ⟨trivial, ?_⟩)) (by repeat (first | exact KSub.nil | refine KSub.cons (by repeat (first | exact Pick.hd | apply Pick.tl)) ?_ | exact KSub.refl _ | exact KSub.drop (KSub.refl _))) (hE ⟨bm, x7⟩)) (by kernel_rfl)
  · refine TL.m (Mk.al ty_zr75) ?_
    intro x7
    refine TL.nil ?_
    refine TQ.nxt (hX7 _ _ (by repeat (first | exact HasL.nil | refine HasL.cons (by repeat (first | exact Pick.hd | apply Pick.tl)) ?_)) ?_)
    refine RG.a1 0 rfl (fun X0 hX0 => ?_)
    refine TL.call (M := []) rfl (enters Tryd.func26 rfl rfl) (List.Perm.refl _) rfl (fun w hw => by
        exact sorts_any w) ?_
    intro bm
    refine TL.nil ?_
    refine TQ.nxt (hX0 _ _ (by repeat (first | exact HasL.nil | refine HasL.cons (by repeat (first | exact Pick.hd | apply Pick.tl)) ?_)) ?_)
    refine RG.a1 3 rfl (fun X3 hX3 => ?_)
    refine TL.p (Pu.lkS ty_mp76 ty_zv75 hl) ?_
    refine TL.nil ?_
    refine TQ.nxt (hX3 _ _ (by repeat (first | exact HasL.nil | refine HasL.cons (by repeat (first | exact Pick.hd | apply Pick.tl)) ?_)) ?_)
    refine RG.tk 4 rfl Pu.mv ?_
    refine RG.tk 5 rfl Pu.ex ?_
    refine RG.tk 6 rfl Pu.ex ?_
    refine RG.a1 8 rfl (fun X8 hX8 => ?_)
    first | refine TL.st ty_sz75 ?_ | refine TL.se ty_sz75 ?_
    refine TL.nil ?_
    refine TQ.nxt (hX8 _ _ (by repeat (first | exact HasL.nil | refine HasL.cons (by repeat (first | exact Pick.hd | apply Pick.tl)) ?_)) ?_)
    refine RG.tk 9 rfl Pu.as ?_
    exact RG.nil (TQ.sub (by repeat (first | exact trivial | refine ⟨rfl, ?_⟩ | refine ⟨trivial, ?_⟩)) (by repeat (first | exact KSub.nil | refine KSub.cons (by repeat (first | exact Pick.hd | apply Pick.tl)) ?_ | exact KSub.refl _ | exact KSub.drop (KSub.refl _))) (hE ⟨bm, x7⟩)) (by kernel_rfl)
theorem valid_none (f : Nat → Int) (w : World) (hl : mlook (f 0) sortsL = none) :
    Calls Tryd.prog 25 #[.agg (packL f).toArray] w (Ret w (.bool false)) := by
  refine K_enter (S := []) (K := []) Tryd.func25 rfl Tryd.ntmps25 rfl (Sat.start _) ?_
  refine TW.seq fun Y1 hY1 => ?_
  refine TW.region ?_
  refine TL.m Mk.bx ?_
  intro b1
  refine TL.p Pu.as ?_
  refine TL.nil ?_
  refine TQ.thenN (hY1 _ _ ?_)
  refine TW.seq fun Y2 hY2 => ?_
  refine TW.expl (fun (⟨bm, x7⟩ : Nat × Nat) => ([(3, .pointer (some ⟨x7, 0, none⟩)), (4, .bool false), (1, .pointer (some ⟨b1, 0, none⟩)), (2, .bool false)] : Fr)) (fun (⟨bm, x7⟩ : Nat × Nat) => [.blk x7 75 [.nilFunc, .nilFunc], .blk b1 25 (packL f)]) Drop.done ?_ (fun hE => ?_)
  · rintro ⟨bm, x7⟩
    refine TQ.thenN (hY2 _ _ ?_)
    refine TW.seq fun Y3 hY3 => ?_
    refine TW.region ?_
    refine TL.p Pu.mv ?_
    refine TL.p Pu.mv ?_
    refine TL.lit (t := 13) (b' := false) rfl (rfl) ?_
    refine TL.gs ?_
    refine TL.gs ?_
    refine TL.gs ?_
    refine TL.gs ?_
    refine TL.p Pu.kf ?_
    refine TL.p Pu.mv ?_
    refine TL.gs ?_
    refine TL.gs ?_
    refine TL.gs ?_
    refine TL.p Pu.kf ?_
    refine TL.p Pu.mv ?_
    refine TL.gs ?_
    refine TL.gs ?_
    refine TL.gs ?_
    refine TL.gs ?_
    refine TL.p Pu.kf ?_
    refine TL.p Pu.mv ?_
    refine TL.gs ?_
    refine TL.gs ?_
    refine TL.gs ?_
    refine TL.gs ?_
    refine TL.p Pu.kf ?_
    refine TL.p Pu.as ?_
    refine TL.nil ?_
    refine TQ.thenN (hY3 _ _ ?_)
    refine TW.ret ?_
    refine TQ.ret Tryd.results25 rfl ((.tmp rfl .nil)) ?_
    exact fun w hw => Ret.of hw
  refine RG.tk 1 rfl (by first | exact Pu.fb ty_fa25_0 | exact Pu.fe ty_fa25_0) ?_
  refine RG.tk 2 rfl (Pu.ld ty_sc5) ?_
  refine RG.a2 0 7 rfl rfl (fun X0 hX0 => ?_) (fun X7 hX7 => ?_)
  · refine TL.call (M := []) rfl (enters Tryd.func26 rfl rfl) (List.Perm.refl _) rfl (fun w hw => by
        exact sorts_any w) ?_
    intro bm
    refine TL.nil ?_
    refine TQ.nxt (hX0 _ _ (by repeat (first | exact HasL.nil | refine HasL.cons (by repeat (first | exact Pick.hd | apply Pick.tl)) ?_)) ?_)
    refine RG.a2 3 7 rfl rfl (fun X3 hX3 => ?_) (fun X7 hX7 => ?_)
    · refine TL.p (Pu.lkN ty_mp76 ty_zv75 hl) ?_
      refine TL.nil ?_
      refine TQ.nxt (hX3 _ _ (by repeat (first | exact HasL.nil | refine HasL.cons (by repeat (first | exact Pick.hd | apply Pick.tl)) ?_)) ?_)
      refine RG.tk 4 rfl Pu.mv ?_
      refine RG.tk 5 rfl Pu.ex ?_
      refine RG.tk 6 rfl Pu.ex ?_
      refine RG.a1 7 rfl (fun X7 hX7 => ?_)
      refine TL.m (Mk.al ty_zr75) ?_
      intro x7
      refine TL.nil ?_
      refine TQ.nxt (hX7 _ _ (by repeat (first | exact HasL.nil | refine HasL.cons (by repeat (first | exact Pick.hd | apply Pick.tl)) ?_)) ?_)
      refine RG.a1 8 rfl (fun X8 hX8 => ?_)
      first | refine TL.st ty_sz75 ?_ | refine TL.se ty_sz75 ?_
      refine TL.nil ?_
      refine TQ.nxt (hX8 _ _ (by repeat (first | exact HasL.nil | refine HasL.cons (by repeat (first | exact Pick.hd | apply Pick.tl)) ?_)) ?_)
      refine RG.tk 9 rfl Pu.as ?_
      exact RG.nil (TQ.sub (by repeat (first | exact trivial | refine ⟨rfl, ?_⟩ | refine ⟨trivial, ?_⟩)) (by repeat (first | exact KSub.nil | refine KSub.cons (by repeat (first | exact Pick.hd | apply Pick.tl)) ?_ | exact KSub.refl _ | exact KSub.drop (KSub.refl _))) (hE ⟨bm, x7⟩)) (by kernel_rfl)
    · refine TL.m (Mk.al ty_zr75) ?_
      intro x7
      refine TL.nil ?_
      refine TQ.nxt (hX7 _ _ (by repeat (first | exact HasL.nil | refine HasL.cons (by repeat (first | exact Pick.hd | apply Pick.tl)) ?_)) ?_)
      refine RG.a1 3 rfl (fun X3 hX3 => ?_)
      refine TL.p (Pu.lkN ty_mp76 ty_zv75 hl) ?_
      refine TL.nil ?_
      refine TQ.nxt (hX3 _ _ (by repeat (first | exact HasL.nil | refine HasL.cons (by repeat (first | exact Pick.hd | apply Pick.tl)) ?_)) ?_)
      refine RG.tk 4 rfl Pu.mv ?_
      refine RG.tk 5 rfl Pu.ex ?_
      refine RG.tk 6 rfl Pu.ex ?_
      refine RG.a1 8 rfl (fun X8 hX8 => ?_)
      first | refine TL.st ty_sz75 ?_ | refine TL.se ty_sz75 ?_
      refine TL.nil ?_
      refine TQ.nxt (hX8 _ _ (by repeat (first | exact HasL.nil | refine HasL.cons (by repeat (first | exact Pick.hd | apply Pick.tl)) ?_)) ?_)
      refine RG.tk 9 rfl Pu.as ?_
      exact RG.nil (TQ.sub (by repeat (first | exact trivial | refine ⟨rfl, ?_⟩ | refine ⟨trivial, ?_⟩)) (by repeat (first | exact KSub.nil | refine KSub.cons (by repeat (first | exact Pick.hd | apply Pick.tl)) ?_ | exact KSub.refl _ | exact KSub.drop (KSub.refl _))) (hE ⟨bm, x7⟩)) (by kernel_rfl)
  · refine TL.m (Mk.al ty_zr75) ?_
    intro x7
    refine TL.nil ?_
    refine TQ.nxt (hX7 _ _ (by repeat (first | exact HasL.nil | refine HasL.cons (by repeat (first | exact Pick.hd | apply Pick.tl)) ?_)) ?_)
    refine RG.a1 0 rfl (fun X0 hX0 => ?_)
    refine TL.call (M := []) rfl (enters Tryd.func26 rfl rfl) (List.Perm.refl _) rfl (fun w hw => by
        exact sorts_any w) ?_
    intro bm
    refine TL.nil ?_
    refine TQ.nxt (hX0 _ _ (by repeat (first | exact HasL.nil | refine HasL.cons (by repeat (first | exact Pick.hd | apply Pick.tl)) ?_)) ?_)
    refine RG.a1 3 rfl (fun X3 hX3 => ?_)
    refine TL.p (Pu.lkN ty_mp76 ty_zv75 hl) ?_
    refine TL.nil ?_
    refine TQ.nxt (hX3 _ _ (by repeat (first | exact HasL.nil | refine HasL.cons (by repeat (first | exact Pick.hd | apply Pick.tl)) ?_)) ?_)
    refine RG.tk 4 rfl Pu.mv ?_
    refine RG.tk 5 rfl Pu.ex ?_
    refine RG.tk 6 rfl Pu.ex ?_
    refine RG.a1 8 rfl (fun X8 hX8 => ?_)
    first | refine TL.st ty_sz75 ?_ | refine TL.se ty_sz75 ?_
    refine TL.nil ?_
    refine TQ.nxt (hX8 _ _ (by repeat (first | exact HasL.nil | refine HasL.cons (by repeat (first | exact Pick.hd | apply Pick.tl)) ?_)) ?_)
    refine RG.tk 9 rfl Pu.as ?_
    exact RG.nil (TQ.sub (by repeat (first | exact trivial | refine ⟨rfl, ?_⟩ | refine ⟨trivial, ?_⟩)) (by repeat (first | exact KSub.nil | refine KSub.cons (by repeat (first | exact Pick.hd | apply Pick.tl)) ?_ | exact KSub.refl _ | exact KSub.drop (KSub.refl _))) (hE ⟨bm, x7⟩)) (by kernel_rfl)
theorem valid_any (f : Nat → Int) (w : World) (hG : None0 w) :
    Calls Tryd.prog 25 #[.agg (packL f).toArray] w (Ret w (.bool (packOk f))) := by
  have e1 : f 0 = 1 → packOk f = (kind1 f && ordB5 0 1000000 (f 1) (f 2) && inB5 0 6000000 (f 9) && inB5 0 100000 (f 10)) := fun h => by
    unfold packOk kind1; rw [if_pos h, Bool.eq_iff_iff]; simp only [Bool.and_eq_true]; constructor <;> (intro h; simp only [h, and_self])
  have e2 : f 0 = 2 → packOk f = (kind2 f && ordB5 0 1000000 (f 1) (f 2) && inB5 0 6000000 (f 9) && inB5 0 100000 (f 10)) := fun h => by
    unfold packOk kind2; rw [if_neg (by omega), if_pos h, Bool.eq_iff_iff]; simp only [Bool.and_eq_true]; constructor <;> (intro h; simp only [h, and_self])
  have e3 : f 0 = 3 → packOk f = (kind3 f && ordB5 0 1000000 (f 1) (f 2) && inB5 0 6000000 (f 9) && inB5 0 100000 (f 10)) := fun h => by
    unfold packOk kind3; rw [if_neg (by omega), if_neg (by omega), Bool.eq_iff_iff]; simp only [h, decide_true, Bool.true_and, Bool.and_eq_true]; constructor <;> (intro h; simp only [h, and_self])
  have e4 : f 0 ≠ 1 → f 0 ≠ 2 → f 0 ≠ 3 → packOk f = false := fun h1 h2 h3 => by
    unfold packOk; rw [if_neg h1, if_neg h2]; simp [h3]
  by_cases h1 : f 0 = 1
  · rw [e1 h1]
    exact valid_kind f 62 63 _ w hG (by rw [h1]; rfl) (enters Tryd.func62 rfl rfl) fun w' h' => sorts1_any f w' h'
  · by_cases h2 : f 0 = 2
    · rw [e2 h2]
      exact valid_kind f 64 65 _ w hG (by rw [h2]; rfl) (enters Tryd.func64 rfl rfl) fun w' h' => sorts2_any f w' h'
    · by_cases h3 : f 0 = 3
      · rw [e3 h3]
        exact valid_kind f 66 67 _ w hG (by rw [h3]; rfl) (enters Tryd.func66 rfl rfl) fun w' h' => sorts3_any f w' h'
      · rw [e4 h1 h2 h3]
        exact valid_none f w (by simp [sortsL, mlook, h1, h2, h3])
set_option maxRecDepth 100000 in
theorem rest_kind (f : Nat → Int) (g h : Nat) (w : World) (hG : None0 w) (hk : packOk f = true) (hl : mlook (f 0) sortsL = some (sortV h g)) (hen : Enters Tryd.prog g) (hg : ∀ w', None0 w' → Calls Tryd.prog g #[.agg (packL f).toArray] w' (Ret w' (.tuple (restC (restV f)).toArray))) :
    Calls Tryd.prog 8 #[.agg (packL f).toArray] w (Ret w (.tuple (restK f).toArray)) := by
  refine K_enter (S := []) (K := []) Tryd.func8 rfl Tryd.ntmps8 rfl (Sat.start _) ?_
  refine TW.seq fun Y1 hY1 => ?_
  refine TW.region ?_
  refine TL.m Mk.bx ?_
  intro b1
  refine TL.m (Mk.al ty_zr23) ?_
  intro b2
  refine TL.m (Mk.al ty_zr23) ?_
  intro b3
  refine TL.p Pu.as ?_
  refine TL.p Pu.as ?_
  refine TL.nil ?_
  refine TQ.thenN (hY1 _ _ ?_)
  refine TW.seq fun Y2 hY2 => ?_
  refine TW.seq fun Y3 hY3 => ?_
  refine TW.region ?_
  refine TL.p (Pu.lds ty_ag25) ?_
  refine TL.cr rfl (enters Tryd.func25 rfl rfl) (fun w hw => by
      exact valid_any f w (hG.sat hw (by simp))) ?_
  refine TL.p Pu.no ?_
  refine TL.nil ?_
  refine TQ.thenN (hY3 _ _ ?_)
  refine TW.cond rfl (fun hc0 => ?_) (fun hc0 => ?_)
  · try simp only [decide_eq_true_eq, decide_eq_false_iff_not, Bool.not_eq_true', Bool.not_eq_false', Bool.and_eq_true, Bool.or_eq_true, Bool.and_eq_false_iff, Bool.or_eq_false_iff, Int.not_lt, Int.not_le] at hc0
    have hf0 : packOk f = false := hc0
    exact absurd (hk.symm.trans hf0) (by decide)
  · try simp only [decide_eq_true_eq, decide_eq_false_iff_not, Bool.not_eq_true', Bool.not_eq_false', Bool.and_eq_true, Bool.or_eq_true, Bool.and_eq_false_iff, Bool.or_eq_false_iff, Int.not_lt, Int.not_le] at hc0
    refine TW.skip ?_
    refine TQ.thenN (hY2 _ _ ?_)
    refine TW.seq fun Y4 hY4 => ?_
    refine TW.ex0 (Drop.blk 2 rfl (by repeat (first | exact Pick.hd | apply Pick.tl)) (Drop.blk 3 rfl (by repeat (first | exact Pick.hd | apply Pick.tl)) Drop.done)) ?_
    refine RG.tk 1 rfl (by first | exact Pu.fb ty_fa25_0 | exact Pu.fe ty_fa25_0) ?_
    refine RG.tk 2 rfl (Pu.ld ty_sc5) ?_
    refine RG.tk 5 rfl (Pu.lds ty_ag25) ?_
    refine RG.a1 0 rfl (fun X0 hX0 => ?_)
    refine TL.call (M := []) rfl (enters Tryd.func26 rfl rfl) (List.Perm.refl _) rfl (fun w hw => by
        exact sorts_any w) ?_
    intro bm
    refine TL.nil ?_
    refine TQ.nxt (hX0 _ _ (by repeat (first | exact HasL.nil | refine HasL.cons (by repeat (first | exact Pick.hd | apply Pick.tl)) ?_)) ?_)
    refine RG.a1 3 rfl (fun X3 hX3 => ?_)
    refine TL.p (Pu.l1S ty_mp76 ty_zv75 hl) ?_
    refine TL.nil ?_
    refine TQ.nxt (hX3 _ _ (by repeat (first | exact HasL.nil | refine HasL.cons (by repeat (first | exact Pick.hd | apply Pick.tl)) ?_)) ?_)
    refine RG.tk 4 rfl Pu.fd ?_
    refine RG.a1 6 rfl (fun X6 hX6 => ?_)
    refine TL.cv rfl rfl hen (fun w hw => by
        exact hg w (hG.sat hw (by simp))) ?_
    refine TL.nil ?_
    refine TQ.nxt (hX6 _ _ (by repeat (first | exact HasL.nil | refine HasL.cons (by repeat (first | exact Pick.hd | apply Pick.tl)) ?_)) ?_)
    refine RG.tk 7 rfl Pu.mv ?_
    refine RG.tk 8 rfl Pu.ex ?_
    refine RG.tk 9 rfl Pu.ex ?_
    refine RG.tk 10 rfl Pu.ex ?_
    refine RG.a1 11 rfl (fun X11 hX11 => ?_)
    first | refine TL.st ty_sz23 ?_ | refine TL.se ty_sz23 ?_
    refine TL.nil ?_
    refine TQ.nxt (hX11 _ _ (by repeat (first | exact HasL.nil | refine HasL.cons (by repeat (first | exact Pick.hd | apply Pick.tl)) ?_)) ?_)
    refine RG.a1 12 rfl (fun X12 hX12 => ?_)
    first | refine TL.st ty_sz23 ?_ | refine TL.se ty_sz23 ?_
    refine TL.nil ?_
    refine TQ.nxt (hX12 _ _ (by repeat (first | exact HasL.nil | refine HasL.cons (by repeat (first | exact Pick.hd | apply Pick.tl)) ?_)) ?_)
    refine RG.tk 13 rfl Pu.as ?_
    refine RG.nil ?_ (by kernel_rfl)
    refine TQ.thenN (hY4 _ _ ?_)
    refine TW.seq fun Y5 hY5 => ?_
    refine TW.rf Drop.done ?_
    refine RF.tk (Pu.lds ty_ag23) ?_
    refine RF.tk (Pu.lds ty_ag23) ?_
    refine RF.tk Pu.mv ?_
    refine RF.ks ?_
    refine RF.ks ?_
    refine RF.ks ?_
    refine RF.ks ?_
    refine RF.go ?_
    refine RG.step fun X1 hX1 => ?_
    first | refine TL.st ty_sz23 ?_ | refine TL.se ty_sz23 ?_
    refine TL.nil ?_
    refine TQ.nxt (hX1 _ _ (by repeat (first | exact HasL.nil | refine HasL.cons (by repeat (first | exact Pick.hd | apply Pick.tl)) ?_)) ?_)
    refine RG.step fun X2 hX2 => ?_
    first | refine TL.st ty_sz23 ?_ | refine TL.se ty_sz23 ?_
    refine TL.nil ?_
    refine TQ.nxt (hX2 _ _ (by repeat (first | exact HasL.nil | refine HasL.cons (by repeat (first | exact Pick.hd | apply Pick.tl)) ?_)) ?_)
    refine RG.step fun X3 hX3 => ?_
    refine TL.p Pu.as ?_
    refine TL.nil ?_
    refine TQ.nxt (hX3 _ _ (by repeat (first | exact HasL.nil | refine HasL.cons (by repeat (first | exact Pick.hd | apply Pick.tl)) ?_)) ?_)
    refine RG.step fun X4 hX4 => ?_
    refine TL.p Pu.as ?_
    refine TL.nil ?_
    refine TQ.nxt (hX4 _ _ (by repeat (first | exact HasL.nil | refine HasL.cons (by repeat (first | exact Pick.hd | apply Pick.tl)) ?_)) ?_)
    refine RG.nil ?_
    refine TQ.thenN (hY5 _ _ ?_)
    refine TW.ret ?_
    refine TQ.ret Tryd.results8 rfl ((RV.cs ty_ag23 (RV.cs ty_ag23 (.tmp rfl (.tmp rfl .nil))))) ?_
    exact fun w hw => ⟨by unfold restK; rw [hk]; rfl, Chg.ext hw.chg⟩
set_option maxRecDepth 100000 in
theorem rest_no (f : Nat → Int) (w : World) (hG : None0 w) (hk : packOk f = false) :
    Calls Tryd.prog 8 #[.agg (packL f).toArray] w (Ret w (.tuple (restK f).toArray)) := by
  refine K_enter (S := []) (K := []) Tryd.func8 rfl Tryd.ntmps8 rfl (Sat.start _) ?_
  refine TW.seq fun Y1 hY1 => ?_
  refine TW.region ?_
  refine TL.m Mk.bx ?_
  intro b1
  refine TL.m (Mk.al ty_zr23) ?_
  intro b2
  refine TL.m (Mk.al ty_zr23) ?_
  intro b3
  refine TL.p Pu.as ?_
  refine TL.p Pu.as ?_
  refine TL.nil ?_
  refine TQ.thenN (hY1 _ _ ?_)
  refine TW.seq fun Y2 hY2 => ?_
  refine TW.seq fun Y3 hY3 => ?_
  refine TW.region ?_
  refine TL.p (Pu.lds ty_ag25) ?_
  refine TL.cr rfl (enters Tryd.func25 rfl rfl) (fun w hw => by
      exact valid_any f w (hG.sat hw (by simp))) ?_
  refine TL.p Pu.no ?_
  refine TL.nil ?_
  refine TQ.thenN (hY3 _ _ ?_)
  refine TW.condT rfl ((by rw [hk]; rfl)) ?_
  refine TW.seq fun Y4 hY4 => ?_
  refine TW.rf (Drop.blk 2 rfl (by repeat (first | exact Pick.hd | apply Pick.tl)) (Drop.blk 3 rfl (by repeat (first | exact Pick.hd | apply Pick.tl)) Drop.done)) ?_
  refine RF.tk (Pu.ldso ty_ag23) ?_
  refine RF.tk (Pu.ldso ty_ag23) ?_
  refine RF.ks ?_
  refine RF.ks ?_
  refine RF.ks ?_
  refine RF.ks ?_
  refine RF.go ?_
  refine RG.step fun X1 hX1 => ?_
  first | refine TL.st ty_sz23 ?_ | refine TL.se ty_sz23 ?_
  refine TL.nil ?_
  refine TQ.nxt (hX1 _ _ (by repeat (first | exact HasL.nil | refine HasL.cons (by repeat (first | exact Pick.hd | apply Pick.tl)) ?_)) ?_)
  refine RG.step fun X2 hX2 => ?_
  first | refine TL.st ty_sz23 ?_ | refine TL.se ty_sz23 ?_
  refine TL.nil ?_
  refine TQ.nxt (hX2 _ _ (by repeat (first | exact HasL.nil | refine HasL.cons (by repeat (first | exact Pick.hd | apply Pick.tl)) ?_)) ?_)
  refine RG.step fun X3 hX3 => ?_
  refine TL.p Pu.as ?_
  refine TL.nil ?_
  refine TQ.nxt (hX3 _ _ (by repeat (first | exact HasL.nil | refine HasL.cons (by repeat (first | exact Pick.hd | apply Pick.tl)) ?_)) ?_)
  refine RG.step fun X4 hX4 => ?_
  refine TL.p Pu.as ?_
  refine TL.nil ?_
  refine TQ.nxt (hX4 _ _ (by repeat (first | exact HasL.nil | refine HasL.cons (by repeat (first | exact Pick.hd | apply Pick.tl)) ?_)) ?_)
  refine RG.nil ?_
  refine TQ.thenN (hY4 _ _ ?_)
  refine TW.ret ?_
  refine TQ.thenR ?_
  refine TQ.ret Tryd.results8 rfl ((RV.cs ty_ag23 (RV.cs ty_ag23 (.tmp rfl (.tmp rfl .nil))))) ?_
  exact fun w hw => ⟨by unfold restK; rw [hk]; rfl, Chg.ext hw.chg⟩
theorem rest_any (f : Nat → Int) (w : World) (hG : None0 w) :
    Calls Tryd.prog 8 #[.agg (packL f).toArray] w (Ret w (.tuple (restK f).toArray)) := by
  cases hk : packOk f with
  | false => exact rest_no f w hG hk
  | true =>
    rcases ((packOk_iff f).1 hk).2 with h | h | h
    · exact rest_kind f 63 62 w hG hk (by rw [h.1]; rfl) (enters Tryd.func63 rfl rfl) fun w' h' => slab_any f w' h' hk h.1
    · exact rest_kind f 65 64 w hG hk (by rw [h.1]; rfl) (enters Tryd.func65 rfl rfl) fun w' h' => bale_any f w' h' h.1
    · exact rest_kind f 67 66 w hG hk (by rw [h.1]; rfl) (enters Tryd.func67 rfl rfl) fun w' _ => skin_any f w' hk h.1
end Go.Proofs.YtagcnokaajinlaaDoor
