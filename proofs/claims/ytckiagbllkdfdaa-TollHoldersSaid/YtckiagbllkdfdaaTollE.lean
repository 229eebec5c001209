/-
  toll's and the reference's check of customs.
-/
import Derived.Test.YtckiagbllkdfdaaTollD
namespace Go.Proofs.Ytckiagbllkdfdaa
set_option linter.all false
set_option linter.unusedVariables false
set_option linter.unusedSimpArgs false
open Go.RowKit
/-- Customs as they lie. -/
structure CustIn (w : World) (C : Option Addr) (nc : Nat) (D : Option Addr) (nd : Nat) (B : Option Addr) (nb : Nat) (c : Nat → (Nat → Int) × Bool) (d b : Nat → Nat → Int) : Prop where
  hnc : nc ≤ 1000
  hnd : nd ≤ 1000
  hnb : nb ≤ 1000
  hC : RdR w 7 C nc (fun k => claimL (c k))
  hD : RdR w 4 D nd (fun k => feudL (d k))
  hB : RdR w 3 B nb (fun k => borderL (b k))
theorem CustIn.ext {w w' : World} {C D B : Option Addr} {nc nd nb : Nat} {c : Nat → (Nat → Int) × Bool} {d b : Nat → Nat → Int} (h : CustIn w C nc D nd B nb c d b) (hb : Below w.heap.size w w') : CustIn w' C nc D nd B nb c d b :=
  ⟨h.hnc, h.hnd, h.hnb, h.hC.chg (Chg.of_ext hb) Apart.nil, h.hD.chg (Chg.of_ext hb) Apart.nil, h.hB.chg (Chg.of_ext hb) Apart.nil⟩
def custC (nl nc nd nb : Nat) (c : Nat → (Nat → Int) × Bool) (d b : Nat → Nat → Int) : Int :=
  if ((allB nc fun k => claimOk nl (c k)) && !decide (30 < (nc : Int))) = false then 70
  else if ((allB nd fun k => feudOk (d k)) && !decide (20 < (nd : Int))) = false then 71
  else if ((allB nb fun k => borderOk nl (b k)) && !decide (20 < (nb : Int))) = false then 72 else 0
def checkC (nw nl : Nat) (f : Nat → Nat → Int) (x : Nat → Leg) (g : Nat → Nat → Nat → Int) (nc nd nb : Nat) (c : Nat → (Nat → Int) × Bool) (d b : Nat → Nat → Int) : Int :=
  if landOk nw nl f x g then custC nl nc nd nb c d b else 30
theorem legNo_any {W A : Option Addr} {nw cw nl cl b : Nat} (a : Int) (w : World) (hl : nl ≤ 1000) (h1 : OldB w b (landL W nw cw A nl cl)) :
    Calls Try.prog 22 #[.int .i64 a, .pointer (some ⟨b, 0, none⟩)] w (Ret w (.bool (inB5 0 ((nl : Int) - 1) a))) := by
  unfold landL at h1
  refine K_enter (S := []) (K := []) Try.func22 rfl Try.ntmps22 rfl (Sat.start _) ?_
  refine TW.seq fun Y1 hY1 => ?_
  refine TW.region ?_
  refine TL.p Pu.as ?_
  refine TL.nil ?_
  refine TQ.thenN (hY1 _ _ ?_)
  refine TW.seq fun Y2 hY2 => ?_
  refine TW.region ?_
  refine TL.p Pu.mv ?_
  refine TL.p (by first | exact Pu.fb ty_fa25_1 | exact Pu.fe ty_fa25_1) ?_
  refine TL.p (by first | exact (Pu.ld ty_sc23) | exact (Pu.ldo ty_sc23)) ?_
  refine TL.p (Pu.ln Try.underlying23) ?_
  refine TL.p Pu.sb ?_
  refine TL.cr rfl (enters Try.func17 rfl rfl) (fun w hw => by
      exact in_any _ _ _ _) ?_
  refine TL.p Pu.as ?_
  refine TL.nil ?_
  refine TQ.thenN (hY2 _ _ ?_)
  refine TW.ret ?_
  refine TQ.ret Try.results22 rfl ((.tmp rfl .nil)) ?_
  exact fun w hw => Ret.of hw
theorem checkClaim_any (x : (Nat → Int) × Bool) {W A : Option Addr} {nw cw nl cl b b' : Nat} (w : World) (hl : nl ≤ 1000) (h1 : OldB w b (landL W nw cw A nl cl)) (h2 : OldB w b' [.func (.func 22) #[] #[.pointer (some ⟨b, 0, none⟩)]]) :
    Calls Try.prog 24 #[.agg (claimL x).toArray, .pointer (some ⟨b', 0, none⟩)] w (Ret w (.bool (claimOk nl x))) := by
  refine K_enter (S := []) (K := []) Try.func24 rfl Try.ntmps24 rfl (Sat.start _) ?_
  refine TW.seq fun Y1 hY1 => ?_
  refine TW.region ?_
  refine TL.m Mk.bx ?_
  intro b1
  refine TL.p Pu.as ?_
  refine TL.nil ?_
  refine TQ.thenN (hY1 _ _ ?_)
  refine TW.seq fun Y2 hY2 => ?_
  refine TW.join [(3, .bool (claimOk nl x))] ?_ (fun hJ1 => ?_)
  · refine TQ.thenN (hY2 _ _ ?_)
    refine TW.ret ?_
    refine TQ.ret Try.results24 rfl ((.tmp rfl .nil)) ?_
    exact fun w hw => Ret.of hw
  refine TW.region ?_
  refine TL.p (by first | exact (Pu.ld ty_sc65) | exact (Pu.ldo ty_sc65)) ?_
  refine TL.p (by first | exact Pu.fb ty_fa62_0 | exact Pu.fe ty_fa62_0) ?_
  refine TL.p (by first | exact (Pu.ld ty_sc3) | exact (Pu.ldo ty_sc3)) ?_
  refine TL.cv rfl rfl (enters Try.func22 rfl rfl) (fun w hw => by
      exact legNo_any _ _ hl (h1.ext (Chg.ext hw.chg))) ?_
  refine TL.p Pu.mv ?_
  refine TL.guard (t := 8) rfl (fun hg1 => ?_) (fun hg1 => ?_)
  · refine TL.gd (by first | exact Pu.fb ty_fa62_1 | exact Pu.fe ty_fa62_1) ?_
    refine TL.gd (by first | exact (Pu.ld ty_sc3) | exact (Pu.ldo ty_sc3)) ?_
    refine TL.cr rfl (enters Try.func25 rfl rfl) (fun w hw => by
        exact tribe_any _ _) ?_
    refine TL.p Pu.kt ?_
    refine TL.p Pu.mv ?_
    refine TL.guard (t := 13) rfl (fun hg2 => ?_) (fun hg2 => ?_)
    · refine TL.gd (by first | exact (Pu.lds ty_ag62) | exact (Pu.ldso ty_ag62)) ?_
      refine TL.gd Pu.fc ?_
      refine TL.cr rfl (enters Try.func26 rfl rfl) (fun w hw => by
          exact lasts_any _ claimMeth (enters Try.func82 rfl rfl) (fun w => claimDays_any x w)) ?_
      refine TL.p Pu.kt ?_
      refine TL.p Pu.mv ?_
      refine TL.guard (t := 18) rfl (fun hg3 => ?_) (fun hg3 => ?_)
      · refine TL.gd (by first | exact Pu.fb ty_fa62_4 | exact Pu.fe ty_fa62_4) ?_
        refine TL.gd (by first | exact (Pu.ld ty_sc3) | exact (Pu.ldo ty_sc3)) ?_
        refine TL.cr rfl (enters Try.func17 rfl rfl) (fun w hw => by
            exact in_any _ _ _ _) ?_
        refine TL.p Pu.kt ?_
        refine TL.p Pu.mv ?_
        refine TL.guard (t := 23) rfl (fun hg4 => ?_) (fun hg4 => ?_)
        · refine TL.gd (by first | exact Pu.fb ty_fa62_5 | exact Pu.fe ty_fa62_5) ?_
          refine TL.gd (by first | exact (Pu.ld ty_sc3) | exact (Pu.ldo ty_sc3)) ?_
          refine TL.cr rfl (enters Try.func17 rfl rfl) (fun w hw => by
              exact in_any _ _ _ _) ?_
          refine TL.p Pu.kt ?_
          refine TL.p Pu.as ?_
          refine TL.nil ?_
          exact TQ.sub (by repeat (first | exact trivial | refine ⟨rfl, ?_⟩ | refine ⟨trivial, ?_⟩ | refine ⟨(by show some (Value.bool _) = some (Value.bool _); simp [hg1, hg2, hg3, hg4, claimOk]), ?_⟩)) (by repeat (first | exact KSub.nil | refine KSub.cons (by repeat (first | exact Pick.hd | apply Pick.tl)) ?_)) hJ1
        · refine TL.gs ?_
          refine TL.gs ?_
          refine TL.gs ?_
          refine TL.p Pu.kf ?_
          refine TL.p Pu.as ?_
          refine TL.nil ?_
          exact TQ.sub (by repeat (first | exact trivial | refine ⟨rfl, ?_⟩ | refine ⟨trivial, ?_⟩ | refine ⟨(by show some (Value.bool _) = some (Value.bool _); simp [hg1, hg2, hg3, hg4, claimOk]), ?_⟩)) (by repeat (first | exact KSub.nil | refine KSub.cons (by repeat (first | exact Pick.hd | apply Pick.tl)) ?_)) hJ1
      · refine TL.gs ?_
        refine TL.gs ?_
        refine TL.gs ?_
        refine TL.p Pu.kf ?_
        refine TL.p Pu.mv ?_
        refine TL.gs ?_
        refine TL.gs ?_
        refine TL.gs ?_
        refine TL.p Pu.kf ?_
        refine TL.p Pu.as ?_
        refine TL.nil ?_
        exact TQ.sub (by repeat (first | exact trivial | refine ⟨rfl, ?_⟩ | refine ⟨trivial, ?_⟩ | refine ⟨(by show some (Value.bool _) = some (Value.bool _); simp [hg1, hg2, hg3, claimOk]), ?_⟩)) (by repeat (first | exact KSub.nil | refine KSub.cons (by repeat (first | exact Pick.hd | apply Pick.tl)) ?_)) hJ1
    · refine TL.gs ?_
      refine TL.gs ?_
      refine TL.gs ?_
      refine TL.p Pu.kf ?_
      refine TL.p Pu.mv ?_
      refine TL.gs ?_
      refine TL.gs ?_
      refine TL.gs ?_
      refine TL.p Pu.kf ?_
      refine TL.p Pu.mv ?_
      refine TL.gs ?_
      refine TL.gs ?_
      refine TL.gs ?_
      refine TL.p Pu.kf ?_
      refine TL.p Pu.as ?_
      refine TL.nil ?_
      exact TQ.sub (by repeat (first | exact trivial | refine ⟨rfl, ?_⟩ | refine ⟨trivial, ?_⟩ | refine ⟨(by show some (Value.bool _) = some (Value.bool _); simp [hg1, hg2, claimOk]), ?_⟩)) (by repeat (first | exact KSub.nil | refine KSub.cons (by repeat (first | exact Pick.hd | apply Pick.tl)) ?_)) hJ1
  · refine TL.gs ?_
    refine TL.gs ?_
    refine TL.gs ?_
    refine TL.p Pu.kf ?_
    refine TL.p Pu.mv ?_
    refine TL.gs ?_
    refine TL.gs ?_
    refine TL.gs ?_
    refine TL.p Pu.kf ?_
    refine TL.p Pu.mv ?_
    refine TL.gs ?_
    refine TL.gs ?_
    refine TL.gs ?_
    refine TL.p Pu.kf ?_
    refine TL.p Pu.mv ?_
    refine TL.gs ?_
    refine TL.gs ?_
    refine TL.gs ?_
    refine TL.p Pu.kf ?_
    refine TL.p Pu.as ?_
    refine TL.nil ?_
    exact TQ.sub (by repeat (first | exact trivial | refine ⟨rfl, ?_⟩ | refine ⟨trivial, ?_⟩ | refine ⟨(by show some (Value.bool _) = some (Value.bool _); simp [hg1, claimOk]), ?_⟩)) (by repeat (first | exact KSub.nil | refine KSub.cons (by repeat (first | exact Pick.hd | apply Pick.tl)) ?_)) hJ1
theorem checkFeud_any (x : Nat → Int) (w : World) : Calls Try.prog 28 #[.agg (feudL x).toArray] w (Ret w (.bool (feudOk x))) := by
  refine K_enter (S := []) (K := []) Try.func28 rfl Try.ntmps28 rfl (Sat.start _) ?_
  refine TW.seq fun Y1 hY1 => ?_
  refine TW.region ?_
  refine TL.m Mk.bx ?_
  intro b1
  refine TL.p Pu.as ?_
  refine TL.nil ?_
  refine TQ.thenN (hY1 _ _ ?_)
  refine TW.seq fun Y2 hY2 => ?_
  refine TW.join [(2, .bool (feudOk x))] ?_ (fun hJ1 => ?_)
  · refine TQ.thenN (hY2 _ _ ?_)
    refine TW.ret ?_
    refine TQ.ret Try.results28 rfl ((.tmp rfl .nil)) ?_
    exact fun w hw => Ret.of hw
  refine TW.region ?_
  refine TL.p (by first | exact Pu.fb ty_fa72_0 | exact Pu.fe ty_fa72_0) ?_
  refine TL.p (Pu.ld ty_sc3) ?_
  refine TL.cr rfl (enters Try.func25 rfl rfl) (fun w hw => by
      exact tribe_any _ _) ?_
  refine TL.p Pu.mv ?_
  refine TL.guard (t := 6) rfl (fun hg1 => ?_) (fun hg1 => ?_)
  · refine TL.gd (by first | exact Pu.fb ty_fa72_1 | exact Pu.fe ty_fa72_1) ?_
    refine TL.gd (Pu.ld ty_sc3) ?_
    refine TL.cr rfl (enters Try.func25 rfl rfl) (fun w hw => by
        exact tribe_any _ _) ?_
    refine TL.p Pu.kt ?_
    refine TL.p Pu.mv ?_
    refine TL.guard (t := 11) rfl (fun hg2 => ?_) (fun hg2 => ?_)
    · refine TL.gd (by first | exact Pu.fb ty_fa72_0 | exact Pu.fe ty_fa72_0) ?_
      refine TL.gd (Pu.ld ty_sc3) ?_
      refine TL.gd (by first | exact Pu.fb ty_fa72_1 | exact Pu.fe ty_fa72_1) ?_
      refine TL.gd (Pu.ld ty_sc3) ?_
      refine TL.gd Pu.ne ?_
      refine TL.p Pu.kt ?_
      refine TL.p Pu.mv ?_
      refine TL.guard (t := 18) rfl (fun hg3 => ?_) (fun hg3 => ?_)
      · refine TL.gd (Pu.lds ty_ag72) ?_
        refine TL.gd Pu.fc ?_
        refine TL.cr rfl (enters Try.func26 rfl rfl) (fun w hw => by
            exact lasts_any _ feudMeth (enters Try.func83 rfl rfl) (fun w => feudDays_any x w)) ?_
        refine TL.p Pu.kt ?_
        refine TL.p Pu.as ?_
        refine TL.nil ?_
        exact TQ.sub (by repeat (first | exact trivial | refine ⟨rfl, ?_⟩ | refine ⟨trivial, ?_⟩ | refine ⟨(by show some (Value.bool _) = some (Value.bool _); simp [hg1, hg2, hg3, feudOk]), ?_⟩)) (by repeat (first | exact KSub.nil | refine KSub.cons (by repeat (first | exact Pick.hd | apply Pick.tl)) ?_)) hJ1
      · refine TL.gs ?_
        refine TL.gs ?_
        refine TL.gs ?_
        refine TL.p Pu.kf ?_
        refine TL.p Pu.as ?_
        refine TL.nil ?_
        exact TQ.sub (by repeat (first | exact trivial | refine ⟨rfl, ?_⟩ | refine ⟨trivial, ?_⟩ | refine ⟨(by show some (Value.bool _) = some (Value.bool _); simp [hg1, hg2, hg3, feudOk]), ?_⟩)) (by repeat (first | exact KSub.nil | refine KSub.cons (by repeat (first | exact Pick.hd | apply Pick.tl)) ?_)) hJ1
    · refine TL.gs ?_
      refine TL.gs ?_
      refine TL.gs ?_
      refine TL.gs ?_
      refine TL.gs ?_
      refine TL.p Pu.kf ?_
      refine TL.p Pu.mv ?_
      refine TL.gs ?_
      refine TL.gs ?_
      refine TL.gs ?_
      refine TL.p Pu.kf ?_
      refine TL.p Pu.as ?_
      refine TL.nil ?_
      exact TQ.sub (by repeat (first | exact trivial | refine ⟨rfl, ?_⟩ | refine ⟨trivial, ?_⟩ | refine ⟨(by show some (Value.bool _) = some (Value.bool _); simp [hg1, hg2, feudOk]), ?_⟩)) (by repeat (first | exact KSub.nil | refine KSub.cons (by repeat (first | exact Pick.hd | apply Pick.tl)) ?_)) hJ1
  · refine TL.gs ?_
    refine TL.gs ?_
    refine TL.gs ?_
    refine TL.p Pu.kf ?_
    refine TL.p Pu.mv ?_
    refine TL.gs ?_
    refine TL.gs ?_
    refine TL.gs ?_
    refine TL.gs ?_
    refine TL.gs ?_
    refine TL.p Pu.kf ?_
    refine TL.p Pu.mv ?_
    refine TL.gs ?_
    refine TL.gs ?_
    refine TL.gs ?_
    refine TL.p Pu.kf ?_
    refine TL.p Pu.as ?_
    refine TL.nil ?_
    exact TQ.sub (by repeat (first | exact trivial | refine ⟨rfl, ?_⟩ | refine ⟨trivial, ?_⟩ | refine ⟨(by show some (Value.bool _) = some (Value.bool _); simp [hg1, feudOk]), ?_⟩)) (by repeat (first | exact KSub.nil | refine KSub.cons (by repeat (first | exact Pick.hd | apply Pick.tl)) ?_)) hJ1
theorem checkBorder_any (x : Nat → Int) {W A : Option Addr} {nw cw nl cl b b' : Nat} (w : World) (hl : nl ≤ 1000) (h1 : OldB w b (landL W nw cw A nl cl)) (h2 : OldB w b' [.func (.func 22) #[] #[.pointer (some ⟨b, 0, none⟩)]]) :
    Calls Try.prog 30 #[.agg (borderL x).toArray, .pointer (some ⟨b', 0, none⟩)] w (Ret w (.bool (borderOk nl x))) := by
  refine K_enter (S := []) (K := []) Try.func30 rfl Try.ntmps30 rfl (Sat.start _) ?_
  refine TW.seq fun Y1 hY1 => ?_
  refine TW.region ?_
  refine TL.m Mk.bx ?_
  intro b1
  refine TL.p Pu.as ?_
  refine TL.nil ?_
  refine TQ.thenN (hY1 _ _ ?_)
  refine TW.seq fun Y2 hY2 => ?_
  refine TW.join [(3, .bool (borderOk nl x))] ?_ (fun hJ1 => ?_)
  · refine TQ.thenN (hY2 _ _ ?_)
    refine TW.ret ?_
    refine TQ.ret Try.results30 rfl ((.tmp rfl .nil)) ?_
    exact fun w hw => Ret.of hw
  refine TW.region ?_
  refine TL.p (by first | exact (Pu.ld ty_sc65) | exact (Pu.ldo ty_sc65)) ?_
  refine TL.p (by first | exact Pu.fb ty_fa77_0 | exact Pu.fe ty_fa77_0) ?_
  refine TL.p (by first | exact (Pu.ld ty_sc3) | exact (Pu.ldo ty_sc3)) ?_
  refine TL.cv rfl rfl (enters Try.func22 rfl rfl) (fun w hw => by
      exact legNo_any _ _ hl (h1.ext (Chg.ext hw.chg))) ?_
  refine TL.p Pu.mv ?_
  refine TL.guard (t := 8) rfl (fun hg1 => ?_) (fun hg1 => ?_)
  · refine TL.gd (by first | exact (Pu.lds ty_ag77) | exact (Pu.ldso ty_ag77)) ?_
    refine TL.gd Pu.fc ?_
    refine TL.cr rfl (enters Try.func26 rfl rfl) (fun w hw => by
        exact lasts_any _ borderMeth (enters Try.func84 rfl rfl) (fun w => borderDays_any x w)) ?_
    refine TL.p Pu.kt ?_
    refine TL.p Pu.as ?_
    refine TL.nil ?_
    exact TQ.sub (by repeat (first | exact trivial | refine ⟨rfl, ?_⟩ | refine ⟨trivial, ?_⟩ | refine ⟨(by show some (Value.bool _) = some (Value.bool _); simp [hg1, borderOk]), ?_⟩)) (by repeat (first | exact KSub.nil | refine KSub.cons (by repeat (first | exact Pick.hd | apply Pick.tl)) ?_)) hJ1
  · refine TL.gs ?_
    refine TL.gs ?_
    refine TL.gs ?_
    refine TL.p Pu.kf ?_
    refine TL.p Pu.as ?_
    refine TL.nil ?_
    exact TQ.sub (by repeat (first | exact trivial | refine ⟨rfl, ?_⟩ | refine ⟨trivial, ?_⟩ | refine ⟨(by show some (Value.bool _) = some (Value.bool _); simp [hg1, borderOk]), ?_⟩)) (by repeat (first | exact KSub.nil | refine KSub.cons (by repeat (first | exact Pick.hd | apply Pick.tl)) ?_)) hJ1
set_option maxRecDepth 100000 in
set_option maxHeartbeats 800000 in
theorem tollCheck_any {W A C D B : Option Addr} {nw cw nl cl nc cc nd cd nb cb : Nat} {f : Nat → Nat → Int} {x : Nat → Leg} {g : Nat → Nat → Nat → Int} {c : Nat → (Nat → Int) × Bool} {d b : Nat → Nat → Int} {w : World} (h : LandIn w W nw A nl f x g) (k : CustIn w C nc D nd B nb c d b) :
    Calls Try.prog 11 #[.agg (landL W nw cw A nl cl).toArray, .agg (custL C nc cc D nd cd B nb cb).toArray] w (Ret w (.int .i64 (checkC nw nl f x g nc nd nb c d b))) := by
  have hnl := h.hnl
  have hnc := k.hnc
  have hnd := k.hnd
  have hnb := k.hnb
  unfold custL
  refine K_enter (S := []) (K := []) Try.func11 rfl Try.ntmps11 rfl (Sat.start _) ?_
  refine TW.seq fun Y1 hY1 => ?_
  refine TW.region ?_
  refine TL.m Mk.bx ?_
  intro b1
  refine TL.m Mk.bx ?_
  intro b2
  refine TL.p Pu.as ?_
  refine TL.nil ?_
  refine TQ.thenN (hY1 _ _ ?_)
  refine TW.seq fun Y2 hY2 => ?_
  refine TW.seq fun Y3 hY3 => ?_
  refine TW.region ?_
  refine TL.p (Pu.lds ty_ag25) ?_
  refine TL.cr rfl (enters Try.func21 rfl rfl) (fun w hw => by
      exact wayCheck_any (h.ext (Chg.ext hw.chg))) ?_
  refine TL.p Pu.as ?_
  refine TL.nil ?_
  refine TQ.thenN (hY3 _ _ ?_)
  refine TW.seq fun Y4 hY4 => ?_
  refine TW.region ?_
  refine TL.p Pu.mv ?_
  refine TL.p Pu.ne ?_
  refine TL.nil ?_
  refine TQ.thenN (hY4 _ _ ?_)
  refine TW.cond rfl (fun hc0 => ?_) (fun hc0 => ?_)
  · try simp only [decide_eq_true_eq, decide_eq_false_iff_not, Bool.not_eq_true', Bool.not_eq_false', Bool.and_eq_true, Bool.or_eq_true, Bool.and_eq_false_iff, Bool.or_eq_false_iff, Int.not_lt, Int.not_le] at hc0
    have hh : landOk nw nl f x g = false := by
      cases e : landOk nw nl f x g with
      | false => rfl
      | true => simp [e] at hc0
    refine TW.seq fun Y5 hY5 => ?_
    refine TW.region ?_
    refine TL.p Pu.mv ?_
    refine TL.p Pu.as ?_
    refine TL.nil ?_
    refine TQ.thenN (hY5 _ _ ?_)
    refine TW.ret ?_
    refine TQ.thenR ?_
    refine TQ.ret Try.results11 rfl ((.tmp rfl .nil)) ?_
    exact fun w hw => ⟨ret_int (by unfold checkC; rw [hh]; rfl), Chg.ext hw.chg⟩
  · try simp only [decide_eq_true_eq, decide_eq_false_iff_not, Bool.not_eq_true', Bool.not_eq_false', Bool.and_eq_true, Bool.or_eq_true, Bool.and_eq_false_iff, Bool.or_eq_false_iff, Int.not_lt, Int.not_le] at hc0
    have hh : landOk nw nl f x g = true := by
      cases e : landOk nw nl f x g with
      | true => rfl
      | false => simp [e] at hc0
    refine TW.skip ?_
    refine TQ.thenN (hY2 _ _ ?_)
    refine TW.seq fun Y6 hY6 => ?_
    refine TW.region ?_
    refine TL.p Pu.fn ?_
    refine TL.m (Mk.al ty_zr65) ?_
    intro b3
    first | refine TL.st ty_sz65 ?_ | refine TL.se ty_sz65 ?_
    refine TL.nil ?_
    refine TQ.thenN (hY6 _ _ ?_)
    refine TW.seq fun Y7 hY7 => ?_
    refine TW.region ?_
    refine TL.p (by first | exact Pu.fb ty_fa30_0 | exact Pu.fe ty_fa30_0) ?_
    refine TL.p (Pu.ld ty_sc26) ?_
    refine TL.p Pu.fn ?_
    refine TL.cr rfl (enters Try.func23 rfl rfl) (fun w hw => by
        have h1 := OldB.of_blk (hw.holds (.blk b1 25 (landL W nw cw A nl cl)) (by simp [landL]))
        have h2 := OldB.of_blk (hw.holds (.blk b3 65 [.func (.func 22) #[] #[.pointer (some ⟨b1, 0, none⟩)]]) (by simp))
        exact everyClaim_any (fs := []) (v := c) (p := fun k => claimOk nl (c k)) (enters Try.func24 rfl rfl) (by omega) (k.hC.sat hw Apart.nil) fun i hi w' hb => checkClaim_any (c i) w' hnl (h1.ext hb) (h2.ext hb)) ?_
    refine TL.p Pu.as ?_
    refine TL.nil ?_
    refine TQ.thenN (hY7 _ _ ?_)
    refine TW.seq fun Y8 hY8 => ?_
    refine TW.region ?_
    refine TL.p (by first | exact Pu.fb ty_fa30_1 | exact Pu.fe ty_fa30_1) ?_
    refine TL.p (Pu.ld ty_sc27) ?_
    refine TL.cr rfl (enters Try.func27 rfl rfl) (fun w hw => by
        exact everyFeud_any (fs := []) (cs := []) (v := d) (p := fun k => feudOk (d k)) (enters Try.func28 rfl rfl) (by omega) (k.hD.sat hw Apart.nil) fun i hi w' hb => checkFeud_any (d i) w') ?_
    refine TL.p Pu.as ?_
    refine TL.nil ?_
    refine TQ.thenN (hY8 _ _ ?_)
    refine TW.seq fun Y9 hY9 => ?_
    refine TW.region ?_
    refine TL.p (by first | exact Pu.fb ty_fa30_2 | exact Pu.fe ty_fa30_2) ?_
    refine TL.p (Pu.ld ty_sc28) ?_
    refine TL.p Pu.fn ?_
    refine TL.cr rfl (enters Try.func29 rfl rfl) (fun w hw => by
        have h1 := OldB.of_blk (hw.holds (.blk b1 25 (landL W nw cw A nl cl)) (by simp [landL]))
        have h2 := OldB.of_blk (hw.holds (.blk b3 65 [.func (.func 22) #[] #[.pointer (some ⟨b1, 0, none⟩)]]) (by simp))
        exact everyBorder_any (fs := []) (v := b) (p := fun k => borderOk nl (b k)) (enters Try.func30 rfl rfl) (by omega) (k.hB.sat hw Apart.nil) fun i hi w' hb => checkBorder_any (b i) w' hnl (h1.ext hb) (h2.ext hb)) ?_
    refine TL.p Pu.as ?_
    refine TL.nil ?_
    refine TQ.thenN (hY9 _ _ ?_)
    refine TW.seq fun Y10 hY10 => ?_
    refine TW.block ?_
    refine TW.seq fun Y11 hY11 => ?_
    refine TW.join [(27, .bool (!((allB nc fun k => claimOk nl (c k)) && !decide (30 < (nc : Int)))))] ?_ (fun hJ1 => ?_)
    · refine TQ.thenN (hY11 _ _ ?_)
      refine TW.cond rfl (fun hc1 => ?_) (fun hc1 => ?_)
      · try simp only [decide_eq_true_eq, decide_eq_false_iff_not, Bool.not_eq_true', Bool.not_eq_false', Bool.and_eq_true, Bool.or_eq_true, Bool.and_eq_false_iff, Bool.or_eq_false_iff, Int.not_lt, Int.not_le] at hc1
        have h70 : ((allB nc fun k => claimOk nl (c k)) && !decide (30 < (nc : Int))) = false := by simp only [Bool.and_eq_false_iff, Bool.not_eq_false', decide_eq_true_eq]; exact hc1
        refine TW.seq fun Y12 hY12 => ?_
        refine TW.region ?_
        refine TL.p Pu.as ?_
        refine TL.nil ?_
        refine TQ.thenN (hY12 _ _ ?_)
        refine TW.ret ?_
        refine TQ.blkR ?_
        refine TQ.thenR ?_
        refine TQ.ret Try.results11 rfl ((.tmp rfl .nil)) ?_
        exact fun w hw => ⟨ret_int (by unfold checkC custC; rw [hh, if_pos rfl, if_pos h70]), Chg.ext hw.chg⟩
      · try simp only [decide_eq_true_eq, decide_eq_false_iff_not, Bool.not_eq_true', Bool.not_eq_false', Bool.and_eq_true, Bool.or_eq_true, Bool.and_eq_false_iff, Bool.or_eq_false_iff, Int.not_lt, Int.not_le] at hc1
        have h70 : ((allB nc fun k => claimOk nl (c k)) && !decide (30 < (nc : Int))) = true := by simp only [Bool.and_eq_true, Bool.not_eq_true', decide_eq_false_iff_not, Int.not_lt]; exact hc1
        refine TW.seq fun Y13 hY13 => ?_
        refine TW.join [(36, .bool (!((allB nd fun k => feudOk (d k)) && !decide (20 < (nd : Int)))))] ?_ (fun hJ2 => ?_)
        · refine TQ.thenN (hY13 _ _ ?_)
          refine TW.cond rfl (fun hc2 => ?_) (fun hc2 => ?_)
          · try simp only [decide_eq_true_eq, decide_eq_false_iff_not, Bool.not_eq_true', Bool.not_eq_false', Bool.and_eq_true, Bool.or_eq_true, Bool.and_eq_false_iff, Bool.or_eq_false_iff, Int.not_lt, Int.not_le] at hc2
            have h71 : ((allB nd fun k => feudOk (d k)) && !decide (20 < (nd : Int))) = false := by simp only [Bool.and_eq_false_iff, Bool.not_eq_false', decide_eq_true_eq]; exact hc2
            refine TW.seq fun Y14 hY14 => ?_
            refine TW.region ?_
            refine TL.p Pu.as ?_
            refine TL.nil ?_
            refine TQ.thenN (hY14 _ _ ?_)
            refine TW.ret ?_
            refine TQ.blkR ?_
            refine TQ.thenR ?_
            refine TQ.ret Try.results11 rfl ((.tmp rfl .nil)) ?_
            exact fun w hw => ⟨ret_int (by unfold checkC custC; rw [hh, if_pos rfl, if_neg (by rw [h70]; decide), if_pos h71]), Chg.ext hw.chg⟩
          · try simp only [decide_eq_true_eq, decide_eq_false_iff_not, Bool.not_eq_true', Bool.not_eq_false', Bool.and_eq_true, Bool.or_eq_true, Bool.and_eq_false_iff, Bool.or_eq_false_iff, Int.not_lt, Int.not_le] at hc2
            have h71 : ((allB nd fun k => feudOk (d k)) && !decide (20 < (nd : Int))) = true := by simp only [Bool.and_eq_true, Bool.not_eq_true', decide_eq_false_iff_not, Int.not_lt]; exact hc2
            refine TW.seq fun Y15 hY15 => ?_
            refine TW.join [(45, .bool (!((allB nb fun k => borderOk nl (b k)) && !decide (20 < (nb : Int)))))] ?_ (fun hJ3 => ?_)
            · refine TQ.thenN (hY15 _ _ ?_)
              refine TW.cond rfl (fun hc3 => ?_) (fun hc3 => ?_)
              · try simp only [decide_eq_true_eq, decide_eq_false_iff_not, Bool.not_eq_true', Bool.not_eq_false', Bool.and_eq_true, Bool.or_eq_true, Bool.and_eq_false_iff, Bool.or_eq_false_iff, Int.not_lt, Int.not_le] at hc3
                have h72 : ((allB nb fun k => borderOk nl (b k)) && !decide (20 < (nb : Int))) = false := by simp only [Bool.and_eq_false_iff, Bool.not_eq_false', decide_eq_true_eq]; exact hc3
                refine TW.seq fun Y16 hY16 => ?_
                refine TW.region ?_
                refine TL.p Pu.as ?_
                refine TL.nil ?_
                refine TQ.thenN (hY16 _ _ ?_)
                refine TW.ret ?_
                refine TQ.blkR ?_
                refine TQ.thenR ?_
                refine TQ.ret Try.results11 rfl ((.tmp rfl .nil)) ?_
                exact fun w hw => ⟨ret_int (by unfold checkC custC; rw [hh, if_pos rfl, if_neg (by rw [h70]; decide), if_neg (by rw [h71]; decide), if_pos h72]), Chg.ext hw.chg⟩
              · try simp only [decide_eq_true_eq, decide_eq_false_iff_not, Bool.not_eq_true', Bool.not_eq_false', Bool.and_eq_true, Bool.or_eq_true, Bool.and_eq_false_iff, Bool.or_eq_false_iff, Int.not_lt, Int.not_le] at hc3
                have h72 : ((allB nb fun k => borderOk nl (b k)) && !decide (20 < (nb : Int))) = true := by simp only [Bool.and_eq_true, Bool.not_eq_true', decide_eq_false_iff_not, Int.not_lt]; exact hc3
                refine TW.skip ?_
                refine TQ.blkN ?_
                refine TQ.thenN (hY10 _ _ ?_)
                refine TW.seq fun Y17 hY17 => ?_
                refine TW.region ?_
                refine TL.p Pu.as ?_
                refine TL.nil ?_
                refine TQ.thenN (hY17 _ _ ?_)
                refine TW.ret ?_
                refine TQ.ret Try.results11 rfl ((.tmp rfl .nil)) ?_
                exact fun w hw => ⟨ret_int (by unfold checkC custC; rw [hh, if_pos rfl, if_neg (by rw [h70]; decide), if_neg (by rw [h71]; decide), if_neg (by rw [h72]; decide)]), Chg.ext hw.chg⟩
            refine TW.region ?_
            refine TL.p Pu.mv ?_
            refine TL.p Pu.no ?_
            refine TL.p Pu.mv ?_
            refine TL.guard (t := 48) rfl (fun hg1 => ?_) (fun hg1 => ?_)
            · refine TL.gs ?_
              refine TL.gs ?_
              refine TL.gs ?_
              refine TL.gs ?_
              refine TL.p Pu.kt ?_
              refine TL.p Pu.as ?_
              refine TL.nil ?_
              exact TQ.sub (by repeat (first | exact trivial | refine ⟨rfl, ?_⟩ | refine ⟨trivial, ?_⟩ | refine ⟨(by show some (Value.bool _) = some (Value.bool _); simp [hg1]), ?_⟩)) (by repeat (first | exact KSub.nil | refine KSub.cons (by repeat (first | exact Pick.hd | apply Pick.tl)) ?_)) hJ3
            · refine TL.gd (by first | exact Pu.fb ty_fa30_2 | exact Pu.fe ty_fa30_2) ?_
              refine TL.gd (Pu.ld ty_sc28) ?_
              refine TL.gd (Pu.ln Try.underlying28) ?_
              refine TL.gd Pu.gt ?_
              refine TL.p Pu.kf ?_
              refine TL.p Pu.as ?_
              refine TL.nil ?_
              exact TQ.sub (by repeat (first | exact trivial | refine ⟨rfl, ?_⟩ | refine ⟨trivial, ?_⟩ | refine ⟨(by show some (Value.bool _) = some (Value.bool _); simp [hg1]), ?_⟩)) (by repeat (first | exact KSub.nil | refine KSub.cons (by repeat (first | exact Pick.hd | apply Pick.tl)) ?_)) hJ3
        refine TW.region ?_
        refine TL.p Pu.mv ?_
        refine TL.p Pu.no ?_
        refine TL.p Pu.mv ?_
        refine TL.guard (t := 39) rfl (fun hg2 => ?_) (fun hg2 => ?_)
        · refine TL.gs ?_
          refine TL.gs ?_
          refine TL.gs ?_
          refine TL.gs ?_
          refine TL.p Pu.kt ?_
          refine TL.p Pu.as ?_
          refine TL.nil ?_
          exact TQ.sub (by repeat (first | exact trivial | refine ⟨rfl, ?_⟩ | refine ⟨trivial, ?_⟩ | refine ⟨(by show some (Value.bool _) = some (Value.bool _); simp [hg2]), ?_⟩)) (by repeat (first | exact KSub.nil | refine KSub.cons (by repeat (first | exact Pick.hd | apply Pick.tl)) ?_)) hJ2
        · refine TL.gd (by first | exact Pu.fb ty_fa30_1 | exact Pu.fe ty_fa30_1) ?_
          refine TL.gd (Pu.ld ty_sc27) ?_
          refine TL.gd (Pu.ln Try.underlying27) ?_
          refine TL.gd Pu.gt ?_
          refine TL.p Pu.kf ?_
          refine TL.p Pu.as ?_
          refine TL.nil ?_
          exact TQ.sub (by repeat (first | exact trivial | refine ⟨rfl, ?_⟩ | refine ⟨trivial, ?_⟩ | refine ⟨(by show some (Value.bool _) = some (Value.bool _); simp [hg2]), ?_⟩)) (by repeat (first | exact KSub.nil | refine KSub.cons (by repeat (first | exact Pick.hd | apply Pick.tl)) ?_)) hJ2
    refine TW.region ?_
    refine TL.p Pu.mv ?_
    refine TL.p Pu.no ?_
    refine TL.p Pu.mv ?_
    refine TL.guard (t := 30) rfl (fun hg3 => ?_) (fun hg3 => ?_)
    · refine TL.gs ?_
      refine TL.gs ?_
      refine TL.gs ?_
      refine TL.gs ?_
      refine TL.p Pu.kt ?_
      refine TL.p Pu.as ?_
      refine TL.nil ?_
      exact TQ.sub (by repeat (first | exact trivial | refine ⟨rfl, ?_⟩ | refine ⟨trivial, ?_⟩ | refine ⟨(by show some (Value.bool _) = some (Value.bool _); simp [hg3]), ?_⟩)) (by repeat (first | exact KSub.nil | refine KSub.cons (by repeat (first | exact Pick.hd | apply Pick.tl)) ?_)) hJ1
    · refine TL.gd (by first | exact Pu.fb ty_fa30_0 | exact Pu.fe ty_fa30_0) ?_
      refine TL.gd (Pu.ld ty_sc26) ?_
      refine TL.gd (Pu.ln Try.underlying26) ?_
      refine TL.gd Pu.gt ?_
      refine TL.p Pu.kf ?_
      refine TL.p Pu.as ?_
      refine TL.nil ?_
      exact TQ.sub (by repeat (first | exact trivial | refine ⟨rfl, ?_⟩ | refine ⟨trivial, ?_⟩ | refine ⟨(by show some (Value.bool _) = some (Value.bool _); simp [hg3]), ?_⟩)) (by repeat (first | exact KSub.nil | refine KSub.cons (by repeat (first | exact Pick.hd | apply Pick.tl)) ?_)) hJ1
end Go.Proofs.Ytckiagbllkdfdaa
