/-
  Part 7 of the proof of brandNames_holds: declarations of several texts, in build order. No condition on a program.
-/
import Derived.Test.YtceokmaddbdnfaaGreatNa06
import Derived.Test.YtceokmaddbdnfaaGreatNa03
namespace Go.Proofs.YtceokmaddbdnfaaGreat
set_option linter.all false
set_option linter.unusedVariables false
set_option linter.unusedSimpArgs false
open Go.RowKit
theorem rBirths_any {w : World} {A : Option Addr} {cp : Nat} {H : Hd} {a : Nat → Option Addr} {c : Nat → Nat} (hI : HIn w A H a c) :
  CallsK Tryz.prog 54 #[.slice A H.n cp] [] w (Option Addr × Nat) (fun x => .tuple #[.slice x.1 (if livC H = 0 then H.n else 0) x.2, .int .i64 (livC H)]) (fun x => [.own x.1 (if livC H = 0 then H.n else 0) x.2 25 2 (fun j => spL (livB H j).1 (livB H j).2)]) := by
 refine K_enter (S := []) (K := []) Tryz.func54 rfl Tryz.ntmps54 rfl (Sat.start _) ?_
 refine TW.seq fun Y1 hY1 => TW.region ?_
 refine TL.p Pu.as ?_
 refine TL.p Pu.as ?_
 refine TL.nil (TQ.thenN (hY1 _ _ ?_))
 refine TW.seq fun Y2 hY2 => ?_
 refine TW.seq fun Y3 hY3 => TW.region ?_
 refine TL.p Pu.mv ?_
 refine TL.cr rfl (enters Tryz.func74 rfl rfl) (fun w hw => by
   exact rHerd_any (hI.sat hw)) ?_
 refine TL.p Pu.no ?_
 refine TL.nil (TQ.thenN (hY3 _ _ ?_))
 refine TW.cond rfl (fun hc0 => ?_) (fun hc0 => ?_)
 try simp only [zcb9] at hc0
 have hh : herdB H = false := hc0
 have hc : livC H = 20 := by unfold livC; rw [hh]; rfl
 refine TW.seq fun Y4 hY4 => TW.region ?_
 refine TL.p Pu.as ?_
 refine TL.p Pu.as ?_
 refine TL.nil (TQ.thenN (hY4 _ _ ?_))
 refine TW.ret ?_
 refine TQ.thenR ?_
 refine TQ.ret Tryz.results54 rfl ((.tmp rfl (.tmp rfl .nil))) ?_
 exact fun w hw => ⟨(none, 0), by simp only [hc]; rfl, by simp only [hc]; exact hw.sub (KSub.nilOwn KSub.nil)⟩
 try simp only [zcb9] at hc0
 have hh : herdB H = true := hc0
 have hk := herdB_ok.1 hh
 refine TW.skip ?_
 refine TQ.thenN (hY2 _ _ ?_)
 refine TW.seq fun Y5 hY5 => TW.region ?_
 refine TL.p Pu.mv ?_
 refine TL.p Pu.mv ?_
 refine TL.call (M := []) rfl (enters Tryz.func84 rfl rfl) (List.Perm.refl _) rfl (fun w hw => by
   exact rBorn_any (hI.sat hw)) ?_
 rintro ⟨A2, c2⟩
 refine TL.call (M := []) rfl (enters Tryz.func85 rfl rfl) (List.Perm.refl _) rfl (fun w hw => by
   exact rbirths_any (S := bornH H) (B := 100000) hk (hI.sat hw) (OwnR.rdr (hw.holds (.own A2 H.n c2 25 2 (fun j => spL (bornH H j).1 (bornH H j).2)) (by simp))) (born_bd hk) (by omega)) ?_
 rintro ⟨A3, c3⟩
 refine TL.p Pu.mv ?_
 refine TL.p Pu.ex ?_
 refine TL.p Pu.ex ?_
 refine TL.p Pu.as ?_
 refine TL.p Pu.as ?_
 refine TL.nil (TQ.thenN (hY5 _ _ ?_))
 refine TW.seq fun Y6 hY6 => ?_
 refine TW.seq fun Y7 hY7 => TW.region ?_
 refine TL.p Pu.mv ?_
 refine TL.p Pu.no ?_
 refine TL.nil (TQ.thenN (hY7 _ _ ?_))
 refine TW.cond rfl (fun hc1 => ?_) (fun hc1 => ?_)
 try simp only [zcb9] at hc1
 have hok : bthOk (moH H) H.n (bornH H) = false := hc1
 have hc : livC H = 21 := by unfold livC; rw [hh, hok]; rfl
 refine TW.seq fun Y8 hY8 => TW.region ?_
 refine TL.p Pu.as ?_
 refine TL.p Pu.as ?_
 refine TL.nil (TQ.thenN (hY8 _ _ ?_))
 refine TW.ret ?_
 refine TQ.thenR ?_
 refine TQ.ret Tryz.results54 rfl ((.tmp rfl (.tmp rfl .nil))) ?_
 exact fun w hw => ⟨(none, 0), by simp only [hc]; rfl, by simp only [hc]; exact hw.sub (KSub.nilOwn KSub.nil)⟩
 try simp only [zcb9] at hc1
 have hok : bthOk (moH H) H.n (bornH H) = true := hc1
 have hc : livC H = 0 := by unfold livC; rw [hh, hok]; rfl
 refine TW.skip ?_
 refine TQ.thenN (hY6 _ _ ?_)
 refine TW.seq fun Y9 hY9 => TW.region ?_
 refine TL.p Pu.mv ?_
 refine TL.p Pu.as ?_
 refine TL.p Pu.as ?_
 refine TL.nil (TQ.thenN (hY9 _ _ ?_))
 refine TW.ret ?_
 refine TQ.ret Tryz.results54 rfl ((.tmp rfl (.tmp rfl .nil))) ?_
 exact fun w hw => ⟨(A3, c3), by simp only [hc, hok]; rfl, by simp only [hc, if_true]; exact hw.sub (KSub.cons (by rw [hok]; exact Pick.hd) KSub.nil)⟩
end Go.Proofs.YtceokmaddbdnfaaGreat
namespace Go.Proofs.YtceokmaddbdnfaaGreat
set_option linter.all false
set_option linter.unusedVariables false
set_option linter.unusedSimpArgs false
open Go.RowKit
set_option maxRecDepth 100000 in
set_option maxHeartbeats 1000000 in
theorem rLook_any {l : Lk} {A : Option Addr} {c : Nat} {w : World} (h : LkIn w l A) : Calls Tryz.prog 55 #[.agg (lkL l A c).toArray] w (Ret w (.bool (lkB l))) := by
 have hn := h.hn
 have hR := h.hR
 unfold lkL
 refine K_enter (S := []) (K := []) Tryz.func55 rfl Tryz.ntmps55 rfl (Sat.start _) ?_
 refine TW.seq fun Y1 hY1 => TW.region ?_
 refine TL.m Mk.bx ?_
 intro b1
 refine TL.p Pu.as ?_
 refine TL.nil (TQ.thenN (hY1 _ _ ?_))
 refine TW.seq fun Y2 hY2 => ?_
 refine TW.seq fun Y3 hY3 => ?_
 refine TW.join [(19, .bool (!(decide ((l.ns : Int) = 8) && inB5 0 100000 l.day && ordB5 0 200000 l.alo l.ahi)))] ?_ (fun hJ1 => ?_)
 refine TQ.thenN (hY3 _ _ ?_)
 refine TW.cond rfl (fun hc0 => ?_) (fun hc0 => ?_)
 try simp only [zcb9] at hc0
 have hbad : lkB l = false := by
  cases hq : lkB l with
  | false => rfl
  | true =>
   unfold lkB at hq
   simp only [Bool.and_eq_true, decide_eq_true_eq] at hq
   obtain ⟨⟨⟨h1, h2⟩, h3⟩, h4⟩ := hq
   exfalso
   simp [h1, h3, h4] at hc0
 refine TW.seq fun Y4 hY4 => TW.region ?_
 refine TL.p Pu.as ?_
 refine TL.nil (TQ.thenN (hY4 _ _ ?_))
 refine TW.ret ?_
 refine TQ.thenR ?_
 refine TQ.ret Tryz.results55 rfl ((.tmp rfl .nil)) ?_
 exact fun w hw => ⟨ret_bool hbad, Chg.ext hw.chg⟩
 try simp only [zcb9] at hc0
 have hgd : l.ns = 8 ∧ inB5 0 100000 l.day = true ∧ ordB5 0 200000 l.alo l.ahi = true := ⟨by have := hc0.1.1; omega, hc0.1.2, hc0.2⟩
 obtain ⟨h8, hg2, hg3⟩ := hgd
 refine TW.skip ?_
 refine TQ.thenN (hY2 _ _ ?_)
 refine TW.seq fun Y5 hY5 => ?_
 refine TW.seq fun Y6 hY6 => TW.region ?_
 refine TL.p Pu.as ?_
 refine TL.nil (TQ.thenN (hY6 _ _ ?_))
 refine TW.block ?_
 refine TW.loop1 (fun (k : Nat) => [(3, .int .i64 (k : Int)), (1, .pointer (some ⟨b1, 0, none⟩))]) (fun k => [.blk b1 27 [.slice A l.ns c, .int .i64 l.day, .int .i64 l.alo, .int .i64 l.ahi]]) (fun k => k ≤ 8 ∧ ∀ j, j < k → l.sg j < 2097152) (fun k => 8 - k) 0 fs9 ?_ ?_ ?_
 exact ks9
 exact ⟨by omega, fun j hj => by omega⟩
 rintro k ⟨hk8, hall⟩ Z0 hZ0
 refine TW.seq fun Y7 hY7 => ?_
 refine TW.seq fun Y8 hY8 => TW.region ?_
 refine TL.p Pu.mv ?_
 refine TL.p Pu.lt ?_
 refine TL.nil (TQ.thenN (hY8 _ _ ?_))
 refine TW.cond rfl (fun hc1 => ?_) (fun hc1 => ?_)
 try simp only [zcb9] at hc1
 have hkn : k < 8 := by omega
 refine TW.skip ?_
 refine TQ.thenN (hY7 _ _ ?_)
 refine TW.seq fun Y9 hY9 => ?_
 refine TW.block ?_
 refine TW.seq fun Y10 hY10 => TW.region ?_
 refine TL.p (by first | exact Pu.fb ty_fa27_0 | exact Pu.fe ty_fa27_0) ?_
 refine TL.p (Pu.ld ty_sc23) ?_
 refine TL.p Pu.mv ?_
 refine TL.p (Pu.el ty_et23) ?_
 refine TL.p (Pu.ld ty_sc53) ?_
 refine TL.p Pu.ge ?_
 refine TL.nil (TQ.thenN (hY10 _ _ ?_))
 refine TW.cond rfl (fun hc2 => ?_) (fun hc2 => ?_)
 try simp only [zcb9] at hc2
 have hbig : ¬ l.sg k < 2097152 := by omega
 refine TW.seq fun Y11 hY11 => TW.region ?_
 refine TL.p Pu.as ?_
 refine TL.nil (TQ.thenN (hY11 _ _ ?_))
 refine TW.ret ?_
 refine TQ.blkR ?_
 refine TQ.thenR ?_
 refine TQ.thenR ?_
 refine TQ.blkR ?_
 refine TQ.thenR ?_
 refine TQ.ret Tryz.results55 rfl ((.tmp rfl .nil)) ?_
 exact fun w hw => ⟨ret_bool (by
  cases hq : lkB l with
  | false => rfl
  | true =>
   unfold lkB at hq
   simp only [Bool.and_eq_true] at hq
   exact absurd (of_decide_eq_true (allB_iff.1 hq.1.1.2 k hkn)) hbig), Chg.ext hw.chg⟩
 try simp only [zcb9] at hc2
 have hsm : l.sg k < 2097152 := by omega
 refine TW.skip ?_
 refine TQ.blkN ?_
 refine TQ.thenN (hY9 _ _ ?_)
 refine TW.region ?_
 refine TL.p Pu.mv ?_
 refine TL.p Pu.ad ?_
 refine TL.p Pu.as ?_
 refine TL.nil ?_
 refine TQ.thenN (hZ0 (k + 1) _ _ ?_ ?_ fs9 ?_)
 refine ⟨by omega, fun j hj => ?_⟩
 by_cases e : j = k
 subst e; exact hsm
 exact hall j (by omega)
 exact zom9
 exact ks9
 try simp only [zcb9] at hc1
 have hkn : k = 8 := by omega
 refine TW.exit ?_
 refine TQ.thenX ?_
 refine TQ.thenX ?_
 refine TQ.blkX ?_
 refine TQ.thenN (hY5 _ _ ?_)
 refine TW.seq fun Y12 hY12 => TW.region ?_
 refine TL.p Pu.as ?_
 refine TL.nil (TQ.thenN (hY12 _ _ ?_))
 refine TW.ret ?_
 refine TQ.ret Tryz.results55 rfl ((.tmp rfl .nil)) ?_
 exact fun w hw => ⟨ret_bool (by
  have h1 : (allB 8 fun s => decide (l.sg s < 2097152)) = true := allB_iff.2 fun j hj => decide_eq_true (hall j (by omega))
  unfold lkB
  rw [h1, hg2, hg3, decide_eq_true h8]; rfl), Chg.ext hw.chg⟩
 refine TW.region ?_
 refine TL.p (by first | exact Pu.fb ty_fa27_0 | exact Pu.fe ty_fa27_0) ?_
 refine TL.p (Pu.ld ty_sc23) ?_
 refine TL.p (Pu.ln Tryz.underlying23) ?_
 refine TL.p Pu.ne ?_
 refine TL.p Pu.mv ?_
 refine TL.guard (t := 8) rfl (fun hg1 => ?_) (fun hg1 => ?_)
 refine TL.gs ?_
 refine TL.gs ?_
 refine TL.gs ?_
 refine TL.gs ?_
 refine TL.p Pu.kt ?_
 refine TL.p Pu.mv ?_
 refine TL.gs ?_
 refine TL.gs ?_
 refine TL.gs ?_
 refine TL.gs ?_
 refine TL.p Pu.kt ?_
 refine TL.nil ?_
 exact TQ.sub (by repeat (first | exact trivial | refine ⟨rfl, ?_⟩ | refine ⟨trivial, ?_⟩ | refine ⟨(by show some (Value.bool _) = some (Value.bool _); first | (simp [hg1]; done) | (refine congrArg (fun z => some (Value.bool z)) (Bool.eq_iff_iff.2 ?_); simp [hg1]; omega)), ?_⟩)) ks9 hJ1
 refine TL.gd (by first | exact Pu.fb ty_fa27_1 | exact Pu.fe ty_fa27_1) ?_
 refine TL.gd (Pu.ld ty_sc3) ?_
 refine TL.cr rfl (enters Tryz.func83 rfl rfl) (fun w hw => by
   exact rWithin_any _ _ _ _) ?_
 refine TL.gd Pu.no ?_
 refine TL.p Pu.kf ?_
 refine TL.p Pu.mv ?_
 refine TL.guard (t := 14) rfl (fun hg2 => ?_) (fun hg2 => ?_)
 refine TL.gs ?_
 refine TL.gs ?_
 refine TL.gs ?_
 refine TL.gs ?_
 refine TL.p Pu.kt ?_
 refine TL.nil ?_
 exact TQ.sub (by repeat (first | exact trivial | refine ⟨rfl, ?_⟩ | refine ⟨trivial, ?_⟩ | refine ⟨(by show some (Value.bool _) = some (Value.bool _); first | (simp [hg1, hg2]; done) | (refine congrArg (fun z => some (Value.bool z)) (Bool.eq_iff_iff.2 ?_); simp [hg1, hg2]; omega)), ?_⟩)) ks9 hJ1
 refine TL.gd (by first | exact Pu.fb ty_fa27_2 | exact Pu.fe ty_fa27_2) ?_
 refine TL.gd (Pu.lds ty_ag25) ?_
 refine TL.cr rfl (enters Tryz.func102 rfl rfl) (fun w hw => by
   exact rOrdered_any _ _ _ _ _) ?_
 refine TL.gd Pu.no ?_
 refine TL.p Pu.kf ?_
 refine TL.nil ?_
 exact TQ.sub (by repeat (first | exact trivial | refine ⟨rfl, ?_⟩ | refine ⟨trivial, ?_⟩ | refine ⟨(by show some (Value.bool _) = some (Value.bool _); first | (simp [hg1, hg2]; done) | (refine congrArg (fun z => some (Value.bool z)) (Bool.eq_iff_iff.2 ?_); simp [hg1, hg2]; omega)), ?_⟩)) ks9 hJ1
def sgnK (H : Hd) (i s : Nat) : Int := if fst1 (fun k => decide (H.sp i k = (s : Int))) (H.ml i) < H.ml i then H.sg i (fst1 (fun k => decide (H.sp i k = (s : Int))) (H.ml i)) else 0
theorem sgK_first {H : Hd} {i s : Nat} : ∀ k, (∀ j, j < k → markB H i j = true) → sgK H i k s = if fst1 (fun q => decide (H.sp i q = (s : Int))) k < k then H.sg i (fst1 (fun q => decide (H.sp i q = (s : Int))) k) else 0
  | 0, _ => rfl
  | k + 1, h => by
    have ih := sgK_first (H := H) (i := i) (s := s) k fun j hj => h j (by omega)
    have hk := h k (by omega)
    unfold markB at hk
    simp only [Bool.and_eq_true, allB_iff, Bool.not_eq_true', decide_eq_false_iff_not, inB5, decide_eq_true_eq] at hk
    obtain ⟨⟨h7, h20⟩, hd⟩ := hk
    simp only [sgK, fst1]
    by_cases e : s = (H.sp i k).toNat
    · have e2 : H.sp i k = (s : Int) := by omega
      rw [if_pos e]
      have hl : ¬ fst1 (fun q => decide (H.sp i q = (s : Int))) k < k := fun hl => by
        have := fst1_yes hl
        simp only [decide_eq_true_eq] at this
        exact hd _ hl (by omega)
      rw [if_neg hl, if_pos (decide_eq_true e2), if_pos (by omega)]
    · have e2 : ¬ H.sp i k = (s : Int) := by omega
      rw [if_neg e, ih]
      by_cases hl : fst1 (fun q => decide (H.sp i q = (s : Int))) k < k
      · rw [if_pos hl, if_pos hl, if_pos (by omega)]
      · rw [if_neg hl, if_neg hl, if_neg (show ¬ decide (H.sp i k = (s : Int)) = true by simpa using e2), if_neg (by omega)]
theorem sgn_eq {H : Hd} (hk : HOk H) {i s : Nat} (hi : i < H.n) : sgnK H i s = sgH H i s := (sgK_first _ fun j hj => allB_iff.1 (hk.mks i hi) j hj).symm
set_option maxRecDepth 100000 in
theorem rSign_any {H : Hd} {a : Nat → Option Addr} {c : Nat → Nat} {i s : Nat} {w : World} (hl : H.ml i ≤ 1000) (hR : RdR w 2 (a i) (H.ml i) (fun k => spL (H.sp i k) (H.sg i k))) : Calls Tryz.prog 29 #[.agg (anL H a c i).toArray, .int .i64 (s : Int)] w (Ret w (.int .i64 (sgnK H i s))) := by
 unfold anL
 refine K_enter (S := []) (K := []) Tryz.func29 rfl Tryz.ntmps29 rfl (Sat.start _) ?_
 refine TW.seq fun Y1 hY1 => TW.region ?_
 refine TL.m Mk.bx ?_
 intro b1
 refine TL.p Pu.as ?_
 refine TL.nil (TQ.thenN (hY1 _ _ ?_))
 refine TW.seq fun Y2 hY2 => ?_
 refine TW.seq fun Y3 hY3 => TW.region ?_
 refine TL.p Pu.as ?_
 refine TL.nil (TQ.thenN (hY3 _ _ ?_))
 refine TW.block ?_
 refine TW.loop1 (fun (k : Nat) => [(5, .int .i64 (k : Int)), (1, .int .i64 (s : Int)), (2, .pointer (some ⟨b1, 0, none⟩))]) (fun k => [.blk b1 65 [.int .i64 (H.id i), .int .i64 (H.mo i), .int .i64 (H.lo i), .int .i64 (H.hi i), .slice (a i) (H.ml i) (c i)]]) (fun k => k ≤ H.ml i ∧ ∀ j, j < k → ¬ H.sp i j = (s : Int)) (fun k => H.ml i - k) 0 fs9 ?_ ?_ ?_
 exact ks9
 exact ⟨Nat.zero_le _, fun j hj => by omega⟩
 rintro k ⟨hkl, hno⟩ Z0 hZ0
 refine TW.seq fun Y4 hY4 => ?_
 refine TW.seq fun Y5 hY5 => TW.region ?_
 refine TL.p Pu.mv ?_
 refine TL.p (by first | exact Pu.fb ty_fa65_3 | exact Pu.fe ty_fa65_3) ?_
 refine TL.p (Pu.ld ty_sc63) ?_
 refine TL.p (Pu.ln Tryz.underlying63) ?_
 refine TL.p Pu.lt ?_
 refine TL.nil (TQ.thenN (hY5 _ _ ?_))
 refine TW.cond rfl (fun hc0 => ?_) (fun hc0 => ?_)
 try simp only [zcb9] at hc0
 have hkn : k < H.ml i := by omega
 refine TW.skip ?_
 refine TQ.thenN (hY4 _ _ ?_)
 refine TW.seq fun Y6 hY6 => ?_
 refine TW.block ?_
 refine TW.seq fun Y7 hY7 => TW.region ?_
 refine TL.p (by first | exact Pu.fb ty_fa65_3 | exact Pu.fe ty_fa65_3) ?_
 refine TL.p (Pu.ld ty_sc63) ?_
 refine TL.p Pu.mv ?_
 refine TL.p (Pu.el ty_et63) ?_
 refine TL.p (by first | exact Pu.fb ty_fa97_0 | exact Pu.fe ty_fa97_0) ?_
 refine TL.p (Pu.ld ty_sc3) ?_
 refine TL.p Pu.mv ?_
 refine TL.p Pu.eq ?_
 refine TL.nil (TQ.thenN (hY7 _ _ ?_))
 refine TW.cond rfl (fun hc1 => ?_) (fun hc1 => ?_)
 try simp only [zcb9] at hc1
 have hyes : H.sp i k = (s : Int) := hc1
 refine TW.seq fun Y8 hY8 => TW.region ?_
 refine TL.p (by first | exact Pu.fb ty_fa65_3 | exact Pu.fe ty_fa65_3) ?_
 refine TL.p (Pu.ld ty_sc63) ?_
 refine TL.p Pu.mv ?_
 refine TL.p (Pu.el ty_et63) ?_
 refine TL.p (by first | exact Pu.fb ty_fa97_1 | exact Pu.fe ty_fa97_1) ?_
 refine TL.p (Pu.ld ty_sc3) ?_
 refine TL.p Pu.as ?_
 refine TL.nil (TQ.thenN (hY8 _ _ ?_))
 refine TW.ret ?_
 refine TQ.blkR ?_
 refine TQ.thenR ?_
 refine TQ.thenR ?_
 refine TQ.blkR ?_
 refine TQ.thenR ?_
 refine TQ.ret Tryz.results29 rfl ((.tmp rfl .nil)) ?_
 have e : fst1 (fun q => decide (H.sp i q = (s : Int))) (H.ml i) = k := fst1_uniq hkl (fun j hj => decide_eq_false (hno j hj)) (fun _ => decide_eq_true hyes)
 exact fun w hw => ⟨ret_int (by unfold sgnK; rw [e, if_pos hkn]), Chg.ext hw.chg⟩
 try simp only [zcb9] at hc1
 have hnot : ¬ H.sp i k = (s : Int) := hc1
 refine TW.skip ?_
 refine TQ.blkN ?_
 refine TQ.thenN (hY6 _ _ ?_)
 refine TW.region ?_
 refine TL.p Pu.mv ?_
 refine TL.p Pu.ad ?_
 refine TL.p Pu.as ?_
 refine TL.nil ?_
 refine TQ.thenN (hZ0 (k + 1) _ _ ?_ ?_ fs9 ?_)
 refine ⟨by omega, fun j hj => ?_⟩
 by_cases e : j = k
 subst e; exact hnot
 exact hno j (by omega)
 exact zom9
 exact ks9
 try simp only [zcb9] at hc0
 have hkn : k = H.ml i := by omega
 refine TW.exit ?_
 refine TQ.thenX ?_
 refine TQ.thenX ?_
 refine TQ.blkX ?_
 refine TQ.thenN (hY2 _ _ ?_)
 refine TW.seq fun Y9 hY9 => TW.region ?_
 refine TL.p Pu.as ?_
 refine TL.nil (TQ.thenN (hY9 _ _ ?_))
 refine TW.ret ?_
 refine TQ.ret Tryz.results29 rfl ((.tmp rfl .nil)) ?_
 have e : fst1 (fun q => decide (H.sp i q = (s : Int))) (H.ml i) = H.ml i := fst1_uniq (Nat.le_refl _) (fun j hj => decide_eq_false (hno j (by omega))) (fun h => by omega)
 exact fun w hw => ⟨ret_int (by unfold sgnK; rw [e, if_neg (by omega)]), Chg.ext hw.chg⟩
set_option maxRecDepth 100000 in
set_option maxHeartbeats 1000000 in
theorem rMarked_any {H : Hd} {a : Nat → Option Addr} {c : Nat → Nat} {i : Nat} {l : Lk} {A : Option Addr} {cl : Nat} {w : World} (hk : HOk H) (hi : i < H.n) (hl : H.ml i ≤ 1000) (hM : RdR w 2 (a i) (H.ml i) (fun k => spL (H.sp i k) (H.sg i k))) (h : LkIn w l A) (h8 : l.ns = 8) : Calls Tryz.prog 57 #[.agg (anL H a c i).toArray, .agg (lkL l A cl).toArray] w (Ret w (.bool (maB H l i))) := by
 have hs := fun s => sg_bd hk (s := s) hi
 have fS := fun (w' : World) (s : Nat) (h1 : RdR w' 2 (a i) (H.ml i) (fun k => spL (H.sp i k) (H.sg i k))) => rSign_any (c := c) (s := s) hl h1
 have hR := h.hR
 have hb8 := h.hb
 unfold anL at fS
 unfold lkL anL
 rw [h8] at hR hb8 ⊢
 refine K_enter (S := []) (K := []) Tryz.func57 rfl Tryz.ntmps57 rfl (Sat.start _) ?_
 refine TW.seq fun Y1 hY1 => TW.region ?_
 refine TL.m Mk.bx ?_
 intro b1
 refine TL.m Mk.bx ?_
 intro b2
 refine TL.p Pu.as ?_
 refine TL.nil (TQ.thenN (hY1 _ _ ?_))
 refine TW.seq fun Y2 hY2 => ?_
 refine TW.seq fun Y3 hY3 => TW.region ?_
 refine TL.p Pu.as ?_
 refine TL.nil (TQ.thenN (hY3 _ _ ?_))
 refine TW.block ?_
 refine TW.loop1 (fun (k : Nat) => [(5, .int .i64 (k : Int)), (2, .pointer (some ⟨b1, 0, none⟩)), (3, .pointer (some ⟨b2, 0, none⟩))]) (fun k => [.blk b1 65 [.int .i64 (H.id i), .int .i64 (H.mo i), .int .i64 (H.lo i), .int .i64 (H.hi i), .slice (a i) (H.ml i) (c i)], .blk b2 27 [.slice A 8 cl, .int .i64 l.day, .int .i64 l.alo, .int .i64 l.ahi]]) (fun k => k ≤ 8 ∧ ∀ j, j < k → l.sg j / 2 ^ (sgH H i j).toNat % 2 = 1) (fun k => 8 - k) 0 fs9 ?_ ?_ ?_
 exact ks9
 exact ⟨by omega, fun j hj => by omega⟩
 rintro k ⟨hk8, hall⟩ Z0 hZ0
 refine TW.seq fun Y4 hY4 => ?_
 refine TW.seq fun Y5 hY5 => TW.region ?_
 refine TL.p Pu.mv ?_
 refine TL.p Pu.lt ?_
 refine TL.nil (TQ.thenN (hY5 _ _ ?_))
 refine TW.cond rfl (fun hc0 => ?_) (fun hc0 => ?_)
 try simp only [zcb9] at hc0
 have hkn : k < 8 := by omega
 have hsk := hs k
 have hbk := hb8 k (by omega)
 have hdv : l.sg k / 2 ^ (sgH H i k).toNat ≤ 4294967295 := Nat.le_trans (Nat.div_le_self _ _) hbk
 refine TW.skip ?_
 refine TQ.thenN (hY4 _ _ ?_)
 refine TW.seq fun Y6 hY6 => ?_
 refine TW.block ?_
 refine TW.seq fun Y7 hY7 => ?_
 refine TW.dw 11 ?_
 refine RK.tk (by first | exact Pu.fb ty_fa27_0 | exact Pu.fe ty_fa27_0) ?_
 refine RK.tk (Pu.ld ty_sc23) ?_
 refine RK.tk Pu.mv ?_
 refine RK.tk (Pu.el ty_et23) ?_
 refine RK.tk (Pu.ld ty_sc53) ?_
 refine RK.tk (Pu.lds ty_ag65) ?_
 refine RK.tk Pu.mv ?_
 refine RK.keep ?_
 refine RK.keep ?_
 refine RK.keep ?_
 refine RK.keep ?_
 refine RK.ch [false, true, true, true] ?_ trivial
 refine WK.cr rfl (enters Tryz.func29 rfl rfl) (fun w hw => by
   have h9 := fS _ k (hM.sat hw Apart.nil)
   rw [sgn_eq hk hi] at h9
   exact h9) ?_
 refine WK.p (Pu.srW (b := l.sg k) (i := (sgH H i k).toNat) (hy := congrArg (fun z => some (Value.int .i64 z)) (Int.toNat_of_nonneg hsk.1).symm)) ?_
 refine WK.p (Pu.anW (m := l.sg k / 2 ^ (sgH H i k).toNat)) ?_
 refine WK.p Pu.eq ?_
 refine WK.n ?_
 refine TL.nil (TQ.thenN (hY7 _ _ ?_))
 refine TW.cond rfl (fun hc1 => ?_) (fun hc1 => ?_)
 try simp only [zcb9] at hc1
 have hno : ¬ l.sg k / 2 ^ (sgH H i k).toNat % 2 = 1 := by omega
 refine TW.seq fun Y8 hY8 => TW.region ?_
 refine TL.p Pu.as ?_
 refine TL.nil (TQ.thenN (hY8 _ _ ?_))
 refine TW.ret ?_
 refine TQ.blkR ?_
 refine TQ.thenR ?_
 refine TQ.thenR ?_
 refine TQ.blkR ?_
 refine TQ.thenR ?_
 refine TQ.ret Tryz.results57 rfl ((.tmp rfl .nil)) ?_
 exact fun w hw => ⟨ret_bool (by
  cases hm : maB H l i with
  | false => rfl
  | true => exact absurd (of_decide_eq_true (allB_iff.1 hm k hkn)) hno), Chg.ext hw.chg⟩
 try simp only [zcb9] at hc1
 have hyes : l.sg k / 2 ^ (sgH H i k).toNat % 2 = 1 := by omega
 refine TW.skip ?_
 refine TQ.blkN ?_
 refine TQ.thenN (hY6 _ _ ?_)
 refine TW.region ?_
 refine TL.p Pu.mv ?_
 refine TL.p Pu.ad ?_
 refine TL.p Pu.as ?_
 refine TL.nil ?_
 refine TQ.thenN (hZ0 (k + 1) _ _ ?_ ?_ fs9 ?_)
 refine ⟨by omega, fun j hj => ?_⟩
 by_cases e : j = k
 subst e; exact hyes
 exact hall j (by omega)
 exact zom9
 exact ks9
 try simp only [zcb9] at hc0
 refine TW.exit ?_
 refine TQ.thenX ?_
 refine TQ.thenX ?_
 refine TQ.blkX ?_
 refine TQ.thenN (hY2 _ _ ?_)
 refine TW.seq fun Y9 hY9 => TW.region ?_
 refine TL.p Pu.as ?_
 refine TL.nil (TQ.thenN (hY9 _ _ ?_))
 refine TW.ret ?_
 refine TQ.ret Tryz.results57 rfl ((.tmp rfl .nil)) ?_
 exact fun w hw => ⟨ret_bool (allB_iff.2 fun j hj => decide_eq_true (hall j (by omega))), Chg.ext hw.chg⟩
set_option maxRecDepth 100000 in
theorem rAged_any {a b : Int} {l : Lk} {A : Option Addr} {c : Nat} {w : World} (h : lkB l = true) : Calls Tryz.prog 56 #[.agg #[.int .i64 a, .int .i64 b], .agg (lkL l A c).toArray] w (Ret w (.agg #[.int .i64 (agd (a, b) l).1, .int .i64 (agd (a, b) l).2])) := by
 unfold lkB inB5 ordB5 at h
 simp only [Bool.and_eq_true, decide_eq_true_eq] at h
 obtain ⟨⟨⟨h1, h2⟩, h3⟩, h4⟩ := h
 unfold lkL
 refine K_enter (S := []) (K := []) Tryz.func56 rfl Tryz.ntmps56 rfl (Sat.start _) ?_
 refine TW.seq fun Y1 hY1 => TW.region ?_
 refine TL.m Mk.bx ?_
 intro b1
 refine TL.m Mk.bx ?_
 intro b2
 refine TL.m (Mk.al ty_zr25) ?_
 intro b3
 refine TL.nil (TQ.thenN (hY1 _ _ ?_))
 refine TW.seq fun Y2 hY2 => TW.region ?_
 refine TL.p (by first | exact Pu.fb ty_fa25_0 | exact Pu.fe ty_fa25_0) ?_
 refine TL.p (Pu.ld ty_sc3) ?_
 refine TL.p (by first | exact Pu.fb ty_fa27_1 | exact Pu.fe ty_fa27_1) ?_
 refine TL.p (Pu.ld ty_sc3) ?_
 refine TL.p (by first | exact Pu.fb ty_fa27_2 | exact Pu.fe ty_fa27_2) ?_
 refine TL.p (by first | exact Pu.fb ty_fa25_1 | exact Pu.fe ty_fa25_1) ?_
 refine TL.p (Pu.ld ty_sc3) ?_
 refine TL.p Pu.sb ?_
 refine TL.p Pu.mx ?_
 refine TL.p (by first | exact Pu.fb ty_fa25_1 | exact Pu.fe ty_fa25_1) ?_
 refine TL.p (Pu.ld ty_sc3) ?_
 refine TL.p (by first | exact Pu.fb ty_fa27_1 | exact Pu.fe ty_fa27_1) ?_
 refine TL.p (Pu.ld ty_sc3) ?_
 refine TL.p (by first | exact Pu.fb ty_fa27_2 | exact Pu.fe ty_fa27_2) ?_
 refine TL.p (by first | exact Pu.fb ty_fa25_0 | exact Pu.fe ty_fa25_0) ?_
 refine TL.p (Pu.ld ty_sc3) ?_
 refine TL.p Pu.sb ?_
 refine TL.p Pu.mn ?_
 refine TL.p Pu.bd ?_
 first | refine TL.st ty_sz25 ?_ | refine TL.se ty_sz25 ?_
 refine TL.nil (TQ.thenN (hY2 _ _ ?_))
 refine TW.ret ?_
 refine TQ.ret Tryz.results56 rfl ((RV.cs ty_ag25 .nil)) ?_
 exact fun w hw => Ret.of hw
def swA (v : Nat → Int) (k : Nat) : Nat → Int := fun j => if j + 1 = k then v k else if j = k then v (k - 1) else v j
theorem sw_perm {v : Nat → Int} {k : Nat} (h0 : 0 < k) : ∀ n, k < n → (toI (swA v k) n).Perm (toI v n)
  | 0, h => absurd h (Nat.not_lt_zero _)
  | n + 1, h => by
    rw [toI_succ, toI_succ]
    by_cases e : n = k
    · subst e
      obtain ⟨m, rfl⟩ : ∃ m, n = m + 1 := ⟨n - 1, by omega⟩
      rw [toI_succ, toI_succ]
      have e1 : toI (swA v (m + 1)) m = toI v m := toI_congr fun j hj => by unfold swA; rw [if_neg (by omega), if_neg (by omega)]
      have e2 : swA v (m + 1) m = v (m + 1) := if_pos rfl
      have e3 : swA v (m + 1) (m + 1) = v m := by unfold swA; rw [if_neg (by omega), if_pos rfl]; rfl
      rw [e1, e2, e3, List.append_assoc, List.append_assoc]
      exact (List.Perm.swap _ _ _).append_left _
    · have e2 : swA v k n = v n := by unfold swA; rw [if_neg (by omega), if_neg (by omega)]
      rw [e2]
      exact (sw_perm h0 n (by omega)).append_right _
structure OrdK (v : Nat → Int) (i k : Nat) : Prop where
 pr : ∀ j, j + 1 < i → j + 1 ≠ k → v j ≤ v (j + 1)
 up : 0 < k → k + 1 < i → v (k - 1) ≤ v (k + 1)
theorem OrdK.sw {v : Nat → Int} {i k : Nat} (h : OrdK v i k) (h0 : 0 < k) (hki : k < i) (hlt : v k < v (k - 1)) : OrdK (swA v k) i (k - 1) := by
  obtain ⟨m, rfl⟩ : ∃ m, k = m + 1 := ⟨k - 1, by omega⟩
  rw [Nat.add_sub_cancel] at hlt ⊢
  have e1 : swA v (m + 1) m = v (m + 1) := if_pos rfl
  have e2 : swA v (m + 1) (m + 1) = v m := by unfold swA; rw [if_neg (by omega), if_pos rfl]; rfl
  have e3 : ∀ j, j ≠ m → j ≠ m + 1 → swA v (m + 1) j = v j := fun j h1 h2 => by unfold swA; rw [if_neg (by omega), if_neg h2]
  refine ⟨fun j h1 h2 => ?_, fun h1 h2 => ?_⟩
  · by_cases c1 : j = m
    · subst c1; rw [e1, e2]; omega
    · by_cases c2 : j = m + 1
      · subst c2
        rw [e2, e3 (m + 1 + 1) (by omega) (by omega)]
        have := h.up (by omega) h1
        simpa using this
      · rw [e3 j c1 c2, e3 (j + 1) (by omega) (by omega)]
        exact h.pr j h1 (by omega)
  · rw [e2, e3 (m - 1) (by omega) (by omega)]
    have := h.pr (m - 1) (by omega) (by omega)
    rwa [show m - 1 + 1 = m by omega] at this
theorem ord_pw {v : Nat → Int} : ∀ n, (∀ j, j + 1 < n → v j ≤ v (j + 1)) → (toI v n).Pairwise (· ≤ ·)
  | 0, _ => by simp [toI]
  | 1, _ => by simp [toI]
  | n + 2, h => by
    have ih := ord_pw (n + 1) fun j hj => h j (by omega)
    rw [toI_succ]
    refine List.pairwise_append.2 ⟨ih, by simp, fun a ha b hb => ?_⟩
    have hb := List.mem_singleton.1 hb
    subst hb
    have hl := h n (by omega)
    rw [toI_succ] at ih ha
    rcases List.mem_append.1 ha with ha | ha
    · have := (List.pairwise_append.1 ih).2.2 a ha (v n) (by simp)
      omega
    · have := List.mem_singleton.1 ha
      omega
set_option maxRecDepth 100000 in
set_option maxHeartbeats 2000000 in
theorem rSorted_any {w : World} {A : Option Addr} {n cp : Nat} {v0 : Nat → Int} (h1 : n ≤ 1000000) (h : OwnR w A n cp 3 1 (fun j => [.int .i64 (v0 j)])) :
  CallsK Tryz.prog 58 #[.slice A n cp] [.own A n cp 3 1 (fun j => [.int .i64 (v0 j)])] w Unit (fun _ => .slice A n cp) (fun _ => [.own A n cp 3 1 (iL (srt (toI v0 n)))]) := by
 refine K_enter (S := feet [.own A n cp 3 1 (fun j => [.int .i64 (v0 j)])]) (K := [.own A n cp 3 1 (fun j => [.int .i64 (v0 j)])]) Tryz.func58 rfl Tryz.ntmps58 rfl (Sat.own1 h) ?_
 refine TW.seq fun Y1 hY1 => TW.region ?_
 refine TL.p Pu.as ?_
 refine TL.nil (TQ.thenN (hY1 _ _ ?_))
 refine TW.seq fun Y2 hY2 => ?_
 refine TW.seq fun Y3 hY3 => TW.region ?_
 refine TL.p Pu.as ?_
 refine TL.nil (TQ.thenN (hY3 _ _ ?_))
 refine TW.block ?_
 refine TW.loop2 (fun (i : Nat) (v : Nat → Int) => [(3, .int .i64 (i : Int)), (0, .slice A n cp)]) (fun i v => [.own A n cp 3 1 (fun j => [.int .i64 (v j)])]) (fun i v => 1 ≤ i ∧ (i ≤ n ∨ i = 1) ∧ (toI v n).Perm (toI v0 n) ∧ ∀ j, j + 1 < i → v j ≤ v (j + 1)) (fun i v => n - i) 1 v0 fs9 ?_ ?_ ?_
 exact ks9
 exact ⟨Nat.le_refl _, .inr rfl, List.Perm.refl _, fun j hj => by omega⟩
 rintro i v ⟨hi1, hin, hpm, hor⟩ Z0 hZ0
 refine TW.seq fun Y4 hY4 => ?_
 refine TW.seq fun Y5 hY5 => TW.region ?_
 refine TL.p Pu.mv ?_
 refine TL.p Pu.mv ?_
 refine TL.p (Pu.ln Tryz.underlying33) ?_
 refine TL.p Pu.lt ?_
 refine TL.nil (TQ.thenN (hY5 _ _ ?_))
 refine TW.cond rfl (fun hc0 => ?_) (fun hc0 => ?_)
 try simp only [zcb9] at hc0
 have hlt : i < n := by omega
 refine TW.skip ?_
 refine TQ.thenN (hY4 _ _ ?_)
 refine TW.seq fun Y6 hY6 => ?_
 refine TW.block ?_
 refine TW.seq fun Y7 hY7 => TW.region ?_
 refine TL.p Pu.mv ?_
 refine TL.p Pu.as ?_
 refine TL.nil (TQ.thenN (hY7 _ _ ?_))
 refine TW.block ?_
 refine TW.loop2 (fun (k : Nat) (u : Nat → Int) => [(4, .int .i64 (k : Int)), (3, .int .i64 (i : Int)), (0, .slice A n cp)]) (fun k u => [.own A n cp 3 1 (fun j => [.int .i64 (u j)])]) (fun k u => k ≤ i ∧ (toI u n).Perm (toI v0 n) ∧ OrdK u (i + 1) k) (fun k u => k) i v fs9 ?_ ?_ ?_
 exact ks9
 exact ⟨Nat.le_refl _, hpm, ⟨fun j h1 h2 => hor j (by omega), fun h1 h2 => by omega⟩⟩
 rintro k u ⟨hki, hpu, hok⟩ Z1 hZ1
 refine TW.seq fun Y8 hY8 => ?_
 refine TW.seq fun Y9 hY9 => ?_
 refine TW.join [(25, .bool (decide (0 < k) && decide (u k < u (k - 1))))] ?_ (fun hJ1 => ?_)
 refine TQ.thenN (hY9 _ _ ?_)
 refine TW.cond rfl (fun hc1 => ?_) (fun hc1 => ?_)
 try simp only [zcb9] at hc1
 have hk0 : 0 < k := hc1.1
 have hul : u k < u (k - 1) := hc1.2
 refine TW.skip ?_
 refine TQ.thenN (hY8 _ _ ?_)
 refine TW.seq fun Y10 hY10 => ?_
 refine TW.block ?_
 refine TW.expk [] (fun (_ : Unit) => ([(4, .int .i64 (k : Int)), (3, .int .i64 (i : Int)), (0, .slice A n cp)] : Fr)) (fun (_ : Unit) => [.own A n cp 3 1 (fun j => [.int .i64 (swA u k j)])]) ?_ (fun hE => ?_)
 rintro ⟨⟩
 refine TQ.blkN ?_
 refine TQ.thenN (hY10 _ _ ?_)
 refine TW.region ?_
 refine TL.p Pu.mv ?_
 refine TL.p Pu.sb ?_
 refine TL.p Pu.as ?_
 refine TL.nil ?_
 refine TQ.thenN (hZ1 (k - 1) (swA u k) _ _ ?_ ?_ ⟨(by show some (Value.int .i64 _) = some (Value.int .i64 _); congr 2; omega), rfl, rfl, trivial⟩ ?_)
 exact ⟨by omega, (sw_perm hk0 n (by omega)).trans hpu, hok.sw hk0 (by omega) hul⟩
 exact zom9
 exact ks9
 refine RG.tk 0 rfl Pu.mv ?_
 refine RG.tk 1 rfl Pu.mv ?_
 refine RG.tk 2 rfl Pu.mv ?_
 refine RG.tk 3 rfl Pu.mv ?_
 refine RG.tk 4 rfl Pu.sb ?_
 refine RG.tk 5 rfl Pu.mv ?_
 refine RG.tk 6 rfl Pu.mv ?_
 refine RG.tk 7 rfl Pu.sb ?_
 refine RG.tk 10 rfl Pu.mv ?_
 refine RG.tk 11 rfl Pu.mv ?_
 refine RG.a2 8 12 rfl rfl (fun X8 hX8 => ?_) (fun X12 hX12 => ?_)
 refine TL.p (Pu.el (q := k - 1) ty_et33 (hk := by omega)) ?_
 refine TL.nil ?_
 refine TQ.nxt (hX8 _ _ hl9 ?_)
 refine RG.a2 9 12 rfl rfl (fun X9 hX9 => ?_) (fun X12 hX12 => ?_)
 refine TL.p (Pu.ld ty_sc3) ?_
 refine TL.nil ?_
 refine TQ.nxt (hX9 _ _ hl9 ?_)
 refine RG.a1 12 rfl (fun X12 hX12 => ?_)
 refine TL.p (Pu.el ty_et33) ?_
 refine TL.nil ?_
 refine TQ.nxt (hX12 _ _ hl9 ?_)
 refine RG.a1 13 rfl (fun X13 hX13 => ?_)
 refine TL.p (Pu.ld ty_sc3) ?_
 refine TL.nil ?_
 refine TQ.nxt (hX13 _ _ hl9 ?_)
 refine RG.a1 14 rfl (fun X14 hX14 => ?_)
 refine TL.p (Pu.el ty_et33) ?_
 refine TL.nil ?_
 refine TQ.nxt (hX14 _ _ hl9 ?_)
 refine RG.a1 15 rfl (fun X15 hX15 => ?_)
 first | refine TL.st ty_sz3 ?_ | refine TL.se ty_sz3 ?_
 refine TL.nil ?_
 refine TQ.nxt (hX15 _ _ hl9 ?_)
 refine RG.a1 16 rfl (fun X16 hX16 => ?_)
 refine TL.p (Pu.el (q := k - 1) ty_et33 (hk := by omega)) ?_
 refine TL.nil ?_
 refine TQ.nxt (hX16 _ _ hl9 ?_)
 refine RG.a1 17 rfl (fun X17 hX17 => ?_)
 refine TL.subK (KSub.own (s := fun j => [.int .i64 (if j = k then u (k - 1) else u j)]) pk9 (fun j hj => by unfold updR; split <;> rfl) (KSub.refl _)) ?_
 refine TL.se ty_sz3 ?_
 refine TL.subK (KSub.own (s := fun j => [.int .i64 (swA u k j)]) pk9 (fun j hj => by
  unfold updR swA
  by_cases h9 : j = k - 1
  rw [if_pos h9, if_pos (by omega)]
  rw [if_neg h9, if_neg (by omega)]) (KSub.refl _)) ?_
 refine TL.nil ?_
 refine TQ.nxt (hX17 _ _ hl9 ?_)
 exact RG.nil (TQ.sub fs9 kt9 (hE ⟨⟩)) (by kernel_rfl)
 refine TL.p (Pu.el ty_et33) ?_
 refine TL.nil ?_
 refine TQ.nxt (hX12 _ _ hl9 ?_)
 refine RG.a2 9 13 rfl rfl (fun X9 hX9 => ?_) (fun X13 hX13 => ?_)
 refine TL.p (Pu.ld ty_sc3) ?_
 refine TL.nil ?_
 refine TQ.nxt (hX9 _ _ hl9 ?_)
 refine RG.a1 13 rfl (fun X13 hX13 => ?_)
 refine TL.p (Pu.ld ty_sc3) ?_
 refine TL.nil ?_
 refine TQ.nxt (hX13 _ _ hl9 ?_)
 refine RG.a1 14 rfl (fun X14 hX14 => ?_)
 refine TL.p (Pu.el ty_et33) ?_
 refine TL.nil ?_
 refine TQ.nxt (hX14 _ _ hl9 ?_)
 refine RG.a1 15 rfl (fun X15 hX15 => ?_)
 first | refine TL.st ty_sz3 ?_ | refine TL.se ty_sz3 ?_
 refine TL.nil ?_
 refine TQ.nxt (hX15 _ _ hl9 ?_)
 refine RG.a1 16 rfl (fun X16 hX16 => ?_)
 refine TL.p (Pu.el (q := k - 1) ty_et33 (hk := by omega)) ?_
 refine TL.nil ?_
 refine TQ.nxt (hX16 _ _ hl9 ?_)
 refine RG.a1 17 rfl (fun X17 hX17 => ?_)
 refine TL.subK (KSub.own (s := fun j => [.int .i64 (if j = k then u (k - 1) else u j)]) pk9 (fun j hj => by unfold updR; split <;> rfl) (KSub.refl _)) ?_
 refine TL.se ty_sz3 ?_
 refine TL.subK (KSub.own (s := fun j => [.int .i64 (swA u k j)]) pk9 (fun j hj => by
  unfold updR swA
  by_cases h9 : j = k - 1
  rw [if_pos h9, if_pos (by omega)]
  rw [if_neg h9, if_neg (by omega)]) (KSub.refl _)) ?_
 refine TL.nil ?_
 refine TQ.nxt (hX17 _ _ hl9 ?_)
 exact RG.nil (TQ.sub fs9 kt9 (hE ⟨⟩)) (by kernel_rfl)
 refine TL.p (Pu.ld ty_sc3) ?_
 refine TL.nil ?_
 refine TQ.nxt (hX13 _ _ hl9 ?_)
 refine RG.a1 9 rfl (fun X9 hX9 => ?_)
 refine TL.p (Pu.ld ty_sc3) ?_
 refine TL.nil ?_
 refine TQ.nxt (hX9 _ _ hl9 ?_)
 refine RG.a1 14 rfl (fun X14 hX14 => ?_)
 refine TL.p (Pu.el ty_et33) ?_
 refine TL.nil ?_
 refine TQ.nxt (hX14 _ _ hl9 ?_)
 refine RG.a1 15 rfl (fun X15 hX15 => ?_)
 first | refine TL.st ty_sz3 ?_ | refine TL.se ty_sz3 ?_
 refine TL.nil ?_
 refine TQ.nxt (hX15 _ _ hl9 ?_)
 refine RG.a1 16 rfl (fun X16 hX16 => ?_)
 refine TL.p (Pu.el (q := k - 1) ty_et33 (hk := by omega)) ?_
 refine TL.nil ?_
 refine TQ.nxt (hX16 _ _ hl9 ?_)
 refine RG.a1 17 rfl (fun X17 hX17 => ?_)
 refine TL.subK (KSub.own (s := fun j => [.int .i64 (if j = k then u (k - 1) else u j)]) pk9 (fun j hj => by unfold updR; split <;> rfl) (KSub.refl _)) ?_
 refine TL.se ty_sz3 ?_
 refine TL.subK (KSub.own (s := fun j => [.int .i64 (swA u k j)]) pk9 (fun j hj => by
  unfold updR swA
  by_cases h9 : j = k - 1
  rw [if_pos h9, if_pos (by omega)]
  rw [if_neg h9, if_neg (by omega)]) (KSub.refl _)) ?_
 refine TL.nil ?_
 refine TQ.nxt (hX17 _ _ hl9 ?_)
 exact RG.nil (TQ.sub fs9 kt9 (hE ⟨⟩)) (by kernel_rfl)
 refine TL.p (Pu.el ty_et33) ?_
 refine TL.nil ?_
 refine TQ.nxt (hX12 _ _ hl9 ?_)
 refine RG.a2 8 13 rfl rfl (fun X8 hX8 => ?_) (fun X13 hX13 => ?_)
 refine TL.p (Pu.el (q := k - 1) ty_et33 (hk := by omega)) ?_
 refine TL.nil ?_
 refine TQ.nxt (hX8 _ _ hl9 ?_)
 refine RG.a2 9 13 rfl rfl (fun X9 hX9 => ?_) (fun X13 hX13 => ?_)
 refine TL.p (Pu.ld ty_sc3) ?_
 refine TL.nil ?_
 refine TQ.nxt (hX9 _ _ hl9 ?_)
 refine RG.a1 13 rfl (fun X13 hX13 => ?_)
 refine TL.p (Pu.ld ty_sc3) ?_
 refine TL.nil ?_
 refine TQ.nxt (hX13 _ _ hl9 ?_)
 refine RG.a1 14 rfl (fun X14 hX14 => ?_)
 refine TL.p (Pu.el ty_et33) ?_
 refine TL.nil ?_
 refine TQ.nxt (hX14 _ _ hl9 ?_)
 refine RG.a1 15 rfl (fun X15 hX15 => ?_)
 first | refine TL.st ty_sz3 ?_ | refine TL.se ty_sz3 ?_
 refine TL.nil ?_
 refine TQ.nxt (hX15 _ _ hl9 ?_)
 refine RG.a1 16 rfl (fun X16 hX16 => ?_)
 refine TL.p (Pu.el (q := k - 1) ty_et33 (hk := by omega)) ?_
 refine TL.nil ?_
 refine TQ.nxt (hX16 _ _ hl9 ?_)
 refine RG.a1 17 rfl (fun X17 hX17 => ?_)
 refine TL.subK (KSub.own (s := fun j => [.int .i64 (if j = k then u (k - 1) else u j)]) pk9 (fun j hj => by unfold updR; split <;> rfl) (KSub.refl _)) ?_
 refine TL.se ty_sz3 ?_
 refine TL.subK (KSub.own (s := fun j => [.int .i64 (swA u k j)]) pk9 (fun j hj => by
  unfold updR swA
  by_cases h9 : j = k - 1
  rw [if_pos h9, if_pos (by omega)]
  rw [if_neg h9, if_neg (by omega)]) (KSub.refl _)) ?_
 refine TL.nil ?_
 refine TQ.nxt (hX17 _ _ hl9 ?_)
 exact RG.nil (TQ.sub fs9 kt9 (hE ⟨⟩)) (by kernel_rfl)
 refine TL.p (Pu.ld ty_sc3) ?_
 refine TL.nil ?_
 refine TQ.nxt (hX13 _ _ hl9 ?_)
 refine RG.a1 9 rfl (fun X9 hX9 => ?_)
 refine TL.p (Pu.ld ty_sc3) ?_
 refine TL.nil ?_
 refine TQ.nxt (hX9 _ _ hl9 ?_)
 refine RG.a1 14 rfl (fun X14 hX14 => ?_)
 refine TL.p (Pu.el ty_et33) ?_
 refine TL.nil ?_
 refine TQ.nxt (hX14 _ _ hl9 ?_)
 refine RG.a1 15 rfl (fun X15 hX15 => ?_)
 first | refine TL.st ty_sz3 ?_ | refine TL.se ty_sz3 ?_
 refine TL.nil ?_
 refine TQ.nxt (hX15 _ _ hl9 ?_)
 refine RG.a1 16 rfl (fun X16 hX16 => ?_)
 refine TL.p (Pu.el (q := k - 1) ty_et33 (hk := by omega)) ?_
 refine TL.nil ?_
 refine TQ.nxt (hX16 _ _ hl9 ?_)
 refine RG.a1 17 rfl (fun X17 hX17 => ?_)
 refine TL.subK (KSub.own (s := fun j => [.int .i64 (if j = k then u (k - 1) else u j)]) pk9 (fun j hj => by unfold updR; split <;> rfl) (KSub.refl _)) ?_
 refine TL.se ty_sz3 ?_
 refine TL.subK (KSub.own (s := fun j => [.int .i64 (swA u k j)]) pk9 (fun j hj => by
  unfold updR swA
  by_cases h9 : j = k - 1
  rw [if_pos h9, if_pos (by omega)]
  rw [if_neg h9, if_neg (by omega)]) (KSub.refl _)) ?_
 refine TL.nil ?_
 refine TQ.nxt (hX17 _ _ hl9 ?_)
 exact RG.nil (TQ.sub fs9 kt9 (hE ⟨⟩)) (by kernel_rfl)
 refine TL.p (Pu.ld ty_sc3) ?_
 refine TL.nil ?_
 refine TQ.nxt (hX13 _ _ hl9 ?_)
 refine RG.a1 8 rfl (fun X8 hX8 => ?_)
 refine TL.p (Pu.el (q := k - 1) ty_et33 (hk := by omega)) ?_
 refine TL.nil ?_
 refine TQ.nxt (hX8 _ _ hl9 ?_)
 refine RG.a1 9 rfl (fun X9 hX9 => ?_)
 refine TL.p (Pu.ld ty_sc3) ?_
 refine TL.nil ?_
 refine TQ.nxt (hX9 _ _ hl9 ?_)
 refine RG.a1 14 rfl (fun X14 hX14 => ?_)
 refine TL.p (Pu.el ty_et33) ?_
 refine TL.nil ?_
 refine TQ.nxt (hX14 _ _ hl9 ?_)
 refine RG.a1 15 rfl (fun X15 hX15 => ?_)
 first | refine TL.st ty_sz3 ?_ | refine TL.se ty_sz3 ?_
 refine TL.nil ?_
 refine TQ.nxt (hX15 _ _ hl9 ?_)
 refine RG.a1 16 rfl (fun X16 hX16 => ?_)
 refine TL.p (Pu.el (q := k - 1) ty_et33 (hk := by omega)) ?_
 refine TL.nil ?_
 refine TQ.nxt (hX16 _ _ hl9 ?_)
 refine RG.a1 17 rfl (fun X17 hX17 => ?_)
 refine TL.subK (KSub.own (s := fun j => [.int .i64 (if j = k then u (k - 1) else u j)]) pk9 (fun j hj => by unfold updR; split <;> rfl) (KSub.refl _)) ?_
 refine TL.se ty_sz3 ?_
 refine TL.subK (KSub.own (s := fun j => [.int .i64 (swA u k j)]) pk9 (fun j hj => by
  unfold updR swA
  by_cases h9 : j = k - 1
  rw [if_pos h9, if_pos (by omega)]
  rw [if_neg h9, if_neg (by omega)]) (KSub.refl _)) ?_
 refine TL.nil ?_
 refine TQ.nxt (hX17 _ _ hl9 ?_)
 exact RG.nil (TQ.sub fs9 kt9 (hE ⟨⟩)) (by kernel_rfl)
 try simp only [zcb9] at hc1
 have hdn : ∀ j, j + 1 < i + 1 → u j ≤ u (j + 1) := fun j hj => by
  by_cases e : j + 1 = k
  have : ¬ (0 < k ∧ u k < u (k - 1)) := fun hh => by have := hh.1; have := hh.2; rcases hc1 with h | h <;> omega
  have e2 : k - 1 = j := by omega
  rw [e2] at this
  rw [e]; omega
  exact hok.pr j hj e
 refine TW.exit ?_
 refine TQ.thenX ?_
 refine TQ.thenX ?_
 refine TQ.blkX ?_
 refine TQ.blkN ?_
 refine TQ.thenN (hY6 _ _ ?_)
 refine TW.region ?_
 refine TL.p Pu.mv ?_
 refine TL.p Pu.ad ?_
 refine TL.p Pu.as ?_
 refine TL.nil ?_
 refine TQ.thenN (hZ0 (i + 1) u _ _ ?_ ?_ fs9 ?_)
 exact ⟨by omega, .inl (by omega), hpu, hdn⟩
 exact zom9
 exact ks9
 refine TW.dw 14 ?_
 refine RK.tk Pu.mv ?_
 refine RK.tk Pu.gt ?_
 refine RK.tk Pu.mv ?_
 refine RK.guard (t := 14) rfl (fun hg1 => ?_) (fun hg1 => ?_)
 try simp only [zgb9] at hg1
 refine RK.tk Pu.mv ?_
 refine RK.tk Pu.mv ?_
 refine RK.tk (Pu.el ty_et33) ?_
 refine RK.tk (Pu.ld ty_sc3) ?_
 refine RK.tk Pu.mv ?_
 refine RK.tk Pu.mv ?_
 refine RK.tk Pu.sb ?_
 refine RK.tk (Pu.el (q := k - 1) ty_et33 (hk := by omega)) ?_
 refine RK.tk (Pu.ld ty_sc3) ?_
 refine RK.tk Pu.lt ?_
 refine RK.tk Pu.kt ?_
 refine RK.ch [] ?_ trivial
 refine WK.n ?_
 refine TL.nil ?_
 exact TQ.sub (by repeat (first | exact trivial | refine ⟨rfl, ?_⟩ | refine ⟨trivial, ?_⟩ | refine ⟨(by show some (Value.bool _) = some (Value.bool _); first | (simp [hg1]; done) | (refine congrArg (fun z => some (Value.bool z)) (Bool.eq_iff_iff.2 ?_); simp [hg1]; omega)), ?_⟩)) ks9 hJ1
 try simp only [zgb9] at hg1
 refine RK.s ?_
 refine RK.s ?_
 refine RK.s ?_
 refine RK.s ?_
 refine RK.s ?_
 refine RK.s ?_
 refine RK.s ?_
 refine RK.s ?_
 refine RK.s ?_
 refine RK.s ?_
 refine RK.tk Pu.kf ?_
 refine RK.ch [] ?_ trivial
 refine WK.n ?_
 refine TL.nil ?_
 exact TQ.sub (by repeat (first | exact trivial | refine ⟨rfl, ?_⟩ | refine ⟨trivial, ?_⟩ | refine ⟨(by show some (Value.bool _) = some (Value.bool _); first | (simp [hg1]; done) | (refine congrArg (fun z => some (Value.bool z)) (Bool.eq_iff_iff.2 ?_); simp [hg1]; omega)), ?_⟩)) ks9 hJ1
 try simp only [zcb9] at hc0
 have hge : n ≤ i := by omega
 refine TW.exit ?_
 refine TQ.thenX ?_
 refine TQ.thenX ?_
 refine TQ.blkX ?_
 refine TQ.thenN (hY2 _ _ ?_)
 refine TW.seq fun Y11 hY11 => TW.region ?_
 refine TL.p Pu.mv ?_
 refine TL.p Pu.as ?_
 refine TL.nil (TQ.thenN (hY11 _ _ ?_))
 refine TW.ret ?_
 refine TQ.ret Tryz.results58 rfl ((.tmp rfl .nil)) ?_
 have hs : srt (toI v0 n) = toI v n := srt_uniq hpm.symm (ord_pw n fun j hj => hor j (by omega))
 exact fun w hw => ⟨(), rfl, by rw [hs]; exact hw.sub (KSub.own Pick.hd (fun j hj => by simp only [iL, toI_get hj]) KSub.nil)⟩
end Go.Proofs.YtceokmaddbdnfaaGreat
namespace Go.Proofs.YtceokmaddbdnfaaGreat
set_option linter.all false
set_option linter.unusedVariables false
set_option linter.unusedSimpArgs false
open Go.RowKit
theorem Fact.locB {φ : Fact} {w w' : World} (h : φ.holds w) (he : ∀ b ∈ φ.foot, w'.heap[b]? = w.heap[b]?) : φ.holds w' := by
  match φ, h, he with
  | .blk b t cs, h, he => exact (he b (by simp [Fact.foot])).trans h
  | .own A n c E sz f, h, he => exact ⟨own_of_block h.own fun b hb => he b (by rw [own_foot, hb]; simp), h.len⟩
  | .obj b o, h, he => exact ⟨(he b (by simp [Fact.foot])).trans h.1, h.2⟩
  | .pr l p, h, he =>
    refine ⟨h.loc w w' h.lt h.now he, fun b hb => ?_, h.loc⟩
    have h1 := h.lt b hb
    have h2 := he b hb
    rw [Array.getElem?_eq_getElem h1] at h2
    exact (Array.getElem?_eq_some_iff.1 h2).1
def bun (K : List Fact) : Fact := .pr (feet K) fun w => ∀ φ ∈ K, φ.holds w
theorem bun_holds {K : List Fact} {w : World} (h : ∀ φ ∈ K, φ.holds w) : (bun K).holds w :=
 ⟨h, fun b hb => by
  obtain ⟨φ, hφ, hb'⟩ := List.mem_flatMap.1 hb
  exact Fact.lt (h φ hφ) b hb', fun w w' _ hp he φ hφ => Fact.locB (hp φ hφ) fun b hb => he b (List.mem_flatMap.2 ⟨φ, hφ, hb⟩)⟩
theorem Sat.bun {S : List Nat} {w0 w : World} {K1 K : List Fact} (h : Sat S w0 (K1 ++ K) w) : Sat S w0 (bun K1 :: K) w := by
 have e : feet (Go.Proofs.YtceokmaddbdnfaaGreat.bun K1 :: K) = feet (K1 ++ K) := by rw [feet_append]; rfl
 refine ⟨h.chg, by rw [e]; exact h.nd, by rw [e]; exact h.ge, fun φ hφ => ?_⟩
 rcases List.mem_cons.1 hφ with rfl | hφ
 · exact bun_holds fun ψ hψ => h.holds ψ (List.mem_append_left _ hψ)
 · exact h.holds φ (List.mem_append_right _ hφ)
theorem TL.bun {c : Cx} {Q : Exit → Act → World → Prop} {F : Fr} {K1 K : List Fact} {ops : Array Oper} {rest : List Oper} (h : TL c ops Q rest F (bun K1 :: K)) : TL c ops Q rest F (K1 ++ K) := fun a w hF hK => h a w hF hK.bun
theorem bun_get {S : List Nat} {w0 w : World} {K1 K : List Fact} (hw : Sat S w0 K w) (hm : bun K1 ∈ K) {φ : Fact} (h : φ ∈ K1) : φ.holds w := (hw.holds _ hm).now φ h
end Go.Proofs.YtceokmaddbdnfaaGreat
namespace Go.Proofs.YtceokmaddbdnfaaGreat
set_option linter.all false
set_option linter.unusedVariables false
set_option linter.unusedSimpArgs false
open Go.RowKit
def ownsE (E : TypeId) (sz : Nat) (A : Nat → Option Addr) (l c : Nat → Nat) (r : Nat → Nat → List Value) : Nat → List Fact
 | 0 => []
 | n + 1 => .own (A n) (l n) (c n) E sz (r n) :: ownsE E sz A l c r n
theorem ownsE_congr {E : TypeId} {sz : Nat} {A A2 : Nat → Option Addr} {l c c2 : Nat → Nat} {r : Nat → Nat → List Value} : ∀ {n : Nat}, (∀ i, i < n → A i = A2 i ∧ c i = c2 i) → ownsE E sz A l c r n = ownsE E sz A2 l c2 r n
 | 0, _ => rfl
 | n + 1, h => by
  obtain ⟨h1, h2⟩ := h n (by omega)
  simp only [ownsE, h1, h2, ownsE_congr (n := n) fun i hi => h i (by omega)]
theorem ownsE_mem {E : TypeId} {sz : Nat} {A : Nat → Option Addr} {l c : Nat → Nat} {r : Nat → Nat → List Value} {s : Nat} : ∀ {n : Nat}, s < n → Fact.own (A s) (l s) (c s) E sz (r s) ∈ ownsE E sz A l c r n
 | n + 1, h => by
  simp only [ownsE, List.mem_cons]
  by_cases hs : s = n
  · subst hs; exact .inl rfl
  · exact .inr (ownsE_mem (by omega))
def updA {α : Type} (f : Nat → α) (s : Nat) (x : α) : Nat → α := fun i => if i = s then x else f i
end Go.Proofs.YtceokmaddbdnfaaGreat
namespace Go.Proofs.YtceokmaddbdnfaaGreat
set_option linter.all false
set_option linter.unusedVariables false
set_option linter.unusedSimpArgs false
open Go.RowKit
abbrev tied (K : List Fact) : Fact := bun K
theorem Sat.unbun {S : List Nat} {w0 w : World} {K1 K : List Fact} (h : Sat S w0 (tied K1 :: K) w) : Sat S w0 (K1 ++ K) w := by
 have e : feet (tied K1 :: K) = feet (K1 ++ K) := by rw [feet_append]; rfl
 refine ⟨h.chg, by rw [← e]; exact h.nd, by rw [← e]; exact h.ge, fun φ hφ => ?_⟩
 rcases List.mem_append.1 hφ with hφ | hφ
 · exact (h.holds _ (List.mem_cons_self ..)).now φ hφ
 · exact h.holds φ (List.mem_cons_of_mem _ hφ)
def ownsXE (E : TypeId) (sz : Nat) (A : Nat → Option Addr) (l c : Nat → Nat) (r : Nat → Nat → List Value) (s : Nat) : Nat → List Fact
 | 0 => []
 | n + 1 => if n = s then ownsE E sz A l c r n else .own (A n) (l n) (c n) E sz (r n) :: ownsXE E sz A l c r s n
section
variable {E : TypeId} {sz : Nat} {A A2 : Nat → Option Addr} {l l2 c c2 : Nat → Nat} {r r2 : Nat → Nat → List Value} {s : Nat}
theorem ownsE_perm : ∀ {n : Nat}, s < n → (ownsE E sz A l c r n).Perm (.own (A s) (l s) (c s) E sz (r s) :: ownsXE E sz A l c r s n)
 | n + 1, h => by
  by_cases hs : n = s
  · subst hs
    simp only [ownsE, ownsXE, if_true]
    exact List.Perm.refl _
  · simp only [ownsE, ownsXE, if_neg hs]
    exact ((ownsE_perm (n := n) (by omega)).cons _).trans (List.Perm.swap _ _ _)
theorem ownsE_congr2 : ∀ {n : Nat}, (∀ i, i < n → A i = A2 i ∧ l i = l2 i ∧ c i = c2 i ∧ r i = r2 i) → ownsE E sz A l c r n = ownsE E sz A2 l2 c2 r2 n
 | 0, _ => rfl
 | n + 1, h => by
  obtain ⟨h1, h2, h3, h4⟩ := h n (by omega)
  simp only [ownsE, h1, h2, h3, h4, ownsE_congr2 (n := n) fun i hi => h i (by omega)]
theorem ownsXE_congr : ∀ {n : Nat}, (∀ i, i < n → i ≠ s → A i = A2 i ∧ l i = l2 i ∧ c i = c2 i ∧ r i = r2 i) → ownsXE E sz A l c r s n = ownsXE E sz A2 l2 c2 r2 s n
  | 0, _ => rfl
  | n + 1, h => by
    by_cases hs : n = s
    · subst hs
      simp only [ownsXE, if_true]
      exact ownsE_congr2 fun i hi => h i (by omega) (by omega)
    · obtain ⟨h1, h2, h3, h4⟩ := h n (by omega) hs
      simp only [ownsXE, if_neg hs, h1, h2, h3, h4, ownsXE_congr (n := n) fun i hi => h i (by omega)]
variable {cx : Cx} {Q : Exit → Act → World → Prop} {F : Fr} {K K' : List Fact} {ops : Array Oper} {rest : List Oper}
theorem TL.ownTake {n : Nat} (s : Nat) (hs : s < n) (hp : Pick K (tied (ownsE E sz A l c r n)) K') (h : TL cx ops Q rest F (.own (A s) (l s) (c s) E sz (r s) :: tied (ownsXE E sz A l c r s n) :: K')) : TL cx ops Q rest F K := fun a w hF hK => by
 have h1 : Sat cx.S cx.w0 (ownsE E sz A l c r n ++ K') w := (hK.pick hp).unbun
 have h2 := h1.perm ((ownsE_perm hs).append_right K')
 have h3 : Sat cx.S cx.w0 (ownsXE E sz A l c r s n ++ (.own (A s) (l s) (c s) E sz (r s) :: K')) w := h2.perm List.perm_middle.symm
 exact h a w hF (h3.bun.perm (List.Perm.swap _ _ _))
theorem TL.ownPut {n : Nat} {A9 : Option Addr} {l9 c9 : Nat} {r9 : Nat → List Value} {K1 K2 : List Fact} (hp : Pick K (.own A9 l9 c9 E sz r9) K1) (hp2 : Pick K1 (tied (ownsXE E sz A l c r s n)) K2) (hs : s < n) (hA : A2 s = A9) (hl : l2 s = l9) (hc : c2 s = c9) (hr : ∀ k, k < l9 → r9 k = r2 s k)
  (ho : ∀ i, i < n → i ≠ s → A i = A2 i ∧ l i = l2 i ∧ c i = c2 i ∧ r i = r2 i) (h : TL cx ops Q rest F (tied (ownsE E sz A2 l2 c2 r2 n) :: K2)) : TL cx ops Q rest F K := fun a w hF hK => by
 subst hA hl hc
 have h1 := (hK.pick hp).sub (KSub.own Pick.hd hr (KSub.refl _))
 have h2 := h1.perm ((hp2.perm).cons _)
 have h3 := h2.perm (List.Perm.swap _ _ _)
 have h4 := h3.unbun
 rw [ownsXE_congr ho] at h4
 have h5 : Sat cx.S cx.w0 ((.own (A2 s) (l2 s) (c2 s) E sz (r2 s) :: ownsXE E sz A2 l2 c2 r2 s n) ++ K2) w := h4.perm List.perm_middle
 exact h a w hF ((h5.perm ((ownsE_perm hs).symm.append_right K2)).bun)
end
end Go.Proofs.YtceokmaddbdnfaaGreat
namespace Go.Proofs.YtceokmaddbdnfaaGreat
set_option linter.all false
set_option linter.unusedVariables false
set_option linter.unusedSimpArgs false
open Go.RowKit
structure LksIn (w : World) (nl : Nat) (L : Nat → Lk) (B : Option Addr) (la : Nat → Option Addr) (lc : Nat → Nat) : Prop where
 hn : nl ≤ 1000
 hR : RdR w 4 B nl (fun k => lkL (L k) (la k) (lc k))
 hL : ∀ k, k < nl → LkIn w (L k) (la k)
structure CvsIn (w : World) (nc : Nat) (dm yg : Nat → Int) (C : Option Addr) : Prop where
 hn : nc ≤ 1000
 hR : RdR w 2 C nc (fun k => [.int .i64 (dm k), .int .i64 (yg k)])
theorem LksIn.ext {w w' : World} {nl : Nat} {L : Nat → Lk} {B : Option Addr} {la : Nat → Option Addr} {lc : Nat → Nat} (h : LksIn w nl L B la lc) (hb : Below w.heap.size w w') : LksIn w' nl L B la lc := ⟨h.hn, ⟨h.hR.rd.below hb, h.hR.len⟩, fun k hk => (h.hL k hk).ext hb⟩
theorem CvsIn.ext {w w' : World} {nc : Nat} {dm yg : Nat → Int} {C : Option Addr} (h : CvsIn w nc dm yg C) (hb : Below w.heap.size w w') : CvsIn w' nc dm yg C := ⟨h.hn, ⟨h.hR.rd.below hb, h.hR.len⟩⟩
theorem lk_8 {l : Lk} (h : lkB l = true) : l.ns = 8 := by
 unfold lkB at h
 simp only [Bool.and_eq_true, decide_eq_true_eq] at h
 exact h.1.1.1
def cv1 (nl : Nat) (dm yg : Nat → Int) (c : Nat) : Bool := inB5 0 ((nl : Int) - 1) (dm c) && inB5 0 ((nl : Int) - 1) (yg c) && !decide (dm c = yg c)
theorem cv_all {nl nc : Nat} {dm yg : Nat → Int} : allB nc (cv1 nl dm yg) = cvB nl nc dm yg := rfl
set_option maxRecDepth 100000 in
set_option maxHeartbeats 2000000 in
theorem rLooks_any {w : World} {nl nc cb cc : Nat} {L : Nat → Lk} {B C : Option Addr} {la : Nat → Option Addr} {lc : Nat → Nat} {dm yg : Nat → Int} (hL : LksIn w nl L B la lc) (hC : CvsIn w nc dm yg C) :
  Calls Tryz.prog 34 #[.slice B nl cb, .slice C nc cc] w (Ret w (.int .i64 (lksC nl L nc dm yg))) := by
 have hn := hL.hn
 have hm := hC.hn
 have hRL := hL.hR
 have hRC := hC.hR
 have fL := fun (w' : World) (k : Nat) (h1 : LkIn w' (L k) (la k)) => rLook_any (c := lc k) h1
 unfold lkL at hRL fL
 refine K_enter (S := []) (K := []) Tryz.func34 rfl Tryz.ntmps34 rfl (Sat.start _) ?_
 refine TW.seq fun Y1 hY1 => TW.region ?_
 refine TL.p Pu.as ?_
 refine TL.nil (TQ.thenN (hY1 _ _ ?_))
 refine TW.seq fun Y2 hY2 => ?_
 refine TW.seq fun Y3 hY3 => ?_
 refine TW.join [(15, .bool (decide ((4 : Int) < (nl : Int)) || decide ((6 : Int) < (nc : Int))))] ?_ (fun hJ1 => ?_)
 refine TQ.thenN (hY3 _ _ ?_)
 refine TW.cond rfl (fun hc0 => ?_) (fun hc0 => ?_)
 try simp only [zcb9] at hc0
 have hbig : ¬ ((nl : Int) ≤ 4 ∧ (nc : Int) ≤ 6) := by
  intro hh
  rcases hc0 with h | h <;> omega
 refine TW.seq fun Y4 hY4 => TW.region ?_
 refine TL.p Pu.as ?_
 refine TL.nil (TQ.thenN (hY4 _ _ ?_))
 refine TW.ret ?_
 refine TQ.thenR ?_
 refine TQ.ret Tryz.results34 rfl ((.tmp rfl .nil)) ?_
 exact fun w hw => ⟨ret_int (by unfold lksC; rw [if_pos hbig]), Chg.ext hw.chg⟩
 try simp only [zcb9] at hc0
 have hsm : (nl : Int) ≤ 4 ∧ (nc : Int) ≤ 6 := ⟨by have := hc0.1; omega, by have := hc0.2; omega⟩
 refine TW.skip ?_
 refine TQ.thenN (hY2 _ _ ?_)
 refine TW.seq fun Y5 hY5 => ?_
 refine TW.seq fun Y6 hY6 => TW.region ?_
 refine TL.p Pu.as ?_
 refine TL.nil (TQ.thenN (hY6 _ _ ?_))
 refine TW.block ?_
 refine TW.loop1 (fun (k : Nat) => [(5, .int .i64 (k : Int)), (0, .slice B nl cb), (1, .slice C nc cc)]) (fun k => []) (fun k => k ≤ nl ∧ ∀ j, j < k → lkB (L j) = true) (fun k => nl - k) 0 fs9 ?_ ?_ ?_
 exact ks9
 exact ⟨Nat.zero_le _, fun j hj => by omega⟩
 rintro k ⟨hkn, hall⟩ Z0 hZ0
 refine TW.seq fun Y7 hY7 => ?_
 refine TW.seq fun Y8 hY8 => TW.region ?_
 refine TL.p Pu.mv ?_
 refine TL.p Pu.mv ?_
 refine TL.p (Pu.ln Tryz.underlying28) ?_
 refine TL.p Pu.lt ?_
 refine TL.nil (TQ.thenN (hY8 _ _ ?_))
 refine TW.cond rfl (fun hc1 => ?_) (fun hc1 => ?_)
 try simp only [zcb9] at hc1
 have hkl : k < nl := by omega
 refine TW.skip ?_
 refine TQ.thenN (hY7 _ _ ?_)
 refine TW.seq fun Y9 hY9 => ?_
 refine TW.block ?_
 refine TW.seq fun Y10 hY10 => TW.region ?_
 refine TL.p Pu.mv ?_
 refine TL.p Pu.mv ?_
 refine TL.p (Pu.el ty_et28) ?_
 refine TL.p (Pu.lds ty_ag27) ?_
 refine TL.cr rfl (enters Tryz.func55 rfl rfl) (fun w hw => by
   exact fL _ k ((hL.hL k hkl).ext (Chg.ext hw.chg))) ?_
 refine TL.p Pu.no ?_
 refine TL.nil (TQ.thenN (hY10 _ _ ?_))
 refine TW.cond rfl (fun hc2 => ?_) (fun hc2 => ?_)
 try simp only [zcb9] at hc2
 have hbad : lkB (L k) = false := by simpa using hc2
 refine TW.seq fun Y11 hY11 => TW.region ?_
 refine TL.p Pu.as ?_
 refine TL.nil (TQ.thenN (hY11 _ _ ?_))
 refine TW.ret ?_
 refine TQ.blkR ?_
 refine TQ.thenR ?_
 refine TQ.thenR ?_
 refine TQ.blkR ?_
 refine TQ.thenR ?_
 refine TQ.ret Tryz.results34 rfl ((.tmp rfl .nil)) ?_
 exact fun w hw => ⟨ret_int (by
  unfold lksC
  rw [if_neg (fun h => h hsm), if_neg]
  intro hh
  rw [Bool.and_eq_true] at hh
  have := allB_iff.1 hh.1 k hkl
  rw [hbad] at this; cases this), Chg.ext hw.chg⟩
 try simp only [zcb9] at hc2
 have hgd : lkB (L k) = true := by simpa using hc2
 refine TW.skip ?_
 refine TQ.blkN ?_
 refine TQ.thenN (hY9 _ _ ?_)
 refine TW.region ?_
 refine TL.p Pu.mv ?_
 refine TL.p Pu.ad ?_
 refine TL.p Pu.as ?_
 refine TL.nil ?_
 refine TQ.thenN (hZ0 (k + 1) _ _ ?_ ?_ fs9 ?_)
 refine ⟨by omega, fun j hj => ?_⟩
 by_cases e : j = k
 subst e; exact hgd
 exact hall j (by omega)
 exact zom9
 exact ks9
 try simp only [zcb9] at hc1
 have hkl : k = nl := by omega
 refine TW.exit ?_
 refine TQ.thenX ?_
 refine TQ.thenX ?_
 refine TQ.blkX ?_
 refine TQ.thenN (hY5 _ _ ?_)
 refine TW.seq fun Y12 hY12 => ?_
 refine TW.seq fun Y13 hY13 => TW.region ?_
 refine TL.p Pu.as ?_
 refine TL.nil (TQ.thenN (hY13 _ _ ?_))
 refine TW.block ?_
 refine TW.loop1 (fun (c : Nat) => [(6, .int .i64 (c : Int)), (0, .slice B nl cb), (1, .slice C nc cc)]) (fun c => []) (fun c => c ≤ nc ∧ ∀ j, j < c → cv1 nl dm yg j = true) (fun c => nc - c) 0 fs9 ?_ ?_ ?_
 exact ks9
 exact ⟨Nat.zero_le _, fun j hj => by omega⟩
 rintro c ⟨hcn, hcv⟩ Z1 hZ1
 refine TW.seq fun Y14 hY14 => ?_
 refine TW.seq fun Y15 hY15 => TW.region ?_
 refine TL.p Pu.mv ?_
 refine TL.p Pu.mv ?_
 refine TL.p (Pu.ln Tryz.underlying29) ?_
 refine TL.p Pu.lt ?_
 refine TL.nil (TQ.thenN (hY15 _ _ ?_))
 refine TW.cond rfl (fun hc3 => ?_) (fun hc3 => ?_)
 try simp only [zcb9] at hc3
 have hcl : c < nc := by omega
 refine TW.skip ?_
 refine TQ.thenN (hY14 _ _ ?_)
 refine TW.seq fun Y16 hY16 => ?_
 refine TW.block ?_
 refine TW.seq fun Y17 hY17 => TW.region ?_
 refine TL.p Pu.mv ?_
 refine TL.p Pu.mv ?_
 refine TL.p (Pu.el ty_et29) ?_
 refine TL.p (Pu.lds ty_ag50) ?_
 refine TL.m (Mk.al ty_zr50) ?_
 intro b1
 first | refine TL.st ty_sz50 ?_ | refine TL.se ty_sz50 ?_
 refine TL.nil (TQ.thenN (hY17 _ _ ?_))
 refine TW.seq fun Y18 hY18 => ?_
 refine TW.join [(60, .bool (!cv1 nl dm yg c))] ?_ (fun hJ2 => ?_)
 refine TQ.thenN (hY18 _ _ ?_)
 refine TW.cond rfl (fun hc4 => ?_) (fun hc4 => ?_)
 try simp only [zcb9] at hc4
 have hbad : cv1 nl dm yg c = false := by simpa using hc4
 refine TW.seq fun Y19 hY19 => TW.region ?_
 refine TL.p Pu.as ?_
 refine TL.nil (TQ.thenN (hY19 _ _ ?_))
 refine TW.ret ?_
 refine TQ.blkR ?_
 refine TQ.thenR ?_
 refine TQ.thenR ?_
 refine TQ.blkR ?_
 refine TQ.thenR ?_
 refine TQ.ret Tryz.results34 rfl ((.tmp rfl .nil)) ?_
 exact fun w hw => ⟨ret_int (by
  unfold lksC
  rw [if_neg (fun h => h hsm), if_neg]
  intro hh
  rw [Bool.and_eq_true, ← cv_all] at hh
  have := allB_iff.1 hh.2 c hcl
  rw [hbad] at this; cases this), Chg.ext hw.chg⟩
 try simp only [zcb9] at hc4
 have hgd : cv1 nl dm yg c = true := by simpa using hc4
 refine TW.skip ?_
 refine TQ.blkN ?_
 refine TQ.thenN (hY16 _ _ ?_)
 refine TW.region ?_
 refine TL.p Pu.mv ?_
 refine TL.p Pu.ad ?_
 refine TL.p Pu.as ?_
 refine TL.nil ?_
 refine TQ.thenN (hZ1 (c + 1) _ _ ?_ ?_ fs9 ?_)
 refine ⟨by omega, fun j hj => ?_⟩
 by_cases e : j = c
 subst e; exact hgd
 exact hcv j (by omega)
 exact zom9
 exact ks9
 refine TW.region ?_
 refine TL.p (by first | exact Pu.fb ty_fa50_0 | exact Pu.fe ty_fa50_0) ?_
 refine TL.p (Pu.ld ty_sc3) ?_
 refine TL.p Pu.mv ?_
 refine TL.p (Pu.ln Tryz.underlying28) ?_
 refine TL.p Pu.sb ?_
 refine TL.cr rfl (enters Tryz.func83 rfl rfl) (fun w hw => by
   exact rWithin_any _ _ _ _) ?_
 refine TL.p Pu.no ?_
 refine TL.p Pu.mv ?_
 refine TL.guard (t := 45) rfl (fun hg1 => ?_) (fun hg1 => ?_)
 try simp only [zgb9] at hg1
 refine TL.gs ?_
 refine TL.gs ?_
 refine TL.gs ?_
 refine TL.gs ?_
 refine TL.gs ?_
 refine TL.gs ?_
 refine TL.gs ?_
 refine TL.p Pu.kt ?_
 refine TL.p Pu.mv ?_
 refine TL.gs ?_
 refine TL.gs ?_
 refine TL.gs ?_
 refine TL.gs ?_
 refine TL.gs ?_
 refine TL.p Pu.kt ?_
 refine TL.nil ?_
 exact TQ.sub (by repeat (first | exact trivial | refine ⟨rfl, ?_⟩ | refine ⟨trivial, ?_⟩ | refine ⟨(by show some (Value.bool _) = some (Value.bool _); first | (simp [hg1, cv1]; done) | (refine congrArg (fun z => some (Value.bool z)) (Bool.eq_iff_iff.2 ?_); simp [hg1, cv1]; omega)), ?_⟩)) ks9 hJ2
 try simp only [zgb9] at hg1
 refine TL.gd (by first | exact Pu.fb ty_fa50_1 | exact Pu.fe ty_fa50_1) ?_
 refine TL.gd (Pu.ld ty_sc3) ?_
 refine TL.gd Pu.mv ?_
 refine TL.gd (Pu.ln Tryz.underlying28) ?_
 refine TL.gd Pu.sb ?_
 refine TL.cr rfl (enters Tryz.func83 rfl rfl) (fun w hw => by
   exact rWithin_any _ _ _ _) ?_
 refine TL.gd Pu.no ?_
 refine TL.p Pu.kf ?_
 refine TL.p Pu.mv ?_
 refine TL.guard (t := 54) rfl (fun hg2 => ?_) (fun hg2 => ?_)
 try simp only [zgb9] at hg2
 refine TL.gs ?_
 refine TL.gs ?_
 refine TL.gs ?_
 refine TL.gs ?_
 refine TL.gs ?_
 refine TL.p Pu.kt ?_
 refine TL.nil ?_
 exact TQ.sub (by repeat (first | exact trivial | refine ⟨rfl, ?_⟩ | refine ⟨trivial, ?_⟩ | refine ⟨(by show some (Value.bool _) = some (Value.bool _); first | (simp [hg1, hg2, cv1]; done) | (refine congrArg (fun z => some (Value.bool z)) (Bool.eq_iff_iff.2 ?_); simp [hg1, hg2, cv1]; omega)), ?_⟩)) ks9 hJ2
 try simp only [zgb9] at hg2
 refine TL.gd (by first | exact Pu.fb ty_fa50_0 | exact Pu.fe ty_fa50_0) ?_
 refine TL.gd (Pu.ld ty_sc3) ?_
 refine TL.gd (by first | exact Pu.fb ty_fa50_1 | exact Pu.fe ty_fa50_1) ?_
 refine TL.gd (Pu.ld ty_sc3) ?_
 refine TL.gd Pu.eq ?_
 refine TL.p Pu.kf ?_
 refine TL.nil ?_
 exact TQ.sub (by repeat (first | exact trivial | refine ⟨rfl, ?_⟩ | refine ⟨trivial, ?_⟩ | refine ⟨(by show some (Value.bool _) = some (Value.bool _); first | (simp [hg1, hg2, cv1]; done) | (refine congrArg (fun z => some (Value.bool z)) (Bool.eq_iff_iff.2 ?_); simp [hg1, hg2, cv1]; omega)), ?_⟩)) ks9 hJ2
 try simp only [zcb9] at hc3
 have hcl : c = nc := by omega
 refine TW.exit ?_
 refine TQ.thenX ?_
 refine TQ.thenX ?_
 refine TQ.blkX ?_
 refine TQ.thenN (hY12 _ _ ?_)
 refine TW.seq fun Y20 hY20 => TW.region ?_
 refine TL.p Pu.as ?_
 refine TL.nil (TQ.thenN (hY20 _ _ ?_))
 refine TW.ret ?_
 refine TQ.ret Tryz.results34 rfl ((.tmp rfl .nil)) ?_
 exact fun w hw => ⟨ret_int (by
  unfold lksC
  rw [if_neg (fun h => h hsm), if_pos]
  rw [Bool.and_eq_true, ← cv_all]
  exact ⟨allB_iff.2 fun j hj => hall j (by omega), allB_iff.2 fun j hj => hcv j (by omega)⟩), Chg.ext hw.chg⟩
 refine TW.region ?_
 refine TL.p Pu.mv ?_
 refine TL.p (Pu.ln Tryz.underlying28) ?_
 refine TL.p Pu.gt ?_
 refine TL.p Pu.mv ?_
 refine TL.guard (t := 11) rfl (fun hg3 => ?_) (fun hg3 => ?_)
 try simp only [zgb9] at hg3
 refine TL.gs ?_
 refine TL.gs ?_
 refine TL.gs ?_
 refine TL.p Pu.kt ?_
 refine TL.nil ?_
 exact TQ.sub (by repeat (first | exact trivial | refine ⟨rfl, ?_⟩ | refine ⟨trivial, ?_⟩ | refine ⟨(by show some (Value.bool _) = some (Value.bool _); first | (simp [hg3]; done) | (refine congrArg (fun z => some (Value.bool z)) (Bool.eq_iff_iff.2 ?_); simp [hg3]; omega)), ?_⟩)) ks9 hJ1
 try simp only [zgb9] at hg3
 refine TL.gd Pu.mv ?_
 refine TL.gd (Pu.ln Tryz.underlying29) ?_
 refine TL.gd Pu.gt ?_
 refine TL.p Pu.kf ?_
 refine TL.nil ?_
 exact TQ.sub (by repeat (first | exact trivial | refine ⟨rfl, ?_⟩ | refine ⟨trivial, ?_⟩ | refine ⟨(by show some (Value.bool _) = some (Value.bool _); first | (simp [hg3]; done) | (refine congrArg (fun z => some (Value.bool z)) (Bool.eq_iff_iff.2 ?_); simp [hg3]; omega)), ?_⟩)) ks9 hJ1
theorem nrw_snoc {L : Nat → Lk} {x : Nat} : ∀ (t : List Nat) (S : BSt) (k : Nat), nrw L S k (t ++ [x]) = putS1 (nrw L S k t) x (agd (nrw L S k t x) (L (k + t.length)))
 | [], S, k => rfl
 | i :: t, S, k => by
  have := nrw_snoc (L := L) (x := x) t (putS1 S i (agd (S i) (L k))) (k + 1)
  show nrw L (putS1 S i (agd (S i) (L k))) (k + 1) (t ++ [x]) = _
  rw [this, show k + 1 + t.length = k + (i :: t).length by simp; omega]
  rfl
theorem agd_bd {n : Nat} {S : BSt} {i : Nat} {l : Lk} (h : BdS n 300000 S) (hi : i < n) (hl : lkB l = true) : BdS n 300000 (putS1 S i (agd (S i) l)) := fun j hj => by
 unfold lkB inB5 ordB5 at hl
 simp only [Bool.and_eq_true, decide_eq_true_eq] at hl
 obtain ⟨⟨⟨h1, h2⟩, h3⟩, h4⟩ := hl
 by_cases e : j = i
 · subst e
   rw [putS1_at]
   have := h j hj
   unfold agd comm
   dsimp only
   omega
 · rw [putS1_ne e]; exact h j hj
theorem born_bd3 {H : Hd} (hk : HOk H) : BdS H.n 300000 (bornH H) := fun j hj => by
 have := hk.bd j hj
 unfold bornH
 dsimp only
 omega
theorem put_row {n : Nat} {S : BSt} {i : Nat} {u : Int × Int} : ∀ j, j < n → updR (fun j => spL (S j).1 (S j).2) i (spL u.1 u.2) j = spL (putS1 S i u j).1 (putS1 S i u j).2 := fun j _ => by
 unfold updR
 by_cases e : j = i
 · rw [if_pos e, e, putS1_at]
 · rw [if_neg e, putS1_ne e]
set_option maxRecDepth 100000 in
set_option maxHeartbeats 4000000 in
theorem rNamed_any {w : World} {A B C D : Option Addr} {cp cb cc cd nl nc : Nat} {H : Hd} {a : Nat → Option Addr} {c : Nat → Nat} {L : Nat → Lk} {la : Nat → Option Addr} {lc : Nat → Nat} {dm yg : Nat → Int} {X : List Nat} (hk : HOk H) (hI : HIn w A H a c) (hL : LksIn w nl L B la lc) (hC : CvsIn w nc dm yg C) (hlk : ∀ k, k < nl → lkB (L k) = true) (hcv : cvB nl nc dm yg = true) (hx : nl = X.length) (hb : ∀ k, k < nl → X.getD k 0 < H.n) (hR : RdR w 1 D nl (nL X)) :
  Calls Tryz.prog 35 #[.slice A H.n cp, .slice B nl cb, .slice C nc cc, .slice D nl cd] w (Ret w (.bool (nmdB H L nl nc dm yg X))) := by
 have hn := hL.hn
 have hm := hC.hn
 have h16 := hk.n16
 have hRL := hL.hR
 have hRC := hC.hR
 have hRA := hI.hR
 have hRD := hR
 have hcv : ∀ c, c < nc → (0 ≤ dm c ∧ dm c < nl) ∧ (0 ≤ yg c ∧ yg c < nl) := fun c h => by
  have := allB_iff.1 hcv c h
  simp only [inB5, Bool.and_eq_true, decide_eq_true_eq] at this
  omega
 have fM := fun (w' : World) (k i : Nat) (h8 : lkB (L k) = true) (hi : i < H.n) (h1 : LkIn w' (L k) (la k)) (h2 : HIn w' A H a c) => rMarked_any (c := c) (cl := lc k) hk hi (h2.hl i hi) (h2.hM i hi) h1 (lk_8 h8)
 have fA := fun (w' : World) (u v : Int) (k : Nat) (h8 : lkB (L k) = true) => rAged_any (a := u) (b := v) (A := la k) (c := lc k) (w := w') h8
 unfold anL at hRA
 unfold lkL at hRL fA
 unfold lkL anL at fM
 unfold nL at hRD
 refine K_enter (S := []) (K := []) Tryz.func35 rfl Tryz.ntmps35 rfl (Sat.start _) ?_
 refine TW.seq fun Y1 hY1 => TW.region ?_
 refine TL.p Pu.as ?_
 refine TL.nil (TQ.thenN (hY1 _ _ ?_))
 refine TW.seq fun Y2 hY2 => TW.region ?_
 refine TL.p Pu.mv ?_
 refine TL.call (M := []) rfl (enters Tryz.func84 rfl rfl) (List.Perm.refl _) rfl (fun w hw => by
   exact rBorn_any (hI.ext (Chg.ext hw.chg))) ?_
 rintro ⟨A9, c9⟩
 refine TL.p Pu.as ?_
 refine TL.nil (TQ.thenN (hY2 _ _ ?_))
 refine TW.seq fun Y3 hY3 => ?_
 refine TW.seq fun Y4 hY4 => TW.region ?_
 refine TL.p Pu.as ?_
 refine TL.nil (TQ.thenN (hY4 _ _ ?_))
 refine TW.block ?_
 refine TW.loop2 (fun (i : Nat) (S : BSt) => [(10, .int .i64 (i : Int)), (9, .slice A9 H.n c9), (0, .slice A H.n cp), (1, .slice B nl cb), (2, .slice C nc cc), (3, .slice D nl cd)]) (fun i S => [.own A9 H.n c9 25 2 (fun j => spL (S j).1 (S j).2)]) (fun i S => i ≤ nl ∧ S = nrw L (bornH H) 0 (X.take i) ∧ BdS H.n 300000 S ∧ ∀ j, j < i → nm1B H L X j = true) (fun i S => nl - i) 0 (bornH H) fs9 ?_ ?_ ?_
 exact ks9
 exact ⟨Nat.zero_le _, by rw [List.take_zero]; rfl, born_bd3 hk, fun j hj => by omega⟩
 rintro i S ⟨hin, hS, hBd, hall⟩ Z0 hZ0
 refine TW.seq fun Y5 hY5 => ?_
 refine TW.seq fun Y6 hY6 => TW.region ?_
 refine TL.p Pu.mv ?_
 refine TL.p Pu.mv ?_
 refine TL.p (Pu.ln Tryz.underlying33) ?_
 refine TL.p Pu.lt ?_
 refine TL.nil (TQ.thenN (hY6 _ _ ?_))
 refine TW.cond rfl (fun hc0 => ?_) (fun hc0 => ?_)
 try simp only [zcb9] at hc0
 have hil : i < nl := by omega
 have hxi := hb i hil
 refine TW.skip ?_
 refine TQ.thenN (hY5 _ _ ?_)
 refine TW.seq fun Y7 hY7 => ?_
 refine TW.block ?_
 refine TW.seq fun Y8 hY8 => ?_
 refine TW.seq fun Y9 hY9 => TW.region ?_
 refine TL.p Pu.as ?_
 refine TL.nil (TQ.thenN (hY9 _ _ ?_))
 refine TW.block ?_
 refine TW.loop1 (fun (k : Nat) => [(11, .int .i64 (k : Int)), (10, .int .i64 (i : Int)), (9, .slice A9 H.n c9), (0, .slice A H.n cp), (1, .slice B nl cb), (2, .slice C nc cc), (3, .slice D nl cd)]) (fun k => [.own A9 H.n c9 25 2 (fun j => spL (S j).1 (S j).2)]) (fun k => k ≤ i ∧ ∀ j, j < k → X.getD j 0 ≠ X.getD i 0) (fun k => i - k) 0 fs9 ?_ ?_ ?_
 exact ks9
 exact ⟨Nat.zero_le _, fun j hj => by omega⟩
 rintro k ⟨hki, hdif⟩ Z1 hZ1
 refine TW.seq fun Y10 hY10 => ?_
 refine TW.seq fun Y11 hY11 => TW.region ?_
 refine TL.p Pu.mv ?_
 refine TL.p Pu.mv ?_
 refine TL.p Pu.lt ?_
 refine TL.nil (TQ.thenN (hY11 _ _ ?_))
 refine TW.cond rfl (fun hc1 => ?_) (fun hc1 => ?_)
 try simp only [zcb9] at hc1
 have hkl : k < i := by omega
 refine TW.skip ?_
 refine TQ.thenN (hY10 _ _ ?_)
 refine TW.seq fun Y12 hY12 => ?_
 refine TW.block ?_
 refine TW.seq fun Y13 hY13 => ?_
 refine TW.dw 9 ?_
 refine RK.tk Pu.mv ?_
 refine RK.tk Pu.mv ?_
 refine RK.tk (Pu.el ty_et33) ?_
 refine RK.tk (Pu.ld ty_sc3) ?_
 refine RK.tk Pu.mv ?_
 refine RK.tk Pu.mv ?_
 refine RK.tk (Pu.el ty_et33) ?_
 refine RK.tk (Pu.ld ty_sc3) ?_
 refine RK.tk Pu.eq ?_
 refine RK.ch [] ?_ trivial
 refine WK.n ?_
 refine TL.nil (TQ.thenN (hY13 _ _ ?_))
 refine TW.cond rfl (fun hc2 => ?_) (fun hc2 => ?_)
 try simp only [zcb9] at hc2
 have hsame : X.getD k 0 = X.getD i 0 := by omega
 refine TW.seq fun Y14 hY14 => TW.region ?_
 refine TL.p Pu.as ?_
 refine TL.nil (TQ.thenN (hY14 _ _ ?_))
 refine TW.ret ?_
 refine TQ.blkR ?_
 refine TQ.thenR ?_
 refine TQ.thenR ?_
 refine TQ.blkR ?_
 refine TQ.thenR ?_
 refine TQ.blkR ?_
 refine TQ.thenR ?_
 refine TQ.thenR ?_
 refine TQ.blkR ?_
 refine TQ.thenR ?_
 refine TQ.ret Tryz.results35 rfl ((.tmp rfl .nil)) ?_
 exact fun w hw => ⟨ret_bool (by
  have e : nm1B H L X i = false := by
   unfold nm1B
   rw [Bool.and_eq_false_iff]
   left
   cases hq : allB i fun k => !decide (X.getD k 0 = X.getD i 0) with
   | false => rfl
   | true =>
    have := allB_iff.1 hq k hkl
    rw [decide_eq_true hsame] at this
    cases this
  cases hq : nmdB H L nl nc dm yg X with
  | false => rfl
  | true =>
   unfold nmdB at hq
   simp only [Bool.and_eq_true] at hq
   have := allB_iff.1 hq.1.1 i hil
   rw [e] at this; cases this), Chg.ext hw.chg⟩
 try simp only [zcb9] at hc2
 have hnot : X.getD k 0 ≠ X.getD i 0 := by omega
 refine TW.skip ?_
 refine TQ.blkN ?_
 refine TQ.thenN (hY12 _ _ ?_)
 refine TW.region ?_
 refine TL.p Pu.mv ?_
 refine TL.p Pu.ad ?_
 refine TL.p Pu.as ?_
 refine TL.nil ?_
 refine TQ.thenN (hZ1 (k + 1) _ _ ?_ ?_ fs9 ?_)
 refine ⟨by omega, fun j hj => ?_⟩
 by_cases e : j = k
 subst e; exact hnot
 exact hdif j (by omega)
 exact zom9
 exact ks9
 try simp only [zcb9] at hc1
 obtain rfl : k = i := by omega
 refine TW.exit ?_
 refine TQ.thenX ?_
 refine TQ.thenX ?_
 refine TQ.blkX ?_
 refine TQ.thenN (hY8 _ _ ?_)
 refine TW.seq fun Y15 hY15 => ?_
 refine TW.seq fun Y16 hY16 => ?_
 refine TW.dw 13 ?_
 refine RK.tk Pu.mv ?_
 refine RK.tk Pu.mv ?_
 refine RK.tk Pu.mv ?_
 refine RK.tk (Pu.el ty_et33) ?_
 refine RK.tk (Pu.ld ty_sc3) ?_
 refine RK.tk (Pu.el (q := X.getD k 0) ty_et22 (hk := Int.toNat_natCast _)) ?_
 refine RK.tk (Pu.lds ty_ag65) ?_
 refine RK.tk Pu.mv ?_
 refine RK.tk Pu.mv ?_
 refine RK.tk (Pu.el ty_et28) ?_
 refine RK.tk (Pu.lds ty_ag27) ?_
 refine RK.keep ?_
 refine RK.keep ?_
 refine RK.ch [false, true] ?_ trivial
 refine WK.cr rfl (enters Tryz.func57 rfl rfl) (fun w hw => by
   exact fM _ k _ (hlk k hil) hxi ((hL.hL k hil).ext (Chg.ext hw.chg)) (hI.ext (Chg.ext hw.chg))) ?_
 refine WK.p Pu.no ?_
 refine WK.n ?_
 refine TL.nil (TQ.thenN (hY16 _ _ ?_))
 refine TW.cond rfl (fun hc3 => ?_) (fun hc3 => ?_)
 try simp only [zcb9] at hc3
 have hmf : maB H (L k) (X.getD k 0) = false := by simpa using hc3
 refine TW.seq fun Y17 hY17 => TW.region ?_
 refine TL.p Pu.as ?_
 refine TL.nil (TQ.thenN (hY17 _ _ ?_))
 refine TW.ret ?_
 refine TQ.thenR ?_
 refine TQ.blkR ?_
 refine TQ.thenR ?_
 refine TQ.thenR ?_
 refine TQ.blkR ?_
 refine TQ.thenR ?_
 refine TQ.ret Tryz.results35 rfl ((.tmp rfl .nil)) ?_
 exact fun w hw => ⟨ret_bool (by
  have e : nm1B H L X k = false := by unfold nm1B; rw [hmf, Bool.and_false]
  cases hq : nmdB H L nl nc dm yg X with
  | false => rfl
  | true =>
   unfold nmdB at hq
   simp only [Bool.and_eq_true] at hq
   have := allB_iff.1 hq.1.1 k hil
   rw [e] at this; cases this), Chg.ext hw.chg⟩
 try simp only [zcb9] at hc3
 have hmt : maB H (L k) (X.getD k 0) = true := by simpa using hc3
 refine TW.skip ?_
 refine TQ.thenN (hY15 _ _ ?_)
 refine TW.dw 18 ?_
 refine RK.tk Pu.mv ?_
 refine RK.tk Pu.mv ?_
 refine RK.tk Pu.mv ?_
 refine RK.tk (Pu.el ty_et33) ?_
 refine RK.tk (Pu.ld ty_sc3) ?_
 refine RK.tk Pu.mv ?_
 refine RK.tk Pu.mv ?_
 refine RK.tk Pu.mv ?_
 refine RK.tk (Pu.el ty_et33) ?_
 refine RK.tk (Pu.ld ty_sc3) ?_
 refine RK.tk (Pu.el (q := X.getD k 0) ty_et57 (hk := Int.toNat_natCast _)) ?_
 refine RK.tk (Pu.lds ty_ag25) ?_
 refine RK.tk Pu.mv ?_
 refine RK.tk Pu.mv ?_
 refine RK.tk (Pu.el ty_et28) ?_
 refine RK.tk (Pu.lds ty_ag27) ?_
 refine RK.keep ?_
 refine RK.keep ?_
 refine RK.ch [false, true] ?_ trivial
 refine WK.cr rfl (enters Tryz.func56 rfl rfl) (fun w hw => by
   exact fA _ _ _ k (hlk k hil)) ?_
 refine WK.p (Pu.el (q := X.getD k 0) ty_et57 (hk := Int.toNat_natCast _)) ?_
 refine WK.n ?_
 first | refine TL.st ty_sz25 ?_ | refine TL.se ty_sz25 ?_
 refine TL.nil ?_
 refine TQ.blkN ?_
 refine TQ.thenN (hY7 _ _ ?_)
 refine TW.region ?_
 refine TL.p Pu.mv ?_
 refine TL.p Pu.ad ?_
 refine TL.p Pu.as ?_
 refine TL.nil ?_
 refine TQ.thenN (hZ0 (k + 1) (putS1 S (X.getD k 0) (agd (S (X.getD k 0)) (L k))) _ _ ?_ ?_ fs9 ?_)
 refine ⟨by omega, ?_, agd_bd hBd hxi (hlk k hil), fun j hj => ?_⟩
 rw [take_at (by omega), nrw_snoc, ← hS, List.length_take, show min k X.length = k by omega, Nat.zero_add]
 by_cases e : j = k
 subst e
 unfold nm1B
 rw [hmt, Bool.and_true]
 exact allB_iff.2 fun q hq => by simpa using hdif q hq
 exact hall j (by omega)
 exact zom9
 exact KSub.own Pick.hd put_row KSub.nil
 try simp only [zcb9] at hc0
 have hil : i = nl := by omega
 refine TW.exit ?_
 refine TQ.thenX ?_
 refine TQ.thenX ?_
 refine TQ.blkX ?_
 refine TQ.thenN (hY3 _ _ ?_)
 refine TW.seq fun Y18 hY18 => ?_
 refine TW.seq fun Y19 hY19 => TW.region ?_
 refine TL.p Pu.as ?_
 refine TL.nil (TQ.thenN (hY19 _ _ ?_))
 refine TW.block ?_
 refine TW.loop1 (fun (q : Nat) => [(12, .int .i64 (q : Int)), (9, .slice A9 H.n c9), (0, .slice A H.n cp), (1, .slice B nl cb), (2, .slice C nc cc), (3, .slice D nl cd)]) (fun q => [.own A9 H.n c9 25 2 (fun j => spL (S j).1 (S j).2)]) (fun q => q ≤ nc ∧ ∀ j, j < q → nm2B H dm yg X j = true) (fun q => nc - q) 0 fs9 ?_ ?_ ?_
 exact ks9
 exact ⟨Nat.zero_le _, fun j hj => by omega⟩
 rintro q ⟨hqn, hkin⟩ Z2 hZ2
 refine TW.seq fun Y20 hY20 => ?_
 refine TW.seq fun Y21 hY21 => TW.region ?_
 refine TL.p Pu.mv ?_
 refine TL.p Pu.mv ?_
 refine TL.p (Pu.ln Tryz.underlying29) ?_
 refine TL.p Pu.lt ?_
 refine TL.nil (TQ.thenN (hY21 _ _ ?_))
 refine TW.cond rfl (fun hc4 => ?_) (fun hc4 => ?_)
 try simp only [zcb9] at hc4
 have hql : q < nc := by omega
 obtain ⟨hd9, hy9⟩ := hcv q hql
 have hxd := hb (dm q).toNat (by omega)
 have hxy := hb (yg q).toNat (by omega)
 refine TW.skip ?_
 refine TQ.thenN (hY20 _ _ ?_)
 refine TW.seq fun Y22 hY22 => ?_
 refine TW.block ?_
 refine TW.seq fun Y23 hY23 => ?_
 refine TW.dw 25 ?_
 refine RK.tk Pu.mv ?_
 refine RK.tk Pu.mv ?_
 refine RK.tk Pu.mv ?_
 refine RK.tk Pu.mv ?_
 refine RK.tk (Pu.el ty_et29) ?_
 refine RK.tk (by first | exact Pu.fb ty_fa50_1 | exact Pu.fe ty_fa50_1) ?_
 refine RK.tk (Pu.ld ty_sc3) ?_
 refine RK.tk (Pu.el (q := (yg q).toNat) ty_et33 (hk := rfl)) ?_
 refine RK.tk (Pu.ld ty_sc3) ?_
 refine RK.tk (Pu.el (q := X.getD (yg q).toNat 0) ty_et22 (hk := Int.toNat_natCast _)) ?_
 refine RK.tk (by first | exact Pu.fb ty_fa65_1 | exact Pu.fe ty_fa65_1) ?_
 refine RK.tk (Pu.ld ty_sc3) ?_
 refine RK.tk Pu.mv ?_
 refine RK.tk Pu.mv ?_
 refine RK.tk Pu.mv ?_
 refine RK.tk Pu.mv ?_
 refine RK.tk (Pu.el ty_et29) ?_
 refine RK.tk (by first | exact Pu.fb ty_fa50_0 | exact Pu.fe ty_fa50_0) ?_
 refine RK.tk (Pu.ld ty_sc3) ?_
 refine RK.tk (Pu.el (q := (dm q).toNat) ty_et33 (hk := rfl)) ?_
 refine RK.tk (Pu.ld ty_sc3) ?_
 refine RK.tk (Pu.el (q := X.getD (dm q).toNat 0) ty_et22 (hk := Int.toNat_natCast _)) ?_
 refine RK.tk (by first | exact Pu.fb ty_fa65_0 | exact Pu.fe ty_fa65_0) ?_
 refine RK.tk (Pu.ld ty_sc3) ?_
 refine RK.tk Pu.ne ?_
 refine RK.ch [] ?_ trivial
 refine WK.n ?_
 refine TL.nil (TQ.thenN (hY23 _ _ ?_))
 refine TW.cond rfl (fun hc5 => ?_) (fun hc5 => ?_)
 try simp only [zcb9] at hc5
 have hnk : nm2B H dm yg X q = false := by unfold nm2B; exact decide_eq_false (by simpa using hc5)
 refine TW.seq fun Y24 hY24 => TW.region ?_
 refine TL.p Pu.as ?_
 refine TL.nil (TQ.thenN (hY24 _ _ ?_))
 refine TW.ret ?_
 refine TQ.blkR ?_
 refine TQ.thenR ?_
 refine TQ.thenR ?_
 refine TQ.blkR ?_
 refine TQ.thenR ?_
 refine TQ.ret Tryz.results35 rfl ((.tmp rfl .nil)) ?_
 exact fun w hw => ⟨ret_bool (by
  cases hq : nmdB H L nl nc dm yg X with
  | false => rfl
  | true =>
   unfold nmdB at hq
   simp only [Bool.and_eq_true] at hq
   have := allB_iff.1 hq.1.2 q hql
   rw [hnk] at this; cases this), Chg.ext hw.chg⟩
 try simp only [zcb9] at hc5
 have hyk : nm2B H dm yg X q = true := by unfold nm2B; exact decide_eq_true (by simpa using hc5)
 refine TW.skip ?_
 refine TQ.blkN ?_
 refine TQ.thenN (hY22 _ _ ?_)
 refine TW.region ?_
 refine TL.p Pu.mv ?_
 refine TL.p Pu.ad ?_
 refine TL.p Pu.as ?_
 refine TL.nil ?_
 refine TQ.thenN (hZ2 (q + 1) _ _ ?_ ?_ fs9 ?_)
 refine ⟨by omega, fun j hj => ?_⟩
 by_cases e : j = q
 subst e; exact hyk
 exact hkin j (by omega)
 exact zom9
 exact ks9
 try simp only [zcb9] at hc4
 have hql : q = nc := by omega
 refine TW.exit ?_
 refine TQ.thenX ?_
 refine TQ.thenX ?_
 refine TQ.blkX ?_
 refine TQ.thenN (hY18 _ _ ?_)
 refine TW.seq fun Y25 hY25 => TW.region ?_
 refine TL.p Pu.mv ?_
 refine TL.p Pu.mv ?_
 refine TL.call (M := []) rfl (enters Tryz.func85 rfl rfl) (List.Perm.refl _) rfl (fun w hw => by
   exact rbirths_any hk (hI.ext (Chg.ext hw.chg)) (OwnR.rdr (hw.holds (.own A9 H.n c9 25 2 (fun j => spL (S j).1 (S j).2)) (by simp))) hBd (by decide)) ?_
 rintro ⟨A7, c7⟩
 refine TL.p Pu.mv ?_
 refine TL.p Pu.ex ?_
 refine TL.p Pu.ex ?_
 refine TL.p Pu.as ?_
 refine TL.p Pu.as ?_
 refine TL.nil (TQ.thenN (hY25 _ _ ?_))
 refine TW.seq fun Y26 hY26 => TW.region ?_
 refine TL.p Pu.mv ?_
 refine TL.p Pu.as ?_
 refine TL.nil (TQ.thenN (hY26 _ _ ?_))
 refine TW.ret ?_
 refine TQ.ret Tryz.results35 rfl ((.tmp rfl .nil)) ?_
 exact fun w hw => ⟨ret_bool (by
  have e1 : allB nl (nm1B H L X) = true := allB_iff.2 fun j hj => hall j (by omega)
  have e2 : allB nc (nm2B H dm yg X) = true := allB_iff.2 fun j hj => hkin j (by omega)
  unfold nmdB
  rw [e1, e2, hS, List.take_of_length_le (by omega)]; rfl), Chg.ext hw.chg⟩
end Go.Proofs.YtceokmaddbdnfaaGreat
namespace Go.Proofs.YtceokmaddbdnfaaGreat
set_option linter.all false
set_option linter.unusedVariables false
set_option linter.unusedSimpArgs false
open Go.RowKit
theorem chg_below {S : List Nat} {w w' : World} {N : Nat} (h : Chg S w w') (hS : ∀ b ∈ S, N ≤ b) (hN : N ≤ w.heap.size) : Below N w w' := ⟨h.os, h.tape, h.output, h.size, fun k hk => h.block k (by omega) (fun hm => by have := hS k hm; omega)⟩
theorem apart_of9 {S : List Nat} {b : Nat} (h : b ∉ S) : Apart S (some ⟨b, 0, none⟩) := fun q hq => by cases hq; exact h
theorem notin_sat9 {M M' : List Nat} {w w' : World} {K : List Fact} {q : Nat} (hs : Sat M w K w') (hM : ∀ b ∈ M', b ∈ feet K) (hq : q ∉ M) (hlt : q < w.heap.size) : q ∉ M' := fun hm => by
 rcases hs.ge q (hM q hm) with h | h
 · exact hq h
 · omega
end Go.Proofs.YtceokmaddbdnfaaGreat
