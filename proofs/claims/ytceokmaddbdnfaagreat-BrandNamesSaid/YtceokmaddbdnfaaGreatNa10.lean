/-
  Part 10 of the proof of brandNames_holds: declarations of several texts, in build order. No condition on a program.
-/
import Derived.Test.YtceokmaddbdnfaaGreatNa08
import Derived.Test.YtceokmaddbdnfaaGreatNa09
import Derived.Test.YtceokmaddbdnfaaGreatNa06
import Derived.ChangeKeysEq
import Derived.Test.YtceokmaddbdnfaaGreatNa07
namespace Go.Proofs.YtceokmaddbdnfaaGreat
set_option linter.all false
set_option linter.unusedVariables false
set_option linter.unusedSimpArgs false
open Go.RowKit
def idR (H : Hd) (X : List Nat) : Nat → List Value := fun j => [.int .i64 (H.id (X.getD j 0))]
theorem idR_app {H : Hd} {X X' : List Nat} {m k : Nat} {s : Nat → List Value} (hm : m = X.length) (hX : X' = X ++ [k]) (hs : s 0 = [.int .i64 (H.id k)]) : ∀ i, i < m + 1 → catR m (idR H X) s i = idR H X' i := fun i hi => by
  subst hm hX
  simp only [catR, idR]
  by_cases h : i < X.length
  · rw [if_pos h, getD_appl h]
  · obtain rfl : i = X.length := by omega
    rw [if_neg h, Nat.sub_self, hs, getD_apps (b := [])]
theorem fitP_nodup {H : Hd} {l : Lk} : ∀ {k}, (fitP H l k).Nodup
  | 0 => List.nodup_nil
  | k + 1 => by
    have ih := fitP_nodup (H := H) (l := l) (k := k)
    simp only [fitP]
    split
    · refine List.nodup_append.2 ⟨ih, by simp, fun a ha b hb e => ?_⟩
      have h1 := (mem_fitP.1 ha).1
      have h2 := List.mem_singleton.1 hb
      omega
    · exact ih
theorem ids_srt {H : Hd} (hk : HOk H) {X : List Nat} (hX : ∀ i ∈ X, i < H.n) (hn : X.Nodup) : idsL H X = srt (X.map H.id) := by
 unfold idsL
 refine ascL_nodup ?_
 rw [List.nodup_iff_pairwise_ne, List.pairwise_map]
 rw [List.nodup_iff_pairwise_ne] at hn
 exact (List.Pairwise.and_mem.1 hn).imp fun {a b} h e => h.2.2 (hk.inj (hX a h.1) (hX b h.2.1) e)
set_option maxRecDepth 100000 in
set_option maxHeartbeats 4000000 in
theorem rFits_any {w : World} {A Al : Option Addr} {cp cl : Nat} {H : Hd} {a : Nat → Option Addr} {c : Nat → Nat} {l : Lk} (hI : HIn w A H a c) (hL : LkIn w l Al) :
  CallsK Tryz.prog 17 #[.slice A H.n cp, .agg (lkL l Al cl).toArray] [] w (Option Addr × Nat) (fun y => .tuple #[.slice y.1 (fitL H l).length y.2, .int .i64 (fitC H l)]) (fun y => [.own y.1 (fitL H l).length y.2 3 1 (iL (fitL H l))]) := by
 have hbad : ¬ fitC H l = 0 → fitL H l = [] := fun h => if_neg h
 have hRA := hI.hR
 unfold anL at hRA
 unfold lkL
 by_cases hc : livC H = 0
 case neg =>
  have hf : fitC H l = livC H := if_pos hc
  have hf0 := hbad (by rw [hf]; exact hc)
  refine K_enter (S := []) (K := []) Tryz.func17 rfl Tryz.ntmps17 rfl (Sat.start _) ?_
  refine TW.seq fun Y1 hY1 => TW.region ?_
  refine TL.m Mk.bx ?_
  intro b1
  refine TL.p Pu.as ?_
  refine TL.p Pu.as ?_
  refine TL.nil (TQ.thenN (hY1 _ _ ?_))
  refine TW.seq fun Y2 hY2 => TW.region ?_
  refine TL.p Pu.mv ?_
  refine TL.call (M := []) rfl (enters Tryz.func54 rfl rfl) (List.Perm.refl _) rfl (fun w hw => by
    have h9 := rBirths_any (cp := cp) (hI.ext (Chg.ext hw.chg))
    simp only [if_neg hc] at h9
    exact h9) ?_
  rintro ⟨A3, c3⟩
  refine TL.p Pu.mv ?_
  refine TL.p Pu.ex ?_
  refine TL.p Pu.ex ?_
  refine TL.p Pu.as ?_
  refine TL.p Pu.as ?_
  refine TL.nil (TQ.thenN (hY2 _ _ ?_))
  refine TW.seq fun Y3 hY3 => ?_
  refine TW.seq fun Y4 hY4 => TW.region ?_
  refine TL.p Pu.mv ?_
  refine TL.p Pu.ne ?_
  refine TL.nil (TQ.thenN (hY4 _ _ ?_))
  refine TW.condT rfl ((by simpa using hc)) ?_
  refine TW.seq fun Y5 hY5 => TW.region ?_
  refine TL.p Pu.mv ?_
  refine TL.p Pu.as ?_
  refine TL.p Pu.as ?_
  refine TL.nil (TQ.thenN (hY5 _ _ ?_))
  refine TW.ret ?_
  refine TQ.thenR ?_
  refine TQ.ret Tryz.results17 rfl ((.tmp rfl (.tmp rfl .nil))) ?_
  exact fun w hw => ⟨(none, 0), by rw [hf0, hf]; rfl, by rw [hf0]; exact hw.sub (KSub.nilOwn KSub.nil)⟩
 case pos =>
  have hh : herdB H = true := by
   cases hh : herdB H with
   | true => rfl
   | false => unfold livC at hc; rw [hh] at hc; cases hc
  have hk := herdB_ok.1 hh
  have h16 := hk.n16
  have hf9 : fitC H l = if lkB l = true then 0 else 22 := if_neg (fun h => h hc)
  have fS := fun (w' : World) (h1 : LkIn w' l Al) => rLook_any (c := cl) h1
  have fA := fun (w' : World) (i : Nat) (h1 : lkB l = true) => rAged_any (a := (livB H i).1) (b := (livB H i).2) (A := Al) (c := cl) (w := w') h1
  have fB := fun (w' : World) (i : Nat) (hi : i < H.n) (h0 : HIn w' A H a c) (h1 : LkIn w' l Al) (h2 : l.ns = 8) => rMarked_any (c := c) (cl := cl) hk hi (h0.hl i hi) (h0.hM i hi) h1 h2
  unfold lkL at fS fA fB
  unfold anL at fB
  refine K_enter (S := []) (K := []) Tryz.func17 rfl Tryz.ntmps17 rfl (Sat.start _) ?_
  refine TW.seq fun Y1 hY1 => TW.region ?_
  refine TL.m Mk.bx ?_
  intro b1
  refine TL.p Pu.as ?_
  refine TL.p Pu.as ?_
  refine TL.nil (TQ.thenN (hY1 _ _ ?_))
  refine TW.seq fun Y2 hY2 => TW.region ?_
  refine TL.p Pu.mv ?_
  refine TL.call (M := []) rfl (enters Tryz.func54 rfl rfl) (List.Perm.refl _) rfl (fun w hw => by
    have h9 := rBirths_any (cp := cp) (hI.ext (Chg.ext hw.chg))
    simp only [hc, if_true] at h9
    exact h9) ?_
  rintro ⟨A3, c3⟩
  refine TL.p Pu.mv ?_
  refine TL.p Pu.ex ?_
  refine TL.p Pu.ex ?_
  refine TL.p Pu.as ?_
  refine TL.p Pu.as ?_
  refine TL.nil (TQ.thenN (hY2 _ _ ?_))
  refine TW.seq fun Y3 hY3 => ?_
  refine TW.seq fun Y4 hY4 => TW.region ?_
  refine TL.p Pu.mv ?_
  refine TL.p Pu.ne ?_
  refine TL.nil (TQ.thenN (hY4 _ _ ?_))
  refine TW.condF rfl (rfl) ?_
  refine TW.skip ?_
  refine TQ.thenN (hY3 _ _ ?_)
  refine TW.seq fun Y5 hY5 => ?_
  refine TW.seq fun Y6 hY6 => TW.region ?_
  refine TL.p (Pu.lds ty_ag27) ?_
  refine TL.cr rfl (enters Tryz.func55 rfl rfl) (fun w hw => by
    exact fS _ (hL.sat hw)) ?_
  refine TL.p Pu.no ?_
  refine TL.nil (TQ.thenN (hY6 _ _ ?_))
  refine TW.cond rfl (fun hc1 => ?_) (fun hc1 => ?_)
  try simp only [zcb9] at hc1
  have hf : fitC H l = 22 := by rw [hf9, hc1]; rfl
  have hf0 := hbad (by rw [hf]; decide)
  refine TW.seq fun Y7 hY7 => TW.region ?_
  refine TL.p Pu.as ?_
  refine TL.p Pu.as ?_
  refine TL.nil (TQ.thenN (hY7 _ _ ?_))
  refine TW.ret ?_
  refine TQ.thenR ?_
  refine TQ.ret Tryz.results17 rfl ((.tmp rfl (.tmp rfl .nil))) ?_
  exact fun w hw => ⟨(none, 0), by rw [hf0, hf]; rfl, by rw [hf0]; exact hw.sub (KSub.nilOwn KSub.nil)⟩
  try simp only [zcb9] at hc1
  have hlk : lkB l = true := by simpa using hc1
  have hf : fitC H l = 0 := by rw [hf9, hlk]; rfl
  have h8 := lk_8 hlk
  have hf0 : fitL H l = idsL H (fitP H l H.n) := if_pos hf
  refine TW.skip ?_
  refine TQ.thenN (hY5 _ _ ?_)
  refine TW.seq fun Y8 hY8 => TW.region ?_
  refine TL.p Pu.as ?_
  refine TL.nil (TQ.thenN (hY8 _ _ ?_))
  refine TW.seq fun Y9 hY9 => ?_
  refine TW.seq fun Y10 hY10 => TW.region ?_
  refine TL.p Pu.as ?_
  refine TL.nil (TQ.thenN (hY10 _ _ ?_))
  refine TW.block ?_
  refine TW.loop5 (fun (k : Nat) (A9 : Option Addr) (c9 : Nat) (M : List Nat) (m : Nat) => [(9, .int .i64 (k : Int)), (8, .slice A9 m c9), (6, .slice A3 H.n c3), (0, .slice A H.n cp), (3, .pointer (some ⟨b1, 0, none⟩))]) (fun k A9 c9 M m => [.own A9 m c9 3 1 (idR H M), .blk b1 27 [.slice Al l.ns cl, .int .i64 l.day, .int .i64 l.alo, .int .i64 l.ahi], .own A3 H.n c3 25 2 (fun j => spL (livB H j).1 (livB H j).2)]) (fun k A9 c9 M m => k ≤ H.n ∧ M = fitP H l k ∧ m = M.length) (fun k A9 c9 M m => H.n - k) 0 none 0 [] 0 fs9 ?_ ?_ ?_
  exact KSub.nilOwn ks9
  exact ⟨Nat.zero_le _, rfl, rfl⟩
  rintro k A9 c9 M m ⟨hkn, hM, hm⟩ Z0 hZ0
  have hm9 : m ≤ 16 := by have := fitP_len (H := H) (l := l) (k := k); rw [hm, hM]; omega
  refine TW.seq fun Y11 hY11 => ?_
  refine TW.seq fun Y12 hY12 => TW.region ?_
  refine TL.p Pu.mv ?_
  refine TL.p Pu.mv ?_
  refine TL.p (Pu.ln Tryz.underlying22) ?_
  refine TL.p Pu.lt ?_
  refine TL.nil (TQ.thenN (hY12 _ _ ?_))
  refine TW.cond rfl (fun hc2 => ?_) (fun hc2 => ?_)
  try simp only [zcb9] at hc2
  have hki : k < H.n := by omega
  refine TW.skip ?_
  refine TQ.thenN (hY11 _ _ ?_)
  refine TW.seq fun Y13 hY13 => ?_
  refine TW.block ?_
  refine TW.seq fun Y14 hY14 => ?_
  refine TW.dw 7 ?_
  refine RK.tk Pu.mv ?_
  refine RK.tk Pu.mv ?_
  refine RK.tk (Pu.el ty_et57) ?_
  refine RK.tk (Pu.lds ty_ag25) ?_
  refine RK.tk (Pu.lds ty_ag27) ?_
  refine RK.keep ?_
  refine RK.float [.int .i64 0, .int .i64 0] ?_
  refine RK.ch [false] ?_ ⟨ty_zr25, trivial⟩
  refine WK.cr rfl (enters Tryz.func56 rfl rfl) (fun w hw => by
    exact fA _ k hlk) ?_
  refine WK.n ?_
  intro b2
  first | refine TL.st ty_sz25 ?_ | refine TL.se ty_sz25 ?_
  refine TL.nil (TQ.thenN (hY14 _ _ ?_))
  refine TW.seq fun Y15 hY15 => ?_
  refine TW.join [(46, .bool (maB H l k && decide ((agd ((livB H k).1, (livB H k).2) l).1 ≤ (agd ((livB H k).1, (livB H k).2) l).2)))] ?_ (fun hJ1 => ?_)
  refine TQ.thenN (hY15 _ _ ?_)
  refine TW.cond rfl (fun hc3 => ?_) (fun hc3 => ?_)
  try simp only [zcb9] at hc3
  have hft : fitB H l k = true := by
   show (maB H l k && decide ((agd ((livB H k).1, (livB H k).2) l).1 ≤ (agd ((livB H k).1, (livB H k).2) l).2)) = true
   simp only [Bool.and_eq_true, decide_eq_true_eq]
   exact hc3
  have hPs : fitP H l (k + 1) = M ++ [k] := by rw [hM]; exact if_pos hft
  have hl9 : m + 1 = (fitP H l (k + 1)).length := by rw [hPs, List.length_append, ← hm]; rfl
  refine TW.region ?_
  refine TL.p Pu.mv ?_
  refine TL.p Pu.mv ?_
  refine TL.p Pu.mv ?_
  refine TL.p (Pu.el ty_et22) ?_
  refine TL.p (by first | exact Pu.fb ty_fa65_0 | exact Pu.fe ty_fa65_0) ?_
  refine TL.p (Pu.ld ty_sc3) ?_
  refine TL.m Mk.bl ?_
  intro b3
  first | refine TL.a0 ty_et33 ?_ | refine TL.ap ty_et33 ?_
  intro A4 c4
  refine TL.p Pu.as ?_
  refine TL.nil ?_
  refine TQ.blkN ?_
  refine TQ.thenN (hY13 _ _ ?_)
  refine TW.region ?_
  refine TL.p Pu.mv ?_
  refine TL.p Pu.ad ?_
  refine TL.p Pu.as ?_
  refine TL.nil ?_
  refine TQ.thenN (hZ0 (k + 1) _ _ (fitP H l (k + 1)) _ _ _ ?_ ?_ fs9 ?_)
  exact ⟨by omega, rfl, hl9⟩
  exact zom9
  first
   | exact KSub.own Pick.hd (idR_app hm hPs rfl) ks9
   | exact KSub.own pk9 (fun i _ => by rw [hPs]) ks9
  try simp only [zcb9] at hc3
  have hft : fitB H l k = false := by
   show (maB H l k && decide ((agd ((livB H k).1, (livB H k).2) l).1 ≤ (agd ((livB H k).1, (livB H k).2) l).2)) = false
   simp only [Bool.and_eq_false_iff, decide_eq_false_iff_not, Int.not_le]
   exact hc3
  have hPs : fitP H l (k + 1) = M := by rw [hM]; exact if_neg (by rw [hft]; decide)
  have hl9 : m = (fitP H l (k + 1)).length := by rw [hPs, ← hm]
  refine TW.skip ?_
  refine TQ.blkN ?_
  refine TQ.thenN (hY13 _ _ ?_)
  refine TW.region ?_
  refine TL.p Pu.mv ?_
  refine TL.p Pu.ad ?_
  refine TL.p Pu.as ?_
  refine TL.nil ?_
  refine TQ.thenN (hZ0 (k + 1) _ _ (fitP H l (k + 1)) _ _ _ ?_ ?_ fs9 ?_)
  exact ⟨by omega, rfl, hl9⟩
  exact zom9
  first
   | exact KSub.own Pick.hd (idR_app hm hPs rfl) ks9
   | exact KSub.own pk9 (fun i _ => by rw [hPs]) ks9
  refine TW.dw 13 ?_
  refine RK.tk Pu.mv ?_
  refine RK.tk Pu.mv ?_
  refine RK.tk (Pu.el ty_et22) ?_
  refine RK.tk (Pu.lds ty_ag65) ?_
  refine RK.tk (Pu.lds ty_ag27) ?_
  refine RK.keep ?_
  refine RK.keep ?_
  refine RK.keep ?_
  refine RK.keep ?_
  refine RK.keep ?_
  refine RK.keep ?_
  refine RK.keep ?_
  refine RK.keep ?_
  refine RK.ch [false, true, true, true, true, true, true, true] ?_ trivial
  refine WK.cr rfl (enters Tryz.func57 rfl rfl) (fun w hw => by
    exact fB _ k hki (hI.ext (Chg.ext hw.chg)) (hL.sat hw) h8) ?_
  refine WK.p Pu.mv ?_
  refine WK.guard (t := 40) rfl (fun hg1 => ?_) (fun hg1 => ?_)
  refine WK.p (by first | exact Pu.fb ty_fa25_0 | exact Pu.fe ty_fa25_0) ?_
  refine WK.p (Pu.ld ty_sc3) ?_
  refine WK.p (by first | exact Pu.fb ty_fa25_1 | exact Pu.fe ty_fa25_1) ?_
  refine WK.p (Pu.ld ty_sc3) ?_
  refine WK.p Pu.le ?_
  refine WK.p Pu.kt ?_
  refine WK.n ?_
  refine TL.nil ?_
  exact TQ.sub (by repeat (first | exact trivial | refine ⟨rfl, ?_⟩ | refine ⟨trivial, ?_⟩ | refine ⟨(by show some (Value.bool _) = some (Value.bool _); first | (simp [hg1]; done) | (refine congrArg (fun z => some (Value.bool z)) (Bool.eq_iff_iff.2 ?_); simp [hg1]; omega)), ?_⟩)) kt9 hJ1
  refine WK.ps ?_
  refine WK.ps ?_
  refine WK.ps ?_
  refine WK.ps ?_
  refine WK.ps ?_
  refine WK.p Pu.kf ?_
  refine WK.n ?_
  refine TL.nil ?_
  exact TQ.sub (by repeat (first | exact trivial | refine ⟨rfl, ?_⟩ | refine ⟨trivial, ?_⟩ | refine ⟨(by show some (Value.bool _) = some (Value.bool _); first | (simp [hg1]; done) | (refine congrArg (fun z => some (Value.bool z)) (Bool.eq_iff_iff.2 ?_); simp [hg1]; omega)), ?_⟩)) kt9 hJ1
  try simp only [zcb9] at hc2
  obtain rfl : k = H.n := by omega
  refine TW.exit ?_
  refine TQ.thenX ?_
  refine TQ.thenX ?_
  refine TQ.blkX ?_
  refine TQ.thenN (hY9 _ _ ?_)
  refine TW.seq fun Y16 hY16 => TW.region ?_
  refine TL.p Pu.mv ?_
  refine TL.call rfl (enters Tryz.func58 rfl rfl) (List.Perm.refl _) rfl (fun w hw => by
    exact rSorted_any (v0 := fun j => H.id (M.getD j 0)) (by omega) (hw.holds _ (List.mem_cons_self ..))) ?_
  intro _
  refine TL.p Pu.as ?_
  refine TL.p Pu.as ?_
  refine TL.nil (TQ.thenN (hY16 _ _ ?_))
  refine TW.ret ?_
  refine TQ.ret Tryz.results17 rfl ((.tmp rfl (.tmp rfl .nil))) ?_
  have hlist : fitL H l = srt (toI (fun j => H.id (M.getD j 0)) m) := by
   rw [hf0, ← hM, ids_srt hk (fun i hi => (mem_fitP.1 (hM ▸ hi)).1) (hM ▸ fitP_nodup), hm, toI_map]
  have hlen : (fitL H l).length = m := by rw [hlist, srt_len, toI_len]
  exact fun w hw => ⟨(A9, c9), by rw [hlen, hf]; rfl, by rw [hlen, hlist]; exact hw.sub (KSub.cons Pick.hd KSub.nil)⟩
def smK (H : Hd) (at_ i s k : Nat) : Bool := allB k fun q => !decide (s / 2 ^ q % 2 = 1) || decide (sgH H i q = sgH H at_ q)
theorem smK_succ {H : Hd} {at_ i s k : Nat} : smK H at_ i s (k + 1) = (smK H at_ i s k && (!decide (s / 2 ^ k % 2 = 1) || decide (sgH H i k = sgH H at_ k))) := by
 unfold smK allB
 rw [List.range_succ, List.all_append]
 simp
set_option maxRecDepth 100000 in
set_option maxHeartbeats 2000000 in
theorem rTold_any {H : Hd} {A : Option Addr} {cp at_ s : Nat} {a : Nat → Option Addr} {c : Nat → Nat} {w : World} (hk : HOk H) (hI : HIn w A H a c) (ha : at_ < H.n) (h8 : s ≤ 255) : Calls Tryz.prog 76 #[.slice A H.n cp, .int .i64 (at_ : Int), .int .i64 (s : Int)] w (Ret w (.bool (toldB H at_ s))) := by
 have h16 := hk.n16
 have hRA := hI.hR
 have fS := fun (w' : World) (i q : Nat) (hi : i < H.n) (h1 : HIn w' A H a c) => rSign_any (c := c) (s := q) (h1.hl i hi) (h1.hM i hi)
 unfold anL at hRA fS
 refine K_enter (S := []) (K := []) Tryz.func76 rfl Tryz.ntmps76 rfl (Sat.start _) ?_
 refine TW.seq fun Y1 hY1 => TW.region ?_
 refine TL.p Pu.as ?_
 refine TL.nil (TQ.thenN (hY1 _ _ ?_))
 refine TW.seq fun Y2 hY2 => ?_
 refine TW.seq fun Y3 hY3 => TW.region ?_
 refine TL.p Pu.as ?_
 refine TL.nil (TQ.thenN (hY3 _ _ ?_))
 refine TW.block ?_
 refine TW.loop1 (fun (k : Nat) => [(7, .int .i64 (k : Int)), (0, .slice A H.n cp), (1, .int .i64 (at_ : Int)), (2, .int .i64 (s : Int))]) (fun k => []) (fun k => k ≤ H.n ∧ ∀ j, j < k → j = at_ ∨ smB H at_ j s = false) (fun k => H.n - k) 0 fs9 ?_ ?_ ?_
 exact ks9
 exact ⟨Nat.zero_le _, fun j hj => by omega⟩
 rintro k ⟨hkn, hall⟩ Z0 hZ0
 refine TW.seq fun Y4 hY4 => ?_
 refine TW.seq fun Y5 hY5 => TW.region ?_
 refine TL.p Pu.mv ?_
 refine TL.p Pu.mv ?_
 refine TL.p (Pu.ln Tryz.underlying22) ?_
 refine TL.p Pu.lt ?_
 refine TL.nil (TQ.thenN (hY5 _ _ ?_))
 refine TW.cond rfl (fun hc0 => ?_) (fun hc0 => ?_)
 try simp only [zcb9] at hc0
 have hki : k < H.n := by omega
 refine TW.skip ?_
 refine TQ.thenN (hY4 _ _ ?_)
 refine TW.seq fun Y6 hY6 => ?_
 refine TW.block ?_
 refine TW.seq fun Y7 hY7 => ?_
 refine TW.seq fun Y8 hY8 => TW.region ?_
 refine TL.p Pu.mv ?_
 refine TL.p Pu.mv ?_
 refine TL.p Pu.eq ?_
 refine TL.nil (TQ.thenN (hY8 _ _ ?_))
 refine TW.cond rfl (fun hc1 => ?_) (fun hc1 => ?_)
 try simp only [zcb9] at hc1
 have hsame : k = at_ := by omega
 have hok : k = at_ ∨ smB H at_ k s = false := .inl hsame
 refine TW.exit ?_
 refine TQ.thenX ?_
 refine TQ.blkX ?_
 refine TQ.thenN (hY6 _ _ ?_)
 refine TW.region ?_
 refine TL.p Pu.mv ?_
 refine TL.p Pu.ad ?_
 refine TL.p Pu.as ?_
 refine TL.nil ?_
 refine TQ.thenN (hZ0 (k + 1) _ _ ?_ ?_ fs9 ?_)
 refine ⟨by omega, fun j hj => ?_⟩
 by_cases e : j = k
 subst e; exact hok
 exact hall j (by omega)
 exact zom9
 exact ks9
 try simp only [zcb9] at hc1
 have hne : ¬ k = at_ := by omega
 refine TW.skip ?_
 refine TQ.thenN (hY7 _ _ ?_)
 refine TW.seq fun Y9 hY9 => TW.region ?_
 refine TL.p Pu.as ?_
 refine TL.nil (TQ.thenN (hY9 _ _ ?_))
 refine TW.seq fun Y10 hY10 => ?_
 refine TW.seq fun Y11 hY11 => TW.region ?_
 refine TL.p Pu.as ?_
 refine TL.nil (TQ.thenN (hY11 _ _ ?_))
 refine TW.block ?_
 refine TW.loop2 (fun (q : Nat) (sm : Bool) => [(9, .int .i64 (q : Int)), (8, .bool sm), (7, .int .i64 (k : Int)), (0, .slice A H.n cp), (1, .int .i64 (at_ : Int)), (2, .int .i64 (s : Int))]) (fun q sm => []) (fun q sm => q ≤ 8 ∧ sm = smK H at_ k s q) (fun q sm => 8 - q) 0 true fs9 ?_ ?_ ?_
 exact ks9
 exact ⟨by omega, rfl⟩
 rintro q sm ⟨hq8, hsm⟩ Z1 hZ1
 have hdv : s / 2 ^ q ≤ 255 := Nat.le_trans (Nat.div_le_self _ _) h8
 refine TW.seq fun Y12 hY12 => ?_
 refine TW.seq fun Y13 hY13 => TW.region ?_
 refine TL.p Pu.mv ?_
 refine TL.p Pu.lt ?_
 refine TL.nil (TQ.thenN (hY13 _ _ ?_))
 refine TW.cond rfl (fun hc2 => ?_) (fun hc2 => ?_)
 try simp only [zcb9] at hc2
 have hqn : q < 8 := by omega
 refine TW.skip ?_
 refine TQ.thenN (hY12 _ _ ?_)
 refine TW.seq fun Y14 hY14 => ?_
 refine TW.block ?_
 refine TW.join [(8, .bool (sm && (decide (s / 2 ^ q % 2 = 0) || decide (sgH H k q = sgH H at_ q))))] ?_ (fun hJ1 => ?_)
 refine TQ.blkN ?_
 refine TQ.thenN (hY14 _ _ ?_)
 refine TW.region ?_
 refine TL.p Pu.mv ?_
 refine TL.p Pu.ad ?_
 refine TL.p Pu.as ?_
 refine TL.nil ?_
 refine TQ.thenN (hZ1 (q + 1) (sm && (decide (s / 2 ^ q % 2 = 0) || decide (sgH H k q = sgH H at_ q))) _ _ ?_ ?_ fs9 ?_)
 refine ⟨by omega, ?_⟩
 rw [smK_succ, hsm]
 congr 2
 rw [Bool.eq_iff_iff]
 simp only [decide_eq_true_eq, Bool.not_eq_true', decide_eq_false_iff_not]
 omega
 exact zom9
 exact ks9
 refine TW.dw 24 ?_
 refine RK.tk Pu.mv ?_
 refine RK.tk Pu.mv ?_
 refine RK.guard (t := 24) rfl (fun hg1 => ?_) (fun hg1 => ?_)
 try simp only [zgb9] at hg1
 refine RK.tk Pu.mv ?_
 refine RK.tk Pu.mv ?_
 refine RK.tk (Pu.srN (b := s) (i := q)) ?_
 refine RK.tk (Pu.an1 (m := s / 2 ^ q)) ?_
 refine RK.tk Pu.eq ?_
 refine RK.tk Pu.mv ?_
 refine RK.guard (t := 30) rfl (fun hg2 => ?_) (fun hg2 => ?_)
 try simp only [zgb9] at hg2
 refine RK.s ?_
 refine RK.s ?_
 refine RK.s ?_
 refine RK.s ?_
 refine RK.s ?_
 refine RK.keep ?_
 refine RK.s ?_
 refine RK.s ?_
 refine RK.s ?_
 refine RK.s ?_
 refine RK.s ?_
 refine RK.keep ?_
 refine RK.keep ?_
 refine RK.keep ?_
 refine RK.keep ?_
 refine RK.keep ?_
 refine RK.ch [false, false, true, true, true, true] ?_ trivial
 refine WK.gs ?_
 refine WK.gs ?_
 refine WK.ps ?_
 refine WK.p Pu.kt ?_
 refine WK.p Pu.kt ?_
 refine WK.p Pu.as ?_
 refine WK.n ?_
 refine TL.nil ?_
 exact TQ.sub (by repeat (first | exact trivial | refine ⟨rfl, ?_⟩ | refine ⟨trivial, ?_⟩ | refine ⟨(by show some (Value.bool _) = some (Value.bool _); first | (simp [hg1, hg2]; done) | (refine congrArg (fun z => some (Value.bool z)) (Bool.eq_iff_iff.2 ?_); simp [hg1, hg2]; omega)), ?_⟩)) ks9 hJ1
 try simp only [zgb9] at hg2
 refine RK.tk Pu.mv ?_
 refine RK.tk Pu.mv ?_
 refine RK.tk (Pu.el ty_et22) ?_
 refine RK.tk (Pu.lds ty_ag65) ?_
 refine RK.tk Pu.mv ?_
 refine RK.keep ?_
 refine RK.tk Pu.mv ?_
 refine RK.tk Pu.mv ?_
 refine RK.tk (Pu.el ty_et22) ?_
 refine RK.tk (Pu.lds ty_ag65) ?_
 refine RK.tk Pu.mv ?_
 refine RK.keep ?_
 refine RK.keep ?_
 refine RK.keep ?_
 refine RK.keep ?_
 refine RK.keep ?_
 refine RK.ch [false, false, true, true, true, true] ?_ trivial
 refine WK.cr rfl (enters Tryz.func29 rfl rfl) (fun w hw => by
   have h9 := fS _ k q hki (hI.ext (Chg.ext hw.chg))
   rw [sgn_eq hk hki] at h9
   exact h9) ?_
 refine WK.cr rfl (enters Tryz.func29 rfl rfl) (fun w hw => by
   have h9 := fS _ at_ q ha (hI.ext (Chg.ext hw.chg))
   rw [sgn_eq hk ha] at h9
   exact h9) ?_
 refine WK.p Pu.eq ?_
 refine WK.p Pu.kf ?_
 refine WK.p Pu.kt ?_
 refine WK.p Pu.as ?_
 refine WK.n ?_
 refine TL.nil ?_
 exact TQ.sub (by repeat (first | exact trivial | refine ⟨rfl, ?_⟩ | refine ⟨trivial, ?_⟩ | refine ⟨(by show some (Value.bool _) = some (Value.bool _); first | (simp [hg1, hg2]; done) | (refine congrArg (fun z => some (Value.bool z)) (Bool.eq_iff_iff.2 ?_); simp [hg1, hg2]; omega)), ?_⟩)) ks9 hJ1
 try simp only [zgb9] at hg1
 refine RK.s ?_
 refine RK.s ?_
 refine RK.s ?_
 refine RK.s ?_
 refine RK.s ?_
 refine RK.s ?_
 refine RK.s ?_
 refine RK.s ?_
 refine RK.s ?_
 refine RK.s ?_
 refine RK.s ?_
 refine RK.keep ?_
 refine RK.s ?_
 refine RK.s ?_
 refine RK.s ?_
 refine RK.s ?_
 refine RK.s ?_
 refine RK.keep ?_
 refine RK.keep ?_
 refine RK.keep ?_
 refine RK.keep ?_
 refine RK.keep ?_
 refine RK.ch [false, false, true, true, true, true] ?_ trivial
 refine WK.gs ?_
 refine WK.gs ?_
 refine WK.ps ?_
 refine WK.ps ?_
 refine WK.p Pu.kf ?_
 refine WK.p Pu.as ?_
 refine WK.n ?_
 refine TL.nil ?_
 exact TQ.sub (by repeat (first | exact trivial | refine ⟨rfl, ?_⟩ | refine ⟨trivial, ?_⟩ | refine ⟨(by show some (Value.bool _) = some (Value.bool _); first | (simp [hg1]; done) | (refine congrArg (fun z => some (Value.bool z)) (Bool.eq_iff_iff.2 ?_); simp [hg1]; omega)), ?_⟩)) ks9 hJ1
 try simp only [zcb9] at hc2
 obtain rfl : q = 8 := by omega
 refine TW.exit ?_
 refine TQ.thenX ?_
 refine TQ.thenX ?_
 refine TQ.blkX ?_
 refine TQ.thenN (hY10 _ _ ?_)
 refine TW.seq fun Y15 hY15 => TW.region ?_
 refine TL.p Pu.mv ?_
 refine TL.nil (TQ.thenN (hY15 _ _ ?_))
 refine TW.cond rfl (fun hc3 => ?_) (fun hc3 => ?_)
 try simp only [zcb9] at hc3
 have hsm2 : smB H at_ k s = true := by rw [hc3] at hsm; exact hsm.symm
 refine TW.seq fun Y16 hY16 => TW.region ?_
 refine TL.p Pu.as ?_
 refine TL.nil (TQ.thenN (hY16 _ _ ?_))
 refine TW.ret ?_
 refine TQ.blkR ?_
 refine TQ.thenR ?_
 refine TQ.thenR ?_
 refine TQ.blkR ?_
 refine TQ.thenR ?_
 refine TQ.ret Tryz.results76 rfl ((.tmp rfl .nil)) ?_
 exact fun w hw => ⟨ret_bool (by
  cases hm : toldB H at_ s with
  | false => rfl
  | true =>
   have := allB_iff.1 hm k hki
   rw [hsm2, decide_eq_false hne] at this; cases this), Chg.ext hw.chg⟩
 try simp only [zcb9] at hc3
 have hsm2 : smB H at_ k s = false := by
  have : sm = false := by simpa using hc3
  rw [this] at hsm; exact hsm.symm
 have hok : k = at_ ∨ smB H at_ k s = false := .inr hsm2
 refine TW.skip ?_
 refine TQ.blkN ?_
 refine TQ.thenN (hY6 _ _ ?_)
 refine TW.region ?_
 refine TL.p Pu.mv ?_
 refine TL.p Pu.ad ?_
 refine TL.p Pu.as ?_
 refine TL.nil ?_
 refine TQ.thenN (hZ0 (k + 1) _ _ ?_ ?_ fs9 ?_)
 refine ⟨by omega, fun j hj => ?_⟩
 by_cases e : j = k
 subst e; exact hok
 exact hall j (by omega)
 exact zom9
 exact ks9
 try simp only [zcb9] at hc0
 obtain rfl : k = H.n := by omega
 refine TW.exit ?_
 refine TQ.thenX ?_
 refine TQ.thenX ?_
 refine TQ.blkX ?_
 refine TQ.thenN (hY2 _ _ ?_)
 refine TW.seq fun Y17 hY17 => TW.region ?_
 refine TL.p Pu.as ?_
 refine TL.nil (TQ.thenN (hY17 _ _ ?_))
 refine TW.ret ?_
 refine TQ.ret Tryz.results76 rfl ((.tmp rfl .nil)) ?_
 exact fun w hw => ⟨ret_bool (allB_iff.2 fun j hj => by
  rcases hall j (by omega) with e | e
  rw [decide_eq_true e]; rfl
  rw [e]; simp), Chg.ext hw.chg⟩
set_option maxRecDepth 100000 in
theorem rSpots_any {s : Nat} {w : World} (h8 : s ≤ 255) : CallsK Tryz.prog 77 #[.int .i64 (s : Int)] [] w (Option Addr × Nat) (fun y => .slice y.1 (spK s 8).length y.2) (fun y => [.own y.1 (spK s 8).length y.2 3 1 (iL (spK s 8))]) := by
 refine K_enter (S := []) (K := []) Tryz.func77 rfl Tryz.ntmps77 rfl (Sat.start _) ?_
 refine TW.seq fun Y1 hY1 => TW.region ?_
 refine TL.p Pu.as ?_
 refine TL.nil (TQ.thenN (hY1 _ _ ?_))
 refine TW.seq fun Y2 hY2 => TW.region ?_
 refine TL.p Pu.as ?_
 refine TL.nil (TQ.thenN (hY2 _ _ ?_))
 refine TW.seq fun Y3 hY3 => ?_
 refine TW.seq fun Y4 hY4 => TW.region ?_
 refine TL.p Pu.as ?_
 refine TL.nil (TQ.thenN (hY4 _ _ ?_))
 refine TW.block ?_
 refine TW.loop5 (fun (q : Nat) (Al : Option Addr) (cl : Nat) (P : List Int) (n : Nat) => [(4, .int .i64 (q : Int)), (3, .slice Al n cl), (0, .int .i64 (s : Int))]) (fun q Al cl P n => [.own Al n cl 3 1 (iL P)]) (fun q Al cl P n => q ≤ 8 ∧ P = spK s q ∧ n = P.length) (fun q Al cl P n => 8 - q) 0 none 0 [] 0 fs9 ?_ ?_ ?_
 exact KSub.nilOwn KSub.nil
 exact ⟨Nat.zero_le _, rfl, rfl⟩
 rintro q Al cl P n ⟨hq8, hP, hn⟩ Z0 hZ0
 have hn9 : n ≤ 8 := by have := spK_len (s := s) q; rw [hn, hP]; omega
 have hdv : s / 2 ^ q ≤ 255 := Nat.le_trans (Nat.div_le_self _ _) h8
 refine TW.seq fun Y5 hY5 => ?_
 refine TW.seq fun Y6 hY6 => TW.region ?_
 refine TL.p Pu.mv ?_
 refine TL.p Pu.lt ?_
 refine TL.nil (TQ.thenN (hY6 _ _ ?_))
 refine TW.cond rfl (fun hc0 => ?_) (fun hc0 => ?_)
 try simp only [zcb9] at hc0
 have hqn : q < 8 := by omega
 refine TW.skip ?_
 refine TQ.thenN (hY5 _ _ ?_)
 refine TW.seq fun Y7 hY7 => ?_
 refine TW.block ?_
 refine TW.seq fun Y8 hY8 => TW.region ?_
 refine TL.p Pu.mv ?_
 refine TL.p Pu.mv ?_
 refine TL.p (Pu.srN (b := s) (i := q)) ?_
 refine TL.p (Pu.an1 (m := s / 2 ^ q)) ?_
 refine TL.p Pu.eq ?_
 refine TL.nil (TQ.thenN (hY8 _ _ ?_))
 refine TW.cond rfl (fun hc1 => ?_) (fun hc1 => ?_)
 try simp only [zcb9] at hc1
 have hb : s / 2 ^ q % 2 = 1 := by omega
 have hst : spK s (q + 1) = P ++ [(q : Int)] := by rw [hP]; exact if_pos hb
 have hlen9 : n + 1 = (spK s (q + 1)).length := by rw [hst, List.length_append, ← hn]; rfl
 refine TW.region ?_
 refine TL.p Pu.mv ?_
 refine TL.p Pu.mv ?_
 refine TL.m Mk.bl ?_
 intro b1
 first | refine TL.a0 ty_et33 ?_ | refine TL.ap ty_et33 ?_
 intro A2 c2
 refine TL.p Pu.as ?_
 refine TL.nil ?_
 refine TQ.blkN ?_
 refine TQ.thenN (hY7 _ _ ?_)
 refine TW.region ?_
 refine TL.p Pu.mv ?_
 refine TL.p Pu.ad ?_
 refine TL.p Pu.as ?_
 refine TL.nil ?_
 refine TQ.thenN (hZ0 (q + 1) _ _ (spK s (q + 1)) _ _ _ ?_ ?_ fs9 ?_)
 exact ⟨by omega, rfl, hlen9⟩
 exact zom9
 first
  | exact KSub.own Pick.hd (iL_app hn hst rfl) ks9
  | exact KSub.own pk9 (fun i _ => by rw [hst]) ks9
 try simp only [zcb9] at hc1
 have hb : ¬ s / 2 ^ q % 2 = 1 := by omega
 have hst : spK s (q + 1) = P := by rw [hP]; exact if_neg hb
 have hlen9 : n = (spK s (q + 1)).length := by rw [hst, ← hn]
 refine TW.skip ?_
 refine TQ.blkN ?_
 refine TQ.thenN (hY7 _ _ ?_)
 refine TW.region ?_
 refine TL.p Pu.mv ?_
 refine TL.p Pu.ad ?_
 refine TL.p Pu.as ?_
 refine TL.nil ?_
 refine TQ.thenN (hZ0 (q + 1) _ _ (spK s (q + 1)) _ _ _ ?_ ?_ fs9 ?_)
 exact ⟨by omega, rfl, hlen9⟩
 exact zom9
 first
  | exact KSub.own Pick.hd (iL_app hn hst rfl) ks9
  | exact KSub.own pk9 (fun i _ => by rw [hst]) ks9
 try simp only [zcb9] at hc0
 obtain rfl : q = 8 := by omega
 refine TW.exit ?_
 refine TQ.thenX ?_
 refine TQ.thenX ?_
 refine TQ.blkX ?_
 refine TQ.thenN (hY3 _ _ ?_)
 refine TW.seq fun Y9 hY9 => TW.region ?_
 refine TL.p Pu.mv ?_
 refine TL.p Pu.as ?_
 refine TL.nil (TQ.thenN (hY9 _ _ ?_))
 refine TW.ret ?_
 refine TQ.ret Tryz.results77 rfl ((.tmp rfl .nil)) ?_
 exact fun w hw => ⟨(Al, cl), by rw [← hP, ← hn]; rfl, by rw [← hP, ← hn]; exact hw.sub (KSub.cons Pick.hd KSub.nil)⟩
set_option maxRecDepth 100000 in
theorem rEarl_any {w : World} {A B : Option Addr} {n cp cq : Nat} {L M : List Int} (hn : n = L.length) (hm : n = M.length) (h1 : n ≤ 1000000) (hR : RdR w 1 A n (iL L)) (hS : RdR w 1 B n (iL M)) :
  Calls Tryz.prog 78 #[.slice A n cp, .slice B n cq] w (Ret w (.bool (ltL L M))) := by
 unfold iL at hR hS
 refine K_enter (S := []) (K := []) Tryz.func78 rfl Tryz.ntmps78 rfl (Sat.start _) ?_
 refine TW.seq fun Y1 hY1 => TW.region ?_
 refine TL.p Pu.as ?_
 refine TL.nil (TQ.thenN (hY1 _ _ ?_))
 refine TW.seq fun Y2 hY2 => ?_
 refine TW.seq fun Y3 hY3 => TW.region ?_
 refine TL.p Pu.as ?_
 refine TL.nil (TQ.thenN (hY3 _ _ ?_))
 refine TW.block ?_
 refine TW.loop1 (fun (k : Nat) => [(5, .int .i64 (k : Int)), (0, .slice A n cp), (1, .slice B n cq)]) (fun k => []) (fun k => k ≤ n ∧ ltL L M = ltL (L.drop k) (M.drop k)) (fun k => n - k) 0 fs9 ?_ ?_ ?_
 exact ks9
 exact ⟨Nat.zero_le _, rfl⟩
 rintro k ⟨hk, he⟩ Z0 hZ0
 refine TW.seq fun Y4 hY4 => ?_
 refine TW.seq fun Y5 hY5 => TW.region ?_
 refine TL.p Pu.mv ?_
 refine TL.p Pu.mv ?_
 refine TL.p (Pu.ln Tryz.underlying33) ?_
 refine TL.p Pu.lt ?_
 refine TL.nil (TQ.thenN (hY5 _ _ ?_))
 refine TW.cond rfl (fun hc0 => ?_) (fun hc0 => ?_)
 try simp only [zcb9] at hc0
 have hkn : k < n := by omega
 have dL := drop_get (L := L) (k := k) (by omega)
 have dM := drop_get (L := M) (k := k) (by omega)
 refine TW.skip ?_
 refine TQ.thenN (hY4 _ _ ?_)
 refine TW.seq fun Y6 hY6 => ?_
 refine TW.block ?_
 refine TW.seq fun Y7 hY7 => ?_
 refine TW.dw 9 ?_
 refine RK.tk Pu.mv ?_
 refine RK.tk Pu.mv ?_
 refine RK.tk (Pu.el ty_et33) ?_
 refine RK.tk (Pu.ld ty_sc3) ?_
 refine RK.tk Pu.mv ?_
 refine RK.tk Pu.mv ?_
 refine RK.tk (Pu.el ty_et33) ?_
 refine RK.tk (Pu.ld ty_sc3) ?_
 refine RK.tk Pu.ne ?_
 refine RK.ch [] ?_ trivial
 refine WK.n ?_
 refine TL.nil (TQ.thenN (hY7 _ _ ?_))
 refine TW.cond rfl (fun hc1 => ?_) (fun hc1 => ?_)
 try simp only [zcb9] at hc1
 have hne : ¬ L.getD k 0 = M.getD k 0 := hc1
 refine TW.seq fun Y8 hY8 => ?_
 refine TW.dw 10 ?_
 refine RK.tk Pu.mv ?_
 refine RK.tk Pu.mv ?_
 refine RK.tk (Pu.el ty_et33) ?_
 refine RK.tk (Pu.ld ty_sc3) ?_
 refine RK.tk Pu.mv ?_
 refine RK.tk Pu.mv ?_
 refine RK.tk (Pu.el ty_et33) ?_
 refine RK.tk (Pu.ld ty_sc3) ?_
 refine RK.tk Pu.lt ?_
 refine RK.tk Pu.as ?_
 refine RK.ch [] ?_ trivial
 refine WK.n ?_
 refine TL.nil (TQ.thenN (hY8 _ _ ?_))
 refine TW.ret ?_
 refine TQ.blkR ?_
 refine TQ.thenR ?_
 refine TQ.thenR ?_
 refine TQ.blkR ?_
 refine TQ.thenR ?_
 refine TQ.ret Tryz.results78 rfl ((.tmp rfl .nil)) ?_
 exact fun w hw => ⟨ret_bool (by rw [he, dL, dM]; simp only [ltL]; rw [if_neg hne]), Chg.ext hw.chg⟩
 try simp only [zcb9] at hc1
 have heq : L.getD k 0 = M.getD k 0 := by omega
 refine TW.skip ?_
 refine TQ.blkN ?_
 refine TQ.thenN (hY6 _ _ ?_)
 refine TW.region ?_
 refine TL.p Pu.mv ?_
 refine TL.p Pu.ad ?_
 refine TL.p Pu.as ?_
 refine TL.nil ?_
 refine TQ.thenN (hZ0 (k + 1) _ _ ?_ ?_ fs9 ?_)
 exact ⟨by omega, by rw [he, dL, dM]; simp only [ltL, if_pos heq]⟩
 exact zom9
 exact ks9
 try simp only [zcb9] at hc0
 have hkn : k = n := by omega
 refine TW.exit ?_
 refine TQ.thenX ?_
 refine TQ.thenX ?_
 refine TQ.blkX ?_
 refine TQ.thenN (hY2 _ _ ?_)
 refine TW.seq fun Y9 hY9 => TW.region ?_
 refine TL.p Pu.as ?_
 refine TL.nil (TQ.thenN (hY9 _ _ ?_))
 refine TW.ret ?_
 refine TQ.ret Tryz.results78 rfl ((.tmp rfl .nil)) ?_
 exact fun w hw => ⟨ret_bool (by rw [he, List.drop_eq_nil_of_le (by omega)]; rfl), Chg.ext hw.chg⟩
set_option maxRecDepth 100000 in
set_option maxHeartbeats 4000000 in
theorem rTell_any {w : World} {A : Option Addr} {cp : Nat} {H : Hd} {a : Nat → Option Addr} {c : Nat → Nat} {id : Int} (hI : HIn w A H a c) :
  CallsK Tryz.prog 21 #[.slice A H.n cp, .int .i64 id] [] w (Option Addr × Nat) (fun y => .tuple #[.slice y.1 (telL H id).length y.2, .int .i64 (telC H id)]) (fun y => [.own y.1 (telL H id).length y.2 3 1 (iL (telL H id))]) := by
 have hbad : ¬ telC H id = 0 → telL H id = [] := fun h => if_neg h
 have hn := hI.hn
 refine K_enter (S := []) (K := []) Tryz.func21 rfl Tryz.ntmps21 rfl (Sat.start _) ?_
 refine TW.seq fun Y1 hY1 => TW.region ?_
 refine TL.p Pu.as ?_
 refine TL.p Pu.as ?_
 refine TL.nil (TQ.thenN (hY1 _ _ ?_))
 refine TW.seq fun Y2 hY2 => ?_
 refine TW.seq fun Y3 hY3 => TW.region ?_
 refine TL.p Pu.mv ?_
 refine TL.cr rfl (enters Tryz.func74 rfl rfl) (fun w hw => by
   exact rHerd_any (hI.ext (Chg.ext hw.chg))) ?_
 refine TL.p Pu.no ?_
 refine TL.nil (TQ.thenN (hY3 _ _ ?_))
 refine TW.cond rfl (fun hc0 => ?_) (fun hc0 => ?_)
 try simp only [zcb9] at hc0
 have hh : herdB H = false := by simpa using hc0
 have hc : telC H id = 20 := by unfold telC; rw [hh]; rfl
 have hN := hbad (by rw [hc]; decide)
 refine TW.seq fun Y4 hY4 => TW.region ?_
 refine TL.p Pu.as ?_
 refine TL.p Pu.as ?_
 refine TL.nil (TQ.thenN (hY4 _ _ ?_))
 refine TW.ret ?_
 refine TQ.thenR ?_
 refine TQ.ret Tryz.results21 rfl ((.tmp rfl (.tmp rfl .nil))) ?_
 exact fun w hw => ⟨(none, 0), by simp only [hN, hc]; rfl, by simp only [hN]; exact hw.sub (KSub.nilOwn KSub.nil)⟩
 try simp only [zcb9] at hc0
 have hh : herdB H = true := by simpa using hc0
 have hk := herdB_ok.1 hh
 obtain ⟨i, hi9⟩ : ∃ i, i = (atH H id).toNat := ⟨_, rfl⟩
 refine TW.skip ?_
 refine TQ.thenN (hY2 _ _ ?_)
 refine TW.seq fun Y5 hY5 => TW.region ?_
 refine TL.p Pu.mv ?_
 refine TL.p Pu.mv ?_
 refine TL.cr rfl (enters Tryz.func75 rfl rfl) (fun w hw => by
   exact rAt_any id hn ((hI.ext (Chg.ext hw.chg)).hR)) ?_
 refine TL.p Pu.as ?_
 refine TL.nil (TQ.thenN (hY5 _ _ ?_))
 refine TW.seq fun Y6 hY6 => ?_
 refine TW.seq fun Y7 hY7 => TW.region ?_
 refine TL.p Pu.mv ?_
 refine TL.p Pu.lt ?_
 refine TL.nil (TQ.thenN (hY7 _ _ ?_))
 refine TW.cond rfl (fun hc1 => ?_) (fun hc1 => ?_)
 try simp only [zcb9] at hc1
 have hc : telC H id = 2 := by unfold telC; rw [hh, if_pos rfl, if_neg (by omega)]
 have hN := hbad (by rw [hc]; decide)
 refine TW.seq fun Y8 hY8 => TW.region ?_
 refine TL.p Pu.as ?_
 refine TL.p Pu.as ?_
 refine TL.nil (TQ.thenN (hY8 _ _ ?_))
 refine TW.ret ?_
 refine TQ.thenR ?_
 refine TQ.ret Tryz.results21 rfl ((.tmp rfl (.tmp rfl .nil))) ?_
 exact fun w hw => ⟨(none, 0), by simp only [hN, hc]; rfl, by simp only [hN]; exact hw.sub (KSub.nilOwn KSub.nil)⟩
 try simp only [zcb9] at hc1
 have hat : 0 ≤ atH H id := hc1
 have hc : telC H id = if toldB H i 255 then 0 else 6 := by unfold telC; rw [hh, if_pos rfl, if_pos hat, hi9]
 obtain ⟨hil, hie⟩ := at_lt hat
 rw [← hi9] at hil hie
 rw [← hie]
 refine TW.skip ?_
 refine TQ.thenN (hY6 _ _ ?_)
 refine TW.seq fun Y9 hY9 => ?_
 refine TW.seq fun Y10 hY10 => TW.region ?_
 refine TL.p Pu.mv ?_
 refine TL.p Pu.mv ?_
 refine TL.cr rfl (enters Tryz.func76 rfl rfl) (fun w hw => by
   exact rTold_any hk (hI.ext (Chg.ext hw.chg)) hil (by decide)) ?_
 refine TL.p Pu.no ?_
 refine TL.nil (TQ.thenN (hY10 _ _ ?_))
 refine TW.cond rfl (fun hc2 => ?_) (fun hc2 => ?_)
 try simp only [zcb9] at hc2
 have hc8 : telC H id = 6 := by rw [hc, hc2]; rfl
 have hN := hbad (by rw [hc8]; decide)
 refine TW.seq fun Y11 hY11 => TW.region ?_
 refine TL.p Pu.as ?_
 refine TL.p Pu.as ?_
 refine TL.nil (TQ.thenN (hY11 _ _ ?_))
 refine TW.ret ?_
 refine TQ.thenR ?_
 refine TQ.ret Tryz.results21 rfl ((.tmp rfl (.tmp rfl .nil))) ?_
 exact fun w hw => ⟨(none, 0), by simp only [hN, hc8]; rfl, by simp only [hN]; exact hw.sub (KSub.nilOwn KSub.nil)⟩
 try simp only [zcb9] at hc2
 have hc8 : telC H id = 0 := by rw [hc, hc2]; rfl
 have hN : telL H id = relK H i 256 := by unfold telL; rw [if_pos hc8, ← hi9, tel_end hc2]
 refine TW.skip ?_
 refine TQ.thenN (hY9 _ _ ?_)
 refine TW.seq fun Y12 hY12 => TW.region ?_
 refine TL.call (M := []) rfl (enters Tryz.func77 rfl rfl) (List.Perm.refl _) rfl (fun w hw => by
   exact rSpots_any (s := 255) (by decide)) ?_
 rintro ⟨As, cs⟩
 refine TL.p Pu.as ?_
 refine TL.nil (TQ.thenN (hY12 _ _ ?_))
 refine TW.seq fun Y13 hY13 => ?_
 refine TW.seq fun Y14 hY14 => TW.region ?_
 refine TL.p Pu.as ?_
 refine TL.nil (TQ.thenN (hY14 _ _ ?_))
 refine TW.block ?_
 refine TW.loop5 (fun (k : Nat) (Ab : Option Addr) (cb : Nat) (M : List Int) (m : Nat) => [(8, .int .i64 (k : Int)), (7, .slice Ab m cb), (6, .int .i64 (i : Int)), (0, .slice A H.n cp)]) (fun k Ab cb M m => [.own Ab m cb 3 1 (iL M)]) (fun k Ab cb M m => k ≤ 256 ∧ M = relK H i k ∧ m = M.length) (fun k Ab cb M m => 256 - k) 0 As cs (spK 255 8) (spK 255 8).length fs9 ?_ ?_ ?_
 exact ks9
 exact ⟨Nat.zero_le _, rfl, rfl⟩
 rintro k Ab cb M m ⟨hk256, hM, hm⟩ Z0 hZ0
 have hm9 : m ≤ 8 := by rw [hm, hM]; exact relK_len k
 refine TW.seq fun Y15 hY15 => ?_
 refine TW.seq fun Y16 hY16 => TW.region ?_
 refine TL.p Pu.mv ?_
 refine TL.p Pu.lt ?_
 refine TL.nil (TQ.thenN (hY16 _ _ ?_))
 refine TW.cond rfl (fun hc3 => ?_) (fun hc3 => ?_)
 try simp only [zcb9] at hc3
 have hkn : k < 256 := by omega
 refine TW.skip ?_
 refine TQ.thenN (hY15 _ _ ?_)
 refine TW.seq fun Y17 hY17 => ?_
 refine TW.block ?_
 refine TW.seq fun Y18 hY18 => TW.region ?_
 refine TL.p Pu.mv ?_
 refine TL.call (M := []) rfl (enters Tryz.func77 rfl rfl) (List.Perm.refl _) rfl (fun w hw => by
   exact rSpots_any (s := k) (by omega)) ?_
 rintro ⟨Al, cl⟩
 have hn8 := spK_len (s := k) 8
 obtain ⟨P, hP⟩ : ∃ P, P = spK k 8 := ⟨_, rfl⟩
 rw [← hP] at hn8 ⊢
 obtain ⟨nP, hnP⟩ : ∃ n : Nat, n = P.length := ⟨_, rfl⟩
 rw [← hnP] at hn8 ⊢
 refine TL.p Pu.as ?_
 refine TL.nil (TQ.thenN (hY18 _ _ ?_))
 refine TW.seq fun Y19 hY19 => ?_
 refine TW.join [(51, .bool (toldB H i k && (decide (nP < m) || (decide (nP = m) && ltL P M))))] ?_ (fun hJ1 => ?_)
 refine TQ.thenN (hY19 _ _ ?_)
 refine TW.cond rfl (fun hc4 => ?_) (fun hc4 => ?_)
 try simp only [zcb9] at hc4
 have hst : relK H i (k + 1) = P := by
  rw [relK, if_pos, hP]
  rw [← hP, ← hM, ← hm, ← hnP]
  simp only [Bool.and_eq_true, Bool.or_eq_true, decide_eq_true_eq]
  exact hc4
 refine TW.region ?_
 refine TL.p Pu.mv ?_
 refine TL.p Pu.as ?_
 refine TL.nil ?_
 refine TQ.blkN ?_
 refine TQ.thenN (hY17 _ _ ?_)
 refine TW.region ?_
 refine TL.p Pu.mv ?_
 refine TL.p Pu.ad ?_
 refine TL.p Pu.as ?_
 refine TL.nil ?_
 refine TQ.thenN (hZ0 (k + 1) _ _ (relK H i (k + 1)) _ _ _ ?_ ?_ fs9 ?_)
 exact ⟨by omega, rfl, by rw [hst]; assumption⟩
 exact zom9
 rw [hst]
 exact KSub.cons pk9 KSub.nil
 try simp only [zcb9] at hc4
 have hst : relK H i (k + 1) = M := by
  rw [relK, if_neg, hM]
  rw [← hP, ← hM, ← hm, ← hnP]
  simp only [Bool.and_eq_true, Bool.or_eq_true, decide_eq_true_eq]
  rintro ⟨e1, e2⟩
  rcases hc4 with h | ⟨h, h'⟩
  rw [e1] at h; cases h
  rcases e2 with e2 | e2
  omega
  rcases h' with h' | h'
  exact h' e2.1
  rw [e2.2] at h'; cases h'
 refine TW.skip ?_
 refine TQ.blkN ?_
 refine TQ.thenN (hY17 _ _ ?_)
 refine TW.region ?_
 refine TL.p Pu.mv ?_
 refine TL.p Pu.ad ?_
 refine TL.p Pu.as ?_
 refine TL.nil ?_
 refine TQ.thenN (hZ0 (k + 1) _ _ (relK H i (k + 1)) _ _ _ ?_ ?_ fs9 ?_)
 exact ⟨by omega, rfl, by rw [hst]; assumption⟩
 exact zom9
 rw [hst]
 exact KSub.cons pk9 KSub.nil
 refine TW.region ?_
 refine TL.p Pu.mv ?_
 refine TL.p Pu.mv ?_
 refine TL.p Pu.mv ?_
 refine TL.cr rfl (enters Tryz.func76 rfl rfl) (fun w hw => by
   exact rTold_any hk (hI.ext (Chg.ext hw.chg)) hil (by omega)) ?_
 refine TL.p Pu.mv ?_
 refine TL.guard (t := 33) rfl (fun hg1 => ?_) (fun hg1 => ?_)
 refine TL.gd Pu.mv ?_
 refine TL.gd (Pu.ln Tryz.underlying33) ?_
 refine TL.gd Pu.mv ?_
 refine TL.gd (Pu.ln Tryz.underlying33) ?_
 refine TL.gd (Pu.bv Pu.lt (b' := decide (nP < m)) (decide_eq_decide.2 Int.ofNat_lt)) ?_
 refine TL.gd Pu.mv ?_
 refine TL.guard (t := 39) rfl (fun hg2 => ?_) (fun hg2 => ?_)
 refine TL.gs ?_
 refine TL.gs ?_
 refine TL.gs ?_
 refine TL.gs ?_
 refine TL.gs ?_
 refine TL.gs ?_
 refine TL.gs ?_
 refine TL.gs ?_
 refine TL.gs ?_
 refine TL.gs ?_
 refine TL.gd Pu.kt ?_
 refine TL.p Pu.kt ?_
 refine TL.nil ?_
 exact TQ.sub (by repeat (first | exact trivial | refine ⟨rfl, ?_⟩ | refine ⟨trivial, ?_⟩ | refine ⟨(by show some (Value.bool _) = some (Value.bool _); first | (simp [hg1, hg2]; done) | (refine congrArg (fun z => some (Value.bool z)) (Bool.eq_iff_iff.2 ?_); simp [hg1, hg2]; omega)), ?_⟩)) ks9 hJ1
 refine TL.gd Pu.mv ?_
 refine TL.gd (Pu.ln Tryz.underlying33) ?_
 refine TL.gd Pu.mv ?_
 refine TL.gd (Pu.ln Tryz.underlying33) ?_
 refine TL.gd (Pu.bv Pu.eq (b' := decide (nP = m)) (decide_eq_decide.2 Int.ofNat_inj)) ?_
 refine TL.gd Pu.mv ?_
 refine TL.guard (t := 45) rfl (fun hg3 => ?_) (fun hg3 => ?_)
 refine TL.gd Pu.mv ?_
 refine TL.gd Pu.mv ?_
 refine TL.cr rfl (enters Tryz.func78 rfl rfl) (fun w hw => by
   have e9 : nP = m := by simpa using hg3
   subst e9
   exact rEarl_any hnP hm (by omega) (OwnR.rdr (hw.holds (.own Al nP cl 3 1 (iL P)) (Pick.mem pk9))) (OwnR.rdr (hw.holds (.own Ab nP cb 3 1 (iL M)) (Pick.mem pk9)))) ?_
 refine TL.gd Pu.kt ?_
 refine TL.gd Pu.kf ?_
 refine TL.p Pu.kt ?_
 refine TL.nil ?_
 exact TQ.sub (by repeat (first | exact trivial | refine ⟨rfl, ?_⟩ | refine ⟨trivial, ?_⟩ | refine ⟨(by show some (Value.bool _) = some (Value.bool _); first | (simp [hg1, hg2, hg3]; done) | (refine congrArg (fun z => some (Value.bool z)) (Bool.eq_iff_iff.2 ?_); simp [hg1, hg2, hg3]; omega)), ?_⟩)) ks9 hJ1
 refine TL.gs ?_
 refine TL.gs ?_
 refine TL.gs ?_
 refine TL.gd Pu.kf ?_
 refine TL.gd Pu.kf ?_
 refine TL.p Pu.kt ?_
 refine TL.nil ?_
 exact TQ.sub (by repeat (first | exact trivial | refine ⟨rfl, ?_⟩ | refine ⟨trivial, ?_⟩ | refine ⟨(by show some (Value.bool _) = some (Value.bool _); first | (simp [hg1, hg2, hg3]; done) | (refine congrArg (fun z => some (Value.bool z)) (Bool.eq_iff_iff.2 ?_); simp [hg1, hg2, hg3]; omega)), ?_⟩)) ks9 hJ1
 refine TL.gs ?_
 refine TL.gs ?_
 refine TL.gs ?_
 refine TL.gs ?_
 refine TL.gs ?_
 refine TL.gs ?_
 refine TL.gs ?_
 refine TL.gs ?_
 refine TL.gs ?_
 refine TL.gs ?_
 refine TL.gs ?_
 refine TL.gs ?_
 refine TL.gs ?_
 refine TL.gs ?_
 refine TL.gs ?_
 refine TL.gs ?_
 refine TL.gs ?_
 refine TL.p Pu.kf ?_
 refine TL.nil ?_
 exact TQ.sub (by repeat (first | exact trivial | refine ⟨rfl, ?_⟩ | refine ⟨trivial, ?_⟩ | refine ⟨(by show some (Value.bool _) = some (Value.bool _); first | (simp [hg1]; done) | (refine congrArg (fun z => some (Value.bool z)) (Bool.eq_iff_iff.2 ?_); simp [hg1]; omega)), ?_⟩)) ks9 hJ1
 try simp only [zcb9] at hc3
 obtain rfl : k = 256 := by omega
 refine TW.exit ?_
 refine TQ.thenX ?_
 refine TQ.thenX ?_
 refine TQ.blkX ?_
 refine TQ.thenN (hY13 _ _ ?_)
 refine TW.seq fun Y20 hY20 => TW.region ?_
 refine TL.p Pu.mv ?_
 refine TL.p Pu.as ?_
 refine TL.p Pu.as ?_
 refine TL.nil (TQ.thenN (hY20 _ _ ?_))
 refine TW.ret ?_
 refine TQ.ret Tryz.results21 rfl ((.tmp rfl (.tmp rfl .nil))) ?_
 exact fun w hw => ⟨(Ab, cb), by rw [hN, hc8, ← hM, ← hm]; rfl, by rw [hN, ← hM, ← hm]; exact hw.sub (KSub.cons pk9 KSub.nil)⟩
set_option maxRecDepth 100000 in
theorem rSameL_any {w : World} {A B : Option Addr} {n c1 c2 : Nat} {a b : Nat → Option Addr} {c d : Nat → Nat} {L : Nat → List Int} (hn : n ≤ 1000000) (hL : ∀ k, k < n → (L k).length ≤ 1000000) (hA : RdR w 1 A n (fun k => [.slice (a k) (L k).length (c k)])) (hB : RdR w 1 B n (fun k => [.slice (b k) (L k).length (d k)])) (hAe : ∀ k, k < n → RdR w 1 (a k) (L k).length (iL (L k))) (hBe : ∀ k, k < n → RdR w 1 (b k) (L k).length (iL (L k))) :
  Calls Tryz.prog 23 #[.slice A n c1, .slice B n c2] w (Ret w (.bool true)) := by
 refine K_enter (S := []) (K := []) Tryz.func23 rfl Tryz.ntmps23 rfl (Sat.start _) ?_
 refine TW.seq fun Y1 hY1 => TW.region ?_
 refine TL.p Pu.as ?_
 refine TL.nil (TQ.thenN (hY1 _ _ ?_))
 refine TW.seq fun Y2 hY2 => ?_
 refine TW.seq fun Y3 hY3 => TW.region ?_
 refine TL.p Pu.mv ?_
 refine TL.p (Pu.ln Tryz.underlying39) ?_
 refine TL.p Pu.mv ?_
 refine TL.p (Pu.ln Tryz.underlying39) ?_
 refine TL.p Pu.ne ?_
 refine TL.nil (TQ.thenN (hY3 _ _ ?_))
 refine TW.condF rfl ((by simp)) ?_
 refine TW.skip ?_
 refine TQ.thenN (hY2 _ _ ?_)
 refine TW.seq fun Y4 hY4 => ?_
 refine TW.seq fun Y5 hY5 => TW.region ?_
 refine TL.p Pu.as ?_
 refine TL.nil (TQ.thenN (hY5 _ _ ?_))
 refine TW.block ?_
 refine TW.loop1 (fun (k : Nat) => [(5, .int .i64 (k : Int)), (0, .slice A n c1), (1, .slice B n c2)]) (fun k => []) (fun k => k ≤ n) (fun k => n - k) 0 fs9 ?_ ?_ ?_
 exact ks9
 exact (by omega)
 rintro k hk Z0 hZ0
 refine TW.seq fun Y6 hY6 => ?_
 refine TW.seq fun Y7 hY7 => TW.region ?_
 refine TL.p Pu.mv ?_
 refine TL.p Pu.mv ?_
 refine TL.p (Pu.ln Tryz.underlying39) ?_
 refine TL.p Pu.lt ?_
 refine TL.nil (TQ.thenN (hY7 _ _ ?_))
 refine TW.cond rfl (fun hc1 => ?_) (fun hc1 => ?_)
 try simp only [zcb9] at hc1
 have hkn : k < n := by omega
 refine TW.skip ?_
 refine TQ.thenN (hY6 _ _ ?_)
 refine TW.seq fun Y8 hY8 => ?_
 refine TW.block ?_
 refine TW.seq fun Y9 hY9 => ?_
 refine TW.dw 10 ?_
 refine RK.tk Pu.mv ?_
 refine RK.tk Pu.mv ?_
 refine RK.tk (Pu.el ty_et39) ?_
 refine RK.tk (Pu.ld ty_sc33) ?_
 refine RK.tk Pu.mv ?_
 refine RK.tk Pu.mv ?_
 refine RK.tk (Pu.el ty_et39) ?_
 refine RK.tk (Pu.ld ty_sc33) ?_
 refine RK.keep ?_
 refine RK.keep ?_
 refine RK.ch [false, true] ?_ trivial
 refine WK.cr rfl (enters Tryz.func22 rfl rfl) (fun w hw => by
   exact bSameInts_any (v := fun j => (L k).getD j 0) (hL k hkn) ((hAe k hkn).sat hw Apart.nil) ((hBe k hkn).sat hw Apart.nil)) ?_
 refine WK.p Pu.no ?_
 refine WK.n ?_
 refine TL.nil (TQ.thenN (hY9 _ _ ?_))
 refine TW.condF rfl (rfl) ?_
 refine TW.skip ?_
 refine TQ.blkN ?_
 refine TQ.thenN (hY8 _ _ ?_)
 refine TW.region ?_
 refine TL.p Pu.mv ?_
 refine TL.p Pu.ad ?_
 refine TL.p Pu.as ?_
 refine TL.nil ?_
 refine TQ.thenN (hZ0 (k + 1) _ _ ?_ ?_ fs9 ?_)
 exact (by omega)
 exact zom9
 exact ks9
 try simp only [zcb9] at hc1
 refine TW.exit ?_
 refine TQ.thenX ?_
 refine TQ.thenX ?_
 refine TQ.blkX ?_
 refine TQ.thenN (hY4 _ _ ?_)
 refine TW.seq fun Y10 hY10 => TW.region ?_
 refine TL.p Pu.as ?_
 refine TL.nil (TQ.thenN (hY10 _ _ ?_))
 refine TW.ret ?_
 refine TQ.ret Tryz.results23 rfl ((.tmp rfl .nil)) ?_
 exact fun w hw => Ret.of hw
def greatL (nl : Nat) (L : Nat → Lk) : Bool := decide ((6 : Int) < (nl : Int)) || anyB nl fun k => decide ((12 : Int) < ((L k).ns : Int))
theorem great_looks {nl : Nat} {L : Nat → Lk} (h : greatL nl L = false) : nl ≤ 6 ∧ ∀ k, k < nl → (L k).ns ≤ 12 := by
 unfold greatL at h
 rw [Bool.or_eq_false_iff, decide_eq_false_iff_not] at h
 exact ⟨by omega, fun k hk => by
  have := anyB_false.1 h.2 k hk
  simp only [decide_eq_false_iff_not] at this
  omega⟩
set_option maxRecDepth 100000 in
theorem rGreatL_any {w : World} {B : Option Addr} {nl cb : Nat} {L : Nat → Lk} {la : Nat → Option Addr} {lc : Nat → Nat} (hR : RdR w 4 B nl (fun k => lkL (L k) (la k) (lc k))) : Calls Tryz.prog 14 #[.slice B nl cb] w (Ret w (.bool (greatL nl L))) := by
 unfold lkL at hR
 refine K_enter (S := []) (K := []) Tryz.func14 rfl Tryz.ntmps14 rfl (Sat.start _) ?_
 refine TW.seq fun Y1 hY1 => TW.region ?_
 refine TL.p Pu.as ?_
 refine TL.nil (TQ.thenN (hY1 _ _ ?_))
 refine TW.seq fun Y2 hY2 => ?_
 refine TW.seq fun Y3 hY3 => TW.region ?_
 refine TL.p Pu.mv ?_
 refine TL.p (Pu.ln Tryz.underlying28) ?_
 refine TL.p Pu.gt ?_
 refine TL.nil (TQ.thenN (hY3 _ _ ?_))
 refine TW.cond rfl (fun hc0 => ?_) (fun hc0 => ?_)
 try simp only [zcb9] at hc0
 have hbig : greatL nl L = true := by unfold greatL; rw [decide_eq_true (by omega)]; rfl
 refine TW.seq fun Y4 hY4 => TW.region ?_
 refine TL.p Pu.as ?_
 refine TL.nil (TQ.thenN (hY4 _ _ ?_))
 refine TW.ret ?_
 refine TQ.thenR ?_
 refine TQ.ret Tryz.results14 rfl ((.tmp rfl .nil)) ?_
 exact fun w hw => ⟨ret_bool hbig, Chg.ext hw.chg⟩
 try simp only [zcb9] at hc0
 have hsm : ¬ (6 : Int) < (nl : Int) := by omega
 refine TW.skip ?_
 refine TQ.thenN (hY2 _ _ ?_)
 refine TW.seq fun Y5 hY5 => ?_
 refine TW.seq fun Y6 hY6 => TW.region ?_
 refine TL.p Pu.as ?_
 refine TL.nil (TQ.thenN (hY6 _ _ ?_))
 refine TW.block ?_
 refine TW.loop1 (fun (k : Nat) => [(3, .int .i64 (k : Int)), (0, .slice B nl cb)]) (fun k => []) (fun k => k ≤ nl ∧ ∀ j, j < k → decide ((12 : Int) < ((L j).ns : Int)) = false) (fun k => nl - k) 0 fs9 ?_ ?_ ?_
 exact ks9
 exact ⟨Nat.zero_le _, fun j hj => by omega⟩
 rintro k ⟨hk, hall⟩ Z0 hZ0
 refine TW.seq fun Y7 hY7 => ?_
 refine TW.seq fun Y8 hY8 => TW.region ?_
 refine TL.p Pu.mv ?_
 refine TL.p Pu.mv ?_
 refine TL.p (Pu.ln Tryz.underlying28) ?_
 refine TL.p Pu.lt ?_
 refine TL.nil (TQ.thenN (hY8 _ _ ?_))
 refine TW.cond rfl (fun hc1 => ?_) (fun hc1 => ?_)
 try simp only [zcb9] at hc1
 have hkn : k < nl := by omega
 refine TW.skip ?_
 refine TQ.thenN (hY7 _ _ ?_)
 refine TW.seq fun Y9 hY9 => ?_
 refine TW.block ?_
 refine TW.seq fun Y10 hY10 => TW.region ?_
 refine TL.p Pu.mv ?_
 refine TL.p Pu.mv ?_
 refine TL.p (Pu.el ty_et28) ?_
 refine TL.p (by first | exact Pu.fb ty_fa27_0 | exact Pu.fe ty_fa27_0) ?_
 refine TL.p (Pu.ld ty_sc23) ?_
 refine TL.p (Pu.ln Tryz.underlying23) ?_
 refine TL.p Pu.gt ?_
 refine TL.nil (TQ.thenN (hY10 _ _ ?_))
 refine TW.cond rfl (fun hc2 => ?_) (fun hc2 => ?_)
 try simp only [zcb9] at hc2
 have hb2 : decide ((12 : Int) < ((L k).ns : Int)) = true := decide_eq_true (by omega)
 refine TW.seq fun Y11 hY11 => TW.region ?_
 refine TL.p Pu.as ?_
 refine TL.nil (TQ.thenN (hY11 _ _ ?_))
 refine TW.ret ?_
 refine TQ.blkR ?_
 refine TQ.thenR ?_
 refine TQ.thenR ?_
 refine TQ.blkR ?_
 refine TQ.thenR ?_
 refine TQ.ret Tryz.results14 rfl ((.tmp rfl .nil)) ?_
 exact fun w hw => ⟨ret_bool (by unfold greatL; rw [anyB_iff.2 ⟨k, hkn, hb2⟩, Bool.or_true]), Chg.ext hw.chg⟩
 try simp only [zcb9] at hc2
 have hb2 : decide ((12 : Int) < ((L k).ns : Int)) = false := decide_eq_false (by omega)
 refine TW.skip ?_
 refine TQ.blkN ?_
 refine TQ.thenN (hY9 _ _ ?_)
 refine TW.region ?_
 refine TL.p Pu.mv ?_
 refine TL.p Pu.ad ?_
 refine TL.p Pu.as ?_
 refine TL.nil ?_
 refine TQ.thenN (hZ0 (k + 1) _ _ ?_ ?_ fs9 ?_)
 refine ⟨by omega, fun j hj => ?_⟩
 by_cases e : j = k
 subst e; exact hb2
 exact hall j (by omega)
 exact zom9
 exact ks9
 try simp only [zcb9] at hc1
 have hkn : k = nl := by omega
 refine TW.exit ?_
 refine TQ.thenX ?_
 refine TQ.thenX ?_
 refine TQ.blkX ?_
 refine TQ.thenN (hY5 _ _ ?_)
 refine TW.seq fun Y12 hY12 => TW.region ?_
 refine TL.p Pu.as ?_
 refine TL.nil (TQ.thenN (hY12 _ _ ?_))
 refine TW.ret ?_
 refine TQ.ret Tryz.results14 rfl ((.tmp rfl .nil)) ?_
 exact fun w hw => ⟨ret_bool (by unfold greatL; rw [decide_eq_false hsm, anyB_false.2 fun j hj => hall j (by omega)]; rfl), Chg.ext hw.chg⟩
end Go.Proofs.YtceokmaddbdnfaaGreat
namespace Go.Proofs.YtceokmaddbdnfaaGreat
set_option linter.all false
set_option linter.unusedVariables false
set_option linter.unusedSimpArgs false
open Go.RowKit
def onK (g : Nat → Int) (s k : Nat) : Nat → Int := fun j => if j < k ∧ s / 2 ^ j % 2 = 0 then -1 else g j
theorem onK_0 {g : Nat → Int} {s : Nat} : onK g s 0 = g := by funext j; unfold onK; rw [if_neg (by omega)]
theorem on_eq {H : Hd} {at_ i s : Nat} (hs : ∀ k, k < 8 → 0 ≤ sgH H i k ∧ 0 ≤ sgH H at_ k) : (allB 8 fun k => decide (onK (sgH H i) s 8 k = onK (sgH H at_) s 8 k)) = smB H at_ i s := by
  rw [Bool.eq_iff_iff]
  unfold smB
  rw [allB_iff, allB_iff]
  constructor
  · intro h k hk
    have := of_decide_eq_true (h k hk)
    unfold onK at this
    by_cases e : s / 2 ^ k % 2 = 1
    · rw [if_neg (by omega), if_neg (by omega)] at this
      rw [decide_eq_true this, Bool.or_true]
    · rw [decide_eq_false e]; rfl
  · intro h k hk
    have h1 := h k hk
    refine decide_eq_true ?_
    unfold onK
    by_cases e : s / 2 ^ k % 2 = 1
    · rw [if_neg (by omega), if_neg (by omega)]
      rw [decide_eq_true e] at h1
      exact of_decide_eq_true h1
    · have : s / 2 ^ k % 2 = 0 := by omega
      rw [if_pos ⟨hk, this⟩, if_pos ⟨hk, this⟩]
set_option maxRecDepth 100000 in
set_option maxHeartbeats 1000000 in
theorem on_any {g : Nat → Int} {s : Nat} {w : World} (h8 : s ≤ 255) : Calls Tryz.prog 115 #[.agg (octL g).toArray, .int .i64 (s : Int)] w (Ret w (.agg (octL (onK g s 8)).toArray)) := by
 refine K_enter (S := []) (K := []) Tryz.func115 rfl Tryz.ntmps115 rfl (Sat.start _) ?_
 refine TW.seq fun Y1 hY1 => TW.region ?_
 refine TL.m Mk.bx ?_
 intro b1
 refine TL.m (Mk.al ty_zr108) ?_
 intro b2
 refine TL.nil (TQ.thenN (hY1 _ _ ?_))
 refine TW.seq fun Y2 hY2 => ?_
 refine TW.seq fun Y3 hY3 => TW.region ?_
 refine TL.p Pu.mv ?_
 refine TL.nil (TQ.thenN (hY3 _ _ ?_))
 refine TW.block ?_
 refine TW.loop1 (fun (k : Nat) => [(6, .int .i64 (k : Int)), (1, .int .i64 (s : Int)), (2, .pointer (some ⟨b1, 0, none⟩)), (4, .pointer (some ⟨b2, 0, none⟩))]) (fun k => [.own (some ⟨b1, 0, none⟩) 8 8 108 1 (fun j => [.int .i64 (onK g s k j)]), .blk b2 108 (octL fun _ => 0)]) (fun k => k ≤ 8) (fun k => 8 - k) 0 fs9 ?_ ?_ ?_
 rw [onK_0]
 exact KSub.ofBlk pk9 rfl (fun i hi => rfl) rfl rfl (KSub.cons pk9 KSub.nil)
 exact (by omega)
 rintro k hk Z0 hZ0
 refine TW.seq fun Y4 hY4 => TW.region ?_
 refine TL.p Pu.lt ?_
 refine TL.nil (TQ.thenN (hY4 _ _ ?_))
 refine TW.seq fun Y5 hY5 => ?_
 refine TW.cond rfl (fun hc0 => ?_) (fun hc0 => ?_)
 try simp only [zcb9] at hc0
 have hkn : k < 8 := by omega
 have hdv : s / 2 ^ k ≤ 255 := Nat.le_trans (Nat.div_le_self _ _) h8
 refine TW.skip ?_
 refine TQ.thenN (hY5 _ _ ?_)
 refine TW.seq fun Y6 hY6 => ?_
 refine TW.block ?_
 refine TW.seq fun Y7 hY7 => TW.region ?_
 refine TL.p Pu.mv ?_
 refine TL.p Pu.as ?_
 refine TL.nil (TQ.thenN (hY7 _ _ ?_))
 refine TW.seq fun Y8 hY8 => TW.region ?_
 refine TL.p Pu.mv ?_
 refine TL.p Pu.mv ?_
 refine TL.p (Pu.srN (b := s) (i := k)) ?_
 refine TL.p (Pu.an1 (m := s / 2 ^ k)) ?_
 refine TL.p Pu.eq ?_
 refine TL.nil (TQ.thenN (hY8 _ _ ?_))
 refine TW.cond rfl (fun hc1 => ?_) (fun hc1 => ?_)
 try simp only [zcb9] at hc1
 have hb : s / 2 ^ k % 2 = 0 := by omega
 have hst : ∀ j, onK g s (k + 1) j = if j = k then -1 else onK g s k j := fun j => by
  unfold onK
  by_cases e : j = k
  subst e; rw [if_pos ⟨by omega, hb⟩, if_pos rfl]
  rw [if_neg e]
  by_cases e2 : j < k ∧ s / 2 ^ j % 2 = 0
  rw [if_pos e2, if_pos ⟨by omega, e2.2⟩]
  rw [if_neg e2, if_neg (fun h => e2 ⟨by omega, h.2⟩)]
 refine TW.region ?_
 refine TL.p Pu.mv ?_
 refine TL.p (Pu.ea (q := k) oct8 (hk := Int.toNat_natCast _)) ?_
 first | refine TL.st ty_sz3 ?_ | refine TL.se ty_sz3 ?_
 refine TL.nil ?_
 refine TQ.blkN ?_
 refine TQ.thenN (hY6 _ _ ?_)
 refine TW.region ?_
 refine TL.p Pu.ad ?_
 refine TL.p Pu.mv ?_
 refine TL.nil ?_
 refine TQ.thenN (hZ0 (k + 1) _ _ ?_ ?_ fs9 ?_)
 exact (by omega)
 exact zom9
 exact KSub.own pk9 (fun j _ => by first | (simp only [updR]; rw [hst j]; by_cases h9 : j = k <;> simp [h9]; done) | rw [hst j]) (KSub.cons pk9 KSub.nil)
 try simp only [zcb9] at hc1
 have hb : ¬ s / 2 ^ k % 2 = 0 := by omega
 have hst : ∀ j, onK g s (k + 1) j = onK g s k j := fun j => by
  unfold onK
  by_cases e2 : j < k ∧ s / 2 ^ j % 2 = 0
  rw [if_pos e2, if_pos ⟨by omega, e2.2⟩]
  rw [if_neg e2, if_neg (fun h => by
   by_cases e : j = k
   subst e; exact hb h.2
   exact e2 ⟨by omega, h.2⟩)]
 refine TW.skip ?_
 refine TQ.blkN ?_
 refine TQ.thenN (hY6 _ _ ?_)
 refine TW.region ?_
 refine TL.p Pu.ad ?_
 refine TL.p Pu.mv ?_
 refine TL.nil ?_
 refine TQ.thenN (hZ0 (k + 1) _ _ ?_ ?_ fs9 ?_)
 exact (by omega)
 exact zom9
 exact KSub.own pk9 (fun j _ => by first | (simp only [updR]; rw [hst j]; by_cases h9 : j = k <;> simp [h9]; done) | rw [hst j]) (KSub.cons pk9 KSub.nil)
 try simp only [zcb9] at hc0
 obtain rfl : k = 8 := by omega
 refine TW.exit ?_
 refine TQ.thenX ?_
 refine TQ.thenX ?_
 refine TQ.blkX ?_
 refine TQ.thenN (hY2 _ _ ?_)
 refine TW.seq fun Y9 hY9 => TW.region ?_
 refine TL.bo (b := b1) (cs := octL (onK g s 8)) pk9 rfl ?_
 refine TL.p (Pu.lds ty_ag108) ?_
 first | refine TL.st ty_sz108 ?_ | refine TL.se ty_sz108 ?_
 refine TL.nil (TQ.thenN (hY9 _ _ ?_))
 refine TW.ret ?_
 refine TQ.ret Tryz.results115 rfl ((RV.cs ty_ag108 .nil)) ?_
 exact fun w hw => Ret.of hw
theorem eqInt9 (d : Nat) (i j : Int) (w : World) : (Op.equalIn (d + 1) 3 (.int .i64 i) (.int .i64 j)).run Tryz.prog w = .ok (decide (i = j)) w := by
 simp only [Op.equalIn, Sem.run_bind, run_underlying Tryz.underlying3, Result.andThen_ok, if_true, Sem.run_pure]
 simp
 rw [Bool.eq_iff_iff, beq_iff_eq, decide_eq_true_eq]
theorem oct_at {f : Nat → Int} {k : Nat} (hk : k < 8) : (octL f).toArray[k * 1]? = some (.int .i64 (f k)) := by
 rcases (by omega : k = 0 ∨ k = 1 ∨ k = 2 ∨ k = 3 ∨ k = 4 ∨ k = 5 ∨ k = 6 ∨ k = 7) with rfl | rfl | rfl | rfl | rfl | rfl | rfl | rfl <;> rfl
theorem eqItems8 (d : Nat) (f g : Nat → Int) (w : World) : ∀ ks : List Nat, (∀ k ∈ ks, k < 8) → (Op.eqItems (d + 1) 3 1 (octL f).toArray (octL g).toArray ks).run Tryz.prog w = .ok (ks.all fun k => decide (f k = g k)) w
 | [], _ => by simp [Op.eqItems]
 | k :: ks, h => by
  have hp : Tryz.prog.plainKey 3 = true := by kernel_rfl
  have ih := eqItems8 d f g w ks fun q hq => h q (by simp [hq])
  have hk := h k (by simp)
  simp only [Op.eqItems, Sem.run_bind, run_part_plain w hp (oct_at (f := f) hk), run_part_plain w hp (oct_at (f := g) hk), Result.andThen_ok, eqInt9, List.all_cons]
  by_cases e : f k = g k
  · simp [e, ih]
  · simp [e]
theorem eqOct (d : Nat) (f g : Nat → Int) (w : World) : (Op.equalIn (d + 2) 108 (.agg (octL f).toArray) (.agg (octL g).toArray)).run Tryz.prog w = .ok (allB 8 fun k => decide (f k = g k)) w := by
 obtain ⟨k, z, hk, _⟩ := (ty_et33 : ElemT Tryz.prog 33 3 1 8).hi
 refine (run_equalIn_array w (d + 1) _ _ Tryz.underlying108 hk).trans ?_
 have hc : Tryz.prog.cellsOf 3 = 1 := by kernel_rfl
 rw [hc, eqItems8 d f g w (List.range 8) (fun k hk => List.mem_range.1 hk)]
 rfl
theorem eqSigns (x y : Operand) (f g : Nat → Int) (w : World) : (do eqGuard .eql 108 x y (.agg (octL f).toArray) (.agg (octL g).toArray); binOp .eql 108 (.agg (octL f).toArray) (.agg (octL g).toArray) : Sem Value).run Tryz.prog w = .ok (.bool (allB 8 fun k => decide (f k = g k))) w := by
 have h := eqOct 9998 f g w
 go_simp
set_option maxRecDepth 100000 in
set_option maxHeartbeats 2000000 in
theorem told_any {H : Hd} {A : Option Addr} {cp at_ s : Nat} {x : OpX} {w : World} (hk : HOk H) (hW : HwIn w H A cp x) (ha : at_ < H.n) (h8 : s ≤ 255) : Calls Tryz.prog 72 #[.pointer (some ⟨x.1.1, 0, none⟩), .int .i64 (at_ : Int), .int .i64 (s : Int)] w (Ret w (.bool (toldB H at_ s))) := by
 have hoB := hW.oB
 have hoK := hW.oK
 have h16 := hk.n16
 refine K_enter (S := []) (K := []) Tryz.func72 rfl Tryz.ntmps72 rfl (Sat.start _) ?_
 refine TW.seq fun Y1 hY1 => TW.region ?_
 refine TL.p Pu.as ?_
 refine TL.nil (TQ.thenN (hY1 _ _ ?_))
 refine TW.seq fun Y2 hY2 => ?_
 refine TW.seq fun Y3 hY3 => TW.region ?_
 refine TL.p Pu.mv ?_
 refine TL.p (by first | exact Pu.nn | exact Pu.nc) ?_
 refine TL.p (by first | exact Pu.fb ty_fa106_3 | exact Pu.fe ty_fa106_3) ?_
 refine TL.p (Pu.ldo ty_sc104) ?_
 refine TL.p (Pu.ln Tryz.underlying104) ?_
 refine TL.p Pu.mv ?_
 refine TL.nil (TQ.thenN (hY3 _ _ ?_))
 refine TW.block ?_
 refine TW.loop1 (fun (k : Nat) => [(14, .int .i64 (k : Int)), (13, .int .i64 (H.n : Int)), (12, .slice x.2.2.1 H.n x.2.2.2), (0, .pointer (some ⟨x.1.1, 0, none⟩)), (1, .int .i64 (at_ : Int)), (2, .int .i64 (s : Int))]) (fun k => []) (fun k => k ≤ H.n ∧ ∀ j, j < k → j = at_ ∨ smB H at_ j s = false) (fun k => H.n - k) 0 fs9 ?_ ?_ ?_
 exact ks9
 exact ⟨Nat.zero_le _, fun j hj => by omega⟩
 rintro k ⟨hkn, hall⟩ Z0 hZ0
 refine TW.seq fun Y4 hY4 => TW.region ?_
 refine TL.p Pu.lt ?_
 refine TL.nil (TQ.thenN (hY4 _ _ ?_))
 refine TW.seq fun Y5 hY5 => ?_
 refine TW.cond rfl (fun hc0 => ?_) (fun hc0 => ?_)
 try simp only [zcb9] at hc0
 have hki : k < H.n := by omega
 have hsg : ∀ q, q < 8 → 0 ≤ sgH H k q ∧ 0 ≤ sgH H at_ q := fun q _ => ⟨(sg_bd hk hki).1, (sg_bd hk ha).1⟩
 refine TW.skip ?_
 refine TQ.thenN (hY5 _ _ ?_)
 refine TW.seq fun Y6 hY6 => ?_
 refine TW.block ?_
 refine TW.seq fun Y7 hY7 => TW.region ?_
 refine TL.p Pu.mv ?_
 refine TL.p (Pu.el ty_et104) ?_
 refine TL.p (Pu.lds ty_ag108) ?_
 refine TL.m (Mk.al ty_zr108) ?_
 intro b1
 refine TL.p Pu.as ?_
 first | refine TL.st ty_sz108 ?_ | refine TL.se ty_sz108 ?_
 refine TL.nil (TQ.thenN (hY7 _ _ ?_))
 refine TW.seq fun Y8 hY8 => ?_
 refine TW.join [(36, .bool (!decide (k = at_) && smB H at_ k s))] ?_ (fun hJ1 => ?_)
 refine TQ.thenN (hY8 _ _ ?_)
 refine TW.cond rfl (fun hc1 => ?_) (fun hc1 => ?_)
 try simp only [zcb9] at hc1
 have hne : ¬ k = at_ := by simpa using hc1.1
 have hsm : smB H at_ k s = true := hc1.2
 refine TW.seq fun Y9 hY9 => TW.region ?_
 refine TL.p Pu.as ?_
 refine TL.nil (TQ.thenN (hY9 _ _ ?_))
 refine TW.ret ?_
 refine TQ.blkR ?_
 refine TQ.thenR ?_
 refine TQ.thenR ?_
 refine TQ.blkR ?_
 refine TQ.thenR ?_
 refine TQ.ret Tryz.results72 rfl ((.tmp rfl .nil)) ?_
 exact fun w hw => ⟨ret_bool (by
  cases hm : toldB H at_ s with
  | false => rfl
  | true =>
   have := allB_iff.1 hm k hki
   rw [hsm, decide_eq_false hne] at this; cases this), Chg.ext hw.chg⟩
 try simp only [zcb9] at hc1
 have hok : k = at_ ∨ smB H at_ k s = false := by simpa using hc1
 refine TW.skip ?_
 refine TQ.blkN ?_
 refine TQ.thenN (hY6 _ _ ?_)
 refine TW.region ?_
 refine TL.p Pu.ad ?_
 refine TL.p Pu.mv ?_
 refine TL.nil ?_
 refine TQ.thenN (hZ0 (k + 1) _ _ ?_ ?_ fs9 ?_)
 refine ⟨by omega, fun j hj => ?_⟩
 by_cases e : j = k
 subst e; exact hok
 exact hall j (by omega)
 exact zom9
 exact ks9
 refine TW.dw 18 ?_
 refine RK.tk Pu.mv ?_
 refine RK.tk Pu.mv ?_
 refine RK.tk Pu.ne ?_
 refine RK.tk Pu.mv ?_
 refine RK.guard (t := 22) rfl (fun hg1 => ?_) (fun hg1 => ?_)
 try simp only [zgb9] at hg1
 refine RK.tk (Pu.lds ty_ag108) ?_
 refine RK.tk Pu.mv ?_
 refine RK.keep ?_
 refine RK.tk Pu.mv ?_
 refine RK.tk (by first | exact Pu.nn | exact Pu.nc) ?_
 refine RK.tk (by first | exact Pu.fb ty_fa106_3 | exact Pu.fe ty_fa106_3) ?_
 refine RK.tk (Pu.ldo ty_sc104) ?_
 refine RK.tk Pu.mv ?_
 refine RK.tk (Pu.el ty_et104) ?_
 refine RK.tk (Pu.lds ty_ag108) ?_
 refine RK.tk Pu.mv ?_
 refine RK.keep ?_
 refine RK.keep ?_
 refine RK.keep ?_
 refine RK.ch [false, false, true, true] ?_ trivial
 refine WK.cr rfl (enters Tryz.func115 rfl rfl) (fun w hw => by
   exact on_any h8) ?_
 refine WK.cr rfl (enters Tryz.func115 rfl rfl) (fun w hw => by
   exact on_any h8) ?_
 refine WK.p (Pu.bn (r := .bool (smB H at_ k s)) rfl rfl (fun w => by rw [← on_eq hsg]; exact eqSigns _ _ _ _ w)) ?_
 refine WK.p Pu.kt ?_
 refine WK.n ?_
 refine TL.nil ?_
 exact TQ.sub (by repeat (first | exact trivial | refine ⟨rfl, ?_⟩ | refine ⟨trivial, ?_⟩ | refine ⟨(by show some (Value.bool _) = some (Value.bool _); first | (simp [hg1]; done) | (refine congrArg (fun z => some (Value.bool z)) (Bool.eq_iff_iff.2 ?_); simp [hg1]; omega)), ?_⟩)) ks9 hJ1
 try simp only [zgb9] at hg1
 refine RK.s ?_
 refine RK.s ?_
 refine RK.keep ?_
 refine RK.s ?_
 refine RK.s ?_
 refine RK.s ?_
 refine RK.s ?_
 refine RK.s ?_
 refine RK.s ?_
 refine RK.s ?_
 refine RK.s ?_
 refine RK.keep ?_
 refine RK.keep ?_
 refine RK.keep ?_
 refine RK.ch [false, false, true, true] ?_ trivial
 refine WK.gs ?_
 refine WK.gs ?_
 refine WK.ps ?_
 refine WK.p Pu.kf ?_
 refine WK.n ?_
 refine TL.nil ?_
 exact TQ.sub (by repeat (first | exact trivial | refine ⟨rfl, ?_⟩ | refine ⟨trivial, ?_⟩ | refine ⟨(by show some (Value.bool _) = some (Value.bool _); first | (simp [hg1]; done) | (refine congrArg (fun z => some (Value.bool z)) (Bool.eq_iff_iff.2 ?_); simp [hg1]; omega)), ?_⟩)) ks9 hJ1
 try simp only [zcb9] at hc0
 obtain rfl : k = H.n := by omega
 refine TW.exit ?_
 refine TQ.thenX ?_
 refine TQ.thenX ?_
 refine TQ.blkX ?_
 refine TQ.thenN (hY2 _ _ ?_)
 refine TW.seq fun Y10 hY10 => TW.region ?_
 refine TL.p Pu.as ?_
 refine TL.nil (TQ.thenN (hY10 _ _ ?_))
 refine TW.ret ?_
 refine TQ.ret Tryz.results72 rfl ((.tmp rfl .nil)) ?_
 exact fun w hw => ⟨ret_bool (allB_iff.2 fun j hj => by
  rcases hall j (by omega) with e | e
  rw [decide_eq_true e]; rfl
  rw [e]; simp), Chg.ext hw.chg⟩
set_option maxRecDepth 100000 in
set_option maxHeartbeats 4000000 in
theorem bTell_any {w : World} {A : Option Addr} {cp : Nat} {H : Hd} {a : Nat → Option Addr} {c : Nat → Nat} {id : Int} (hI : HIn w A H a c) :
  CallsK Tryz.prog 20 #[.slice A H.n cp, .int .i64 id] [] w (Option Addr × Nat) (fun y => .tuple #[.slice y.1 (telL H id).length y.2, .int .i64 (telC H id)]) (fun y => [.own y.1 (telL H id).length y.2 3 1 (iL (telL H id))]) := by
 have hbad : ¬ telC H id = 0 → telL H id = [] := fun h => if_neg h
 cases hh : herdB H with
 | false =>
  have hc : telC H id = 20 := by unfold telC; rw [hh]; rfl
  have hN := hbad (by rw [hc]; decide)
  refine K_enter (S := []) (K := []) Tryz.func20 rfl Tryz.ntmps20 rfl (Sat.start _) ?_
  refine TW.seq fun Y1 hY1 => TW.region ?_
  refine TL.p Pu.as ?_
  refine TL.p Pu.as ?_
  refine TL.nil (TQ.thenN (hY1 _ _ ?_))
  refine TW.seq fun Y2 hY2 => TW.region ?_
  refine TL.p Pu.mv ?_
  refine TL.call (M := []) rfl (enters Tryz.func71 rfl rfl) (List.Perm.refl _) rfl (fun w hw => by
    have h9 := open_any (cp := cp) (hI.sat hw)
    rw [hh] at h9
    exact h9) ?_
  rintro xo
  refine TL.p Pu.mv ?_
  refine TL.p Pu.ex ?_
  refine TL.p Pu.ex ?_
  refine TL.p Pu.as ?_
  refine TL.p Pu.as ?_
  refine TL.nil (TQ.thenN (hY2 _ _ ?_))
  refine TW.seq fun Y3 hY3 => ?_
  refine TW.seq fun Y4 hY4 => TW.region ?_
  refine TL.p Pu.mv ?_
  refine TL.p Pu.ne ?_
  refine TL.nil (TQ.thenN (hY4 _ _ ?_))
  refine TW.condT rfl (rfl) ?_
  refine TW.seq fun Y5 hY5 => TW.region ?_
  refine TL.p Pu.mv ?_
  refine TL.p Pu.as ?_
  refine TL.p Pu.as ?_
  refine TL.nil (TQ.thenN (hY5 _ _ ?_))
  refine TW.ret ?_
  refine TQ.thenR ?_
  refine TQ.ret Tryz.results20 rfl ((.tmp rfl (.tmp rfl .nil))) ?_
  exact fun w hw => ⟨(none, 0), by simp only [hN, hc]; rfl, by simp only [hN]; exact hw.sub (KSub.nilOwn KSub.nil)⟩
 | true =>
  have hk := herdB_ok.1 hh
  have h16 := hk.n16
  obtain ⟨i, hi9⟩ : ∃ i, i = (atH H id).toNat := ⟨_, rfl⟩
  refine K_enter (S := []) (K := []) Tryz.func20 rfl Tryz.ntmps20 rfl (Sat.start _) ?_
  refine TW.seq fun Y1 hY1 => TW.region ?_
  refine TL.p Pu.as ?_
  refine TL.p Pu.as ?_
  refine TL.nil (TQ.thenN (hY1 _ _ ?_))
  refine TW.seq fun Y2 hY2 => TW.region ?_
  refine TL.p Pu.mv ?_
  refine TL.call (M := []) rfl (enters Tryz.func71 rfl rfl) (List.Perm.refl _) rfl (fun w hw => by
    have h9 := open_any (cp := cp) (hI.sat hw)
    rw [hh] at h9
    exact h9) ?_
  rintro xo
  simp only [if_true, opK, List.cons_append, List.nil_append]
  refine TL.p Pu.mv ?_
  refine TL.p Pu.ex ?_
  refine TL.p Pu.ex ?_
  refine TL.p Pu.as ?_
  refine TL.p Pu.as ?_
  refine TL.nil (TQ.thenN (hY2 _ _ ?_))
  refine TW.seq fun Y3 hY3 => ?_
  refine TW.seq fun Y4 hY4 => TW.region ?_
  refine TL.p Pu.mv ?_
  refine TL.p Pu.ne ?_
  refine TL.nil (TQ.thenN (hY4 _ _ ?_))
  refine TW.condF rfl (rfl) ?_
  refine TW.skip ?_
  refine TQ.thenN (hY3 _ _ ?_)
  refine TW.seq fun Y5 hY5 => TW.region ?_
  refine TL.p Pu.mv ?_
  refine TL.p (by first | exact Pu.nn | exact Pu.nc) ?_
  refine TL.p (by first | exact Pu.fb ty_fa106_1 | exact Pu.fe ty_fa106_1) ?_
  refine TL.p (Pu.ld ty_sc60) ?_
  refine TL.p Pu.mv ?_
  refine TL.p (Pu.lkV (.int .i64 (i : Int)) (decide (0 ≤ atH H id)) ty_mp60 ty_zv3 (hi9 ▸ pl_n) pl_s) ?_
  refine TL.p Pu.mv ?_
  refine TL.p Pu.ex ?_
  refine TL.p Pu.ex ?_
  refine TL.p Pu.as ?_
  refine TL.p Pu.as ?_
  refine TL.nil (TQ.thenN (hY5 _ _ ?_))
  refine TW.seq fun Y6 hY6 => ?_
  refine TW.seq fun Y7 hY7 => TW.region ?_
  refine TL.p Pu.mv ?_
  refine TL.p Pu.no ?_
  refine TL.nil (TQ.thenN (hY7 _ _ ?_))
  refine TW.cond rfl (fun hc1 => ?_) (fun hc1 => ?_)
  try simp only [zcb9] at hc1
  have hc : telC H id = 2 := by unfold telC; rw [hh, if_pos rfl, if_neg (by omega)]
  have hN := hbad (by rw [hc]; decide)
  refine TW.seq fun Y8 hY8 => TW.region ?_
  refine TL.p Pu.as ?_
  refine TL.p Pu.as ?_
  refine TL.nil (TQ.thenN (hY8 _ _ ?_))
  refine TW.ret ?_
  refine TQ.thenR ?_
  refine TQ.ret Tryz.results20 rfl ((.tmp rfl (.tmp rfl .nil))) ?_
  exact fun w hw => ⟨(none, 0), by simp only [hN, hc]; rfl, by simp only [hN]; exact hw.sub (KSub.nilOwn KSub.nil)⟩
  try simp only [zcb9] at hc1
  have hat : 0 ≤ atH H id := hc1
  have hc : telC H id = if toldB H i 255 then 0 else 6 := by unfold telC; rw [hh, if_pos rfl, if_pos hat, hi9]
  obtain ⟨hil, hie⟩ := at_lt hat
  rw [← hi9] at hil hie
  refine TW.skip ?_
  refine TQ.thenN (hY6 _ _ ?_)
  refine TW.seq fun Y9 hY9 => ?_
  refine TW.seq fun Y10 hY10 => TW.region ?_
  refine TL.p Pu.mv ?_
  refine TL.p Pu.mv ?_
  refine TL.cr rfl (enters Tryz.func72 rfl rfl) (fun w hw => by
    exact told_any (x := xo) hk (opK_in (A := A) (cp := cp) (x := xo) hw (by intro φ h; first | exact h | (simp only [opK, List.mem_cons] at h ⊢; simp at h ⊢; first | exact h | exact .inr h | exact .inr (.inr h) | exact .inr (.inr (.inr h)) | exact .inr (.inr (.inr (.inr h)))))) hil (by decide)) ?_
  refine TL.p Pu.no ?_
  refine TL.nil (TQ.thenN (hY10 _ _ ?_))
  refine TW.cond rfl (fun hc2 => ?_) (fun hc2 => ?_)
  try simp only [zcb9] at hc2
  have hc8 : telC H id = 6 := by rw [hc, hc2]; rfl
  have hN := hbad (by rw [hc8]; decide)
  refine TW.seq fun Y11 hY11 => TW.region ?_
  refine TL.p Pu.as ?_
  refine TL.p Pu.as ?_
  refine TL.nil (TQ.thenN (hY11 _ _ ?_))
  refine TW.ret ?_
  refine TQ.thenR ?_
  refine TQ.ret Tryz.results20 rfl ((.tmp rfl (.tmp rfl .nil))) ?_
  exact fun w hw => ⟨(none, 0), by simp only [hN, hc8]; rfl, by simp only [hN]; exact hw.sub (KSub.nilOwn KSub.nil)⟩
  try simp only [zcb9] at hc2
  have hc8 : telC H id = 0 := by rw [hc, hc2]; rfl
  have hN : telL H id = (telK H i 256).1 := by unfold telL; rw [if_pos hc8, hi9]
  refine TW.skip ?_
  refine TQ.thenN (hY9 _ _ ?_)
  refine TW.seq fun Y12 hY12 => TW.region ?_
  refine TL.p Pu.as ?_
  refine TL.nil (TQ.thenN (hY12 _ _ ?_))
  refine TW.seq fun Y13 hY13 => TW.region ?_
  refine TL.p Pu.as ?_
  refine TL.nil (TQ.thenN (hY13 _ _ ?_))
  refine TW.seq fun Y14 hY14 => ?_
  refine TW.seq fun Y15 hY15 => TW.region ?_
  refine TL.p Pu.mv ?_
  refine TL.nil (TQ.thenN (hY15 _ _ ?_))
  refine TW.block ?_
  refine TW.loop5 (fun (k : Nat) (Ab : Option Addr) (cb : Nat) (M : List Int) (m : Nat) => [(38, .int .i64 (k : Int)), (10, .slice Ab m cb), (11, .int .i64 ((telK H i k).2 : Int)), (6, .pointer (some ⟨xo.1.1, 0, none⟩)), (8, .int .i64 (i : Int))]) (fun k Ab cb M m => .own Ab m cb 3 1 (iL M) :: .blk xo.1.1 106 [.slice A H.n cp, .map (some xo.1.2), .slice xo.2.1.1 H.n xo.2.1.2, .slice xo.2.2.1 H.n xo.2.2.2] :: .obj xo.1.2 (mapO .i64 (plM H H.n)) :: .own xo.2.1.1 H.n xo.2.1.2 3 1 (fun j => [.int .i64 (moH H j)]) :: .own xo.2.2.1 H.n xo.2.2.2 108 8 (fun j => octL (sgH H j)) :: []) (fun k Ab cb M m => k ≤ 256 ∧ M = (telK H i k).1 ∧ m = M.length) (fun k Ab cb M m => 256 - k) 0 none 0 [] 0 fs9 ?_ ?_ ?_
  exact KSub.nilOwn ks9
  exact ⟨Nat.zero_le _, rfl, rfl⟩
  rintro k Ab cb M m ⟨hk256, hM, hm⟩ Z0 hZ0
  obtain ⟨ht1, ht2⟩ := telK_len (H := H) (at_ := i) k
  have hm9 : m ≤ 8 := by rw [hm, hM]; exact ht1
  obtain ⟨fw, hfw⟩ : ∃ fw : Int, fw = ((telK H i k).2 : Int) := ⟨_, rfl⟩
  rw [← hfw]
  refine TW.seq fun Y16 hY16 => TW.region ?_
  refine TL.p Pu.lt ?_
  refine TL.nil (TQ.thenN (hY16 _ _ ?_))
  refine TW.seq fun Y17 hY17 => ?_
  refine TW.cond rfl (fun hc3 => ?_) (fun hc3 => ?_)
  try simp only [zcb9] at hc3
  have hkn : k < 256 := by omega
  refine TW.skip ?_
  refine TQ.thenN (hY17 _ _ ?_)
  refine TW.seq fun Y18 hY18 => ?_
  refine TW.block ?_
  refine TW.seq fun Y19 hY19 => TW.region ?_
  refine TL.p Pu.mv ?_
  refine TL.p Pu.as ?_
  refine TL.nil (TQ.thenN (hY19 _ _ ?_))
  refine TW.seq fun Y20 hY20 => TW.region ?_
  refine TL.p Pu.as ?_
  refine TL.nil (TQ.thenN (hY20 _ _ ?_))
  refine TW.seq fun Y21 hY21 => ?_
  refine TW.seq fun Y22 hY22 => TW.region ?_
  refine TL.p Pu.mv ?_
  refine TL.nil (TQ.thenN (hY22 _ _ ?_))
  refine TW.block ?_
  refine TW.loop5 (fun (q : Nat) (Al : Option Addr) (cl : Nat) (P : List Int) (n : Nat) => [(41, .int .i64 (q : Int)), (13, .slice Al n cl), (12, .int .i64 (k : Int)), (38, .int .i64 (k : Int)), (10, .slice Ab m cb), (11, .int .i64 fw), (6, .pointer (some ⟨xo.1.1, 0, none⟩)), (8, .int .i64 (i : Int))]) (fun q Al cl P n => .own Al n cl 3 1 (iL P) :: .own Ab m cb 3 1 (iL M) :: .blk xo.1.1 106 [.slice A H.n cp, .map (some xo.1.2), .slice xo.2.1.1 H.n xo.2.1.2, .slice xo.2.2.1 H.n xo.2.2.2] :: .obj xo.1.2 (mapO .i64 (plM H H.n)) :: .own xo.2.1.1 H.n xo.2.1.2 3 1 (fun j => [.int .i64 (moH H j)]) :: .own xo.2.2.1 H.n xo.2.2.2 108 8 (fun j => octL (sgH H j)) :: []) (fun q Al cl P n => q ≤ 8 ∧ P = spK k q ∧ n = P.length) (fun q Al cl P n => 8 - q) 0 none 0 [] 0 fs9 ?_ ?_ ?_
  exact KSub.nilOwn ks9
  exact ⟨Nat.zero_le _, rfl, rfl⟩
  rintro q Al cl P n ⟨hq8, hP, hn⟩ Z1 hZ1
  have hn9 : n ≤ 8 := by have := spK_len (s := k) q; rw [hn, hP]; omega
  have hdv : k / 2 ^ q ≤ 256 := Nat.le_trans (Nat.div_le_self _ _) hk256
  refine TW.seq fun Y23 hY23 => TW.region ?_
  refine TL.p Pu.lt ?_
  refine TL.nil (TQ.thenN (hY23 _ _ ?_))
  refine TW.seq fun Y24 hY24 => ?_
  refine TW.cond rfl (fun hc4 => ?_) (fun hc4 => ?_)
  try simp only [zcb9] at hc4
  have hqn : q < 8 := by omega
  refine TW.skip ?_
  refine TQ.thenN (hY24 _ _ ?_)
  refine TW.seq fun Y25 hY25 => ?_
  refine TW.block ?_
  refine TW.seq fun Y26 hY26 => TW.region ?_
  refine TL.p Pu.mv ?_
  refine TL.p Pu.as ?_
  refine TL.nil (TQ.thenN (hY26 _ _ ?_))
  refine TW.seq fun Y27 hY27 => TW.region ?_
  refine TL.p Pu.mv ?_
  refine TL.p Pu.mv ?_
  refine TL.p (Pu.srN (b := k) (i := q)) ?_
  refine TL.p (Pu.an1 (m := k / 2 ^ q)) ?_
  refine TL.p Pu.eq ?_
  refine TL.nil (TQ.thenN (hY27 _ _ ?_))
  refine TW.cond rfl (fun hc5 => ?_) (fun hc5 => ?_)
  try simp only [zcb9] at hc5
  have hb : k / 2 ^ q % 2 = 1 := by omega
  have hst : spK k (q + 1) = P ++ [(q : Int)] := by rw [hP]; exact if_pos hb
  have hlen9 : n + 1 = (spK k (q + 1)).length := by rw [hst, List.length_append, ← hn]; rfl
  refine TW.region ?_
  refine TL.p Pu.mv ?_
  refine TL.p Pu.mv ?_
  refine TL.m Mk.bl ?_
  intro b1
  first | refine TL.a0 ty_et33 ?_ | refine TL.ap ty_et33 ?_
  intro A2 c2
  refine TL.p Pu.as ?_
  refine TL.nil ?_
  refine TQ.blkN ?_
  refine TQ.thenN (hY25 _ _ ?_)
  refine TW.region ?_
  refine TL.p Pu.ad ?_
  refine TL.p Pu.mv ?_
  refine TL.nil ?_
  refine TQ.thenN (hZ1 (q + 1) _ _ (spK k (q + 1)) _ _ _ ?_ ?_ fs9 ?_)
  exact ⟨by omega, rfl, hlen9⟩
  exact zom9
  first
   | exact KSub.own Pick.hd (iL_app hn hst rfl) ks9
   | exact KSub.own pk9 (fun i _ => by rw [hst]) ks9
  try simp only [zcb9] at hc5
  have hb : ¬ k / 2 ^ q % 2 = 1 := by omega
  have hst : spK k (q + 1) = P := by rw [hP]; exact if_neg hb
  have hlen9 : n = (spK k (q + 1)).length := by rw [hst, ← hn]
  refine TW.skip ?_
  refine TQ.blkN ?_
  refine TQ.thenN (hY25 _ _ ?_)
  refine TW.region ?_
  refine TL.p Pu.ad ?_
  refine TL.p Pu.mv ?_
  refine TL.nil ?_
  refine TQ.thenN (hZ1 (q + 1) _ _ (spK k (q + 1)) _ _ _ ?_ ?_ fs9 ?_)
  exact ⟨by omega, rfl, hlen9⟩
  exact zom9
  first
   | exact KSub.own Pick.hd (iL_app hn hst rfl) ks9
   | exact KSub.own pk9 (fun i _ => by rw [hst]) ks9
  try simp only [zcb9] at hc4
  obtain rfl : q = 8 := by omega
  refine TW.exit ?_
  refine TQ.thenX ?_
  refine TQ.thenX ?_
  refine TQ.blkX ?_
  refine TQ.thenN (hY21 _ _ ?_)
  refine TW.seq fun Y28 hY28 => ?_
  refine TW.join [(75, .bool (decide ((n : Int) ≤ fw) && (decide ((n : Int) < fw) || decide (cmpI P M < 0)) && toldB H i k))] ?_ (fun hJ1 => ?_)
  refine TQ.thenN (hY28 _ _ ?_)
  refine TW.cond rfl (fun hc6 => ?_) (fun hc6 => ?_)
  try simp only [zcb9] at hc6
  have hst : telK H i (k + 1) = (P, n) := by
   have e : (decide ((spK k 8).length ≤ (telK H i k).2) && (decide ((spK k 8).length < (telK H i k).2) || decide (cmpI (spK k 8) (telK H i k).1 < 0)) && toldB H i k) = true := by
    rw [← hP, ← hM, ← hn]
    simp only [Bool.and_eq_true, Bool.or_eq_true, decide_eq_true_eq]
    exact ⟨⟨by omega, hc6.1.2.imp_left (by omega)⟩, hc6.2⟩
   rw [telK, if_pos e, ← hP, ← hn]
  refine TW.region ?_
  refine TL.p Pu.mv ?_
  refine TL.p Pu.mv ?_
  refine TL.p (Pu.ln Tryz.underlying33) ?_
  refine TL.p Pu.as ?_
  refine TL.p Pu.as ?_
  refine TL.nil ?_
  refine TQ.blkN ?_
  refine TQ.thenN (hY18 _ _ ?_)
  refine TW.region ?_
  refine TL.p Pu.ad ?_
  refine TL.p Pu.mv ?_
  refine TL.nil ?_
  refine TQ.thenN (hZ0 (k + 1) _ _ (telK H i (k + 1)).1 _ _ _ ?_ ?_ (by rw [hst]; (repeat (first | exact trivial | refine ⟨rfl, ?_⟩ | refine ⟨(congrArg (fun z => some (Value.int .i64 z)) hfw), ?_⟩ | refine ⟨trivial, ?_⟩))) ?_)
  exact ⟨by omega, rfl, by rw [hst]; assumption⟩
  exact zom9
  rw [hst]
  exact KSub.cons pk9 ks9
  try simp only [zcb9] at hc6
  have hst : telK H i (k + 1) = (M, (telK H i k).2) := by
   have e : ¬ (decide ((spK k 8).length ≤ (telK H i k).2) && (decide ((spK k 8).length < (telK H i k).2) || decide (cmpI (spK k 8) (telK H i k).1 < 0)) && toldB H i k) = true := by
    rw [← hP, ← hM, ← hn]
    intro e
    simp only [Bool.and_eq_true, Bool.or_eq_true, decide_eq_true_eq] at e
    have e2 := e.1.1
    have e3 := e.1.2
    rcases hc6 with (h | h) | h
    omega
    rcases e3 with e3 | e3 <;> omega
    rw [e.2] at h; cases h
   rw [telK, if_neg e, hM]
  refine TW.skip ?_
  refine TQ.blkN ?_
  refine TQ.thenN (hY18 _ _ ?_)
  refine TW.region ?_
  refine TL.p Pu.ad ?_
  refine TL.p Pu.mv ?_
  refine TL.nil ?_
  refine TQ.thenN (hZ0 (k + 1) _ _ (telK H i (k + 1)).1 _ _ _ ?_ ?_ (by rw [hst]; (repeat (first | exact trivial | refine ⟨rfl, ?_⟩ | refine ⟨(congrArg (fun z => some (Value.int .i64 z)) hfw), ?_⟩ | refine ⟨trivial, ?_⟩))) ?_)
  exact ⟨by omega, rfl, by rw [hst]; assumption⟩
  exact zom9
  rw [hst]
  exact KSub.cons pk9 ks9
  refine TW.region ?_
  refine TL.p Pu.mv ?_
  refine TL.p (Pu.ln Tryz.underlying33) ?_
  refine TL.p Pu.mv ?_
  refine TL.p Pu.le ?_
  refine TL.p Pu.mv ?_
  refine TL.guard (t := 58) rfl (fun hg1 => ?_) (fun hg1 => ?_)
  refine TL.gd Pu.mv ?_
  refine TL.gd (Pu.ln Tryz.underlying33) ?_
  refine TL.gd Pu.mv ?_
  refine TL.gd Pu.lt ?_
  refine TL.gd Pu.mv ?_
  refine TL.guard (t := 63) rfl (fun hg2 => ?_) (fun hg2 => ?_)
  refine TL.gs ?_
  refine TL.gs ?_
  refine TL.gs ?_
  refine TL.gs ?_
  refine TL.gd Pu.kt ?_
  refine TL.p Pu.kt ?_
  refine TL.p Pu.mv ?_
  refine TL.gd Pu.mv ?_
  refine TL.gd Pu.mv ?_
  refine TL.gd Pu.mv ?_
  refine TL.cr rfl (enters Tryz.func72 rfl rfl) (fun w hw => by
    exact told_any (x := xo) hk (opK_in (A := A) (cp := cp) (x := xo) hw (by intro φ h; first | exact h | (simp only [opK, List.mem_cons] at h ⊢; simp at h ⊢; first | exact h | exact .inr h | exact .inr (.inr h) | exact .inr (.inr (.inr h)) | exact .inr (.inr (.inr (.inr h)))))) hil (by omega)) ?_
  refine TL.p Pu.kt ?_
  refine TL.nil ?_
  exact TQ.sub (by repeat (first | exact trivial | refine ⟨rfl, ?_⟩ | refine ⟨trivial, ?_⟩ | refine ⟨(by show some (Value.bool _) = some (Value.bool _); first | (simp [hg1, hg2]; done) | (refine congrArg (fun z => some (Value.bool z)) (Bool.eq_iff_iff.2 ?_); simp [hg1, hg2]; omega)), ?_⟩)) kt9 hJ1
  refine TL.gd Pu.mv ?_
  refine TL.gd Pu.mv ?_
  refine TL.cr rfl (enters Tryz.func73 rfl rfl) (fun w hw => by
    exact compareI_any hn hm (by omega) (by omega) (OwnR.rdr (hw.holds (.own Al n cl 3 1 (iL P)) (Pick.mem pk9))) (OwnR.rdr (hw.holds (.own Ab m cb 3 1 (iL M)) (Pick.mem pk9)))) ?_
  refine TL.gd Pu.lt ?_
  refine TL.gd Pu.kf ?_
  refine TL.p Pu.kt ?_
  refine TL.p Pu.mv ?_
  refine TL.guard (t := 70) rfl (fun hg3 => ?_) (fun hg3 => ?_)
  refine TL.gd Pu.mv ?_
  refine TL.gd Pu.mv ?_
  refine TL.gd Pu.mv ?_
  refine TL.cr rfl (enters Tryz.func72 rfl rfl) (fun w hw => by
    exact told_any (x := xo) hk (opK_in (A := A) (cp := cp) (x := xo) hw (by intro φ h; first | exact h | (simp only [opK, List.mem_cons] at h ⊢; simp at h ⊢; first | exact h | exact .inr h | exact .inr (.inr h) | exact .inr (.inr (.inr h)) | exact .inr (.inr (.inr (.inr h)))))) hil (by omega)) ?_
  refine TL.p Pu.kt ?_
  refine TL.nil ?_
  exact TQ.sub (by repeat (first | exact trivial | refine ⟨rfl, ?_⟩ | refine ⟨trivial, ?_⟩ | refine ⟨(by show some (Value.bool _) = some (Value.bool _); first | (simp [hg1, hg2, hg3]; done) | (refine congrArg (fun z => some (Value.bool z)) (Bool.eq_iff_iff.2 ?_); simp [hg1, hg2, hg3]; omega)), ?_⟩)) kt9 hJ1
  refine TL.gs ?_
  refine TL.gs ?_
  refine TL.gs ?_
  refine TL.gs ?_
  refine TL.p Pu.kf ?_
  refine TL.nil ?_
  exact TQ.sub (by repeat (first | exact trivial | refine ⟨rfl, ?_⟩ | refine ⟨trivial, ?_⟩ | refine ⟨(by show some (Value.bool _) = some (Value.bool _); first | (simp [hg1, hg2, hg3]; done) | (refine congrArg (fun z => some (Value.bool z)) (Bool.eq_iff_iff.2 ?_); simp [hg1, hg2, hg3]; omega)), ?_⟩)) kt9 hJ1
  refine TL.gs ?_
  refine TL.gs ?_
  refine TL.gs ?_
  refine TL.gs ?_
  refine TL.gs ?_
  refine TL.gs ?_
  refine TL.gs ?_
  refine TL.gs ?_
  refine TL.gs ?_
  refine TL.gs ?_
  refine TL.p Pu.kf ?_
  refine TL.p Pu.mv ?_
  refine TL.gs ?_
  refine TL.gs ?_
  refine TL.gs ?_
  refine TL.gs ?_
  refine TL.p Pu.kf ?_
  refine TL.nil ?_
  exact TQ.sub (by repeat (first | exact trivial | refine ⟨rfl, ?_⟩ | refine ⟨trivial, ?_⟩ | refine ⟨(by show some (Value.bool _) = some (Value.bool _); first | (simp [hg1]; done) | (refine congrArg (fun z => some (Value.bool z)) (Bool.eq_iff_iff.2 ?_); simp [hg1]; omega)), ?_⟩)) kt9 hJ1
  try simp only [zcb9] at hc3
  obtain rfl : k = 256 := by omega
  refine TW.exit ?_
  refine TQ.thenX ?_
  refine TQ.thenX ?_
  refine TQ.blkX ?_
  refine TQ.thenN (hY14 _ _ ?_)
  refine TW.seq fun Y29 hY29 => TW.region ?_
  refine TL.p Pu.mv ?_
  refine TL.p Pu.as ?_
  refine TL.p Pu.as ?_
  refine TL.nil (TQ.thenN (hY29 _ _ ?_))
  refine TW.ret ?_
  refine TQ.ret Tryz.results20 rfl ((.tmp rfl (.tmp rfl .nil))) ?_
  exact fun w hw => ⟨(Ab, cb), by rw [hN, hc8, ← hM, ← hm]; rfl, by rw [hN, ← hM, ← hm]; exact hw.sub (KSub.cons pk9 KSub.nil)⟩
end Go.Proofs.YtceokmaddbdnfaaGreat
namespace Go.Proofs.YtceokmaddbdnfaaGreat
set_option linter.all false
set_option linter.unusedVariables false
set_option linter.unusedSimpArgs false
open Go.RowKit
set_option maxRecDepth 100000 in
set_option maxHeartbeats 4000000 in
theorem bFits_any {w : World} {A Al : Option Addr} {cp cl : Nat} {H : Hd} {a : Nat → Option Addr} {c : Nat → Nat} {l : Lk} (hI : HIn w A H a c) (hL : LkIn w l Al) :
  CallsK Tryz.prog 16 #[.slice A H.n cp, .agg (lkL l Al cl).toArray] [] w (Option Addr × Nat) (fun y => .tuple #[.slice y.1 (fitL H l).length y.2, .int .i64 (fitC H l)]) (fun y => [.own y.1 (fitL H l).length y.2 3 1 (iL (fitL H l))]) := by
 have hbad : ¬ fitC H l = 0 → fitL H l = [] := fun h => if_neg h
 unfold lkL
 by_cases hc : livC H = 0
 case neg =>
  have hf : fitC H l = livC H := if_pos hc
  have hf0 := hbad (by rw [hf]; exact hc)
  refine K_enter (S := []) (K := []) Tryz.func16 rfl Tryz.ntmps16 rfl (Sat.start _) ?_
  refine TW.seq fun Y1 hY1 => TW.region ?_
  refine TL.m Mk.bx ?_
  intro b1
  refine TL.p Pu.as ?_
  refine TL.p Pu.as ?_
  refine TL.nil (TQ.thenN (hY1 _ _ ?_))
  refine TW.seq fun Y2 hY2 => TW.region ?_
  refine TL.p Pu.mv ?_
  refine TL.call (M := []) rfl (enters Tryz.func49 rfl rfl) (List.Perm.refl _) rfl (fun w hw => by
    have h9 := lived_any (cp := cp) (hI.sat hw)
    simp only [if_neg hc] at h9
    exact h9) ?_
  rintro ⟨xo, A3, c3⟩
  refine TL.p Pu.mv ?_
  refine TL.p Pu.ex ?_
  refine TL.p Pu.ex ?_
  refine TL.p Pu.ex ?_
  refine TL.p Pu.as ?_
  refine TL.p Pu.as ?_
  refine TL.p Pu.as ?_
  refine TL.nil (TQ.thenN (hY2 _ _ ?_))
  refine TW.seq fun Y3 hY3 => ?_
  refine TW.seq fun Y4 hY4 => TW.region ?_
  refine TL.p Pu.mv ?_
  refine TL.p Pu.ne ?_
  refine TL.nil (TQ.thenN (hY4 _ _ ?_))
  refine TW.condT rfl ((by simpa using hc)) ?_
  refine TW.seq fun Y5 hY5 => TW.region ?_
  refine TL.p Pu.mv ?_
  refine TL.p Pu.as ?_
  refine TL.p Pu.as ?_
  refine TL.nil (TQ.thenN (hY5 _ _ ?_))
  refine TW.ret ?_
  refine TQ.thenR ?_
  refine TQ.ret Tryz.results16 rfl ((.tmp rfl (.tmp rfl .nil))) ?_
  exact fun w hw => ⟨(none, 0), by rw [hf0, hf]; rfl, by rw [hf0]; exact hw.sub (KSub.nilOwn KSub.nil)⟩
 case pos =>
  have hh : herdB H = true := by
   cases hh : herdB H with
   | true => rfl
   | false => unfold livC at hc; rw [hh] at hc; cases hc
  have hk := herdB_ok.1 hh
  have h16 := hk.n16
  have hf9 : fitC H l = if lkB l = true then 0 else 22 := if_neg (fun h => h hc)
  have fS := fun (w' : World) (h1 : LkIn w' l Al) => seen_any (c := cl) h1
  have fA := fun (w' : World) (i : Nat) (h1 : lkB l = true) => age_any (a := (livB H i).1) (b := (livB H i).2) (A := Al) (c := cl) (w := w') h1
  have fB := fun (w' : World) (i : Nat) (hi : i < H.n) (h1 : LkIn w' l Al) (h2 : l.ns = 8) => bears_any (c := cl) hk hi h1 h2
  unfold lkL at fS fA fB
  refine K_enter (S := []) (K := []) Tryz.func16 rfl Tryz.ntmps16 rfl (Sat.start _) ?_
  refine TW.seq fun Y1 hY1 => TW.region ?_
  refine TL.m Mk.bx ?_
  intro b1
  refine TL.p Pu.as ?_
  refine TL.p Pu.as ?_
  refine TL.nil (TQ.thenN (hY1 _ _ ?_))
  refine TW.seq fun Y2 hY2 => TW.region ?_
  refine TL.p Pu.mv ?_
  refine TL.call (M := []) rfl (enters Tryz.func49 rfl rfl) (List.Perm.refl _) rfl (fun w hw => by
    have h9 := lived_any (cp := cp) (hI.sat hw)
    simp only [if_pos hc] at h9
    exact h9) ?_
  rintro ⟨xo, A3, c3⟩
  simp only [opK, List.cons_append, List.nil_append]
  refine TL.p Pu.mv ?_
  refine TL.p Pu.ex ?_
  refine TL.p Pu.ex ?_
  refine TL.p Pu.ex ?_
  refine TL.p Pu.as ?_
  refine TL.p Pu.as ?_
  refine TL.p Pu.as ?_
  refine TL.nil (TQ.thenN (hY2 _ _ ?_))
  refine TW.seq fun Y3 hY3 => ?_
  refine TW.seq fun Y4 hY4 => TW.region ?_
  refine TL.p Pu.mv ?_
  refine TL.p Pu.ne ?_
  refine TL.nil (TQ.thenN (hY4 _ _ ?_))
  refine TW.condF rfl (rfl) ?_
  refine TW.skip ?_
  refine TQ.thenN (hY3 _ _ ?_)
  refine TW.seq fun Y5 hY5 => ?_
  refine TW.seq fun Y6 hY6 => TW.region ?_
  refine TL.p (Pu.lds ty_ag27) ?_
  refine TL.cr rfl (enters Tryz.func50 rfl rfl) (fun w hw => by
    exact fS _ (hL.sat hw)) ?_
  refine TL.p Pu.no ?_
  refine TL.nil (TQ.thenN (hY6 _ _ ?_))
  refine TW.cond rfl (fun hc1 => ?_) (fun hc1 => ?_)
  try simp only [zcb9] at hc1
  have hf : fitC H l = 22 := by rw [hf9, hc1]; rfl
  have hf0 := hbad (by rw [hf]; decide)
  refine TW.seq fun Y7 hY7 => TW.region ?_
  refine TL.p Pu.as ?_
  refine TL.p Pu.as ?_
  refine TL.nil (TQ.thenN (hY7 _ _ ?_))
  refine TW.ret ?_
  refine TQ.thenR ?_
  refine TQ.ret Tryz.results16 rfl ((.tmp rfl (.tmp rfl .nil))) ?_
  exact fun w hw => ⟨(none, 0), by rw [hf0, hf]; rfl, by rw [hf0]; exact hw.sub (KSub.nilOwn KSub.nil)⟩
  try simp only [zcb9] at hc1
  have hlk : lkB l = true := by simpa using hc1
  have hf : fitC H l = 0 := by rw [hf9, hlk]; rfl
  have h8 : l.ns = 8 := by
   unfold lkB at hlk
   simp only [Bool.and_eq_true, decide_eq_true_eq] at hlk
   exact hlk.1.1.1
  have hf0 : fitL H l = idsL H (fitP H l H.n) := if_pos hf
  refine TW.skip ?_
  refine TQ.thenN (hY5 _ _ ?_)
  refine TW.seq fun Y8 hY8 => TW.region ?_
  refine TL.p Pu.as ?_
  refine TL.nil (TQ.thenN (hY8 _ _ ?_))
  refine TW.seq fun Y9 hY9 => ?_
  refine TW.seq fun Y10 hY10 => TW.region ?_
  refine TL.p Pu.mv ?_
  refine TL.p (by first | exact Pu.nn | exact Pu.nc) ?_
  refine TL.p (by first | exact Pu.fb ty_fa106_3 | exact Pu.fe ty_fa106_3) ?_
  refine TL.p (Pu.ld ty_sc104) ?_
  refine TL.p (Pu.ln Tryz.underlying104) ?_
  refine TL.p Pu.mv ?_
  refine TL.nil (TQ.thenN (hY10 _ _ ?_))
  refine TW.block ?_
  refine TW.loop5 (fun (k : Nat) (A9 : Option Addr) (c9 : Nat) (M : List Nat) (m : Nat) => [(30, .int .i64 (k : Int)), (29, .int .i64 (H.n : Int)), (28, .slice xo.2.2.1 H.n xo.2.2.2), (9, .slice A9 m c9), (7, .slice A3 H.n c3), (6, .pointer (some ⟨xo.1.1, 0, none⟩)), (3, .pointer (some ⟨b1, 0, none⟩))]) (fun k A9 c9 M m => [.own A9 m c9 3 1 (nL M), .blk b1 27 [.slice Al l.ns cl, .int .i64 l.day, .int .i64 l.alo, .int .i64 l.ahi], .own A3 H.n c3 25 2 (fun j => spL (livB H j).1 (livB H j).2), .blk xo.1.1 106 [.slice A H.n cp, .map (some xo.1.2), .slice xo.2.1.1 H.n xo.2.1.2, .slice xo.2.2.1 H.n xo.2.2.2], .obj xo.1.2 (mapO .i64 (plM H H.n)), .own xo.2.1.1 H.n xo.2.1.2 3 1 (fun j => [.int .i64 (moH H j)]), .own xo.2.2.1 H.n xo.2.2.2 108 8 (fun j => octL (sgH H j))]) (fun k A9 c9 M m => k ≤ H.n ∧ M = fitP H l k ∧ m = M.length) (fun k A9 c9 M m => H.n - k) 0 none 0 [] 0 fs9 ?_ ?_ ?_
  exact KSub.nilOwn ks9
  exact ⟨Nat.zero_le _, rfl, rfl⟩
  rintro k A9 c9 M m ⟨hkn, hM, hm⟩ Z0 hZ0
  have hm9 : m ≤ 16 := by have := fitP_len (H := H) (l := l) (k := k); rw [hm, hM]; omega
  refine TW.seq fun Y11 hY11 => TW.region ?_
  refine TL.p Pu.lt ?_
  refine TL.nil (TQ.thenN (hY11 _ _ ?_))
  refine TW.seq fun Y12 hY12 => ?_
  refine TW.cond rfl (fun hc2 => ?_) (fun hc2 => ?_)
  try simp only [zcb9] at hc2
  have hki : k < H.n := by omega
  refine TW.skip ?_
  refine TQ.thenN (hY12 _ _ ?_)
  refine TW.seq fun Y13 hY13 => ?_
  refine TW.block ?_
  refine TW.seq fun Y14 hY14 => TW.region ?_
  refine TL.p Pu.mv ?_
  refine TL.p (Pu.el ty_et104) ?_
  refine TL.p (Pu.lds ty_ag108) ?_
  refine TL.m (Mk.al ty_zr108) ?_
  intro b2
  refine TL.p Pu.as ?_
  first | refine TL.st ty_sz108 ?_ | refine TL.se ty_sz108 ?_
  refine TL.nil (TQ.thenN (hY14 _ _ ?_))
  refine TW.seq fun Y15 hY15 => ?_
  refine TW.dw 7 ?_
  refine RK.tk Pu.mv ?_
  refine RK.tk Pu.mv ?_
  refine RK.tk (Pu.el ty_et57) ?_
  refine RK.tk (Pu.lds ty_ag25) ?_
  refine RK.tk (Pu.lds ty_ag27) ?_
  refine RK.keep ?_
  refine RK.float [.int .i64 0, .int .i64 0] ?_
  refine RK.ch [false] ?_ ⟨ty_zr25, trivial⟩
  refine WK.cr rfl (enters Tryz.func51 rfl rfl) (fun w hw => by
    exact fA _ k hlk) ?_
  refine WK.n ?_
  intro b3
  first | refine TL.st ty_sz25 ?_ | refine TL.se ty_sz25 ?_
  refine TL.nil (TQ.thenN (hY15 _ _ ?_))
  refine TW.seq fun Y16 hY16 => ?_
  refine TW.join [(50, .bool (maB H l k && decide ((agd ((livB H k).1, (livB H k).2) l).1 ≤ (agd ((livB H k).1, (livB H k).2) l).2)))] ?_ (fun hJ1 => ?_)
  refine TQ.thenN (hY16 _ _ ?_)
  refine TW.cond rfl (fun hc3 => ?_) (fun hc3 => ?_)
  try simp only [zcb9] at hc3
  have hft : fitB H l k = true := by
   show (maB H l k && decide ((agd ((livB H k).1, (livB H k).2) l).1 ≤ (agd ((livB H k).1, (livB H k).2) l).2)) = true
   simp only [Bool.and_eq_true, decide_eq_true_eq]
   exact hc3
  have hPs : fitP H l (k + 1) = M ++ [k] := by rw [hM]; exact if_pos hft
  have hl9 : m + 1 = (fitP H l (k + 1)).length := by rw [hPs, List.length_append, ← hm]; rfl
  refine TW.region ?_
  refine TL.p Pu.mv ?_
  refine TL.p Pu.mv ?_
  refine TL.m Mk.bl ?_
  intro b4
  first | refine TL.a0 ty_et33 ?_ | refine TL.ap ty_et33 ?_
  intro A5 c5
  refine TL.p Pu.as ?_
  refine TL.nil ?_
  refine TQ.blkN ?_
  refine TQ.thenN (hY13 _ _ ?_)
  refine TW.region ?_
  refine TL.p Pu.ad ?_
  refine TL.p Pu.mv ?_
  refine TL.nil ?_
  refine TQ.thenN (hZ0 (k + 1) _ _ (fitP H l (k + 1)) _ _ _ ?_ ?_ fs9 ?_)
  exact ⟨by omega, rfl, hl9⟩
  exact zom9
  first
   | exact KSub.own Pick.hd (nL_app hm hPs rfl) ks9
   | exact KSub.own pk9 (fun i _ => by rw [hPs]) ks9
  try simp only [zcb9] at hc3
  have hft : fitB H l k = false := by
   show (maB H l k && decide ((agd ((livB H k).1, (livB H k).2) l).1 ≤ (agd ((livB H k).1, (livB H k).2) l).2)) = false
   simp only [Bool.and_eq_false_iff, decide_eq_false_iff_not, Int.not_le]
   exact hc3
  have hPs : fitP H l (k + 1) = M := by rw [hM]; exact if_neg (by rw [hft]; decide)
  have hl9 : m = (fitP H l (k + 1)).length := by rw [hPs, ← hm]
  refine TW.skip ?_
  refine TQ.blkN ?_
  refine TQ.thenN (hY13 _ _ ?_)
  refine TW.region ?_
  refine TL.p Pu.ad ?_
  refine TL.p Pu.mv ?_
  refine TL.nil ?_
  refine TQ.thenN (hZ0 (k + 1) _ _ (fitP H l (k + 1)) _ _ _ ?_ ?_ fs9 ?_)
  exact ⟨by omega, rfl, hl9⟩
  exact zom9
  first
   | exact KSub.own Pick.hd (nL_app hm hPs rfl) ks9
   | exact KSub.own pk9 (fun i _ => by rw [hPs]) ks9
  refine TW.region ?_
  refine TL.p (Pu.lds ty_ag108) ?_
  refine TL.p (Pu.lds ty_ag27) ?_
  refine TL.cr rfl (enters Tryz.func52 rfl rfl) (fun w hw => by
    exact fB _ k hki (hL.sat hw) h8) ?_
  refine TL.p Pu.mv ?_
  refine TL.guard (t := 44) rfl (fun hg1 => ?_) (fun hg1 => ?_)
  refine TL.gd (by first | exact Pu.fb ty_fa25_0 | exact Pu.fe ty_fa25_0) ?_
  refine TL.gd (Pu.ld ty_sc3) ?_
  refine TL.gd (by first | exact Pu.fb ty_fa25_1 | exact Pu.fe ty_fa25_1) ?_
  refine TL.gd (Pu.ld ty_sc3) ?_
  refine TL.gd Pu.le ?_
  refine TL.p Pu.kt ?_
  refine TL.nil ?_
  exact TQ.sub (by repeat (first | exact trivial | refine ⟨rfl, ?_⟩ | refine ⟨trivial, ?_⟩ | refine ⟨(by show some (Value.bool _) = some (Value.bool _); first | (simp [hg1]; done) | (refine congrArg (fun z => some (Value.bool z)) (Bool.eq_iff_iff.2 ?_); simp [hg1]; omega)), ?_⟩)) kt9 hJ1
  refine TL.gs ?_
  refine TL.gs ?_
  refine TL.gs ?_
  refine TL.gs ?_
  refine TL.gs ?_
  refine TL.p Pu.kf ?_
  refine TL.nil ?_
  exact TQ.sub (by repeat (first | exact trivial | refine ⟨rfl, ?_⟩ | refine ⟨trivial, ?_⟩ | refine ⟨(by show some (Value.bool _) = some (Value.bool _); first | (simp [hg1]; done) | (refine congrArg (fun z => some (Value.bool z)) (Bool.eq_iff_iff.2 ?_); simp [hg1]; omega)), ?_⟩)) kt9 hJ1
  try simp only [zcb9] at hc2
  obtain rfl : k = H.n := by omega
  refine TW.exit ?_
  refine TQ.thenX ?_
  refine TQ.thenX ?_
  refine TQ.blkX ?_
  refine TQ.thenN (hY9 _ _ ?_)
  refine TW.seq fun Y17 hY17 => TW.region ?_
  refine TL.p Pu.mv ?_
  refine TL.p Pu.mv ?_
  refine TL.call (M := []) rfl (enters Tryz.func53 rfl rfl) (List.Perm.refl _) rfl (fun w hw => by
    exact ids_any (x := xo) (X := M) hm (by omega) (hI.sat hw) (opK_in (A := A) (cp := cp) (x := xo) hw (by intro φ h; first | exact h | (simp only [opK, List.mem_cons] at h ⊢; simp at h ⊢; first | exact h | exact .inr h | exact .inr (.inr h) | exact .inr (.inr (.inr h)) | exact .inr (.inr (.inr (.inr h)))))) (OwnR.rdr (hw.holds _ (List.mem_cons_self ..))) fun i hi => (mem_fitP.1 (hM ▸ hi)).1) ?_
  rintro ⟨A7, c7⟩
  refine TL.p Pu.as ?_
  refine TL.p Pu.as ?_
  refine TL.nil (TQ.thenN (hY17 _ _ ?_))
  refine TW.ret ?_
  refine TQ.ret Tryz.results16 rfl ((.tmp rfl (.tmp rfl .nil))) ?_
  exact fun w hw => ⟨(A7, c7), by rw [hf0, hf, ← hM]; rfl, by rw [hf0, ← hM]; exact hw.sub (KSub.cons Pick.hd KSub.nil)⟩
end Go.Proofs.YtceokmaddbdnfaaGreat
namespace Go.Proofs.YtceokmaddbdnfaaGreat
set_option linter.all false
set_option linter.unusedVariables false
set_option linter.unusedSimpArgs false
open Go.RowKit
theorem Pu.neF {c : Cx} {F : Fr} {K : List Fact} {d : Option Tmp} {ty : TypeId} {pos : String} {af : Array Edge} {g : Option (Nat × Bool)} {x y : Operand} {xt yt : TypeId} {k : IntKind} {i : Int} (hx : ev F x = some (.int k i) := by rfl) (hy : ev F y = some (.int k i) := by rfl) : Pu c F K ⟨d, .binOp .neq xt x y yt, ty, pos, af, g⟩ (.bool false) := by
 have h := Pu.neq (c := c) (K := K) (d := d) (ty := ty) (pos := pos) (af := af) (g := g) (xt := xt) (yt := yt) hx hy
 simpa using h
theorem ne2_mark (w : World) (x y : Operand) (i j : Int) : (do eqGuard .neq 97 x y (.agg #[.int .i64 i, .int .i64 j]) (.agg #[.int .i64 i, .int .i64 j]); binOp .neq 97 (.agg #[.int .i64 i, .int .i64 j]) (.agg #[.int .i64 i, .int .i64 j]) : Sem Value).run Tryz.prog w = .ok (.bool false) w := by
 go_simp
abbrev TwX := (Option Addr × Nat) × (Nat → Option Addr) × (Nat → Nat)
def bTwK (H : Hd) (x : TwX) : List Fact := .own x.1.1 H.n x.1.2 65 5 (fun i => anL H x.2.1 x.2.2 i) :: ownsE 97 2 x.2.1 (fun i => H.ml i) x.2.2 (fun i k => spL (H.sp i k) (H.sg i k)) H.n
theorem anL_congr {H : Hd} {a b : Nat → Option Addr} {c d : Nat → Nat} {i : Nat} (h1 : a i = b i) (h2 : c i = d i) : anL H a c i = anL H b d i := by unfold anL; rw [h1, h2]
set_option maxRecDepth 100000 in
set_option maxHeartbeats 1000000 in
theorem bTwin_any {w : World} {A : Option Addr} {cp : Nat} {H : Hd} {a : Nat → Option Addr} {c : Nat → Nat} (hI : HIn w A H a c) :
  CallsK Tryz.prog 15 #[.slice A H.n cp] [] w TwX (fun x => .slice x.1.1 H.n x.1.2) (fun x => bTwK H x) := by
 have hn := hI.hn
 have hR := hI.hR
 refine K_enter (S := []) (K := []) Tryz.func15 rfl Tryz.ntmps15 rfl (Sat.start _) ?_
 refine TW.seq fun Y1 hY1 => TW.region ?_
 refine TL.p Pu.as ?_
 refine TL.nil (TQ.thenN (hY1 _ _ ?_))
 refine TW.seq fun Y2 hY2 => TW.region ?_
 refine TL.p Pu.as ?_
 refine TL.nil (TQ.thenN (hY2 _ _ ?_))
 refine TW.seq fun Y3 hY3 => ?_
 refine TW.seq fun Y4 hY4 => TW.region ?_
 refine TL.p Pu.mv ?_
 refine TL.p (Pu.ln Tryz.underlying22) ?_
 refine TL.p Pu.mv ?_
 refine TL.nil (TQ.thenN (hY4 _ _ ?_))
 refine TW.block ?_
 refine TW.loop5 (fun (i : Nat) (B : Option Addr) (cb : Nat) (ta : Nat → Option Addr) (tc : Nat → Nat) => [(8, .int .i64 (i : Int)), (7, .int .i64 (H.n : Int)), (6, .slice A H.n cp), (3, .slice B i cb)]) (fun i B cb ta tc => .own B i cb 65 5 (fun j => anL H ta tc j) :: ownsE 97 2 ta (fun i => H.ml i) tc (fun i k => spL (H.sp i k) (H.sg i k)) i) (fun i B cb ta tc => i ≤ H.n) (fun i B cb ta tc => H.n - i) 0 none 0 (fun _ => none) (fun _ => 0) fs9 ?_ ?_ ?_
 exact KSub.nilOwn KSub.nil
 exact Nat.zero_le _
 rintro i B cb ta tc hi Z0 hZ0
 refine TW.seq fun Y5 hY5 => TW.region ?_
 refine TL.p Pu.lt ?_
 refine TL.nil (TQ.thenN (hY5 _ _ ?_))
 refine TW.seq fun Y6 hY6 => ?_
 refine TW.cond rfl (fun hc0 => ?_) (fun hc0 => ?_)
 try simp only [zcb9] at hc0
 have hin : i < H.n := by omega
 have hml := hI.hl i hin
 have hMi := hI.hM i hin
 refine TW.skip ?_
 refine TQ.thenN (hY6 _ _ ?_)
 refine TW.seq fun Y7 hY7 => ?_
 refine TW.block ?_
 refine TW.seq fun Y8 hY8 => TW.region ?_
 refine TL.p (Pu.el ty_et22) ?_
 refine TL.p (Pu.lds ty_ag65) ?_
 refine TL.m (Mk.al ty_zr65) ?_
 intro b1
 first | refine TL.st ty_sz65 ?_ | refine TL.se ty_sz65 ?_
 refine TL.nil (TQ.thenN (hY8 _ _ ?_))
 refine TW.seq fun Y9 hY9 => TW.region ?_
 refine TL.m Mk.bl ?_
 intro b2
 refine TL.p (by first | exact Pu.fb ty_fa65_3 | exact Pu.fe ty_fa65_3) ?_
 refine TL.p (Pu.ld ty_sc63) ?_
 refine TL.ob (b := b2) (sz := 2) (r := fun _ => []) pk9 rfl ?_
 first | refine TL.a0 ty_et63 ?_ | refine TL.ap ty_et63 ?_
 intro A3 c3
 refine TL.p (by first | exact Pu.fb ty_fa65_3 | exact Pu.fe ty_fa65_3) ?_
 first | refine TL.st ty_sz63 ?_ | refine TL.se ty_sz63 ?_
 refine TL.nil (TQ.thenN (hY9 _ _ ?_))
 refine TW.region ?_
 refine TL.p Pu.mv ?_
 refine TL.p (Pu.lds ty_ag65) ?_
 refine TL.m Mk.bl ?_
 intro b4
 first | refine TL.a0 ty_et22 ?_ | refine TL.ap ty_et22 ?_
 intro A5 c5
 refine TL.p Pu.as ?_
 refine TL.nil ?_
 refine TQ.blkN ?_
 refine TQ.thenN (hY7 _ _ ?_)
 refine TW.region ?_
 refine TL.p Pu.ad ?_
 refine TL.p Pu.mv ?_
 refine TL.nil ?_
 refine TQ.thenN (hZ0 (i + 1) A5 c5 (updA ta i A3) (updA tc i c3) _ _ ?_ ?_ fs9 ?_)
 exact (by omega)
 exact zom9
 have ea : updA ta i A3 i = A3 := if_pos rfl
 have ec : updA tc i c3 i = c3 := if_pos rfl
 have e : ownsE 97 2 (updA ta i A3) (fun i => H.ml i) (updA tc i c3) (fun i k => spL (H.sp i k) (H.sg i k)) i = ownsE 97 2 ta (fun i => H.ml i) tc (fun i k => spL (H.sp i k) (H.sg i k)) i := ownsE_congr fun j hj => ⟨if_neg (by omega), if_neg (by omega)⟩
 simp only [ownsE, e, ea, ec]
 refine KSub.own pk9 (fun j hj => ?_) (KSub.own pk9 (fun k hk => rfl) (by repeat (first | exact KSub.refl _ | refine KSub.drop ?_)))
 unfold catR
 by_cases h : j < i
 rw [if_pos h]
 exact anL_congr (if_neg (show ¬ j = i by omega)).symm (if_neg (show ¬ j = i by omega)).symm
 obtain rfl : j = i := by omega
 rw [if_neg h]
 unfold anL
 rw [ea, ec]
 try simp only [zcb9] at hc0
 obtain rfl : i = H.n := by omega
 refine TW.exit ?_
 refine TQ.thenX ?_
 refine TQ.thenX ?_
 refine TQ.blkX ?_
 refine TQ.thenN (hY3 _ _ ?_)
 refine TW.seq fun Y10 hY10 => TW.region ?_
 refine TL.p Pu.mv ?_
 refine TL.p Pu.as ?_
 refine TL.nil (TQ.thenN (hY10 _ _ ?_))
 refine TW.ret ?_
 refine TQ.ret Tryz.results15 rfl ((.tmp rfl .nil)) ?_
 exact fun w hw => ⟨((B, cb), ta, tc), rfl, hw⟩
theorem twK_in {S : List Nat} {w0 w : World} {K : List Fact} {H : Hd} {x : TwX} (hw : Sat S w0 K w) (hm : bun (bTwK H x) ∈ K) (hn : H.n ≤ 1000) (hl : ∀ i, i < H.n → H.ml i ≤ 1000) : HIn w x.1.1 H x.2.1 x.2.2 :=
 ⟨hn, OwnR.rdr (bun_get hw hm (φ := .own x.1.1 H.n x.1.2 65 5 (fun i => anL H x.2.1 x.2.2 i)) (List.mem_cons_self ..)), fun i hi => OwnR.rdr (bun_get hw hm (φ := .own (x.2.1 i) (H.ml i) (x.2.2 i) 97 2 (fun k => spL (H.sp i k) (H.sg i k))) (List.mem_cons_of_mem _ (ownsE_mem hi))), hl⟩
set_option maxRecDepth 100000 in
set_option maxHeartbeats 2000000 in
theorem bSame_any {w : World} {A B : Option Addr} {c1 c2 : Nat} {H : Hd} {a b : Nat → Option Addr} {c d : Nat → Nat} (hI : HIn w A H a c) (hJ : HIn w B H b d) :
  Calls Tryz.prog 24 #[.slice A H.n c1, .slice B H.n c2] w (Ret w (.bool true)) := by
 have hn := hI.hn
 have hRA := hI.hR
 have hRB := hJ.hR
 refine K_enter (S := []) (K := []) Tryz.func24 rfl Tryz.ntmps24 rfl (Sat.start _) ?_
 refine TW.seq fun Y1 hY1 => TW.region ?_
 refine TL.p Pu.as ?_
 refine TL.nil (TQ.thenN (hY1 _ _ ?_))
 refine TW.seq fun Y2 hY2 => ?_
 refine TW.seq fun Y3 hY3 => TW.region ?_
 refine TL.p Pu.mv ?_
 refine TL.p (Pu.ln Tryz.underlying22) ?_
 refine TL.p Pu.mv ?_
 refine TL.p (Pu.ln Tryz.underlying22) ?_
 refine TL.p Pu.ne ?_
 refine TL.nil (TQ.thenN (hY3 _ _ ?_))
 refine TW.condF rfl ((by simp)) ?_
 refine TW.skip ?_
 refine TQ.thenN (hY2 _ _ ?_)
 refine TW.seq fun Y4 hY4 => ?_
 refine TW.seq fun Y5 hY5 => TW.region ?_
 refine TL.p Pu.mv ?_
 refine TL.p (Pu.ln Tryz.underlying22) ?_
 refine TL.p Pu.mv ?_
 refine TL.nil (TQ.thenN (hY5 _ _ ?_))
 refine TW.block ?_
 refine TW.loop1 (fun (i : Nat) => [(14, .int .i64 (i : Int)), (13, .int .i64 (H.n : Int)), (0, .slice A H.n c1), (1, .slice B H.n c2)]) (fun i => []) (fun i => i ≤ H.n) (fun i => H.n - i) 0 fs9 ?_ ?_ ?_
 exact ks9
 exact Nat.zero_le _
 rintro i hi Z0 hZ0
 refine TW.seq fun Y6 hY6 => TW.region ?_
 refine TL.p Pu.lt ?_
 refine TL.nil (TQ.thenN (hY6 _ _ ?_))
 refine TW.seq fun Y7 hY7 => ?_
 refine TW.cond rfl (fun hc1 => ?_) (fun hc1 => ?_)
 try simp only [zcb9] at hc1
 have hin : i < H.n := by omega
 have hMa := hI.hM i hin
 have hMb := hJ.hM i hin
 have hml := hI.hl i hin
 refine TW.skip ?_
 refine TQ.thenN (hY7 _ _ ?_)
 refine TW.seq fun Y8 hY8 => ?_
 refine TW.block ?_
 refine TW.seq fun Y9 hY9 => TW.region ?_
 refine TL.p Pu.mv ?_
 refine TL.p Pu.as ?_
 refine TL.nil (TQ.thenN (hY9 _ _ ?_))
 refine TW.seq fun Y10 hY10 => ?_
 refine TW.seq fun Y11 hY11 => ?_
 refine TW.dw 52 ?_
 refine RK.tk Pu.mv ?_
 refine RK.tk Pu.mv ?_
 refine RK.tk (Pu.el ty_et22) ?_
 refine RK.tk (by first | exact Pu.fb ty_fa65_0 | exact Pu.fe ty_fa65_0) ?_
 refine RK.tk (Pu.ld ty_sc3) ?_
 refine RK.tk Pu.mv ?_
 refine RK.tk Pu.mv ?_
 refine RK.tk (Pu.el ty_et22) ?_
 refine RK.tk (by first | exact Pu.fb ty_fa65_0 | exact Pu.fe ty_fa65_0) ?_
 refine RK.tk (Pu.ld ty_sc3) ?_
 refine RK.tk Pu.neF ?_
 refine RK.tk Pu.mv ?_
 refine RK.tk Pu.mv ?_
 refine RK.tk Pu.mv ?_
 refine RK.tk (Pu.el ty_et22) ?_
 refine RK.tk (by first | exact Pu.fb ty_fa65_1 | exact Pu.fe ty_fa65_1) ?_
 refine RK.tk (Pu.ld ty_sc3) ?_
 refine RK.tk Pu.mv ?_
 refine RK.tk Pu.mv ?_
 refine RK.tk (Pu.el ty_et22) ?_
 refine RK.tk (by first | exact Pu.fb ty_fa65_1 | exact Pu.fe ty_fa65_1) ?_
 refine RK.tk (Pu.ld ty_sc3) ?_
 refine RK.tk Pu.neF ?_
 refine RK.tk Pu.kf ?_
 refine RK.tk Pu.mv ?_
 refine RK.tk Pu.mv ?_
 refine RK.tk Pu.mv ?_
 refine RK.tk (Pu.el ty_et22) ?_
 refine RK.tk (by first | exact Pu.fb ty_fa65_2 | exact Pu.fe ty_fa65_2) ?_
 refine RK.tk (Pu.lds ty_ag25) ?_
 refine RK.tk Pu.mv ?_
 refine RK.tk Pu.mv ?_
 refine RK.tk (Pu.el ty_et22) ?_
 refine RK.tk (by first | exact Pu.fb ty_fa65_2 | exact Pu.fe ty_fa65_2) ?_
 refine RK.tk (Pu.lds ty_ag25) ?_
 refine RK.tk (Pu.bin rfl rfl (fun w => ne2_is (b := false) (by simp) w _ _)) ?_
 refine RK.tk Pu.kf ?_
 refine RK.tk Pu.mv ?_
 refine RK.tk Pu.mv ?_
 refine RK.tk Pu.mv ?_
 refine RK.tk (Pu.el ty_et22) ?_
 refine RK.tk (by first | exact Pu.fb ty_fa65_3 | exact Pu.fe ty_fa65_3) ?_
 refine RK.tk (Pu.ld ty_sc63) ?_
 refine RK.tk (Pu.ln Tryz.underlying63) ?_
 refine RK.tk Pu.mv ?_
 refine RK.tk Pu.mv ?_
 refine RK.tk (Pu.el ty_et22) ?_
 refine RK.tk (by first | exact Pu.fb ty_fa65_3 | exact Pu.fe ty_fa65_3) ?_
 refine RK.tk (Pu.ld ty_sc63) ?_
 refine RK.tk (Pu.ln Tryz.underlying63) ?_
 refine RK.tk Pu.neF ?_
 refine RK.tk Pu.kf ?_
 refine RK.ch [] ?_ trivial
 refine WK.n ?_
 refine TL.nil (TQ.thenN (hY11 _ _ ?_))
 refine TW.condF rfl rfl ?_
 refine TW.skip ?_
 refine TQ.thenN (hY10 _ _ ?_)
 refine TW.seq fun Y12 hY12 => TW.region ?_
 refine TL.p Pu.mv ?_
 refine TL.p Pu.mv ?_
 refine TL.p (Pu.el ty_et22) ?_
 refine TL.p (by first | exact Pu.fb ty_fa65_3 | exact Pu.fe ty_fa65_3) ?_
 refine TL.p (Pu.ld ty_sc63) ?_
 refine TL.p (Pu.ln Tryz.underlying63) ?_
 refine TL.p Pu.mv ?_
 refine TL.nil (TQ.thenN (hY12 _ _ ?_))
 refine TW.block ?_
 refine TW.loop1 (fun (k : Nat) => [(75, .int .i64 (k : Int)), (74, .int .i64 (H.ml i : Int)), (5, .int .i64 (i : Int)), (14, .int .i64 (i : Int)), (13, .int .i64 (H.n : Int)), (0, .slice A H.n c1), (1, .slice B H.n c2)]) (fun k => []) (fun k => k ≤ H.ml i) (fun k => H.ml i - k) 0 fs9 ?_ ?_ ?_
 exact ks9
 exact Nat.zero_le _
 rintro k hk Z1 hZ1
 refine TW.seq fun Y13 hY13 => TW.region ?_
 refine TL.p Pu.lt ?_
 refine TL.nil (TQ.thenN (hY13 _ _ ?_))
 refine TW.seq fun Y14 hY14 => ?_
 refine TW.cond rfl (fun hc3 => ?_) (fun hc3 => ?_)
 try simp only [zcb9] at hc3
 refine TW.skip ?_
 refine TQ.thenN (hY14 _ _ ?_)
 refine TW.seq fun Y15 hY15 => ?_
 refine TW.block ?_
 refine TW.seq fun Y16 hY16 => TW.region ?_
 refine TL.p Pu.mv ?_
 refine TL.p Pu.as ?_
 refine TL.nil (TQ.thenN (hY16 _ _ ?_))
 refine TW.seq fun Y17 hY17 => ?_
 refine TW.dw 17 ?_
 refine RK.tk Pu.mv ?_
 refine RK.tk Pu.mv ?_
 refine RK.tk (Pu.el ty_et22) ?_
 refine RK.tk (by first | exact Pu.fb ty_fa65_3 | exact Pu.fe ty_fa65_3) ?_
 refine RK.tk (Pu.ld ty_sc63) ?_
 refine RK.tk Pu.mv ?_
 refine RK.tk (Pu.el ty_et63) ?_
 refine RK.tk (Pu.lds ty_ag97) ?_
 refine RK.tk Pu.mv ?_
 refine RK.tk Pu.mv ?_
 refine RK.tk (Pu.el ty_et22) ?_
 refine RK.tk (by first | exact Pu.fb ty_fa65_3 | exact Pu.fe ty_fa65_3) ?_
 refine RK.tk (Pu.ld ty_sc63) ?_
 refine RK.tk Pu.mv ?_
 refine RK.tk (Pu.el ty_et63) ?_
 refine RK.tk (Pu.lds ty_ag97) ?_
 refine RK.tk (Pu.bin rfl rfl (fun w => ne2_mark w _ _ _ _)) ?_
 refine RK.ch [] ?_ trivial
 refine WK.n ?_
 refine TL.nil (TQ.thenN (hY17 _ _ ?_))
 refine TW.condF rfl (rfl) ?_
 refine TW.skip ?_
 refine TQ.blkN ?_
 refine TQ.thenN (hY15 _ _ ?_)
 refine TW.region ?_
 refine TL.p Pu.ad ?_
 refine TL.p Pu.mv ?_
 refine TL.nil ?_
 refine TQ.thenN (hZ1 (k + 1) _ _ ?_ ?_ fs9 ?_)
 exact (by omega)
 exact zom9
 exact ks9
 try simp only [zcb9] at hc3
 refine TW.exit ?_
 refine TQ.thenX ?_
 refine TQ.thenX ?_
 refine TQ.blkX ?_
 refine TQ.blkN ?_
 refine TQ.thenN (hY8 _ _ ?_)
 refine TW.region ?_
 refine TL.p Pu.ad ?_
 refine TL.p Pu.mv ?_
 refine TL.nil ?_
 refine TQ.thenN (hZ0 (i + 1) _ _ ?_ ?_ fs9 ?_)
 exact (by omega)
 exact zom9
 exact ks9
 try simp only [zcb9] at hc1
 refine TW.exit ?_
 refine TQ.thenX ?_
 refine TQ.thenX ?_
 refine TQ.blkX ?_
 refine TQ.thenN (hY4 _ _ ?_)
 refine TW.seq fun Y18 hY18 => TW.region ?_
 refine TL.p Pu.as ?_
 refine TL.nil (TQ.thenN (hY18 _ _ ?_))
 refine TW.ret ?_
 refine TQ.ret Tryz.results24 rfl ((.tmp rfl .nil)) ?_
 exact fun w hw => Ret.of hw
end Go.Proofs.YtceokmaddbdnfaaGreat
