/-
  Part 9 of the proof of alive_any,ready2_any,has2_any,choose2_any,inside2_any,place2_any,lw_names,lw_fits,lw_has,open_herd,open_looksB,open_calves,open_u8b,open_u32sB,open_u32b,law_post,TW.meet,TL.unb,TW.ocap,rLooks2_any,bBirths_any,rSign_any,lks_in: declarations of several texts, in build order. No condition on a program.
-/
import Derived.Test.YtbenhafhklfhmaaGreatAl08
import Derived.Test.YtbenhafhklfhmaaGreatAl06
import Derived.Test.YtbenhafhklfhmaaGreatAl07
import Derived.Test.YtbenhafhklfhmaaGreatAl04
import Derived.Test.YtbenhafhklfhmaaGreatAl03
namespace Go.Proofs.YtbenhafhklfhmaaGreat
set_option linter.all false
set_option linter.unusedVariables false
set_option linter.unusedSimpArgs false
open Go.RowKit
set_option maxRecDepth 100000 in
theorem bIndex_any {w : World} {A : Option Addr} {n cp : Nat} {v : Nat → Int} (y : Int) (hn : n ≤ 1000000) (hR : RdR w 1 A n (fun k => [.int .i64 (v k)])) :
  Calls Tryz.prog 83 #[.slice A n cp, .int .i64 y] w (Ret w (.int .i64 (atI (fun k => decide (y = v k)) n))) := by
 refine K_enter (S := []) (K := []) Tryz.func83 rfl Tryz.ntmps83 rfl (Sat.start _) ?_
 refine TW.seq fun Y1 hY1 => TW.region ?_
 refine TL.p Pu.as ?_
 refine TL.nil (TQ.thenN (hY1 _ _ ?_))
 refine TW.seq fun Y2 hY2 => ?_
 refine TW.seq fun Y3 hY3 => TW.region ?_
 refine TL.p Pu.mv ?_
 refine TL.p (Pu.ln Tryz.underlying28) ?_
 refine TL.p Pu.mv ?_
 refine TL.nil (TQ.thenN (hY3 _ _ ?_))
 refine TW.block ?_
 refine TW.loop1 (fun (k : Nat) => [(8, .int .i64 (k : Int)), (7, .int .i64 (n : Int)), (0, .slice A n cp), (1, .int .i64 y)]) (fun k => []) (fun k => k ≤ n ∧ ∀ j, j < k → y ≠ v j) (fun k => n - k) 0 fs9 ?_ ?_ ?_
 exact ks9
 exact ⟨Nat.zero_le _, fun j hj => by omega⟩
 rintro k ⟨hk, hno⟩ Z0 hZ0
 refine TW.seq fun Y4 hY4 => TW.region ?_
 refine TL.p Pu.lt ?_
 refine TL.nil (TQ.thenN (hY4 _ _ ?_))
 refine TW.seq fun Y5 hY5 => ?_
 refine TW.cond rfl (fun hc0 => ?_) (fun hc0 => ?_)
 try simp only [zcb9] at hc0
 have hkn : k < n := by omega
 refine TW.skip ?_
 refine TQ.thenN (hY5 _ _ ?_)
 refine TW.seq fun Y6 hY6 => ?_
 refine TW.block ?_
 refine TW.seq fun Y7 hY7 => TW.region ?_
 refine TL.p Pu.mv ?_
 refine TL.p Pu.as ?_
 refine TL.nil (TQ.thenN (hY7 _ _ ?_))
 refine TW.seq fun Y8 hY8 => TW.region ?_
 refine TL.p Pu.mv ?_
 refine TL.p Pu.mv ?_
 refine TL.p Pu.mv ?_
 refine TL.p (Pu.el ty_et28) ?_
 refine TL.p (Pu.ld ty_sc3) ?_
 refine TL.p Pu.eq ?_
 refine TL.nil (TQ.thenN (hY8 _ _ ?_))
 refine TW.cond rfl (fun hc1 => ?_) (fun hc1 => ?_)
 try simp only [zcb9] at hc1
 refine TW.seq fun Y9 hY9 => TW.region ?_
 refine TL.p Pu.mv ?_
 refine TL.p Pu.as ?_
 refine TL.nil (TQ.thenN (hY9 _ _ ?_))
 refine TW.ret ?_
 refine TQ.blkR ?_
 refine TQ.thenR ?_
 refine TQ.thenR ?_
 refine TQ.blkR ?_
 refine TQ.thenR ?_
 refine TQ.ret Tryz.results83 rfl ((.tmp rfl .nil)) ?_
 have e := atI_eq (p := fun k => decide (y = v k)) hkn (by simpa using hc1) (fun j hj => by simpa using hno j hj)
 exact fun w hw => ⟨by rw [e]; rfl, Chg.ext hw.chg⟩
 try simp only [zcb9] at hc1
 refine TW.skip ?_
 refine TQ.blkN ?_
 refine TQ.thenN (hY6 _ _ ?_)
 refine TW.region ?_
 refine TL.p Pu.ad ?_
 refine TL.p Pu.mv ?_
 refine TL.nil ?_
 refine TQ.thenN (hZ0 (k + 1) _ _ ?_ ?_ fs9 ?_)
 refine ⟨by omega, fun j hj => ?_⟩
 by_cases e : j = k
 subst e; exact hc1
 exact hno j (by omega)
 exact zom9
 exact ks9
 try simp only [zcb9] at hc0
 obtain rfl : k = n := by omega
 refine TW.exit ?_
 refine TQ.thenX ?_
 refine TQ.thenX ?_
 refine TQ.blkX ?_
 refine TQ.thenN (hY2 _ _ ?_)
 refine TW.seq fun Y10 hY10 => TW.region ?_
 refine TL.p Pu.as ?_
 refine TL.nil (TQ.thenN (hY10 _ _ ?_))
 refine TW.ret ?_
 refine TQ.ret Tryz.results83 rfl ((.tmp rfl .nil)) ?_
 have e := atI_none (p := fun k => decide (y = v k)) (n := k) (fun j hj => by simpa using hno j hj)
 exact fun w hw => ⟨by rw [e]; rfl, Chg.ext hw.chg⟩
section
variable {w : World} {f : Nat → Int} {n i bi bp bh cm : Nat} {Am : Option Addr} {va vm vk : Value}
set_option maxRecDepth 100000 in
theorem appendLine_any (hoB : OldB w bh [va, vm, .slice Am n cm, vk]) (hSb : Apart (feet (linM bi bp bh i)) (some ⟨bh, 0, none⟩)) (hoM : RdR w 1 Am n (fun j => [.int .i64 (f j)])) (hA : Apart (feet (linM bi bp bh i)) Am) (hf : Mo f n) (ha : Acyc f n) (hi : i < n) (hn : n ≤ 1000) (hM : Sat (feet (linM bi bp bh i)) w (linM bi bp bh i) w) :
  CallsK Tryz.prog 106 #[.slice none 0 0, .func (.func 107) #[] #[.pointer (some ⟨bi, 0, none⟩), .pointer (some ⟨bp, 0, none⟩)]] (linM bi bp bh i) w (Option Addr × Nat) (fun y => .slice y.1 (depH f n i) y.2) (fun y => [.own y.1 (depH f n i) y.2 3 1 (fun s => [.int .i64 (upH f i s)])]) := by
 have hdl := dep_le (f := f) (n := n) (i := i)
 refine K_enterM (S := feet (linM bi bp bh i)) (K := linM bi bp bh i) Tryz.func106 rfl Tryz.ntmps106 rfl hM ?_
 refine TW.seqD fun Y1 hY1 => ?_
 refine TW.region ?_
 refine TL.m Mk.bx ?_
 intro b1
 refine TL.p Pu.as ?_
 refine TL.nil ?_
 refine TQ.thenN (hY1 _ _ _ ?_)
 refine TW.seqD fun Y2 hY2 => ?_
 refine TW.seqD fun Y3 hY3 => ?_
 refine TW.region ?_
 refine TL.p Pu.mv ?_
 refine TL.nil ?_
 refine TQ.thenN (hY3 _ _ _ ?_)
 refine TW.block ?_
 refine TW.rangeR (fun (q : Nat) (r : Option Addr × Nat) => .own r.1 q r.2 3 1 (fun s => [.int .i64 (upH f i s)]) :: .blk b1 28 [.slice r.1 q r.2] :: []) (fun x : Empty => x.elim) (fun x => x.elim) ((none, 0)) (fun x y => line1_iter (N := depH f n i) (bi := bi) (bp := bp) (i := i) hoB hSb hoM hA hf hi (.inl ⟨rfl, ha i hi⟩)) ?_ ?_ ?_ ?_ (eg := enters Tryz.func107 rfl rfl)
 exact KSub.cons pk9 (KSub.cons pk9 (KSub.nilOwn (KSub.cons pk9 KSub.nil)))
 rintro lR DR oR oR1 oR2 q g ⟨Al, cl⟩ hq ZR0 hZR0
 simp only [linM, List.cons_append, List.nil_append]
 refine TWi.region ?_
 refine TL.p Pu.as ?_
 refine TL.nil ?_
 refine TQ.thenN (hZR0 _ _ _ Pick.hd ?_)
 refine TWi.block ?_
 refine TWi.region ?_
 refine TL.p (Pu.ld ty_sc28) ?_
 refine TL.p Pu.mv ?_
 refine TL.m Mk.bl ?_
 intro b2
 first | refine TL.a0 ty_et28 ?_ | refine TL.ap ty_et28 ?_
 intro A3 c3
 first | refine TL.st ty_sz28 ?_ | refine TL.se ty_sz28 ?_
 refine TL.nil ?_
 refine TQ.blkN ?_
 refine TQ.rbN ((A3, c3)) ?_
 simp only [linM, List.cons_append, List.nil_append]
 exact KSub.cons pk9 (KSub.cons pk9 (KSub.cons pk9 (KSub.cons pk9 (KSub.own pk9 (fun j hj => by exact cat_rows (r := fun s => [Value.int .i64 (upH f i s)]) rfl hj) (KSub.cons pk9 KSub.nil)))))
 rintro DR ⟨Al, cl⟩
 simp only [List.nil_append]
 refine TQ.blkN ?_
 refine TQ.thenN (hY2 _ _ _ ?_)
 refine TW.seqD fun Y4 hY4 => ?_
 refine TW.region ?_
 refine TL.p (Pu.ld ty_sc28) ?_
 refine TL.p Pu.as ?_
 refine TL.nil ?_
 refine TQ.thenN (hY4 _ _ _ ?_)
 refine TW.ret ?_
 refine TQ.retM Tryz.results106 pk9 ((.tmp rfl .nil)) ?_
 exact fun w hw => ⟨(Al, cl), rfl, hw.sub (KSub.cons pk9 KSub.nil)⟩
 intro _ x; exact x.elim
theorem collectLine_any (hoB : OldB w bh [va, vm, .slice Am n cm, vk]) (hSb : Apart (feet (linM bi bp bh i)) (some ⟨bh, 0, none⟩)) (hoM : RdR w 1 Am n (fun j => [.int .i64 (f j)])) (hA : Apart (feet (linM bi bp bh i)) Am) (hf : Mo f n) (ha : Acyc f n) (hi : i < n) (hn : n ≤ 1000) (hM : Sat (feet (linM bi bp bh i)) w (linM bi bp bh i) w) :
  CallsK Tryz.prog 81 #[.func (.func 107) #[] #[.pointer (some ⟨bi, 0, none⟩), .pointer (some ⟨bp, 0, none⟩)]] (linM bi bp bh i) w (Option Addr × Nat) (fun y => .slice y.1 (depH f n i) y.2) (fun y => [.own y.1 (depH f n i) y.2 3 1 (fun s => [.int .i64 (upH f i s)])]) := by
 refine K_enter (S := feet (linM bi bp bh i)) (K := linM bi bp bh i) Tryz.func81 rfl Tryz.ntmps81 rfl hM ?_
 refine TW.seq fun Y1 hY1 => TW.region ?_
 refine TL.p Pu.as ?_
 refine TL.nil (TQ.thenN (hY1 _ _ ?_))
 refine TW.seq fun Y2 hY2 => TW.region ?_
 refine TL.p Pu.mv ?_
 refine TL.call rfl (enters Tryz.func106 rfl rfl) (M := linM bi bp bh i) (List.Perm.of_eq (List.append_nil _).symm) rfl (fun w hw => by
   exact appendLine_any (hoB.sat hw (hSb _ rfl)) hSb (hoM.sat hw hA) hA hf ha hi hn hw.self) ?_
 rintro ⟨Al, cl⟩
 refine TL.p Pu.as ?_
 refine TL.nil (TQ.thenN (hY2 _ _ ?_))
 refine TW.ret ?_
 refine TQ.ret Tryz.results81 rfl ((.tmp rfl .nil)) ?_
 exact fun w hw => ⟨(Al, cl), rfl, hw.sub (KSub.cons pk9 KSub.nil)⟩
end
theorem kin_at {f : Nat → Int} {n i j u : Nat} : decide (0 ≤ atI (fun d => decide (upH f i u = upH f j d)) (depH f n j)) = kinM f n i j u := by
 unfold kinM
 rw [Bool.eq_iff_iff, decide_eq_true_eq, anyB_iff]
 constructor
 · intro h
   obtain ⟨h1, h2, _⟩ := atI_le h
   exact ⟨_, h1, h2⟩
 · rintro ⟨d, hd, he⟩
   unfold atI
   rw [if_pos (fst1_lt.2 ⟨d, hd, he⟩)]
   omega
set_option maxRecDepth 100000 in
set_option maxHeartbeats 4000000 in
theorem bKin_any {w : World} {A : Option Addr} {cp : Nat} {H : Hd} {a : Nat → Option Addr} {c : Nat → Nat} {ia ib : Int} (hI : HIn w A H a c) :
  Calls Tryz.prog 33 #[.slice A H.n cp, .int .i64 ia, .int .i64 ib] w (Ret w (.tuple #[.int .i64 (kinR H ia ib).1, .int .i64 (kinR H ia ib).2, .int .i64 (kinC H ia ib)])) := by
 cases hh : herdB H with
 | false =>
  have hc : kinC H ia ib = 20 := by unfold kinC; rw [hh]; rfl
  have hr : kinR H ia ib = (0, 0) := by unfold kinR; rw [hc]; rfl
  rw [hr, hc]
  refine K_enterM (S := []) (K := []) Tryz.func33 rfl Tryz.ntmps33 rfl (Sat.start _) ?_
  refine TW.seqD fun Y1 hY1 => ?_
  refine TW.region ?_
  refine TL.m (Mk.al ty_zr3) ?_
  intro b1
  refine TL.m (Mk.al ty_zr3) ?_
  intro b2
  refine TL.m (Mk.al ty_zr32) ?_
  intro b3
  refine TL.nil ?_
  refine TQ.thenN (hY1 _ _ _ ?_)
  refine TW.seqD fun Y2 hY2 => ?_
  refine TW.region ?_
  refine TL.p Pu.mv ?_
  refine TL.call (M := []) rfl (enters Tryz.func69 rfl rfl) (List.Perm.refl _) rfl (fun w hw => by
   have h9 := open_any (cp := cp) (hI.sat hw)
   rw [hh] at h9
   exact h9) ?_
  rintro xo
  refine TL.p Pu.mv ?_
  refine TL.p Pu.ex ?_
  refine TL.p Pu.ex ?_
  refine TL.p Pu.as ?_
  first | refine TL.st ty_sz32 ?_ | refine TL.se ty_sz32 ?_
  refine TL.nil ?_
  refine TQ.thenN (hY2 _ _ _ ?_)
  refine TW.seqD fun Y3 hY3 => ?_
  refine TW.seqD fun Y4 hY4 => ?_
  refine TW.region ?_
  refine TL.p (Pu.ld ty_sc32) ?_
  refine TL.p Pu.ne ?_
  refine TL.nil ?_
  refine TQ.thenN (hY4 _ _ _ ?_)
  refine TW.condT rfl (rfl) ?_
  refine TW.seqD fun Y5 hY5 => ?_
  refine TW.np ?_
  refine TW.rf (Drop.blk 6 rfl pk9 (Drop.blk 7 rfl pk9 Drop.done)) ?_
  refine RF.tk (Pu.ld ty_sc32) ?_
  refine RF.ks ?_
  refine RF.ks ?_
  refine RF.ks ?_
  refine RF.go ?_
  refine RG.step fun X1 hX1 => ?_
  first | refine TL.st ty_sz3 ?_ | refine TL.se ty_sz3 ?_
  refine TL.nil ?_
  refine TQ.nxt (hX1 _ _ hl9 ?_)
  refine RG.step fun X2 hX2 => ?_
  first | refine TL.st ty_sz3 ?_ | refine TL.se ty_sz3 ?_
  refine TL.nil ?_
  refine TQ.nxt (hX2 _ _ hl9 ?_)
  refine RG.step fun X3 hX3 => ?_
  first | refine TL.st ty_sz32 ?_ | refine TL.se ty_sz32 ?_
  refine TL.nil ?_
  refine TQ.nxt (hX3 _ _ hl9 ?_)
  refine RG.nil ?_
  refine TQ.npN ?_
  refine TQ.thenN (hY5 _ _ _ ?_)
  refine TW.ret ?_
  refine TQ.thenR ?_
  refine TQ.retM0 Tryz.results33 ((RV.c1 ty_sc3 (RV.c1 ty_sc3 (RV.c1 ty_sc32 .nil)))) ?_
  exact fun w hw => ⟨rfl, Chg.ext hw.chg⟩
 | true =>
  have hk := herdB_ok.1 hh
  have h16 := hk.n16
  obtain ⟨i, hi9⟩ : ∃ i, i = (atH H ia).toNat := ⟨_, rfl⟩
  obtain ⟨j, hj9⟩ : ∃ j, j = (atH H ib).toNat := ⟨_, rfl⟩
  refine K_enterM (S := []) (K := []) Tryz.func33 rfl Tryz.ntmps33 rfl (Sat.start _) ?_
  refine TW.seqD fun Y1 hY1 => ?_
  refine TW.region ?_
  refine TL.m (Mk.al ty_zr3) ?_
  intro b1
  refine TL.m (Mk.al ty_zr3) ?_
  intro b2
  refine TL.m (Mk.al ty_zr32) ?_
  intro b3
  refine TL.nil ?_
  refine TQ.thenN (hY1 _ _ _ ?_)
  refine TW.seqD fun Y2 hY2 => ?_
  refine TW.region ?_
  refine TL.p Pu.mv ?_
  refine TL.call (M := []) rfl (enters Tryz.func69 rfl rfl) (List.Perm.refl _) rfl (fun w hw => by
   have h9 := open_any (cp := cp) (hI.sat hw)
   rw [hh] at h9
   exact h9) ?_
  rintro xo
  simp only [if_true, opK]
  refine TL.p Pu.mv ?_
  refine TL.p Pu.ex ?_
  refine TL.p Pu.ex ?_
  refine TL.p Pu.as ?_
  first | refine TL.st ty_sz32 ?_ | refine TL.se ty_sz32 ?_
  refine TL.nil ?_
  refine TQ.thenN (hY2 _ _ _ ?_)
  refine TW.seqD fun Y3 hY3 => ?_
  refine TW.seqD fun Y4 hY4 => ?_
  refine TW.region ?_
  refine TL.p (Pu.ld ty_sc32) ?_
  refine TL.p Pu.ne ?_
  refine TL.nil ?_
  refine TQ.thenN (hY4 _ _ _ ?_)
  refine TW.condF rfl (rfl) ?_
  refine TW.skip ?_
  refine TQ.thenN (hY3 _ _ _ ?_)
  refine TW.seqD fun Y5 hY5 => ?_
  refine TW.region ?_
  refine TL.p Pu.mv ?_
  refine TL.p (by first | exact Pu.nn | exact Pu.nc) ?_
  refine TL.p (by first | exact Pu.fb ty_fa106_1 | exact Pu.fe ty_fa106_1) ?_
  refine TL.p (Pu.ld ty_sc39) ?_
  refine TL.p Pu.mv ?_
  refine TL.p (Pu.lkV (.int .i64 (i : Int)) (decide (0 ≤ atH H ia)) ty_mp39 ty_zv3 (hi9 ▸ pl_n) pl_s) ?_
  refine TL.p Pu.mv ?_
  refine TL.p Pu.ex ?_
  refine TL.p Pu.ex ?_
  refine TL.p Pu.as ?_
  refine TL.p Pu.as ?_
  refine TL.nil ?_
  refine TQ.thenN (hY5 _ _ _ ?_)
  refine TW.seqD fun Y6 hY6 => ?_
  refine TW.region ?_
  refine TL.p Pu.mv ?_
  refine TL.p (by first | exact Pu.nn | exact Pu.nc) ?_
  refine TL.p (by first | exact Pu.fb ty_fa106_1 | exact Pu.fe ty_fa106_1) ?_
  refine TL.p (Pu.ld ty_sc39) ?_
  refine TL.p Pu.mv ?_
  refine TL.p (Pu.lkV (.int .i64 (j : Int)) (decide (0 ≤ atH H ib)) ty_mp39 ty_zv3 (hj9 ▸ pl_n) pl_s) ?_
  refine TL.p Pu.mv ?_
  refine TL.p Pu.ex ?_
  refine TL.p Pu.ex ?_
  refine TL.p Pu.as ?_
  refine TL.p Pu.as ?_
  refine TL.nil ?_
  refine TQ.thenN (hY6 _ _ _ ?_)
  refine TW.seqD fun Y7 hY7 => ?_
  refine TW.seqD fun Y8 hY8 => ?_
  refine TW.join [(47, .bool (!decide (0 ≤ atH H ia ∧ 0 ≤ atH H ib)))] ?_ (fun hJ1 => ?_)
  refine TQ.thenN (hY8 _ _ _ ?_)
  refine TW.cond rfl (fun hc1 => ?_) (fun hc1 => ?_)
  try simp only [zcb9] at hc1
  have hc : kinC H ia ib = 2 := by unfold kinC; rw [hh, if_pos rfl, if_neg (by simpa using hc1)]
  have hr : kinR H ia ib = (0, 0) := by unfold kinR; rw [hc]; rfl
  refine TW.seqD fun Y9 hY9 => ?_
  refine TW.region ?_
  first | refine TL.st ty_sz3 ?_ | refine TL.se ty_sz3 ?_
  first | refine TL.st ty_sz3 ?_ | refine TL.se ty_sz3 ?_
  first | refine TL.st ty_sz32 ?_ | refine TL.se ty_sz32 ?_
  refine TL.nil ?_
  refine TQ.thenN (hY9 _ _ _ ?_)
  refine TW.ret ?_
  refine TQ.thenR ?_
  refine TQ.retM0 Tryz.results33 ((RV.c1 ty_sc3 (RV.c1 ty_sc3 (RV.c1 ty_sc32 .nil)))) ?_
  exact fun w hw => ⟨by rw [hr, hc]; rfl, Chg.ext hw.chg⟩
  try simp only [zcb9] at hc1
  have hab : 0 ≤ atH H ia ∧ 0 ≤ atH H ib := by simpa using hc1
  obtain ⟨hil, hie⟩ := at_lt hab.1
  obtain ⟨hjl, hje⟩ := at_lt hab.2
  rw [← hi9] at hil hie
  rw [← hj9] at hjl hje
  refine TW.skip ?_
  refine TQ.thenN (hY7 _ _ _ ?_)
  refine TW.seqD fun Y10 hY10 => ?_
  refine TW.region ?_
  refine TL.p Pu.mv ?_
  refine TL.p Pu.mv ?_
  refine TL.call (M := []) rfl (enters Tryz.func82 rfl rfl) (List.Perm.refl _) rfl (fun w hw => by
   exact line_any) ?_
  rintro ⟨bi, bp⟩
  refine TL.call rfl (enters Tryz.func81 rfl rfl) (M := linM bi bp xo.1.1 j) (List.Perm.refl _) rfl (fun w hw => by
   have hw2 : Sat _ _ (linM bi bp xo.1.1 j ++ _) _ := hw
   exact collectLine_any (OldB.of_blk (hw.holds (.blk xo.1.1 106 [.slice A H.n cp, .map (some xo.1.2), .slice xo.2.1.1 H.n xo.2.1.2, .slice xo.2.2.1 H.n xo.2.2.2]) (by simp))) (Sat.apartB (t := 106) (cs := [.slice A H.n cp, .map (some xo.1.2), .slice xo.2.1.1 H.n xo.2.1.2, .slice xo.2.2.1 H.n xo.2.2.2]) hw2 (by simp)) (OwnR.rdr (hw.holds (.own xo.2.1.1 H.n xo.2.1.2 3 1 (fun j => [.int .i64 (moH H j)])) (by simp))) (Sat.apartO (n := H.n) (c := xo.2.1.2) (E := 3) (sz := 1) (r := fun j => [.int .i64 (moH H j)]) hw2 (by simp)) moH_Mo hk.ac hjl (by omega) (Has.sat ⟨_, List.Perm.refl _⟩ hw2).self) ?_
  rintro ⟨Al, cl⟩
  refine TL.m (Mk.al ty_zr28) ?_
  intro b4
  first | refine TL.st ty_sz28 ?_ | refine TL.se ty_sz28 ?_
  refine TL.nil ?_
  refine TQ.thenN (hY10 _ _ _ ?_)
  refine TW.seqD fun Y11 hY11 => ?_
  refine TW.rebaseK [.blk b1 3 [.int .i64 0], .blk b2 3 [.int .i64 0], .blk b3 32 [.int .i64 0], .own Al (depH (moH H) H.n j) cl 3 1 (fun s => [.int .i64 (upH (moH H) j s)]), .blk b4 28 [.slice Al (depH (moH H) H.n j) cl]] (opK H A cp xo) (by unfold opK; (repeat (first | exact KSub.nil | refine KSub.cons pk9 ?_))) fun w1 hw1 => ?_
  have hoB : OldB w1 xo.1.1 [.slice A H.n cp, .map (some xo.1.2), .slice xo.2.1.1 H.n xo.2.1.2, .slice xo.2.2.1 H.n xo.2.2.2] := OldB.of_blk (hw1.holds (.blk xo.1.1 106 [.slice A H.n cp, .map (some xo.1.2), .slice xo.2.1.1 H.n xo.2.1.2, .slice xo.2.2.1 H.n xo.2.2.2]) (by simp [opK]))
  have hSb := hw1.apartB (b := xo.1.1) (t := 106) (cs := [.slice A H.n cp, .map (some xo.1.2), .slice xo.2.1.1 H.n xo.2.1.2, .slice xo.2.2.1 H.n xo.2.2.2]) (by simp [opK])
  have hoM : RdR w1 1 xo.2.1.1 H.n (fun j => [.int .i64 (moH H j)]) := OwnR.rdr (hw1.holds (.own xo.2.1.1 H.n xo.2.1.2 3 1 (fun j => [.int .i64 (moH H j)])) (by simp [opK]))
  have hSm := hw1.apartO (A := xo.2.1.1) (n := H.n) (c := xo.2.1.2) (E := 3) (sz := 1) (r := fun j => [.int .i64 (moH H j)]) (by simp [opK])
  have hdj := dep_le (f := moH H) (n := H.n) (i := j)
  have hdi := dep_le (f := moH H) (n := H.n) (i := i)
  refine TW.seqD fun Y12 hY12 => ?_
  refine TW.region ?_
  refine TL.p Pu.mv ?_
  refine TL.p Pu.mv ?_
  refine TL.call (M := []) rfl (enters Tryz.func82 rfl rfl) (List.Perm.refl _) rfl (fun w hw => by
   exact line_any) ?_
  rintro ⟨bi, bp⟩
  refine TL.nil ?_
  refine TQ.thenN (hY12 _ _ _ ?_)
  refine TW.block ?_
  refine TW.rangeR (fun (q : Nat) (r : Int) => if allB q (fun u => !kinM (moH H) H.n i j u) = true then .blk b1 3 [.int .i64 (q : Int)] :: .blk b2 3 [.int .i64 r] :: .blk b3 32 [.int .i64 0] :: .own Al (depH (moH H) H.n j) cl 3 1 (fun s => [.int .i64 (upH (moH H) j s)]) :: .blk b4 28 [.slice Al (depH (moH H) H.n j) cl] :: [] else [badF]) (fun _ : { u : Nat // u < depH (moH H) H.n i ∧ kinU (moH H) H.n i j = u } => Code.ret) (fun u => .blk b1 3 [.int .i64 (u.1 : Int)] :: .blk b2 3 [.int .i64 (atI (fun d => decide (upH (moH H) i u.1 = upH (moH H) j d)) (depH (moH H) H.n j))] :: .blk b3 32 [.int .i64 0] :: []) (0) (fun x y => line1_iter (N := depH (moH H) H.n i) (bi := bi) (bp := bp) (i := i) hoB hSb hoM hSm moH_Mo hil (.inl ⟨rfl, hk.ac i hil⟩)) ?_ ?_ ?_ ?_ (eg := enters Tryz.func107 rfl rfl)
  show KSub _ (linM bi bp xo.1.1 i ++ (if allB 0 (fun u => !kinM (moH H) H.n i j u) = true then _ else _))
  rw [if_pos allB_zero]
  exact KSub.cons pk9 (KSub.cons pk9 (KSub.cons pk9 (KSub.cons pk9 (KSub.cons pk9 (KSub.cons pk9 (KSub.cons pk9 KSub.nil))))))
  rintro lR DR oR oR1 oR2 q g r hq ZR0 hZR0
  by_cases hno : allB q (fun u => !kinM (moH H) H.n i j u) = true
  case neg => exact fun a w hF hK => (no_bad hK (by rw [if_neg hno]; simp)).elim
  simp only [if_pos hno, linM, List.cons_append, List.nil_append]
  refine TWi.region ?_
  refine TL.p Pu.as ?_
  refine TL.nil ?_
  refine TQ.thenN (hZR0 _ _ _ Pick.hd ?_)
  refine TWi.block ?_
  refine TWi.seq fun Y13 hY13 => ?_
  refine TWi.seq fun Y14 hY14 => ?_
  refine TWi.region ?_
  refine TL.p (Pu.ld ty_sc28) ?_
  refine TL.p Pu.mv ?_
  refine TL.cr rfl (enters Tryz.func83 rfl rfl) (fun w hw => by
   exact bIndex_any (v := fun s => upH (moH H) j s) (upH (moH H) i q) (by omega) (OwnR.rdr (hw.holds (.own Al (depH (moH H) H.n j) cl 3 1 (fun s => [.int .i64 (upH (moH H) j s)])) (by simp)))) ?_
  first | refine TL.st ty_sz3 ?_ | refine TL.se ty_sz3 ?_
  refine TL.nil (TQ.thenN (hY14 _ _ ?_))
  refine TWi.seq fun Y15 hY15 => ?_
  refine TWi.region ?_
  refine TL.p (Pu.ld ty_sc3) ?_
  refine TL.p Pu.ge ?_
  refine TL.nil (TQ.thenN (hY15 _ _ ?_))
  refine TWi.cond rfl (fun hc2 => ?_) (fun hc2 => ?_)
  try simp only [zcb9] at hc2
  have hyes : kinM (moH H) H.n i j q = true := by rw [← kin_at]; exact decide_eq_true hc2
  have hUq : kinU (moH H) H.n i j = q := fst1_uniq (Nat.le_of_lt hq) (fun u hu => by have := allB_iff.1 hno u hu; simpa using this) (fun _ => hyes)
  refine TWi.seq fun Y16 hY16 => ?_
  refine TWi.rf (Drop.blk 8 rfl pk9 Drop.done) ?_
  refine RF.tk (Pu.ld ty_sc3) ?_
  refine RF.tk (Pu.ld ty_sc3) ?_
  refine RF.ks ?_
  refine RF.ks ?_
  refine RF.ks ?_
  refine RF.go ?_
  refine RG.step fun X1 hX1 => ?_
  first | refine TL.st ty_sz3 ?_ | refine TL.se ty_sz3 ?_
  refine TL.nil ?_
  refine TQ.nxt (hX1 _ _ hl9 ?_)
  refine RG.step fun X2 hX2 => ?_
  first | refine TL.st ty_sz3 ?_ | refine TL.se ty_sz3 ?_
  refine TL.nil ?_
  refine TQ.nxt (hX2 _ _ hl9 ?_)
  refine RG.step fun X3 hX3 => ?_
  first | refine TL.st ty_sz32 ?_ | refine TL.se ty_sz32 ?_
  refine TL.nil ?_
  refine TQ.nxt (hX3 _ _ hl9 ?_)
  refine RG.nil ?_
  refine TQ.thenN (hY16 _ _ ?_)
  refine TWi.ret ?_
  refine TQ.thenR ?_
  refine TQ.blkR ?_
  refine TQ.rbR (⟨q, hq, hUq⟩) rfl ?_
  simp only [linM, List.cons_append, List.nil_append]
  exact KSub.cons pk9 (KSub.cons pk9 (KSub.cons pk9 (KSub.cons pk9 (KSub.cons pk9 (KSub.cons pk9 (KSub.cons pk9 KSub.nil))))))
  try simp only [zcb9] at hc2
  have hnot : kinM (moH H) H.n i j q = false := by rw [← kin_at]; exact decide_eq_false (by omega)
  have hno1 : allB (q + 1) (fun u => !kinM (moH H) H.n i j u) = true := by rw [allB_succ, hno, hnot]; rfl
  refine TWi.skip ?_
  refine TQ.thenN (hY13 _ _ ?_)
  refine TWi.region ?_
  refine TL.p (Pu.ld ty_sc3) ?_
  refine TL.p Pu.ad ?_
  first | refine TL.st ty_sz3 ?_ | refine TL.se ty_sz3 ?_
  refine TL.nil ?_
  refine TQ.blkN ?_
  refine TQ.rbN ((atI (fun d => decide (upH (moH H) i q = upH (moH H) j d)) (depH (moH H) H.n j))) ?_
  simp only [if_pos hno1, linM, List.cons_append, List.nil_append]
  exact KSub.cons pk9 (KSub.cons pk9 (KSub.cons pk9 (KSub.cons pk9 (KSub.valI pk9 (by omega) (KSub.cons pk9 (KSub.cons pk9 (KSub.cons pk9 (KSub.cons pk9 KSub.nil))))))))
  rintro DR r
  by_cases hno : allB (depH (moH H) H.n i) (fun u => !kinM (moH H) H.n i j u) = true
  case neg => exact fun a w hF hK => (no_bad hK (by rw [if_neg hno]; simp)).elim
  simp only [if_pos hno, List.nil_append]
  have hU : kinU (moH H) H.n i j = depH (moH H) H.n i := fst1_uniq (Nat.le_refl _) (fun u hu => by have := allB_iff.1 hno u hu; simpa using this) (fun h => by omega)
  have hc : kinC H ia ib = 6 := by unfold kinC; rw [hh, if_pos rfl, if_pos hab, ← hi9, ← hj9, hU, if_neg (by omega)]
  have hr : kinR H ia ib = (0, 0) := by unfold kinR; rw [hc]; rfl
  refine TQ.blkN ?_
  refine TQ.thenN (hY11 _ _ _ ?_)
  refine TW.seqD fun Y17 hY17 => ?_
  refine TW.region ?_
  first | refine TL.st ty_sz3 ?_ | refine TL.se ty_sz3 ?_
  first | refine TL.st ty_sz3 ?_ | refine TL.se ty_sz3 ?_
  first | refine TL.st ty_sz32 ?_ | refine TL.se ty_sz32 ?_
  refine TL.nil ?_
  refine TQ.thenN (hY17 _ _ _ ?_)
  refine TW.ret ?_
  refine TQ.retM Tryz.results33 pk9 ((RV.c1 ty_sc3 (RV.c1 ty_sc3 (RV.c1 ty_sc32 .nil)))) ?_
  exact fun w hw => ⟨by rw [hr, hc]; rfl, Chg.ext (hw1.step hw).chg⟩
  rintro DR ⟨u, hu1, hu2⟩
  have hc : kinC H ia ib = 0 := by unfold kinC; rw [hh, if_pos rfl, if_pos hab, ← hi9, ← hj9, hu2, if_pos hu1]
  have hr : kinR H ia ib = ((u : Int), atI (fun d => decide (upH (moH H) i u = upH (moH H) j d)) (depH (moH H) H.n j)) := by unfold kinR kinD; rw [if_pos hc, ← hi9, ← hj9, hu2]
  refine TW.ret ?_
  refine TQ.blkR ?_
  refine TQ.thenR ?_
  refine TQ.retM Tryz.results33 pk9 ((RV.c1 ty_sc3 (RV.c1 ty_sc3 (RV.c1 ty_sc32 .nil)))) ?_
  exact fun w hw => ⟨by rw [hr, hc]; rfl, Chg.ext (hw1.step hw).chg⟩
  refine TW.region ?_
  refine TL.p Pu.mv ?_
  refine TL.p Pu.no ?_
  refine TL.p Pu.mv ?_
  refine TL.guard (t := 44) rfl (fun hg1 => ?_) (fun hg1 => ?_)
  try simp only [zgb9] at hg1
  refine TL.gs ?_
  refine TL.gs ?_
  refine TL.p Pu.kt ?_
  refine TL.nil ?_
  exact TQ.sub (by repeat (first | exact trivial | refine ⟨rfl, ?_⟩ | refine ⟨trivial, ?_⟩ | refine ⟨(by show some (Value.bool _) = some (Value.bool _); first | (simp [hg1]; done) | (refine congrArg (fun z => some (Value.bool z)) (Bool.eq_iff_iff.2 ?_); simp [hg1]; omega)), ?_⟩)) kt9 hJ1
  try simp only [zgb9] at hg1
  refine TL.gd Pu.mv ?_
  refine TL.gd Pu.no ?_
  refine TL.p Pu.kf ?_
  refine TL.nil ?_
  exact TQ.sub (by repeat (first | exact trivial | refine ⟨rfl, ?_⟩ | refine ⟨trivial, ?_⟩ | refine ⟨(by show some (Value.bool _) = some (Value.bool _); first | (simp [hg1]; done) | (refine congrArg (fun z => some (Value.bool z)) (Bool.eq_iff_iff.2 ?_); simp [hg1]; omega)), ?_⟩)) kt9 hJ1
end Go.Proofs.YtbenhafhklfhmaaGreat
namespace Go.Proofs.YtbenhafhklfhmaaGreat
set_option linter.all false
set_option linter.unusedVariables false
set_option linter.unusedSimpArgs false
open Go.RowKit
theorem rWithin_any (a lo hi : Int) (w : World) : Calls Tryz.prog 64 #[.int .i64 a, .int .i64 lo, .int .i64 hi] w (Ret w (.bool (inB5 lo hi a))) := by
 refine K_enter (S := []) (K := []) Tryz.func64 rfl Tryz.ntmps64 rfl (Sat.start _) ?_
 refine TW.seq fun Y1 hY1 => TW.region ?_
 refine TL.p Pu.as ?_
 refine TL.nil (TQ.thenN (hY1 _ _ ?_))
 refine TW.seq fun Y2 hY2 => ?_
 refine TW.join [(6, .bool (inB5 lo hi a))] ?_ (fun hJ1 => ?_)
 refine TQ.thenN (hY2 _ _ ?_)
 refine TW.ret ?_
 refine TQ.ret Tryz.results64 rfl ((.tmp rfl .nil)) ?_
 exact fun w hw => Ret.of hw
 refine TW.region ?_
 refine TL.p Pu.mv ?_
 refine TL.p Pu.mv ?_
 refine TL.p Pu.ge ?_
 refine TL.p Pu.mv ?_
 refine TL.guard (t := 10) rfl (fun hg1 => ?_) (fun hg1 => ?_)
 refine TL.gd Pu.mv ?_
 refine TL.gd Pu.mv ?_
 refine TL.gd Pu.le ?_
 refine TL.p Pu.kt ?_
 refine TL.p Pu.as ?_
 refine TL.nil ?_
 exact TQ.sub (by repeat (first | exact trivial | refine ⟨rfl, ?_⟩ | refine ⟨trivial, ?_⟩ | refine ⟨(by show some (Value.bool _) = some (Value.bool _); first | (simp [hg1, inB5]; done) | (refine congrArg (fun z => some (Value.bool z)) (Bool.eq_iff_iff.2 ?_); simp [hg1, inB5]; omega)), ?_⟩)) ks9 hJ1
 refine TL.gs ?_
 refine TL.gs ?_
 refine TL.gs ?_
 refine TL.p Pu.kf ?_
 refine TL.p Pu.as ?_
 refine TL.nil ?_
 exact TQ.sub (by repeat (first | exact trivial | refine ⟨rfl, ?_⟩ | refine ⟨trivial, ?_⟩ | refine ⟨(by show some (Value.bool _) = some (Value.bool _); first | (simp [hg1, inB5]; done) | (refine congrArg (fun z => some (Value.bool z)) (Bool.eq_iff_iff.2 ?_); simp [hg1, inB5]; omega)), ?_⟩)) ks9 hJ1
theorem rOrdered_any (a b lo hi : Int) (w : World) : Calls Tryz.prog 100 #[.agg #[.int .i64 a, .int .i64 b], .int .i64 lo, .int .i64 hi] w (Ret w (.bool (ordB5 lo hi a b))) := by
 refine K_enter (S := []) (K := []) Tryz.func100 rfl Tryz.ntmps100 rfl (Sat.start _) ?_
 refine TW.seq fun Y1 hY1 => TW.region ?_
 refine TL.m Mk.bx ?_
 intro b1
 refine TL.p Pu.as ?_
 refine TL.nil (TQ.thenN (hY1 _ _ ?_))
 refine TW.seq fun Y2 hY2 => ?_
 refine TW.join [(6, .bool (ordB5 lo hi a b))] ?_ (fun hJ1 => ?_)
 refine TQ.thenN (hY2 _ _ ?_)
 refine TW.ret ?_
 refine TQ.ret Tryz.results100 rfl ((.tmp rfl .nil)) ?_
 exact fun w hw => Ret.of hw
 refine TW.region ?_
 refine TL.p (by first | exact Pu.fb ty_fa36_0 | exact Pu.fe ty_fa36_0) ?_
 refine TL.p (Pu.ld ty_sc3) ?_
 refine TL.p Pu.mv ?_
 refine TL.p Pu.ge ?_
 refine TL.p Pu.mv ?_
 refine TL.guard (t := 11) rfl (fun hg1 => ?_) (fun hg1 => ?_)
 refine TL.gd (by first | exact Pu.fb ty_fa36_0 | exact Pu.fe ty_fa36_0) ?_
 refine TL.gd (Pu.ld ty_sc3) ?_
 refine TL.gd (by first | exact Pu.fb ty_fa36_1 | exact Pu.fe ty_fa36_1) ?_
 refine TL.gd (Pu.ld ty_sc3) ?_
 refine TL.gd Pu.le ?_
 refine TL.p Pu.kt ?_
 refine TL.p Pu.mv ?_
 refine TL.guard (t := 18) rfl (fun hg2 => ?_) (fun hg2 => ?_)
 refine TL.gd (by first | exact Pu.fb ty_fa36_1 | exact Pu.fe ty_fa36_1) ?_
 refine TL.gd (Pu.ld ty_sc3) ?_
 refine TL.gd Pu.mv ?_
 refine TL.gd Pu.le ?_
 refine TL.p Pu.kt ?_
 refine TL.p Pu.as ?_
 refine TL.nil ?_
 exact TQ.sub (by repeat (first | exact trivial | refine ⟨rfl, ?_⟩ | refine ⟨trivial, ?_⟩ | refine ⟨(by show some (Value.bool _) = some (Value.bool _); first | (simp [hg1, hg2, ordB5]; done) | (refine congrArg (fun z => some (Value.bool z)) (Bool.eq_iff_iff.2 ?_); simp [hg1, hg2, ordB5]; omega)), ?_⟩)) ks9 hJ1
 refine TL.gs ?_
 refine TL.gs ?_
 refine TL.gs ?_
 refine TL.gs ?_
 refine TL.p Pu.kf ?_
 refine TL.p Pu.as ?_
 refine TL.nil ?_
 exact TQ.sub (by repeat (first | exact trivial | refine ⟨rfl, ?_⟩ | refine ⟨trivial, ?_⟩ | refine ⟨(by show some (Value.bool _) = some (Value.bool _); first | (simp [hg1, hg2, ordB5]; done) | (refine congrArg (fun z => some (Value.bool z)) (Bool.eq_iff_iff.2 ?_); simp [hg1, hg2, ordB5]; omega)), ?_⟩)) ks9 hJ1
 refine TL.gs ?_
 refine TL.gs ?_
 refine TL.gs ?_
 refine TL.gs ?_
 refine TL.gs ?_
 refine TL.p Pu.kf ?_
 refine TL.p Pu.mv ?_
 refine TL.gs ?_
 refine TL.gs ?_
 refine TL.gs ?_
 refine TL.gs ?_
 refine TL.p Pu.kf ?_
 refine TL.p Pu.as ?_
 refine TL.nil ?_
 exact TQ.sub (by repeat (first | exact trivial | refine ⟨rfl, ?_⟩ | refine ⟨trivial, ?_⟩ | refine ⟨(by show some (Value.bool _) = some (Value.bool _); first | (simp [hg1, ordB5]; done) | (refine congrArg (fun z => some (Value.bool z)) (Bool.eq_iff_iff.2 ?_); simp [hg1, ordB5]; omega)), ?_⟩)) ks9 hJ1
set_option maxRecDepth 100000 in
theorem rAt_any {w : World} {A : Option Addr} {cp : Nat} {H : Hd} {a : Nat → Option Addr} {c : Nat → Nat} (x : Int) (hn : H.n ≤ 1000) (hR : RdR w 5 A H.n (fun i => anL H a c i)) :
  Calls Tryz.prog 101 #[.slice A H.n cp, .int .i64 x] w (Ret w (.int .i64 (atH H x))) := by
 refine K_enter (S := []) (K := []) Tryz.func101 rfl Tryz.ntmps101 rfl (Sat.start _) ?_
 refine TW.seq fun Y1 hY1 => TW.region ?_
 refine TL.p Pu.as ?_
 refine TL.nil (TQ.thenN (hY1 _ _ ?_))
 refine TW.seq fun Y2 hY2 => ?_
 refine TW.seq fun Y3 hY3 => TW.region ?_
 refine TL.p Pu.as ?_
 refine TL.nil (TQ.thenN (hY3 _ _ ?_))
 refine TW.block ?_
 refine TW.loop1 (fun (k : Nat) => [(5, .int .i64 (k : Int)), (0, .slice A H.n cp), (1, .int .i64 x)]) (fun k => []) (fun k => k ≤ H.n ∧ ∀ j, j < k → H.id j ≠ x) (fun k => H.n - k) 0 fs9 ?_ ?_ ?_
 exact ks9
 exact ⟨Nat.zero_le _, fun j hj => by omega⟩
 rintro k ⟨hk, hno⟩ Z0 hZ0
 refine TW.seq fun Y4 hY4 => ?_
 refine TW.seq fun Y5 hY5 => TW.region ?_
 refine TL.p Pu.mv ?_
 refine TL.p Pu.mv ?_
 refine TL.p (Pu.ln Tryz.underlying22) ?_
 refine TL.p Pu.lt ?_
 refine TL.nil (TQ.thenN (hY5 _ _ ?_))
 refine TW.cond rfl (fun hc0 => ?_) (fun hc0 => ?_)
 try simp only [zcb9] at hc0
 have hkn : k < H.n := by omega
 refine TW.skip ?_
 refine TQ.thenN (hY4 _ _ ?_)
 refine TW.seq fun Y6 hY6 => ?_
 refine TW.block ?_
 refine TW.seq fun Y7 hY7 => TW.region ?_
 refine TL.p Pu.mv ?_
 refine TL.p Pu.mv ?_
 refine TL.p (Pu.el ty_et22) ?_
 refine TL.p (by first | exact Pu.fb ty_fa46_0 | exact Pu.fe ty_fa46_0) ?_
 refine TL.p (Pu.ld ty_sc3) ?_
 refine TL.p Pu.mv ?_
 refine TL.p Pu.eq ?_
 refine TL.nil (TQ.thenN (hY7 _ _ ?_))
 refine TW.cond rfl (fun hc1 => ?_) (fun hc1 => ?_)
 try simp only [zcb9] at hc1
 refine TW.seq fun Y8 hY8 => TW.region ?_
 refine TL.p Pu.mv ?_
 refine TL.p Pu.as ?_
 refine TL.nil (TQ.thenN (hY8 _ _ ?_))
 refine TW.ret ?_
 refine TQ.blkR ?_
 refine TQ.thenR ?_
 refine TQ.thenR ?_
 refine TQ.blkR ?_
 refine TQ.thenR ?_
 refine TQ.ret Tryz.results101 rfl ((.tmp rfl .nil)) ?_
 have e : atH H x = (k : Int) := atI_eq (p := fun j => decide (H.id j = x)) hkn (by simpa using hc1) (fun j hj => by simpa using hno j hj)
 exact fun w hw => ⟨by rw [e]; rfl, Chg.ext hw.chg⟩
 try simp only [zcb9] at hc1
 refine TW.skip ?_
 refine TQ.blkN ?_
 refine TQ.thenN (hY6 _ _ ?_)
 refine TW.region ?_
 refine TL.p Pu.mv ?_
 refine TL.p Pu.ad ?_
 refine TL.p Pu.as ?_
 refine TL.nil ?_
 refine TQ.thenN (hZ0 (k + 1) _ _ ?_ ?_ fs9 ?_)
 refine ⟨by omega, fun j hj => ?_⟩
 by_cases e : j = k
 subst e; exact hc1
 exact hno j (by omega)
 exact zom9
 exact ks9
 try simp only [zcb9] at hc0
 obtain rfl : k = H.n := by omega
 refine TW.exit ?_
 refine TQ.thenX ?_
 refine TQ.thenX ?_
 refine TQ.blkX ?_
 refine TQ.thenN (hY2 _ _ ?_)
 refine TW.seq fun Y9 hY9 => TW.region ?_
 refine TL.p Pu.as ?_
 refine TL.nil (TQ.thenN (hY9 _ _ ?_))
 refine TW.ret ?_
 refine TQ.ret Tryz.results101 rfl ((.tmp rfl .nil)) ?_
 have e : atH H x = -1 := atI_none (p := fun j => decide (H.id j = x)) (fun j hj => by simpa using hno j hj)
 exact fun w hw => ⟨by rw [e]; rfl, Chg.ext hw.chg⟩
def headB (H : Hd) (i : Nat) : Bool := inB5 0 9999 (H.id i) && decide (atH H (H.id i) = (i : Int)) && an2B H i && ordB5 (-100000) 100000 (H.lo i) (H.hi i)
theorem an_head {H : Hd} {i : Nat} : (an1B H i && an2B H i) = (headB H i && marksB H i) := by
 unfold an1B headB
 cases inB5 0 9999 (H.id i) <;> cases decide (atH H (H.id i) = (i : Int)) <;> cases an2B H i <;> cases ordB5 (-100000) 100000 (H.lo i) (H.hi i) <;> cases marksB H i <;> rfl
theorem head_no {H : Hd} {i : Nat} (hi : i < H.n) (h : (headB H i && marksB H i) = false) : herdB H = false := by
 rw [← an_head, Bool.and_eq_false_iff] at h
 rcases h with h | h
 · exact herd_no1 hi h
 · exact herd_no2 hi h
set_option maxRecDepth 100000 in
set_option maxHeartbeats 2000000 in
theorem rHerd_any {w : World} {A : Option Addr} {cp : Nat} {H : Hd} {a : Nat → Option Addr} {c : Nat → Nat} (hI : HIn w A H a c) :
  Calls Tryz.prog 84 #[.slice A H.n cp] w (Ret w (.bool (herdB H))) := by
 have hn := hI.hn
 have hR := hI.hR
 refine K_enter (S := []) (K := []) Tryz.func84 rfl Tryz.ntmps84 rfl (Sat.start _) ?_
 refine TW.seq fun Y1 hY1 => TW.region ?_
 refine TL.p Pu.as ?_
 refine TL.nil (TQ.thenN (hY1 _ _ ?_))
 refine TW.seq fun Y2 hY2 => ?_
 refine TW.seq fun Y3 hY3 => TW.region ?_
 refine TL.p Pu.mv ?_
 refine TL.p (Pu.ln Tryz.underlying22) ?_
 refine TL.p Pu.gt ?_
 refine TL.nil (TQ.thenN (hY3 _ _ ?_))
 refine TW.cond rfl (fun hc0 => ?_) (fun hc0 => ?_)
 try simp only [zcb9] at hc0
 refine TW.seq fun Y4 hY4 => TW.region ?_
 refine TL.p Pu.as ?_
 refine TL.nil (TQ.thenN (hY4 _ _ ?_))
 refine TW.ret ?_
 refine TQ.thenR ?_
 refine TQ.ret Tryz.results84 rfl ((.tmp rfl .nil)) ?_
 have hno := herd_no0 (H := H) hc0
 exact fun w hw => ⟨by rw [hno]; rfl, Chg.ext hw.chg⟩
 try simp only [zcb9] at hc0
 have h16 : (H.n : Int) ≤ 16 := by omega
 refine TW.skip ?_
 refine TQ.thenN (hY2 _ _ ?_)
 refine TW.seq fun Y5 hY5 => ?_
 refine TW.seq fun Y6 hY6 => TW.region ?_
 refine TL.p Pu.as ?_
 refine TL.nil (TQ.thenN (hY6 _ _ ?_))
 refine TW.block ?_
 refine TW.loop1 (fun (i : Nat) => [(3, .int .i64 (i : Int)), (0, .slice A H.n cp)]) (fun i => []) (fun i => i ≤ H.n ∧ ∀ j, j < i → (headB H j && marksB H j) = true) (fun i => H.n - i) 0 fs9 ?_ ?_ ?_
 exact ks9
 exact ⟨Nat.zero_le _, fun j hj => by omega⟩
 rintro i ⟨hi, h1⟩ Z0 hZ0
 refine TW.seq fun Y7 hY7 => ?_
 refine TW.seq fun Y8 hY8 => TW.region ?_
 refine TL.p Pu.mv ?_
 refine TL.p Pu.mv ?_
 refine TL.p (Pu.ln Tryz.underlying22) ?_
 refine TL.p Pu.lt ?_
 refine TL.nil (TQ.thenN (hY8 _ _ ?_))
 refine TW.cond rfl (fun hc1 => ?_) (fun hc1 => ?_)
 try simp only [zcb9] at hc1
 have hin : i < H.n := by omega
 have hml := hI.hl i hin
 have hMi := hI.hM i hin
 refine TW.skip ?_
 refine TQ.thenN (hY7 _ _ ?_)
 refine TW.seq fun Y9 hY9 => ?_
 refine TW.block ?_
 refine TW.seq fun Y10 hY10 => TW.region ?_
 refine TL.p Pu.mv ?_
 refine TL.p Pu.mv ?_
 refine TL.p (Pu.el ty_et22) ?_
 refine TL.p (Pu.lds ty_ag46) ?_
 refine TL.m (Mk.al ty_zr46) ?_
 intro b1
 first | refine TL.st ty_sz46 ?_ | refine TL.se ty_sz46 ?_
 refine TL.nil (TQ.thenN (hY10 _ _ ?_))
 refine TW.seq fun Y11 hY11 => ?_
 refine TW.seq fun Y12 hY12 => ?_
 refine TW.join [(52, .bool (!headB H i))] ?_ (fun hJ1 => ?_)
 refine TQ.thenN (hY12 _ _ ?_)
 refine TW.cond rfl (fun hc2 => ?_) (fun hc2 => ?_)
 try simp only [zcb9] at hc2
 have hno := head_no hin (by rw [show headB H i = false from hc2]; rfl)
 refine TW.seq fun Y13 hY13 => TW.region ?_
 refine TL.p Pu.as ?_
 refine TL.nil (TQ.thenN (hY13 _ _ ?_))
 refine TW.ret ?_
 refine TQ.thenR ?_
 refine TQ.blkR ?_
 refine TQ.thenR ?_
 refine TQ.thenR ?_
 refine TQ.blkR ?_
 refine TQ.thenR ?_
 refine TQ.ret Tryz.results84 rfl ((.tmp rfl .nil)) ?_
 exact fun w hw => ⟨by rw [hno]; rfl, Chg.ext hw.chg⟩
 try simp only [zcb9] at hc2
 have hhd : headB H i = true := hc2
 refine TW.skip ?_
 refine TQ.thenN (hY11 _ _ ?_)
 refine TW.seq fun Y14 hY14 => TW.region ?_
 refine TL.p Pu.as ?_
 refine TL.nil (TQ.thenN (hY14 _ _ ?_))
 refine TW.block ?_
 refine TW.loop1 (fun (k : Nat) => [(5, .int .i64 (k : Int)), (4, .pointer (some ⟨b1, 0, none⟩)), (3, .int .i64 (i : Int)), (0, .slice A H.n cp)]) (fun k => [.blk b1 46 (anL H a c i)]) (fun k => k ≤ H.ml i ∧ ∀ q, q < k → markB H i q = true) (fun k => H.ml i - k) 0 fs9 ?_ ?_ ?_
 exact ks9
 exact ⟨Nat.zero_le _, fun j hj => by omega⟩
 rintro k ⟨hk, hm⟩ Z1 hZ1
 refine TW.seq fun Y15 hY15 => ?_
 refine TW.seq fun Y16 hY16 => TW.region ?_
 refine TL.p Pu.mv ?_
 refine TL.p (by first | exact Pu.fb ty_fa46_3 | exact Pu.fe ty_fa46_3) ?_
 refine TL.p (Pu.ld ty_sc44) ?_
 refine TL.p (Pu.ln Tryz.underlying44) ?_
 refine TL.p Pu.lt ?_
 refine TL.nil (TQ.thenN (hY16 _ _ ?_))
 refine TW.cond rfl (fun hc3 => ?_) (fun hc3 => ?_)
 try simp only [zcb9] at hc3
 have hkl : k < H.ml i := by omega
 refine TW.skip ?_
 refine TQ.thenN (hY15 _ _ ?_)
 refine TW.seq fun Y17 hY17 => ?_
 refine TW.block ?_
 refine TW.seq fun Y18 hY18 => ?_
 refine TW.seq fun Y19 hY19 => ?_
 refine TW.join [(77, .bool (!(inB5 0 7 (H.sp i k) && inB5 1 20 (H.sg i k))))] ?_ (fun hJ2 => ?_)
 refine TQ.thenN (hY19 _ _ ?_)
 refine TW.cond rfl (fun hc4 => ?_) (fun hc4 => ?_)
 try simp only [zcb9] at hc4
 have hbad : (inB5 0 7 (H.sp i k) && inB5 1 20 (H.sg i k)) = false := by rw [Bool.and_eq_false_iff]; exact hc4
 have hno := head_no hin (by rw [marks_no hkl (by unfold markB; rw [hbad]; rfl), Bool.and_false])
 refine TW.seq fun Y20 hY20 => TW.region ?_
 refine TL.p Pu.as ?_
 refine TL.nil (TQ.thenN (hY20 _ _ ?_))
 refine TW.ret ?_
 refine TQ.thenR ?_
 refine TQ.blkR ?_
 refine TQ.thenR ?_
 refine TQ.thenR ?_
 refine TQ.blkR ?_
 refine TQ.blkR ?_
 refine TQ.thenR ?_
 refine TQ.thenR ?_
 refine TQ.blkR ?_
 refine TQ.thenR ?_
 refine TQ.ret Tryz.results84 rfl ((.tmp rfl .nil)) ?_
 exact fun w hw => ⟨by rw [hno]; rfl, Chg.ext hw.chg⟩
 try simp only [zcb9] at hc4
 have hgood : (inB5 0 7 (H.sp i k) && inB5 1 20 (H.sg i k)) = true := by simpa using hc4
 refine TW.skip ?_
 refine TQ.thenN (hY18 _ _ ?_)
 refine TW.seq fun Y21 hY21 => TW.region ?_
 refine TL.p Pu.as ?_
 refine TL.nil (TQ.thenN (hY21 _ _ ?_))
 refine TW.block ?_
 refine TW.loop1 (fun (q : Nat) => [(6, .int .i64 (q : Int)), (5, .int .i64 (k : Int)), (4, .pointer (some ⟨b1, 0, none⟩)), (3, .int .i64 (i : Int)), (0, .slice A H.n cp)]) (fun q => [.blk b1 46 (anL H a c i)]) (fun q => q ≤ k ∧ ∀ r, r < q → H.sp i r ≠ H.sp i k) (fun q => k - q) 0 fs9 ?_ ?_ ?_
 exact ks9
 exact ⟨Nat.zero_le _, fun j hj => by omega⟩
 rintro q ⟨hq, hs⟩ Z2 hZ2
 refine TW.seq fun Y22 hY22 => ?_
 refine TW.seq fun Y23 hY23 => TW.region ?_
 refine TL.p Pu.mv ?_
 refine TL.p Pu.mv ?_
 refine TL.p Pu.lt ?_
 refine TL.nil (TQ.thenN (hY23 _ _ ?_))
 refine TW.cond rfl (fun hc5 => ?_) (fun hc5 => ?_)
 try simp only [zcb9] at hc5
 have hqk : q < k := by omega
 refine TW.skip ?_
 refine TQ.thenN (hY22 _ _ ?_)
 refine TW.seq fun Y24 hY24 => ?_
 refine TW.block ?_
 refine TW.seq fun Y25 hY25 => ?_
 refine TW.dw 13 ?_
 refine RK.tk (by first | exact Pu.fb ty_fa46_3 | exact Pu.fe ty_fa46_3) ?_
 refine RK.tk (Pu.ld ty_sc44) ?_
 refine RK.tk Pu.mv ?_
 refine RK.tk (Pu.el ty_et44) ?_
 refine RK.tk (by first | exact Pu.fb ty_fa87_0 | exact Pu.fe ty_fa87_0) ?_
 refine RK.tk (Pu.ld ty_sc3) ?_
 refine RK.tk (by first | exact Pu.fb ty_fa46_3 | exact Pu.fe ty_fa46_3) ?_
 refine RK.tk (Pu.ld ty_sc44) ?_
 refine RK.tk Pu.mv ?_
 refine RK.tk (Pu.el ty_et44) ?_
 refine RK.tk (by first | exact Pu.fb ty_fa87_0 | exact Pu.fe ty_fa87_0) ?_
 refine RK.tk (Pu.ld ty_sc3) ?_
 refine RK.tk Pu.eq ?_
 refine RK.ch [] ?_ trivial
 refine WK.n ?_
 refine TL.nil (TQ.thenN (hY25 _ _ ?_))
 refine TW.cond rfl (fun hc6 => ?_) (fun hc6 => ?_)
 try simp only [zcb9] at hc6
 have hno := head_no hin (by rw [marks_no hkl (by unfold markB; rw [hgood, Bool.true_and, Bool.eq_false_iff]; intro h; have := allB_iff.1 h q hqk; simp [hc6] at this), Bool.and_false])
 refine TW.seq fun Y26 hY26 => TW.region ?_
 refine TL.p Pu.as ?_
 refine TL.nil (TQ.thenN (hY26 _ _ ?_))
 refine TW.ret ?_
 refine TQ.blkR ?_
 refine TQ.thenR ?_
 refine TQ.thenR ?_
 refine TQ.blkR ?_
 refine TQ.blkR ?_
 refine TQ.thenR ?_
 refine TQ.thenR ?_
 refine TQ.blkR ?_
 refine TQ.blkR ?_
 refine TQ.thenR ?_
 refine TQ.thenR ?_
 refine TQ.blkR ?_
 refine TQ.thenR ?_
 refine TQ.ret Tryz.results84 rfl ((.tmp rfl .nil)) ?_
 exact fun w hw => ⟨by rw [hno]; rfl, Chg.ext hw.chg⟩
 try simp only [zcb9] at hc6
 have hne : H.sp i q ≠ H.sp i k := hc6
 refine TW.skip ?_
 refine TQ.blkN ?_
 refine TQ.thenN (hY24 _ _ ?_)
 refine TW.region ?_
 refine TL.p Pu.mv ?_
 refine TL.p Pu.ad ?_
 refine TL.p Pu.as ?_
 refine TL.nil ?_
 refine TQ.thenN (hZ2 (q + 1) _ _ ?_ ?_ fs9 ?_)
 refine ⟨by omega, fun r hr => ?_⟩
 by_cases e : r = q
 subst e; exact hne
 exact hs r (by omega)
 exact zom9
 exact ks9
 try simp only [zcb9] at hc5
 obtain rfl : q = k := by omega
 refine TW.exit ?_
 refine TQ.thenX ?_
 refine TQ.thenX ?_
 refine TQ.blkX ?_
 refine TQ.blkN ?_
 refine TQ.thenN (hY17 _ _ ?_)
 refine TW.region ?_
 refine TL.p Pu.mv ?_
 refine TL.p Pu.ad ?_
 refine TL.p Pu.as ?_
 refine TL.nil ?_
 refine TQ.thenN (hZ1 (q + 1) _ _ ?_ ?_ fs9 ?_)
 refine ⟨by omega, fun r hr => ?_⟩
 by_cases e : r = q
 subst e
 unfold markB
 rw [hgood, Bool.true_and, allB_iff]
 intro j hj
 simpa using hs j hj
 exact hm r (by omega)
 exact zom9
 exact ks9
 refine TW.region ?_
 refine TL.p (by first | exact Pu.fb ty_fa46_3 | exact Pu.fe ty_fa46_3) ?_
 refine TL.p (Pu.ld ty_sc44) ?_
 refine TL.p Pu.mv ?_
 refine TL.p (Pu.el ty_et44) ?_
 refine TL.p (by first | exact Pu.fb ty_fa87_0 | exact Pu.fe ty_fa87_0) ?_
 refine TL.p (Pu.ld ty_sc3) ?_
 refine TL.cr rfl (enters Tryz.func64 rfl rfl) (fun w hw => by
   exact rWithin_any _ _ _ _) ?_
 refine TL.p Pu.no ?_
 refine TL.p Pu.mv ?_
 refine TL.guard (t := 68) rfl (fun hg1 => ?_) (fun hg1 => ?_)
 try simp only [zgb9] at hg1
 refine TL.gs ?_
 refine TL.gs ?_
 refine TL.gs ?_
 refine TL.gs ?_
 refine TL.gs ?_
 refine TL.gs ?_
 refine TL.gs ?_
 refine TL.gs ?_
 refine TL.p Pu.kt ?_
 refine TL.nil ?_
 exact TQ.sub (by repeat (first | exact trivial | refine ⟨rfl, ?_⟩ | refine ⟨trivial, ?_⟩ | refine ⟨(by show some (Value.bool _) = some (Value.bool _); first | (simp [hg1]; done) | (refine congrArg (fun z => some (Value.bool z)) (Bool.eq_iff_iff.2 ?_); simp [hg1]; omega)), ?_⟩)) ks9 hJ2
 try simp only [zgb9] at hg1
 refine TL.gd (by first | exact Pu.fb ty_fa46_3 | exact Pu.fe ty_fa46_3) ?_
 refine TL.gd (Pu.ld ty_sc44) ?_
 refine TL.gd Pu.mv ?_
 refine TL.gd (Pu.el ty_et44) ?_
 refine TL.gd (by first | exact Pu.fb ty_fa87_1 | exact Pu.fe ty_fa87_1) ?_
 refine TL.gd (Pu.ld ty_sc3) ?_
 refine TL.cr rfl (enters Tryz.func64 rfl rfl) (fun w hw => by
   exact rWithin_any _ _ _ _) ?_
 refine TL.gd Pu.no ?_
 refine TL.p Pu.kf ?_
 refine TL.nil ?_
 exact TQ.sub (by repeat (first | exact trivial | refine ⟨rfl, ?_⟩ | refine ⟨trivial, ?_⟩ | refine ⟨(by show some (Value.bool _) = some (Value.bool _); first | (simp [hg1]; done) | (refine congrArg (fun z => some (Value.bool z)) (Bool.eq_iff_iff.2 ?_); simp [hg1]; omega)), ?_⟩)) ks9 hJ2
 try simp only [zcb9] at hc3
 obtain rfl : k = H.ml i := by omega
 refine TW.exit ?_
 refine TQ.thenX ?_
 refine TQ.thenX ?_
 refine TQ.blkX ?_
 refine TQ.blkN ?_
 refine TQ.thenN (hY9 _ _ ?_)
 refine TW.region ?_
 refine TL.p Pu.mv ?_
 refine TL.p Pu.ad ?_
 refine TL.p Pu.as ?_
 refine TL.nil ?_
 refine TQ.thenN (hZ0 (i + 1) _ _ ?_ ?_ fs9 ?_)
 refine ⟨by omega, fun j hj => ?_⟩
 by_cases e : j = i
 subst e; rw [hhd, Bool.true_and]; exact allB_iff.2 hm
 exact h1 j (by omega)
 exact zom9
 exact ks9
 refine TW.region ?_
 refine TL.p (by first | exact Pu.fb ty_fa46_0 | exact Pu.fe ty_fa46_0) ?_
 refine TL.p (Pu.ld ty_sc3) ?_
 refine TL.cr rfl (enters Tryz.func64 rfl rfl) (fun w hw => by
   exact rWithin_any _ _ _ _) ?_
 refine TL.p Pu.no ?_
 refine TL.p Pu.mv ?_
 refine TL.guard (t := 27) rfl (fun hg2 => ?_) (fun hg2 => ?_)
 try simp only [zgb9] at hg2
 refine TL.gs ?_
 refine TL.gs ?_
 refine TL.gs ?_
 refine TL.gs ?_
 refine TL.gs ?_
 refine TL.gs ?_
 refine TL.p Pu.kt ?_
 refine TL.p Pu.mv ?_
 refine TL.gs ?_
 refine TL.gs ?_
 refine TL.gs ?_
 refine TL.gs ?_
 refine TL.gs ?_
 refine TL.gs ?_
 refine TL.gs ?_
 refine TL.gs ?_
 refine TL.gs ?_
 refine TL.gs ?_
 refine TL.p Pu.kt ?_
 refine TL.p Pu.mv ?_
 refine TL.gs ?_
 refine TL.gs ?_
 refine TL.gs ?_
 refine TL.gs ?_
 refine TL.p Pu.kt ?_
 refine TL.nil ?_
 exact TQ.sub (by repeat (first | exact trivial | refine ⟨rfl, ?_⟩ | refine ⟨trivial, ?_⟩ | refine ⟨(by show some (Value.bool _) = some (Value.bool _); first | (simp [hg2, headB, an2B]; done) | (refine congrArg (fun z => some (Value.bool z)) (Bool.eq_iff_iff.2 ?_); simp [hg2, headB, an2B]; omega)), ?_⟩)) ks9 hJ1
 try simp only [zgb9] at hg2
 refine TL.gd Pu.mv ?_
 refine TL.gd (by first | exact Pu.fb ty_fa46_0 | exact Pu.fe ty_fa46_0) ?_
 refine TL.gd (Pu.ld ty_sc3) ?_
 refine TL.cr rfl (enters Tryz.func101 rfl rfl) (fun w hw => by
   exact rAt_any _ hn (hR.sat hw Apart.nil)) ?_
 refine TL.gd Pu.mv ?_
 refine TL.gd Pu.ne ?_
 refine TL.p Pu.kf ?_
 refine TL.p Pu.mv ?_
 refine TL.guard (t := 35) rfl (fun hg3 => ?_) (fun hg3 => ?_)
 try simp only [zgb9] at hg3
 refine TL.gs ?_
 refine TL.gs ?_
 refine TL.gs ?_
 refine TL.gs ?_
 refine TL.gs ?_
 refine TL.gs ?_
 refine TL.gs ?_
 refine TL.gs ?_
 refine TL.gs ?_
 refine TL.gs ?_
 refine TL.p Pu.kt ?_
 refine TL.p Pu.mv ?_
 refine TL.gs ?_
 refine TL.gs ?_
 refine TL.gs ?_
 refine TL.gs ?_
 refine TL.p Pu.kt ?_
 refine TL.nil ?_
 exact TQ.sub (by repeat (first | exact trivial | refine ⟨rfl, ?_⟩ | refine ⟨trivial, ?_⟩ | refine ⟨(by show some (Value.bool _) = some (Value.bool _); first | (simp [hg2, hg3, headB, an2B]; done) | (refine congrArg (fun z => some (Value.bool z)) (Bool.eq_iff_iff.2 ?_); simp [hg2, hg3, headB, an2B]; omega)), ?_⟩)) ks9 hJ1
 try simp only [zgb9] at hg3
 refine TL.gd (by first | exact Pu.fb ty_fa46_1 | exact Pu.fe ty_fa46_1) ?_
 refine TL.gd (Pu.ld ty_sc3) ?_
 refine TL.gd Pu.ne ?_
 refine TL.gd Pu.mv ?_
 refine TL.guard (t := 39) rfl (fun hg4 => ?_) (fun hg4 => ?_)
 try simp only [zgb9] at hg4
 refine TL.gd Pu.mv ?_
 refine TL.gd (by first | exact Pu.fb ty_fa46_1 | exact Pu.fe ty_fa46_1) ?_
 refine TL.gd (Pu.ld ty_sc3) ?_
 refine TL.cr rfl (enters Tryz.func101 rfl rfl) (fun w hw => by
   exact rAt_any _ hn (hR.sat hw Apart.nil)) ?_
 refine TL.gd Pu.lt ?_
 refine TL.gd Pu.kt ?_
 refine TL.p Pu.kf ?_
 refine TL.p Pu.mv ?_
 refine TL.guard (t := 47) rfl (fun hg5 => ?_) (fun hg5 => ?_)
 try simp only [zgb9] at hg5
 refine TL.gs ?_
 refine TL.gs ?_
 refine TL.gs ?_
 refine TL.gs ?_
 refine TL.p Pu.kt ?_
 refine TL.nil ?_
 exact TQ.sub (by repeat (first | exact trivial | refine ⟨rfl, ?_⟩ | refine ⟨trivial, ?_⟩ | refine ⟨(by show some (Value.bool _) = some (Value.bool _); first | (simp [hg2, hg3, hg4, hg5, headB, an2B]; done) | (refine congrArg (fun z => some (Value.bool z)) (Bool.eq_iff_iff.2 ?_); simp [hg2, hg3, hg4, hg5, headB, an2B]; omega)), ?_⟩)) ks9 hJ1
 try simp only [zgb9] at hg5
 refine TL.gd (by first | exact Pu.fb ty_fa46_2 | exact Pu.fe ty_fa46_2) ?_
 refine TL.gd (Pu.lds ty_ag36) ?_
 refine TL.cr rfl (enters Tryz.func100 rfl rfl) (fun w hw => by
   exact rOrdered_any _ _ _ _ _) ?_
 refine TL.gd Pu.no ?_
 refine TL.p Pu.kf ?_
 refine TL.nil ?_
 exact TQ.sub (by repeat (first | exact trivial | refine ⟨rfl, ?_⟩ | refine ⟨trivial, ?_⟩ | refine ⟨(by show some (Value.bool _) = some (Value.bool _); first | (simp [hg2, hg3, hg4, hg5, headB, an2B]; done) | (refine congrArg (fun z => some (Value.bool z)) (Bool.eq_iff_iff.2 ?_); simp [hg2, hg3, hg4, hg5, headB, an2B]; omega)), ?_⟩)) ks9 hJ1
 try simp only [zgb9] at hg4
 refine TL.gs ?_
 refine TL.gs ?_
 refine TL.gs ?_
 refine TL.gs ?_
 refine TL.gs ?_
 refine TL.gd Pu.kf ?_
 refine TL.p Pu.kf ?_
 refine TL.p Pu.mv ?_
 refine TL.gd (by first | exact Pu.fb ty_fa46_2 | exact Pu.fe ty_fa46_2) ?_
 refine TL.gd (Pu.lds ty_ag36) ?_
 refine TL.cr rfl (enters Tryz.func100 rfl rfl) (fun w hw => by
   exact rOrdered_any _ _ _ _ _) ?_
 refine TL.gd Pu.no ?_
 refine TL.p Pu.kf ?_
 refine TL.nil ?_
 exact TQ.sub (by repeat (first | exact trivial | refine ⟨rfl, ?_⟩ | refine ⟨trivial, ?_⟩ | refine ⟨(by show some (Value.bool _) = some (Value.bool _); first | (simp [hg2, hg3, hg4, headB, an2B]; done) | (refine congrArg (fun z => some (Value.bool z)) (Bool.eq_iff_iff.2 ?_); simp [hg2, hg3, hg4, headB, an2B]; omega)), ?_⟩)) ks9 hJ1
 try simp only [zcb9] at hc1
 obtain rfl : i = H.n := by omega
 have h2 : ∀ j, j < H.n → an1B H j = true ∧ an2B H j = true := fun j hj => by
  have := h1 j hj
  rw [← an_head, Bool.and_eq_true] at this
  exact this
 refine TW.exit ?_
 refine TQ.thenX ?_
 refine TQ.thenX ?_
 refine TQ.blkX ?_
 refine TQ.thenN (hY5 _ _ ?_)
 refine TW.seq fun Y27 hY27 => ?_
 refine TW.seq fun Y28 hY28 => TW.region ?_
 refine TL.p Pu.as ?_
 refine TL.nil (TQ.thenN (hY28 _ _ ?_))
 refine TW.block ?_
 refine TW.loop1 (fun (i : Nat) => [(7, .int .i64 (i : Int)), (0, .slice A H.n cp)]) (fun i => []) (fun i => i ≤ H.n ∧ ∀ j, j < i → endB H j = true) (fun i => H.n - i) 0 fs9 ?_ ?_ ?_
 exact ks9
 exact ⟨Nat.zero_le _, fun j hj => by omega⟩
 rintro i ⟨hi, h3⟩ Z3 hZ3
 refine TW.seq fun Y29 hY29 => ?_
 refine TW.seq fun Y30 hY30 => TW.region ?_
 refine TL.p Pu.mv ?_
 refine TL.p Pu.mv ?_
 refine TL.p (Pu.ln Tryz.underlying22) ?_
 refine TL.p Pu.lt ?_
 refine TL.nil (TQ.thenN (hY30 _ _ ?_))
 refine TW.cond rfl (fun hc7 => ?_) (fun hc7 => ?_)
 try simp only [zcb9] at hc7
 have hin : i < H.n := by omega
 refine TW.skip ?_
 refine TQ.thenN (hY29 _ _ ?_)
 refine TW.seq fun Y31 hY31 => ?_
 refine TW.block ?_
 refine TW.seq fun Y32 hY32 => TW.region ?_
 refine TL.p Pu.mv ?_
 refine TL.p Pu.as ?_
 refine TL.p Pu.as ?_
 refine TL.nil (TQ.thenN (hY32 _ _ ?_))
 refine TW.block ?_
 refine TW.loop1 (fun (s : Nat) => [(8, .int .i64 (upH (moH H) i s)), (9, .int .i64 (s : Int)), (7, .int .i64 (i : Int)), (0, .slice A H.n cp)]) (fun s => []) (fun s => s ≤ H.n ∧ 0 ≤ upH (moH H) i s) (fun s => H.n + 1 - s) 0 fs9 ?_ ?_ ?_
 exact ks9
 exact ⟨Nat.zero_le _, by simp [upH]⟩
 rintro s ⟨hs, hup⟩ Z4 hZ4
 have hub := upH_bd (moH_Mo (H := H)) hin s
 have hmo : moH H (upH (moH H) i s).toNat = upH (moH H) i (s + 1) := (if_neg (by omega)).symm
 refine TW.seq fun Y33 hY33 => ?_
 refine TW.seq fun Y34 hY34 => TW.region ?_
 refine TL.p Pu.mv ?_
 refine TL.p Pu.mv ?_
 refine TL.p (Pu.el (q := (upH (moH H) i s).toNat) ty_et22 (hk := rfl)) ?_
 refine TL.p (by first | exact Pu.fb ty_fa46_1 | exact Pu.fe ty_fa46_1) ?_
 refine TL.p (Pu.ld ty_sc3) ?_
 refine TL.p Pu.ne ?_
 refine TL.nil (TQ.thenN (hY34 _ _ ?_))
 refine TW.cond rfl (fun hc8 => ?_) (fun hc8 => ?_)
 try simp only [zcb9] at hc8
 have hm1 : H.mo (upH (moH H) i s).toNat ≠ -1 := hc8
 have hat : atH H (H.mo (upH (moH H) i s).toNat) = upH (moH H) i (s + 1) := by rw [← hmo]; exact (if_neg hm1).symm
 have hge : 0 ≤ upH (moH H) i (s + 1) := by
  rw [← hat]
  have := (h2 (upH (moH H) i s).toNat (by omega)).2
  unfold an2B at this
  simp only [Bool.or_eq_true, decide_eq_true_eq] at this
  rcases this with h | h
  exact absurd h hm1
  exact h
 refine TW.skip ?_
 refine TQ.thenN (hY33 _ _ ?_)
 refine TW.block ?_
 refine TW.seq fun Y35 hY35 => TW.region ?_
 refine TL.p Pu.mv ?_
 refine TL.p Pu.mv ?_
 refine TL.p Pu.mv ?_
 refine TL.p (Pu.el (q := (upH (moH H) i s).toNat) ty_et22 (hk := rfl)) ?_
 refine TL.p (by first | exact Pu.fb ty_fa46_1 | exact Pu.fe ty_fa46_1) ?_
 refine TL.p (Pu.ld ty_sc3) ?_
 refine TL.cr rfl (enters Tryz.func101 rfl rfl) (fun w hw => by
   exact rAt_any _ hn (hR.sat hw Apart.nil)) ?_
 refine TL.p Pu.as ?_
 refine TL.nil (TQ.thenN (hY35 _ _ ?_))
 refine TW.seq fun Y36 hY36 => TW.region ?_
 refine TL.p Pu.mv ?_
 refine TL.p Pu.ad ?_
 refine TL.p Pu.as ?_
 refine TL.nil (TQ.thenN (hY36 _ _ ?_))
 refine TW.seq fun Y37 hY37 => TW.region ?_
 refine TL.p Pu.mv ?_
 refine TL.p Pu.mv ?_
 refine TL.p (Pu.ln Tryz.underlying22) ?_
 refine TL.p Pu.gt ?_
 refine TL.nil (TQ.thenN (hY37 _ _ ?_))
 refine TW.cond rfl (fun hc9 => ?_) (fun hc9 => ?_)
 try simp only [zcb9] at hc9
 have hno := herd_no3 hin (by
  unfold endB
  refine decide_eq_false fun h => ?_
  have := upH_mono h (show H.n ≤ s + 1 by omega)
  omega)
 refine TW.seq fun Y38 hY38 => TW.region ?_
 refine TL.p Pu.as ?_
 refine TL.nil (TQ.thenN (hY38 _ _ ?_))
 refine TW.ret ?_
 refine TQ.blkR ?_
 refine TQ.thenR ?_
 refine TQ.blkR ?_
 refine TQ.blkR ?_
 refine TQ.thenR ?_
 refine TQ.thenR ?_
 refine TQ.blkR ?_
 refine TQ.thenR ?_
 refine TQ.ret Tryz.results84 rfl ((.tmp rfl .nil)) ?_
 exact fun w hw => ⟨by rw [hno]; rfl, Chg.ext hw.chg⟩
 try simp only [zcb9] at hc9
 refine TW.skip ?_
 refine TQ.blkN ?_
 refine TQ.thenN (hZ4 (s + 1) _ _ ?_ ?_ ⟨(by rw [hat]; rfl), rfl, rfl, rfl, trivial⟩ ?_)
 exact ⟨by omega, hge⟩
 exact zom9
 exact ks9
 try simp only [zcb9] at hc8
 have hm1 : H.mo (upH (moH H) i s).toNat = -1 := hc8
 have hlt : upH (moH H) i (s + 1) < 0 := by rw [← hmo, show moH H (upH (moH H) i s).toNat = -1 from if_pos hm1]; omega
 have hend : endB H i = true := by
  unfold endB
  exact decide_eq_true ((upH_ends moH_Mo hin).1 (upH_mono hlt (by omega)))
 refine TW.exit ?_
 refine TQ.thenX ?_
 refine TQ.thenX ?_
 refine TQ.blkX ?_
 refine TQ.blkN ?_
 refine TQ.thenN (hY31 _ _ ?_)
 refine TW.region ?_
 refine TL.p Pu.mv ?_
 refine TL.p Pu.ad ?_
 refine TL.p Pu.as ?_
 refine TL.nil ?_
 refine TQ.thenN (hZ3 (i + 1) _ _ ?_ ?_ fs9 ?_)
 refine ⟨by omega, fun j hj => ?_⟩
 by_cases e : j = i
 subst e; exact hend
 exact h3 j (by omega)
 exact zom9
 exact ks9
 try simp only [zcb9] at hc7
 obtain rfl : i = H.n := by omega
 refine TW.exit ?_
 refine TQ.thenX ?_
 refine TQ.thenX ?_
 refine TQ.blkX ?_
 refine TQ.thenN (hY27 _ _ ?_)
 refine TW.seq fun Y39 hY39 => TW.region ?_
 refine TL.p Pu.as ?_
 refine TL.nil (TQ.thenN (hY39 _ _ ?_))
 refine TW.ret ?_
 refine TQ.ret Tryz.results84 rfl ((.tmp rfl .nil)) ?_
 have hyes := herd_yes h16 (fun j hj => (h2 j hj).1) (fun j hj => (h2 j hj).2) h3
 exact fun w hw => ⟨by rw [hyes]; rfl, Chg.ext hw.chg⟩
theorem rCheck_any {w : World} {A : Option Addr} {cp : Nat} {H : Hd} {a : Nat → Option Addr} {c : Nat → Nat} (hI : HIn w A H a c) :
  Calls Tryz.prog 45 #[.slice A H.n cp] w (Ret w (.int .i64 (if herdB H then 0 else 20))) := by
 refine K_enter (S := []) (K := []) Tryz.func45 rfl Tryz.ntmps45 rfl (Sat.start _) ?_
 refine TW.seq fun Y1 hY1 => TW.region ?_
 refine TL.p Pu.as ?_
 refine TL.nil (TQ.thenN (hY1 _ _ ?_))
 refine TW.seq fun Y2 hY2 => ?_
 refine TW.seq fun Y3 hY3 => TW.region ?_
 refine TL.p Pu.mv ?_
 refine TL.cr rfl (enters Tryz.func84 rfl rfl) (fun w hw => by
   exact rHerd_any (hI.sat hw)) ?_
 refine TL.p Pu.no ?_
 refine TL.nil (TQ.thenN (hY3 _ _ ?_))
 refine TW.cond rfl (fun hc0 => ?_) (fun hc0 => ?_)
 try simp only [zcb9] at hc0
 have hh : herdB H = false := hc0
 refine TW.seq fun Y4 hY4 => TW.region ?_
 refine TL.p Pu.as ?_
 refine TL.nil (TQ.thenN (hY4 _ _ ?_))
 refine TW.ret ?_
 refine TQ.thenR ?_
 refine TQ.ret Tryz.results45 rfl ((.tmp rfl .nil)) ?_
 exact fun w hw => ⟨by rw [hh]; rfl, Chg.ext hw.chg⟩
 try simp only [zcb9] at hc0
 have hh : herdB H = true := hc0
 refine TW.skip ?_
 refine TQ.thenN (hY2 _ _ ?_)
 refine TW.seq fun Y5 hY5 => TW.region ?_
 refine TL.p Pu.as ?_
 refine TL.nil (TQ.thenN (hY5 _ _ ?_))
 refine TW.ret ?_
 refine TQ.ret Tryz.results45 rfl ((.tmp rfl .nil)) ?_
 exact fun w hw => ⟨by rw [hh]; rfl, Chg.ext hw.chg⟩
end Go.Proofs.YtbenhafhklfhmaaGreat
namespace Go.Proofs.YtbenhafhklfhmaaGreat
set_option linter.all false
set_option linter.unusedVariables false
set_option linter.unusedSimpArgs false
open Go.RowKit
inductive Hid1 (p : Prop) : Prop
 | mk : p → Hid1 p
theorem hid1 {p : Prop} (h : p) : Hid1 p := ⟨h⟩
theorem Hid1.out {p : Prop} : Hid1 p → p
 | ⟨h⟩ => h
end Go.Proofs.YtbenhafhklfhmaaGreat
namespace Go.Proofs.YtbenhafhklfhmaaGreat
set_option linter.all false
set_option linter.unusedVariables false
set_option linter.unusedSimpArgs false
open Go.RowKit
def ownsE (E : TypeId) (sz : Nat) (A : Nat → Option Addr) (l c : Nat → Nat) (r : Nat → Nat → List Value) : Nat → List Fact
 | 0 => []
 | n + 1 => .own (A n) (l n) (c n) E sz (r n) :: ownsE E sz A l c r n
theorem ownsE_mem {E : TypeId} {sz : Nat} {A : Nat → Option Addr} {l c : Nat → Nat} {r : Nat → Nat → List Value} {s : Nat} : ∀ {n : Nat}, s < n → Fact.own (A s) (l s) (c s) E sz (r s) ∈ ownsE E sz A l c r n
 | n + 1, h => by
  simp only [ownsE, List.mem_cons]
  by_cases hs : s = n
  · subst hs; exact .inl rfl
  · exact .inr (ownsE_mem (by omega))
def updA {α : Type} (f : Nat → α) (s : Nat) (x : α) : Nat → α := fun i => if i = s then x else f i
end Go.Proofs.YtbenhafhklfhmaaGreat
namespace Go.Proofs.YtbenhafhklfhmaaGreat
set_option linter.all false
set_option linter.unusedVariables false
set_option linter.unusedSimpArgs false
open Go.RowKit
set_option maxRecDepth 100000 in
theorem bSameInts_any {w : World} {A B : Option Addr} {n c1 c2 : Nat} {v : Nat → Int} (hn : n ≤ 1000000) (hA : RdR w 1 A n (fun j => [.int .i64 (v j)])) (hB : RdR w 1 B n (fun j => [.int .i64 (v j)])) :
  Calls Tryz.prog 37 #[.slice A n c1, .slice B n c2] w (Ret w (.bool true)) := by
 refine K_enter (S := []) (K := []) Tryz.func37 rfl Tryz.ntmps37 rfl (Sat.start _) ?_
 refine TW.seq fun Y1 hY1 => TW.region ?_
 refine TL.p Pu.as ?_
 refine TL.nil (TQ.thenN (hY1 _ _ ?_))
 refine TW.seq fun Y2 hY2 => ?_
 refine TW.seq fun Y3 hY3 => TW.region ?_
 refine TL.p Pu.mv ?_
 refine TL.p (Pu.ln Tryz.underlying28) ?_
 refine TL.p Pu.mv ?_
 refine TL.p (Pu.ln Tryz.underlying28) ?_
 refine TL.p Pu.ne ?_
 refine TL.nil (TQ.thenN (hY3 _ _ ?_))
 refine TW.condF rfl ((by simp)) ?_
 refine TW.skip ?_
 refine TQ.thenN (hY2 _ _ ?_)
 refine TW.seq fun Y4 hY4 => ?_
 refine TW.seq fun Y5 hY5 => TW.region ?_
 refine TL.p Pu.as ?_
 refine TL.nil (TQ.thenN (hY5 _ _ ?_))
 refine TW.block ?_
 refine TW.loop1 (fun (k : Nat) => [(5, .int .i64 (k : Int)), (0, .slice A n c1), (1, .slice B n c2)]) (fun k => []) (fun k => k ≤ n) (fun k => n - k) 0 fs9 ?_ ?_ ?_
 exact ks9
 exact Nat.zero_le _
 rintro k hk Z0 hZ0
 refine TW.seq fun Y6 hY6 => ?_
 refine TW.seq fun Y7 hY7 => TW.region ?_
 refine TL.p Pu.mv ?_
 refine TL.p Pu.mv ?_
 refine TL.p (Pu.ln Tryz.underlying28) ?_
 refine TL.p Pu.lt ?_
 refine TL.nil (TQ.thenN (hY7 _ _ ?_))
 refine TW.cond rfl (fun hc1 => ?_) (fun hc1 => ?_)
 try simp only [zcb9] at hc1
 refine TW.skip ?_
 refine TQ.thenN (hY6 _ _ ?_)
 refine TW.seq fun Y8 hY8 => ?_
 refine TW.block ?_
 refine TW.seq fun Y9 hY9 => ?_
 refine TW.dw 9 ?_
 refine RK.tk Pu.mv ?_
 refine RK.tk Pu.mv ?_
 refine RK.tk (Pu.el ty_et28) ?_
 refine RK.tk (Pu.ld ty_sc3) ?_
 refine RK.tk Pu.mv ?_
 refine RK.tk Pu.mv ?_
 refine RK.tk (Pu.el ty_et28) ?_
 refine RK.tk (Pu.ld ty_sc3) ?_
 refine RK.tk Pu.ne ?_
 refine RK.ch [] ?_ trivial
 refine WK.n ?_
 refine TL.nil (TQ.thenN (hY9 _ _ ?_))
 refine TW.condF rfl ((by simp)) ?_
 refine TW.skip ?_
 refine TQ.blkN ?_
 refine TQ.thenN (hY8 _ _ ?_)
 refine TW.region ?_
 refine TL.p Pu.mv ?_
 refine TL.p Pu.ad ?_
 refine TL.p Pu.as ?_
 refine TL.nil ?_
 refine TQ.thenN (hZ0 (k + 1) _ _ ?_ ?_ fs9 ?_)
 exact (by omega)
 exact zom9
 exact ks9
 try simp only [zcb9] at hc1
 refine TW.exit ?_
 refine TQ.thenX ?_
 refine TQ.thenX ?_
 refine TQ.blkX ?_
 refine TQ.thenN (hY4 _ _ ?_)
 refine TW.seq fun Y10 hY10 => TW.region ?_
 refine TL.p Pu.as ?_
 refine TL.nil (TQ.thenN (hY10 _ _ ?_))
 refine TW.ret ?_
 refine TQ.ret Tryz.results37 rfl ((.tmp rfl .nil)) ?_
 exact fun w hw => Ret.of hw
def greatH (H : Hd) : Bool := decide ((20 : Int) < (H.n : Int)) || anyB H.n fun i => decide ((12 : Int) < (H.ml i : Int))
set_option maxRecDepth 100000 in
theorem rGreat_any {w : World} {A : Option Addr} {cp : Nat} {H : Hd} {a : Nat → Option Addr} {c : Nat → Nat} (hR : RdR w 5 A H.n (fun i => anL H a c i)) :
  Calls Tryz.prog 44 #[.slice A H.n cp] w (Ret w (.bool (greatH H))) := by
 refine K_enter (S := []) (K := []) Tryz.func44 rfl Tryz.ntmps44 rfl (Sat.start _) ?_
 refine TW.seq fun Y1 hY1 => TW.region ?_
 refine TL.p Pu.as ?_
 refine TL.nil (TQ.thenN (hY1 _ _ ?_))
 refine TW.seq fun Y2 hY2 => ?_
 refine TW.seq fun Y3 hY3 => TW.region ?_
 refine TL.p Pu.mv ?_
 refine TL.p (Pu.ln Tryz.underlying22) ?_
 refine TL.p Pu.gt ?_
 refine TL.nil (TQ.thenN (hY3 _ _ ?_))
 refine TW.cond rfl (fun hc0 => ?_) (fun hc0 => ?_)
 try simp only [zcb9] at hc0
 have hg : greatH H = true := by unfold greatH; rw [decide_eq_true hc0]; rfl
 refine TW.seq fun Y4 hY4 => TW.region ?_
 refine TL.p Pu.as ?_
 refine TL.nil (TQ.thenN (hY4 _ _ ?_))
 refine TW.ret ?_
 refine TQ.thenR ?_
 refine TQ.ret Tryz.results44 rfl ((.tmp rfl .nil)) ?_
 exact fun w hw => ⟨by rw [hg]; rfl, Chg.ext hw.chg⟩
 try simp only [zcb9] at hc0
 have h20 : ¬ (20 : Int) < (H.n : Int) := by omega
 refine TW.skip ?_
 refine TQ.thenN (hY2 _ _ ?_)
 refine TW.seq fun Y5 hY5 => ?_
 refine TW.seq fun Y6 hY6 => TW.region ?_
 refine TL.p Pu.as ?_
 refine TL.nil (TQ.thenN (hY6 _ _ ?_))
 refine TW.block ?_
 refine TW.loop1 (fun (k : Nat) => [(3, .int .i64 (k : Int)), (0, .slice A H.n cp)]) (fun k => []) (fun k => k ≤ H.n ∧ ∀ j, j < k → ¬ (12 : Int) < (H.ml j : Int)) (fun k => H.n - k) 0 fs9 ?_ ?_ ?_
 exact ks9
 exact ⟨Nat.zero_le _, fun j hj => by omega⟩
 rintro k ⟨hk, hno⟩ Z0 hZ0
 refine TW.seq fun Y7 hY7 => ?_
 refine TW.seq fun Y8 hY8 => TW.region ?_
 refine TL.p Pu.mv ?_
 refine TL.p Pu.mv ?_
 refine TL.p (Pu.ln Tryz.underlying22) ?_
 refine TL.p Pu.lt ?_
 refine TL.nil (TQ.thenN (hY8 _ _ ?_))
 refine TW.cond rfl (fun hc1 => ?_) (fun hc1 => ?_)
 try simp only [zcb9] at hc1
 have hkn : k < H.n := by omega
 refine TW.skip ?_
 refine TQ.thenN (hY7 _ _ ?_)
 refine TW.seq fun Y9 hY9 => ?_
 refine TW.block ?_
 refine TW.seq fun Y10 hY10 => TW.region ?_
 refine TL.p Pu.mv ?_
 refine TL.p Pu.mv ?_
 refine TL.p (Pu.el ty_et22) ?_
 refine TL.p (by first | exact Pu.fb ty_fa46_3 | exact Pu.fe ty_fa46_3) ?_
 refine TL.p (Pu.ld ty_sc44) ?_
 refine TL.p (Pu.ln Tryz.underlying44) ?_
 refine TL.p Pu.gt ?_
 refine TL.nil (TQ.thenN (hY10 _ _ ?_))
 refine TW.cond rfl (fun hc2 => ?_) (fun hc2 => ?_)
 try simp only [zcb9] at hc2
 have hg : greatH H = true := by unfold greatH; rw [Bool.or_eq_true]; exact .inr (anyB_iff.2 ⟨k, hkn, decide_eq_true hc2⟩)
 refine TW.seq fun Y11 hY11 => TW.region ?_
 refine TL.p Pu.as ?_
 refine TL.nil (TQ.thenN (hY11 _ _ ?_))
 refine TW.ret ?_
 refine TQ.blkR ?_
 refine TQ.thenR ?_
 refine TQ.thenR ?_
 refine TQ.blkR ?_
 refine TQ.thenR ?_
 refine TQ.ret Tryz.results44 rfl ((.tmp rfl .nil)) ?_
 exact fun w hw => ⟨by rw [hg]; rfl, Chg.ext hw.chg⟩
 try simp only [zcb9] at hc2
 have hnk : ¬ (12 : Int) < (H.ml k : Int) := by omega
 refine TW.skip ?_
 refine TQ.blkN ?_
 refine TQ.thenN (hY9 _ _ ?_)
 refine TW.region ?_
 refine TL.p Pu.mv ?_
 refine TL.p Pu.ad ?_
 refine TL.p Pu.as ?_
 refine TL.nil ?_
 refine TQ.thenN (hZ0 (k + 1) _ _ ?_ ?_ fs9 ?_)
 refine ⟨by omega, fun j hj => ?_⟩
 by_cases e : j = k
 subst e; exact hnk
 exact hno j (by omega)
 exact zom9
 exact ks9
 try simp only [zcb9] at hc1
 have hg : greatH H = false := by
  unfold greatH
  rw [decide_eq_false h20, Bool.false_or, anyB_false]
  exact fun j hj => decide_eq_false (hno j (by omega))
 refine TW.exit ?_
 refine TQ.thenX ?_
 refine TQ.thenX ?_
 refine TQ.blkX ?_
 refine TQ.thenN (hY5 _ _ ?_)
 refine TW.seq fun Y12 hY12 => TW.region ?_
 refine TL.p Pu.as ?_
 refine TL.nil (TQ.thenN (hY12 _ _ ?_))
 refine TW.ret ?_
 refine TQ.ret Tryz.results44 rfl ((.tmp rfl .nil)) ?_
 exact fun w hw => ⟨by rw [hg]; rfl, Chg.ext hw.chg⟩
theorem great_in {H : Hd} (h : greatH H = false) : H.n ≤ 20 ∧ ∀ i, i < H.n → H.ml i ≤ 12 := by
 unfold greatH at h
 rw [Bool.or_eq_false_iff, anyB_false] at h
 obtain ⟨h1, h2⟩ := h
 have h1 := of_decide_eq_false h1
 refine ⟨by omega, fun i hi => ?_⟩
 have := of_decide_eq_false (h2 i hi)
 omega
end Go.Proofs.YtbenhafhklfhmaaGreat
namespace Go.Proofs.YtbenhafhklfhmaaGreat
set_option linter.all false
set_option linter.unusedVariables false
set_option linter.unusedSimpArgs false
open Go.RowKit
def sgnK (H : Hd) (i s : Nat) : Int := if fst1 (fun k => decide (H.sp i k = (s : Int))) (H.ml i) < H.ml i then H.sg i (fst1 (fun k => decide (H.sp i k = (s : Int))) (H.ml i)) else 0
set_option maxRecDepth 100000 in
theorem rSign_any {H : Hd} {a : Nat → Option Addr} {c : Nat → Nat} {i s : Nat} {w : World} (hl : H.ml i ≤ 1000) (hR : RdR w 2 (a i) (H.ml i) (fun k => spL (H.sp i k) (H.sg i k))) : Calls Tryz.prog 16 #[.agg (anL H a c i).toArray, .int .i64 (s : Int)] w (Ret w (.int .i64 (sgnK H i s))) := by
 unfold anL
 refine K_enter (S := []) (K := []) Tryz.func16 rfl Tryz.ntmps16 rfl (Sat.start _) ?_
 refine TW.seq fun Y1 hY1 => TW.region ?_
 refine TL.m Mk.bx ?_
 intro b1
 refine TL.p Pu.as ?_
 refine TL.nil (TQ.thenN (hY1 _ _ ?_))
 refine TW.seq fun Y2 hY2 => ?_
 refine TW.seq fun Y3 hY3 => TW.region ?_
 refine TL.p Pu.as ?_
 refine TL.nil (TQ.thenN (hY3 _ _ ?_))
 refine TW.block ?_
 refine TW.loop1 (fun (k : Nat) => [(5, .int .i64 (k : Int)), (1, .int .i64 (s : Int)), (2, .pointer (some ⟨b1, 0, none⟩))]) (fun k => [.blk b1 46 [.int .i64 (H.id i), .int .i64 (H.mo i), .int .i64 (H.lo i), .int .i64 (H.hi i), .slice (a i) (H.ml i) (c i)]]) (fun k => k ≤ H.ml i ∧ ∀ j, j < k → ¬ H.sp i j = (s : Int)) (fun k => H.ml i - k) 0 fs9 ?_ ?_ ?_
 exact ks9
 exact ⟨Nat.zero_le _, fun j hj => by omega⟩
 rintro k ⟨hkl, hno⟩ Z0 hZ0
 refine TW.seq fun Y4 hY4 => ?_
 refine TW.seq fun Y5 hY5 => TW.region ?_
 refine TL.p Pu.mv ?_
 refine TL.p (by first | exact Pu.fb ty_fa46_3 | exact Pu.fe ty_fa46_3) ?_
 refine TL.p (Pu.ld ty_sc44) ?_
 refine TL.p (Pu.ln Tryz.underlying44) ?_
 refine TL.p Pu.lt ?_
 refine TL.nil (TQ.thenN (hY5 _ _ ?_))
 refine TW.cond rfl (fun hc0 => ?_) (fun hc0 => ?_)
 try simp only [zcb9] at hc0
 have hkn : k < H.ml i := by omega
 refine TW.skip ?_
 refine TQ.thenN (hY4 _ _ ?_)
 refine TW.seq fun Y6 hY6 => ?_
 refine TW.block ?_
 refine TW.seq fun Y7 hY7 => TW.region ?_
 refine TL.p (by first | exact Pu.fb ty_fa46_3 | exact Pu.fe ty_fa46_3) ?_
 refine TL.p (Pu.ld ty_sc44) ?_
 refine TL.p Pu.mv ?_
 refine TL.p (Pu.el ty_et44) ?_
 refine TL.p (by first | exact Pu.fb ty_fa87_0 | exact Pu.fe ty_fa87_0) ?_
 refine TL.p (Pu.ld ty_sc3) ?_
 refine TL.p Pu.mv ?_
 refine TL.p Pu.eq ?_
 refine TL.nil (TQ.thenN (hY7 _ _ ?_))
 refine TW.cond rfl (fun hc1 => ?_) (fun hc1 => ?_)
 try simp only [zcb9] at hc1
 have hyes : H.sp i k = (s : Int) := hc1
 refine TW.seq fun Y8 hY8 => TW.region ?_
 refine TL.p (by first | exact Pu.fb ty_fa46_3 | exact Pu.fe ty_fa46_3) ?_
 refine TL.p (Pu.ld ty_sc44) ?_
 refine TL.p Pu.mv ?_
 refine TL.p (Pu.el ty_et44) ?_
 refine TL.p (by first | exact Pu.fb ty_fa87_1 | exact Pu.fe ty_fa87_1) ?_
 refine TL.p (Pu.ld ty_sc3) ?_
 refine TL.p Pu.as ?_
 refine TL.nil (TQ.thenN (hY8 _ _ ?_))
 refine TW.ret ?_
 refine TQ.blkR ?_
 refine TQ.thenR ?_
 refine TQ.thenR ?_
 refine TQ.blkR ?_
 refine TQ.thenR ?_
 refine TQ.ret Tryz.results16 rfl ((.tmp rfl .nil)) ?_
 have e : fst1 (fun q => decide (H.sp i q = (s : Int))) (H.ml i) = k := fst1_uniq hkl (fun j hj => decide_eq_false (hno j hj)) (fun _ => decide_eq_true hyes)
 exact fun w hw => ⟨ret_int (by unfold sgnK; rw [e, if_pos hkn]), Chg.ext hw.chg⟩
 try simp only [zcb9] at hc1
 have hnot : ¬ H.sp i k = (s : Int) := hc1
 refine TW.skip ?_
 refine TQ.blkN ?_
 refine TQ.thenN (hY6 _ _ ?_)
 refine TW.region ?_
 refine TL.p Pu.mv ?_
 refine TL.p Pu.ad ?_
 refine TL.p Pu.as ?_
 refine TL.nil ?_
 refine TQ.thenN (hZ0 (k + 1) _ _ ?_ ?_ fs9 ?_)
 refine ⟨by omega, fun j hj => ?_⟩
 by_cases e : j = k
 subst e; exact hnot
 exact hno j (by omega)
 exact zom9
 exact ks9
 try simp only [zcb9] at hc0
 have hkn : k = H.ml i := by omega
 refine TW.exit ?_
 refine TQ.thenX ?_
 refine TQ.thenX ?_
 refine TQ.blkX ?_
 refine TQ.thenN (hY2 _ _ ?_)
 refine TW.seq fun Y9 hY9 => TW.region ?_
 refine TL.p Pu.as ?_
 refine TL.nil (TQ.thenN (hY9 _ _ ?_))
 refine TW.ret ?_
 refine TQ.ret Tryz.results16 rfl ((.tmp rfl .nil)) ?_
 have e : fst1 (fun q => decide (H.sp i q = (s : Int))) (H.ml i) = H.ml i := fst1_uniq (Nat.le_refl _) (fun j hj => decide_eq_false (hno j (by omega))) (fun h => by omega)
 exact fun w hw => ⟨ret_int (by unfold sgnK; rw [e, if_neg (by omega)]), Chg.ext hw.chg⟩
end Go.Proofs.YtbenhafhklfhmaaGreat
namespace Go.Proofs.YtbenhafhklfhmaaGreat
set_option linter.all false
set_option linter.unusedVariables false
set_option linter.unusedSimpArgs false
open Go.RowKit
abbrev tied (K : List Fact) : Fact := bun K
theorem Sat.unbun {S : List Nat} {w0 w : World} {K1 K : List Fact} (h : Sat S w0 (tied K1 :: K) w) : Sat S w0 (K1 ++ K) w := by
 have e : feet (tied K1 :: K) = feet (K1 ++ K) := by rw [feet_append]; rfl
 refine ⟨h.chg, by rw [← e]; exact h.nd, by rw [← e]; exact h.ge, fun φ hφ => ?_⟩
 rcases List.mem_append.1 hφ with hφ | hφ
 · exact (h.holds _ (List.mem_cons_self ..)).now φ hφ
 · exact h.holds φ (List.mem_cons_of_mem _ hφ)
def ownsXE (E : TypeId) (sz : Nat) (A : Nat → Option Addr) (l c : Nat → Nat) (r : Nat → Nat → List Value) (s : Nat) : Nat → List Fact
 | 0 => []
 | n + 1 => if n = s then ownsE E sz A l c r n else .own (A n) (l n) (c n) E sz (r n) :: ownsXE E sz A l c r s n
section
variable {E : TypeId} {sz : Nat} {A A2 : Nat → Option Addr} {l l2 c c2 : Nat → Nat} {r r2 : Nat → Nat → List Value} {s : Nat}
theorem ownsE_perm : ∀ {n : Nat}, s < n → (ownsE E sz A l c r n).Perm (.own (A s) (l s) (c s) E sz (r s) :: ownsXE E sz A l c r s n)
 | n + 1, h => by
  by_cases hs : n = s
  · subst hs
    simp only [ownsE, ownsXE, if_true]
    exact List.Perm.refl _
  · simp only [ownsE, ownsXE, if_neg hs]
    exact ((ownsE_perm (n := n) (by omega)).cons _).trans (List.Perm.swap _ _ _)
theorem ownsE_congr2 : ∀ {n : Nat}, (∀ i, i < n → A i = A2 i ∧ l i = l2 i ∧ c i = c2 i ∧ r i = r2 i) → ownsE E sz A l c r n = ownsE E sz A2 l2 c2 r2 n
 | 0, _ => rfl
 | n + 1, h => by
  obtain ⟨h1, h2, h3, h4⟩ := h n (by omega)
  simp only [ownsE, h1, h2, h3, h4, ownsE_congr2 (n := n) fun i hi => h i (by omega)]
theorem ownsXE_congr : ∀ {n : Nat}, (∀ i, i < n → i ≠ s → A i = A2 i ∧ l i = l2 i ∧ c i = c2 i ∧ r i = r2 i) → ownsXE E sz A l c r s n = ownsXE E sz A2 l2 c2 r2 s n
  | 0, _ => rfl
  | n + 1, h => by
    by_cases hs : n = s
    · subst hs
      simp only [ownsXE, if_true]
      exact ownsE_congr2 fun i hi => h i (by omega) (by omega)
    · obtain ⟨h1, h2, h3, h4⟩ := h n (by omega) hs
      simp only [ownsXE, if_neg hs, h1, h2, h3, h4, ownsXE_congr (n := n) fun i hi => h i (by omega)]
variable {cx : Cx} {Q : Exit → Act → World → Prop} {F : Fr} {K K' : List Fact} {ops : Array Oper} {rest : List Oper}
theorem TL.ownTake {n : Nat} (s : Nat) (hs : s < n) (hp : Pick K (tied (ownsE E sz A l c r n)) K') (h : TL cx ops Q rest F (.own (A s) (l s) (c s) E sz (r s) :: tied (ownsXE E sz A l c r s n) :: K')) : TL cx ops Q rest F K := fun a w hF hK => by
 have h1 : Sat cx.S cx.w0 (ownsE E sz A l c r n ++ K') w := (hK.pick hp).unbun
 have h2 := h1.perm ((ownsE_perm hs).append_right K')
 have h3 : Sat cx.S cx.w0 (ownsXE E sz A l c r s n ++ (.own (A s) (l s) (c s) E sz (r s) :: K')) w := h2.perm List.perm_middle.symm
 exact h a w hF (h3.bun.perm (List.Perm.swap _ _ _))
theorem TL.ownPut {n : Nat} {A9 : Option Addr} {l9 c9 : Nat} {r9 : Nat → List Value} {K1 K2 : List Fact} (hp : Pick K (.own A9 l9 c9 E sz r9) K1) (hp2 : Pick K1 (tied (ownsXE E sz A l c r s n)) K2) (hs : s < n) (hA : A2 s = A9) (hl : l2 s = l9) (hc : c2 s = c9) (hr : ∀ k, k < l9 → r9 k = r2 s k)
  (ho : ∀ i, i < n → i ≠ s → A i = A2 i ∧ l i = l2 i ∧ c i = c2 i ∧ r i = r2 i) (h : TL cx ops Q rest F (tied (ownsE E sz A2 l2 c2 r2 n) :: K2)) : TL cx ops Q rest F K := fun a w hF hK => by
 subst hA hl hc
 have h1 := (hK.pick hp).sub (KSub.own Pick.hd hr (KSub.refl _))
 have h2 := h1.perm ((hp2.perm).cons _)
 have h3 := h2.perm (List.Perm.swap _ _ _)
 have h4 := h3.unbun
 rw [ownsXE_congr ho] at h4
 have h5 : Sat cx.S cx.w0 ((.own (A2 s) (l2 s) (c2 s) E sz (r2 s) :: ownsXE E sz A2 l2 c2 r2 s n) ++ K2) w := h4.perm List.perm_middle
 exact h a w hF ((h5.perm ((ownsE_perm hs).symm.append_right K2)).bun)
end
end Go.Proofs.YtbenhafhklfhmaaGreat
namespace Go.Proofs.YtbenhafhklfhmaaGreat
set_option linter.all false
set_option linter.unusedVariables false
set_option linter.unusedSimpArgs false
open Go.RowKit
structure LksIn (w : World) (nl : Nat) (L : Nat → Lk) (B : Option Addr) (la : Nat → Option Addr) (lc : Nat → Nat) : Prop where
 hn : nl ≤ 1000
 hR : RdR w 4 B nl (fun k => lkL (L k) (la k) (lc k))
 hL : ∀ k, k < nl → LkIn w (L k) (la k)
structure CvsIn (w : World) (nc : Nat) (dm yg : Nat → Int) (C : Option Addr) : Prop where
 hn : nc ≤ 1000
 hR : RdR w 2 C nc (fun k => [.int .i64 (dm k), .int .i64 (yg k)])
theorem LksIn.ext {w w' : World} {nl : Nat} {L : Nat → Lk} {B : Option Addr} {la : Nat → Option Addr} {lc : Nat → Nat} (h : LksIn w nl L B la lc) (hb : Below w.heap.size w w') : LksIn w' nl L B la lc := ⟨h.hn, ⟨h.hR.rd.below hb, h.hR.len⟩, fun k hk => (h.hL k hk).ext hb⟩
theorem CvsIn.ext {w w' : World} {nc : Nat} {dm yg : Nat → Int} {C : Option Addr} (h : CvsIn w nc dm yg C) (hb : Below w.heap.size w w') : CvsIn w' nc dm yg C := ⟨h.hn, ⟨h.hR.rd.below hb, h.hR.len⟩⟩
theorem lk_8 {l : Lk} (h : lkB l = true) : l.ns = 8 := by
 unfold lkB at h
 simp only [Bool.and_eq_true, decide_eq_true_eq] at h
 exact h.1.1.1
def cv1 (nl : Nat) (dm yg : Nat → Int) (c : Nat) : Bool := inB5 0 ((nl : Int) - 1) (dm c) && inB5 0 ((nl : Int) - 1) (yg c) && !decide (dm c = yg c)
theorem cv_all {nl nc : Nat} {dm yg : Nat → Int} : allB nc (cv1 nl dm yg) = cvB nl nc dm yg := rfl
theorem agd_bd {n : Nat} {S : BSt} {i : Nat} {l : Lk} (h : BdS n 300000 S) (hi : i < n) (hl : lkB l = true) : BdS n 300000 (putS1 S i (agd (S i) l)) := fun j hj => by
 unfold lkB inB5 ordB5 at hl
 simp only [Bool.and_eq_true, decide_eq_true_eq] at hl
 obtain ⟨⟨⟨h1, h2⟩, h3⟩, h4⟩ := hl
 by_cases e : j = i
 · subst e
   rw [putS1_at]
   have := h j hj
   unfold agd comm
   dsimp only
   omega
 · rw [putS1_ne e]; exact h j hj
theorem born_bd3 {H : Hd} (hk : HOk H) : BdS H.n 300000 (bornH H) := fun j hj => by
 have := hk.bd j hj
 unfold bornH
 dsimp only
 omega
theorem put_row {n : Nat} {S : BSt} {i : Nat} {u : Int × Int} : ∀ j, j < n → updR (fun j => spL (S j).1 (S j).2) i (spL u.1 u.2) j = spL (putS1 S i u j).1 (putS1 S i u j).2 := fun j _ => by
 unfold updR
 by_cases e : j = i
 · rw [if_pos e, e, putS1_at]
 · rw [if_neg e, putS1_ne e]
end Go.Proofs.YtbenhafhklfhmaaGreat
namespace Go.Proofs.YtbenhafhklfhmaaGreat
set_option linter.all false
set_option linter.unusedVariables false
set_option linter.unusedSimpArgs false
open Go.RowKit
theorem chg_below {S : List Nat} {w w' : World} {N : Nat} (h : Chg S w w') (hS : ∀ b ∈ S, N ≤ b) (hN : N ≤ w.heap.size) : Below N w w' := ⟨h.os, h.tape, h.output, h.size, fun k hk => h.block k (by omega) (fun hm => by have := hS k hm; omega)⟩
theorem apart_of9 {S : List Nat} {b : Nat} (h : b ∉ S) : Apart S (some ⟨b, 0, none⟩) := fun q hq => by cases hq; exact h
theorem notin_sat9 {M M' : List Nat} {w w' : World} {K : List Fact} {q : Nat} (hs : Sat M w K w') (hM : ∀ b ∈ M', b ∈ feet K) (hq : q ∉ M) (hlt : q < w.heap.size) : q ∉ M' := fun hm => by
 rcases hs.ge q (hM q hm) with h | h
 · exact hq h
 · omega
end Go.Proofs.YtbenhafhklfhmaaGreat
