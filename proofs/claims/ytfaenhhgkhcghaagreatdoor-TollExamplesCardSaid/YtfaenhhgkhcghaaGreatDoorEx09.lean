/-
  Part 9 of the proof of tollExamples_holds: declarations of several texts, in build order. No condition on a program.
-/
import Derived.Test.YtfaenhhgkhcghaaGreatDoorEx08
import Derived.Test.YtfaenhhgkhcghaaGreatDoorEx06
import Derived.Test.YtfaenhhgkhcghaaGreatDoorEx03
import Derived.ArgAppend
namespace Go.Proofs.YtfaenhhgkhcghaaGreatDoor
set_option linter.all false
set_option linter.unusedVariables false
set_option linter.unusedSimpArgs false
open Go.RowKit
section
variable {Z : Cus} {T : Trp} {C D B O U V S : Option Addr} {cc cd cb co cu cv n cs bt : Nat} {st : Nat → Nat → Int} {w : World}
set_option maxRecDepth 100000 in
set_option maxHeartbeats 8000000 in
theorem cDue_any (i : Nat) (hi : i < n) (hok : CusOk Z) (htr : trpOk T = true) (h : CustIn w C Z.nc D Z.nd B Z.nb Z.c Z.d Z.b) (t : TrpIn w T O U V) (sI : StpIn w n st S) (ht : OldB w bt (trkL T O co U cu V cv Z C cc D cd B cb S n cs)) :
  CallsK Tryz.prog 75 #[.pointer (some ⟨bt, 0, none⟩), .int .i64 (i : Int)] [] w (Option Addr × Nat) (fun y => .tuple #[.slice y.1 (tolI (i : Int) (trbLo Z T (st i)) (trbHi Z T (st i)) 8).length y.2, .agg #[.int .i64 (sumLo Z T (st i)), .int .i64 (sumHi Z T (st i))]]) (fun y => [.own y.1 (tolI (i : Int) (trbLo Z T (st i)) (trbHi Z T (st i)) 8).length y.2 98 4 (rowsT (tolI (i : Int) (trbLo Z T (st i)) (trbHi Z T (st i)) 8))]) := by
 have ht9 := ht
 have hRS := sI.hR
 have hn := sI.hn
 have hbd := sI.bd i hi
 have hRV := t.hV
 have hnv := t.hnv
 have hlen := cdA_len (lo := st i 2) hok.nc hok.nd hok.nb
 have hcl : (cdZ Z (st i 2) (st i 3)).length ≤ 6001 := Nat.le_trans (List.length_filter_le _ _) hlen
 have htr9 := htr
 unfold trpOk inB5 at htr9
 simp only [Bool.and_eq_true, decide_eq_true_eq] at htr9
 obtain ⟨⟨⟨⟨⟨h10, h11⟩, h12, h13⟩, _⟩, _⟩, _⟩ := htr9
 have fC := fun (w' : World) => cChanges_any (w := w') (C := C) (cc := cc) (D := D) (cd := cd) (B := B) (cb := cb) (Z := Z) (st i 2) (st i 3)
 unfold custL at fC
 unfold trkL at ht
 refine K_enterM (S := []) (K := []) Tryz.func75 rfl Tryz.ntmps75 rfl (Sat.start _) ?_
 refine TW.seqD fun Y1 hY1 => ?_
 refine TW.region ?_
 refine TL.m Mk.bx ?_
 intro b1
 refine TL.p Pu.as ?_
 refine TL.m (Mk.al ty_zr36) ?_
 intro b2
 refine TL.nil ?_
 refine TQ.thenN (hY1 _ _ _ ?_)
 refine TW.seqD fun Y2 hY2 => ?_
 refine TW.region ?_
 refine TL.p (Pu.ld ty_sc76) ?_
 refine TL.p (by first | exact Pu.nn | exact Pu.nc) ?_
 refine TL.p (by first | exact Pu.fb ty_fa129_2 | exact Pu.fe ty_fa129_2) ?_
 refine TL.p (Pu.ldo ty_sc83) ?_
 refine TL.p Pu.mv ?_
 refine TL.p (Pu.el ty_et83) ?_
 refine TL.p (Pu.lds ty_ag160) ?_
 refine TL.m (Mk.al ty_zr160) ?_
 intro b3
 first | refine TL.st ty_sz160 ?_ | refine TL.se ty_sz160 ?_
 refine TL.nil ?_
 refine TQ.thenN (hY2 _ _ _ ?_)
 refine TW.seqD fun Y3 hY3 => ?_
 refine TW.region ?_
 refine TL.mm (kk := .i64) ?_
 intro b4
 refine TL.m (Mk.al ty_zr187) ?_
 intro b5
 first | refine TL.st ty_sz187 ?_ | refine TL.se ty_sz187 ?_
 refine TL.nil ?_
 refine TQ.thenN (hY3 _ _ _ ?_)
 refine TW.seqD fun Y4 hY4 => ?_
 refine TW.region ?_
 refine TL.m (Mk.al ty_zr31) ?_
 intro b6
 refine TL.nil ?_
 refine TQ.thenN (hY4 _ _ _ ?_)
 refine TW.seqD fun Y5 hY5 => ?_
 refine TW.region ?_
 refine TL.m (Mk.al ty_zr3) ?_
 intro b7
 first | refine TL.st ty_sz3 ?_ | refine TL.se ty_sz3 ?_
 refine TL.nil ?_
 refine TQ.thenN (hY5 _ _ _ ?_)
 refine TW.seqD fun Y6 hY6 => ?_
 refine TW.seqD fun Y7 hY7 => ?_
 refine TW.np ?_
 refine TW.dw 11 ?_
 refine RK.tk (Pu.ld ty_sc76) ?_
 refine RK.tk (by first | exact Pu.nn | exact Pu.nc) ?_
 refine RK.tk (by first | exact Pu.fb ty_fa129_1 | exact Pu.fe ty_fa129_1) ?_
 refine RK.tk (Pu.ldso ty_ag30) ?_
 refine RK.tk (by first | exact Pu.fb ty_fa160_2 | exact Pu.fe ty_fa160_2) ?_
 refine RK.tk (by first | exact Pu.fb ty_fa36_0 | exact Pu.fe ty_fa36_0) ?_
 refine RK.tk (Pu.ld ty_sc3) ?_
 refine RK.tk (by first | exact Pu.fb ty_fa160_2 | exact Pu.fe ty_fa160_2) ?_
 refine RK.tk (by first | exact Pu.fb ty_fa36_1 | exact Pu.fe ty_fa36_1) ?_
 refine RK.tk (Pu.ld ty_sc3) ?_
 refine RK.keep ?_
 refine RK.ch [false] ?_ trivial
 refine WK.call rfl (enters Tryz.func120 rfl rfl) rfl (fun w hw => by
   exact fC _) ?_
 rintro x
 refine WK.n ?_
 refine TL.nil ?_
 refine TQ.npN ?_
 refine TQ.thenN (hY7 _ _ _ ?_)
 refine TW.block ?_
 refine TW.tied0 (E := 3) (sz := 1) (fun s => iL (gq Z T (st i 0) (cdZ Z (st i 2) (st i 3)) 0 s)) ?_
 refine TW.rangeR (fun (q : Nat) (r : ((Option Addr × Nat) × List (Int × Value)) × (Nat → Option Addr) × (Nat → Nat)) => if propB (dueP Z T (st i 0) (cdZ Z (st i 2) (st i 3)) q r.1.2 r.2.1 r.2.2) = true then .blk b7 3 [.int .i64 (q : Int)] :: .blk b6 31 [.slice r.1.1.1 q r.1.1.2] :: .own r.1.1.1 q r.1.1.2 3 1 (iL (sumQ Z T (st i 0) (cdZ Z (st i 2) (st i 3)) q)) :: .obj b4 (mapO .i64 r.1.2) :: tied (ownsE 3 1 r.2.1 (fun s => (gq Z T (st i 0) (cdZ Z (st i 2) (st i 3)) q s).length) r.2.2 (fun s => iL (gq Z T (st i 0) (cdZ Z (st i 2) (st i 3)) q s)) 8) :: .blk b5 187 [.map (some b4)] :: .blk b1 76 [.pointer (some ⟨bt, 0, none⟩)] :: .blk b3 160 [.int .i64 (st i 0), .int .i64 (st i 1), .int .i64 (st i 2), .int .i64 (st i 3), .int .i64 (st i 4), .int .i64 (st i 5)] :: .blk b2 36 [.int .i64 0, .int .i64 0] :: [] else [badT]) (fun x : Empty => x.elim) (fun x => x.elim) ((((none, 0), []), (fun _ => none), (fun _ => 0))) (fun a b => changes1_iter (C := C) (D := D) (B := B) (cc := cc) (cd := cd) (cb := cb) (Z := Z) (x := x) (lo := st i 2) (hi := st i 3) hok h Apart.nil Apart.nil Apart.nil) ?_ ?_ ?_ ?_ (eg := enters Tryz.func147 rfl rfl)
 rw [if_pos (propB_iff.2 dueP_0)]
 unfold chgM
 exact KSub.cons pk9 (KSub.cons pk9 (KSub.cons pk9 (KSub.cons pk9 (KSub.cons pk9 (KSub.nilOwn (KSub.cons pk9 (KSub.cons pk9 ks9)))))))
 rintro lR DR oR oR1 oR2 q g ⟨⟨⟨Sm, cS⟩, mp⟩, pa, pc⟩ hq ZR0 hZR0
 by_cases hP : propB (dueP Z T (st i 0) (cdZ Z (st i 2) (st i 3)) q mp pa pc) = true
 case neg => exact fun a w hF hK => (no_badT hK (by rw [if_neg hP]; simp)).elim
 simp only [if_pos hP, chgY, List.cons_append, List.nil_append]
 have hP9 := hidT (propB_iff.1 hP)
 clear hP
 have hyb := hclO_bd hok (leg := st i 0) (day := ((cdZ Z (st i 2) (st i 3)).getD q 0))
 have hyp := hclO_pay hok (leg := st i 0) (day := ((cdZ Z (st i 2) (st i 3)).getD q 0))
 obtain ⟨y, hy⟩ : ∃ y, y = hclO Z (st i 0) ((cdZ Z (st i 2) (st i 3)).getD q 0) := ⟨_, rfl⟩
 have fH := fun (w' : World) (h' : CustIn w' C Z.nc D Z.nd B Z.nb Z.c Z.d Z.b) (ht' : OldB w' bt (trkL T O co U cu V cv Z C cc D cd B cb S n cs)) => cHost_any (st i 0) ((cdZ Z (st i 2) (st i 3)).getD q 0) hok h' ht'
 have hpb : payB Z T (st i 0) ((cdZ Z (st i 2) (st i 3)).getD q 0) = (decide (0 ≤ holZ Z (st i 0) ((cdZ Z (st i 2) (st i 3)).getD q 0)) && !hasB T.v T.nv (y.1 1)) := by rw [hy]; rfl
 have hpe : payB Z T (st i 0) ((cdZ Z (st i 2) (st i 3)).getD q 0) = true → y.1 4 * T.hd + (y.1 5 * T.wo + 1000 - 1) / 1000 = payZ Z T (st i 0) ((cdZ Z (st i 2) (st i 3)).getD q 0) := fun h9 => by rw [hy]; exact pay_eq h9
 have hdy : ∀ (s0 : Nat) (A9 : Option Addr) (c9 : Nat), payB Z T (st i 0) ((cdZ Z (st i 2) (st i 3)).getD q 0) = true → y.1 1 = s0 → dueP Z T (st i 0) (cdZ Z (st i 2) (st i 3)) (q + 1) (mput (y.1 1) (.slice A9 ((gq Z T (st i 0) (cdZ Z (st i 2) (st i 3)) q s0).length + 1) c9) mp) (updA pa s0 A9) (updA pc s0 c9) := fun s0 A9 c9 h7 h8 => by rw [hy] at h8 ⊢; exact dueP_yes hq h7 h8 hP9.out
 have hgs : ∀ s0 : Nat, payB Z T (st i 0) ((cdZ Z (st i 2) (st i 3)).getD q 0) = true → y.1 1 = s0 → gq Z T (st i 0) (cdZ Z (st i 2) (st i 3)) (q + 1) s0 = gq Z T (st i 0) (cdZ Z (st i 2) (st i 3)) q s0 ++ [payZ Z T (st i 0) ((cdZ Z (st i 2) (st i 3)).getD q 0)] := fun s0 h7 h8 => gq_yes hq (by unfold isW; rw [h7, ← hy, decide_eq_true h8]; rfl)
 have hgn : ∀ s : Nat, y.1 1 ≠ s → gq Z T (st i 0) (cdZ Z (st i 2) (st i 3)) (q + 1) s = gq Z T (st i 0) (cdZ Z (st i 2) (st i 3)) q s := fun s h8 => gq_no hq (isW_ne (by rw [← hy]; exact h8))
 rw [← hy] at fH hyb hyp
 clear hy
 replace hpb := hidT hpb
 have q1 : 0 ≤ y.1 4 * T.hd ∧ y.1 4 * T.hd ≤ 1000000 * 1000 := ⟨Int.mul_nonneg (by omega) (by omega), Int.mul_le_mul (by omega) h11 (by omega) (by omega)⟩
 have q2 : 0 ≤ y.1 5 * T.wo ∧ y.1 5 * T.wo ≤ 1000 * 1000000000000 := ⟨Int.mul_nonneg (by omega) (by omega), Int.mul_le_mul (by omega) h13 (by omega) (by omega)⟩
 have hql : (sumQ Z T (st i 0) (cdZ Z (st i 2) (st i 3)) q).length = q := sumQ_len (by omega)
 refine TWi.region ?_
 refine TL.p Pu.as ?_
 refine TL.nil ?_
 refine TQ.thenN (hZR0 _ _ _ Pick.hd ?_)
 refine TWi.block ?_
 refine TWi.seq fun Y8 hY8 => ?_
 refine TWi.region ?_
 refine TL.p (Pu.ld ty_sc3) ?_
 refine TL.p Pu.ad ?_
 first | refine TL.st ty_sz3 ?_ | refine TL.se ty_sz3 ?_
 refine TL.nil (TQ.thenN (hY8 _ _ ?_))
 refine TWi.seq fun Y9 hY9 => ?_
 refine TWi.region ?_
 refine TL.p Pu.as ?_
 refine TL.nil (TQ.thenN (hY9 _ _ ?_))
 refine TWi.seq fun Y10 hY10 => ?_
 refine TWi.seq fun Y11 hY11 => ?_
 refine TWi.region ?_
 refine TL.p (Pu.ld ty_sc76) ?_
 refine TL.p (by first | exact Pu.fb ty_fa160_0 | exact Pu.fe ty_fa160_0) ?_
 refine TL.p (Pu.ld ty_sc3) ?_
 refine TL.p Pu.mv ?_
 refine TL.cr rfl (enters Tryz.func121 rfl rfl) (fun w hw => by
   exact fH _ (h.ext (Chg.ext hw.chg)) (ht9.ext (Chg.ext hw.chg))) ?_
 refine TL.p Pu.mv ?_
 refine TL.p Pu.ex ?_
 refine TL.p Pu.ex ?_
 refine TL.m (Mk.al ty_zr70) ?_
 intro b8
 first | refine TL.st ty_sz70 ?_ | refine TL.se ty_sz70 ?_
 refine TL.p Pu.as ?_
 refine TL.nil (TQ.thenN (hY11 _ _ ?_))
 refine TWi.seq fun Y12 hY12 => ?_
 refine TWi.join [(59, .bool (decide (0 ≤ holZ Z (st i 0) ((cdZ Z (st i 2) (st i 3)).getD q 0)) && !hasB T.v T.nv (y.1 1)))] ?_ (fun hJ1 => ?_)
 refine TQ.thenN (hY12 _ _ ?_)
 refine TWi.cond rfl (fun hc0 => ?_) (fun hc0 => ?_)
 try simp only [zcb9] at hc0
 have hpt : payB Z T (st i 0) ((cdZ Z (st i 2) (st i 3)).getD q 0) = true := by rw [hpb.out, Bool.and_eq_true, decide_eq_true_eq, Bool.not_eq_true']; exact hc0
 have hpv := hidT (hpe hpt)
 have hdv := hdy (y.1 1).toNat
 have hsv := hidT (hgs (y.1 1).toNat hpt (by omega))
 have hs8 : (y.1 1).toNat < 8 := by omega
 have hlk : (mlook (y.1 1) mp).getD (.slice none 0 0) = .slice (pa (y.1 1).toNat) (gq Z T (st i 0) (cdZ Z (st i 2) (st i 3)) q (y.1 1).toNat).length (pc (y.1 1).toNat) := by
  have h9 := hP9.out (y.1 1).toNat hs8
  rwa [Int.toNat_of_nonneg hyb.1] at h9
 have hgl : (gq Z T (st i 0) (cdZ Z (st i 2) (st i 3)) q (y.1 1).toNat).length ≤ 6001 := Nat.le_trans gq_len hcl
 replace hlk := hidT hlk
 refine TWi.seq fun Y13 hY13 => ?_
 refine TWi.dw 21 ?_
 refine RK.tk (by first | exact Pu.fb ty_fa70_4 | exact Pu.fe ty_fa70_4) ?_
 refine RK.tk (Pu.ld ty_sc3) ?_
 refine RK.tk (Pu.ld ty_sc76) ?_
 refine RK.tk (by first | exact Pu.nn | exact Pu.nc) ?_
 refine RK.tk (by first | exact Pu.fb ty_fa129_0 | exact Pu.fe ty_fa129_0) ?_
 refine RK.tk (by first | exact Pu.fb ty_fa33_0 | exact Pu.fe ty_fa33_0) ?_
 refine RK.tk (Pu.ldo ty_sc3) ?_
 refine RK.tk Pu.ml ?_
 refine RK.tk (by first | exact Pu.fb ty_fa70_5 | exact Pu.fe ty_fa70_5) ?_
 refine RK.tk (Pu.ld ty_sc3) ?_
 refine RK.tk (Pu.ld ty_sc76) ?_
 refine RK.tk (by first | exact Pu.nn | exact Pu.nc) ?_
 refine RK.tk (by first | exact Pu.fb ty_fa129_0 | exact Pu.fe ty_fa129_0) ?_
 refine RK.tk (by first | exact Pu.fb ty_fa33_1 | exact Pu.fe ty_fa33_1) ?_
 refine RK.tk (Pu.ldo ty_sc3) ?_
 refine RK.tk Pu.ml ?_
 refine RK.tk Pu.ad ?_
 refine RK.tk Pu.sb ?_
 refine RK.tk Pu.qu ?_
 refine RK.tk Pu.ad ?_
 refine RK.tk Pu.as ?_
 refine RK.ch [] ?_ trivial
 refine WK.n ?_
 refine TL.nil (TQ.thenN (hY13 _ _ ?_))
 refine TWi.expk [.blk b5 187 [.map (some b4)], .blk b8 70 (claimL y)] (fun (⟨x8, A9, c9⟩ : Nat × Option Addr × Nat) => ([(11, .int .i64 (y.1 4 * T.hd + (y.1 5 * T.wo + 1000 - 1) / 1000)), (8, .pointer (some ⟨b6, 0, none⟩))] : Fr)) (fun (⟨x8, A9, c9⟩ : Nat × Option Addr × Nat) => [.obj b4 (mapO .i64 (mput (y.1 1) (.slice A9 ((gq Z T (st i 0) (cdZ Z (st i 2) (st i 3)) q (y.1 1).toNat).length + 1) c9) mp)), tied (ownsE 3 1 (updA pa (y.1 1).toNat A9) (fun s => (gq Z T (st i 0) (cdZ Z (st i 2) (st i 3)) (q + 1) s).length) (updA pc (y.1 1).toNat c9) (fun s => iL (gq Z T (st i 0) (cdZ Z (st i 2) (st i 3)) (q + 1) s)) 8), .blk b7 3 [.int .i64 ((q : Int) + 1)], .blk b6 31 [.slice Sm q cS], .own Sm q cS 3 1 (iL (sumQ Z T (st i 0) (cdZ Z (st i 2) (st i 3)) q)), .blk b5 187 [.map (some b4)], .blk b1 76 [.pointer (some ⟨bt, 0, none⟩)], .blk b3 160 [.int .i64 (st i 0), .int .i64 (st i 1), .int .i64 (st i 2), .int .i64 (st i 3), .int .i64 (st i 4), .int .i64 (st i 5)], .blk b2 36 [.int .i64 0, .int .i64 0], .obj lR oR1, .obj DR oR2, .own g.1 (cdA Z (st i 2)).length g.2 3 1 (iL (cdA Z (st i 2))), .blk x.2.1 3 [.int .i64 (st i 2)], .blk x.2.2 3 [.int .i64 (st i 3)]]) ?_ (fun hE => ?_)
 rintro ⟨x8, A9, c9⟩
 refine TQ.thenN (hY10 _ _ ?_)
 refine TWi.region ?_
 refine TL.p (Pu.ld ty_sc31) ?_
 refine TL.p Pu.mv ?_
 refine TL.m Mk.bl ?_
 intro b9
 first | refine TL.a0 ty_et31 ?_ | refine TL.ap ty_et31 ?_
 intro A10 c10
 first | refine TL.st ty_sz31 ?_ | refine TL.se ty_sz31 ?_
 refine TL.nil ?_
 refine TQ.blkN ?_
 refine TQ.rbN (by first | exact (((A10, c10), mput (y.1 1) (.slice A9 ((gq Z T (st i 0) (cdZ Z (st i 2) (st i 3)) q (y.1 1).toNat).length + 1) c9) mp), updA pa (y.1 1).toNat A9, updA pc (y.1 1).toNat c9) | exact (((A12, c12), mp), pa, pc)) ?_
 first
  | (have hcond := propB_iff.2 (hdv A9 c9 hpt (by omega)); simp only [if_pos hcond, chgY, List.cons_append, List.nil_append]; clear hcond; exact KSub.cons pk9 (KSub.cons pk9 (KSub.cons pk9 (KSub.cons pk9 (KSub.cons pk9 (KSub.valI pk9 (by omega) (KSub.cons pk9 (KSub.own pk9 (iL_app hql.symm (sumQ_s hq) (congrArg (fun z => [Value.int .i64 z]) hpv.out)) (KSub.cons pk9 (KSub.cons pk9 ks9))))))))))
  | (have hcond := propB_iff.2 (dueP_no hq hpt hP9.out); simp only [if_pos hcond, chgY, List.cons_append, List.nil_append]; clear hcond; simp only [show ∀ s, gq Z T (st i 0) (cdZ Z (st i 2) (st i 3)) (q + 1) s = gq Z T (st i 0) (cdZ Z (st i 2) (st i 3)) q s from fun s => gq_no hq (by unfold isW; rw [hpt]; rfl)]; exact KSub.cons pk9 (KSub.cons pk9 (KSub.cons pk9 (KSub.cons pk9 (KSub.cons pk9 (KSub.valI pk9 (by omega) (KSub.cons pk9 (KSub.own pk9 (iL_app hql.symm (sumQ_s hq) (congrArg (fun z => [Value.int .i64 z]) hpz.out.symm)) (KSub.cons pk9 (KSub.cons pk9 ks9))))))))))
 refine RG.tk 0 rfl (Pu.ld ty_sc187) ?_
 refine RG.tk 1 rfl (by first | exact Pu.fb ty_fa70_1 | exact Pu.fe ty_fa70_1) ?_
 refine RG.tk 2 rfl (Pu.ld ty_sc3) ?_
 refine RG.tk 3 rfl (Pu.ld ty_sc187) ?_
 refine RG.tk 4 rfl (by first | exact Pu.fb ty_fa70_1 | exact Pu.fe ty_fa70_1) ?_
 refine RG.tk 5 rfl (Pu.ld ty_sc3) ?_
 refine RG.tk 7 rfl Pu.mv ?_
 refine RG.a2 6 8 rfl rfl (fun X6 hX6 => ?_) (fun X8 hX8 => ?_)
 refine TL.p (Pu.l1V (.slice (pa (y.1 1).toNat) (gq Z T (st i 0) (cdZ Z (st i 2) (st i 3)) q (y.1 1).toNat).length (pc (y.1 1).toNat)) ty_mp187 ty_zv31 hlk.out) ?_
 refine TL.nil ?_
 refine TQ.nxt (hX6 _ _ hl9 ?_)
 refine RG.a1 8 rfl (fun X8 hX8 => ?_)
 refine TL.m Mk.bl ?_
 intro x8
 refine TL.nil ?_
 refine TQ.nxt (hX8 _ _ hl9 ?_)
 refine RG.a1 9 rfl (fun X9 hX9 => ?_)
 refine TL.ownTake (y.1 1).toNat hs8 pk9 ?_
 first | refine TL.a0 ty_et31 ?_ | refine TL.ap ty_et31 ?_
 intro A9 c9
 refine TL.nil ?_
 refine TQ.nxt (hX9 _ _ hl9 ?_)
 refine RG.a1 10 rfl (fun X10 hX10 => ?_)
 refine TL.ownPut (s := (y.1 1).toNat) (A9 := A9) (A2 := updA pa (y.1 1).toNat A9) (l2 := fun s => (gq Z T (st i 0) (cdZ Z (st i 2) (st i 3)) (q + 1) s).length) (c2 := updA pc (y.1 1).toNat c9) (r2 := fun s => iL (gq Z T (st i 0) (cdZ Z (st i 2) (st i 3)) (q + 1) s)) pk9 pk9 hs8 (by simp [updA]) (by show (gq Z T (st i 0) (cdZ Z (st i 2) (st i 3)) (q + 1) (y.1 1).toNat).length = _; rw [hsv.out, List.length_append]; rfl) (by simp [updA]) (fun k hk => iL_app rfl hsv.out (congrArg (fun z => [Value.int .i64 z]) hpv.out) k hk) (fun k hk hne => ⟨by simp [updA, hne], by show _ = (gq Z T (st i 0) (cdZ Z (st i 2) (st i 3)) (q + 1) k).length; rw [hgn k (by omega)], by simp [updA, hne], by show _ = iL (gq Z T (st i 0) (cdZ Z (st i 2) (st i 3)) (q + 1) k); rw [hgn k (by omega)]⟩) ?_
 refine TL.mu ty_mp187 ?_
 refine TL.nil ?_
 refine TQ.nxt (hX10 _ _ hl9 ?_)
 exact RG.nil (TQ.sub fs9 kt9 (hE ⟨x8, A9, c9⟩)) (by kernel_rfl)
 refine TL.m Mk.bl ?_
 intro x8
 refine TL.nil ?_
 refine TQ.nxt (hX8 _ _ hl9 ?_)
 refine RG.a1 6 rfl (fun X6 hX6 => ?_)
 refine TL.p (Pu.l1V (.slice (pa (y.1 1).toNat) (gq Z T (st i 0) (cdZ Z (st i 2) (st i 3)) q (y.1 1).toNat).length (pc (y.1 1).toNat)) ty_mp187 ty_zv31 hlk.out) ?_
 refine TL.nil ?_
 refine TQ.nxt (hX6 _ _ hl9 ?_)
 refine RG.a1 9 rfl (fun X9 hX9 => ?_)
 refine TL.ownTake (y.1 1).toNat hs8 pk9 ?_
 first | refine TL.a0 ty_et31 ?_ | refine TL.ap ty_et31 ?_
 intro A9 c9
 refine TL.nil ?_
 refine TQ.nxt (hX9 _ _ hl9 ?_)
 refine RG.a1 10 rfl (fun X10 hX10 => ?_)
 refine TL.ownPut (s := (y.1 1).toNat) (A9 := A9) (A2 := updA pa (y.1 1).toNat A9) (l2 := fun s => (gq Z T (st i 0) (cdZ Z (st i 2) (st i 3)) (q + 1) s).length) (c2 := updA pc (y.1 1).toNat c9) (r2 := fun s => iL (gq Z T (st i 0) (cdZ Z (st i 2) (st i 3)) (q + 1) s)) pk9 pk9 hs8 (by simp [updA]) (by show (gq Z T (st i 0) (cdZ Z (st i 2) (st i 3)) (q + 1) (y.1 1).toNat).length = _; rw [hsv.out, List.length_append]; rfl) (by simp [updA]) (fun k hk => iL_app rfl hsv.out (congrArg (fun z => [Value.int .i64 z]) hpv.out) k hk) (fun k hk hne => ⟨by simp [updA, hne], by show _ = (gq Z T (st i 0) (cdZ Z (st i 2) (st i 3)) (q + 1) k).length; rw [hgn k (by omega)], by simp [updA, hne], by show _ = iL (gq Z T (st i 0) (cdZ Z (st i 2) (st i 3)) (q + 1) k); rw [hgn k (by omega)]⟩) ?_
 refine TL.mu ty_mp187 ?_
 refine TL.nil ?_
 refine TQ.nxt (hX10 _ _ hl9 ?_)
 exact RG.nil (TQ.sub fs9 kt9 (hE ⟨x8, A9, c9⟩)) (by kernel_rfl)
 try simp only [zcb9] at hc0
 have hpt : payB Z T (st i 0) ((cdZ Z (st i 2) (st i 3)).getD q 0) = false := by rw [hpb.out, Bool.and_eq_false_iff, decide_eq_false_iff_not, Bool.not_eq_false']; first | exact hc0 | (simpa using hc0)
 have hpz := hidT (payB_no hpt)
 refine TWi.skip ?_
 refine TQ.thenN (hY10 _ _ ?_)
 refine TWi.region ?_
 refine TL.p (Pu.ld ty_sc31) ?_
 refine TL.p Pu.mv ?_
 refine TL.m Mk.bl ?_
 intro b11
 first | refine TL.a0 ty_et31 ?_ | refine TL.ap ty_et31 ?_
 intro A12 c12
 first | refine TL.st ty_sz31 ?_ | refine TL.se ty_sz31 ?_
 refine TL.nil ?_
 refine TQ.blkN ?_
 refine TQ.rbN (by first | exact (((A10, c10), mput (y.1 1) (.slice A9 ((gq Z T (st i 0) (cdZ Z (st i 2) (st i 3)) q (y.1 1).toNat).length + 1) c9) mp), updA pa (y.1 1).toNat A9, updA pc (y.1 1).toNat c9) | exact (((A12, c12), mp), pa, pc)) ?_
 first
  | (have hcond := propB_iff.2 (hdv A9 c9 hpt (by omega)); simp only [if_pos hcond, chgY, List.cons_append, List.nil_append]; clear hcond; exact KSub.cons pk9 (KSub.cons pk9 (KSub.cons pk9 (KSub.cons pk9 (KSub.cons pk9 (KSub.valI pk9 (by omega) (KSub.cons pk9 (KSub.own pk9 (iL_app hql.symm (sumQ_s hq) (congrArg (fun z => [Value.int .i64 z]) hpv.out)) (KSub.cons pk9 (KSub.cons pk9 ks9))))))))))
  | (have hcond := propB_iff.2 (dueP_no hq hpt hP9.out); simp only [if_pos hcond, chgY, List.cons_append, List.nil_append]; clear hcond; simp only [show ∀ s, gq Z T (st i 0) (cdZ Z (st i 2) (st i 3)) (q + 1) s = gq Z T (st i 0) (cdZ Z (st i 2) (st i 3)) q s from fun s => gq_no hq (by unfold isW; rw [hpt]; rfl)]; exact KSub.cons pk9 (KSub.cons pk9 (KSub.cons pk9 (KSub.cons pk9 (KSub.cons pk9 (KSub.valI pk9 (by omega) (KSub.cons pk9 (KSub.own pk9 (iL_app hql.symm (sumQ_s hq) (congrArg (fun z => [Value.int .i64 z]) hpz.out.symm)) (KSub.cons pk9 (KSub.cons pk9 ks9))))))))))
 refine TWi.ex0k [.blk b1 76 [.pointer (some ⟨bt, 0, none⟩)], .blk b8 70 (claimL y)] ?_
 refine RG.tk 0 rfl Pu.mv ?_
 refine RG.tk 1 rfl Pu.mv ?_
 refine RG.guard (t := 49) rfl (fun hg1 => ?_) (fun hg1 => ?_)
 refine RG.tk 2 rfl (Pu.ld ty_sc76) ?_
 refine RG.tk 7 rfl (by first | exact Pu.fb ty_fa70_1 | exact Pu.fe ty_fa70_1) ?_
 refine RG.tk 8 rfl (Pu.ld ty_sc3) ?_
 refine RG.a1 3 rfl (fun X3 hX3 => ?_)
 refine TL.gd (by first | exact Pu.nn | exact Pu.nc) ?_
 refine TL.nil ?_
 refine TQ.nxt (hX3 _ _ hl9 ?_)
 refine RG.tk 4 rfl (by first | exact Pu.fb ty_fa129_0 | exact Pu.fe ty_fa129_0) ?_
 refine RG.tk 5 rfl (by first | exact Pu.fb ty_fa33_4 | exact Pu.fe ty_fa33_4) ?_
 refine RG.tk 6 rfl (Pu.ldo ty_sc31) ?_
 refine RG.a1 9 rfl (fun X9 hX9 => ?_)
 refine TL.cr rfl (enters Tryz.func122 rfl rfl) (fun w hw => by
   exact contains_any (v := T.v) _ (by omega) (hRV.sat hw Apart.nil)) ?_
 refine TL.nil ?_
 refine TQ.nxt (hX9 _ _ hl9 ?_)
 refine RG.tk 10 rfl Pu.no ?_
 refine RG.tk 11 rfl Pu.kt ?_
 refine RG.nil ?_ (by kernel_rfl)
 exact TQ.sub (by repeat (first | exact trivial | refine ⟨rfl, ?_⟩ | refine ⟨trivial, ?_⟩ | refine ⟨(by show some (Value.bool _) = some (Value.bool _); first | (simp [hg1, -List.getD_eq_getElem?_getD]; done) | (refine congrArg (fun z => some (Value.bool z)) (Bool.eq_iff_iff.2 ?_); simp [hg1, -List.getD_eq_getElem?_getD]; omega)), ?_⟩)) ks9 hJ1
 refine RG.ts 2 rfl ?_
 refine RG.ts 3 rfl ?_
 refine RG.ts 4 rfl ?_
 refine RG.ts 5 rfl ?_
 refine RG.ts 6 rfl ?_
 refine RG.ts 7 rfl ?_
 refine RG.ts 8 rfl ?_
 refine RG.ts 9 rfl ?_
 refine RG.ts 10 rfl ?_
 refine RG.tk 11 rfl Pu.kf ?_
 refine RG.nil ?_ (by kernel_rfl)
 exact TQ.sub (by repeat (first | exact trivial | refine ⟨rfl, ?_⟩ | refine ⟨trivial, ?_⟩ | refine ⟨(by show some (Value.bool _) = some (Value.bool _); first | (simp [hg1, -List.getD_eq_getElem?_getD]; done) | (refine congrArg (fun z => some (Value.bool z)) (Bool.eq_iff_iff.2 ?_); simp [hg1, -List.getD_eq_getElem?_getD]; omega)), ?_⟩)) ks9 hJ1
 rintro DR ⟨⟨⟨Sm, cS⟩, mp⟩, pa, pc⟩
 by_cases hP : propB (dueP Z T (st i 0) (cdZ Z (st i 2) (st i 3)) (cdZ Z (st i 2) (st i 3)).length mp pa pc) = true
 case neg => exact fun a w hF hK => (no_badT hK (by rw [if_neg hP]; simp)).elim
 simp only [if_pos hP, List.nil_append]
 have hP9 := hidT (propB_iff.1 hP)
 clear hP
 refine TQ.tiedU pk9 ?_
 have hsl : (sumQ Z T (st i 0) (cdZ Z (st i 2) (st i 3)) (cdZ Z (st i 2) (st i 3)).length).length = (cdZ Z (st i 2) (st i 3)).length := sumQ_len (Nat.le_refl _)
 have hsp : 0 < (cdZ Z (st i 2) (st i 3)).length := cd_lo hbd.2.1
 have hse : sumQ Z T (st i 0) (cdZ Z (st i 2) (st i 3)) (cdZ Z (st i 2) (st i 3)).length = (cdZ Z (st i 2) (st i 3)).map (payZ Z T (st i 0)) := by unfold sumQ; rw [List.take_length]
 refine TQ.blkN ?_
 refine TQ.thenN (hY6 _ _ _ ?_)
 refine TW.seqD fun Y14 hY14 => ?_
 refine TW.region ?_
 refine TL.p Pu.as ?_
 refine TL.nil ?_
 refine TQ.thenN (hY14 _ _ _ ?_)
 refine TW.seqD fun Y15 hY15 => ?_
 refine TW.seqD fun Y16 hY16 => ?_
 refine TW.region ?_
 refine TL.p Pu.mv ?_
 refine TL.nil ?_
 refine TQ.thenN (hY16 _ _ _ ?_)
 refine TW.block ?_
 refine TW.loop5 (fun (who : Nat) (E : Option Addr) (ce : Nat) (M : List TlX) (m : Nat) => [(94, .int .i64 (who : Int)), (14, .slice E m ce), (9, .pointer (some ⟨b7, 0, none⟩)), (8, .pointer (some ⟨b6, 0, none⟩)), (7, .pointer (some ⟨b5, 0, none⟩)), (5, .pointer (some ⟨b2, 0, none⟩)), (1, .int .i64 (i : Int))]) (fun who E ce M m => [.own E m ce 98 4 (rowsT M), tied (ownsU 3 1 pa (fun s => (gq Z T (st i 0) (cdZ Z (st i 2) (st i 3)) (cdZ Z (st i 2) (st i 3)).length s).length) pc (fun s => iL (gq Z T (st i 0) (cdZ Z (st i 2) (st i 3)) (cdZ Z (st i 2) (st i 3)).length s)) who (8 - who)), .obj b4 (mapO .i64 mp), .blk b5 187 [.map (some b4)], .blk b6 31 [.slice Sm (cdZ Z (st i 2) (st i 3)).length cS], .own Sm (cdZ Z (st i 2) (st i 3)).length cS 3 1 (iL (sumQ Z T (st i 0) (cdZ Z (st i 2) (st i 3)) (cdZ Z (st i 2) (st i 3)).length)), .blk b7 3 [.int .i64 ((cdZ Z (st i 2) (st i 3)).length : Int)], .blk b2 36 [.int .i64 0, .int .i64 0], .obj DR (.deferred (some []))]) (fun who E ce M m => who ≤ 8 ∧ M = tolI (i : Int) (trbLo Z T (st i)) (trbHi Z T (st i)) who ∧ m = M.length) (fun who E ce M m => 8 - who) 0 none 0 [] 0 fs9 ?_ ?_ ?_
 exact KSub.nilOwn ks9
 exact ⟨Nat.zero_le _, rfl, rfl⟩
 rintro who E ce M m ⟨hwho, hM, hm⟩ Z0 hZ0
 have hM9 := hidT hM
 have hmb : m ≤ 100 := by rw [hm, hM]; exact Nat.le_trans (tolI_len who) (by omega)
 clear hM
 refine TW.seqD fun Y17 hY17 => ?_
 refine TW.region ?_
 refine TL.p Pu.lt ?_
 refine TL.nil ?_
 refine TQ.thenN (hY17 _ _ _ ?_)
 refine TW.seqD fun Y18 hY18 => ?_
 refine TW.cond rfl (fun hc1 => ?_) (fun hc1 => ?_)
 try simp only [zcb9] at hc1
 have hw8 : who < 8 := by omega
 rw [show 8 - who = (7 - who) + 1 by omega]
 have hgl : (gq Z T (st i 0) (cdZ Z (st i 2) (st i 3)) (cdZ Z (st i 2) (st i 3)).length who).length ≤ 6001 := Nat.le_trans gq_len hcl
 refine TW.skip ?_
 refine TQ.thenN (hY18 _ _ _ ?_)
 refine TW.seqD fun Y19 hY19 => ?_
 refine TW.block ?_
 refine TW.seqD fun Y20 hY20 => ?_
 refine TW.region ?_
 refine TL.p Pu.mv ?_
 refine TL.p Pu.as ?_
 refine TL.nil ?_
 refine TQ.thenN (hY20 _ _ _ ?_)
 refine TW.seqD fun Y21 hY21 => ?_
 refine TW.region ?_
 refine TL.ownNext pk9 ?_
 refine TL.p (Pu.ld ty_sc187) ?_
 refine TL.p Pu.mv ?_
 refine TL.p (Pu.l1V (.slice (pa who) (gq Z T (st i 0) (cdZ Z (st i 2) (st i 3)) (cdZ Z (st i 2) (st i 3)).length who).length (pc who)) ty_mp187 ty_zv31 (hP9.out who hw8)) ?_
 refine TL.p Pu.as ?_
 refine TL.nil ?_
 refine TQ.thenN (hY21 _ _ _ ?_)
 refine TW.seqD fun Y22 hY22 => ?_
 refine TW.seqD fun Y23 hY23 => ?_
 refine TW.region ?_
 refine TL.p Pu.mv ?_
 refine TL.p (Pu.ln Tryz.underlying31) ?_
 refine TL.p (Pu.ld ty_sc3) ?_
 refine TL.p Pu.lt ?_
 refine TL.nil ?_
 refine TQ.thenN (hY23 _ _ _ ?_)
 refine TW.cond rfl (fun hc2 => ?_) (fun hc2 => ?_)
 try simp only [zcb9] at hc2
 have hgot := hidT (gotZ_yes (Z := Z) (T := T) (s := st i) (q := who) (by omega))
 have hgn := gotZ_pos (Z := Z) (T := T) (s := st i) (q := who) hbd.2.1
 have hgm := hidT (show (gq Z T (st i 0) (cdZ Z (st i 2) (st i 3)) (cdZ Z (st i 2) (st i 3)).length who).length + 1 = (gotZ Z T (st i) who).length by rw [← hgot.out, List.length_append]; rfl)
 refine TW.region ?_
 refine TL.p Pu.mv ?_
 refine TL.m Mk.bl ?_
 intro b13
 first | refine TL.a0 ty_et31 ?_ | refine TL.ap ty_et31 ?_
 intro A14 c14
 refine TL.subK (KSub.own Pick.hd (iL_app (L' := gotZ Z T (st i) who) rfl hgot.out.symm rfl) (KSub.refl _)) ?_
 refine TL.p Pu.as ?_
 refine TL.nil ?_
 refine TQ.thenN (hY22 _ _ _ ?_)
 refine TW.seqD fun Y24 hY24 => ?_
 refine TW.region ?_
 refine TL.p Pu.mv ?_
 refine TL.cr rfl (enters Tryz.func123 rfl rfl) (fun w hw => by
   first
    | exact max_got hgm.out hgn (by omega) (trb_hi hok htr hbd.2.1) (OwnR.rdr (hw.holds (.own A14 ((gq Z T (st i 0) (cdZ Z (st i 2) (st i 3)) (cdZ Z (st i 2) (st i 3)).length who).length + 1) c14 3 1 (iL (gotZ Z T (st i) who))) (by simp)))
    | exact max_got hgm.out hgn (by omega) (trb_hi hok htr hbd.2.1) (by rw [← hgot.out]; exact (OwnR.rdr (hw.holds (.own (pa who) (gq Z T (st i 0) (cdZ Z (st i 2) (st i 3)) (cdZ Z (st i 2) (st i 3)).length who).length (pc who) 3 1 (iL (gq Z T (st i 0) (cdZ Z (st i 2) (st i 3)) (cdZ Z (st i 2) (st i 3)).length who))) (by simp))))
    | exact max_got (t := sumHi Z T (st i)) hsl.symm (by omega) (by omega) (by rw [hse]; exact sum_hi hok htr hbd.2.1) (OwnR.rdr (hw.holds (.own Sm (cdZ Z (st i 2) (st i 3)).length cS 3 1 (iL (sumQ Z T (st i 0) (cdZ Z (st i 2) (st i 3)) (cdZ Z (st i 2) (st i 3)).length))) (by simp)))) ?_
 refine TL.p Pu.as ?_
 refine TL.nil ?_
 refine TQ.thenN (hY24 _ _ _ ?_)
 refine TW.seqD fun Y25 hY25 => ?_
 refine TW.region ?_
 refine TL.p Pu.mv ?_
 refine TL.p Pu.gt ?_
 refine TL.nil ?_
 refine TQ.thenN (hY25 _ _ _ ?_)
 refine TW.cond rfl (fun hc3 => ?_) (fun hc3 => ?_)
 try simp only [zcb9] at hc3
 have hstep : tolI (i : Int) (trbLo Z T (st i)) (trbHi Z T (st i)) (who + 1) = M ++ [((i : Int), (who : Int), trbLo Z T (st i) who, trbHi Z T (st i) who)] := by
  rw [hM9.out]; simp only [tolI]; rw [if_pos hc3]
 have hlen9 : m + 1 = (tolI (i : Int) (trbLo Z T (st i)) (trbHi Z T (st i)) (who + 1)).length := by rw [hstep, List.length_append, ← hm]; rfl
 refine TW.region ?_
 refine TL.p Pu.mv ?_
 refine TL.p Pu.mv ?_
 refine TL.p Pu.mv ?_
 refine TL.p Pu.mv ?_
 refine TL.p Pu.mv ?_
 refine TL.cr rfl (enters Tryz.func124 rfl rfl) (fun w hw => by
   first
    | exact lst_got hgm.out (by omega) (trb_lo hok htr hbd.2.1) (OwnR.rdr (hw.holds (.own A14 ((gq Z T (st i 0) (cdZ Z (st i 2) (st i 3)) (cdZ Z (st i 2) (st i 3)).length who).length + 1) c14 3 1 (iL (gotZ Z T (st i) who))) (by simp)))
    | exact lst_got hgm.out (by omega) (trb_lo hok htr hbd.2.1) (by rw [← hgot.out]; exact (OwnR.rdr (hw.holds (.own (pa who) (gq Z T (st i 0) (cdZ Z (st i 2) (st i 3)) (cdZ Z (st i 2) (st i 3)).length who).length (pc who) 3 1 (iL (gq Z T (st i 0) (cdZ Z (st i 2) (st i 3)) (cdZ Z (st i 2) (st i 3)).length who))) (by simp))))) ?_
 refine TL.p Pu.mv ?_
 refine TL.p Pu.bd ?_
 refine TL.p Pu.bd ?_
 refine TL.m Mk.bl ?_
 intro b15
 first | refine TL.a0 ty_et65 ?_ | refine TL.ap ty_et65 ?_
 intro A16 c16
 refine TL.p Pu.as ?_
 refine TL.nil ?_
 refine TQ.blkN ?_
 refine TQ.thenN (hY19 _ _ _ ?_)
 refine TW.region ?_
 refine TL.p Pu.ad ?_
 refine TL.p Pu.mv ?_
 refine TL.nil ?_
 refine TQ.thenN (hZ0 (who + 1) _ _ (tolI (i : Int) (trbLo Z T (st i)) (trbHi Z T (st i)) (who + 1)) _ _ _ ?_ ?_ fs9 ?_)
 exact ⟨by omega, rfl, hlen9⟩
 exact zom9
 rw [show 8 - (who + 1) = 7 - who by omega]
 first
  | exact KSub.own Pick.hd (rowsT_app hm hstep rfl) ks9
  | exact KSub.own pk9 (fun i _ => by rw [hstep]) ks9
 try simp only [zcb9] at hc3
 have hstep : tolI (i : Int) (trbLo Z T (st i)) (trbHi Z T (st i)) (who + 1) = M := by
  rw [hM9.out]; simp only [tolI]; rw [if_neg (by omega)]
 have hlen9 : m = (tolI (i : Int) (trbLo Z T (st i)) (trbHi Z T (st i)) (who + 1)).length := by rw [hstep, ← hm]
 refine TW.skip ?_
 refine TQ.blkN ?_
 refine TQ.thenN (hY19 _ _ _ ?_)
 refine TW.region ?_
 refine TL.p Pu.ad ?_
 refine TL.p Pu.mv ?_
 refine TL.nil ?_
 refine TQ.thenN (hZ0 (who + 1) _ _ (tolI (i : Int) (trbLo Z T (st i)) (trbHi Z T (st i)) (who + 1)) _ _ _ ?_ ?_ fs9 ?_)
 exact ⟨by omega, rfl, hlen9⟩
 exact zom9
 rw [show 8 - (who + 1) = 7 - who by omega]
 first
  | exact KSub.own Pick.hd (rowsT_app hm hstep rfl) ks9
  | exact KSub.own pk9 (fun i _ => by rw [hstep]) ks9
 try simp only [zcb9] at hc2
 have hgot := hidT (gotZ_no (Z := Z) (T := T) (s := st i) (q := who) (by omega))
 have hgn := gotZ_pos (Z := Z) (T := T) (s := st i) (q := who) hbd.2.1
 have hgm := hidT (show (gq Z T (st i 0) (cdZ Z (st i 2) (st i 3)) (cdZ Z (st i 2) (st i 3)).length who).length = (gotZ Z T (st i) who).length by rw [hgot.out])
 refine TW.skip ?_
 refine TQ.thenN (hY22 _ _ _ ?_)
 refine TW.seqD fun Y26 hY26 => ?_
 refine TW.region ?_
 refine TL.p Pu.mv ?_
 refine TL.cr rfl (enters Tryz.func123 rfl rfl) (fun w hw => by
   first
    | exact max_got hgm.out hgn (by omega) (trb_hi hok htr hbd.2.1) (OwnR.rdr (hw.holds (.own A14 ((gq Z T (st i 0) (cdZ Z (st i 2) (st i 3)) (cdZ Z (st i 2) (st i 3)).length who).length + 1) c14 3 1 (iL (gotZ Z T (st i) who))) (by simp)))
    | exact max_got hgm.out hgn (by omega) (trb_hi hok htr hbd.2.1) (by rw [← hgot.out]; exact (OwnR.rdr (hw.holds (.own (pa who) (gq Z T (st i 0) (cdZ Z (st i 2) (st i 3)) (cdZ Z (st i 2) (st i 3)).length who).length (pc who) 3 1 (iL (gq Z T (st i 0) (cdZ Z (st i 2) (st i 3)) (cdZ Z (st i 2) (st i 3)).length who))) (by simp))))
    | exact max_got (t := sumHi Z T (st i)) hsl.symm (by omega) (by omega) (by rw [hse]; exact sum_hi hok htr hbd.2.1) (OwnR.rdr (hw.holds (.own Sm (cdZ Z (st i 2) (st i 3)).length cS 3 1 (iL (sumQ Z T (st i 0) (cdZ Z (st i 2) (st i 3)) (cdZ Z (st i 2) (st i 3)).length))) (by simp)))) ?_
 refine TL.p Pu.as ?_
 refine TL.nil ?_
 refine TQ.thenN (hY26 _ _ _ ?_)
 refine TW.seqD fun Y27 hY27 => ?_
 refine TW.region ?_
 refine TL.p Pu.mv ?_
 refine TL.p Pu.gt ?_
 refine TL.nil ?_
 refine TQ.thenN (hY27 _ _ _ ?_)
 refine TW.cond rfl (fun hc3 => ?_) (fun hc3 => ?_)
 try simp only [zcb9] at hc3
 have hstep : tolI (i : Int) (trbLo Z T (st i)) (trbHi Z T (st i)) (who + 1) = M ++ [((i : Int), (who : Int), trbLo Z T (st i) who, trbHi Z T (st i) who)] := by
  rw [hM9.out]; simp only [tolI]; rw [if_pos hc3]
 have hlen9 : m + 1 = (tolI (i : Int) (trbLo Z T (st i)) (trbHi Z T (st i)) (who + 1)).length := by rw [hstep, List.length_append, ← hm]; rfl
 refine TW.region ?_
 refine TL.p Pu.mv ?_
 refine TL.p Pu.mv ?_
 refine TL.p Pu.mv ?_
 refine TL.p Pu.mv ?_
 refine TL.p Pu.mv ?_
 refine TL.cr rfl (enters Tryz.func124 rfl rfl) (fun w hw => by
   first
    | exact lst_got hgm.out (by omega) (trb_lo hok htr hbd.2.1) (OwnR.rdr (hw.holds (.own A14 ((gq Z T (st i 0) (cdZ Z (st i 2) (st i 3)) (cdZ Z (st i 2) (st i 3)).length who).length + 1) c14 3 1 (iL (gotZ Z T (st i) who))) (by simp)))
    | exact lst_got hgm.out (by omega) (trb_lo hok htr hbd.2.1) (by rw [← hgot.out]; exact (OwnR.rdr (hw.holds (.own (pa who) (gq Z T (st i 0) (cdZ Z (st i 2) (st i 3)) (cdZ Z (st i 2) (st i 3)).length who).length (pc who) 3 1 (iL (gq Z T (st i 0) (cdZ Z (st i 2) (st i 3)) (cdZ Z (st i 2) (st i 3)).length who))) (by simp))))) ?_
 refine TL.p Pu.mv ?_
 refine TL.p Pu.bd ?_
 refine TL.p Pu.bd ?_
 refine TL.m Mk.bl ?_
 intro b17
 first | refine TL.a0 ty_et65 ?_ | refine TL.ap ty_et65 ?_
 intro A18 c18
 refine TL.p Pu.as ?_
 refine TL.nil ?_
 refine TQ.blkN ?_
 refine TQ.thenN (hY19 _ _ _ ?_)
 refine TW.region ?_
 refine TL.p Pu.ad ?_
 refine TL.p Pu.mv ?_
 refine TL.nil ?_
 refine TQ.thenN (hZ0 (who + 1) _ _ (tolI (i : Int) (trbLo Z T (st i)) (trbHi Z T (st i)) (who + 1)) _ _ _ ?_ ?_ fs9 ?_)
 exact ⟨by omega, rfl, hlen9⟩
 exact zom9
 rw [show 8 - (who + 1) = 7 - who by omega]
 first
  | exact KSub.own Pick.hd (rowsT_app hm hstep rfl) ks9
  | exact KSub.own pk9 (fun i _ => by rw [hstep]) ks9
 try simp only [zcb9] at hc3
 have hstep : tolI (i : Int) (trbLo Z T (st i)) (trbHi Z T (st i)) (who + 1) = M := by
  rw [hM9.out]; simp only [tolI]; rw [if_neg (by omega)]
 have hlen9 : m = (tolI (i : Int) (trbLo Z T (st i)) (trbHi Z T (st i)) (who + 1)).length := by rw [hstep, ← hm]
 refine TW.skip ?_
 refine TQ.blkN ?_
 refine TQ.thenN (hY19 _ _ _ ?_)
 refine TW.region ?_
 refine TL.p Pu.ad ?_
 refine TL.p Pu.mv ?_
 refine TL.nil ?_
 refine TQ.thenN (hZ0 (who + 1) _ _ (tolI (i : Int) (trbLo Z T (st i)) (trbHi Z T (st i)) (who + 1)) _ _ _ ?_ ?_ fs9 ?_)
 exact ⟨by omega, rfl, hlen9⟩
 exact zom9
 rw [show 8 - (who + 1) = 7 - who by omega]
 first
  | exact KSub.own Pick.hd (rowsT_app hm hstep rfl) ks9
  | exact KSub.own pk9 (fun i _ => by rw [hstep]) ks9
 try simp only [zcb9] at hc1
 obtain rfl : who = 8 := by omega
 refine TW.exit ?_
 refine TQ.thenX ?_
 refine TQ.thenX ?_
 refine TQ.blkX ?_
 refine TQ.thenN (hY15 _ _ _ ?_)
 refine TW.seqD fun Y28 hY28 => ?_
 refine TW.np ?_
 refine TW.dw 7 ?_
 refine RK.tk Pu.mv ?_
 refine RK.tk (Pu.ld ty_sc31) ?_
 refine RK.keep ?_
 refine RK.tk (Pu.ld ty_sc31) ?_
 refine RK.keep ?_
 refine RK.keep ?_
 refine RK.keep ?_
 refine RK.ch [false, false, true, true] ?_ trivial
 refine WK.cr rfl (enters Tryz.func125 rfl rfl) (fun w hw => by
   exact min_got (t := sumLo Z T (st i)) hsl.symm (by omega) (by omega) (by rw [hse]; exact sum_lo hbd.2.1) (OwnR.rdr (hw.holds (.own Sm (cdZ Z (st i 2) (st i 3)).length cS 3 1 (iL (sumQ Z T (st i 0) (cdZ Z (st i 2) (st i 3)) (cdZ Z (st i 2) (st i 3)).length))) (by simp)))) ?_
 refine WK.cr rfl (enters Tryz.func123 rfl rfl) (fun w hw => by
   first
    | exact max_got hgm.out hgn (by omega) (trb_hi hok htr hbd.2.1) (OwnR.rdr (hw.holds (.own A14 ((gq Z T (st i 0) (cdZ Z (st i 2) (st i 3)) (cdZ Z (st i 2) (st i 3)).length who).length + 1) c14 3 1 (iL (gotZ Z T (st i) who))) (by simp)))
    | exact max_got hgm.out hgn (by omega) (trb_hi hok htr hbd.2.1) (by rw [← hgot.out]; exact (OwnR.rdr (hw.holds (.own (pa who) (gq Z T (st i 0) (cdZ Z (st i 2) (st i 3)) (cdZ Z (st i 2) (st i 3)).length who).length (pc who) 3 1 (iL (gq Z T (st i 0) (cdZ Z (st i 2) (st i 3)) (cdZ Z (st i 2) (st i 3)).length who))) (by simp))))
    | exact max_got (t := sumHi Z T (st i)) hsl.symm (by omega) (by omega) (by rw [hse]; exact sum_hi hok htr hbd.2.1) (OwnR.rdr (hw.holds (.own Sm (cdZ Z (st i 2) (st i 3)).length cS 3 1 (iL (sumQ Z T (st i 0) (cdZ Z (st i 2) (st i 3)) (cdZ Z (st i 2) (st i 3)).length))) (by simp)))) ?_
 refine WK.p Pu.bd ?_
 refine WK.p Pu.as ?_
 refine WK.n ?_
 first | refine TL.st ty_sz36 ?_ | refine TL.se ty_sz36 ?_
 refine TL.nil ?_
 refine TQ.npN ?_
 refine TQ.thenN (hY28 _ _ _ ?_)
 refine TW.ret ?_
 refine TQ.retM Tryz.results75 pk9 ((.tmp rfl (RV.cs ty_ag36 .nil))) ?_
 have hM := hM9.out
 subst hM
 subst hm
 exact fun w hw => ⟨(E, ce), rfl, hw.sub (KSub.cons pk9 KSub.nil)⟩
 intro _ x; exact x.elim
end
end Go.Proofs.YtfaenhhgkhcghaaGreatDoor
namespace Go.Proofs.YtfaenhhgkhcghaaGreatDoor
set_option linter.all false
set_option linter.unusedVariables false
set_option linter.unusedSimpArgs false
open Go.RowKit
theorem indexFee_any {g : FuncId} {fs cs : List Value} {A : Option Addr} {n cp : Nat} {v : Nat → Int × Int} {p : Nat → Bool} {M : Nat → List Fact} {w : World} (hen : Enters Tryz.prog g) (hn : n ≤ 9223372036854775807)
  (hR : RdR w 2 A n (fun k => [.int .i64 (v k).1, .int .i64 (v k).2])) (hA : 0 < n → Apart (feet (M 0)) A) (hM : Sat (feet (M 0)) w (M 0) w) (hfe : ∀ k, feet (M k) = feet (M 0))
  (hg : ∀ k, k < n → (∀ j, j < k → p j = false) → ∀ w', Sat (feet (M 0)) w (M k) w' → CallsK Tryz.prog g (fs ++ [Value.agg #[.int .i64 (v k).1, .int .i64 (v k).2]] ++ cs).toArray (M k) w' Unit (fun _ => .bool (p k)) (fun _ => M (k + 1))) :
  CallsK Tryz.prog 140 #[.slice A n cp, .func (.func g) fs.toArray cs.toArray] (M 0) w (Fst p n) (fun x => .int .i64 (if x.1 < n then (x.1 : Int) else -1)) (fun x => M (aft n x.1)) := by
 refine K_enter (S := feet (M 0)) (K := M 0) Tryz.func140 rfl Tryz.ntmps140 rfl hM ?_
 refine TW.seq fun Y1 hY1 => TW.region ?_
 refine TL.p Pu.as ?_
 refine TL.nil (TQ.thenN (hY1 _ _ ?_))
 refine TW.seq fun Y2 hY2 => ?_
 refine TW.seq fun Y3 hY3 => TW.region ?_
 refine TL.p Pu.mv ?_
 refine TL.p (Pu.ln Tryz.underlying34) ?_
 refine TL.p Pu.mv ?_
 refine TL.nil (TQ.thenN (hY3 _ _ ?_))
 refine TW.block ?_
 refine TW.loop1 (fun (k : Nat) => [(8, .int .i64 (k : Int)), (7, .int .i64 (n : Int)), (0, .slice A n cp), (1, .func (.func g) fs.toArray cs.toArray)]) (fun k => M k) (fun k => k ≤ n ∧ ∀ j, j < k → p j = false) (fun k => n - k) 0 fs9 ?_ ?_ ?_
 exact KSub.refl _
 exact ⟨by omega, fun j hj => by omega⟩
 rintro k ⟨hk, hall⟩ Z0 hZ0
 refine TW.seq fun Y4 hY4 => TW.region ?_
 refine TL.p Pu.lt ?_
 refine TL.nil (TQ.thenN (hY4 _ _ ?_))
 refine TW.seq fun Y5 hY5 => ?_
 refine TW.cond rfl (fun hc0 => ?_) (fun hc0 => ?_)
 try simp only [zcb9] at hc0
 have hkn : k < n := by omega
 have hA := hA (by omega)
 refine TW.skip ?_
 refine TQ.thenN (hY5 _ _ ?_)
 refine TW.seq fun Y6 hY6 => ?_
 refine TW.block ?_
 refine TW.seq fun Y7 hY7 => TW.region ?_
 refine TL.p Pu.mv ?_
 refine TL.p Pu.as ?_
 refine TL.nil (TQ.thenN (hY7 _ _ ?_))
 refine TW.seq fun Y8 hY8 => TW.region ?_
 refine TL.p Pu.mv ?_
 refine TL.p Pu.mv ?_
 refine TL.p Pu.mv ?_
 refine TL.p (Pu.el ty_et34) ?_
 refine TL.p (Pu.lds ty_ag50) ?_
 refine TL.cvk rfl rfl hen (by rw [List.append_nil]) (fun w hw => by
   exact hg k (by omega) hall w hw) ?_
 intro _
 refine TL.nil (TQ.thenN (hY8 _ _ ?_))
 refine TW.cond rfl (fun hc1 => ?_) (fun hc1 => ?_)
 try simp only [zcb9] at hc1
 refine TW.seq fun Y9 hY9 => TW.region ?_
 refine TL.p Pu.mv ?_
 refine TL.p Pu.as ?_
 refine TL.nil (TQ.thenN (hY9 _ _ ?_))
 refine TW.ret ?_
 refine TQ.blkR ?_
 refine TQ.thenR ?_
 refine TQ.thenR ?_
 refine TQ.blkR ?_
 refine TQ.thenR ?_
 refine TQ.ret Tryz.results140 rfl ((.tmp rfl .nil)) ?_
 exact fun w hw => ⟨⟨k, by omega, hall, fun _ => hc1⟩, by simp [hkn]; rfl, by simpa [aft, hkn] using hw⟩
 try simp only [zcb9] at hc1
 refine TW.skip ?_
 refine TQ.blkN ?_
 refine TQ.thenN (hY6 _ _ ?_)
 refine TW.region ?_
 refine TL.p Pu.ad ?_
 refine TL.p Pu.mv ?_
 refine TL.nil ?_
 refine TQ.thenN (hZ0 (k + 1) _ _ ?_ ?_ fs9 ?_)
 refine ⟨by omega, fun j hj => ?_⟩
 by_cases h : j = k
 subst h; exact hc1
 exact hall j (by omega)
 exact zom9
 rw [List.append_nil]; exact KSub.refl _
 try simp only [zcb9] at hc0
 have hkn : k = n := by omega
 refine TW.exit ?_
 refine TQ.thenX ?_
 refine TQ.thenX ?_
 refine TQ.blkX ?_
 refine TQ.thenN (hY2 _ _ ?_)
 refine TW.seq fun Y10 hY10 => TW.region ?_
 refine TL.p Pu.as ?_
 refine TL.nil (TQ.thenN (hY10 _ _ ?_))
 refine TW.ret ?_
 refine TQ.ret Tryz.results140 rfl ((.tmp rfl .nil)) ?_
 exact fun w hw => ⟨⟨k, by omega, hall, fun h => by omega⟩, by simp [hkn]; rfl, by simpa [aft, hkn] using hw⟩
theorem hasFee_st {g : FuncId} {fs cs : List Value} {A : Option Addr} {n cp : Nat} {v : Nat → Int × Int} {p : Nat → Bool} {M : Nat → List Fact} {w : World} (hen : Enters Tryz.prog g) (hn : n ≤ 9223372036854775807)
  (hR : RdR w 2 A n (fun k => [.int .i64 (v k).1, .int .i64 (v k).2])) (hA : 0 < n → Apart (feet (M 0)) A) (hM : Sat (feet (M 0)) w (M 0) w) (hfe : ∀ k, feet (M k) = feet (M 0))
  (hg : ∀ k, k < n → (∀ j, j < k → p j = false) → ∀ w', Sat (feet (M 0)) w (M k) w' → CallsK Tryz.prog g (fs ++ [Value.agg #[.int .i64 (v k).1, .int .i64 (v k).2]] ++ cs).toArray (M k) w' Unit (fun _ => .bool (p k)) (fun _ => M (k + 1))) :
  CallsK Tryz.prog 100 #[.slice A n cp, .func (.func g) fs.toArray cs.toArray] (M 0) w (Fst p n) (fun x => .bool (decide (x.1 < n))) (fun x => M (aft n x.1)) := by
 refine K_enter (S := feet (M 0)) (K := M 0) Tryz.func100 rfl Tryz.ntmps100 rfl hM ?_
 refine TW.seq fun Y1 hY1 => TW.region ?_
 refine TL.p Pu.as ?_
 refine TL.nil (TQ.thenN (hY1 _ _ ?_))
 refine TW.seq fun Y2 hY2 => TW.region ?_
 refine TL.p Pu.mv ?_
 refine TL.p Pu.mv ?_
 refine TL.call rfl (enters Tryz.func140 rfl rfl) (by rw [List.append_nil]) rfl (fun w hw => by
   exact indexFee_any hen hn (hR.sat0 hw hA) hA hw.self hfe (fun k hk hp w' hw' => hg k hk hp w' (hw'.from hw.chg fun _ hb => .inl hb))) ?_
 intro x
 refine TL.p Pu.ge ?_
 refine TL.p Pu.as ?_
 refine TL.nil (TQ.thenN (hY2 _ _ ?_))
 refine TW.ret ?_
 refine TQ.ret Tryz.results100 rfl ((.tmp rfl .nil)) ?_
 exact fun w hw => ⟨x, by by_cases h : x.1 < n <;> simp [retV, h], by simpa using hw⟩
theorem Chg.trans' {S : List Nat} {a b c : World} (h : Chg S b c) (k : Chg S a b) : Chg S a c := k.trans h
theorem everyFee1_any {g : FuncId} {fs cs : List Value} {b : Nat} {u : Int × Int} {p : Bool} {M L : List Fact} {w : World} (hen : Enters Tryz.prog g) (hb : OldB w b [.func (.func g) fs.toArray cs.toArray]) (hbM : b ∉ feet M) (hM : Sat (feet M) w M w)
  (hg : ∀ w', Sat (feet M) w M w' → CallsK Tryz.prog g (fs ++ [Value.agg #[.int .i64 u.1, .int .i64 u.2]] ++ cs).toArray M w' Unit (fun _ => .bool p) (fun _ => L)) :
  CallsK Tryz.prog 101 #[Value.agg #[.int .i64 u.1, .int .i64 u.2], .pointer (some ⟨b, 0, none⟩)] M w Unit (fun _ => .bool (!p)) (fun _ => L) := by
 have hAp : Apart (feet M) (some ⟨b, 0, none⟩) := fun q hq => by cases hq; exact hbM
 refine K_enter (args := [Value.agg #[.int .i64 u.1, .int .i64 u.2], .pointer (some ⟨b, 0, none⟩)]) (S := feet M) (K := M) Tryz.func101 rfl Tryz.ntmps101 rfl hM ?_
 refine TW.seq fun Y1 hY1 => TW.region ?_
 refine TL.m Mk.bx ?_
 intro b1
 refine TL.p Pu.as ?_
 refine TL.nil (TQ.thenN (hY1 _ _ ?_))
 refine TW.seq fun Y2 hY2 => TW.region ?_
 refine TL.p (by first | exact (Pu.ld ty_sc125) | exact (Pu.ldo ty_sc125)) ?_
 refine TL.p (by first | exact (Pu.lds ty_ag50) | exact (Pu.ldso ty_ag50)) ?_
 refine TL.cvk rfl rfl hen (List.perm_append_comm (l₁ := [_])) (fun w hw => by
   exact hg w (Has.sat ⟨[_], List.perm_append_comm (l₁ := [_])⟩ hw)) ?_
 intro _
 refine TL.p Pu.no ?_
 refine TL.p Pu.as ?_
 refine TL.nil (TQ.thenN (hY2 _ _ ?_))
 refine TW.ret ?_
 refine TQ.ret Tryz.results101 rfl ((.tmp rfl .nil)) ?_
 exact fun w hw => ⟨(), rfl, Has.sat ⟨[_], List.Perm.refl _⟩ hw⟩
theorem everyFee_st {g : FuncId} {fs cs : List Value} {A : Option Addr} {n cp : Nat} {v : Nat → Int × Int} {p : Nat → Bool} {M : Nat → List Fact} {w : World} (hen : Enters Tryz.prog g) (hn : n ≤ 9223372036854775807)
  (hR : RdR w 2 A n (fun k => [.int .i64 (v k).1, .int .i64 (v k).2])) (hA : 0 < n → Apart (feet (M 0)) A) (hM : Sat (feet (M 0)) w (M 0) w) (hfe : ∀ k, feet (M k) = feet (M 0))
  (hg : ∀ k, k < n → (∀ j, j < k → p j = true) → ∀ w', Sat (feet (M 0)) w (M k) w' → CallsK Tryz.prog g (fs ++ [Value.agg #[.int .i64 (v k).1, .int .i64 (v k).2]] ++ cs).toArray (M k) w' Unit (fun _ => .bool (p k)) (fun _ => M (k + 1))) :
  CallsK Tryz.prog 55 #[.slice A n cp, .func (.func g) fs.toArray cs.toArray] (M 0) w (Fst (fun k => !p k) n) (fun x => .bool (!decide (x.1 < n))) (fun x => M (aft n x.1)) := by
 refine K_enter (S := feet (M 0)) (K := M 0) Tryz.func55 rfl Tryz.ntmps55 rfl hM ?_
 refine TW.seq fun Y1 hY1 => TW.region ?_
 refine TL.m Mk.bx ?_
 intro b1
 refine TL.p Pu.as ?_
 refine TL.nil (TQ.thenN (hY1 _ _ ?_))
 refine TW.seq fun Y2 hY2 => TW.region ?_
 refine TL.p Pu.mv ?_
 refine TL.p Pu.fn ?_
 refine TL.call rfl (enters Tryz.func100 rfl rfl) (List.perm_append_comm (l₁ := [_])) rfl (fun w hw => by
   have hB : Blk w b1 _ #[.func (.func g) fs.toArray cs.toArray] := hw.holds _ (List.mem_cons_self ..)
   have hbM : b1 ∉ feet (M 0) := fun hm => (List.nodup_cons.1 (show (b1 :: feet (M 0)).Nodup from hw.nd)).1 hm
   have hw2 : Sat (feet (M 0)) _ (M 0) w := Has.sat ⟨[_], List.perm_append_comm (l₁ := [_])⟩ hw
   refine hasFee_st (p := fun k => !p k) (fs := []) (cs := [.pointer (some ⟨b1, 0, none⟩)]) (enters Tryz.func101 rfl rfl) hn (hR.sat0 hw hA) hA hw2.self hfe (fun k hk hp w' hw' => ?_)
   have h1 : OldB w' b1 [.func (.func g) fs.toArray cs.toArray] := (OldB.of_blk (cs := [_]) hB).sat hw' hbM
   have h2 : Sat (feet (M k)) w' (M k) w' := hw'.self
   refine everyFee1_any (p := p k) (u := v k) hen h1 (by rw [hfe]; exact hbM) h2 fun w3 hw3 => hg k hk (fun j hj => by simpa using hp j hj) w3 ?_
   exact hw3.from (hw'.chg.trans' hw.chg) (fun q hq => .inl (by rw [← hfe k]; exact hq))) ?_
 intro x
 refine TL.p Pu.no ?_
 refine TL.p Pu.as ?_
 refine TL.nil (TQ.thenN (hY2 _ _ ?_))
 refine TW.ret ?_
 refine TQ.ret Tryz.results55 rfl ((.tmp rfl .nil)) ?_
 exact fun w hw => ⟨x, rfl, Has.sat ⟨[_], List.Perm.refl _⟩ hw⟩
def lastT (E : Fes) : Nat → Int
 | 0 => -1
 | k + 1 => E.t k
def prcK (E : Fes) (k : Nat) : Bool := decide (lastT E k < E.t k) && inB5 0 7 (E.t k) && inB5 0 1000000000000 (E.r k)
theorem prc_fee {E : Fes} {k : Nat} : prcK E k = feeK E k := by
 unfold prcK feeK inB5
 rw [Bool.eq_iff_iff]
 cases k with
 | zero =>
  have e : lastT E 0 = -1 := rfl
  rw [e]
  simp only [Bool.and_eq_true, Bool.or_eq_true, decide_eq_true_eq]
  exact ⟨fun h => ⟨⟨h.1.2, h.2⟩, .inl trivial⟩, fun h => ⟨⟨by omega, h.1.1⟩, h.1.2⟩⟩
 | succ k =>
  have e : lastT E (k + 1) = E.t k := rfl
  have e2 : k + 1 - 1 = k := rfl
  rw [e, e2]
  simp only [Bool.and_eq_true, Bool.or_eq_true, decide_eq_true_eq]
  exact ⟨fun h => ⟨⟨h.1.2, h.2⟩, .inr h.1.1⟩, fun h => ⟨⟨h.2.resolve_left (by omega), h.1.1⟩, h.1.2⟩⟩
theorem prc_all {E : Fes} : allB E.nf (prcK E) = fesOk E := by
 unfold fesOk
 congr 1
 exact funext fun k => prc_fee
theorem priced1_any (x last r : Int) (bl : Nat) (w : World) (hM : Sat [bl] w [.blk bl 3 [.int .i64 last]] w) :
  CallsK Tryz.prog 56 #[.agg #[.int .i64 x, .int .i64 r], .pointer (some ⟨bl, 0, none⟩)] [.blk bl 3 [.int .i64 last]] w Unit (fun _ => .bool (decide (last < x) && inB5 0 7 x && inB5 0 1000000000000 r)) (fun _ => [.blk bl 3 [.int .i64 x]]) := by
 refine K_enter (args := [.agg #[.int .i64 x, .int .i64 r], .pointer (some ⟨bl, 0, none⟩)]) (S := [bl]) (K := [.blk bl 3 [.int .i64 last]]) Tryz.func56 rfl Tryz.ntmps56 rfl hM ?_
 refine TW.seq fun Y1 hY1 => TW.region ?_
 refine TL.m Mk.bx ?_
 intro b1
 refine TL.p Pu.as ?_
 refine TL.nil (TQ.thenN (hY1 _ _ ?_))
 refine TW.seq fun Y2 hY2 => ?_
 refine TW.join [(4, .bool (decide (last < x) && inB5 0 7 x && inB5 0 1000000000000 r))] ?_ (fun hJ1 => ?_)
 refine TQ.thenN (hY2 _ _ ?_)
 refine TW.seq fun Y3 hY3 => TW.region ?_
 refine TL.p (by first | exact Pu.fb ty_fa50_0 | exact Pu.fe ty_fa50_0) ?_
 refine TL.p (by first | exact (Pu.ld ty_sc3) | exact (Pu.ldo ty_sc3)) ?_
 first | refine TL.st ty_sz3 ?_ | refine TL.se ty_sz3 ?_
 refine TL.nil (TQ.thenN (hY3 _ _ ?_))
 refine TW.seq fun Y4 hY4 => TW.region ?_
 refine TL.p Pu.mv ?_
 refine TL.p Pu.as ?_
 refine TL.nil (TQ.thenN (hY4 _ _ ?_))
 refine TW.ret ?_
 refine TQ.ret Tryz.results56 rfl ((.tmp rfl .nil)) ?_
 exact fun w hw => ⟨(), rfl, hw.sub (KSub.cons pk9 KSub.nil)⟩
 refine TW.region ?_
 refine TL.p (by first | exact Pu.fb ty_fa50_0 | exact Pu.fe ty_fa50_0) ?_
 refine TL.p (by first | exact (Pu.ld ty_sc3) | exact (Pu.ldo ty_sc3)) ?_
 refine TL.p (by first | exact (Pu.ld ty_sc3) | exact (Pu.ldo ty_sc3)) ?_
 refine TL.p Pu.gt ?_
 refine TL.p Pu.mv ?_
 refine TL.guard (t := 9) rfl (fun hg1 => ?_) (fun hg1 => ?_)
 refine TL.gd (by first | exact Pu.fb ty_fa50_0 | exact Pu.fe ty_fa50_0) ?_
 refine TL.gd (by first | exact (Pu.ld ty_sc3) | exact (Pu.ldo ty_sc3)) ?_
 refine TL.cr rfl (enters Tryz.func48 rfl rfl) (fun w hw => by
   exact tribe_any _ _) ?_
 refine TL.p Pu.kt ?_
 refine TL.p Pu.mv ?_
 refine TL.guard (t := 14) rfl (fun hg2 => ?_) (fun hg2 => ?_)
 refine TL.gd (by first | exact Pu.fb ty_fa50_1 | exact Pu.fe ty_fa50_1) ?_
 refine TL.gd (by first | exact (Pu.ld ty_sc3) | exact (Pu.ldo ty_sc3)) ?_
 refine TL.cr rfl (enters Tryz.func41 rfl rfl) (fun w hw => by
   exact in_any _ _ _ _) ?_
 refine TL.p Pu.kt ?_
 refine TL.p Pu.as ?_
 refine TL.nil ?_
 exact TQ.sub (by repeat (first | exact trivial | refine ⟨rfl, ?_⟩ | refine ⟨trivial, ?_⟩ | refine ⟨(by show some (Value.bool _) = some (Value.bool _); first | (simp [hg1, hg2]; done) | (refine congrArg (fun z => some (Value.bool z)) (Bool.eq_iff_iff.2 ?_); simp [hg1, hg2]; omega)), ?_⟩)) ks9 hJ1
 refine TL.gs ?_
 refine TL.gs ?_
 refine TL.gs ?_
 refine TL.p Pu.kf ?_
 refine TL.p Pu.as ?_
 refine TL.nil ?_
 exact TQ.sub (by repeat (first | exact trivial | refine ⟨rfl, ?_⟩ | refine ⟨trivial, ?_⟩ | refine ⟨(by show some (Value.bool _) = some (Value.bool _); first | (simp [hg1, hg2]; done) | (refine congrArg (fun z => some (Value.bool z)) (Bool.eq_iff_iff.2 ?_); simp [hg1, hg2]; omega)), ?_⟩)) ks9 hJ1
 refine TL.gs ?_
 refine TL.gs ?_
 refine TL.gs ?_
 refine TL.p Pu.kf ?_
 refine TL.p Pu.mv ?_
 refine TL.gs ?_
 refine TL.gs ?_
 refine TL.gs ?_
 refine TL.p Pu.kf ?_
 refine TL.p Pu.as ?_
 refine TL.nil ?_
 exact TQ.sub (by repeat (first | exact trivial | refine ⟨rfl, ?_⟩ | refine ⟨trivial, ?_⟩ | refine ⟨(by show some (Value.bool _) = some (Value.bool _); first | (simp [hg1]; done) | (refine congrArg (fun z => some (Value.bool z)) (Bool.eq_iff_iff.2 ?_); simp [hg1]; omega)), ?_⟩)) ks9 hJ1
set_option maxRecDepth 100000 in
theorem cPriced_any {A : Option Addr} {ca : Nat} {E : Fes} {w : World} (hn : E.nf ≤ 1000000) (hR : RdR w 2 A E.nf (feeL E)) :
  Calls Tryz.prog 26 #[.slice A E.nf ca] w (Ret w (.bool (fesOk E))) := by
 unfold feeL at hR
 refine K_enter (S := []) (K := []) Tryz.func26 rfl Tryz.ntmps26 rfl (Sat.start _) ?_
 refine TW.seq fun Y1 hY1 => TW.region ?_
 refine TL.p Pu.as ?_
 refine TL.nil (TQ.thenN (hY1 _ _ ?_))
 refine TW.seq fun Y2 hY2 => TW.region ?_
 refine TL.m (Mk.al ty_zr3) ?_
 intro b1
 first | refine TL.st ty_sz3 ?_ | refine TL.se ty_sz3 ?_
 refine TL.nil (TQ.thenN (hY2 _ _ ?_))
 refine TW.seq fun Y3 hY3 => TW.region ?_
 refine TL.p Pu.mv ?_
 refine TL.p Pu.fn ?_
 refine TL.call rfl (enters Tryz.func55 rfl rfl) (List.Perm.refl _) rfl (fun w hw => by
   have hw2 : Sat [] _ [.blk b1 3 [.int .i64 (-1)]] w := hw.sub (KSub.cons Pick.hd KSub.nil)
   refine everyFee_st (v := fun k => (E.t k, E.r k)) (p := prcK E) (M := fun k => [.blk b1 3 [.int .i64 (lastT E k)]]) (fs := []) (cs := [.pointer (some ⟨b1, 0, none⟩)]) (enters Tryz.func56 rfl rfl) (by omega) (hR.sat hw Apart.nil) (hR.apart fun q hq => (hw2.ge q hq).resolve_left (by simp)) hw2.self (fun _ => rfl) (fun k hk hp w' hw' => ?_)
   exact priced1_any _ _ _ b1 w' hw'.self) ?_
 intro x
 refine TL.p Pu.as ?_
 refine TL.nil (TQ.thenN (hY3 _ _ ?_))
 refine TW.ret ?_
 refine TQ.ret Tryz.results26 rfl ((.tmp rfl .nil)) ?_
 exact fun w hw => ⟨ret_bool (by rw [← prc_all, x.any]; show allB E.nf (prcK E) = !anyB E.nf _; rw [not_anyB]; simp), Chg.ext hw.chg⟩
theorem compareI_any {w : World} {A B : Option Addr} {n m cp cq : Nat} {L M : List Int} (hn : n = L.length) (hm : m = M.length) (h1 : n ≤ 1000000) (h2 : m ≤ 1000000) (hR : RdR w 1 A n (iL L)) (hS : RdR w 1 B m (iL M)) :
  Calls Tryz.prog 58 #[.slice A n cp, .slice B m cq] w (Ret w (.int .i64 (cmpI L M))) := by
 subst hn hm
 refine K_enter (S := []) (K := []) Tryz.func58 rfl Tryz.ntmps58 rfl (Sat.start _) ?_
 refine TW.seq fun Y1 hY1 => TW.region ?_
 refine TL.p Pu.as ?_
 refine TL.nil (TQ.thenN (hY1 _ _ ?_))
 refine TW.seq fun Y2 hY2 => ?_
 refine TW.seq fun Y3 hY3 => TW.region ?_
 refine TL.p Pu.mv ?_
 refine TL.p (Pu.ln Tryz.underlying31) ?_
 refine TL.p Pu.mv ?_
 refine TL.nil (TQ.thenN (hY3 _ _ ?_))
 refine TW.block ?_
 refine TW.loop1 (fun (k : Nat) => [(11, .int .i64 (k : Int)), (10, .int .i64 (L.length : Int)), (9, .slice A L.length cp), (0, .slice A L.length cp), (1, .slice B M.length cq)]) (fun k => []) (fun k => k ≤ L.length ∧ k ≤ M.length ∧ cmpI L M = cmpI (L.drop k) (M.drop k)) (fun k => L.length - k) 0 fs9 ?_ ?_ ?_
 exact ks9
 exact ⟨Nat.zero_le _, Nat.zero_le _, rfl⟩
 rintro k ⟨hk, hkm, he⟩ Z0 hZ0
 refine TW.seq fun Y4 hY4 => TW.region ?_
 refine TL.p Pu.lt ?_
 refine TL.nil (TQ.thenN (hY4 _ _ ?_))
 refine TW.seq fun Y5 hY5 => ?_
 refine TW.cond rfl (fun hc0 => ?_) (fun hc0 => ?_)
 try simp only [zcb9] at hc0
 have hkn : k < L.length := by omega
 have dL := drop_get hkn
 refine TW.skip ?_
 refine TQ.thenN (hY5 _ _ ?_)
 refine TW.seq fun Y6 hY6 => ?_
 refine TW.block ?_
 refine TW.seq fun Y7 hY7 => TW.region ?_
 refine TL.p Pu.mv ?_
 refine TL.p (Pu.el ty_et31) ?_
 refine TL.p (Pu.ld ty_sc3) ?_
 refine TL.p Pu.as ?_
 refine TL.p Pu.as ?_
 refine TL.nil (TQ.thenN (hY7 _ _ ?_))
 refine TW.seq fun Y8 hY8 => ?_
 refine TW.seq fun Y9 hY9 => TW.region ?_
 refine TL.p Pu.mv ?_
 refine TL.p Pu.mv ?_
 refine TL.p (Pu.ln Tryz.underlying31) ?_
 refine TL.p Pu.ge ?_
 refine TL.nil (TQ.thenN (hY9 _ _ ?_))
 refine TW.cond rfl (fun hc1 => ?_) (fun hc1 => ?_)
 try simp only [zcb9] at hc1
 have dM : M.drop k = [] := List.drop_eq_nil_of_le (by omega)
 refine TW.seq fun Y10 hY10 => TW.region ?_
 refine TL.p Pu.as ?_
 refine TL.nil (TQ.thenN (hY10 _ _ ?_))
 refine TW.ret ?_
 refine TQ.thenR ?_
 refine TQ.blkR ?_
 refine TQ.thenR ?_
 refine TQ.thenR ?_
 refine TQ.blkR ?_
 refine TQ.thenR ?_
 refine TQ.ret Tryz.results58 rfl ((.tmp rfl .nil)) ?_
 exact fun w hw => ⟨ret_int (by rw [he, dL, dM]; rfl), Chg.ext hw.chg⟩
 try simp only [zcb9] at hc1
 have hkm2 : k < M.length := by omega
 have dM := drop_get hkm2
 refine TW.skip ?_
 refine TQ.thenN (hY8 _ _ ?_)
 refine TW.seq fun Y11 hY11 => TW.region ?_
 refine TL.p Pu.mv ?_
 refine TL.p Pu.mv ?_
 refine TL.p (Pu.el ty_et31) ?_
 refine TL.p (Pu.ld ty_sc3) ?_
 refine TL.p Pu.as ?_
 refine TL.nil (TQ.thenN (hY11 _ _ ?_))
 refine TW.seq fun Y12 hY12 => TW.region ?_
 refine TL.p Pu.mv ?_
 refine TL.p Pu.mv ?_
 refine TL.cr rfl (enters Tryz.func83 rfl rfl) (fun w hw => by
   exact compare_any _ _ _) ?_
 refine TL.p Pu.as ?_
 refine TL.nil (TQ.thenN (hY12 _ _ ?_))
 refine TW.seq fun Y13 hY13 => TW.region ?_
 refine TL.p Pu.mv ?_
 refine TL.p Pu.ne ?_
 refine TL.nil (TQ.thenN (hY13 _ _ ?_))
 refine TW.cond rfl (fun hc2 => ?_) (fun hc2 => ?_)
 try simp only [zcb9] at hc2
 have hv : cmpV (L.getD k 0) (M.getD k 0) ≠ 0 := by simpa using hc2
 refine TW.seq fun Y14 hY14 => TW.region ?_
 refine TL.p Pu.mv ?_
 refine TL.p Pu.as ?_
 refine TL.nil (TQ.thenN (hY14 _ _ ?_))
 refine TW.ret ?_
 refine TQ.blkR ?_
 refine TQ.thenR ?_
 refine TQ.thenR ?_
 refine TQ.blkR ?_
 refine TQ.thenR ?_
 refine TQ.ret Tryz.results58 rfl ((.tmp rfl .nil)) ?_
 exact fun w hw => ⟨ret_int (by rw [he, dL, dM]; simp only [cmpI, if_neg hv]), Chg.ext hw.chg⟩
 try simp only [zcb9] at hc2
 have hv : cmpV (L.getD k 0) (M.getD k 0) = 0 := by simpa using hc2
 refine TW.skip ?_
 refine TQ.blkN ?_
 refine TQ.thenN (hY6 _ _ ?_)
 refine TW.region ?_
 refine TL.p Pu.ad ?_
 refine TL.p Pu.mv ?_
 refine TL.nil ?_
 refine TQ.thenN (hZ0 (k + 1) _ _ ?_ ?_ fs9 ?_)
 exact ⟨by omega, by omega, by rw [he, dL, dM]; simp only [cmpI, if_pos hv]⟩
 exact zom9
 exact ks9
 try simp only [zcb9] at hc0
 have hkn : k = L.length := by omega
 refine TW.exit ?_
 refine TQ.thenX ?_
 refine TQ.thenX ?_
 refine TQ.blkX ?_
 refine TQ.thenN (hY2 _ _ ?_)
 refine TW.seq fun Y15 hY15 => ?_
 refine TW.seq fun Y16 hY16 => TW.region ?_
 refine TL.p Pu.mv ?_
 refine TL.p (Pu.ln Tryz.underlying31) ?_
 refine TL.p Pu.mv ?_
 refine TL.p (Pu.ln Tryz.underlying31) ?_
 refine TL.p Pu.lt ?_
 refine TL.nil (TQ.thenN (hY16 _ _ ?_))
 refine TW.cond rfl (fun hc3 => ?_) (fun hc3 => ?_)
 try simp only [zcb9] at hc3
 have hlt : L.length < M.length := by omega
 refine TW.seq fun Y17 hY17 => TW.region ?_
 refine TL.p Pu.as ?_
 refine TL.nil (TQ.thenN (hY17 _ _ ?_))
 refine TW.ret ?_
 refine TQ.thenR ?_
 refine TQ.ret Tryz.results58 rfl ((.tmp rfl .nil)) ?_
 exact fun w hw => ⟨ret_int (by rw [he, List.drop_eq_nil_of_le (by omega : L.length ≤ k), drop_get (L := M) (by omega)]; rfl), Chg.ext hw.chg⟩
 try simp only [zcb9] at hc3
 have hlt : ¬ L.length < M.length := by omega
 refine TW.skip ?_
 refine TQ.thenN (hY15 _ _ ?_)
 refine TW.seq fun Y18 hY18 => TW.region ?_
 refine TL.p Pu.as ?_
 refine TL.nil (TQ.thenN (hY18 _ _ ?_))
 refine TW.ret ?_
 refine TQ.ret Tryz.results58 rfl ((.tmp rfl .nil)) ?_
 exact fun w hw => ⟨ret_int (by rw [he, List.drop_eq_nil_of_le (by omega : L.length ≤ k), List.drop_eq_nil_of_le (by omega : M.length ≤ k)]; rfl), Chg.ext hw.chg⟩
theorem concat2_any {w : World} {bs E9 : Nat} {A B : Option Addr} {n m c1 c2 : Nat} {u v : Nat → Int} (h : n + m ≤ 1000000) (hb : Blk w bs E9 #[.slice A n c1, .slice B m c2]) (hA : RdR w 1 A n (fun k => [.int .i64 (u k)])) (hB : RdR w 1 B m (fun k => [.int .i64 (v k)])) :
  CallsK Tryz.prog 59 #[.slice (some ⟨bs, 0, none⟩) 2 2] [] w (Option Addr × Nat) (fun x => .slice x.1 (n + m) x.2) (fun x => [.own x.1 (n + m) x.2 3 1 (fun k => [.int .i64 (if k < n then u k else v (k - n))])]) := by
 have hb2 := RdR.blk (cs := [.slice A n c1, .slice B m c2]) (n := 2) (sz := 1) (r := fun i => [.slice (sl3 A n c1 B m c2 none 0 0 i).1 (sl3 A n c1 B m c2 none 0 0 i).2.1 (sl3 A n c1 B m c2 none 0 0 i).2.2]) hb rfl (fun _ _ => rfl)
 have h9 := concatI_any (cp := 2) (m := 2) (a := fun i => (sl3 A n c1 B m c2 none 0 0 i).1) (l := fun i => (sl3 A n c1 B m c2 none 0 0 i).2.1) (c := fun i => (sl3 A n c1 B m c2 none 0 0 i).2.2) (v := fun i => if i = 0 then u else v) (by omega) (by show totT _ 1 + m ≤ _; simp only [totT, sl3]; omega) hb2 (fun i hi => by
  have : i = 0 ∨ i = 1 := by omega
  rcases this with rfl | rfl
  · exact hA
  · exact hB)
 have et : totT (fun i => (sl3 A n c1 B m c2 none 0 0 i).2.1) 2 = n + m := by simp only [totT, sl3]; omega
 rw [et] at h9
 refine Calls.mono h9 ?_
 rintro e w' ⟨x, rfl, hs⟩
 refine ⟨x, rfl, hs.sub (KSub.own Pick.hd (fun i hi => ?_) KSub.nil)⟩
 simp only [catT, catR, totT, sl3, Nat.zero_add, Nat.not_lt_zero, if_false, Nat.sub_zero, if_true, Nat.one_ne_zero]
 split <;> rfl
end Go.Proofs.YtfaenhhgkhcghaaGreatDoor
namespace Go.Proofs.YtfaenhhgkhcghaaGreatDoor
set_option linter.all false
set_option linter.unusedVariables false
set_option linter.unusedSimpArgs false
open Go.RowKit
theorem rowsT_cat {M N L : List TlX} {m : Nat} (hm : m = M.length) (hL : L = M ++ N) : ∀ i, i < m + N.length → catR m (rowsT M) (rowsT N) i = rowsT L i := fun i hi => by
 subst hL hm
 simp only [catR, rowsT]
 by_cases h : i < M.length
 · rw [if_pos h, List.getD_eq_getElem?_getD, List.getD_eq_getElem?_getD, List.getElem?_append_left (by omega)]
 · rw [if_neg h, List.getD_eq_getElem?_getD, List.getD_eq_getElem?_getD, List.getElem?_append_right (by omega)]
section
variable {Z : Cus} {T : Trp} {Y : Wy} {W A L C D B O U V S : Option Addr} {cw cl cn cc cd cb co cu cv n cs bt : Nat} {st : Nat → Nat → Int} {w : World}
set_option maxRecDepth 100000 in
set_option maxHeartbeats 1000000 in
theorem cTolls_any (hok : CusOk Z) (htr : trpOk T = true) (h : CustIn w C Z.nc D Z.nd B Z.nb Z.c Z.d Z.b) (t : TrpIn w T O U V) (s : StpIn w n st S) (ht : OldB w bt (trkL T O co U cu V cv Z C cc D cd B cb S n cs)) :
  CallsK Tryz.prog 35 #[.pointer (some ⟨bt, 0, none⟩)] [] w (Option Addr × Nat) (fun y => .tuple #[.slice y.1 (tolA Z T st n).length y.2, .agg #[.int .i64 (allLo Z T st n), .int .i64 (allHi Z T st n)]]) (fun y => [.own y.1 (tolA Z T st n).length y.2 98 4 (rowsT (tolA Z T st n))]) := by
 have ht9 := ht
 have hRS := s.hR
 have hn := s.hn
 unfold trkL at ht
 refine K_enter (S := []) (K := []) Tryz.func35 rfl Tryz.ntmps35 rfl (Sat.start _) ?_
 refine TW.seq fun Y1 hY1 => TW.region ?_
 refine TL.p Pu.as ?_
 refine TL.m (Mk.al ty_zr36) ?_
 intro b1
 refine TL.nil (TQ.thenN (hY1 _ _ ?_))
 refine TW.seq fun Y2 hY2 => ?_
 refine TW.seq fun Y3 hY3 => TW.region ?_
 refine TL.p Pu.mv ?_
 refine TL.p (by first | exact Pu.nn | exact Pu.nc) ?_
 refine TL.p (by first | exact Pu.fb ty_fa129_2 | exact Pu.fe ty_fa129_2) ?_
 refine TL.p (Pu.ldo ty_sc83) ?_
 refine TL.p (Pu.ln Tryz.underlying83) ?_
 refine TL.p Pu.mv ?_
 refine TL.nil (TQ.thenN (hY3 _ _ ?_))
 refine TW.block ?_
 refine TW.loop5 (fun (i : Nat) (E : Option Addr) (ce : Nat) (M : List TlX) (m : Nat) => [(12, .int .i64 (i : Int)), (11, .int .i64 (n : Int)), (2, .slice E m ce), (3, .pointer (some ⟨b1, 0, none⟩)), (0, .pointer (some ⟨bt, 0, none⟩))]) (fun i E ce M m => [.own E m ce 98 4 (rowsT M), .blk b1 36 [.int .i64 (allLo Z T st i), .int .i64 (allHi Z T st i)]]) (fun i E ce M m => i ≤ n ∧ M = tolA Z T st i ∧ m = M.length) (fun i E ce M m => n - i) 0 none 0 [] 0 fs9 ?_ ?_ ?_
 exact KSub.nilOwn ks9
 exact ⟨Nat.zero_le _, rfl, rfl⟩
 rintro i E ce M m ⟨hi, hM, hm⟩ Z0 hZ0
 have hM9 := hidT hM
 have hm9 : m ≤ 8000 := by rw [hm, hM]; exact Nat.le_trans (tolA_len i) (by omega)
 clear hM
 refine TW.seq fun Y4 hY4 => TW.region ?_
 refine TL.p Pu.lt ?_
 refine TL.nil (TQ.thenN (hY4 _ _ ?_))
 refine TW.seq fun Y5 hY5 => ?_
 refine TW.cond rfl (fun hc0 => ?_) (fun hc0 => ?_)
 try simp only [zcb9] at hc0
 have hin : i < n := by omega
 have hab := all_bd (st := st) hok htr i
 have hsb := sum_bd (s := st i) hok htr
 have htl := tolI_len (i := (i : Int)) (lo := trbLo Z T (st i)) (hi := trbHi Z T (st i)) 8
 refine TW.skip ?_
 refine TQ.thenN (hY5 _ _ ?_)
 refine TW.seq fun Y6 hY6 => ?_
 refine TW.block ?_
 refine TW.seq fun Y7 hY7 => TW.region ?_
 refine TL.p Pu.mv ?_
 refine TL.p Pu.as ?_
 refine TL.nil (TQ.thenN (hY7 _ _ ?_))
 refine TW.seq fun Y8 hY8 => TW.region ?_
 refine TL.p Pu.mv ?_
 refine TL.p Pu.mv ?_
 refine TL.call (M := []) rfl (enters Tryz.func75 rfl rfl) (List.Perm.refl _) rfl (fun w hw => by
   exact cDue_any i hin hok htr (h.ext (Chg.ext hw.chg)) (t.ext (Chg.ext hw.chg)) (s.ext (Chg.ext hw.chg)) (ht9.ext (Chg.ext hw.chg))) ?_
 rintro ⟨Ad, ca⟩
 refine TL.p Pu.mv ?_
 refine TL.p Pu.ex ?_
 refine TL.p Pu.ex ?_
 refine TL.m (Mk.al ty_zr36) ?_
 intro b2
 refine TL.p Pu.as ?_
 first | refine TL.st ty_sz36 ?_ | refine TL.se ty_sz36 ?_
 refine TL.nil (TQ.thenN (hY8 _ _ ?_))
 refine TW.seq fun Y9 hY9 => TW.region ?_
 refine TL.p Pu.mv ?_
 refine TL.p Pu.mv ?_
 first | refine TL.a0 ty_et65 ?_ | refine TL.ap ty_et65 ?_
 intro A3 c3
 refine TL.p Pu.as ?_
 refine TL.nil (TQ.thenN (hY9 _ _ ?_))
 refine TW.region ?_
 refine TL.p (by first | exact Pu.fb ty_fa36_0 | exact Pu.fe ty_fa36_0) ?_
 refine TL.p (Pu.ld ty_sc3) ?_
 refine TL.p (by first | exact Pu.fb ty_fa36_0 | exact Pu.fe ty_fa36_0) ?_
 refine TL.p (Pu.ld ty_sc3) ?_
 refine TL.p Pu.ad ?_
 refine TL.p (by first | exact Pu.fb ty_fa36_1 | exact Pu.fe ty_fa36_1) ?_
 refine TL.p (Pu.ld ty_sc3) ?_
 refine TL.p (by first | exact Pu.fb ty_fa36_1 | exact Pu.fe ty_fa36_1) ?_
 refine TL.p (Pu.ld ty_sc3) ?_
 refine TL.p Pu.ad ?_
 refine TL.p Pu.bd ?_
 first | refine TL.st ty_sz36 ?_ | refine TL.se ty_sz36 ?_
 refine TL.nil ?_
 refine TQ.blkN ?_
 refine TQ.thenN (hY6 _ _ ?_)
 refine TW.region ?_
 refine TL.p Pu.ad ?_
 refine TL.p Pu.mv ?_
 refine TL.nil ?_
 refine TQ.thenN (hZ0 (i + 1) _ _ (tolA Z T st (i + 1)) _ _ _ ?_ ?_ fs9 ?_)
 exact ⟨by omega, rfl, by simp only [tolA, List.length_append]; rw [hm, hM9.out]⟩
 exact zom9
 exact KSub.own pk9 (rowsT_cat hm (by simp only [tolA]; rw [hM9.out])) (KSub.blkE pk9 (by rfl) KSub.nil)
 try simp only [zcb9] at hc0
 obtain rfl : i = n := by omega
 refine TW.exit ?_
 refine TQ.thenX ?_
 refine TQ.thenX ?_
 refine TQ.blkX ?_
 refine TQ.thenN (hY2 _ _ ?_)
 refine TW.seq fun Y10 hY10 => ?_
 refine TW.dw 3 ?_
 refine RK.tk Pu.mv ?_
 refine RK.tk (Pu.lds ty_ag36) ?_
 refine RK.tk Pu.as ?_
 refine RK.ch [] ?_ trivial
 refine WK.n ?_
 first | refine TL.st ty_sz36 ?_ | refine TL.se ty_sz36 ?_
 refine TL.nil (TQ.thenN (hY10 _ _ ?_))
 refine TW.ret ?_
 refine TQ.ret Tryz.results35 rfl ((.tmp rfl (RV.cs ty_ag36 .nil))) ?_
 have hM := hM9.out
 subst hM
 subst hm
 exact fun w hw => ⟨(E, ce), rfl, hw.sub (KSub.cons pk9 KSub.nil)⟩
set_option maxRecDepth 100000 in
set_option maxHeartbeats 1000000 in
theorem tollDue_any (hL : LandIn w W Y.nw A Y.nl Y.f Y.x Y.g) (hn : Y.n ≤ 1000) (hR : RdR w 1 L Y.n (fun k => [.int .i64 (Y.ls k)])) (h : CustIn w C Z.nc D Z.nd B Z.nb Z.c Z.d Z.b) (t : TrpIn w T O U V) :
  CallsK Tryz.prog 22 #[.agg (landL W Y.nw cw A Y.nl cl).toArray, .agg (custL C Z.nc cc D Z.nd cd B Z.nb cb).toArray, .agg (troopL T.hd T.wo O T.no co U T.nu cu V T.nv cv).toArray, .int .i64 Y.start, .int .i64 Y.day, .agg #[.int .i64 Y.p0, .int .i64 Y.p1], .slice L Y.n cn] [] w (Option Addr × Nat) (dueV Y Z T) (dueK Y Z T) := by
 have fR := fun (w' : World) (h1 : LandIn w' W Y.nw A Y.nl Y.f Y.x Y.g) (h2 : CustIn w' C Z.nc D Z.nd B Z.nb Z.c Z.d Z.b) (h3 : TrpIn w' T O U V) => cReady_any (cw := cw) (cl := cl) (cc := cc) (cd := cd) (cb := cb) (co := co) (cu := cu) (cv := cv) h1 h2 h3
 have fW := fun (w' : World) (h1 : LandIn w' W Y.nw A Y.nl Y.f Y.x Y.g) (h2 : RdR w' 1 L Y.n (fun k => [.int .i64 (Y.ls k)])) => cWalked_any (Z := Z) (T := T) (C := C) (D := D) (B := B) (O := O) (U := U) (V := V) (cw := cw) (cl := cl) (cc := cc) (cd := cd) (cb := cb) (co := co) (cu := cu) (cv := cv) (cn := cn) h1 hn h2
 unfold landL custL troopL at fR fW ⊢
 refine K_enter (S := []) (K := []) Tryz.func22 rfl Tryz.ntmps22 rfl (Sat.start _) ?_
 refine TW.seq fun Y1 hY1 => TW.region ?_
 refine TL.m Mk.bx ?_
 intro b1
 refine TL.m Mk.bx ?_
 intro b2
 refine TL.m Mk.bx ?_
 intro b3
 refine TL.m Mk.bx ?_
 intro b4
 refine TL.p Pu.as ?_
 refine TL.m (Mk.al ty_zr36) ?_
 intro b5
 refine TL.p Pu.as ?_
 refine TL.nil (TQ.thenN (hY1 _ _ ?_))
 refine TW.seq fun Y2 hY2 => ?_
 refine TW.seq fun Y3 hY3 => TW.region ?_
 refine TL.p (Pu.lds ty_ag25) ?_
 refine TL.p (Pu.lds ty_ag30) ?_
 refine TL.p (Pu.lds ty_ag33) ?_
 refine TL.cr rfl (enters Tryz.func25 rfl rfl) (fun w hw => by
   exact fR _ (hL.ext (Chg.ext hw.chg)) (h.ext (Chg.ext hw.chg)) (t.ext (Chg.ext hw.chg))) ?_
 refine TL.p Pu.as ?_
 refine TL.nil (TQ.thenN (hY3 _ _ ?_))
 refine TW.seq fun Y4 hY4 => TW.region ?_
 refine TL.p Pu.mv ?_
 refine TL.p Pu.ne ?_
 refine TL.nil (TQ.thenN (hY4 _ _ ?_))
 refine TW.cond rfl (fun hc0 => ?_) (fun hc0 => ?_)
 try simp only [zcb9] at hc0
 have hne : rdyC Y Z T ≠ 0 := hc0
 have hte : tolC Y Z T ≠ 0 := by rw [tol_rdy hne]; exact hne
 refine TW.seq fun Y5 hY5 => ?_
 refine TW.rf Drop.done ?_
 refine RF.tk (Pu.lds ty_ag36) ?_
 refine RF.tk Pu.mv ?_
 refine RF.tk Pu.as ?_
 refine RF.ks ?_
 refine RF.ks ?_
 refine RF.go ?_
 refine RG.step fun X1 hX1 => ?_
 first | refine TL.st ty_sz36 ?_ | refine TL.se ty_sz36 ?_
 refine TL.nil ?_
 refine TQ.nxt (hX1 _ _ hl9 ?_)
 refine RG.step fun X2 hX2 => ?_
 refine TL.p Pu.as ?_
 refine TL.nil ?_
 refine TQ.nxt (hX2 _ _ hl9 ?_)
 refine RG.nil ?_
 refine TQ.thenN (hY5 _ _ ?_)
 refine TW.ret ?_
 refine TQ.thenR ?_
 refine TQ.ret Tryz.results22 rfl ((.tmp rfl (RV.cs ty_ag36 (.tmp rfl .nil)))) ?_
 exact fun w hw => due_bad hw (tol_rdy hne) hne
 try simp only [zcb9] at hc0
 have hz : rdyC Y Z T = 0 := by simpa using hc0
 obtain ⟨hz1, hz2⟩ := rdy_split hz
 have hok := chk_ok hz1
 refine TW.skip ?_
 refine TQ.thenN (hY2 _ _ ?_)
 refine TW.seq fun Y6 hY6 => TW.region ?_
 refine TL.p (Pu.lds ty_ag25) ?_
 refine TL.p (Pu.lds ty_ag30) ?_
 refine TL.p (Pu.lds ty_ag33) ?_
 refine TL.p Pu.mv ?_
 refine TL.p Pu.mv ?_
 refine TL.p (Pu.lds ty_ag36) ?_
 refine TL.p Pu.mv ?_
 refine TL.call (M := []) rfl (enters Tryz.func27 rfl rfl) (List.Perm.refl _) rfl (fun w hw => by
   exact fW _ (hL.ext (Chg.ext hw.chg)) (hR.sat hw Apart.nil)) ?_
 rintro ⟨⟨As, cs⟩, bt⟩
 refine TL.p Pu.mv ?_
 refine TL.p Pu.ex ?_
 refine TL.p Pu.ex ?_
 refine TL.p Pu.as ?_
 refine TL.p Pu.as ?_
 refine TL.nil (TQ.thenN (hY6 _ _ ?_))
 refine TW.seq fun Y7 hY7 => ?_
 refine TW.seq fun Y8 hY8 => TW.region ?_
 refine TL.p Pu.mv ?_
 refine TL.p Pu.ne ?_
 refine TL.nil (TQ.thenN (hY8 _ _ ?_))
 refine TW.cond rfl (fun hc1 => ?_) (fun hc1 => ?_)
 try simp only [zcb9] at hc1
 have hne : wkC Y ≠ 0 := hc1
 refine TW.seq fun Y9 hY9 => ?_
 refine TW.rf Drop.done ?_
 refine RF.tk (Pu.lds ty_ag36) ?_
 refine RF.tk Pu.mv ?_
 refine RF.tk Pu.as ?_
 refine RF.ks ?_
 refine RF.ks ?_
 refine RF.go ?_
 refine RG.step fun X3 hX3 => ?_
 first | refine TL.st ty_sz36 ?_ | refine TL.se ty_sz36 ?_
 refine TL.nil ?_
 refine TQ.nxt (hX3 _ _ hl9 ?_)
 refine RG.step fun X4 hX4 => ?_
 refine TL.p Pu.as ?_
 refine TL.nil ?_
 refine TQ.nxt (hX4 _ _ hl9 ?_)
 refine RG.nil ?_
 refine TQ.thenN (hY9 _ _ ?_)
 refine TW.ret ?_
 refine TQ.thenR ?_
 refine TQ.ret Tryz.results22 rfl ((.tmp rfl (RV.cs ty_ag36 (.tmp rfl .nil)))) ?_
 exact fun w hw => due_bad hw (tol_wk hz) hne
 try simp only [zcb9] at hc1
 have hwz : wkC Y = 0 := by simpa using hc1
 have hte : tolC Y Z T = 0 := by rw [tol_wk hz]; exact hwz
 have hwn := wkN_n hwz
 have hwb := stY_bd hwz
 refine TW.skip ?_
 refine TQ.thenN (hY7 _ _ ?_)
 refine TW.seq fun Y10 hY10 => TW.region ?_
 refine TL.p Pu.mv ?_
 refine TL.call (M := []) rfl (enters Tryz.func35 rfl rfl) (List.Perm.refl _) rfl (fun w hw => by
   have q1 := OldB.of_blk (hw.holds (.blk bt 129 (trkL T O co U cu V cv Z C cc D cd B cb As (wkN Y) cs)) (by simp))
   have q2 := OwnR.rdr (hw.holds (.own As (wkN Y) cs 160 6 (fun k => stopL (stY Y k))) (by simp))
   exact cTolls_any hok hz2 (h.ext (Chg.ext hw.chg)) (t.ext (Chg.ext hw.chg)) ⟨by rw [hwn]; exact hn, q2, fun k hk => hwb k (by rw [← hwn]; exact hk)⟩ q1) ?_
 rintro ⟨Ad, cd9⟩
 refine TL.p Pu.mv ?_
 refine TL.p Pu.ex ?_
 refine TL.p Pu.ex ?_
 refine TL.p Pu.as ?_
 first | refine TL.st ty_sz36 ?_ | refine TL.se ty_sz36 ?_
 refine TL.nil (TQ.thenN (hY10 _ _ ?_))
 refine TW.seq fun Y11 hY11 => ?_
 refine TW.dw 3 ?_
 refine RK.tk Pu.mv ?_
 refine RK.tk (Pu.lds ty_ag36) ?_
 refine RK.tk Pu.as ?_
 refine RK.ch [] ?_ trivial
 refine WK.n ?_
 first | refine TL.st ty_sz36 ?_ | refine TL.se ty_sz36 ?_
 refine TL.p Pu.as ?_
 refine TL.nil (TQ.thenN (hY11 _ _ ?_))
 refine TW.ret ?_
 refine TQ.ret Tryz.results22 rfl ((.tmp rfl (RV.cs ty_ag36 (.tmp rfl .nil)))) ?_
 have e1 : dueL Y Z T = tolA Z T (stY Y) (wkN Y) := by rw [hwn]; exact if_pos hte
 have e2 : dueLo Y Z T = allLo Z T (stY Y) (wkN Y) := by rw [hwn]; exact if_pos hte
 have e3 : dueHi Y Z T = allHi Z T (stY Y) (wkN Y) := by rw [hwn]; exact if_pos hte
 exact fun w hw => ⟨(Ad, cd9), by unfold dueV; rw [e1, e2, e3, hte]; rfl, by unfold dueK; rw [e1]; exact hw.sub (KSub.cons pk9 KSub.nil)⟩
end
end Go.Proofs.YtfaenhhgkhcghaaGreatDoor
namespace Go.Proofs.YtfaenhhgkhcghaaGreatDoor
set_option linter.all false
set_option linter.unusedVariables false
set_option linter.unusedSimpArgs false
open Go.RowKit
theorem cmp_ge {l m : List Int} (h : l.length = m.length) : (0 ≤ cmpI l m) ↔ ltL l m = false := cmp_lt h
theorem hir_not {free : List Int → Bool} {E : Fes} {q : Nat} {X : List Int × Int × Bool} {M : List Int} (hX : X = hirK free E q) (hM : M = selT E q E.nf) (h : (X.2.2 && !betC (selR E q E.nf) M X.2.1 X.1) = true) : hirK free E (q + 1) = hirK free E q := by
 refine hir_no2 ?_
 subst hX hM
 cases h1 : (hirK free E q).2.2 <;> simp_all
theorem hir_may {free : List Int → Bool} {E : Fes} {q : Nat} {X : List Int × Int × Bool} {M : List Int} (hX : X = hirK free E q) (hM : M = selT E q E.nf) (h : (X.2.2 && !betC (selR E q E.nf) M X.2.1 X.1) = false) : (!(hirK free E q).2.2 || betC (selR E q E.nf) (selT E q E.nf) (hirK free E q).2.1 (hirK free E q).1) = true := by
 subst hX hM
 cases h1 : (hirK free E q).2.2 <;> simp_all
section
variable {Z : Cus} {T : Trp} {Y : Wy} {W A L C D B O U V S : Option Addr} {cw cl cn cc cd cb co cu cv n cs bt : Nat} {st : Nat → Nat → Int} {w : World}
set_option maxRecDepth 100000 in
set_option maxHeartbeats 4000000 in
theorem cHire_any {A : Option Addr} {ca : Nat} {E : Fes} (hok : CusOk Z) (hE : fesOk E = true) (h : CustIn w C Z.nc D Z.nd B Z.nb Z.c Z.d Z.b) (t : TrpIn w T O U V) (s : StpIn w n st S) (ht : OldB w bt (trkL T O co U cu V cv Z C cc D cd B cb S n cs)) (hG : OldB w 0 barsL) (hnu : T.nu ≤ 900) (hA : RdR w 2 A E.nf (feeL E)) :
  CallsK Tryz.prog 28 #[.pointer (some ⟨bt, 0, none⟩), .slice A E.nf ca] [] w (Option Addr × Nat) (hirR (hirV Z T n st E)) (fun y => [.own y.1 (hirV Z T n st E).1.length y.2 3 1 (iL (hirV Z T n st E).1)]) := by
 have hnf := fes_len hE
 have hp2 := pow_nf hE
 have hRU := t.hU
 unfold feeL at hA
 have fB := fun (w' : World) (h3 : CustIn w' C Z.nc D Z.nd B Z.nb Z.c Z.d Z.b) (s' : StpIn w' n st S) (l : List Int) (b9 : Nat) (Ag : Option Addr) (cg : Nat) (h4 : TrpIn w' (tgu T l) O Ag V) (h5 : OldB w' b9 (trkL (tgu T l) O co Ag cg V cv Z C cc D cd B cb S n cs)) (hG' : OldB w' 0 barsL) => cFirst_any (T := tgu T l) (U := Ag) (cu := cg) (bt := b9) hok h3 h4 s' h5 hG'
 unfold trkL at ht
 refine K_enter (S := []) (K := []) Tryz.func28 rfl Tryz.ntmps28 rfl (Sat.start _) ?_
 refine TW.seq fun Y1 hY1 => TW.region ?_
 refine TL.p Pu.as ?_
 refine TL.p Pu.as ?_
 refine TL.p Pu.as ?_
 refine TL.nil (TQ.thenN (hY1 _ _ ?_))
 refine TW.seq fun Y2 hY2 => ?_
 refine TW.seq fun Y3 hY3 => TW.region ?_
 refine TL.p Pu.mv ?_
 refine TL.p (Pu.ln Tryz.underlying34) ?_
 refine TL.p (Pu.sl1 (j := E.nf)) ?_
 refine TL.p Pu.mv ?_
 refine TL.nil (TQ.thenN (hY3 _ _ ?_))
 refine TW.block ?_
 refine TW.loop4 (fun (q : Nat) (Ab : Option Addr) (cb9 : Nat) (X : List Int × Int × Bool) => [(18, .int .i64 (q : Int)), (17, .int .i64 ((2 ^ E.nf : Nat) : Int)), (4, .slice Ab X.1.length cb9), (5, .int .i64 X.2.1), (6, .bool X.2.2), (1, .slice A E.nf ca), (0, .pointer (some ⟨bt, 0, none⟩))]) (fun q Ab cb9 X => [.own Ab X.1.length cb9 3 1 (iL X.1)]) (fun q Ab cb9 X => q ≤ 2 ^ E.nf ∧ X = hirK (freeB Z T n st) E q) (fun q Ab cb9 X => 2 ^ E.nf - q) 0 none 0 ([], 0, false) fs9 ?_ ?_ ?_
 exact KSub.nilOwn ks9
 exact ⟨Nat.zero_le _, rfl⟩
 rintro q Ab cb9 X ⟨hq, hX⟩ Z0 hZ0
 have hX9 := hidT hX
 have hXl : X.1.length ≤ 8 := by rw [hX]; exact Nat.le_trans (hirK_len q) hnf
 have hXb : 0 ≤ X.2.1 ∧ X.2.1 ≤ 8000000000000 := by rw [hX]; exact hirK_bd hE q
 clear hX
 refine TW.seq fun Y4 hY4 => TW.region ?_
 refine TL.p Pu.lt ?_
 refine TL.nil (TQ.thenN (hY4 _ _ ?_))
 refine TW.seq fun Y5 hY5 => ?_
 refine TW.cond rfl (fun hc0 => ?_) (fun hc0 => ?_)
 try simp only [zcb9] at hc0
 have hq2 : q < 2 ^ E.nf := Int.ofNat_lt.1 hc0
 clear hc0
 refine TW.skip ?_
 refine TQ.thenN (hY5 _ _ ?_)
 refine TW.seq fun Y6 hY6 => ?_
 refine TW.block ?_
 refine TW.seq fun Y7 hY7 => TW.region ?_
 refine TL.p Pu.mv ?_
 refine TL.p Pu.as ?_
 refine TL.nil (TQ.thenN (hY7 _ _ ?_))
 refine TW.seq fun Y8 hY8 => TW.region ?_
 refine TL.p Pu.as ?_
 refine TL.nil (TQ.thenN (hY8 _ _ ?_))
 refine TW.seq fun Y9 hY9 => TW.region ?_
 refine TL.p Pu.as ?_
 refine TL.nil (TQ.thenN (hY9 _ _ ?_))
 refine TW.seq fun Y10 hY10 => ?_
 refine TW.seq fun Y11 hY11 => TW.region ?_
 refine TL.p Pu.mv ?_
 refine TL.p (Pu.ln Tryz.underlying34) ?_
 refine TL.p Pu.mv ?_
 refine TL.nil (TQ.thenN (hY11 _ _ ?_))
 refine TW.block ?_
 refine TW.loop5 (fun (k : Nat) (Al : Option Addr) (cl : Nat) (M : List Int) (m : Nat) => [(23, .int .i64 (k : Int)), (22, .int .i64 (E.nf : Int)), (21, .slice A E.nf ca), (7, .int .i64 (q : Int)), (8, .slice Al m cl), (9, .int .i64 (selR E q k)), (18, .int .i64 (q : Int)), (17, .int .i64 ((2 ^ E.nf : Nat) : Int)), (4, .slice Ab X.1.length cb9), (5, .int .i64 X.2.1), (6, .bool X.2.2), (1, .slice A E.nf ca), (0, .pointer (some ⟨bt, 0, none⟩))]) (fun k Al cl M m => [.own Al m cl 3 1 (iL M), .own Ab X.1.length cb9 3 1 (iL X.1)]) (fun k Al cl M m => k ≤ E.nf ∧ M = selT E q k ∧ m = M.length) (fun k Al cl M m => E.nf - k) 0 none 0 [] 0 fs9 ?_ ?_ ?_
 exact KSub.nilOwn ks9
 exact ⟨Nat.zero_le _, rfl, rfl⟩
 rintro k Al cl M m ⟨hk, hM, hm⟩ Z1 hZ1
 have hM9 := hidT hM
 have hm9 : m ≤ 8 := by rw [hm, hM]; exact Nat.le_trans (selT_len k) (by omega)
 have hrb := selR_bd hE (q := q) k hk
 clear hM
 refine TW.seq fun Y12 hY12 => TW.region ?_
 refine TL.p Pu.lt ?_
 refine TL.nil (TQ.thenN (hY12 _ _ ?_))
 refine TW.seq fun Y13 hY13 => ?_
 refine TW.cond rfl (fun hc1 => ?_) (fun hc1 => ?_)
 try simp only [zcb9] at hc1
 have hkn : k < E.nf := by omega
 have hfe := fes_at hE hkn
 have hqd := Nat.div_le_self q (2 ^ k)
 refine TW.skip ?_
 refine TQ.thenN (hY13 _ _ ?_)
 refine TW.seq fun Y14 hY14 => ?_
 refine TW.block ?_
 refine TW.seq fun Y15 hY15 => TW.region ?_
 refine TL.p Pu.mv ?_
 refine TL.p (Pu.el ty_et34) ?_
 refine TL.p (Pu.lds ty_ag50) ?_
 refine TL.m (Mk.al ty_zr50) ?_
 intro b1
 refine TL.p Pu.as ?_
 first | refine TL.st ty_sz50 ?_ | refine TL.se ty_sz50 ?_
 refine TL.nil (TQ.thenN (hY15 _ _ ?_))
 refine TW.seq fun Y16 hY16 => TW.region ?_
 refine TL.p Pu.mv ?_
 refine TL.p Pu.mv ?_
 refine TL.p (Pu.srN (b := q) (i := k)) ?_
 refine TL.p (Pu.an1 (m := q / 2 ^ k)) ?_
 refine TL.p Pu.eq ?_
 refine TL.nil (TQ.thenN (hY16 _ _ ?_))
 refine TW.cond rfl (fun hc2 => ?_) (fun hc2 => ?_)
 try simp only [zcb9] at hc2
 have hbit : q / 2 ^ k % 2 = 1 := by generalize q / 2 ^ k % 2 = z at hc2; omega
 have hst : selT E q (k + 1) = M ++ [E.t k] := by rw [hM9.out]; simp only [selT]; rw [if_pos hbit]
 have hsr := hidT (show selR E q (k + 1) = selR E q k + E.r k by simp only [selR]; rw [if_pos hbit])
 have hlen9 : m + 1 = (selT E q (k + 1)).length := by rw [hst, List.length_append, ← hm]; rfl
 refine TW.ex0k [.blk b1 50 [.int .i64 (E.t k), .int .i64 (E.r k)]] ?_
 refine RG.tk 0 rfl Pu.mv ?_
 refine RG.tk 1 rfl (by first | exact Pu.fb ty_fa50_0 | exact Pu.fe ty_fa50_0) ?_
 refine RG.tk 2 rfl (Pu.ld ty_sc3) ?_
 refine RG.tk 5 rfl Pu.mv ?_
 refine RG.tk 6 rfl (by first | exact Pu.fb ty_fa50_1 | exact Pu.fe ty_fa50_1) ?_
 refine RG.tk 7 rfl (Pu.ld ty_sc3) ?_
 refine RG.tk 8 rfl Pu.ad ?_
 refine RG.a1 3 rfl (fun X3 hX3 => ?_)
 refine TL.m Mk.bl ?_
 intro b2
 refine TL.nil ?_
 refine TQ.nxt (hX3 _ _ hl9 ?_)
 refine RG.a1 4 rfl (fun X4 hX4 => ?_)
 first | refine TL.a0 ty_et31 ?_ | refine TL.ap ty_et31 ?_
 intro A3 c3
 refine TL.nil ?_
 refine TQ.nxt (hX4 _ _ hl9 ?_)
 refine RG.tk 9 rfl Pu.as ?_
 refine RG.tk 10 rfl Pu.as ?_
 refine RG.nil ?_ (by kernel_rfl)
 refine TQ.blkN ?_
 refine TQ.thenN (hY14 _ _ ?_)
 refine TW.region ?_
 refine TL.p Pu.ad ?_
 refine TL.p Pu.mv ?_
 refine TL.nil ?_
 refine TQ.thenN (hZ1 (k + 1) _ _ (selT E q (k + 1)) _ _ _ ?_ ?_ (by refine ⟨rfl, rfl, rfl, rfl, rfl, (congrArg (fun z => some (Value.int .i64 z)) hsr.out.symm), ?_⟩; (repeat (first | exact trivial | refine ⟨rfl, ?_⟩ | refine ⟨trivial, ?_⟩))) ?_)
 exact ⟨by omega, rfl, hlen9⟩
 exact zom9
 first
  | exact KSub.own Pick.hd (iL_app hm hst rfl) ks9
  | exact KSub.own pk9 (fun i _ => by rw [hst]) ks9
 try simp only [zcb9] at hc2
 have hbit : ¬ q / 2 ^ k % 2 = 1 := by generalize q / 2 ^ k % 2 = z at hc2 ⊢; omega
 have hst : selT E q (k + 1) = M := by rw [hM9.out]; simp only [selT]; rw [if_neg hbit]
 have hsr := hidT (show selR E q (k + 1) = selR E q k by simp only [selR]; rw [if_neg hbit])
 have hlen9 : m = (selT E q (k + 1)).length := by rw [hst, ← hm]
 refine TW.skip ?_
 refine TQ.blkN ?_
 refine TQ.thenN (hY14 _ _ ?_)
 refine TW.region ?_
 refine TL.p Pu.ad ?_
 refine TL.p Pu.mv ?_
 refine TL.nil ?_
 refine TQ.thenN (hZ1 (k + 1) _ _ (selT E q (k + 1)) _ _ _ ?_ ?_ (by refine ⟨rfl, rfl, rfl, rfl, rfl, (congrArg (fun z => some (Value.int .i64 z)) hsr.out.symm), ?_⟩; (repeat (first | exact trivial | refine ⟨rfl, ?_⟩ | refine ⟨trivial, ?_⟩))) ?_)
 exact ⟨by omega, rfl, hlen9⟩
 exact zom9
 first
  | exact KSub.own Pick.hd (iL_app hm hst rfl) ks9
  | exact KSub.own pk9 (fun i _ => by rw [hst]) ks9
 try simp only [zcb9] at hc1
 obtain rfl : k = E.nf := by omega
 subst hm
 refine TW.exit ?_
 refine TQ.thenX ?_
 refine TQ.thenX ?_
 refine TQ.blkX ?_
 refine TQ.thenN (hY10 _ _ ?_)
 refine TW.seq fun Y17 hY17 => ?_
 refine TW.seq fun Y18 hY18 => ?_
 refine TW.join [(73, .bool (X.2.2 && !betC (selR E q E.nf) M X.2.1 X.1))] ?_ (fun hJ1 => ?_)
 refine TQ.thenN (hY18 _ _ ?_)
 refine TW.cond rfl (fun hc3 => ?_) (fun hc3 => ?_)
 try simp only [zcb9] at hc3
 have hNo := hir_not hX9.out hM9.out (by simpa using hc3)
 refine TW.exit ?_
 refine TQ.thenX ?_
 refine TQ.blkX ?_
 refine TQ.thenN (hY6 _ _ ?_)
 refine TW.region ?_
 refine TL.p Pu.ad ?_
 refine TL.p Pu.mv ?_
 refine TL.nil ?_
 refine TQ.thenN (hZ0 (q + 1) _ _ (by first | exact (fun _ => (M, selR E q E.nf, true)) hYes | exact X) _ _ ?_ ?_ fs9 ?_)
 first | exact ⟨by omega, hM8⟩ | exact ⟨by omega, hX9.out.trans hNo.symm⟩ | exact ⟨by omega, hX9.out.trans (hir_no1 hfr).symm⟩
 exact zom9
 exact ks9
 try simp only [zcb9] at hc3
 have hMay := hir_may hX9.out hM9.out (by rcases hc3 with h9 | h9 <;> simp [h9])
 refine TW.skip ?_
 refine TQ.thenN (hY17 _ _ ?_)
 refine TW.seq fun Y19 hY19 => TW.region ?_
 refine TL.p Pu.mv ?_
 refine TL.p (by first | exact Pu.nn | exact Pu.nc) ?_
 refine TL.p (Pu.ldso ty_ag129) ?_
 refine TL.m (Mk.al ty_zr129) ?_
 intro b4
 first | refine TL.st ty_sz129 ?_ | refine TL.se ty_sz129 ?_
 refine TL.nil (TQ.thenN (hY19 _ _ ?_))
 refine TW.seq fun Y20 hY20 => TW.region ?_
 refine TL.p Pu.mv ?_
 refine TL.p (by first | exact Pu.nn | exact Pu.nc) ?_
 refine TL.p (by first | exact Pu.fb ty_fa129_0 | exact Pu.fe ty_fa129_0) ?_
 refine TL.p (by first | exact Pu.fb ty_fa33_3 | exact Pu.fe ty_fa33_3) ?_
 refine TL.p (Pu.ldo ty_sc31) ?_
 refine TL.p Pu.mv ?_
 refine TL.m Mk.bl ?_
 intro b5
 refine TL.call (M := []) rfl (enters Tryz.func59 rfl rfl) (List.Perm.refl _) rfl (fun w hw => by
   exact concat2_any (u := T.u) (v := fun k => M.getD k 0) (by omega) (hw.holds _ (List.mem_cons_self ..)) (hRU.sat hw Apart.nil) (OwnR.rdr (hw.holds (.own Al M.length cl 3 1 (iL M)) (by simp)))) ?_
 rintro ⟨Ag, cg⟩
 refine TL.p (by first | exact Pu.fb ty_fa129_0 | exact Pu.fe ty_fa129_0) ?_
 refine TL.p (by first | exact Pu.fb ty_fa33_3 | exact Pu.fe ty_fa33_3) ?_
 first | refine TL.st ty_sz31 ?_ | refine TL.se ty_sz31 ?_
 refine TL.nil (TQ.thenN (hY20 _ _ ?_))
 refine TW.seq fun Y21 hY21 => TW.region ?_
 refine TL.cr rfl (enters Tryz.func43 rfl rfl) (fun w hw => by
   have t2 := t.ext (Chg.ext hw.chg)
   have q9 := OwnR.rdr (hw.holds (.own Ag (T.nu + M.length) cg 3 1 (fun k => [.int .i64 (if k < T.nu then T.u k else M.getD (k - T.nu) 0)])) (by simp))
   have q8 := OldB.of_blk (hw.holds (.blk b4 129 (trkL (tgu T M) O co Ag cg V cv Z C cc D cd B cb S n cs)) (by simp [trkL, tgu]))
   exact fB _ (h.ext (Chg.ext hw.chg)) (s.ext (Chg.ext hw.chg)) M b4 Ag cg ⟨t2.hno, by show T.nu + M.length ≤ 1000; omega, t2.hnv, t2.hO, q9, t2.hV⟩ q8 (hG.ext (Chg.ext hw.chg))) ?_
 refine TL.p Pu.mv ?_
 refine TL.p Pu.ex ?_
 refine TL.p Pu.ex ?_
 refine TL.p Pu.as ?_
 refine TL.p Pu.as ?_
 refine TL.nil (TQ.thenN (hY21 _ _ ?_))
 refine TW.seq fun Y22 hY22 => TW.region ?_
 refine TL.p Pu.mv ?_
 refine TL.p Pu.eq ?_
 refine TL.nil (TQ.thenN (hY22 _ _ ?_))
 refine TW.cond rfl (fun hc4 => ?_) (fun hc4 => ?_)
 try simp only [zcb9] at hc4
 have hfr : freeB Z T n st (selT E q E.nf) = true := by
  unfold freeB
  rw [← hM9.out]
  exact decide_eq_true hc4
 have hYes := hir_yes hMay hfr
 have hM8 : (M, selR E q E.nf, true) = hirK (freeB Z T n st) E (q + 1) := by rw [hYes]; exact congrArg (fun z => (z, selR E q E.nf, true)) hM9.out
 refine TW.region ?_
 refine TL.p Pu.mv ?_
 refine TL.p Pu.mv ?_
 refine TL.p Pu.as ?_
 refine TL.p Pu.as ?_
 refine TL.p Pu.as ?_
 refine TL.nil ?_
 refine TQ.blkN ?_
 refine TQ.thenN (hY6 _ _ ?_)
 refine TW.region ?_
 refine TL.p Pu.ad ?_
 refine TL.p Pu.mv ?_
 refine TL.nil ?_
 refine TQ.thenN (hZ0 (q + 1) _ _ (by first | exact (fun _ => (M, selR E q E.nf, true)) hYes | exact X) _ _ ?_ ?_ fs9 ?_)
 first | exact ⟨by omega, hM8⟩ | exact ⟨by omega, hX9.out.trans hNo.symm⟩ | exact ⟨by omega, hX9.out.trans (hir_no1 hfr).symm⟩
 exact zom9
 exact ks9
 try simp only [zcb9] at hc4
 have hfr : freeB Z T n st (selT E q E.nf) = false := by
  unfold freeB
  rw [← hM9.out]
  exact decide_eq_false hc4
 refine TW.skip ?_
 refine TQ.blkN ?_
 refine TQ.thenN (hY6 _ _ ?_)
 refine TW.region ?_
 refine TL.p Pu.ad ?_
 refine TL.p Pu.mv ?_
 refine TL.nil ?_
 refine TQ.thenN (hZ0 (q + 1) _ _ (by first | exact (fun _ => (M, selR E q E.nf, true)) hYes | exact X) _ _ ?_ ?_ fs9 ?_)
 first | exact ⟨by omega, hM8⟩ | exact ⟨by omega, hX9.out.trans hNo.symm⟩ | exact ⟨by omega, hX9.out.trans (hir_no1 hfr).symm⟩
 exact zom9
 exact ks9
 refine TW.region ?_
 refine TL.p Pu.mv ?_
 refine TL.p Pu.mv ?_
 refine TL.guard (t := 44) rfl (fun hg1 => ?_) (fun hg1 => ?_)
 try simp only [zgn9] at hg1
 refine TL.gd Pu.mv ?_
 refine TL.gd Pu.mv ?_
 refine TL.gd Pu.gt ?_
 refine TL.gd Pu.mv ?_
 refine TL.guard (t := 48) rfl (fun hg2 => ?_) (fun hg2 => ?_)
 try simp only [zgn9] at hg2
 refine TL.gs ?_
 refine TL.gs ?_
 refine TL.gs ?_
 refine TL.gs ?_
 refine TL.gs ?_
 refine TL.gs ?_
 refine TL.gs ?_
 refine TL.gs ?_
 refine TL.gs ?_
 refine TL.gs ?_
 refine TL.gs ?_
 refine TL.gs ?_
 refine TL.gs ?_
 refine TL.gs ?_
 refine TL.gs ?_
 refine TL.gs ?_
 refine TL.gs ?_
 refine TL.gs ?_
 refine TL.gs ?_
 refine TL.gs ?_
 refine TL.gs ?_
 refine TL.gs ?_
 refine TL.gs ?_
 refine TL.gd Pu.kt ?_
 refine TL.p Pu.kt ?_
 refine TL.nil ?_
 exact TQ.sub (by repeat (first | exact trivial | refine ⟨rfl, ?_⟩ | refine ⟨trivial, ?_⟩ | refine ⟨(by show some (Value.bool _) = some (Value.bool _); first | (simp [hg1, hg2, betC, cmp_ge]; done) | (refine congrArg (fun z => some (Value.bool z)) (Bool.eq_iff_iff.2 ?_); simp [hg1, hg2, betC, cmp_ge]; omega)), ?_⟩)) ks9 hJ1
 try simp only [zgn9] at hg2
 refine TL.gd Pu.mv ?_
 refine TL.gd Pu.mv ?_
 refine TL.gd Pu.eq ?_
 refine TL.gd Pu.mv ?_
 refine TL.guard (t := 52) rfl (fun hg3 => ?_) (fun hg3 => ?_)
 try simp only [zgn9] at hg3
 refine TL.gd Pu.mv ?_
 refine TL.gd (Pu.ln Tryz.underlying31) ?_
 refine TL.gd Pu.mv ?_
 refine TL.gd (Pu.ln Tryz.underlying31) ?_
 refine TL.gd Pu.gt ?_
 refine TL.gd Pu.mv ?_
 refine TL.guard (t := 58) rfl (fun hg4 => ?_) (fun hg4 => ?_)
 try simp only [zgn9] at hg4
 refine TL.gs ?_
 refine TL.gs ?_
 refine TL.gs ?_
 refine TL.gs ?_
 refine TL.gs ?_
 refine TL.gs ?_
 refine TL.gs ?_
 refine TL.gs ?_
 refine TL.gs ?_
 refine TL.gs ?_
 refine TL.gs ?_
 refine TL.gd Pu.kt ?_
 refine TL.gd Pu.kt ?_
 refine TL.gd Pu.kf ?_
 refine TL.p Pu.kt ?_
 refine TL.nil ?_
 exact TQ.sub (by repeat (first | exact trivial | refine ⟨rfl, ?_⟩ | refine ⟨trivial, ?_⟩ | refine ⟨(by show some (Value.bool _) = some (Value.bool _); first | (simp [hg1, hg2, hg3, hg4, betC, cmp_ge]; done) | (refine congrArg (fun z => some (Value.bool z)) (Bool.eq_iff_iff.2 ?_); simp [hg1, hg2, hg3, hg4, betC, cmp_ge]; omega)), ?_⟩)) ks9 hJ1
 try simp only [zgn9] at hg4
 refine TL.gd Pu.mv ?_
 refine TL.gd (Pu.ln Tryz.underlying31) ?_
 refine TL.gd Pu.mv ?_
 refine TL.gd (Pu.ln Tryz.underlying31) ?_
 refine TL.gd Pu.eq ?_
 refine TL.gd Pu.mv ?_
 refine TL.guard (t := 64) rfl (fun hg5 => ?_) (fun hg5 => ?_)
 try simp only [zgn9] at hg5
 refine TL.gd Pu.mv ?_
 refine TL.gd Pu.mv ?_
 refine TL.cr rfl (enters Tryz.func58 rfl rfl) (fun w hw => by
   exact compareI_any rfl rfl (by omega) (by omega) (OwnR.rdr (hw.holds (.own Al M.length cl 3 1 (iL M)) (by simp))) (OwnR.rdr (hw.holds (.own Ab X.1.length cb9 3 1 (iL X.1)) (by simp)))) ?_
 refine TL.gd Pu.ge ?_
 refine TL.gd Pu.kt ?_
 refine TL.gd Pu.kf ?_
 refine TL.gd Pu.kt ?_
 refine TL.gd Pu.kf ?_
 refine TL.p Pu.kt ?_
 refine TL.nil ?_
 exact TQ.sub (by repeat (first | exact trivial | refine ⟨rfl, ?_⟩ | refine ⟨trivial, ?_⟩ | refine ⟨(by show some (Value.bool _) = some (Value.bool _); first | (simp [hg1, hg2, hg3, hg4, hg5, betC, cmp_ge]; done) | (refine congrArg (fun z => some (Value.bool z)) (Bool.eq_iff_iff.2 ?_); simp [hg1, hg2, hg3, hg4, hg5, betC, cmp_ge]; omega)), ?_⟩)) ks9 hJ1
 try simp only [zgn9] at hg5
 refine TL.gs ?_
 refine TL.gs ?_
 refine TL.gs ?_
 refine TL.gs ?_
 refine TL.gd Pu.kf ?_
 refine TL.gd Pu.kf ?_
 refine TL.gd Pu.kt ?_
 refine TL.gd Pu.kf ?_
 refine TL.p Pu.kt ?_
 refine TL.nil ?_
 exact TQ.sub (by repeat (first | exact trivial | refine ⟨rfl, ?_⟩ | refine ⟨trivial, ?_⟩ | refine ⟨(by show some (Value.bool _) = some (Value.bool _); first | (simp [hg1, hg2, hg3, hg4, hg5, betC, cmp_ge]; done) | (refine congrArg (fun z => some (Value.bool z)) (Bool.eq_iff_iff.2 ?_); simp [hg1, hg2, hg3, hg4, hg5, betC, cmp_ge]; omega)), ?_⟩)) ks9 hJ1
 try simp only [zgn9] at hg3
 refine TL.gs ?_
 refine TL.gs ?_
 refine TL.gs ?_
 refine TL.gs ?_
 refine TL.gs ?_
 refine TL.gs ?_
 refine TL.gs ?_
 refine TL.gs ?_
 refine TL.gs ?_
 refine TL.gs ?_
 refine TL.gs ?_
 refine TL.gs ?_
 refine TL.gs ?_
 refine TL.gs ?_
 refine TL.gs ?_
 refine TL.gs ?_
 refine TL.gs ?_
 refine TL.gs ?_
 refine TL.gd Pu.kf ?_
 refine TL.gd Pu.kf ?_
 refine TL.p Pu.kt ?_
 refine TL.nil ?_
 exact TQ.sub (by repeat (first | exact trivial | refine ⟨rfl, ?_⟩ | refine ⟨trivial, ?_⟩ | refine ⟨(by show some (Value.bool _) = some (Value.bool _); first | (simp [hg1, hg2, hg3, betC, cmp_ge]; done) | (refine congrArg (fun z => some (Value.bool z)) (Bool.eq_iff_iff.2 ?_); simp [hg1, hg2, hg3, betC, cmp_ge]; omega)), ?_⟩)) ks9 hJ1
 try simp only [zgn9] at hg1
 refine TL.gs ?_
 refine TL.gs ?_
 refine TL.gs ?_
 refine TL.gs ?_
 refine TL.gs ?_
 refine TL.gs ?_
 refine TL.gs ?_
 refine TL.gs ?_
 refine TL.gs ?_
 refine TL.gs ?_
 refine TL.gs ?_
 refine TL.gs ?_
 refine TL.gs ?_
 refine TL.gs ?_
 refine TL.gs ?_
 refine TL.gs ?_
 refine TL.gs ?_
 refine TL.gs ?_
 refine TL.gs ?_
 refine TL.gs ?_
 refine TL.gs ?_
 refine TL.gs ?_
 refine TL.gs ?_
 refine TL.gs ?_
 refine TL.gs ?_
 refine TL.gs ?_
 refine TL.gs ?_
 refine TL.gs ?_
 refine TL.p Pu.kf ?_
 refine TL.nil ?_
 exact TQ.sub (by repeat (first | exact trivial | refine ⟨rfl, ?_⟩ | refine ⟨trivial, ?_⟩ | refine ⟨(by show some (Value.bool _) = some (Value.bool _); first | (simp [hg1, betC, cmp_ge]; done) | (refine congrArg (fun z => some (Value.bool z)) (Bool.eq_iff_iff.2 ?_); simp [hg1, betC, cmp_ge]; omega)), ?_⟩)) ks9 hJ1
 try simp only [zcb9] at hc0
 have hq2 : q = 2 ^ E.nf := by have := Int.ofNat_le.1 hc0; omega
 clear hc0
 refine TW.exit ?_
 refine TQ.thenX ?_
 refine TQ.thenX ?_
 refine TQ.blkX ?_
 refine TQ.thenN (hY2 _ _ ?_)
 refine TW.seq fun Y23 hY23 => TW.region ?_
 refine TL.p Pu.mv ?_
 refine TL.p Pu.mv ?_
 refine TL.p Pu.mv ?_
 refine TL.p Pu.as ?_
 refine TL.p Pu.as ?_
 refine TL.p Pu.as ?_
 refine TL.nil (TQ.thenN (hY23 _ _ ?_))
 refine TW.ret ?_
 refine TQ.ret Tryz.results28 rfl ((.tmp rfl (.tmp rfl (.tmp rfl .nil)))) ?_
 have hX := hX9.out
 rw [hq2] at hX
 exact fun w hw => ⟨(Ab, cb9), by unfold hirR hirV; rw [← hX]; rfl, by unfold hirV; rw [← hX]; exact hw.sub (KSub.cons pk9 KSub.nil)⟩
end
end Go.Proofs.YtfaenhhgkhcghaaGreatDoor
namespace Go.Proofs.YtfaenhhgkhcghaaGreatDoor
set_option linter.all false
set_option linter.unusedVariables false
set_option linter.unusedSimpArgs false
open Go.RowKit
theorem tri_up {v : Nat → Int} {n : Nat} (h : triOk v n = true) : ∀ i : Nat, i < n → (i : Int) ≤ v i ∧ v i ≤ 7
 | 0, hi => by
  have := allB_iff.1 h 0 hi
  unfold inB5 at this
  simp only [Bool.and_eq_true, decide_eq_true_eq] at this
  omega
 | i + 1, hi => by
  have h1 := tri_up h i (by omega)
  have := allB_iff.1 h (i + 1) hi
  unfold inB5 at this
  simp only [Bool.and_eq_true, Bool.or_eq_true, decide_eq_true_eq, Nat.add_sub_cancel] at this
  have h2 := this.2.resolve_left (by omega)
  omega
theorem tri_len {v : Nat → Int} {n : Nat} (h : triOk v n = true) : n ≤ 8 := by
  by_cases h0 : n = 0
  · omega
  · have h1 := tri_up h (n - 1) (by omega)
    omega
theorem trp_lens {T : Trp} (h : trpOk T = true) : T.no ≤ 8 ∧ T.nu ≤ 8 ∧ T.nv ≤ 8 := by
 unfold trpOk at h
 simp only [Bool.and_eq_true] at h
 exact ⟨tri_len h.1.1.2, tri_len h.1.2, tri_len h.2⟩
def hirW (Y : Wy) (Z : Cus) (T : Trp) (E : Fes) : List Int × Int × Bool := hirV Z T Y.n (stY Y) E
def hirC (Y : Wy) (Z : Cus) (T : Trp) (E : Fes) : Int := if rdyC Y Z T ≠ 0 then rdyC Y Z T else if fesOk E = false then 74 else if wkC Y ≠ 0 then wkC Y else if (hirW Y Z T E).2.2 = true then 0 else 75
def hirL (Y : Wy) (Z : Cus) (T : Trp) (E : Fes) : List Int := if hirC Y Z T E = 0 then (hirW Y Z T E).1 else []
def hirN (Y : Wy) (Z : Cus) (T : Trp) (E : Fes) : Int := if hirC Y Z T E = 0 then (hirW Y Z T E).2.1 else 0
def hirA (Y : Wy) (Z : Cus) (T : Trp) (E : Fes) (y : Option Addr × Nat) : Value := .tuple #[.slice y.1 (hirL Y Z T E).length y.2, .int .i64 (hirN Y Z T E), .int .i64 (hirC Y Z T E)]
def hirF (Y : Wy) (Z : Cus) (T : Trp) (E : Fes) (y : Option Addr × Nat) : List Fact := [.own y.1 (hirL Y Z T E).length y.2 3 1 (iL (hirL Y Z T E))]
section
variable {Y : Wy} {Z : Cus} {T : Trp} {E : Fes}
theorem hirC_rdy (h : rdyC Y Z T ≠ 0) : hirC Y Z T E = rdyC Y Z T := if_pos h
theorem hirC_fee (h : rdyC Y Z T = 0) (hE : fesOk E = false) : hirC Y Z T E = 74 := by unfold hirC; rw [if_neg (by omega), if_pos hE]
theorem hirC_wk (h : rdyC Y Z T = 0) (hE : fesOk E = true) (hw : wkC Y ≠ 0) : hirC Y Z T E = wkC Y := by unfold hirC; rw [if_neg (by omega), if_neg (by rw [hE]; simp), if_pos hw]
theorem hirC_no (h : rdyC Y Z T = 0) (hE : fesOk E = true) (hw : wkC Y = 0) (hf : (hirW Y Z T E).2.2 = false) : hirC Y Z T E = 75 := by unfold hirC; rw [if_neg (by omega), if_neg (by rw [hE]; simp), if_neg (by omega), if_neg (by rw [hf]; simp)]
theorem hirC_ok (h : rdyC Y Z T = 0) (hE : fesOk E = true) (hw : wkC Y = 0) (hf : (hirW Y Z T E).2.2 = true) : hirC Y Z T E = 0 := by unfold hirC; rw [if_neg (by omega), if_neg (by rw [hE]; simp), if_neg (by omega), if_pos hf]
theorem hir_bad {w w' : World} {K : List Fact} {e : Int} (hw : Sat [] w K w') (he : hirC Y Z T E = e) (h0 : e ≠ 0) : ∃ y, Ending.returned (retV [.slice none 0 0, .int .i64 0, .int .i64 e]) = .returned (hirA Y Z T E y) ∧ Sat [] w (hirF Y Z T E y) w' := by
 have h9 : hirC Y Z T E ≠ 0 := by rw [he]; exact h0
 have e1 : hirL Y Z T E = [] := if_neg h9
 have e2 : hirN Y Z T E = 0 := if_neg h9
 refine ⟨(none, 0), ?_, ?_⟩
 · unfold hirA
   rw [e1, e2, he]
   rfl
 · unfold hirF
   rw [e1]
   exact hw.sub (KSub.nilOwn KSub.nil)
theorem hir_good {w w' : World} {K : List Fact} {y0 : Option Addr × Nat} (hw : Sat [] w (.own y0.1 (hirW Y Z T E).1.length y0.2 3 1 (iL (hirW Y Z T E).1) :: K) w') (he : hirC Y Z T E = 0) : ∃ y, Ending.returned (retV [.slice y0.1 (hirW Y Z T E).1.length y0.2, .int .i64 (hirW Y Z T E).2.1, .int .i64 0]) = .returned (hirA Y Z T E y) ∧ Sat [] w (hirF Y Z T E y) w' := by
 have e1 : hirL Y Z T E = (hirW Y Z T E).1 := if_pos he
 have e2 : hirN Y Z T E = (hirW Y Z T E).2.1 := if_pos he
 refine ⟨y0, ?_, ?_⟩
 · unfold hirA
   rw [e1, e2, he]
   rfl
 · unfold hirF
   rw [e1]
   exact hw.sub (KSub.cons pk9 KSub.nil)
end
section
variable {Z : Cus} {T : Trp} {Y : Wy} {W A L C D B O U V G : Option Addr} {cw cl cn cc cd cb co cu cv cg : Nat} {E : Fes} {w : World}
set_option maxRecDepth 100000 in
set_option maxHeartbeats 1000000 in
theorem tollHire_any (hL : LandIn w W Y.nw A Y.nl Y.f Y.x Y.g) (hn : Y.n ≤ 1000) (hR : RdR w 1 L Y.n (fun k => [.int .i64 (Y.ls k)])) (h : CustIn w C Z.nc D Z.nd B Z.nb Z.c Z.d Z.b) (t : TrpIn w T O U V) (hG : OldB w 0 barsL) (hnf : E.nf ≤ 1000) (hE : RdR w 2 G E.nf (feeL E)) :
  CallsK Tryz.prog 7 #[.agg (landL W Y.nw cw A Y.nl cl).toArray, .agg (custL C Z.nc cc D Z.nd cd B Z.nb cb).toArray, .agg (troopL T.hd T.wo O T.no co U T.nu cu V T.nv cv).toArray, .slice G E.nf cg, .int .i64 Y.start, .int .i64 Y.day, .agg #[.int .i64 Y.p0, .int .i64 Y.p1], .slice L Y.n cn] [] w (Option Addr × Nat) (hirA Y Z T E) (hirF Y Z T E) := by
 have fR := fun (w' : World) (h1 : LandIn w' W Y.nw A Y.nl Y.f Y.x Y.g) (h2 : CustIn w' C Z.nc D Z.nd B Z.nb Z.c Z.d Z.b) (h3 : TrpIn w' T O U V) => cReady_any (cw := cw) (cl := cl) (cc := cc) (cd := cd) (cb := cb) (co := co) (cu := cu) (cv := cv) h1 h2 h3
 have fW := fun (w' : World) (h1 : LandIn w' W Y.nw A Y.nl Y.f Y.x Y.g) (h2 : RdR w' 1 L Y.n (fun k => [.int .i64 (Y.ls k)])) => cWalked_any (Z := Z) (T := T) (C := C) (D := D) (B := B) (O := O) (U := U) (V := V) (cw := cw) (cl := cl) (cc := cc) (cd := cd) (cb := cb) (co := co) (cu := cu) (cv := cv) (cn := cn) h1 hn h2
 unfold landL custL troopL at fR fW ⊢
 refine K_enter (S := []) (K := []) Tryz.func7 rfl Tryz.ntmps7 rfl (Sat.start _) ?_
 refine TW.seq fun Y1 hY1 => TW.region ?_
 refine TL.m Mk.bx ?_
 intro b1
 refine TL.m Mk.bx ?_
 intro b2
 refine TL.m Mk.bx ?_
 intro b3
 refine TL.m Mk.bx ?_
 intro b4
 refine TL.p Pu.as ?_
 refine TL.p Pu.as ?_
 refine TL.p Pu.as ?_
 refine TL.nil (TQ.thenN (hY1 _ _ ?_))
 refine TW.seq fun Y2 hY2 => ?_
 refine TW.seq fun Y3 hY3 => TW.region ?_
 refine TL.p (Pu.lds ty_ag25) ?_
 refine TL.p (Pu.lds ty_ag30) ?_
 refine TL.p (Pu.lds ty_ag33) ?_
 refine TL.cr rfl (enters Tryz.func25 rfl rfl) (fun w hw => by
   exact fR _ (hL.ext (Chg.ext hw.chg)) (h.ext (Chg.ext hw.chg)) (t.ext (Chg.ext hw.chg))) ?_
 refine TL.p Pu.as ?_
 refine TL.nil (TQ.thenN (hY3 _ _ ?_))
 refine TW.seq fun Y4 hY4 => TW.region ?_
 refine TL.p Pu.mv ?_
 refine TL.p Pu.ne ?_
 refine TL.nil (TQ.thenN (hY4 _ _ ?_))
 refine TW.cond rfl (fun hc0 => ?_) (fun hc0 => ?_)
 try simp only [zcb9] at hc0
 have hne : rdyC Y Z T ≠ 0 := hc0
 refine TW.seq fun Y5 hY5 => TW.region ?_
 refine TL.p Pu.mv ?_
 refine TL.p Pu.as ?_
 refine TL.p Pu.as ?_
 refine TL.p Pu.as ?_
 refine TL.nil (TQ.thenN (hY5 _ _ ?_))
 refine TW.ret ?_
 refine TQ.thenR ?_
 refine TQ.ret Tryz.results7 rfl ((.tmp rfl (.tmp rfl (.tmp rfl .nil)))) ?_
 exact fun w hw => hir_bad hw (hirC_rdy hne) hne
 try simp only [zcb9] at hc0
 have hz : rdyC Y Z T = 0 := by simpa using hc0
 obtain ⟨hz1, hz2⟩ := rdy_split hz
 have hok := chk_ok hz1
 refine TW.skip ?_
 refine TQ.thenN (hY2 _ _ ?_)
 refine TW.seq fun Y6 hY6 => ?_
 refine TW.seq fun Y7 hY7 => TW.region ?_
 refine TL.p Pu.mv ?_
 refine TL.cr rfl (enters Tryz.func26 rfl rfl) (fun w hw => by
   exact cPriced_any (by omega) (hE.sat hw Apart.nil)) ?_
 refine TL.p Pu.no ?_
 refine TL.nil (TQ.thenN (hY7 _ _ ?_))
 refine TW.cond rfl (fun hc1 => ?_) (fun hc1 => ?_)
 try simp only [zcb9] at hc1
 have h2 : fesOk E = false := by simpa using hc1
 refine TW.seq fun Y8 hY8 => TW.region ?_
 refine TL.p Pu.as ?_
 refine TL.p Pu.as ?_
 refine TL.p Pu.as ?_
 refine TL.nil (TQ.thenN (hY8 _ _ ?_))
 refine TW.ret ?_
 refine TQ.thenR ?_
 refine TQ.ret Tryz.results7 rfl ((.tmp rfl (.tmp rfl (.tmp rfl .nil)))) ?_
 exact fun w hw => hir_bad hw (hirC_fee hz h2) (by decide)
 try simp only [zcb9] at hc1
 have h2 : fesOk E = true := by simpa using hc1
 refine TW.skip ?_
 refine TQ.thenN (hY6 _ _ ?_)
 refine TW.seq fun Y9 hY9 => TW.region ?_
 refine TL.p (Pu.lds ty_ag25) ?_
 refine TL.p (Pu.lds ty_ag30) ?_
 refine TL.p (Pu.lds ty_ag33) ?_
 refine TL.p Pu.mv ?_
 refine TL.p Pu.mv ?_
 refine TL.p (Pu.lds ty_ag36) ?_
 refine TL.p Pu.mv ?_
 refine TL.call (M := []) rfl (enters Tryz.func27 rfl rfl) (List.Perm.refl _) rfl (fun w hw => by
   exact fW _ (hL.ext (Chg.ext hw.chg)) (hR.sat hw Apart.nil)) ?_
 rintro ⟨⟨As, cs⟩, bt⟩
 refine TL.p Pu.mv ?_
 refine TL.p Pu.ex ?_
 refine TL.p Pu.ex ?_
 refine TL.p Pu.as ?_
 refine TL.p Pu.as ?_
 refine TL.nil (TQ.thenN (hY9 _ _ ?_))
 refine TW.seq fun Y10 hY10 => ?_
 refine TW.seq fun Y11 hY11 => TW.region ?_
 refine TL.p Pu.mv ?_
 refine TL.p Pu.ne ?_
 refine TL.nil (TQ.thenN (hY11 _ _ ?_))
 refine TW.cond rfl (fun hc2 => ?_) (fun hc2 => ?_)
 try simp only [zcb9] at hc2
 have hne : wkC Y ≠ 0 := hc2
 refine TW.seq fun Y12 hY12 => TW.region ?_
 refine TL.p Pu.mv ?_
 refine TL.p Pu.as ?_
 refine TL.p Pu.as ?_
 refine TL.p Pu.as ?_
 refine TL.nil (TQ.thenN (hY12 _ _ ?_))
 refine TW.ret ?_
 refine TQ.thenR ?_
 refine TQ.ret Tryz.results7 rfl ((.tmp rfl (.tmp rfl (.tmp rfl .nil)))) ?_
 exact fun w hw => hir_bad hw (hirC_wk hz h2 hne) hne
 try simp only [zcb9] at hc2
 have hwz : wkC Y = 0 := by simpa using hc2
 have hwn := wkN_n hwz
 have hwb := stY_bd hwz
 have hWe : hirV Z T (wkN Y) (stY Y) E = hirW Y Z T E := by unfold hirW; rw [hwn]
 refine TW.skip ?_
 refine TQ.thenN (hY10 _ _ ?_)
 refine TW.seq fun Y13 hY13 => TW.region ?_
 refine TL.p Pu.mv ?_
 refine TL.p Pu.mv ?_
 refine TL.call (M := []) rfl (enters Tryz.func28 rfl rfl) (List.Perm.refl _) rfl (fun w hw => by
   have q1 := OldB.of_blk (hw.holds (.blk bt 129 (trkL T O co U cu V cv Z C cc D cd B cb As (wkN Y) cs)) (by simp))
   have q2 := OwnR.rdr (hw.holds (.own As (wkN Y) cs 160 6 (fun k => stopL (stY Y k))) (by simp))
   exact cHire_any hok h2 (h.ext (Chg.ext hw.chg)) (t.ext (Chg.ext hw.chg)) ⟨by rw [hwn]; exact hn, q2, fun k hk => hwb k (by rw [← hwn]; exact hk)⟩ q1 (hG.ext (Chg.ext hw.chg)) (by have := trp_lens hz2; omega) (hE.sat hw Apart.nil)) ?_
 rintro ⟨Ag, cg9⟩
 simp only [hWe, hirR]
 refine TL.p Pu.mv ?_
 refine TL.p Pu.ex ?_
 refine TL.p Pu.ex ?_
 refine TL.p Pu.ex ?_
 refine TL.p Pu.as ?_
 refine TL.p Pu.as ?_
 refine TL.p Pu.as ?_
 refine TL.nil (TQ.thenN (hY13 _ _ ?_))
 refine TW.seq fun Y14 hY14 => ?_
 refine TW.seq fun Y15 hY15 => TW.region ?_
 refine TL.p Pu.mv ?_
 refine TL.p Pu.no ?_
 refine TL.nil (TQ.thenN (hY15 _ _ ?_))
 refine TW.cond rfl (fun hc3 => ?_) (fun hc3 => ?_)
 try simp only [zcb9] at hc3
 have hf : (hirW Y Z T E).2.2 = false := by simpa using hc3
 refine TW.seq fun Y16 hY16 => TW.region ?_
 refine TL.p Pu.as ?_
 refine TL.p Pu.as ?_
 refine TL.p Pu.as ?_
 refine TL.nil (TQ.thenN (hY16 _ _ ?_))
 refine TW.ret ?_
 refine TQ.thenR ?_
 refine TQ.ret Tryz.results7 rfl ((.tmp rfl (.tmp rfl (.tmp rfl .nil)))) ?_
 exact fun w hw => hir_bad hw (hirC_no hz h2 hwz hf) (by decide)
 try simp only [zcb9] at hc3
 have hf : (hirW Y Z T E).2.2 = true := by simpa using hc3
 refine TW.skip ?_
 refine TQ.thenN (hY14 _ _ ?_)
 refine TW.seq fun Y17 hY17 => TW.region ?_
 refine TL.p Pu.mv ?_
 refine TL.p Pu.mv ?_
 refine TL.p Pu.as ?_
 refine TL.p Pu.as ?_
 refine TL.p Pu.as ?_
 refine TL.nil (TQ.thenN (hY17 _ _ ?_))
 refine TW.ret ?_
 refine TQ.ret Tryz.results7 rfl ((.tmp rfl (.tmp rfl (.tmp rfl .nil)))) ?_
 exact fun w hw => by
  have q9 := hir_good (Y := Y) (Z := Z) (T := T) (E := E) (y0 := (Ag, cg9)) (K := []) (hw.sub (KSub.cons pk9 KSub.nil)) (hirC_ok hz h2 hwz hf)
  exact q9
end
end Go.Proofs.YtfaenhhgkhcghaaGreatDoor
namespace Go.Proofs.YtfaenhhgkhcghaaGreatDoor
set_option linter.all false
set_option linter.unusedVariables false
set_option linter.unusedSimpArgs false
open Go.RowKit
abbrev lgA (x : Leg) (a : Option Addr) (d : Nat) : Leg := ⟨x.u, a, x.n, d⟩
end Go.Proofs.YtfaenhhgkhcghaaGreatDoor
namespace Go.Proofs.YtfaenhhgkhcghaaGreatDoor
set_option linter.all false
set_option linter.unusedVariables false
set_option linter.unusedSimpArgs false
open Go.RowKit
section
variable {c : Cx} {Q : Exit → Act → World → Prop} {F F' : Fr} {K K' K0 : List Fact} {ops : Array Oper} {listed : Array Bool} {fuel s : Nat}
end
section
variable {c : Cx} {Q : Exit → Act → World → Prop} {F F' : Fr} {K K' K0 : List Fact} {ops : Array Oper} {listed l2 : Array Bool} {fuel f2 : Nat}
def lstA (n : Nat) (L : List Nat) : Array Bool := L.foldl (fun l i => l.setIfInBounds i true) (Array.replicate n false)
theorem RG.later {X : Type} (n : Nat) (L : List Nat) (f2 : Nat) (Fj : X → Fr) (Kj : X → List Fact) (h1 : ∀ x, RG c ops Q K0 [] (lstA n L) f2 (Fj x) (Kj x)) (h2 : (∀ x, RG c ops Q K0 [] (lstA n L) f2 (Fj x) (Kj x)) → RG c ops Q K0 [] listed fuel F K) : RG c ops Q K0 [] listed fuel F K := h2 h1
theorem RG.meet (h : RG c ops Q K0 [] l2 f2 F' K') (hF : fsub F F') (hK : KSub K K') (e : listed = l2 := by kernel_rfl) (ef : fuel = f2 := by rfl) : RG c ops Q K0 [] listed fuel F K := by
 subst e ef
 exact fun hp a w hf hk => h hp a w (hf.sub (fsub_spec hF)) (hk.sub hK)
end
section
variable {c : Cx} {Q : Exit → Act → World → Prop} {F : Fr} {K K0 : List Fact} {ops : Array Oper} {listed : Array Bool} {fuel : Nat}
end
section
variable {c : Cx} {Q : Exit → Act → World → Prop} {F F' : Fr} {K K' K0 : List Fact} {ops : Array Oper} {nf : Nat} {fl : List Fl} {bs : List Bool} {pend : List (Nat × Oper)} {ty : TypeId} {pos : String} {af : Array Edge}
end
end Go.Proofs.YtfaenhhgkhcghaaGreatDoor
