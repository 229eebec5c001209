/-
  Part 9 of the proof of brandNames_holds: declarations of several texts, in build order. No condition on a program.
-/
import Derived.Test.YtceokmaddbdnfaaGreatNa08
import Derived.Test.YtceokmaddbdnfaaGreatNa05
import Derived.Test.YtceokmaddbdnfaaGreatNa03
import Derived.Test.YtceokmaddbdnfaaGreatNa07
namespace Go.Proofs.YtceokmaddbdnfaaGreat
set_option linter.all false
set_option linter.unusedVariables false
set_option linter.unusedSimpArgs false
open Go.RowKit
theorem lks_ok {nl nc : Nat} {L : Nat → Lk} {dm yg : Nat → Int} (h : lksC nl L nc dm yg = 0) : nl ≤ 4 ∧ (∀ k, k < nl → lkB (L k) = true) ∧ cvB nl nc dm yg = true := by
 unfold lksC at h
 by_cases h1 : (nl : Int) ≤ 4 ∧ (nc : Int) ≤ 6
 · rw [if_neg (fun h => h h1)] at h
   cases h2 : ((allB nl fun k => lkB (L k)) && cvB nl nc dm yg) with
   | true =>
    rw [Bool.and_eq_true] at h2
    exact ⟨by omega, fun k hk => allB_iff.1 h2.1 k hk, h2.2⟩
   | false => rw [h2] at h; cases h
 · rw [if_pos h1] at h; cases h
theorem TL.ownSnoc {c : Cx} {Q : Exit → Act → World → Prop} {F : Fr} {K K1 K2 : List Fact} {ops : Array Oper} {rest : List Oper} {E : TypeId} {sz : Nat} {A A2 : Nat → Option Addr} {l l2 cc c2 : Nat → Nat} {r r2 : Nat → Nat → List Value} {n l9 c9 : Nat} {A9 : Option Addr} {r9 : Nat → List Value}
  (hp : Pick K (.own A9 l9 c9 E sz r9) K1) (hp2 : Pick K1 (tied (ownsE E sz A l cc r n)) K2) (hA : A2 n = A9) (hl : l2 n = l9) (hc : c2 n = c9) (hr : ∀ k, k < l9 → r9 k = r2 n k) (ho : ∀ i, i < n → A i = A2 i ∧ l i = l2 i ∧ cc i = c2 i ∧ r i = r2 i)
  (h : TL c ops Q rest F (tied (ownsE E sz A2 l2 c2 r2 (n + 1)) :: K2)) : TL c ops Q rest F K := fun a w hF hK => by
 subst hA hl hc
 have h1 := (hK.pick hp).sub (KSub.own Pick.hd hr (KSub.refl _))
 have h2 := h1.perm ((hp2.perm).cons _)
 have h3 := h2.perm (List.Perm.swap _ _ _)
 have h4 := h3.unbun
 rw [ownsE_congr2 ho] at h4
 have h5 : Sat c.S c.w0 ((.own (A2 n) (l2 n) (c2 n) E sz (r2 n) :: ownsE E sz A2 l2 c2 r2 n) ++ K2) w := h4.perm List.perm_middle
 exact h a w hF h5.bun
set_option maxRecDepth 100000 in
set_option maxHeartbeats 16000000 in
theorem rNames_any {w : World} {A B C : Option Addr} {cp cb cc nl nc : Nat} {H : Hd} {a : Nat → Option Addr} {c : Nat → Nat} {L : Nat → Lk} {la : Nat → Option Addr} {lc : Nat → Nat} {dm yg : Nat → Int} (hI : HIn w A H a c) (hL : LksIn w nl L B la lc) (hC : CvsIn w nc dm yg C) :
  CallsK Tryz.prog 19 #[.slice A H.n cp, .slice B nl cb, .slice C nc cc] [] w NX9 (nmV H nl L nc dm yg) (nmF H nl L nc dm yg) := by
 have hnl := hL.hn
 have hnc := hC.hn
 by_cases hc : livC H = 0
 case neg =>
  have hf : nmC H nl L nc dm yg = livC H := if_pos hc
  refine K_enter (S := []) (K := []) Tryz.func19 rfl Tryz.ntmps19 rfl (Sat.start _) ?_
  refine TW.seq fun Y1 hY1 => TW.region ?_
  refine TL.p Pu.as ?_
  refine TL.p Pu.as ?_
  refine TL.nil (TQ.thenN (hY1 _ _ ?_))
  refine TW.seq fun Y2 hY2 => ?_
  refine TW.seq fun Y3 hY3 => TW.region ?_
  refine TL.p Pu.mv ?_
  refine TL.call (M := []) rfl (enters Tryz.func54 rfl rfl) (List.Perm.refl _) rfl (fun w hw => by
    have h9 := rBirths_any (cp := cp) (hI.ext (Chg.ext hw.chg))
    simp only [if_neg hc] at h9
    exact h9) ?_
  rintro ⟨Ab3, cb3⟩
  refine TL.p Pu.mv ?_
  refine TL.p Pu.ex ?_
  refine TL.p Pu.ex ?_
  refine TL.p Pu.as ?_
  refine TL.p Pu.as ?_
  refine TL.nil (TQ.thenN (hY3 _ _ ?_))
  refine TW.seq fun Y4 hY4 => TW.region ?_
  refine TL.p Pu.mv ?_
  refine TL.p Pu.ne ?_
  refine TL.nil (TQ.thenN (hY4 _ _ ?_))
  refine TW.condT rfl ((by simpa using hc)) ?_
  refine TW.seq fun Y5 hY5 => TW.region ?_
  refine TL.p Pu.mv ?_
  refine TL.p Pu.as ?_
  refine TL.p Pu.as ?_
  refine TL.nil (TQ.thenN (hY5 _ _ ?_))
  refine TW.ret ?_
  refine TQ.thenR ?_
  refine TQ.ret Tryz.results19 rfl ((.tmp rfl (.tmp rfl .nil))) ?_
  exact fun w hw => nm_bad hw hf hc
 case pos =>
  have hh : herdB H = true := by
   cases hh : herdB H with
   | true => rfl
   | false => unfold livC at hc; rw [hh] at hc; cases hc
  have hk := herdB_ok.1 hh
  have h16 := hk.n16
  have hf9 : nmC H nl L nc dm yg = if lksC nl L nc dm yg ≠ 0 then lksC nl L nc dm yg else if (nmR H nl L nc dm yg).length = 0 then 23 else 0 := if_neg (fun h => h hc)
  have hRL := hL.hR
  have hRA := hI.hR
  have fB := fun (w' : World) (i k : Nat) (hi : i < H.n) (hkn : k < nl) (h8 : lkB (L k) = true) (h0 : HIn w' A H a c) (h1 : LksIn w' nl L B la lc) => rMarked_any (c := c) (cl := lc k) hk hi (h0.hl i hi) (h0.hM i hi) (h1.hL k hkn) (lk_8 h8)
  unfold lkL at hRL fB
  unfold anL at hRA fB
  refine K_enter (S := []) (K := []) Tryz.func19 rfl Tryz.ntmps19 rfl (Sat.start _) ?_
  refine TW.seq fun Y1 hY1 => TW.region ?_
  refine TL.p Pu.as ?_
  refine TL.p Pu.as ?_
  refine TL.nil (TQ.thenN (hY1 _ _ ?_))
  refine TW.seq fun Y2 hY2 => ?_
  refine TW.seq fun Y3 hY3 => TW.region ?_
  refine TL.p Pu.mv ?_
  refine TL.call (M := []) rfl (enters Tryz.func54 rfl rfl) (List.Perm.refl _) rfl (fun w hw => by
    have h9 := rBirths_any (cp := cp) (hI.ext (Chg.ext hw.chg))
    simp only [hc, if_true] at h9
    exact h9) ?_
  rintro ⟨Ab3, cb3⟩
  refine TL.p Pu.mv ?_
  refine TL.p Pu.ex ?_
  refine TL.p Pu.ex ?_
  refine TL.p Pu.as ?_
  refine TL.p Pu.as ?_
  refine TL.nil (TQ.thenN (hY3 _ _ ?_))
  refine TW.seq fun Y4 hY4 => TW.region ?_
  refine TL.p Pu.mv ?_
  refine TL.p Pu.ne ?_
  refine TL.nil (TQ.thenN (hY4 _ _ ?_))
  refine TW.condF rfl (rfl) ?_
  refine TW.skip ?_
  refine TQ.thenN (hY2 _ _ ?_)
  refine TW.seq fun Y5 hY5 => ?_
  refine TW.seq fun Y6 hY6 => TW.region ?_
  refine TL.p Pu.mv ?_
  refine TL.p Pu.mv ?_
  refine TL.cr rfl (enters Tryz.func34 rfl rfl) (fun w hw => by
    exact rLooks_any (hL.ext (Chg.ext hw.chg)) (hC.ext (Chg.ext hw.chg))) ?_
  refine TL.p Pu.as ?_
  refine TL.nil (TQ.thenN (hY6 _ _ ?_))
  refine TW.seq fun Y7 hY7 => TW.region ?_
  refine TL.p Pu.mv ?_
  refine TL.p Pu.ne ?_
  refine TL.nil (TQ.thenN (hY7 _ _ ?_))
  refine TW.cond rfl (fun hc1 => ?_) (fun hc1 => ?_)
  try simp only [zcb9] at hc1
  have hlc : lksC nl L nc dm yg ≠ 0 := by simpa using hc1
  have hf : nmC H nl L nc dm yg = lksC nl L nc dm yg := by rw [hf9, if_pos hlc]
  refine TW.seq fun Y8 hY8 => TW.region ?_
  refine TL.p Pu.mv ?_
  refine TL.p Pu.as ?_
  refine TL.p Pu.as ?_
  refine TL.nil (TQ.thenN (hY8 _ _ ?_))
  refine TW.ret ?_
  refine TQ.thenR ?_
  refine TQ.ret Tryz.results19 rfl ((.tmp rfl (.tmp rfl .nil))) ?_
  exact fun w hw => nm_bad hw hf hlc
  try simp only [zcb9] at hc1
  have hlc : lksC nl L nc dm yg = 0 := by simpa using hc1
  have hf8 : nmC H nl L nc dm yg = if (nmR H nl L nc dm yg).length = 0 then 23 else 0 := by rw [hf9, hlc]; rfl
  obtain ⟨h4, hlk, hcv⟩ := lks_ok hlc
  have htl : ∀ i, i ≤ nl → totN H L i ≤ 65536 := fun i hi => by
   have h1 := tot_le (L := L) h16 i
   have h2 : 16 ^ i ≤ 16 ^ 4 := Nat.pow_le_pow_right (by decide) (by omega)
   have e : (16 : Nat) ^ 4 = 65536 := by decide
   omega
  refine TW.skip ?_
  refine TQ.thenN (hY5 _ _ ?_)
  refine TW.seq fun Y9 hY9 => TW.region ?_
  refine TL.p Pu.mv ?_
  refine TL.p (Pu.ln Tryz.underlying28) ?_
  refine TL.p Pu.as ?_
  refine TL.nil (TQ.thenN (hY9 _ _ ?_))
  refine TW.seq fun Y10 hY10 => TW.region ?_
  refine TL.p Pu.mv ?_
  refine TL.ms ty_et39 ty_zr33 ?_
  intro b1
  refine TL.p Pu.as ?_
  refine TL.nil (TQ.thenN (hY10 _ _ ?_))
  refine TW.seq fun Y11 hY11 => TW.region ?_
  refine TL.p Pu.as ?_
  refine TL.nil (TQ.thenN (hY11 _ _ ?_))
  refine TW.seq fun Y12 hY12 => ?_
  refine TW.tiedN (E := 3) (sz := 1) (r := fun k => nL []) nl ?_
  refine TW.seq fun Y13 hY13 => TW.region ?_
  refine TL.p Pu.as ?_
  refine TL.nil (TQ.thenN (hY13 _ _ ?_))
  refine TW.block ?_
  refine TW.loop4 (fun (i : Nat) (ia : Nat → Option Addr) (ic : Nat → Nat) (M : Nat → List Nat) => [(14, .int .i64 (i : Int)), (13, .int .i64 (totN H L i : Int)), (12, .slice (some ⟨b1, 0, none⟩) nl nl), (11, .int .i64 (nl : Int)), (0, .slice A H.n cp), (1, .slice B nl cb), (2, .slice C nc cc)]) (fun i ia ic M => [.own (some ⟨b1, 0, none⟩) nl nl 33 1 (fun q => [.slice (ia q) (M q).length (ic q)]), tied (ownsE 3 1 ia (fun q => (M q).length) ic (fun q => nL (M q)) nl)]) (fun i ia ic M => i ≤ nl ∧ ∀ q, q < nl → M q = if q < i then mayL H L q else []) (fun i ia ic M => nl - i) 0 (fun _ => none) (fun _ => 0) (fun _ => []) fs9 ?_ ?_ ?_
  exact KSub.own pk9 (fun _ _ => rfl) (KSub.cons pk9 KSub.nil)
  exact ⟨Nat.zero_le _, fun q _ => rfl⟩
  rintro i ia ic M ⟨hin, hM⟩ Z0 hZ0
  replace hM := hid1 hM
  have hti := htl i hin
  refine TW.seq fun Y14 hY14 => ?_
  refine TW.seq fun Y15 hY15 => TW.region ?_
  refine TL.p Pu.mv ?_
  refine TL.p Pu.mv ?_
  refine TL.p Pu.lt ?_
  refine TL.nil (TQ.thenN (hY15 _ _ ?_))
  refine TW.cond rfl (fun hc2 => ?_) (fun hc2 => ?_)
  try simp only [zcb9] at hc2
  have hil : i < nl := by omega
  have hti1 := htl (i + 1) (by omega)
  refine TW.skip ?_
  refine TQ.thenN (hY14 _ _ ?_)
  refine TW.seq fun Y16 hY16 => ?_
  refine TW.block ?_
  refine TW.seq fun Y17 hY17 => ?_
  refine TW.seq fun Y18 hY18 => TW.region ?_
  refine TL.p Pu.as ?_
  refine TL.nil (TQ.thenN (hY18 _ _ ?_))
  refine TW.block ?_
  refine TW.loop4 (fun (k : Nat) (ia : Nat → Option Addr) (ic : Nat → Nat) (M : Nat → List Nat) => [(15, .int .i64 (k : Int)), (14, .int .i64 (i : Int)), (13, .int .i64 (totN H L i : Int)), (12, .slice (some ⟨b1, 0, none⟩) nl nl), (11, .int .i64 (nl : Int)), (0, .slice A H.n cp), (1, .slice B nl cb), (2, .slice C nc cc)]) (fun k ia ic M => [.own (some ⟨b1, 0, none⟩) nl nl 33 1 (fun q => [.slice (ia q) (M q).length (ic q)]), tied (ownsE 3 1 ia (fun q => (M q).length) ic (fun q => nL (M q)) nl)]) (fun k ia ic M => k ≤ H.n ∧ ∀ q, q < nl → M q = if q < i then mayL H L q else if q = i then mayK H L i k else []) (fun k ia ic M => H.n - k) 0 ia ic M fs9 ?_ ?_ ?_
  exact ks9
  exact ⟨Nat.zero_le _, fun q hq => by rw [hM.out q hq]; split <;> (try split) <;> rfl⟩
  rintro k ia ic M ⟨hkn, hM2⟩ Z1 hZ1
  have hMi : M i = mayK H L i k := by have := hM2 i hil; rwa [if_neg (by omega), if_pos rfl] at this
  have hMl : (M i).length ≤ 16 := by rw [hMi]; exact Nat.le_trans mayK_len (by omega)
  replace hM2 := hid1 hM2
  refine TW.seq fun Y19 hY19 => ?_
  refine TW.seq fun Y20 hY20 => TW.region ?_
  refine TL.p Pu.mv ?_
  refine TL.p Pu.mv ?_
  refine TL.p (Pu.ln Tryz.underlying22) ?_
  refine TL.p Pu.lt ?_
  refine TL.nil (TQ.thenN (hY20 _ _ ?_))
  refine TW.cond rfl (fun hc3 => ?_) (fun hc3 => ?_)
  try simp only [zcb9] at hc3
  have hki : k < H.n := by omega
  refine TW.skip ?_
  refine TQ.thenN (hY19 _ _ ?_)
  refine TW.seq fun Y21 hY21 => ?_
  refine TW.block ?_
  refine TW.seq fun Y22 hY22 => ?_
  refine TW.dw 9 ?_
  refine RK.tk Pu.mv ?_
  refine RK.tk Pu.mv ?_
  refine RK.tk (Pu.el ty_et22) ?_
  refine RK.tk (Pu.lds ty_ag65) ?_
  refine RK.tk Pu.mv ?_
  refine RK.tk Pu.mv ?_
  refine RK.tk (Pu.el ty_et28) ?_
  refine RK.tk (Pu.lds ty_ag27) ?_
  refine RK.keep ?_
  refine RK.ch [false] ?_ trivial
  refine WK.cr rfl (enters Tryz.func57 rfl rfl) (fun w hw => by
    exact fB _ k i hki hil (hlk i hil) (hI.ext (Chg.ext hw.chg)) (hL.ext (Chg.ext hw.chg))) ?_
  refine WK.n ?_
  refine TL.nil (TQ.thenN (hY22 _ _ ?_))
  refine TW.cond rfl (fun hc4 => ?_) (fun hc4 => ?_)
  try simp only [zcb9] at hc4
  have hst : mayK H L i (k + 1) = M i ++ [k] := by rw [mayK_succ, if_pos hc4, hMi]
  obtain ⟨M9, hM9⟩ : ∃ M9, M9 = updA M i (M i ++ [k]) := ⟨_, rfl⟩
  refine TW.region ?_
  refine TL.p Pu.mv ?_
  refine TL.p Pu.mv ?_
  refine TL.p Pu.mv ?_
  refine TL.p Pu.mv ?_
  refine TL.p (Pu.el ty_et39) ?_
  refine TL.p (Pu.ld ty_sc33) ?_
  refine TL.p Pu.mv ?_
  refine TL.m Mk.bl ?_
  intro b2
  refine TL.ownTake i hil pk9 ?_
  first | refine TL.a0 ty_et33 ?_ | refine TL.ap ty_et33 ?_
  intro A3 c3
  refine TL.p (Pu.el ty_et39) ?_
  refine TL.ownPut (A2 := updA ia i A3) (l2 := fun q => (updA M i (M i ++ [k]) q).length) (c2 := updA ic i c3) (r2 := fun q => nL (updA M i (M i ++ [k]) q)) pk9 pk9 hil (if_pos rfl) (by show (updA M i (M i ++ [k]) i).length = _; rw [show updA M i (M i ++ [k]) i = M i ++ [k] from if_pos rfl, List.length_append]; rfl) (if_pos rfl) (fun q hq => (nL_app (k := k) rfl rfl rfl q hq).trans (by rw [show updA M i (M i ++ [k]) i = M i ++ [k] from if_pos rfl])) (fun q hq hne => ⟨(if_neg hne).symm, by rw [show updA M i (M i ++ [k]) q = M q from if_neg hne], (if_neg hne).symm, by rw [show updA M i (M i ++ [k]) q = M q from if_neg hne]⟩) ?_
  refine TL.se ty_sz33 ?_
  refine TL.subK (KSub.own (s := fun q => [.slice (updA ia i A3 q) (updA M i (M i ++ [k]) q).length (updA ic i c3 q)]) pk9 (fun q _ => by unfold updR updA; by_cases h9 : q = i <;> simp [h9]) (KSub.refl _)) ?_
  refine TL.nil ?_
  refine TQ.blkN ?_
  refine TQ.thenN (hY21 _ _ ?_)
  refine TW.region ?_
  refine TL.p Pu.mv ?_
  refine TL.p Pu.ad ?_
  refine TL.p Pu.as ?_
  refine TL.nil ?_
  refine TQ.thenN (hZ1 (k + 1) (by first | exact updA ia i A3 | exact ia) (by first | exact updA ic i c3 | exact ic) M9 _ _ ?_ ?_ fs9 ?_)
  subst hM9
  refine ⟨by omega, fun q hq => ?_⟩
  have q1 := hM2.out q hq
  by_cases e : q = i
  subst e
  rw [if_neg (by omega), if_pos rfl, hst]
  try exact if_pos rfl
  rw [if_neg e] at q1 ⊢
  first | exact (if_neg e).trans q1 | exact q1
  exact zom9
  subst hM9
  exact KSub.cons pk9 (KSub.cons pk9 KSub.nil)
  try simp only [zcb9] at hc4
  have hst : mayK H L i (k + 1) = M i := by rw [mayK_succ, if_neg (by rw [show maB H (L i) k = false by simpa using hc4]; decide), hMi]
  obtain ⟨M9, hM9⟩ : ∃ M9, M9 = M := ⟨_, rfl⟩
  refine TW.skip ?_
  refine TQ.blkN ?_
  refine TQ.thenN (hY21 _ _ ?_)
  refine TW.region ?_
  refine TL.p Pu.mv ?_
  refine TL.p Pu.ad ?_
  refine TL.p Pu.as ?_
  refine TL.nil ?_
  refine TQ.thenN (hZ1 (k + 1) (by first | exact updA ia i A3 | exact ia) (by first | exact updA ic i c3 | exact ic) M9 _ _ ?_ ?_ fs9 ?_)
  subst hM9
  refine ⟨by omega, fun q hq => ?_⟩
  have q1 := hM2.out q hq
  by_cases e : q = i
  subst e
  rw [if_neg (by omega), if_pos rfl, hst]
  try exact if_pos rfl
  rw [if_neg e] at q1 ⊢
  first | exact (if_neg e).trans q1 | exact q1
  exact zom9
  subst hM9
  exact KSub.cons pk9 (KSub.cons pk9 KSub.nil)
  try simp only [zcb9] at hc3
  obtain rfl : k = H.n := by omega
  have hMi2 : M i = mayL H L i := hMi
  have htot : (totN H L i : Int) * ((M i).length : Int) = (totN H L (i + 1) : Int) := by rw [hMi2, ← Int.natCast_mul]; rfl
  refine TW.exit ?_
  refine TQ.thenX ?_
  refine TQ.thenX ?_
  refine TQ.blkX ?_
  refine TQ.thenN (hY17 _ _ ?_)
  refine TW.region ?_
  refine TL.p Pu.mv ?_
  refine TL.p Pu.mv ?_
  refine TL.p Pu.mv ?_
  refine TL.p (Pu.el ty_et39) ?_
  refine TL.p (Pu.ld ty_sc33) ?_
  refine TL.p (Pu.ln Tryz.underlying33) ?_
  refine TL.p (Pu.iv (Pu.ml (h := by rw [htot]; omega)) htot) ?_
  refine TL.p Pu.as ?_
  refine TL.nil ?_
  refine TQ.blkN ?_
  refine TQ.thenN (hY16 _ _ ?_)
  refine TW.region ?_
  refine TL.p Pu.mv ?_
  refine TL.p Pu.ad ?_
  refine TL.p Pu.as ?_
  refine TL.nil ?_
  refine TQ.thenN (hZ0 (i + 1) ia ic M _ _ ?_ ?_ fs9 ?_)
  refine ⟨by omega, fun q hq => ?_⟩
  have q1 := hM2.out q hq
  by_cases e : q = i
  subst e; rw [if_pos (by omega)]; exact hMi2
  rw [if_neg e] at q1
  rw [q1]
  by_cases h9 : q < i
  rw [if_pos h9, if_pos (by omega)]
  rw [if_neg h9, if_neg (by omega)]
  exact zom9
  exact ks9
  try simp only [zcb9] at hc2
  obtain rfl : i = nl := by omega
  have hMf : ∀ q, q < i → M q = mayL H L q := fun q hq => by have := hM.out q hq; rwa [if_pos hq] at this
  refine TW.exit ?_
  refine TQ.thenX ?_
  refine TQ.thenX ?_
  refine TQ.blkX ?_
  refine TQ.thenN (hY12 _ _ ?_)
  refine TW.rebase fun w1 hw1 => ?_
  have hMay : RdR w1 1 (some ⟨b1, 0, none⟩) i (fun q => [.slice (ia q) (mayL H L q).length (ic q)]) := RdR.cong9 (OwnR.rdr (hw1.holds (.own (some ⟨b1, 0, none⟩) i i 33 1 (fun q => [.slice (ia q) (M q).length (ic q)])) (Pick.mem pk9))) fun q hq => by rw [hMf q hq]
  have hMl : ∀ q, q < i → RdR w1 1 (ia q) (mayL H L q).length (nL (mayL H L q)) := fun q hq => by
   have := OwnR.rdr (bun_get hw1 (K1 := ownsE 3 1 ia (fun q => (M q).length) ic (fun q => nL (M q)) i) (Pick.mem pk9) (ownsE_mem hq))
   rwa [hMf q hq] at this
  have hI1 := hI.ext (Chg.ext hw1.chg)
  have hL1 := hL.ext (Chg.ext hw1.chg)
  have hC1 := hC.ext (Chg.ext hw1.chg)
  have hRA1 := hI1.hR
  unfold anL at hRA1
  obtain ⟨nl, rfl⟩ : ∃ nl, nl = i := ⟨i, rfl⟩
  refine TW.seq fun Y23 hY23 => TW.region ?_
  refine TL.p Pu.mv ?_
  refine TL.ms ty_et123 ty_zr124 ?_
  intro b4
  refine TL.p Pu.as ?_
  refine TL.nil (TQ.thenN (hY23 _ _ ?_))
  refine TW.seq fun Y24 hY24 => ?_
  refine TW.tiedN (E := 4) (sz := 1) (r := fun _ _ => [.bool false]) nl ?_
  refine TW.seq fun Y25 hY25 => TW.region ?_
  refine TL.p Pu.as ?_
  refine TL.nil (TQ.thenN (hY25 _ _ ?_))
  refine TW.block ?_
  refine TW.loop3 (fun (q : Nat) (ja : Nat → Option Addr) (ln : Nat → Nat) => [(17, .int .i64 (q : Int)), (16, .slice (some ⟨b4, 0, none⟩) nl nl), (13, .int .i64 (totN H L nl : Int)), (12, .slice (some ⟨b1, 0, none⟩) nl nl), (11, .int .i64 (nl : Int)), (0, .slice A H.n cp), (1, .slice B nl cb), (2, .slice C nc cc)]) (fun q ja ln => [.own (some ⟨b4, 0, none⟩) nl nl 124 1 (fun k => [.slice (ja k) (ln k) (ln k)]), tied (ownsE 4 1 ja ln ln (fun _ _ => [.bool false]) nl)]) (fun q ja ln => q ≤ nl ∧ ∀ k, k < nl → ln k = if k < q then 10000 else 0) (fun q ja ln => nl - q) 0 (fun _ => none) (fun _ => 0) fs9 ?_ ?_ ?_
  exact KSub.own pk9 (fun _ _ => rfl) (KSub.cons pk9 KSub.nil)
  exact ⟨Nat.zero_le _, fun q _ => rfl⟩
  rintro q ja ln ⟨hqn, hln⟩ Z2 hZ2
  replace hln := hid1 hln
  refine TW.seq fun Y26 hY26 => ?_
  refine TW.seq fun Y27 hY27 => TW.region ?_
  refine TL.p Pu.mv ?_
  refine TL.p Pu.mv ?_
  refine TL.p Pu.lt ?_
  refine TL.nil (TQ.thenN (hY27 _ _ ?_))
  refine TW.cond rfl (fun hc5 => ?_) (fun hc5 => ?_)
  try simp only [zcb9] at hc5
  have hql : q < nl := by omega
  refine TW.skip ?_
  refine TQ.thenN (hY26 _ _ ?_)
  refine TW.seq fun Y28 hY28 => ?_
  refine TW.block ?_
  refine TW.region ?_
  refine TL.p Pu.mv ?_
  refine TL.p Pu.mv ?_
  refine TL.ms ty_et124 ty_zr4 ?_
  intro b5
  refine TL.p (Pu.el ty_et123) ?_
  refine TL.ownTake q hql pk9 ?_
  refine TL.ownPut (A9 := some ⟨b5, 0, none⟩) (l9 := 10000) (c9 := 10000) (A2 := updA ja q (some ⟨b5, 0, none⟩)) (l2 := updA ln q 10000) (c2 := updA ln q 10000) (r2 := fun _ _ => [.bool false]) pk9 pk9 hql (if_pos rfl) (if_pos rfl) (if_pos rfl) (fun _ _ => rfl) (fun k hk hne => ⟨(if_neg hne).symm, (if_neg hne).symm, (if_neg hne).symm, rfl⟩) ?_
  refine TL.se ty_sz124 ?_
  refine TL.nil ?_
  refine TQ.blkN ?_
  refine TQ.thenN (hY28 _ _ ?_)
  refine TW.region ?_
  refine TL.p Pu.mv ?_
  refine TL.p Pu.ad ?_
  refine TL.p Pu.as ?_
  refine TL.nil ?_
  refine TQ.thenN (hZ2 (q + 1) (updA ja q (some ⟨b5, 0, none⟩)) (updA ln q 10000) _ _ ?_ ?_ fs9 ?_)
  refine ⟨by omega, fun k hk => ?_⟩
  by_cases e : k = q
  subst e; rw [if_pos (by omega)]; exact if_pos rfl
  rw [show updA ln q 10000 k = ln k from if_neg e, hln.out k hk]
  by_cases h9 : k < q
  rw [if_pos h9, if_pos (by omega)]
  rw [if_neg h9, if_neg (by omega)]
  exact zom9
  exact KSub.own pk9 (fun k _ => by unfold updR updA; by_cases h9 : k = q <;> simp [h9]) (KSub.cons pk9 KSub.nil)
  try simp only [zcb9] at hc5
  obtain rfl : q = nl := by omega
  have hlnf : ∀ k, k < q → ln k = 10000 := fun k hk => by have := hln.out k hk; rwa [if_pos hk] at this
  have ho : ownsE 4 1 ja ln ln (fun _ _ => [.bool false]) q = ownsE 4 1 ja (fun _ => 10000) (fun _ => 10000) (fun _ _ => [.bool false]) q := ownsE_congr2 fun k hk => ⟨rfl, hlnf k hk, hlnf k hk, rfl⟩
  refine TW.exit ?_
  refine TQ.thenX ?_
  refine TQ.thenX ?_
  refine TQ.blkX ?_
  refine TQ.thenN (hY24 _ _ ?_)
  refine TW.seq fun Y29 hY29 => TW.region ?_
  refine TL.p Pu.as ?_
  refine TL.nil (TQ.thenN (hY29 _ _ ?_))
  refine TW.seq fun Y30 hY30 => ?_
  refine TW.seq fun Y31 hY31 => TW.region ?_
  refine TL.p Pu.as ?_
  refine TL.nil (TQ.thenN (hY31 _ _ ?_))
  refine TW.block ?_
  refine TW.loop3 (fun (t : Nat) (fb : Bool) (g : Nat → Nat → Bool) => [(19, .int .i64 (t : Int)), (18, .bool fb), (16, .slice (some ⟨b4, 0, none⟩) q q), (13, .int .i64 (totN H L q : Int)), (12, .slice (some ⟨b1, 0, none⟩) q q), (11, .int .i64 (q : Int)), (0, .slice A H.n cp), (1, .slice B q cb), (2, .slice C nc cc)]) (fun t fb g => [.own (some ⟨b4, 0, none⟩) q q 124 1 (fun k => [.slice (ja k) 10000 10000]), tied (ownsE 4 1 ja (fun _ => 10000) (fun _ => 10000) (fun k v => [.bool (g k v)]) q)]) (fun t fb g => t ≤ totN H L q ∧ fb = fndT H L q nc dm yg t ∧ ∀ k, k < q → ∀ v : Nat, v < 10000 → g k v = isT H L q nc dm yg k (v : Int) t) (fun t fb g => totN H L q - t) 0 false (fun _ _ => false) fs9 ?_ ?_ ?_
  rw [ho]
  exact KSub.own pk9 (fun k hk => by rw [hlnf k hk]) (KSub.cons pk9 KSub.nil)
  exact ⟨Nat.zero_le _, rfl, fun _ _ _ _ => rfl⟩
  rintro t fb g ⟨htn, hfb, hg⟩ Z3 hZ3
  have htb := htl q (Nat.le_refl _)
  replace hg := hid1 hg
  replace hfb := hid1 hfb
  refine TW.seq fun Y32 hY32 => ?_
  refine TW.seq fun Y33 hY33 => TW.region ?_
  refine TL.p Pu.mv ?_
  refine TL.p Pu.mv ?_
  refine TL.p Pu.lt ?_
  refine TL.nil (TQ.thenN (hY33 _ _ ?_))
  refine TW.cond rfl (fun hc6 => ?_) (fun hc6 => ?_)
  try simp only [zcb9] at hc6
  have htl9 : t < totN H L q := by omega
  have hps : ∀ i, i < q → 0 < (mayL H L i).length := fun i hi => tot_pos (by omega) hi
  refine TW.skip ?_
  refine TQ.thenN (hY32 _ _ ?_)
  refine TW.seq fun Y34 hY34 => ?_
  refine TW.block ?_
  refine TW.seq fun Y35 hY35 => TW.region ?_
  refine TL.p Pu.as ?_
  refine TL.nil (TQ.thenN (hY35 _ _ ?_))
  refine TW.seq fun Y36 hY36 => TW.region ?_
  refine TL.p Pu.mv ?_
  refine TL.p Pu.as ?_
  refine TL.nil (TQ.thenN (hY36 _ _ ?_))
  refine TW.seq fun Y37 hY37 => ?_
  refine TW.seq fun Y38 hY38 => TW.region ?_
  refine TL.p Pu.as ?_
  refine TL.nil (TQ.thenN (hY38 _ _ ?_))
  refine TW.block ?_
  refine TW.loop5 (fun (i : Nat) (Aa : Option Addr) (ca : Nat) (X : List Nat) (m : Nat) => [(22, .int .i64 (i : Int)), (21, .int .i64 (rstT H L t i : Int)), (20, .slice Aa m ca), (19, .int .i64 (t : Int)), (18, .bool fb), (16, .slice (some ⟨b4, 0, none⟩) q q), (13, .int .i64 (totN H L q : Int)), (12, .slice (some ⟨b1, 0, none⟩) q q), (11, .int .i64 (q : Int)), (0, .slice A H.n cp), (1, .slice B q cb), (2, .slice C nc cc)]) (fun i Aa ca X m => [.own Aa m ca 3 1 (nL X), .own (some ⟨b4, 0, none⟩) q q 124 1 (fun k => [.slice (ja k) 10000 10000]), tied (ownsE 4 1 ja (fun _ => 10000) (fun _ => 10000) (fun k v => [.bool (g k v)]) q)]) (fun i Aa ca X m => i ≤ q ∧ X = atT H L t i ∧ m = X.length ∧ m = i) (fun i Aa ca X m => q - i) 0 none 0 [] 0 fs9 ?_ ?_ ?_
  exact KSub.nilOwn (KSub.cons pk9 (KSub.cons pk9 KSub.nil))
  exact ⟨Nat.zero_le _, rfl, rfl, rfl⟩
  rintro i Aa ca X m ⟨hiq, hX, hm, hmi⟩ Z4 hZ4
  have hrt : rstT H L t i ≤ t := by
   have : ∀ i, rstT H L t i ≤ t := fun i => by
    induction i with
    | zero => exact Nat.le_refl _
    | succ i ih => exact Nat.le_trans (Nat.div_le_self _ _) ih
   exact this i
  refine TW.seq fun Y39 hY39 => ?_
  refine TW.seq fun Y40 hY40 => TW.region ?_
  refine TL.p Pu.mv ?_
  refine TL.p Pu.mv ?_
  refine TL.p Pu.lt ?_
  refine TL.nil (TQ.thenN (hY40 _ _ ?_))
  refine TW.cond rfl (fun hc7 => ?_) (fun hc7 => ?_)
  try simp only [zcb9] at hc7
  have hil : i < q := by omega
  have hpi := hps i hil
  have hMi := hMl i hil
  have hmod := Nat.mod_lt (rstT H L t i) hpi
  have hap : 0 < (mayL H L i).length → Apart [] (ia i) := fun _ => Apart.nil
  refine TW.skip ?_
  refine TQ.thenN (hY39 _ _ ?_)
  refine TW.seq fun Y41 hY41 => ?_
  refine TW.block ?_
  refine TW.seq fun Y42 hY42 => ?_
  refine TW.dw 15 ?_
  refine RK.tk Pu.mv ?_
  refine RK.tk Pu.mv ?_
  refine RK.tk Pu.mv ?_
  refine RK.tk (Pu.el ty_et39) ?_
  refine RK.tk (Pu.ld ty_sc33) ?_
  refine RK.tk Pu.mv ?_
  refine RK.tk Pu.mv ?_
  refine RK.tk Pu.mv ?_
  refine RK.tk (Pu.el ty_et39) ?_
  refine RK.tk (Pu.ld ty_sc33) ?_
  refine RK.tk (Pu.ln Tryz.underlying33) ?_
  refine RK.tk (Pu.iv Pu.rm (b := ((rstT H L t i % (mayL H L i).length : Nat) : Int)) (by simp)) ?_
  refine RK.tk (Pu.el (q := rstT H L t i % (mayL H L i).length) ty_et33 (hk := Int.toNat_natCast _)) ?_
  refine RK.tk (Pu.ld ty_sc3) ?_
  refine RK.keep ?_
  refine RK.ch [false] ?_ trivial
  refine WK.m Mk.bl ?_
  intro b6
  refine WK.n ?_
  first | refine TL.a0 ty_et33 ?_ | refine TL.ap ty_et33 ?_
  intro A7 c7
  refine TL.p Pu.as ?_
  refine TL.nil (TQ.thenN (hY42 _ _ ?_))
  refine TW.region ?_
  refine TL.p Pu.mv ?_
  refine TL.p Pu.mv ?_
  refine TL.p Pu.mv ?_
  refine TL.p (Pu.el ty_et39) ?_
  refine TL.p (Pu.ld ty_sc33) ?_
  refine TL.p (Pu.ln Tryz.underlying33) ?_
  refine TL.p (Pu.iv Pu.qu (b := ((rstT H L t i / (mayL H L i).length : Nat) : Int)) (by simp)) ?_
  refine TL.p Pu.as ?_
  refine TL.nil ?_
  refine TQ.blkN ?_
  refine TQ.thenN (hY41 _ _ ?_)
  refine TW.region ?_
  refine TL.p Pu.mv ?_
  refine TL.p Pu.ad ?_
  refine TL.p Pu.as ?_
  refine TL.nil ?_
  refine TQ.thenN (hZ4 (i + 1) A7 c7 (atT H L t (i + 1)) (m + 1) _ _ ?_ ?_ fs9 ?_)
  exact ⟨by omega, rfl, by rw [atT_len]; omega, by omega⟩
  exact zom9
  exact KSub.own Pick.hd (nL_app (k := (mayL H L i).getD (rstT H L t i % (mayL H L i).length) 0) hm (by rw [hX]; rfl) (by simp [List.getD_eq_getElem?_getD, hmod])) (KSub.cons pk9 (KSub.cons pk9 KSub.nil))
  try simp only [zcb9] at hc7
  obtain rfl : i = q := by omega
  obtain rfl : i = m := hmi.symm
  refine TW.exit ?_
  refine TQ.thenX ?_
  refine TQ.thenX ?_
  refine TQ.blkX ?_
  refine TQ.thenN (hY37 _ _ ?_)
  refine TW.seq fun Y43 hY43 => ?_
  refine TW.seq fun Y44 hY44 => TW.region ?_
  refine TL.p Pu.mv ?_
  refine TL.p Pu.mv ?_
  refine TL.p Pu.mv ?_
  refine TL.p Pu.mv ?_
  refine TL.cr rfl (enters Tryz.func35 rfl rfl) (fun w hw => by
    exact rNamed_any (X := X) hk (hI1.ext (Chg.ext hw.chg)) (hL1.ext (Chg.ext hw.chg)) (hC1.ext (Chg.ext hw.chg)) hlk hcv (by omega) (fun k hk9 => by rw [hX]; exact (mem_mayL.1 (atT_in hps hk9)).1) (OwnR.rdr (hw.holds (.own Aa i ca 3 1 (nL X)) (Pick.mem pk9)))) ?_
  refine TL.p Pu.no ?_
  refine TL.nil (TQ.thenN (hY44 _ _ ?_))
  refine TW.cond rfl (fun hc8 => ?_) (fun hc8 => ?_)
  try simp only [zcb9] at hc8
  have hnn : nmdB H L i nc dm yg (atT H L t i) = false := by rw [← hX]; simpa using hc8
  have hfs : fb = fndT H L i nc dm yg (t + 1) := by rw [hfb.out]; simp only [fndT, hnn, Bool.or_false]
  have hgs : ∀ k, k < i → ∀ v : Nat, v < 10000 → g k v = isT H L i nc dm yg k (v : Int) (t + 1) := fun k hk9 v hv => by rw [hg.out k hk9 v hv]; simp only [isT, hnn, Bool.false_and, Bool.or_false]
  refine TW.exit ?_
  refine TQ.thenX ?_
  refine TQ.blkX ?_
  refine TQ.thenN (hY34 _ _ ?_)
  refine TW.region ?_
  refine TL.p Pu.mv ?_
  refine TL.p Pu.ad ?_
  refine TL.p Pu.as ?_
  refine TL.nil ?_
  refine TQ.thenN (hZ3 (t + 1) _ (by first | exact g2 | exact g) _ _ ?_ ?_ fs9 ?_)
  exact ⟨by omega, hfs, hgs⟩
  exact zom9
  exact ks9
  try simp only [zcb9] at hc8
  have hnn : nmdB H L i nc dm yg (atT H L t i) = true := by rw [← hX]; simpa using hc8
  have hfs : true = fndT H L i nc dm yg (t + 1) := by simp only [fndT, hnn, Bool.or_true]
  have hgs9 : ∀ k, k < i → ∀ v : Nat, v < 10000 → (g k v || decide (H.id (X.getD k 0) = (v : Int))) = isT H L i nc dm yg k (v : Int) (t + 1) := fun k hk9 v hv => by rw [hg.out k hk9 v hv]; simp only [isT, hnn, Bool.true_and, hX]
  have hXb : ∀ k, k < i → X.getD k 0 < H.n := fun k hk9 => by rw [hX]; exact (mem_mayL.1 (atT_in hps hk9)).1
  refine TW.skip ?_
  refine TQ.thenN (hY43 _ _ ?_)
  refine TW.seq fun Y45 hY45 => TW.region ?_
  refine TL.p Pu.as ?_
  refine TL.nil (TQ.thenN (hY45 _ _ ?_))
  refine TW.seq fun Y46 hY46 => TW.region ?_
  refine TL.p Pu.as ?_
  refine TL.nil (TQ.thenN (hY46 _ _ ?_))
  refine TW.block ?_
  refine TW.loop2 (fun (u : Nat) (g2 : Nat → Nat → Bool) => [(23, .int .i64 (u : Int)), (20, .slice Aa i ca), (19, .int .i64 (t : Int)), (18, .bool true), (16, .slice (some ⟨b4, 0, none⟩) i i), (13, .int .i64 (totN H L i : Int)), (12, .slice (some ⟨b1, 0, none⟩) i i), (11, .int .i64 (i : Int)), (0, .slice A H.n cp), (1, .slice B i cb), (2, .slice C nc cc)]) (fun u g2 => [.own Aa i ca 3 1 (nL X), .own (some ⟨b4, 0, none⟩) i i 124 1 (fun k => [.slice (ja k) 10000 10000]), tied (ownsE 4 1 ja (fun _ => 10000) (fun _ => 10000) (fun k v => [.bool (g2 k v)]) i)]) (fun u g2 => u ≤ i ∧ ∀ k, k < i → ∀ v : Nat, v < 10000 → g2 k v = (g k v || (decide (k < u) && decide (H.id (X.getD k 0) = (v : Int))))) (fun u g2 => i - u) 0 g fs9 ?_ ?_ ?_
  exact ks9
  exact ⟨Nat.zero_le _, fun k _ v _ => by simp⟩
  rintro u g2 ⟨hui, hg2⟩ Z5 hZ5
  replace hg2 := hid1 hg2
  refine TW.seq fun Y47 hY47 => ?_
  refine TW.seq fun Y48 hY48 => TW.region ?_
  refine TL.p Pu.mv ?_
  refine TL.p Pu.mv ?_
  refine TL.p Pu.lt ?_
  refine TL.nil (TQ.thenN (hY48 _ _ ?_))
  refine TW.cond rfl (fun hc9 => ?_) (fun hc9 => ?_)
  try simp only [zcb9] at hc9
  have hul : u < i := by omega
  have hxu := hXb u hul
  have hidu := hk.id _ hxu
  refine TW.skip ?_
  refine TQ.thenN (hY47 _ _ ?_)
  refine TW.seq fun Y49 hY49 => ?_
  refine TW.block ?_
  refine TW.dw 12 ?_
  refine RK.tk Pu.mv ?_
  refine RK.tk Pu.mv ?_
  refine RK.tk (Pu.el ty_et123) ?_
  refine RK.tk (Pu.ld ty_sc124) ?_
  refine RK.tk Pu.mv ?_
  refine RK.tk Pu.mv ?_
  refine RK.tk Pu.mv ?_
  refine RK.tk (Pu.el ty_et33) ?_
  refine RK.tk (Pu.ld ty_sc3) ?_
  refine RK.tk (Pu.el (q := X.getD u 0) ty_et22 (hk := Int.toNat_natCast _)) ?_
  refine RK.tk (by first | exact Pu.fb ty_fa65_0 | exact Pu.fe ty_fa65_0) ?_
  refine RK.tk (Pu.ld ty_sc3) ?_
  refine RK.ch [] ?_ trivial
  refine WK.n ?_
  refine TL.ownTake u hul pk9 ?_
  refine TL.p (Pu.el (q := (H.id (X.getD u 0)).toNat) ty_et124 (hk := rfl)) ?_
  refine TL.se ty_sz4 ?_
  refine TL.ownPut (A2 := ja) (l2 := fun _ => 10000) (c2 := fun _ => 10000) (r2 := fun k v => [.bool (g2 k v || (decide (k = u) && decide (H.id (X.getD k 0) = (v : Int))))]) pk9 pk9 hul rfl rfl rfl (fun v hv => by
   unfold updR
   by_cases h9 : v = (H.id (X.getD u 0)).toNat
   rw [if_pos h9, decide_eq_true (show u = u from rfl), decide_eq_true (show H.id (X.getD u 0) = (v : Int) by omega)]; simp
   rw [if_neg h9, decide_eq_false (show ¬ H.id (X.getD u 0) = (v : Int) by omega), Bool.and_false, Bool.or_false]) (fun k hk9 hne => ⟨rfl, rfl, rfl, by funext v; rw [decide_eq_false hne, Bool.false_and, Bool.or_false]⟩) ?_
  refine TL.nil ?_
  refine TQ.blkN ?_
  refine TQ.thenN (hY49 _ _ ?_)
  refine TW.region ?_
  refine TL.p Pu.mv ?_
  refine TL.p Pu.ad ?_
  refine TL.p Pu.as ?_
  refine TL.nil ?_
  refine TQ.thenN (hZ5 (u + 1) (fun k v => g2 k v || (decide (k = u) && decide (H.id (X.getD k 0) = (v : Int)))) _ _ ?_ ?_ fs9 ?_)
  refine ⟨by omega, fun k hk9 v hv => ?_⟩
  rw [hg2.out k hk9 v hv]
  by_cases e : k = u
  subst e
  rw [decide_eq_true (show k = k from rfl), decide_eq_false (show ¬ k < k by omega), decide_eq_true (show k < k + 1 by omega)]
  simp
  rw [decide_eq_false e, Bool.false_and, Bool.or_false]
  by_cases h9 : k < u
  rw [decide_eq_true h9, decide_eq_true (show k < u + 1 by omega)]
  rw [decide_eq_false h9, decide_eq_false (show ¬ k < u + 1 by omega)]
  exact zom9
  exact ks9
  try simp only [zcb9] at hc9
  obtain rfl : u = i := by omega
  have hgs : ∀ k, k < u → ∀ v : Nat, v < 10000 → g2 k v = isT H L u nc dm yg k (v : Int) (t + 1) := fun k hk9 v hv => by rw [hg2.out k hk9 v hv, decide_eq_true hk9, Bool.true_and]; exact hgs9 k hk9 v hv
  refine TW.exit ?_
  refine TQ.thenX ?_
  refine TQ.thenX ?_
  refine TQ.blkX ?_
  refine TQ.blkN ?_
  refine TQ.thenN (hY34 _ _ ?_)
  refine TW.region ?_
  refine TL.p Pu.mv ?_
  refine TL.p Pu.ad ?_
  refine TL.p Pu.as ?_
  refine TL.nil ?_
  refine TQ.thenN (hZ3 (t + 1) _ (by first | exact g2 | exact g) _ _ ?_ ?_ fs9 ?_)
  exact ⟨by omega, hfs, hgs⟩
  exact zom9
  exact ks9
  try simp only [zcb9] at hc6
  obtain rfl : t = totN H L q := by omega
  refine TW.exit ?_
  refine TQ.thenX ?_
  refine TQ.thenX ?_
  refine TQ.blkX ?_
  refine TQ.thenN (hY30 _ _ ?_)
  refine TW.seq fun Y50 hY50 => ?_
  refine TW.seq fun Y51 hY51 => TW.region ?_
  refine TL.p Pu.mv ?_
  refine TL.p Pu.no ?_
  refine TL.nil (TQ.thenN (hY51 _ _ ?_))
  refine TW.cond rfl (fun hc10 => ?_) (fun hc10 => ?_)
  try simp only [zcb9] at hc10
  have hr0 : (nmR H q L nc dm yg).length = 0 := by
   have h1 := ref_none (L := L) (dm := dm) (yg := yg) hk hcv
   rw [← hfb.out] at h1
   have h2 : fb = false := by simpa using hc10
   rw [h2] at h1
   by_cases h9 : (nmR H q L nc dm yg).length = 0
   exact h9
   rw [decide_eq_true h9] at h1; cases h1
  have hf : nmC H q L nc dm yg = 23 := by rw [hf8, if_pos hr0]
  refine TW.seq fun Y52 hY52 => TW.region ?_
  refine TL.p Pu.as ?_
  refine TL.p Pu.as ?_
  refine TL.nil (TQ.thenN (hY52 _ _ ?_))
  refine TW.ret ?_
  refine TQ.thenR ?_
  refine TQ.ret Tryz.results19 rfl ((.tmp rfl (.tmp rfl .nil))) ?_
  exact fun w hw => nm_bad (hw.from hw1.chg (fun _ hb => .inl hb)) hf (by decide)
  try simp only [zcb9] at hc10
  have hr0 : (nmR H q L nc dm yg).length ≠ 0 := by
   have h1 := ref_none (L := L) (dm := dm) (yg := yg) hk hcv
   rw [← hfb.out] at h1
   have h2 : fb = true := by simpa using hc10
   rw [h2] at h1
   exact of_decide_eq_true h1.symm
  have hf : nmC H q L nc dm yg = 0 := by rw [hf8, if_neg hr0]
  have hN : nmN H q L nc dm yg = q := if_pos hf
  refine TW.skip ?_
  refine TQ.thenN (hY50 _ _ ?_)
  refine TW.rebase fun w2 hw2 => ?_
  have hIs : RdR w2 1 (some ⟨b4, 0, none⟩) q (fun k => [.slice (ja k) 10000 10000]) := OwnR.rdr (hw2.holds (.own (some ⟨b4, 0, none⟩) q q 124 1 (fun k => [.slice (ja k) 10000 10000])) (Pick.mem pk9))
  have hIl : ∀ k, k < q → RdR w2 1 (ja k) 10000 (fun v => [.bool (isT H L q nc dm yg k (v : Int) (totN H L q))]) := fun k hk9 =>
   RdR.cong9 (OwnR.rdr (bun_get hw2 (K1 := ownsE 4 1 ja (fun _ => 10000) (fun _ => 10000) (fun k v => [.bool (g k v)]) q) (Pick.mem pk9) (ownsE_mem hk9))) fun v hv => by rw [hg.out k hk9 v hv]
  refine TW.seq fun Y53 hY53 => TW.region ?_
  refine TL.p Pu.as ?_
  refine TL.nil (TQ.thenN (hY53 _ _ ?_))
  refine TW.seq fun Y54 hY54 => ?_
  refine TW.tiedN (E := 3) (sz := 1) (r := fun k => iL (refL H L q nc dm yg k 10000)) 0 ?_
  refine TW.seq fun Y55 hY55 => TW.region ?_
  refine TL.p Pu.as ?_
  refine TL.nil (TQ.thenN (hY55 _ _ ?_))
  refine TW.block ?_
  refine TW.loop5 (fun (u : Nat) (Ao : Option Addr) (co : Nat) (oa : Nat → Option Addr) (oc : Nat → Nat) => [(25, .int .i64 (u : Int)), (24, .slice Ao u co), (16, .slice (some ⟨b4, 0, none⟩) q q), (11, .int .i64 (q : Int))]) (fun u Ao co oa oc => [.own Ao u co 33 1 (fun k => [.slice (oa k) (refL H L q nc dm yg k 10000).length (oc k)]), tied (ownsE 3 1 oa (fun k => (refL H L q nc dm yg k 10000).length) oc (fun k => iL (refL H L q nc dm yg k 10000)) u)]) (fun u Ao co oa oc => u ≤ q) (fun u Ao co oa oc => q - u) 0 none 0 (fun _ => none) (fun _ => 0) fs9 ?_ ?_ ?_
  exact KSub.nilOwn (KSub.cons pk9 KSub.nil)
  exact (by omega)
  rintro u Ao co oa oc huq Z6 hZ6
  refine TW.seq fun Y56 hY56 => ?_
  refine TW.seq fun Y57 hY57 => TW.region ?_
  refine TL.p Pu.mv ?_
  refine TL.p Pu.mv ?_
  refine TL.p Pu.lt ?_
  refine TL.nil (TQ.thenN (hY57 _ _ ?_))
  refine TW.cond rfl (fun hc11 => ?_) (fun hc11 => ?_)
  try simp only [zcb9] at hc11
  have hul : u < q := by omega
  have hIu := hIl u hul
  refine TW.skip ?_
  refine TQ.thenN (hY56 _ _ ?_)
  refine TW.seq fun Y58 hY58 => ?_
  refine TW.block ?_
  refine TW.seq fun Y59 hY59 => TW.region ?_
  refine TL.p Pu.as ?_
  refine TL.nil (TQ.thenN (hY59 _ _ ?_))
  refine TW.seq fun Y60 hY60 => ?_
  refine TW.seq fun Y61 hY61 => TW.region ?_
  refine TL.p Pu.as ?_
  refine TL.nil (TQ.thenN (hY61 _ _ ?_))
  refine TW.block ?_
  refine TW.loop5 (fun (v : Nat) (Ai : Option Addr) (ci : Nat) (P : List Int) (n : Nat) => [(27, .int .i64 (v : Int)), (26, .slice Ai n ci), (25, .int .i64 (u : Int)), (24, .slice Ao u co), (16, .slice (some ⟨b4, 0, none⟩) q q), (11, .int .i64 (q : Int))]) (fun v Ai ci P n => [.own Ai n ci 3 1 (iL P), .own Ao u co 33 1 (fun k => [.slice (oa k) (refL H L q nc dm yg k 10000).length (oc k)]), tied (ownsE 3 1 oa (fun k => (refL H L q nc dm yg k 10000).length) oc (fun k => iL (refL H L q nc dm yg k 10000)) u)]) (fun v Ai ci P n => v ≤ 10000 ∧ P = refL H L q nc dm yg u v ∧ n = P.length) (fun v Ai ci P n => 10000 - v) 0 none 0 [] 0 fs9 ?_ ?_ ?_
  exact KSub.nilOwn (KSub.cons pk9 (KSub.cons pk9 KSub.nil))
  exact ⟨Nat.zero_le _, rfl, rfl⟩
  rintro v Ai ci P n ⟨hv, hP, hn⟩ Z7 hZ7
  have hn9 : n ≤ 10000 := by have := refL_len (H := H) (L := L) (nl := q) (nc := nc) (dm := dm) (yg := yg) (i := u) (k := v); rw [hn, hP]; omega
  refine TW.seq fun Y62 hY62 => ?_
  refine TW.seq fun Y63 hY63 => TW.region ?_
  refine TL.p Pu.mv ?_
  refine TL.p Pu.le ?_
  refine TL.nil (TQ.thenN (hY63 _ _ ?_))
  refine TW.cond rfl (fun hc12 => ?_) (fun hc12 => ?_)
  try simp only [zcb9] at hc12
  have hv9 : v < 10000 := by omega
  refine TW.skip ?_
  refine TQ.thenN (hY62 _ _ ?_)
  refine TW.seq fun Y64 hY64 => ?_
  refine TW.block ?_
  refine TW.seq fun Y65 hY65 => TW.region ?_
  refine TL.p Pu.mv ?_
  refine TL.p Pu.mv ?_
  refine TL.p (Pu.el ty_et123) ?_
  refine TL.p (Pu.ld ty_sc124) ?_
  refine TL.p Pu.mv ?_
  refine TL.p (Pu.el ty_et124) ?_
  refine TL.p (Pu.ld ty_sc4) ?_
  refine TL.nil (TQ.thenN (hY65 _ _ ?_))
  refine TW.cond rfl (fun hc13 => ?_) (fun hc13 => ?_)
  try simp only [zcb9] at hc13
  have hst : refL H L q nc dm yg u (v + 1) = P ++ [(v : Int)] := by rw [hP]; exact if_pos hc13
  have hlen9 : n + 1 = (refL H L q nc dm yg u (v + 1)).length := by rw [hst, List.length_append, ← hn]; rfl
  refine TW.region ?_
  refine TL.p Pu.mv ?_
  refine TL.p Pu.mv ?_
  refine TL.m Mk.bl ?_
  intro b8
  first | refine TL.a0 ty_et33 ?_ | refine TL.ap ty_et33 ?_
  intro A9 c9
  refine TL.p Pu.as ?_
  refine TL.nil ?_
  refine TQ.blkN ?_
  refine TQ.thenN (hY64 _ _ ?_)
  refine TW.region ?_
  refine TL.p Pu.mv ?_
  refine TL.p Pu.ad ?_
  refine TL.p Pu.as ?_
  refine TL.nil ?_
  refine TQ.thenN (hZ7 (v + 1) _ _ (refL H L q nc dm yg u (v + 1)) _ _ _ ?_ ?_ fs9 ?_)
  exact ⟨by omega, rfl, hlen9⟩
  exact zom9
  first
   | exact KSub.own Pick.hd (iL_app hn hst rfl) (KSub.cons pk9 (KSub.cons pk9 KSub.nil))
   | exact KSub.own pk9 (fun i _ => by rw [hst]) (KSub.cons pk9 (KSub.cons pk9 KSub.nil))
  try simp only [zcb9] at hc13
  have hst : refL H L q nc dm yg u (v + 1) = P := by rw [hP]; exact if_neg (by simpa using hc13)
  have hlen9 : n = (refL H L q nc dm yg u (v + 1)).length := by rw [hst, ← hn]
  refine TW.skip ?_
  refine TQ.blkN ?_
  refine TQ.thenN (hY64 _ _ ?_)
  refine TW.region ?_
  refine TL.p Pu.mv ?_
  refine TL.p Pu.ad ?_
  refine TL.p Pu.as ?_
  refine TL.nil ?_
  refine TQ.thenN (hZ7 (v + 1) _ _ (refL H L q nc dm yg u (v + 1)) _ _ _ ?_ ?_ fs9 ?_)
  exact ⟨by omega, rfl, hlen9⟩
  exact zom9
  first
   | exact KSub.own Pick.hd (iL_app hn hst rfl) (KSub.cons pk9 (KSub.cons pk9 KSub.nil))
   | exact KSub.own pk9 (fun i _ => by rw [hst]) (KSub.cons pk9 (KSub.cons pk9 KSub.nil))
  try simp only [zcb9] at hc12
  obtain rfl : v = 10000 := by omega
  refine TW.exit ?_
  refine TQ.thenX ?_
  refine TQ.thenX ?_
  refine TQ.blkX ?_
  refine TQ.thenN (hY60 _ _ ?_)
  refine TW.region ?_
  refine TL.p Pu.mv ?_
  refine TL.p Pu.mv ?_
  refine TL.m Mk.bl ?_
  intro b10
  first | refine TL.a0 ty_et39 ?_ | refine TL.ap ty_et39 ?_
  intro A11 c11
  refine TL.p Pu.as ?_
  refine TL.ownSnoc (A9 := Ai) (l9 := n) (c9 := ci) (r9 := iL P) (A2 := updA oa u Ai) (l2 := fun k => (refL H L q nc dm yg k 10000).length) (c2 := updA oc u ci) (r2 := fun k => iL (refL H L q nc dm yg k 10000)) pk9 pk9 (if_pos rfl) (by rw [← hP, ← hn]) (if_pos rfl) (fun k _ => by rw [hP]) (fun k hk9 => ⟨(if_neg (by omega)).symm, rfl, (if_neg (by omega)).symm, rfl⟩) ?_
  refine TL.nil ?_
  refine TQ.blkN ?_
  refine TQ.thenN (hY58 _ _ ?_)
  refine TW.region ?_
  refine TL.p Pu.mv ?_
  refine TL.p Pu.ad ?_
  refine TL.p Pu.as ?_
  refine TL.nil ?_
  refine TQ.thenN (hZ6 (u + 1) A11 c11 (updA oa u Ai) (updA oc u ci) _ _ ?_ ?_ fs9 ?_)
  exact (by omega)
  exact zom9
  refine KSub.own pk9 (fun k hk9 => ?_) (KSub.cons pk9 KSub.nil)
  unfold catR updA
  by_cases h9 : k < u
  rw [if_pos h9, if_neg (by omega), if_neg (by omega)]
  obtain rfl : k = u := by omega
  rw [if_neg h9, if_pos rfl, if_pos rfl, ← hP, ← hn]
  try simp only [zcb9] at hc11
  obtain rfl : u = q := by omega
  refine TW.exit ?_
  refine TQ.thenX ?_
  refine TQ.thenX ?_
  refine TQ.blkX ?_
  refine TQ.thenN (hY54 _ _ ?_)
  refine TW.seq fun Y66 hY66 => TW.region ?_
  refine TL.p Pu.mv ?_
  refine TL.p Pu.as ?_
  refine TL.p Pu.as ?_
  refine TL.nil (TQ.thenN (hY66 _ _ ?_))
  refine TW.ret ?_
  refine TQ.ret Tryz.results19 rfl ((.tmp rfl (.tmp rfl .nil))) ?_
  refine fun w hw => ⟨((Ao, co), oa, oc), by unfold nmV; rw [hN, hf]; rfl, ?_⟩
  have ho2 : ownsE 3 1 oa (fun k => (refL H L u nc dm yg k 10000).length) oc (fun k => iL (refL H L u nc dm yg k 10000)) u = ownsE 3 1 oa (fun k => (nmL H u L nc dm yg k).length) oc (fun k => iL (nmL H u L nc dm yg k)) u := ownsE_congr2 fun k hk9 => by rw [ref_names hk hcv hk9]; exact ⟨rfl, rfl, rfl, rfl⟩
  rw [ho2] at hw
  unfold nmF
  rw [hN]
  exact ((hw.from hw2.chg (fun _ hb => .inl hb)).from hw1.chg (fun _ hb => .inl hb)).sub (KSub.own pk9 (fun k hk9 => by rw [ref_names hk hcv hk9]) (KSub.cons pk9 KSub.nil))
end Go.Proofs.YtceokmaddbdnfaaGreat
namespace Go.Proofs.YtceokmaddbdnfaaGreat
set_option linter.all false
set_option linter.unusedVariables false
set_option linter.unusedSimpArgs false
open Go.RowKit
def cmpV (a b : Int) : Int := if a < b then -1 else if b < a then 1 else 0
def ltL : List Int → List Int → Bool
 | a :: l, b :: m => if a = b then ltL l m else decide (a < b)
 | _, _ => false
def cmpI : List Int → List Int → Int
 | [], [] => 0
 | [], _ :: _ => -1
 | _ :: _, [] => 1
 | x :: xs, y :: ys => if cmpV x y = 0 then cmpI xs ys else cmpV x y
theorem cmp_lt : ∀ {l m : List Int}, l.length = m.length → (0 ≤ cmpI l m ↔ ltL l m = false)
  | [], [], _ => by simp [cmpI, ltL]
  | [], _ :: _, h => by simp at h
  | _ :: _, [], h => by simp at h
  | a :: l, b :: m, h => by
    simp only [cmpI, ltL]
    by_cases e : a = b
    · subst e
      rw [if_pos rfl, if_pos (show cmpV a a = 0 by unfold cmpV; simp)]
      exact cmp_lt (by simpa using h)
    · rw [if_neg e, decide_eq_false_iff_not]
      by_cases e1 : a < b
      · have : cmpV a b = -1 := if_pos e1
        rw [this, if_neg (by decide)]
        omega
      · have : cmpV a b = 1 := by unfold cmpV; rw [if_neg e1, if_pos (by omega)]
        rw [this, if_neg (by decide)]
        omega
theorem isNaN_any (a : Int) (w : World) : Calls Tryz.prog 126 #[.int .i64 a] w (Ret w (.bool false)) := by
 refine K_enter (S := []) (K := []) Tryz.func126 rfl Tryz.ntmps126 rfl (Sat.start _) ?_
 refine TW.seq fun Y1 hY1 => TW.region ?_
 refine TL.p Pu.as ?_
 refine TL.nil (TQ.thenN (hY1 _ _ ?_))
 refine TW.seq fun Y2 hY2 => TW.region ?_
 refine TL.p Pu.mv ?_
 refine TL.p Pu.mv ?_
 refine TL.p Pu.ne ?_
 refine TL.p Pu.as ?_
 refine TL.nil (TQ.thenN (hY2 _ _ ?_))
 refine TW.ret ?_
 refine TQ.ret Tryz.results126 rfl ((.tmp rfl .nil)) ?_
 exact fun w hw => ⟨ret_bool (by simp), Chg.ext hw.chg⟩
theorem compare_any (a b : Int) (w : World) : Calls Tryz.prog 109 #[.int .i64 a, .int .i64 b] w (Ret w (.int .i64 (cmpV a b))) := by
 refine K_enter (S := []) (K := []) Tryz.func109 rfl Tryz.ntmps109 rfl (Sat.start _) ?_
 refine TW.seq fun Y1 hY1 => TW.region ?_
 refine TL.p Pu.as ?_
 refine TL.nil (TQ.thenN (hY1 _ _ ?_))
 refine TW.seq fun Y2 hY2 => TW.region ?_
 refine TL.p Pu.mv ?_
 refine TL.cr rfl (enters Tryz.func126 rfl rfl) (fun w hw => by
  exact isNaN_any _ _) ?_
 refine TL.p Pu.as ?_
 refine TL.nil (TQ.thenN (hY2 _ _ ?_))
 refine TW.seq fun Y3 hY3 => TW.region ?_
 refine TL.p Pu.mv ?_
 refine TL.cr rfl (enters Tryz.func126 rfl rfl) (fun w hw => by
  exact isNaN_any _ _) ?_
 refine TL.p Pu.as ?_
 refine TL.nil (TQ.thenN (hY3 _ _ ?_))
 refine TW.seq fun Y4 hY4 => ?_
 refine TW.seq fun Y5 hY5 => TW.region ?_
 refine TL.p Pu.mv ?_
 refine TL.nil (TQ.thenN (hY5 _ _ ?_))
 refine TW.condF rfl rfl ?_
 refine TW.skip ?_
 refine TQ.thenN (hY4 _ _ ?_)
 refine TW.seq fun Y6 hY6 => ?_
 refine TW.seq fun Y7 hY7 => TW.region ?_
 refine TL.p Pu.mv ?_
 refine TL.nil (TQ.thenN (hY7 _ _ ?_))
 refine TW.condF rfl rfl ?_
 refine TW.skip ?_
 refine TQ.thenN (hY6 _ _ ?_)
 refine TW.seq fun Y8 hY8 => ?_
 refine TW.seq fun Y9 hY9 => TW.region ?_
 refine TL.p Pu.mv ?_
 refine TL.p Pu.mv ?_
 refine TL.p Pu.lt ?_
 refine TL.nil (TQ.thenN (hY9 _ _ ?_))
 refine TW.cond rfl (fun hc3 => ?_) (fun hc3 => ?_)
 try simp only [zcb9] at hc3
 have h1 : a < b := by omega
 refine TW.seq fun Y10 hY10 => TW.region ?_
 refine TL.p Pu.as ?_
 refine TL.nil (TQ.thenN (hY10 _ _ ?_))
 refine TW.ret ?_
 refine TQ.thenR ?_
 refine TQ.ret Tryz.results109 rfl ((.tmp rfl .nil)) ?_
 exact fun w hw => ⟨ret_int (by unfold cmpV; rw [if_pos h1]), Chg.ext hw.chg⟩
 try simp only [zcb9] at hc3
 have h1 : ¬ a < b := by omega
 refine TW.skip ?_
 refine TQ.thenN (hY8 _ _ ?_)
 refine TW.seq fun Y11 hY11 => ?_
 refine TW.seq fun Y12 hY12 => TW.region ?_
 refine TL.p Pu.mv ?_
 refine TL.p Pu.mv ?_
 refine TL.p Pu.gt ?_
 refine TL.nil (TQ.thenN (hY12 _ _ ?_))
 refine TW.cond rfl (fun hc4 => ?_) (fun hc4 => ?_)
 try simp only [zcb9] at hc4
 have h2 : b < a := by omega
 refine TW.seq fun Y13 hY13 => TW.region ?_
 refine TL.p Pu.as ?_
 refine TL.nil (TQ.thenN (hY13 _ _ ?_))
 refine TW.ret ?_
 refine TQ.thenR ?_
 refine TQ.ret Tryz.results109 rfl ((.tmp rfl .nil)) ?_
 exact fun w hw => ⟨ret_int (by unfold cmpV; rw [if_neg h1, if_pos h2]), Chg.ext hw.chg⟩
 try simp only [zcb9] at hc4
 have h2 : ¬ b < a := by omega
 refine TW.skip ?_
 refine TQ.thenN (hY11 _ _ ?_)
 refine TW.seq fun Y14 hY14 => TW.region ?_
 refine TL.p Pu.as ?_
 refine TL.nil (TQ.thenN (hY14 _ _ ?_))
 refine TW.ret ?_
 refine TQ.ret Tryz.results109 rfl ((.tmp rfl .nil)) ?_
 exact fun w hw => ⟨ret_int (by unfold cmpV; rw [if_neg h1, if_neg h2]), Chg.ext hw.chg⟩
theorem drop_get {L : List Int} {k : Nat} (h : k < L.length) : L.drop k = L.getD k 0 :: L.drop (k + 1) := by
 rw [List.drop_eq_getElem_cons h]
 simp [List.getD_eq_getElem?_getD, h]
theorem compareI_any {w : World} {A B : Option Addr} {n m cp cq : Nat} {L M : List Int} (hn : n = L.length) (hm : m = M.length) (h1 : n ≤ 1000000) (h2 : m ≤ 1000000) (hR : RdR w 1 A n (iL L)) (hS : RdR w 1 B m (iL M)) :
  Calls Tryz.prog 73 #[.slice A n cp, .slice B m cq] w (Ret w (.int .i64 (cmpI L M))) := by
 subst hn hm
 refine K_enter (S := []) (K := []) Tryz.func73 rfl Tryz.ntmps73 rfl (Sat.start _) ?_
 refine TW.seq fun Y1 hY1 => TW.region ?_
 refine TL.p Pu.as ?_
 refine TL.nil (TQ.thenN (hY1 _ _ ?_))
 refine TW.seq fun Y2 hY2 => ?_
 refine TW.seq fun Y3 hY3 => TW.region ?_
 refine TL.p Pu.mv ?_
 refine TL.p (Pu.ln Tryz.underlying33) ?_
 refine TL.p Pu.mv ?_
 refine TL.nil (TQ.thenN (hY3 _ _ ?_))
 refine TW.block ?_
 refine TW.loop1 (fun (k : Nat) => [(11, .int .i64 (k : Int)), (10, .int .i64 (L.length : Int)), (9, .slice A L.length cp), (0, .slice A L.length cp), (1, .slice B M.length cq)]) (fun k => []) (fun k => k ≤ L.length ∧ k ≤ M.length ∧ cmpI L M = cmpI (L.drop k) (M.drop k)) (fun k => L.length - k) 0 fs9 ?_ ?_ ?_
 exact ks9
 exact ⟨Nat.zero_le _, Nat.zero_le _, rfl⟩
 rintro k ⟨hk, hkm, he⟩ Z0 hZ0
 refine TW.seq fun Y4 hY4 => TW.region ?_
 refine TL.p Pu.lt ?_
 refine TL.nil (TQ.thenN (hY4 _ _ ?_))
 refine TW.seq fun Y5 hY5 => ?_
 refine TW.cond rfl (fun hc0 => ?_) (fun hc0 => ?_)
 try simp only [zcb9] at hc0
 have hkn : k < L.length := by omega
 have dL := drop_get hkn
 refine TW.skip ?_
 refine TQ.thenN (hY5 _ _ ?_)
 refine TW.seq fun Y6 hY6 => ?_
 refine TW.block ?_
 refine TW.seq fun Y7 hY7 => TW.region ?_
 refine TL.p Pu.mv ?_
 refine TL.p (Pu.el ty_et33) ?_
 refine TL.p (Pu.ld ty_sc3) ?_
 refine TL.p Pu.as ?_
 refine TL.p Pu.as ?_
 refine TL.nil (TQ.thenN (hY7 _ _ ?_))
 refine TW.seq fun Y8 hY8 => ?_
 refine TW.seq fun Y9 hY9 => TW.region ?_
 refine TL.p Pu.mv ?_
 refine TL.p Pu.mv ?_
 refine TL.p (Pu.ln Tryz.underlying33) ?_
 refine TL.p Pu.ge ?_
 refine TL.nil (TQ.thenN (hY9 _ _ ?_))
 refine TW.cond rfl (fun hc1 => ?_) (fun hc1 => ?_)
 try simp only [zcb9] at hc1
 have dM : M.drop k = [] := List.drop_eq_nil_of_le (by omega)
 refine TW.seq fun Y10 hY10 => TW.region ?_
 refine TL.p Pu.as ?_
 refine TL.nil (TQ.thenN (hY10 _ _ ?_))
 refine TW.ret ?_
 refine TQ.thenR ?_
 refine TQ.blkR ?_
 refine TQ.thenR ?_
 refine TQ.thenR ?_
 refine TQ.blkR ?_
 refine TQ.thenR ?_
 refine TQ.ret Tryz.results73 rfl ((.tmp rfl .nil)) ?_
 exact fun w hw => ⟨ret_int (by rw [he, dL, dM]; rfl), Chg.ext hw.chg⟩
 try simp only [zcb9] at hc1
 have hkm2 : k < M.length := by omega
 have dM := drop_get hkm2
 refine TW.skip ?_
 refine TQ.thenN (hY8 _ _ ?_)
 refine TW.seq fun Y11 hY11 => TW.region ?_
 refine TL.p Pu.mv ?_
 refine TL.p Pu.mv ?_
 refine TL.p (Pu.el ty_et33) ?_
 refine TL.p (Pu.ld ty_sc3) ?_
 refine TL.p Pu.as ?_
 refine TL.nil (TQ.thenN (hY11 _ _ ?_))
 refine TW.seq fun Y12 hY12 => TW.region ?_
 refine TL.p Pu.mv ?_
 refine TL.p Pu.mv ?_
 refine TL.cr rfl (enters Tryz.func109 rfl rfl) (fun w hw => by
   exact compare_any _ _ _) ?_
 refine TL.p Pu.as ?_
 refine TL.nil (TQ.thenN (hY12 _ _ ?_))
 refine TW.seq fun Y13 hY13 => TW.region ?_
 refine TL.p Pu.mv ?_
 refine TL.p Pu.ne ?_
 refine TL.nil (TQ.thenN (hY13 _ _ ?_))
 refine TW.cond rfl (fun hc2 => ?_) (fun hc2 => ?_)
 try simp only [zcb9] at hc2
 have hv : cmpV (L.getD k 0) (M.getD k 0) ≠ 0 := by simpa using hc2
 refine TW.seq fun Y14 hY14 => TW.region ?_
 refine TL.p Pu.mv ?_
 refine TL.p Pu.as ?_
 refine TL.nil (TQ.thenN (hY14 _ _ ?_))
 refine TW.ret ?_
 refine TQ.blkR ?_
 refine TQ.thenR ?_
 refine TQ.thenR ?_
 refine TQ.blkR ?_
 refine TQ.thenR ?_
 refine TQ.ret Tryz.results73 rfl ((.tmp rfl .nil)) ?_
 exact fun w hw => ⟨ret_int (by rw [he, dL, dM]; simp only [cmpI, if_neg hv]), Chg.ext hw.chg⟩
 try simp only [zcb9] at hc2
 have hv : cmpV (L.getD k 0) (M.getD k 0) = 0 := by simpa using hc2
 refine TW.skip ?_
 refine TQ.blkN ?_
 refine TQ.thenN (hY6 _ _ ?_)
 refine TW.region ?_
 refine TL.p Pu.ad ?_
 refine TL.p Pu.mv ?_
 refine TL.nil ?_
 refine TQ.thenN (hZ0 (k + 1) _ _ ?_ ?_ fs9 ?_)
 exact ⟨by omega, by omega, by rw [he, dL, dM]; simp only [cmpI, if_pos hv]⟩
 exact zom9
 exact ks9
 try simp only [zcb9] at hc0
 have hkn : k = L.length := by omega
 refine TW.exit ?_
 refine TQ.thenX ?_
 refine TQ.thenX ?_
 refine TQ.blkX ?_
 refine TQ.thenN (hY2 _ _ ?_)
 refine TW.seq fun Y15 hY15 => ?_
 refine TW.seq fun Y16 hY16 => TW.region ?_
 refine TL.p Pu.mv ?_
 refine TL.p (Pu.ln Tryz.underlying33) ?_
 refine TL.p Pu.mv ?_
 refine TL.p (Pu.ln Tryz.underlying33) ?_
 refine TL.p Pu.lt ?_
 refine TL.nil (TQ.thenN (hY16 _ _ ?_))
 refine TW.cond rfl (fun hc3 => ?_) (fun hc3 => ?_)
 try simp only [zcb9] at hc3
 have hlt : L.length < M.length := by omega
 refine TW.seq fun Y17 hY17 => TW.region ?_
 refine TL.p Pu.as ?_
 refine TL.nil (TQ.thenN (hY17 _ _ ?_))
 refine TW.ret ?_
 refine TQ.thenR ?_
 refine TQ.ret Tryz.results73 rfl ((.tmp rfl .nil)) ?_
 exact fun w hw => ⟨ret_int (by rw [he, List.drop_eq_nil_of_le (by omega : L.length ≤ k), drop_get (L := M) (by omega)]; rfl), Chg.ext hw.chg⟩
 try simp only [zcb9] at hc3
 have hlt : ¬ L.length < M.length := by omega
 refine TW.skip ?_
 refine TQ.thenN (hY15 _ _ ?_)
 refine TW.seq fun Y18 hY18 => TW.region ?_
 refine TL.p Pu.as ?_
 refine TL.nil (TQ.thenN (hY18 _ _ ?_))
 refine TW.ret ?_
 refine TQ.ret Tryz.results73 rfl ((.tmp rfl .nil)) ?_
 exact fun w hw => ⟨ret_int (by rw [he, List.drop_eq_nil_of_le (by omega : L.length ≤ k), List.drop_eq_nil_of_le (by omega : M.length ≤ k)]; rfl), Chg.ext hw.chg⟩
end Go.Proofs.YtceokmaddbdnfaaGreat
namespace Go.Proofs.YtceokmaddbdnfaaGreat
set_option linter.all false
set_option linter.unusedVariables false
set_option linter.unusedSimpArgs false
def spK (s : Nat) : Nat → List Int
 | 0 => []
 | k + 1 => if s / 2 ^ k % 2 = 1 then spK s k ++ [(k : Int)] else spK s k
theorem spK_len {s : Nat} : ∀ k, (spK s k).length ≤ k
 | 0 => Nat.le_refl _
 | k + 1 => by
  have := spK_len (s := s) k
  simp only [spK]
  split
  · simp only [List.length_append, List.length_singleton]; omega
  · omega
def smB (H : Hd) (at_ i s : Nat) : Bool := allB 8 fun k => !decide (s / 2 ^ k % 2 = 1) || decide (sgH H i k = sgH H at_ k)
def toldB (H : Hd) (at_ s : Nat) : Bool := allB H.n fun i => decide (i = at_) || !smB H at_ i s
def telK (H : Hd) (at_ : Nat) : Nat → List Int × Nat
 | 0 => ([], 9)
 | k + 1 => if (decide ((spK k 8).length ≤ (telK H at_ k).2) && (decide ((spK k 8).length < (telK H at_ k).2) || decide (cmpI (spK k 8) (telK H at_ k).1 < 0)) && toldB H at_ k) = true then (spK k 8, (spK k 8).length) else telK H at_ k
def relK (H : Hd) (at_ : Nat) : Nat → List Int
 | 0 => spK 255 8
 | k + 1 => if (toldB H at_ k && (decide ((spK k 8).length < (relK H at_ k).length) || (decide ((spK k 8).length = (relK H at_ k).length) && ltL (spK k 8) (relK H at_ k)))) = true then spK k 8 else relK H at_ k
theorem sp_few : ∀ k, k < 255 → (spK k 8).length < 8 := by decide +kernel
theorem sp_all : (spK 255 8).length = 8 := by decide +kernel
theorem ltL_self : ∀ {l : List Int}, ltL l l = false
 | [] => rfl
 | a :: l => by simp only [ltL, if_pos]; exact ltL_self
theorem tel_rel {H : Hd} {at_ : Nat} : ∀ k, k ≤ 255 → ((telK H at_ k).2 = 9 ∧ relK H at_ k = spK 255 8) ∨ ((telK H at_ k).2 = (telK H at_ k).1.length ∧ relK H at_ k = (telK H at_ k).1)
  | 0, _ => .inl ⟨rfl, rfl⟩
  | k + 1, hk => by
    have h8 := sp_few k (by omega)
    simp only [telK, relK]
    rcases tel_rel (H := H) (at_ := at_) k (by omega) with ⟨h1, h2⟩ | ⟨h1, h2⟩
    · rw [h1, h2, sp_all]
      by_cases ht : toldB H at_ k = true
      · rw [if_pos (by rw [ht, decide_eq_true (show (spK k 8).length ≤ 9 by omega), decide_eq_true (show (spK k 8).length < 9 by omega)]; rfl), if_pos (by rw [ht, decide_eq_true h8]; rfl)]
        exact .inr ⟨rfl, rfl⟩
      · rw [if_neg (by simp [ht]), if_neg (by simp [ht])]
        exact .inl ⟨h1, rfl⟩
    · rw [h1, h2]
      have e : (decide ((spK k 8).length ≤ (telK H at_ k).1.length) && (decide ((spK k 8).length < (telK H at_ k).1.length) || decide (cmpI (spK k 8) (telK H at_ k).1 < 0)) && toldB H at_ k) = (toldB H at_ k && (decide ((spK k 8).length < (telK H at_ k).1.length) || (decide ((spK k 8).length = (telK H at_ k).1.length) && ltL (spK k 8) (telK H at_ k).1))) := by
        rw [Bool.and_comm]
        congr 1
        by_cases e1 : (spK k 8).length < (telK H at_ k).1.length
        · rw [decide_eq_true e1, decide_eq_true (Nat.le_of_lt e1)]; rfl
        · rw [decide_eq_false e1, Bool.false_or, Bool.false_or]
          by_cases e2 : (spK k 8).length = (telK H at_ k).1.length
          · rw [decide_eq_true e2, decide_eq_true (Nat.le_of_eq e2), Bool.true_and, Bool.true_and]
            have h9 := cmp_lt e2
            cases hl : ltL (spK k 8) (telK H at_ k).1 with
            | false => have := h9.2 hl; exact decide_eq_false (by omega)
            | true =>
              refine decide_eq_true ?_
              by_cases h0 : 0 ≤ cmpI (spK k 8) (telK H at_ k).1
              · have := h9.1 h0; rw [hl] at this; cases this
              · omega
          · rw [decide_eq_false e2, decide_eq_false (show ¬ (spK k 8).length ≤ (telK H at_ k).1.length by omega)]; rfl
      rw [e]
      split
      · exact .inr ⟨rfl, rfl⟩
      · exact .inr ⟨h1, rfl⟩
theorem tel_end {H : Hd} {at_ : Nat} (h : toldB H at_ 255 = true) : relK H at_ 256 = (telK H at_ 256).1 := by
 show relK H at_ (255 + 1) = (telK H at_ (255 + 1)).1
 rw [relK, telK]
 rcases tel_rel (H := H) (at_ := at_) 255 (Nat.le_refl _) with ⟨h1, h2⟩ | ⟨h1, h2⟩
 · rw [h1, h2, h, sp_all]
   simp [ltL_self]
 · rw [h2, h, h1]
   by_cases e1 : (spK 255 8).length < (telK H at_ 255).1.length
   · rw [if_pos (by rw [decide_eq_true e1]; rfl), if_pos (by rw [decide_eq_true e1, decide_eq_true (Nat.le_of_lt e1)]; rfl)]
   · by_cases e2 : (spK 255 8).length = (telK H at_ 255).1.length
     · have h9 := cmp_lt e2
       cases hl : ltL (spK 255 8) (telK H at_ 255).1 with
       | false =>
        have := h9.2 hl
        rw [if_neg (by simp [e1, hl]), if_neg (by simp [e1]; intro _; omega)]
       | true =>
        have h0 : ¬ 0 ≤ cmpI (spK 255 8) (telK H at_ 255).1 := fun h0 => by have := h9.1 h0; rw [hl] at this; cases this
        rw [if_pos (by simp [e2, hl]), if_pos (by simp [e2]; omega)]
     · rw [if_neg (by simp [e1, e2]), if_neg (by simp; intro h8; omega)]
theorem telK_len {H : Hd} {at_ : Nat} : ∀ k, (telK H at_ k).1.length ≤ 8 ∧ (telK H at_ k).2 ≤ 9
 | 0 => by simp [telK]
 | k + 1 => by
  have := spK_len (s := k) 8
  simp only [telK]
  split
  · exact ⟨this, by show (spK k 8).length ≤ 9; omega⟩
  · exact telK_len k
theorem relK_len {H : Hd} {at_ : Nat} : ∀ k, (relK H at_ k).length ≤ 8
 | 0 => spK_len 8
 | k + 1 => by
  have := spK_len (s := k) 8
  simp only [relK]
  split
  · exact this
  · exact relK_len k
def telC (H : Hd) (id : Int) : Int := if herdB H then (if 0 ≤ atH H id then (if toldB H (atH H id).toNat 255 then 0 else 6) else 2) else 20
def telL (H : Hd) (id : Int) : List Int := if telC H id = 0 then (telK H (atH H id).toNat 256).1 else []
end Go.Proofs.YtceokmaddbdnfaaGreat
namespace Go.Proofs.YtceokmaddbdnfaaGreat
set_option linter.all false
set_option linter.unusedVariables false
set_option linter.unusedSimpArgs false
open Go.RowKit
set_option maxRecDepth 100000 in
theorem bSameInts_any {w : World} {A B : Option Addr} {n c1 c2 : Nat} {v : Nat → Int} (hn : n ≤ 1000000) (hA : RdR w 1 A n (fun j => [.int .i64 (v j)])) (hB : RdR w 1 B n (fun j => [.int .i64 (v j)])) :
  Calls Tryz.prog 22 #[.slice A n c1, .slice B n c2] w (Ret w (.bool true)) := by
 refine K_enter (S := []) (K := []) Tryz.func22 rfl Tryz.ntmps22 rfl (Sat.start _) ?_
 refine TW.seq fun Y1 hY1 => TW.region ?_
 refine TL.p Pu.as ?_
 refine TL.nil (TQ.thenN (hY1 _ _ ?_))
 refine TW.seq fun Y2 hY2 => ?_
 refine TW.seq fun Y3 hY3 => TW.region ?_
 refine TL.p Pu.mv ?_
 refine TL.p (Pu.ln Tryz.underlying33) ?_
 refine TL.p Pu.mv ?_
 refine TL.p (Pu.ln Tryz.underlying33) ?_
 refine TL.p Pu.ne ?_
 refine TL.nil (TQ.thenN (hY3 _ _ ?_))
 refine TW.condF rfl ((by simp)) ?_
 refine TW.skip ?_
 refine TQ.thenN (hY2 _ _ ?_)
 refine TW.seq fun Y4 hY4 => ?_
 refine TW.seq fun Y5 hY5 => TW.region ?_
 refine TL.p Pu.as ?_
 refine TL.nil (TQ.thenN (hY5 _ _ ?_))
 refine TW.block ?_
 refine TW.loop1 (fun (k : Nat) => [(5, .int .i64 (k : Int)), (0, .slice A n c1), (1, .slice B n c2)]) (fun k => []) (fun k => k ≤ n) (fun k => n - k) 0 fs9 ?_ ?_ ?_
 exact ks9
 exact Nat.zero_le _
 rintro k hk Z0 hZ0
 refine TW.seq fun Y6 hY6 => ?_
 refine TW.seq fun Y7 hY7 => TW.region ?_
 refine TL.p Pu.mv ?_
 refine TL.p Pu.mv ?_
 refine TL.p (Pu.ln Tryz.underlying33) ?_
 refine TL.p Pu.lt ?_
 refine TL.nil (TQ.thenN (hY7 _ _ ?_))
 refine TW.cond rfl (fun hc1 => ?_) (fun hc1 => ?_)
 try simp only [zcb9] at hc1
 refine TW.skip ?_
 refine TQ.thenN (hY6 _ _ ?_)
 refine TW.seq fun Y8 hY8 => ?_
 refine TW.block ?_
 refine TW.seq fun Y9 hY9 => ?_
 refine TW.dw 9 ?_
 refine RK.tk Pu.mv ?_
 refine RK.tk Pu.mv ?_
 refine RK.tk (Pu.el ty_et33) ?_
 refine RK.tk (Pu.ld ty_sc3) ?_
 refine RK.tk Pu.mv ?_
 refine RK.tk Pu.mv ?_
 refine RK.tk (Pu.el ty_et33) ?_
 refine RK.tk (Pu.ld ty_sc3) ?_
 refine RK.tk Pu.ne ?_
 refine RK.ch [] ?_ trivial
 refine WK.n ?_
 refine TL.nil (TQ.thenN (hY9 _ _ ?_))
 refine TW.condF rfl ((by simp)) ?_
 refine TW.skip ?_
 refine TQ.blkN ?_
 refine TQ.thenN (hY8 _ _ ?_)
 refine TW.region ?_
 refine TL.p Pu.mv ?_
 refine TL.p Pu.ad ?_
 refine TL.p Pu.as ?_
 refine TL.nil ?_
 refine TQ.thenN (hZ0 (k + 1) _ _ ?_ ?_ fs9 ?_)
 exact (by omega)
 exact zom9
 exact ks9
 try simp only [zcb9] at hc1
 refine TW.exit ?_
 refine TQ.thenX ?_
 refine TQ.thenX ?_
 refine TQ.blkX ?_
 refine TQ.thenN (hY4 _ _ ?_)
 refine TW.seq fun Y10 hY10 => TW.region ?_
 refine TL.p Pu.as ?_
 refine TL.nil (TQ.thenN (hY10 _ _ ?_))
 refine TW.ret ?_
 refine TQ.ret Tryz.results22 rfl ((.tmp rfl .nil)) ?_
 exact fun w hw => Ret.of hw
def greatH (H : Hd) : Bool := decide ((20 : Int) < (H.n : Int)) || anyB H.n fun i => decide ((12 : Int) < (H.ml i : Int))
set_option maxRecDepth 100000 in
theorem rGreat_any {w : World} {A : Option Addr} {cp : Nat} {H : Hd} {a : Nat → Option Addr} {c : Nat → Nat} (hR : RdR w 5 A H.n (fun i => anL H a c i)) :
  Calls Tryz.prog 13 #[.slice A H.n cp] w (Ret w (.bool (greatH H))) := by
 refine K_enter (S := []) (K := []) Tryz.func13 rfl Tryz.ntmps13 rfl (Sat.start _) ?_
 refine TW.seq fun Y1 hY1 => TW.region ?_
 refine TL.p Pu.as ?_
 refine TL.nil (TQ.thenN (hY1 _ _ ?_))
 refine TW.seq fun Y2 hY2 => ?_
 refine TW.seq fun Y3 hY3 => TW.region ?_
 refine TL.p Pu.mv ?_
 refine TL.p (Pu.ln Tryz.underlying22) ?_
 refine TL.p Pu.gt ?_
 refine TL.nil (TQ.thenN (hY3 _ _ ?_))
 refine TW.cond rfl (fun hc0 => ?_) (fun hc0 => ?_)
 try simp only [zcb9] at hc0
 have hg : greatH H = true := by unfold greatH; rw [decide_eq_true hc0]; rfl
 refine TW.seq fun Y4 hY4 => TW.region ?_
 refine TL.p Pu.as ?_
 refine TL.nil (TQ.thenN (hY4 _ _ ?_))
 refine TW.ret ?_
 refine TQ.thenR ?_
 refine TQ.ret Tryz.results13 rfl ((.tmp rfl .nil)) ?_
 exact fun w hw => ⟨by rw [hg]; rfl, Chg.ext hw.chg⟩
 try simp only [zcb9] at hc0
 have h20 : ¬ (20 : Int) < (H.n : Int) := by omega
 refine TW.skip ?_
 refine TQ.thenN (hY2 _ _ ?_)
 refine TW.seq fun Y5 hY5 => ?_
 refine TW.seq fun Y6 hY6 => TW.region ?_
 refine TL.p Pu.as ?_
 refine TL.nil (TQ.thenN (hY6 _ _ ?_))
 refine TW.block ?_
 refine TW.loop1 (fun (k : Nat) => [(3, .int .i64 (k : Int)), (0, .slice A H.n cp)]) (fun k => []) (fun k => k ≤ H.n ∧ ∀ j, j < k → ¬ (12 : Int) < (H.ml j : Int)) (fun k => H.n - k) 0 fs9 ?_ ?_ ?_
 exact ks9
 exact ⟨Nat.zero_le _, fun j hj => by omega⟩
 rintro k ⟨hk, hno⟩ Z0 hZ0
 refine TW.seq fun Y7 hY7 => ?_
 refine TW.seq fun Y8 hY8 => TW.region ?_
 refine TL.p Pu.mv ?_
 refine TL.p Pu.mv ?_
 refine TL.p (Pu.ln Tryz.underlying22) ?_
 refine TL.p Pu.lt ?_
 refine TL.nil (TQ.thenN (hY8 _ _ ?_))
 refine TW.cond rfl (fun hc1 => ?_) (fun hc1 => ?_)
 try simp only [zcb9] at hc1
 have hkn : k < H.n := by omega
 refine TW.skip ?_
 refine TQ.thenN (hY7 _ _ ?_)
 refine TW.seq fun Y9 hY9 => ?_
 refine TW.block ?_
 refine TW.seq fun Y10 hY10 => TW.region ?_
 refine TL.p Pu.mv ?_
 refine TL.p Pu.mv ?_
 refine TL.p (Pu.el ty_et22) ?_
 refine TL.p (by first | exact Pu.fb ty_fa65_3 | exact Pu.fe ty_fa65_3) ?_
 refine TL.p (Pu.ld ty_sc63) ?_
 refine TL.p (Pu.ln Tryz.underlying63) ?_
 refine TL.p Pu.gt ?_
 refine TL.nil (TQ.thenN (hY10 _ _ ?_))
 refine TW.cond rfl (fun hc2 => ?_) (fun hc2 => ?_)
 try simp only [zcb9] at hc2
 have hg : greatH H = true := by unfold greatH; rw [Bool.or_eq_true]; exact .inr (anyB_iff.2 ⟨k, hkn, decide_eq_true hc2⟩)
 refine TW.seq fun Y11 hY11 => TW.region ?_
 refine TL.p Pu.as ?_
 refine TL.nil (TQ.thenN (hY11 _ _ ?_))
 refine TW.ret ?_
 refine TQ.blkR ?_
 refine TQ.thenR ?_
 refine TQ.thenR ?_
 refine TQ.blkR ?_
 refine TQ.thenR ?_
 refine TQ.ret Tryz.results13 rfl ((.tmp rfl .nil)) ?_
 exact fun w hw => ⟨by rw [hg]; rfl, Chg.ext hw.chg⟩
 try simp only [zcb9] at hc2
 have hnk : ¬ (12 : Int) < (H.ml k : Int) := by omega
 refine TW.skip ?_
 refine TQ.blkN ?_
 refine TQ.thenN (hY9 _ _ ?_)
 refine TW.region ?_
 refine TL.p Pu.mv ?_
 refine TL.p Pu.ad ?_
 refine TL.p Pu.as ?_
 refine TL.nil ?_
 refine TQ.thenN (hZ0 (k + 1) _ _ ?_ ?_ fs9 ?_)
 refine ⟨by omega, fun j hj => ?_⟩
 by_cases e : j = k
 subst e; exact hnk
 exact hno j (by omega)
 exact zom9
 exact ks9
 try simp only [zcb9] at hc1
 have hg : greatH H = false := by
  unfold greatH
  rw [decide_eq_false h20, Bool.false_or, anyB_false]
  exact fun j hj => decide_eq_false (hno j (by omega))
 refine TW.exit ?_
 refine TQ.thenX ?_
 refine TQ.thenX ?_
 refine TQ.blkX ?_
 refine TQ.thenN (hY5 _ _ ?_)
 refine TW.seq fun Y12 hY12 => TW.region ?_
 refine TL.p Pu.as ?_
 refine TL.nil (TQ.thenN (hY12 _ _ ?_))
 refine TW.ret ?_
 refine TQ.ret Tryz.results13 rfl ((.tmp rfl .nil)) ?_
 exact fun w hw => ⟨by rw [hg]; rfl, Chg.ext hw.chg⟩
theorem great_in {H : Hd} (h : greatH H = false) : H.n ≤ 20 ∧ ∀ i, i < H.n → H.ml i ≤ 12 := by
 unfold greatH at h
 rw [Bool.or_eq_false_iff, anyB_false] at h
 obtain ⟨h1, h2⟩ := h
 have h1 := of_decide_eq_false h1
 refine ⟨by omega, fun i hi => ?_⟩
 have := of_decide_eq_false (h2 i hi)
 omega
end Go.Proofs.YtceokmaddbdnfaaGreat
