/-
  Part 8 of the proof of tollExamples_holds: declarations of several texts, in build order. No condition on a program.
-/
import Derived.Test.YtfaenhhgkhcghaaGreatDoorEx07
import Derived.Test.YtfaenhhgkhcghaaGreatDoorEx06
import Derived.Test.YtfaenhhgkhcghaaGreatDoorEx03
namespace Go.Proofs.YtfaenhhgkhcghaaGreatDoor
set_option linter.all false
set_option linter.unusedVariables false
set_option linter.unusedSimpArgs false
open Go.RowKit
def rulV (Z : Cus) (k : Nat) : Value :=
 if k < Z.nc then .iface 116 (.agg (claimL (Z.c k)).toArray)
 else if k < Z.nc + Z.nd then .iface 119 (.agg (feudL (Z.d (k - Z.nc))).toArray)
 else .iface 122 (.agg (borderL (Z.b (k - Z.nc - Z.nd))).toArray)
def rulA (Z : Cus) (k : Nat) : Int := if k < Z.nc then (Z.c k).1 2 else if k < Z.nc + Z.nd then Z.d (k - Z.nc) 2 else Z.b (k - Z.nc - Z.nd) 1
def rulE (Z : Cus) (k : Nat) : Int := if k < Z.nc then (Z.c k).1 3 else if k < Z.nc + Z.nd then Z.d (k - Z.nc) 3 else Z.b (k - Z.nc - Z.nd) 2
theorem rul_meth (Z : Cus) (k : Nat) : ∃ (Ty : TypeId) (u : Value) (f : FuncId), rulV Z k = .iface Ty u ∧ Meth Tryz.prog Ty "azalai/toll.days" f ∧ Enters Tryz.prog f ∧ ∀ w, Calls Tryz.prog f #[u] w (Ret w (.tuple #[.int .i64 (rulA Z k), .int .i64 (rulE Z k)])) := by
 unfold rulV rulA rulE
 by_cases h1 : k < Z.nc
 · simp only [if_pos h1]
   exact ⟨_, _, _, rfl, claimMeth, enters Tryz.func188 rfl rfl, fun w => claimDays_any _ w⟩
 · simp only [if_neg h1]
   by_cases h2 : k < Z.nc + Z.nd
   · simp only [if_pos h2]
     exact ⟨_, _, _, rfl, feudMeth, enters Tryz.func189 rfl rfl, fun w => feudDays_any _ w⟩
   · simp only [if_neg h2]
     exact ⟨_, _, _, rfl, borderMeth, enters Tryz.func190 rfl rfl, fun w => borderDays_any _ w⟩
theorem rulE_bd {Z : Cus} (hok : CusOk Z) {k : Nat} (hk : k < Z.nc + Z.nd + Z.nb) : 0 ≤ rulE Z k ∧ rulE Z k ≤ 100000 := by
 unfold rulE
 split
 · have := hok.c k (by omega); omega
 · split
   · have := hok.d (k - Z.nc) (by omega); omega
   · have := hok.b (k - Z.nc - Z.nd) (by omega); omega
theorem prs_add {f g : Nat → Int} {m : Nat} : ∀ n, prsL f g (m + n) = prsL f g m ++ prsL (fun k => f (m + k)) (fun k => g (m + k)) n
 | 0 => by simp [prsL]
 | n + 1 => by
  show prsL f g (m + n) ++ [f (m + n), g (m + n)] = _
  rw [prs_add n]
  simp [prsL]
theorem prs_congr {f g f' g' : Nat → Int} : ∀ n, (∀ k, k < n → f k = f' k ∧ g k = g' k) → prsL f g n = prsL f' g' n
 | 0, _ => rfl
 | n + 1, h => by
  simp only [prsL]
  rw [prs_congr n fun k hk => h k (by omega), (h n (by omega)).1, (h n (by omega)).2]
def rulP (Z : Cus) (lo : Int) (k : Nat) : List Int := ([lo] : List Int) ++ prsL (rulA Z) (fun k => rulE Z k + 1) k
theorem rulP_s {Z : Cus} {lo : Int} {k : Nat} : rulP Z lo (k + 1) = rulP Z lo k ++ [rulA Z k, rulE Z k + 1] := by simp [rulP, prsL]
theorem rulP_len {Z : Cus} {lo : Int} {k : Nat} : (rulP Z lo k).length = 1 + 2 * k := by simp [rulP, prs_len]; omega
theorem rulP_all {Z : Cus} {lo : Int} : rulP Z lo (Z.nc + Z.nd + Z.nb) = rulZ Z lo := by
 unfold rulP rulZ rulL
 rw [prs_add, prs_add]
 have e1 : prsL (rulA Z) (fun k => rulE Z k + 1) Z.nc = prsL (fun k => (Z.c k).1 2) (fun k => (Z.c k).1 3 + 1) Z.nc := prs_congr _ fun k hk => by
  unfold rulA rulE; rw [if_pos hk, if_pos hk]; exact ⟨rfl, rfl⟩
 have e2 : prsL (fun k => rulA Z (Z.nc + k)) (fun k => rulE Z (Z.nc + k) + 1) Z.nd = prsL (fun k => Z.d k 2) (fun k => Z.d k 3 + 1) Z.nd := prs_congr _ fun k hk => by
  unfold rulA rulE
  rw [if_neg (by omega), if_pos (by omega), if_neg (by omega), if_pos (by omega), show Z.nc + k - Z.nc = k by omega]; exact ⟨rfl, rfl⟩
 have e3 : prsL (fun k => rulA Z (Z.nc + Z.nd + k)) (fun k => rulE Z (Z.nc + Z.nd + k) + 1) Z.nb = prsL (fun k => Z.b k 1) (fun k => Z.b k 2 + 1) Z.nb := prs_congr _ fun k hk => by
  unfold rulA rulE
  rw [if_neg (by omega), if_neg (by omega), if_neg (by omega), if_neg (by omega), show Z.nc + Z.nd + k - Z.nc - Z.nd = k by omega]; exact ⟨rfl, rfl⟩
 rw [e1, e2, e3]
 simp only [List.append_assoc]
theorem filter_takeT {L : List Int} {p : Int → Bool} {k : Nat} (h : k < L.length) : (L.take (k + 1)).filter p = if p (L.getD k 0) = true then (L.take k).filter p ++ [L.getD k 0] else (L.take k).filter p := by
 rw [take_succ h, List.filter_append]
 by_cases hp : p (L.getD k 0) = true
 · rw [if_pos hp]; simp only [List.filter_cons, hp, if_true, List.filter_nil]
 · rw [if_neg hp]; simp only [List.filter_cons, hp, Bool.false_eq_true, if_false, List.filter_nil, List.append_nil]
theorem filter_at {L : List Int} {p : Int → Bool} {k : Nat} (h : k < L.length) (hp : p (L.getD k 0) = true) : ((L.take k).filter p).length < (L.filter p).length ∧ (L.filter p).getD ((L.take k).filter p).length 0 = L.getD k 0 := by
 have e : L.filter p = (L.take (k + 1)).filter p ++ (L.drop (k + 1)).filter p := by rw [← List.filter_append, List.take_append_drop]
 rw [filter_takeT h, if_pos hp] at e
 rw [e]
 refine ⟨by simp only [List.length_append, List.length_cons]; omega, ?_⟩
 simp [List.getD_eq_getElem?_getD]
def cdA (Z : Cus) (lo : Int) : List Int := cmpL (srt (rulZ Z lo))
theorem cdA_len {Z : Cus} {lo : Int} (h1 : Z.nc ≤ 30) (h2 : Z.nd ≤ 20) (h3 : Z.nb ≤ 20) : (cdA Z lo).length ≤ 6001 := by
 have := cmpL_le (srt (rulZ Z lo))
 rw [srt_len] at this
 exact Nat.le_trans this (rulZ_len (by omega) (by omega) (by omega))
def cdZ (Z : Cus) (lo hi : Int) : List Int := (cdA Z lo).filter (inB5 lo hi)
theorem cdZ_mem {Z : Cus} {lo hi t : Int} : t ∈ tuD Z lo hi ↔ t ∈ cdZ Z lo hi := tu_cd
section
variable {Z : Cus} {C D B : Option Addr} {cc cd cb : Nat} {w : World}
def chgM (C : Option Addr) (cc : Nat) (D : Option Addr) (cd : Nat) (B : Option Addr) (cb : Nat) (Z : Cus) (lo hi : Int) (x : Nat × Nat × Nat) : List Fact := [.blk x.1 30 (custL C Z.nc cc D Z.nd cd B Z.nb cb), .blk x.2.1 3 [.int .i64 lo], .blk x.2.2 3 [.int .i64 hi]]
theorem cChanges_any (lo hi : Int) : CallsK Tryz.prog 120 #[.agg (custL C Z.nc cc D Z.nd cd B Z.nb cb).toArray, .int .i64 lo, .int .i64 hi] [] w (Nat × Nat × Nat) (fun y => .func (.func 147) #[] #[.pointer (some ⟨y.1, 0, none⟩), .pointer (some ⟨y.2.1, 0, none⟩), .pointer (some ⟨y.2.2, 0, none⟩)]) (fun y => chgM C cc D cd B cb Z lo hi y) := by
 unfold chgM custL
 refine K_enter (S := []) (K := []) Tryz.func120 rfl Tryz.ntmps120 rfl (Sat.start _) ?_
 refine TW.seq fun Y1 hY1 => TW.region ?_
 refine TL.m Mk.bx ?_
 intro b1
 refine TL.m Mk.bx ?_
 intro b2
 refine TL.m Mk.bx ?_
 intro b3
 refine TL.p Pu.as ?_
 refine TL.nil (TQ.thenN (hY1 _ _ ?_))
 refine TW.seq fun Y2 hY2 => TW.region ?_
 refine TL.p Pu.fn ?_
 refine TL.p Pu.as ?_
 refine TL.nil (TQ.thenN (hY2 _ _ ?_))
 refine TW.ret ?_
 refine TQ.ret Tryz.results120 rfl ((.tmp rfl .nil)) ?_
 exact fun w hw => ⟨(b1, b2, b3), rfl, hw.sub ks9⟩
def chgY (Z : Cus) (lo hi : Int) (x : Nat × Nat × Nat) (g : Option Addr × Nat) : List Fact := [.own g.1 (cdA Z lo).length g.2 3 1 (iL (cdA Z lo)), .blk x.2.1 3 [.int .i64 lo], .blk x.2.2 3 [.int .i64 hi]]
set_option maxRecDepth 100000 in
set_option maxHeartbeats 4000000 in
theorem changes1_iter {x : Nat × Nat × Nat} {lo hi : Int} {S : List Nat} {W0 : World} {R : Type} {J : Nat → R → List Fact} (hok : CusOk Z) (h : CustIn W0 C Z.nc D Z.nd B Z.nb Z.c Z.d Z.b) (aC : Apart S C) (aD : Apart S D) (aB : Apart S B) :
  IterR Tryz.prog 147 [.pointer (some ⟨x.1, 0, none⟩), .pointer (some ⟨x.2.1, 0, none⟩), .pointer (some ⟨x.2.2, 0, none⟩)] (chgM C cc D cd B cb Z lo hi x) (Option Addr × Nat) (fun q _ => [.int .i64 ((cdZ Z lo hi).getD q 0)]) (fun _ g => chgY Z lo hi x g) (fun _ g => chgY Z lo hi x g) (cdZ Z lo hi).length [] S W0 R J := by
 intro lY Rx Jx r0 w9 hS hround
 have hRC := h.hC
 have hRD := h.hD
 have hRB := h.hB
 have h1 := hok.nc
 have h2 := hok.nd
 have h3 := hok.nb
 have hcd := cdA_len (lo := lo) h1 h2 h3
 obtain ⟨bc, bf, bt⟩ := x
 unfold chgM custL at hS
 unfold chgY at hround
 simp only at hS hround ⊢
 refine K_enterW (S := S) (K := .blk bc 30 [.slice C Z.nc cc, .slice D Z.nd cd, .slice B Z.nb cb] :: .blk bf 3 [.int .i64 lo] :: .blk bt 3 [.int .i64 hi] :: J 0 r0) Tryz.func147 rfl Tryz.ntmps147 rfl hS ?_
 refine TW.seq fun Y1 hY1 => TW.region ?_
 refine TL.p Pu.as ?_
 refine TL.nil (TQ.thenN (hY1 _ _ ?_))
 refine TW.seq fun Y2 hY2 => ?_
 refine TW.seq fun Y3 hY3 => TW.region ?_
 refine TL.p (by first | exact Pu.fb ty_fa30_0 | exact Pu.fe ty_fa30_0) ?_
 refine TL.p (by first | exact (Pu.ld ty_sc26) | exact (Pu.ldo ty_sc26)) ?_
 refine TL.p (Pu.ln Tryz.underlying26) ?_
 refine TL.p Pu.mv ?_
 refine TL.nil (TQ.thenN (hY3 _ _ ?_))
 refine TW.block ?_
 refine TW.loop3 (fun (k : Nat) (E : Option Addr) (ce : Nat) => [(22, .int .i64 (k : Int)), (21, .int .i64 (Z.nc : Int)), (20, .slice C Z.nc cc), (5, .slice E k ce), (0, .func (.yield lY) #[] #[]), (1, .pointer (some ⟨bc, 0, none⟩)), (2, .pointer (some ⟨bf, 0, none⟩)), (3, .pointer (some ⟨bt, 0, none⟩))]) (fun k E ce => .own E k ce 176 1 (fun k => [rulV Z k]) :: .blk bc 30 [.slice C Z.nc cc, .slice D Z.nd cd, .slice B Z.nb cb] :: .blk bf 3 [.int .i64 lo] :: .blk bt 3 [.int .i64 hi] :: J 0 r0) (fun k E ce => k ≤ Z.nc) (fun k E ce => Z.nc - k) 0 none 0 fs9 ?_ ?_ ?_
 exact KSub.nilOwn (KSub.refl _)
 exact Nat.zero_le _
 rintro k E ce hk Z0 hZ0
 refine TW.seq fun Y4 hY4 => TW.region ?_
 refine TL.p Pu.lt ?_
 refine TL.nil (TQ.thenN (hY4 _ _ ?_))
 refine TW.seq fun Y5 hY5 => ?_
 refine TW.cond rfl (fun hc0 => ?_) (fun hc0 => ?_)
 try simp only [zcb9] at hc0
 have hkn : k < Z.nc := by omega
 refine TW.skip ?_
 refine TQ.thenN (hY5 _ _ ?_)
 refine TW.seq fun Y6 hY6 => ?_
 refine TW.block ?_
 refine TW.seq fun Y7 hY7 => TW.region ?_
 refine TL.p (Pu.el ty_et26) ?_
 refine TL.p (by first | exact (Pu.lds ty_ag70) | exact (Pu.ldso ty_ag70)) ?_
 refine TL.m (Mk.al ty_zr70) ?_
 intro b1
 first | refine TL.st ty_sz70 ?_ | refine TL.se ty_sz70 ?_
 refine TL.nil (TQ.thenN (hY7 _ _ ?_))
 refine TW.region ?_
 refine TL.p Pu.mv ?_
 refine TL.p (by first | exact (Pu.lds ty_ag70) | exact (Pu.ldso ty_ag70)) ?_
 refine TL.p Pu.fc ?_
 refine TL.m Mk.bl ?_
 intro b2
 first | refine TL.a0 ty_et211 ?_ | refine TL.ap ty_et211 ?_
 intro A3 c3
 refine TL.p Pu.as ?_
 refine TL.nil ?_
 refine TQ.blkN ?_
 refine TQ.thenN (hY6 _ _ ?_)
 refine TW.region ?_
 refine TL.p Pu.ad ?_
 refine TL.p Pu.mv ?_
 refine TL.nil ?_
 refine TQ.thenN (hZ0 (k + 1) _ _ _ _ ?_ ?_ fs9 ?_)
 exact (by omega)
 exact zom9
 exact KSub.own pk9 (stp_row (r := fun k => [rulV Z k]) (by show _ = [rulV Z k]; unfold rulV; rw [if_pos hkn]; rfl)) (KSub.cons pk9 (KSub.cons pk9 (KSub.cons pk9 (by first | exact KSub.refl _ | exact KSub.drop (KSub.refl _) | exact KSub.drop (KSub.drop (KSub.refl _))))))
 try simp only [zcb9] at hc0
 obtain rfl : k = Z.nc := by omega
 refine TW.exit ?_
 refine TQ.thenX ?_
 refine TQ.thenX ?_
 refine TQ.blkX ?_
 refine TQ.thenN (hY2 _ _ ?_)
 refine TW.seq fun Y8 hY8 => ?_
 refine TW.seq fun Y9 hY9 => TW.region ?_
 refine TL.p (by first | exact Pu.fb ty_fa30_1 | exact Pu.fe ty_fa30_1) ?_
 refine TL.p (by first | exact (Pu.ld ty_sc27) | exact (Pu.ldo ty_sc27)) ?_
 refine TL.p (Pu.ln Tryz.underlying27) ?_
 refine TL.p Pu.mv ?_
 refine TL.nil (TQ.thenN (hY9 _ _ ?_))
 refine TW.block ?_
 refine TW.loop3 (fun (k : Nat) (E : Option Addr) (ce : Nat) => [(35, .int .i64 (k : Int)), (34, .int .i64 (Z.nd : Int)), (33, .slice D Z.nd cd), (5, .slice E (Z.nc + k) ce), (0, .func (.yield lY) #[] #[]), (1, .pointer (some ⟨bc, 0, none⟩)), (2, .pointer (some ⟨bf, 0, none⟩)), (3, .pointer (some ⟨bt, 0, none⟩))]) (fun k E ce => .own E (Z.nc + k) ce 176 1 (fun k => [rulV Z k]) :: .blk bc 30 [.slice C Z.nc cc, .slice D Z.nd cd, .slice B Z.nb cb] :: .blk bf 3 [.int .i64 lo] :: .blk bt 3 [.int .i64 hi] :: J 0 r0) (fun k E ce => k ≤ Z.nd) (fun k E ce => Z.nd - k) 0 E ce fs9 ?_ ?_ ?_
 exact KSub.refl _
 exact Nat.zero_le _
 rintro k E ce hk Z1 hZ1
 refine TW.seq fun Y10 hY10 => TW.region ?_
 refine TL.p Pu.lt ?_
 refine TL.nil (TQ.thenN (hY10 _ _ ?_))
 refine TW.seq fun Y11 hY11 => ?_
 refine TW.cond rfl (fun hc1 => ?_) (fun hc1 => ?_)
 try simp only [zcb9] at hc1
 have hkn : k < Z.nd := by omega
 refine TW.skip ?_
 refine TQ.thenN (hY11 _ _ ?_)
 refine TW.seq fun Y12 hY12 => ?_
 refine TW.block ?_
 refine TW.seq fun Y13 hY13 => TW.region ?_
 refine TL.p (Pu.el ty_et27) ?_
 refine TL.p (by first | exact (Pu.lds ty_ag109) | exact (Pu.ldso ty_ag109)) ?_
 refine TL.m (Mk.al ty_zr109) ?_
 intro b4
 first | refine TL.st ty_sz109 ?_ | refine TL.se ty_sz109 ?_
 refine TL.nil (TQ.thenN (hY13 _ _ ?_))
 refine TW.region ?_
 refine TL.p Pu.mv ?_
 refine TL.p (by first | exact (Pu.lds ty_ag109) | exact (Pu.ldso ty_ag109)) ?_
 refine TL.p Pu.fc ?_
 refine TL.m Mk.bl ?_
 intro b5
 first | refine TL.a0 ty_et211 ?_ | refine TL.ap ty_et211 ?_
 intro A6 c6
 refine TL.p Pu.as ?_
 refine TL.nil ?_
 refine TQ.blkN ?_
 refine TQ.thenN (hY12 _ _ ?_)
 refine TW.region ?_
 refine TL.p Pu.ad ?_
 refine TL.p Pu.mv ?_
 refine TL.nil ?_
 refine TQ.thenN (hZ1 (k + 1) _ _ _ _ ?_ ?_ fs9 ?_)
 exact (by omega)
 exact zom9
 exact KSub.own pk9 (stp_row (r := fun k => [rulV Z k]) (by show _ = [rulV Z (Z.nc + k)]; unfold rulV; rw [if_neg (by omega), if_pos (by omega), show Z.nc + k - Z.nc = k by omega]; rfl)) (KSub.cons pk9 (KSub.cons pk9 (KSub.cons pk9 (by first | exact KSub.refl _ | exact KSub.drop (KSub.refl _) | exact KSub.drop (KSub.drop (KSub.refl _))))))
 try simp only [zcb9] at hc1
 obtain rfl : k = Z.nd := by omega
 refine TW.exit ?_
 refine TQ.thenX ?_
 refine TQ.thenX ?_
 refine TQ.blkX ?_
 refine TQ.thenN (hY8 _ _ ?_)
 refine TW.seq fun Y14 hY14 => ?_
 refine TW.seq fun Y15 hY15 => TW.region ?_
 refine TL.p (by first | exact Pu.fb ty_fa30_2 | exact Pu.fe ty_fa30_2) ?_
 refine TL.p (by first | exact (Pu.ld ty_sc28) | exact (Pu.ldo ty_sc28)) ?_
 refine TL.p (Pu.ln Tryz.underlying28) ?_
 refine TL.p Pu.mv ?_
 refine TL.nil (TQ.thenN (hY15 _ _ ?_))
 refine TW.block ?_
 refine TW.loop3 (fun (k : Nat) (E : Option Addr) (ce : Nat) => [(48, .int .i64 (k : Int)), (47, .int .i64 (Z.nb : Int)), (46, .slice B Z.nb cb), (5, .slice E (Z.nc + Z.nd + k) ce), (0, .func (.yield lY) #[] #[]), (2, .pointer (some ⟨bf, 0, none⟩)), (3, .pointer (some ⟨bt, 0, none⟩))]) (fun k E ce => .own E (Z.nc + Z.nd + k) ce 176 1 (fun k => [rulV Z k]) :: .blk bf 3 [.int .i64 lo] :: .blk bt 3 [.int .i64 hi] :: J 0 r0) (fun k E ce => k ≤ Z.nb) (fun k E ce => Z.nb - k) 0 E ce fs9 ?_ ?_ ?_
 exact KSub.cons pk9 (KSub.cons pk9 (KSub.cons pk9 (KSub.drop (KSub.refl _))))
 exact Nat.zero_le _
 rintro k E ce hk Z2 hZ2
 refine TW.seq fun Y16 hY16 => TW.region ?_
 refine TL.p Pu.lt ?_
 refine TL.nil (TQ.thenN (hY16 _ _ ?_))
 refine TW.seq fun Y17 hY17 => ?_
 refine TW.cond rfl (fun hc2 => ?_) (fun hc2 => ?_)
 try simp only [zcb9] at hc2
 have hkn : k < Z.nb := by omega
 refine TW.skip ?_
 refine TQ.thenN (hY17 _ _ ?_)
 refine TW.seq fun Y18 hY18 => ?_
 refine TW.block ?_
 refine TW.seq fun Y19 hY19 => TW.region ?_
 refine TL.p (Pu.el ty_et28) ?_
 refine TL.p (by first | exact (Pu.lds ty_ag72) | exact (Pu.ldso ty_ag72)) ?_
 refine TL.m (Mk.al ty_zr72) ?_
 intro b7
 first | refine TL.st ty_sz72 ?_ | refine TL.se ty_sz72 ?_
 refine TL.nil (TQ.thenN (hY19 _ _ ?_))
 refine TW.region ?_
 refine TL.p Pu.mv ?_
 refine TL.p (by first | exact (Pu.lds ty_ag72) | exact (Pu.ldso ty_ag72)) ?_
 refine TL.p Pu.fc ?_
 refine TL.m Mk.bl ?_
 intro b8
 first | refine TL.a0 ty_et211 ?_ | refine TL.ap ty_et211 ?_
 intro A9 c9
 refine TL.p Pu.as ?_
 refine TL.nil ?_
 refine TQ.blkN ?_
 refine TQ.thenN (hY18 _ _ ?_)
 refine TW.region ?_
 refine TL.p Pu.ad ?_
 refine TL.p Pu.mv ?_
 refine TL.nil ?_
 refine TQ.thenN (hZ2 (k + 1) _ _ _ _ ?_ ?_ fs9 ?_)
 exact (by omega)
 exact zom9
 exact KSub.own pk9 (stp_row (r := fun k => [rulV Z k]) (by show _ = [rulV Z (Z.nc + Z.nd + k)]; unfold rulV; rw [if_neg (by omega), if_neg (by omega), show Z.nc + Z.nd + k - Z.nc - Z.nd = k by omega]; rfl)) (KSub.cons pk9 (KSub.cons pk9 (by first | exact KSub.refl _ | exact KSub.drop (KSub.refl _) | exact KSub.drop (KSub.drop (KSub.refl _)))))
 try simp only [zcb9] at hc2
 obtain rfl : k = Z.nb := by omega
 refine TW.exit ?_
 refine TQ.thenX ?_
 refine TQ.thenX ?_
 refine TQ.blkX ?_
 refine TQ.thenN (hY14 _ _ ?_)
 refine TW.seq fun Y20 hY20 => TW.region ?_
 refine TL.p (by first | exact (Pu.ld ty_sc3) | exact (Pu.ldo ty_sc3)) ?_
 refine TL.m Mk.bl ?_
 intro b10
 refine TL.p Pu.as ?_
 refine TL.nil (TQ.thenN (hY20 _ _ ?_))
 refine TW.seq fun Y21 hY21 => ?_
 refine TW.seq fun Y22 hY22 => TW.region ?_
 refine TL.p Pu.mv ?_
 refine TL.p (Pu.ln Tryz.underlying211) ?_
 refine TL.p Pu.mv ?_
 refine TL.nil (TQ.thenN (hY22 _ _ ?_))
 refine TW.block ?_
 refine TW.loop5 (fun (k : Nat) (A : Option Addr) (ca : Nat) (L : List Int) (m : Nat) => [(62, .int .i64 (k : Int)), (61, .int .i64 ((Z.nc + Z.nd + Z.nb : Nat) : Int)), (60, .slice E (Z.nc + Z.nd + Z.nb) ce), (12, .slice A m ca), (0, .func (.yield lY) #[] #[]), (2, .pointer (some ⟨bf, 0, none⟩)), (3, .pointer (some ⟨bt, 0, none⟩))]) (fun k A ca L m => .own A m ca 3 1 (iL L) :: .own E (Z.nc + Z.nd + Z.nb) ce 176 1 (fun k => [rulV Z k]) :: .blk bf 3 [.int .i64 lo] :: .blk bt 3 [.int .i64 hi] :: J 0 r0) (fun k A ca L m => k ≤ Z.nc + Z.nd + Z.nb ∧ L = rulP Z lo k ∧ m = L.length) (fun k A ca L m => Z.nc + Z.nd + Z.nb - k) 0 _ _ (rulP Z lo 0) 1 fs9 ?_ ?_ ?_
 exact KSub.ofBlk pk9 rfl (fun _ _ => rfl) rfl rfl (KSub.cons pk9 (KSub.cons pk9 (KSub.cons pk9 (KSub.refl _))))
 exact ⟨Nat.zero_le _, rfl, rfl⟩
 rintro k A ca L m ⟨hk, hL, hm⟩ Z3 hZ3
 have hL9 := hidT hL
 have hmb : m ≤ 10000 := by rw [hm, hL, rulP_len]; omega
 clear hL
 obtain ⟨Ty, uV, fM, hv, hmt, hen, hdy⟩ := rul_meth Z k
 replace hv := hidT hv
 refine TW.seq fun Y23 hY23 => TW.region ?_
 refine TL.p Pu.lt ?_
 refine TL.nil (TQ.thenN (hY23 _ _ ?_))
 refine TW.seq fun Y24 hY24 => ?_
 refine TW.cond rfl (fun hc3 => ?_) (fun hc3 => ?_)
 try simp only [zcb9] at hc3
 have hkn : k < Z.nc + Z.nd + Z.nb := by omega
 have hbd := rulE_bd hok hkn
 refine TW.skip ?_
 refine TQ.thenN (hY24 _ _ ?_)
 refine TW.seq fun Y25 hY25 => ?_
 refine TW.block ?_
 refine TW.seq fun Y26 hY26 => TW.region ?_
 refine TL.p (Pu.el ty_et211) ?_
 refine TL.p (by first | exact (Pu.ld ty_sc176) | exact (Pu.ldo ty_sc176)) ?_
 refine TL.p Pu.as ?_
 refine TL.nil (TQ.thenN (hY26 _ _ ?_))
 refine TW.seq fun Y27 hY27 => TW.region ?_
 refine TL.p Pu.mv ?_
 rw [hv.out]
 refine TL.iv rfl rfl hmt hen (fun w hw => by
   exact hdy _) ?_
 refine TL.p Pu.mv ?_
 refine TL.p Pu.ex ?_
 refine TL.p Pu.ex ?_
 refine TL.p Pu.as ?_
 refine TL.p Pu.as ?_
 refine TL.nil (TQ.thenN (hY27 _ _ ?_))
 refine TW.region ?_
 refine TL.p Pu.mv ?_
 refine TL.p Pu.mv ?_
 refine TL.p Pu.mv ?_
 refine TL.p Pu.ad ?_
 refine TL.m Mk.bl ?_
 intro b11
 refine TL.obn (b := b11) (n := 2) (sz := 1) (r := iL [rulA Z k, rulE Z k + 1]) pk9 rfl (fun _ _ => rfl) ?_
 first | refine TL.a0 ty_et31 ?_ | refine TL.ap ty_et31 ?_
 intro A12 c12
 refine TL.p Pu.as ?_
 refine TL.nil ?_
 refine TQ.blkN ?_
 refine TQ.thenN (hY25 _ _ ?_)
 refine TW.region ?_
 refine TL.p Pu.ad ?_
 refine TL.p Pu.mv ?_
 refine TL.nil ?_
 refine TQ.thenN (hZ3 (k + 1) _ _ (rulP Z lo (k + 1)) _ _ _ ?_ ?_ fs9 ?_)
 exact ⟨by omega, rfl, by rw [hm, hL9.out, rulP_len, rulP_len]; omega⟩
 exact zom9
 exact KSub.own Pick.hd (iL_app2 hm (by rw [rulP_s, ← hL9.out]; rfl) rfl rfl) (by exact KSub.cons pk9 (KSub.cons pk9 (KSub.cons pk9 (by first | exact KSub.refl _ | exact KSub.drop (KSub.refl _) | exact KSub.drop (KSub.drop (KSub.refl _))))))
 try simp only [zcb9] at hc3
 have hkn : k = Z.nc + Z.nd + Z.nb := by omega
 have hLZ := hidT (show L = rulZ Z lo by rw [hL9.out, hkn]; exact rulP_all)
 have hm9 := hidT hm
 refine TW.exit ?_
 refine TQ.thenX ?_
 refine TQ.thenX ?_
 refine TQ.blkX ?_
 refine TQ.thenN (hY21 _ _ ?_)
 refine TW.seq fun Y28 hY28 => TW.region ?_
 refine TL.p Pu.mv ?_
 refine TL.call rfl (enters Tryz.func148 rfl rfl) (M := [.own A m ca 3 1 (iL L)]) (List.Perm.refl _) rfl (fun w hw => by
   exact sortT_any hm9.out (by omega) (hw.holds (.own A m ca 3 1 (iL L)) (by simp))) ?_
 rintro ⟨⟩
 refine TL.nil (TQ.thenN (hY28 _ _ ?_))
 refine TW.seq fun Y29 hY29 => TW.region ?_
 refine TL.p Pu.mv ?_
 refine TL.call rfl (enters Tryz.func139 rfl rfl) (M := [.own A m ca 3 1 (iL (srt L))]) (List.Perm.refl _) rfl (fun w hw => by
   exact compact_any (by rw [srt_len]; exact hm9.out) (by omega) (hw.holds (.own A m ca 3 1 (iL (srt L))) (by simp))) ?_
 rintro ⟨⟩
 refine TL.p (Pu.ln Tryz.underlying31) ?_
 refine TL.p Pu.mv ?_
 refine TL.nil (TQ.thenN (hY29 _ _ ?_))
 refine TW.block ?_
 rw [hLZ.out]
 refine TW.loop2 (fun (k : Nat) (r : R) => [(83, .int .i64 (k : Int)), (82, .int .i64 ((cdA Z lo).length : Int)), (81, .slice A (cdA Z lo).length ca), (0, .func (.yield lY) #[] #[]), (2, .pointer (some ⟨bf, 0, none⟩)), (3, .pointer (some ⟨bt, 0, none⟩))]) (fun k r => .own A (cdA Z lo).length ca 3 1 (iL (cdA Z lo)) :: .blk bf 3 [.int .i64 lo] :: .blk bt 3 [.int .i64 hi] :: J (((cdA Z lo).take k).filter (inB5 lo hi)).length r) (fun k r => k ≤ (cdA Z lo).length) (fun k r => (cdA Z lo).length - k) 0 r0 fs9 ?_ ?_ ?_
 exact KSub.cons pk9 (KSub.cons pk9 (KSub.cons pk9 (by first | exact KSub.refl _ | exact KSub.drop (KSub.refl _) | exact KSub.drop (KSub.drop (KSub.refl _)))))
 exact Nat.zero_le _
 rintro k r hk Z4 hZ4
 refine TW.seq fun Y30 hY30 => TW.region ?_
 refine TL.p Pu.lt ?_
 refine TL.nil (TQ.thenN (hY30 _ _ ?_))
 refine TW.seq fun Y31 hY31 => ?_
 refine TW.cond rfl (fun hc4 => ?_) (fun hc4 => ?_)
 try simp only [zcb9] at hc4
 have hkn : k < (cdA Z lo).length := by omega
 refine TW.skip ?_
 refine TQ.thenN (hY31 _ _ ?_)
 refine TW.seq fun Y32 hY32 => ?_
 refine TW.block ?_
 refine TW.seq fun Y33 hY33 => TW.region ?_
 refine TL.p (Pu.el ty_et31) ?_
 refine TL.p (by first | exact (Pu.ld ty_sc3) | exact (Pu.ldo ty_sc3)) ?_
 refine TL.p Pu.as ?_
 refine TL.nil (TQ.thenN (hY33 _ _ ?_))
 refine TW.seq fun Y34 hY34 => ?_
 refine TW.regionI ?_
 refine TLi.op (fun U1 hU1 => ?_) (by rintro ⟨_, _, h⟩; first | exact h | (obtain ⟨⟨_, h⟩, _⟩ := h; cases h) | cases h)
 refine TL.p Pu.mv ?_
 refine TL.nil ?_
 refine TQ.nxt (hU1 _ _ ?_)
 refine TLi.op (fun U2 hU2 => ?_) (by rintro ⟨_, _, h⟩; first | exact h | (obtain ⟨⟨_, h⟩, _⟩ := h; cases h) | cases h)
 refine TL.p (by first | exact (Pu.ld ty_sc3) | exact (Pu.ldo ty_sc3)) ?_
 refine TL.nil ?_
 refine TQ.nxt (hU2 _ _ ?_)
 refine TLi.op (fun U3 hU3 => ?_) (by rintro ⟨_, _, h⟩; first | exact h | (obtain ⟨⟨_, h⟩, _⟩ := h; cases h) | cases h)
 refine TL.p (by first | exact (Pu.ld ty_sc3) | exact (Pu.ldo ty_sc3)) ?_
 refine TL.nil ?_
 refine TQ.nxt (hU3 _ _ ?_)
 refine TLi.op (fun U4 hU4 => ?_) (by rintro ⟨_, _, h⟩; first | exact h | (obtain ⟨⟨_, h⟩, _⟩ := h; cases h) | cases h)
 refine TL.cr rfl (enters Tryz.func41 rfl rfl) (fun w hw => by
   exact in_any _ _ _ _) ?_
 refine TL.nil ?_
 refine TQ.nxt (hU4 _ _ ?_)
 refine TLi.op (fun U5 hU5 => ?_) (by rintro ⟨_, _, h⟩; first | exact h | (obtain ⟨⟨_, h⟩, _⟩ := h; cases h) | cases h)
 refine TL.p Pu.mv ?_
 refine TL.nil ?_
 refine TQ.nxt (hU5 _ _ ?_)
 refine TLi.guard (t := 91) rfl (fun hg1 => ?_) (fun hg1 => ?_)
 try simp only [zgb9] at hg1
 refine TLi.op (fun U6 hU6 => ?_) (by rintro ⟨_, _, h⟩; first | exact h | (obtain ⟨⟨_, h⟩, _⟩ := h; cases h) | cases h)
 refine TL.gd Pu.mv ?_
 refine TL.nil ?_
 refine TQ.nxt (hU6 _ _ ?_)
 refine TLi.op (fun U7 hU7 => ?_) (by rintro ⟨_, _, h⟩; first | exact h | (obtain ⟨⟨_, h⟩, _⟩ := h; cases h) | cases h)
 refine TL.gd Pu.mv ?_
 refine TL.nil ?_
 refine TQ.nxt (hU7 _ _ ?_)
 refine TLi.yi rfl rfl (fun w hw => by
   obtain ⟨hg2, hg3⟩ := filter_at hkn hg1
   have h9 := hround (((cdA Z lo).take k).filter (inB5 lo hi)).length (A, ca) r w hg2 hw
   unfold cdZ at h9
   simp only [hg3] at h9
   exact h9) ?_ ?_
 intro r
 refine TLi.op (fun U8 hU8 => ?_) (by rintro ⟨_, _, h⟩; first | exact h | (obtain ⟨⟨_, h⟩, _⟩ := h; cases h) | cases h)
 refine TL.gd Pu.no ?_
 refine TL.nil ?_
 refine TQ.nxt (hU8 _ _ ?_)
 refine TLi.op (fun U9 hU9 => ?_) (by rintro ⟨_, _, h⟩; first | exact h | (obtain ⟨⟨_, h⟩, _⟩ := h; cases h) | cases h)
 refine TL.p Pu.kt ?_
 refine TL.nil ?_
 refine TQ.nxt (hU9 _ _ ?_)
 refine TLi.nil ?_
 refine TQ.thenN (hY34 _ _ ?_)
 refine TW.condF rfl rfl ?_
 refine TW.skip ?_
 refine TQ.blkN ?_
 refine TQ.thenN (hY32 _ _ ?_)
 refine TW.region ?_
 refine TL.p Pu.ad ?_
 refine TL.p Pu.mv ?_
 refine TL.nil ?_
 have hft := filter_takeT (p := inB5 lo hi) hkn
 rw [hg1] at hft
 refine TQ.thenN (hZ4 (k + 1) r _ _ ?_ ?_ fs9 ?_)
 exact (by omega)
 exact zom9
 first
  | (rw [hft, if_pos rfl, List.length_append]; exact KSub.refl _)
  | (rw [hft, if_neg (by simp)]; exact KSub.refl _)
 intro x'
 refine TLi.op (fun U10 hU10 => ?_) (by rintro ⟨_, _, h⟩; first | exact h | (obtain ⟨⟨_, h⟩, _⟩ := h; cases h) | cases h)
 refine TL.gd Pu.no ?_
 refine TL.nil ?_
 refine TQ.nxt (hU10 _ _ ?_)
 refine TLi.op (fun U11 hU11 => ?_) (by rintro ⟨_, _, h⟩; first | exact h | (obtain ⟨⟨_, h⟩, _⟩ := h; cases h) | cases h)
 refine TL.p Pu.kt ?_
 refine TL.nil ?_
 refine TQ.nxt (hU11 _ _ ?_)
 refine TLi.nil ?_
 refine TQ.thenN (hY34 _ _ ?_)
 refine TW.condT rfl rfl ?_
 refine TW.ret ?_
 refine TQ.blkR ?_
 refine TQ.thenR ?_
 refine TQ.thenR ?_
 refine TQ.blkR ?_
 refine TQ.ret Tryz.results147 rfl (.nil) ?_
 exact fun w hw => ⟨⟨_, rfl⟩, .inr ⟨x', hw.sub (KSub.dropL _ (KSub.refl _))⟩⟩
 try simp only [zgb9] at hg1
 refine TLi.op (fun U12 hU12 => ?_) (by rintro ⟨_, _, h⟩; first | exact h | (obtain ⟨⟨_, h⟩, _⟩ := h; cases h) | cases h)
 refine TL.gs ?_
 refine TL.nil ?_
 refine TQ.nxt (hU12 _ _ ?_)
 refine TLi.op (fun U13 hU13 => ?_) (by rintro ⟨_, _, h⟩; first | exact h | (obtain ⟨⟨_, h⟩, _⟩ := h; cases h) | cases h)
 refine TL.gs ?_
 refine TL.nil ?_
 refine TQ.nxt (hU13 _ _ ?_)
 refine TLi.op (fun U14 hU14 => ?_) (by rintro ⟨_, _, h⟩; first | exact h | (obtain ⟨⟨_, h⟩, _⟩ := h; cases h) | cases h)
 refine TL.gs ?_
 refine TL.nil ?_
 refine TQ.nxt (hU14 _ _ ?_)
 refine TLi.op (fun U15 hU15 => ?_) (by rintro ⟨_, _, h⟩; first | exact h | (obtain ⟨⟨_, h⟩, _⟩ := h; cases h) | cases h)
 refine TL.gs ?_
 refine TL.nil ?_
 refine TQ.nxt (hU15 _ _ ?_)
 refine TLi.op (fun U16 hU16 => ?_) (by rintro ⟨_, _, h⟩; first | exact h | (obtain ⟨⟨_, h⟩, _⟩ := h; cases h) | cases h)
 refine TL.p Pu.kf ?_
 refine TL.nil ?_
 refine TQ.nxt (hU16 _ _ ?_)
 refine TLi.nil ?_
 refine TQ.thenN (hY34 _ _ ?_)
 refine TW.condF rfl rfl ?_
 refine TW.skip ?_
 refine TQ.blkN ?_
 refine TQ.thenN (hY32 _ _ ?_)
 refine TW.region ?_
 refine TL.p Pu.ad ?_
 refine TL.p Pu.mv ?_
 refine TL.nil ?_
 have hft := filter_takeT (p := inB5 lo hi) hkn
 rw [hg1] at hft
 refine TQ.thenN (hZ4 (k + 1) r _ _ ?_ ?_ fs9 ?_)
 exact (by omega)
 exact zom9
 first
  | (rw [hft, if_pos rfl, List.length_append]; exact KSub.refl _)
  | (rw [hft, if_neg (by simp)]; exact KSub.refl _)
 try simp only [zcb9] at hc4
 have hkn : k = (cdA Z lo).length := by omega
 refine TW.exit ?_
 refine TQ.thenX ?_
 refine TQ.thenX ?_
 refine TQ.blkX ?_
 refine TQ.end Tryz.results147 rfl (.nil) ?_
 exact fun w hw => ⟨⟨_, rfl⟩, .inl ⟨r, by rw [hkn, List.take_length] at hw; exact hw.sub (KSub.drop (KSub.drop (KSub.drop (KSub.refl _))))⟩⟩
end
end Go.Proofs.YtfaenhhgkhcghaaGreatDoor
namespace Go.Proofs.YtfaenhhgkhcghaaGreatDoor
set_option linter.all false
set_option linter.unusedVariables false
set_option linter.unusedSimpArgs false
open Go.RowKit
def barF : Nat → Nat
 | 1 => 192
 | 2 => 193
 | _ => 194
def barV : Nat → Value
 | 0 => Value.nilFunc
 | n + 1 => .func (.func (barF (n + 1))) #[] #[]
def barsL : List Value := [barV 0, barV 1, barV 2, barV 3]
theorem barV_s {i : Nat} (h : ¬ i = 0) : barV i = .func (.func (barF i)) #[] #[] := by
 cases i with
 | zero => exact absurd rfl h
 | succ i => rfl
def barB (Z : Cus) (T : Trp) (leg day : Int) : Nat → Bool
 | 0 => false
 | 1 => closZ Z leg day
 | 2 => hatZ Z T leg day
 | _ => losZ Z T leg day
set_option maxRecDepth 100000 in
theorem idxBar {i : Nat} (hi : i < 4) (w : World) : (Instr.index 197 (.agg barsL.toArray) (.int .i64 (i : Int))).run Tryz.prog w = .ok (barV i) w := by
 have : i = 0 ∨ i = 1 ∨ i = 2 ∨ i = 3 := by omega
 rcases this with rfl | rfl | rfl | rfl <;> (unfold barsL; go_simp; rfl)
set_option maxRecDepth 100000 in
theorem neBar (x y : Operand) {i : Nat} (hi : i < 4) (w : World) : (do eqGuard .neq 196 x y (barV i) Value.nilFunc; binOp .neq 196 (barV i) Value.nilFunc : Sem Value).run Tryz.prog w = .ok (.bool (!decide (i = 0))) w := by
 have : i = 0 ∨ i = 1 ∨ i = 2 ∨ i = 3 := by omega
 rcases this with rfl | rfl | rfl | rfl <;> (unfold barV; go_simp; try rfl)
set_option maxRecDepth 100000 in
theorem cvBar {i : Nat} (hi : i < 4) (w : World) : (convert 3 5 (.int .i64 (i : Int))).run Tryz.prog w = .ok (.int .u8 (i : Int)) w := by
 have : i = 0 ∨ i = 1 ∨ i = 2 ∨ i = 3 := by omega
 rcases this with rfl | rfl | rfl | rfl <;> (go_simp; try rfl)
def lesK (bs : Nat → Bool) (a : Int) : Nat → Int
 | 0 => a
 | i + 1 => lesV (bs i) i (lesK bs a i)
theorem les_four {Z : Cus} {T : Trp} {leg day a : Int} : lesK (barB Z T leg day) a 4 = if whyZ Z T leg day = 0 then a else min a (whyZ Z T leg day) := by
 unfold whyZ
 rw [← les_eq]
 rfl
theorem wc_snoc {f : Int → Int} {t : Int} : ∀ (L : List Int) (a : Int), wcK f (L ++ [t]) a = if f t = 0 then wcK f L a else min (wcK f L a) (f t)
 | [], a => rfl
 | x :: L, a => by
  show wcK f (L ++ [t]) _ = _
  rw [wc_snoc L]
  rfl
theorem wc_le {f : Int → Int} (hf : ∀ t, 0 ≤ f t ∧ f t ≤ 3) (L : List Int) : 0 ≤ wcK f L 255 ∧ wcK f L 255 ≤ 255 := by
 rcases wc_spec hf L 255 (.inl rfl) with ⟨h, _, _⟩ | ⟨h1, h2, _⟩ <;> omega
theorem lesK_bd {bs : Nat → Bool} {a : Int} (ha : 0 ≤ a ∧ a ≤ 255) : ∀ i, 0 ≤ lesK bs a i ∧ lesK bs a i ≤ 255
 | 0 => ha
 | i + 1 => by
  have := lesK_bd (bs := bs) ha i
  simp only [lesK, lesV]
  split <;> omega
section
variable {Z : Cus} {T : Trp} {C D B O U V S : Option Addr} {cc cd cb co cu cv n cs bt : Nat} {w : World}
theorem bar_calls {i : Nat} (h0 : ¬ i = 0) (h4 : i < 4) (leg day : Int) (hok : CusOk Z) (h : CustIn w C Z.nc D Z.nd B Z.nb Z.c Z.d Z.b) (t : TrpIn w T O U V) (ht : OldB w bt (trkL T O co U cu V cv Z C cc D cd B cb S n cs)) :
   Calls Tryz.prog (barF i) #[.pointer (some ⟨bt, 0, none⟩), .int .i64 leg, .int .i64 day] w (Ret w (.bool (barB Z T leg day i))) := by
 have : i = 1 ∨ i = 2 ∨ i = 3 := by omega
 rcases this with rfl | rfl | rfl
 · exact cClosed_any leg day h ht
 · exact cHated_any leg day hok h t ht
 · exact cLost_any leg day hok h t ht
theorem bar_enters {i : Nat} (h0 : ¬ i = 0) (h4 : i < 4) : Enters Tryz.prog (barF i) := by
 have : i = 1 ∨ i = 2 ∨ i = 3 := by omega
 rcases this with rfl | rfl | rfl
 · exact enters Tryz.func192 rfl rfl
 · exact enters Tryz.func193 rfl rfl
 · exact enters Tryz.func194 rfl rfl
set_option maxRecDepth 100000 in
set_option maxHeartbeats 4000000 in
theorem cBarred_any (s : Nat → Int) (hs : 0 ≤ s 5 ∧ s 5 ≤ 100001) (hok : CusOk Z) (h : CustIn w C Z.nc D Z.nd B Z.nb Z.c Z.d Z.b) (t : TrpIn w T O U V) (ht : OldB w bt (trkL T O co U cu V cv Z C cc D cd B cb S n cs)) (hG : OldB w 0 barsL) :
  Calls Tryz.prog 85 #[.pointer (some ⟨bt, 0, none⟩), .agg (stopL s).toArray] w (Ret w (.int .u8 (whyD Z T s))) := by
 have ht9 := ht
 unfold trkL at ht
 unfold stopL
 have fC := fun (w' : World) => cChanges_any (w := w') (C := C) (cc := cc) (D := D) (cd := cd) (B := B) (cb := cb) (Z := Z) (s 2) (s 5 - 1)
 unfold custL at fC
 have hwhy : ∀ t, 0 ≤ whyZ Z T (s 0) t ∧ whyZ Z T (s 0) t ≤ 3 := fun t => whyZ_bd
 refine K_enterM (S := []) (K := []) Tryz.func85 rfl Tryz.ntmps85 rfl (Sat.start _) ?_
 refine TW.seqD fun Y1 hY1 => ?_
 refine TW.region ?_
 refine TL.m Mk.bx ?_
 intro b1
 refine TL.m Mk.bx ?_
 intro b2
 refine TL.p Pu.as ?_
 refine TL.nil ?_
 refine TQ.thenN (hY1 _ _ _ ?_)
 refine TW.seqD fun Y2 hY2 => ?_
 refine TW.region ?_
 refine TL.m (Mk.al ty_zr5) ?_
 intro b3
 first | refine TL.st ty_sz5 ?_ | refine TL.se ty_sz5 ?_
 refine TL.nil ?_
 refine TQ.thenN (hY2 _ _ _ ?_)
 refine TW.seqD fun Y3 hY3 => ?_
 refine TW.seqD fun Y4 hY4 => ?_
 refine TW.np ?_
 refine TW.dw 12 ?_
 refine RK.tk (Pu.ld ty_sc76) ?_
 refine RK.tk (by first | exact Pu.nn | exact Pu.nc) ?_
 refine RK.tk (by first | exact Pu.fb ty_fa129_1 | exact Pu.fe ty_fa129_1) ?_
 refine RK.tk (Pu.ldso ty_ag30) ?_
 refine RK.tk (by first | exact Pu.fb ty_fa160_2 | exact Pu.fe ty_fa160_2) ?_
 refine RK.tk (by first | exact Pu.fb ty_fa36_0 | exact Pu.fe ty_fa36_0) ?_
 refine RK.tk (Pu.ld ty_sc3) ?_
 refine RK.tk (by first | exact Pu.fb ty_fa160_3 | exact Pu.fe ty_fa160_3) ?_
 refine RK.tk (by first | exact Pu.fb ty_fa36_1 | exact Pu.fe ty_fa36_1) ?_
 refine RK.tk (Pu.ld ty_sc3) ?_
 refine RK.tk Pu.sb ?_
 refine RK.keep ?_
 refine RK.ch [false] ?_ trivial
 refine WK.call rfl (enters Tryz.func120 rfl rfl) rfl (fun w hw => by
   exact fC _) ?_
 rintro x
 refine WK.n ?_
 refine TL.nil ?_
 refine TQ.npN ?_
 refine TQ.thenN (hY4 _ _ _ ?_)
 refine TW.block ?_
 refine TW.rangeR (fun (q : Nat) (_ : Unit) => .blk b3 5 [.int .u8 (wcK (fun t => whyZ Z T (s 0) t) ((cdZ Z (s 2) (s 5 - 1)).take q) 255)] :: .blk b1 76 [.pointer (some ⟨bt, 0, none⟩)] :: .blk b2 160 [.int .i64 (s 0), .int .i64 (s 1), .int .i64 (s 2), .int .i64 (s 3), .int .i64 (s 4), .int .i64 (s 5)] :: []) (fun x : Empty => x.elim) (fun x => x.elim) (()) (fun a b => changes1_iter (C := C) (D := D) (B := B) (cc := cc) (cd := cd) (cb := cb) (Z := Z) (x := x) (lo := s 2) (hi := s 5 - 1) hok h Apart.nil Apart.nil Apart.nil) ?_ ?_ ?_ ?_ (eg := enters Tryz.func147 rfl rfl)
 unfold chgM
 exact KSub.cons pk9 (KSub.cons pk9 (KSub.cons pk9 ks9))
 rintro lR DR oR oR1 oR2 q g r hq ZR0 hZR0
 simp only [chgY, List.cons_append, List.nil_append]
 have hwc := wc_le (f := fun t => whyZ Z T (s 0) t) hwhy ((cdZ Z (s 2) (s 5 - 1)).take q)
 refine TWi.region ?_
 refine TL.p Pu.as ?_
 refine TL.nil ?_
 refine TQ.thenN (hZR0 _ _ _ Pick.hd ?_)
 refine TWi.block ?_
 refine TWi.seq fun Y5 hY5 => ?_
 refine TWi.region ?_
 refine TL.p (Pu.ldso ty_ag197) ?_
 refine TL.p Pu.mv ?_
 refine TL.nil (TQ.thenN (hY5 _ _ ?_))
 refine TWi.block ?_
 refine TWi.loop1 (fun (i : Nat) => [(23, .int .i64 (i : Int)), (22, .agg barsL.toArray), (6, .int .i64 ((cdZ Z (s 2) (s 5 - 1)).getD q 0)), (5, .pointer (some ⟨b3, 0, none⟩)), (3, .pointer (some ⟨b2, 0, none⟩)), (2, .pointer (some ⟨b1, 0, none⟩))]) (fun i => [.blk b3 5 [.int .u8 (lesK (barB Z T (s 0) ((cdZ Z (s 2) (s 5 - 1)).getD q 0)) (wcK (fun t => whyZ Z T (s 0) t) ((cdZ Z (s 2) (s 5 - 1)).take q) 255) i)], .obj lR oR1, .obj DR oR2, .own g.1 (cdA Z (s 2)).length g.2 3 1 (iL (cdA Z (s 2))), .blk x.2.1 3 [.int .i64 (s 2)], .blk x.2.2 3 [.int .i64 (s 5 - 1)], .blk b1 76 [.pointer (some ⟨bt, 0, none⟩)], .blk b2 160 [.int .i64 (s 0), .int .i64 (s 1), .int .i64 (s 2), .int .i64 (s 3), .int .i64 (s 4), .int .i64 (s 5)]]) (fun i => i ≤ 4) (fun i => 4 - i) 0 fs9 ?_ ?_ ?_
 exact ks9
 exact Nat.zero_le _
 rintro i hi Z0 hZ0
 have hlb := lesK_bd (bs := barB Z T (s 0) ((cdZ Z (s 2) (s 5 - 1)).getD q 0)) hwc i
 refine TWi.seq fun Y6 hY6 => ?_
 refine TWi.region ?_
 refine TL.p Pu.lt ?_
 refine TL.nil (TQ.thenN (hY6 _ _ ?_))
 refine TWi.seq fun Y7 hY7 => ?_
 refine TWi.cond rfl (fun hc0 => ?_) (fun hc0 => ?_)
 try simp only [zcb9] at hc0
 have hi4 : i < 4 := by omega
 refine TWi.skip ?_
 refine TQ.thenN (hY7 _ _ ?_)
 refine TWi.seq fun Y8 hY8 => ?_
 refine TWi.block ?_
 refine TWi.seq fun Y9 hY9 => ?_
 refine TWi.region ?_
 refine TL.p Pu.mv ?_
 refine TL.p (Pu.ix (hr := fun w => idxBar hi4 w)) ?_
 refine TL.p Pu.as ?_
 refine TL.p Pu.as ?_
 refine TL.nil (TQ.thenN (hY9 _ _ ?_))
 refine TWi.seq fun Y10 hY10 => ?_
 refine TWi.join [(36, .bool (barB Z T (s 0) ((cdZ Z (s 2) (s 5 - 1)).getD q 0) i))] ?_ (fun hJ1 => ?_)
 refine TQ.thenN (hY10 _ _ ?_)
 refine TWi.cond rfl (fun hc1 => ?_) (fun hc1 => ?_)
 try simp only [zcb9] at hc1
 have hst := hidT (show lesK (barB Z T (s 0) ((cdZ Z (s 2) (s 5 - 1)).getD q 0)) (wcK (fun t => whyZ Z T (s 0) t) ((cdZ Z (s 2) (s 5 - 1)).take q) 255) (i + 1) = min (lesK (barB Z T (s 0) ((cdZ Z (s 2) (s 5 - 1)).getD q 0)) (wcK (fun t => whyZ Z T (s 0) t) ((cdZ Z (s 2) (s 5 - 1)).take q) 255) i) i by simp only [lesK, lesV]; rw [if_pos hc1])
 refine TWi.region ?_
 refine TL.p (Pu.ld ty_sc5) ?_
 refine TL.p Pu.mv ?_
 refine TL.p (Pu.cv (hr := fun w => cvBar hi4 w)) ?_
 refine TL.m Mk.bl ?_
 intro b4
 refine TL.cr rfl (enters Tryz.func129 rfl rfl) (fun w hw => by
   exact leastU_any (n := 1) (v := fun _ => (i : Int)) _ (by omega) (RdR.blk (cs := [.int .u8 (i : Int)]) (hw.holds _ (List.mem_cons_self ..)) rfl (fun _ _ => rfl))) ?_
 first | refine TL.st ty_sz5 ?_ | refine TL.se ty_sz5 ?_
 refine TL.nil ?_
 refine TQ.blkN ?_
 refine TQ.thenN (hY8 _ _ ?_)
 refine TWi.region ?_
 refine TL.p Pu.ad ?_
 refine TL.p Pu.mv ?_
 refine TL.nil ?_
 refine TQ.thenN (hZ0 (i + 1) _ _ ?_ ?_ fs9 ?_)
 exact (by omega)
 exact zom9
 exact KSub.valI pk9 hst.out.symm ks9
 try simp only [zcb9] at hc1
 have hst := hidT (show lesK (barB Z T (s 0) ((cdZ Z (s 2) (s 5 - 1)).getD q 0)) (wcK (fun t => whyZ Z T (s 0) t) ((cdZ Z (s 2) (s 5 - 1)).take q) 255) (i + 1) = lesK (barB Z T (s 0) ((cdZ Z (s 2) (s 5 - 1)).getD q 0)) (wcK (fun t => whyZ Z T (s 0) t) ((cdZ Z (s 2) (s 5 - 1)).take q) 255) i by simp only [lesK, lesV]; rw [if_neg (by rw [hc1]; simp)])
 refine TWi.skip ?_
 refine TQ.blkN ?_
 refine TQ.thenN (hY8 _ _ ?_)
 refine TWi.region ?_
 refine TL.p Pu.ad ?_
 refine TL.p Pu.mv ?_
 refine TL.nil ?_
 refine TQ.thenN (hZ0 (i + 1) _ _ ?_ ?_ fs9 ?_)
 exact (by omega)
 exact zom9
 exact KSub.valI pk9 hst.out.symm ks9
 refine TWi.region ?_
 refine TL.p Pu.mv ?_
 refine TL.p (Pu.bn (hr := fun w => neBar _ _ hi4 w)) ?_
 refine TL.p Pu.mv ?_
 refine TL.guard (t := 29) rfl (fun hg1 => ?_) (fun hg1 => ?_)
 try simp only [zgb9] at hg1
 refine TL.gd Pu.mv ?_
 refine TL.gd (Pu.ld ty_sc76) ?_
 refine TL.gd (by first | exact Pu.fb ty_fa160_0 | exact Pu.fe ty_fa160_0) ?_
 refine TL.gd (Pu.ld ty_sc3) ?_
 refine TL.gd Pu.mv ?_
 refine TL.cv (fs := []) (cs := []) (by show some (barV i) = _; rw [barV_s hg1]) rfl (bar_enters hg1 hi4) (fun w hw => bar_calls hg1 hi4 _ _ hok (h.ext (Chg.ext hw.chg)) (t.ext (Chg.ext hw.chg)) (ht9.ext (Chg.ext hw.chg))) ?_
 refine TL.p Pu.kt ?_
 refine TL.nil ?_
 exact TQ.sub (by repeat (first | exact trivial | refine ⟨rfl, ?_⟩ | refine ⟨trivial, ?_⟩ | refine ⟨(by show some (Value.bool _) = some (Value.bool _); first | (simp [hg1, barB]; done) | (refine congrArg (fun z => some (Value.bool z)) (Bool.eq_iff_iff.2 ?_); simp [hg1, barB]; omega)), ?_⟩)) ks9 hJ1
 try simp only [zgb9] at hg1
 refine TL.gs ?_
 refine TL.gs ?_
 refine TL.gs ?_
 refine TL.gs ?_
 refine TL.gs ?_
 refine TL.gs ?_
 refine TL.p Pu.kf ?_
 refine TL.nil ?_
 exact TQ.sub (by repeat (first | exact trivial | refine ⟨rfl, ?_⟩ | refine ⟨trivial, ?_⟩ | refine ⟨(by show some (Value.bool _) = some (Value.bool _); first | (simp [hg1, barB]; done) | (refine congrArg (fun z => some (Value.bool z)) (Bool.eq_iff_iff.2 ?_); simp [hg1, barB]; omega)), ?_⟩)) ks9 hJ1
 try simp only [zcb9] at hc0
 obtain rfl : i = 4 := by omega
 refine TWi.exit ?_
 refine TQ.thenX ?_
 refine TQ.thenX ?_
 refine TQ.blkX ?_
 refine TQ.blkN ?_
 refine TQ.rbN (()) ?_
 simp only [chgY, List.cons_append, List.nil_append]
 refine KSub.cons pk9 (KSub.cons pk9 (KSub.cons pk9 (KSub.cons pk9 (KSub.cons pk9 (KSub.valI pk9 ?_ ks9)))))
 rw [les_four, take_succ hq, wc_snoc]
 rintro DR r
 simp only [List.nil_append, List.take_length]
 refine TQ.blkN ?_
 refine TQ.thenN (hY3 _ _ _ ?_)
 refine TW.seqD fun Y11 hY11 => ?_
 refine TW.seqD fun Y12 hY12 => ?_
 refine TW.region ?_
 refine TL.p (Pu.ld ty_sc5) ?_
 refine TL.p Pu.eq ?_
 refine TL.nil ?_
 refine TQ.thenN (hY12 _ _ _ ?_)
 refine TW.cond rfl (fun hc2 => ?_) (fun hc2 => ?_)
 try simp only [zcb9] at hc2
 have hr := why_same (L := cdZ Z (s 2) (s 5 - 1)) (M := tuD Z (s 2) (s 5 - 1)) hwhy (fun t => cdZ_mem.symm)
 rw [if_pos hc2] at hr
 refine TW.seqD fun Y13 hY13 => ?_
 refine TW.region ?_
 refine TL.p Pu.as ?_
 refine TL.nil ?_
 refine TQ.thenN (hY13 _ _ _ ?_)
 refine TW.ret ?_
 refine TQ.thenR ?_
 refine TQ.retM Tryz.results85 pk9 ((.tmp rfl .nil)) ?_
 exact fun w hw => ⟨ret_u8 hr, Chg.ext hw.chg⟩
 try simp only [zcb9] at hc2
 have hr := why_same (L := cdZ Z (s 2) (s 5 - 1)) (M := tuD Z (s 2) (s 5 - 1)) hwhy (fun t => cdZ_mem.symm)
 rw [if_neg hc2] at hr
 refine TW.skip ?_
 refine TQ.thenN (hY11 _ _ _ ?_)
 refine TW.seqD fun Y14 hY14 => ?_
 refine TW.region ?_
 refine TL.p (Pu.ld ty_sc5) ?_
 refine TL.p Pu.as ?_
 refine TL.nil ?_
 refine TQ.thenN (hY14 _ _ _ ?_)
 refine TW.ret ?_
 refine TQ.retM Tryz.results85 pk9 ((.tmp rfl .nil)) ?_
 exact fun w hw => ⟨ret_u8 hr, Chg.ext hw.chg⟩
 intro _ x; exact x.elim
end
end Go.Proofs.YtfaenhhgkhcghaaGreatDoor
namespace Go.Proofs.YtfaenhhgkhcghaaGreatDoor
set_option linter.all false
set_option linter.unusedVariables false
set_option linter.unusedSimpArgs false
open Go.RowKit
theorem ex_get {n k : Nat} {p : Nat → Bool} (h : exB n p = false) (hk : k < n) : p k = false := by
 cases e : p k with
 | false => rfl
 | true => rw [ex_yes hk e] at h; cases h
theorem wkC_split {Y : Wy} (h : wkC Y = 0) : okY Y = 0 ∧ begY Y = true ∧ ¬ 24 < Y.n ∧ lostY Y = false ∧ lateY Y = false := by
 unfold wkC at h
 split at h
 · next h1 => exact absurd h h1
 · next h1 =>
   split at h
   · cases h
   · next h2 =>
     split at h
     · cases h
     · next h3 =>
       split at h
       · cases h
       · next h4 =>
         split at h
         · cases h
         · next h5 => exact ⟨Decidable.not_not.1 h1, by simpa using h2, h3, by simpa using h4, by simpa using h5⟩
theorem stY_bd {Y : Wy} (h : wkC Y = 0) : ∀ k, k < Y.n → 0 ≤ stY Y k 2 ∧ stY Y k 2 ≤ stY Y k 3 ∧ stY Y k 3 < stY Y k 5 ∧ stY Y k 5 ≤ 100001 := fun k hk => by
 obtain ⟨h1, h2, h3, h4, h5⟩ := wkC_split h
 have ho := wyOk_of h1
 have hl : ∀ j, j < Y.n → 0 ≤ wlY Y (j + 1) := fun j hj => by have := of_decide_eq_false (ex_get h4 hj); omega
 have ha : atSY Y (k + 1) ≤ 100000 := by have := of_decide_eq_false (ex_get h5 hk); omega
 have hin := ls_ok (hl k hk)
 have hat := at_ok ho h2 hl (k := k) (by omega)
 have hleg := ho.leg (Y.ls k).toNat (by omega)
 have e1 := leaves_le (u := uY Y) (gn := nY Y) (g := Y.g) (i := (Y.ls k).toNat) ho.h0 ho.h1 hleg hat.2.1
 have e2 := (arS_bd (u := uY Y) (gn := nY Y) (g := Y.g) (i := (Y.ls k).toNat) (t := atSY Y k) ho.h0 ho.h1 hleg (by omega)).2.2 ha
 have e3 := lvB_bd (u := uY Y) (gn := nY Y) (g := Y.g) (p1 := Y.p1) (i := (Y.ls k).toNat) (t := atBY Y k) (by omega)
 show 0 ≤ lvBY Y k ∧ lvBY Y k ≤ lvSY Y k ∧ lvSY Y k < atSY Y (k + 1) ∧ atSY Y (k + 1) ≤ 100001
 unfold lvBY lvSY
 unfold atSY at ha ⊢
 simp only [atS] at ha ⊢
 refine ⟨by omega, e1, e2, by omega⟩
def chkY (Y : Wy) (Z : Cus) : Int := checkC Y.nw Y.nl Y.f Y.x Y.g Z.nc Z.nd Z.nb Z.c Z.d Z.b
def rdyC (Y : Wy) (Z : Cus) (T : Trp) : Int := if chkY Y Z ≠ 0 then chkY Y Z else if trpOk T = true then 0 else 73
def tolC (Y : Wy) (Z : Cus) (T : Trp) : Int := if rdyC Y Z T ≠ 0 then rdyC Y Z T else wkC Y
def barA (Y : Wy) (Z : Cus) (T : Trp) : Int × Int := if tolC Y Z T = 0 then barD Z T Y.n (stY Y) else (0, 0)
theorem tol_rdy {Y : Wy} {Z : Cus} {T : Trp} (h : rdyC Y Z T ≠ 0) : tolC Y Z T = rdyC Y Z T := if_pos h
theorem tol_wk {Y : Wy} {Z : Cus} {T : Trp} (h : rdyC Y Z T = 0) : tolC Y Z T = wkC Y := if_neg (by omega)
theorem rdy_chk {Y : Wy} {Z : Cus} {T : Trp} (h : chkY Y Z ≠ 0) : rdyC Y Z T = chkY Y Z := if_pos h
theorem rdy_trp {Y : Wy} {Z : Cus} {T : Trp} (h : chkY Y Z = 0) (ht : trpOk T = false) : rdyC Y Z T = 73 := by unfold rdyC; rw [if_neg (by omega), if_neg (by rw [ht]; simp)]
theorem rdy_ok {Y : Wy} {Z : Cus} {T : Trp} (h : chkY Y Z = 0) (ht : trpOk T = true) : rdyC Y Z T = 0 := by unfold rdyC; rw [if_neg (by omega), if_pos ht]
theorem rdy_split {Y : Wy} {Z : Cus} {T : Trp} (h : rdyC Y Z T = 0) : chkY Y Z = 0 ∧ trpOk T = true := by
 unfold rdyC at h
 split at h
 · next h1 => exact absurd h h1
 · next h1 =>
   split at h
   · next h2 => exact ⟨Decidable.not_not.1 h1, h2⟩
   · cases h
theorem chk_ok {Y : Wy} {Z : Cus} (h : chkY Y Z = 0) : CusOk Z := by
 unfold chkY checkC at h
 split at h
 · exact cusOk_of h
 · cases h
section
variable {Z : Cus} {T : Trp} {Y : Wy} {W A L C D B O U V S : Option Addr} {cw cl cn cc cd cb co cu cv n cs bt : Nat} {st : Nat → Nat → Int} {w : World}
set_option maxRecDepth 100000 in
set_option maxHeartbeats 1000000 in
theorem cFirst_any (hok : CusOk Z) (h : CustIn w C Z.nc D Z.nd B Z.nb Z.c Z.d Z.b) (t : TrpIn w T O U V) (s : StpIn w n st S) (ht : OldB w bt (trkL T O co U cu V cv Z C cc D cd B cb S n cs)) (hG : OldB w 0 barsL) :
  Calls Tryz.prog 43 #[.pointer (some ⟨bt, 0, none⟩)] w (Ret w (.tuple #[.int .u8 (barD Z T n st).1, .int .i64 (barD Z T n st).2])) := by
 have ht9 := ht
 have hRS := s.hR
 have hn := s.hn
 unfold trkL at ht
 refine K_enter (S := []) (K := []) Tryz.func43 rfl Tryz.ntmps43 rfl (Sat.start _) ?_
 refine TW.seq fun Y1 hY1 => TW.region ?_
 refine TL.p Pu.as ?_
 refine TL.p Pu.as ?_
 refine TL.nil (TQ.thenN (hY1 _ _ ?_))
 refine TW.seq fun Y2 hY2 => ?_
 refine TW.seq fun Y3 hY3 => TW.region ?_
 refine TL.p Pu.mv ?_
 refine TL.p (by first | exact Pu.nn | exact Pu.nc) ?_
 refine TL.p (by first | exact Pu.fb ty_fa129_2 | exact Pu.fe ty_fa129_2) ?_
 refine TL.p (Pu.ldo ty_sc83) ?_
 refine TL.p (Pu.ln Tryz.underlying83) ?_
 refine TL.p Pu.mv ?_
 refine TL.nil (TQ.thenN (hY3 _ _ ?_))
 refine TW.block ?_
 refine TW.loop1 (fun (i : Nat) => [(12, .int .i64 (i : Int)), (11, .int .i64 (n : Int)), (10, .slice S n cs), (0, .pointer (some ⟨bt, 0, none⟩))]) (fun i => []) (fun i => i ≤ n ∧ ∀ j, j < i → ¬ 0 < whyD Z T (st j)) (fun i => n - i) 0 fs9 ?_ ?_ ?_
 exact ks9
 exact ⟨Nat.zero_le _, fun j hj => by omega⟩
 rintro i ⟨hi, hall⟩ Z0 hZ0
 refine TW.seq fun Y4 hY4 => TW.region ?_
 refine TL.p Pu.lt ?_
 refine TL.nil (TQ.thenN (hY4 _ _ ?_))
 refine TW.seq fun Y5 hY5 => ?_
 refine TW.cond rfl (fun hc0 => ?_) (fun hc0 => ?_)
 try simp only [zcb9] at hc0
 have hin : i < n := by omega
 have hbd := s.bd i hin
 refine TW.skip ?_
 refine TQ.thenN (hY5 _ _ ?_)
 refine TW.seq fun Y6 hY6 => ?_
 refine TW.block ?_
 refine TW.seq fun Y7 hY7 => TW.region ?_
 refine TL.p Pu.mv ?_
 refine TL.p (Pu.el ty_et83) ?_
 refine TL.p (Pu.lds ty_ag160) ?_
 refine TL.m (Mk.al ty_zr160) ?_
 intro b1
 refine TL.p Pu.as ?_
 first | refine TL.st ty_sz160 ?_ | refine TL.se ty_sz160 ?_
 refine TL.nil (TQ.thenN (hY7 _ _ ?_))
 refine TW.seq fun Y8 hY8 => TW.region ?_
 refine TL.p Pu.mv ?_
 refine TL.p (Pu.lds ty_ag160) ?_
 refine TL.cr rfl (enters Tryz.func85 rfl rfl) (fun w hw => by
   exact cBarred_any (st i) (by omega) hok (h.ext (Chg.ext hw.chg)) (t.ext (Chg.ext hw.chg)) (ht9.ext (Chg.ext hw.chg)) (hG.ext (Chg.ext hw.chg))) ?_
 refine TL.p Pu.as ?_
 refine TL.nil (TQ.thenN (hY8 _ _ ?_))
 refine TW.seq fun Y9 hY9 => TW.region ?_
 refine TL.p Pu.mv ?_
 refine TL.p Pu.ne ?_
 refine TL.nil (TQ.thenN (hY9 _ _ ?_))
 refine TW.cond rfl (fun hc1 => ?_) (fun hc1 => ?_)
 try simp only [zcb9] at hc1
 have hb := wr_spec (f := fun t => whyZ Z T (st i 0) t) (fun t => (whyZ_bd).1) (tuD Z (st i 2) (st i 5 - 1)) 0 (by omega)
 have hpos : 0 < whyD Z T (st i) := by
  have h9 : 0 ≤ whyD Z T (st i) := by unfold whyD; rcases hb with ⟨q, _⟩ | ⟨q, _⟩ <;> omega
  omega
 refine TW.seq fun Y10 hY10 => TW.region ?_
 refine TL.p Pu.mv ?_
 refine TL.p Pu.mv ?_
 refine TL.p Pu.as ?_
 refine TL.p Pu.as ?_
 refine TL.nil (TQ.thenN (hY10 _ _ ?_))
 refine TW.ret ?_
 refine TQ.blkR ?_
 refine TQ.thenR ?_
 refine TQ.thenR ?_
 refine TQ.blkR ?_
 refine TQ.thenR ?_
 refine TQ.ret Tryz.results43 rfl ((.tmp rfl (.tmp rfl .nil))) ?_
 exact fun w hw => ⟨ret_u8i (by unfold barD; rw [brF_yes (f := fun i => whyD Z T (st i)) hpos hall n hin]) (by unfold barD; rw [brF_yes (f := fun i => whyD Z T (st i)) hpos hall n hin]), Chg.ext hw.chg⟩
 try simp only [zcb9] at hc1
 have hpos : ¬ 0 < whyD Z T (st i) := by omega
 refine TW.skip ?_
 refine TQ.blkN ?_
 refine TQ.thenN (hY6 _ _ ?_)
 refine TW.region ?_
 refine TL.p Pu.ad ?_
 refine TL.p Pu.mv ?_
 refine TL.nil ?_
 refine TQ.thenN (hZ0 (i + 1) _ _ ?_ ?_ fs9 ?_)
 exact ⟨by omega, fun j hj => (Nat.lt_succ_iff_lt_or_eq.1 hj).elim (hall j) (fun e => e ▸ hpos)⟩
 exact zom9
 exact ks9
 try simp only [zcb9] at hc0
 obtain rfl : i = n := by omega
 refine TW.exit ?_
 refine TQ.thenX ?_
 refine TQ.thenX ?_
 refine TQ.blkX ?_
 refine TQ.thenN (hY2 _ _ ?_)
 refine TW.seq fun Y11 hY11 => TW.region ?_
 refine TL.p Pu.as ?_
 refine TL.p Pu.as ?_
 refine TL.nil (TQ.thenN (hY11 _ _ ?_))
 refine TW.ret ?_
 refine TQ.ret Tryz.results43 rfl ((.tmp rfl (.tmp rfl .nil))) ?_
 exact fun w hw => ⟨ret_u8i (by unfold barD; rw [brF_no _ hall]) (by unfold barD; rw [brF_no _ hall]), Chg.ext hw.chg⟩
theorem cReady_any (hL : LandIn w W Y.nw A Y.nl Y.f Y.x Y.g) (h : CustIn w C Z.nc D Z.nd B Z.nb Z.c Z.d Z.b) (t : TrpIn w T O U V) :
  Calls Tryz.prog 25 #[.agg (landL W Y.nw cw A Y.nl cl).toArray, .agg (custL C Z.nc cc D Z.nd cd B Z.nb cb).toArray, .agg (troopL T.hd T.wo O T.no co U T.nu cu V T.nv cv).toArray] w (Ret w (.int .i64 (rdyC Y Z T))) := by
 unfold landL custL troopL
 refine K_enter (S := []) (K := []) Tryz.func25 rfl Tryz.ntmps25 rfl (Sat.start _) ?_
 refine TW.seq fun Y1 hY1 => TW.region ?_
 refine TL.m Mk.bx ?_
 intro b1
 refine TL.m Mk.bx ?_
 intro b2
 refine TL.m Mk.bx ?_
 intro b3
 refine TL.p Pu.as ?_
 refine TL.nil (TQ.thenN (hY1 _ _ ?_))
 refine TW.seq fun Y2 hY2 => ?_
 refine TW.seq fun Y3 hY3 => TW.region ?_
 refine TL.p (Pu.lds ty_ag25) ?_
 refine TL.p (Pu.lds ty_ag30) ?_
 refine TL.cr rfl (enters Tryz.func23 rfl rfl) (fun w hw => by
   exact tollCheck_any (hL.ext (Chg.ext hw.chg)) (h.ext (Chg.ext hw.chg))) ?_
 refine TL.p Pu.as ?_
 refine TL.nil (TQ.thenN (hY3 _ _ ?_))
 refine TW.seq fun Y4 hY4 => TW.region ?_
 refine TL.p Pu.mv ?_
 refine TL.p Pu.ne ?_
 refine TL.nil (TQ.thenN (hY4 _ _ ?_))
 refine TW.cond rfl (fun hc0 => ?_) (fun hc0 => ?_)
 try simp only [zcb9] at hc0
 have hne : chkY Y Z ≠ 0 := hc0
 refine TW.seq fun Y5 hY5 => TW.region ?_
 refine TL.p Pu.mv ?_
 refine TL.p Pu.as ?_
 refine TL.nil (TQ.thenN (hY5 _ _ ?_))
 refine TW.ret ?_
 refine TQ.thenR ?_
 refine TQ.ret Tryz.results25 rfl ((.tmp rfl .nil)) ?_
 exact fun w hw => ⟨ret_int (rdy_chk hne), Chg.ext hw.chg⟩
 try simp only [zcb9] at hc0
 have hz : chkY Y Z = 0 := by show checkC _ _ _ _ _ _ _ _ _ _ _ = 0; simpa using hc0
 refine TW.skip ?_
 refine TQ.thenN (hY2 _ _ ?_)
 refine TW.seq fun Y6 hY6 => ?_
 refine TW.seq fun Y7 hY7 => TW.region ?_
 refine TL.p (Pu.lds ty_ag33) ?_
 refine TL.cr rfl (enters Tryz.func54 rfl rfl) (fun w hw => by
   exact cValid_any (t.ext (Chg.ext hw.chg))) ?_
 refine TL.p Pu.no ?_
 refine TL.nil (TQ.thenN (hY7 _ _ ?_))
 refine TW.cond rfl (fun hc1 => ?_) (fun hc1 => ?_)
 try simp only [zcb9] at hc1
 have h1 : trpOk T = false := by simpa using hc1
 refine TW.seq fun Y8 hY8 => TW.region ?_
 refine TL.p Pu.as ?_
 refine TL.nil (TQ.thenN (hY8 _ _ ?_))
 refine TW.ret ?_
 refine TQ.thenR ?_
 refine TQ.ret Tryz.results25 rfl ((.tmp rfl .nil)) ?_
 exact fun w hw => ⟨ret_int (rdy_trp hz h1), Chg.ext hw.chg⟩
 try simp only [zcb9] at hc1
 have h1 : trpOk T = true := by simpa using hc1
 refine TW.skip ?_
 refine TQ.thenN (hY6 _ _ ?_)
 refine TW.seq fun Y9 hY9 => TW.region ?_
 refine TL.p Pu.as ?_
 refine TL.nil (TQ.thenN (hY9 _ _ ?_))
 refine TW.ret ?_
 refine TQ.ret Tryz.results25 rfl ((.tmp rfl .nil)) ?_
 exact fun w hw => ⟨ret_int (rdy_ok hz h1), Chg.ext hw.chg⟩
set_option maxRecDepth 100000 in
theorem cWalked_any (hL : LandIn w W Y.nw A Y.nl Y.f Y.x Y.g) (hn : Y.n ≤ 1000) (hR : RdR w 1 L Y.n (fun k => [.int .i64 (Y.ls k)])) :
  CallsK Tryz.prog 27 #[.agg (landL W Y.nw cw A Y.nl cl).toArray, .agg (custL C Z.nc cc D Z.nd cd B Z.nb cb).toArray, .agg (troopL T.hd T.wo O T.no co U T.nu cu V T.nv cv).toArray, .int .i64 Y.start, .int .i64 Y.day, .agg #[.int .i64 Y.p0, .int .i64 Y.p1], .slice L Y.n cn] [] w ((Option Addr × Nat) × Nat) (fun y => .tuple #[.pointer (some ⟨y.2, 0, none⟩), .int .i64 (wkC Y)])
   (fun y => [.blk y.2 129 (trkL T O co U cu V cv Z C cc D cd B cb y.1.1 (wkN Y) y.1.2), .own y.1.1 (wkN Y) y.1.2 160 6 (fun k => stopL (stY Y k))]) := by
 unfold landL custL troopL trkL
 refine K_enter (S := []) (K := []) Tryz.func27 rfl Tryz.ntmps27 rfl (Sat.start _) ?_
 refine TW.seq fun Y1 hY1 => TW.region ?_
 refine TL.m Mk.bx ?_
 intro b1
 refine TL.m Mk.bx ?_
 intro b2
 refine TL.m Mk.bx ?_
 intro b3
 refine TL.m Mk.bx ?_
 intro b4
 refine TL.p Pu.as ?_
 refine TL.p Pu.as ?_
 refine TL.nil (TQ.thenN (hY1 _ _ ?_))
 refine TW.seq fun Y2 hY2 => TW.region ?_
 refine TL.p (Pu.lds ty_ag25) ?_
 refine TL.p Pu.mv ?_
 refine TL.p Pu.mv ?_
 refine TL.p (Pu.lds ty_ag36) ?_
 refine TL.p Pu.mv ?_
 refine TL.call (M := []) rfl (enters Tryz.func57 rfl rfl) (List.Perm.refl _) rfl (fun w hw => by
   exact cWalk_any (hL.ext (Chg.ext hw.chg)) hn (hR.sat hw Apart.nil)) ?_
 rintro ⟨⟨As, cs⟩, i9⟩
 simp only [wkR, wkL, List.cons_append, List.nil_append]
 refine TL.p Pu.mv ?_
 refine TL.p Pu.ex ?_
 refine TL.p Pu.ex ?_
 refine TL.p Pu.ex ?_
 refine TL.p Pu.as ?_
 refine TL.p Pu.as ?_
 refine TL.p Pu.as ?_
 refine TL.nil (TQ.thenN (hY2 _ _ ?_))
 refine TW.seq fun Y3 hY3 => TW.region ?_
 refine TL.p (Pu.lds ty_ag33) ?_
 refine TL.p (Pu.lds ty_ag30) ?_
 refine TL.p Pu.mv ?_
 refine TL.p Pu.bd ?_
 refine TL.m Mk.bx ?_
 intro b5
 refine TL.p Pu.mv ?_
 refine TL.p Pu.as ?_
 refine TL.p Pu.as ?_
 refine TL.nil (TQ.thenN (hY3 _ _ ?_))
 refine TW.ret ?_
 refine TQ.ret Tryz.results27 rfl ((.tmp rfl (.tmp rfl .nil))) ?_
 exact fun w hw => ⟨((As, cs), b5), rfl, hw.sub ks9⟩
theorem ret_3 {a b c a' b' c' : Int} (h1 : a = a') (h2 : b = b') (h3 : c = c') : Ending.returned (.tuple #[.int .u8 a, .int .i64 b, .int .i64 c]) = .returned (.tuple #[.int .u8 a', .int .i64 b', .int .i64 c']) := by rw [h1, h2, h3]
theorem barA_bad {Y : Wy} {Z : Cus} {T : Trp} (h : tolC Y Z T ≠ 0) : barA Y Z T = (0, 0) := if_neg h
set_option maxRecDepth 100000 in
set_option maxHeartbeats 1000000 in
theorem tollBarred_any (hL : LandIn w W Y.nw A Y.nl Y.f Y.x Y.g) (hn : Y.n ≤ 1000) (hR : RdR w 1 L Y.n (fun k => [.int .i64 (Y.ls k)])) (h : CustIn w C Z.nc D Z.nd B Z.nb Z.c Z.d Z.b) (t : TrpIn w T O U V) (hG : OldB w 0 barsL) :
  Calls Tryz.prog 17 #[.agg (landL W Y.nw cw A Y.nl cl).toArray, .agg (custL C Z.nc cc D Z.nd cd B Z.nb cb).toArray, .agg (troopL T.hd T.wo O T.no co U T.nu cu V T.nv cv).toArray, .int .i64 Y.start, .int .i64 Y.day, .agg #[.int .i64 Y.p0, .int .i64 Y.p1], .slice L Y.n cn] w (Ret w (.tuple #[.int .u8 (barA Y Z T).1, .int .i64 (barA Y Z T).2, .int .i64 (tolC Y Z T)])) := by
 have fR := fun (w' : World) (h1 : LandIn w' W Y.nw A Y.nl Y.f Y.x Y.g) (h2 : CustIn w' C Z.nc D Z.nd B Z.nb Z.c Z.d Z.b) (h3 : TrpIn w' T O U V) => cReady_any (cw := cw) (cl := cl) (cc := cc) (cd := cd) (cb := cb) (co := co) (cu := cu) (cv := cv) h1 h2 h3
 have fW := fun (w' : World) (h1 : LandIn w' W Y.nw A Y.nl Y.f Y.x Y.g) (h2 : RdR w' 1 L Y.n (fun k => [.int .i64 (Y.ls k)])) => cWalked_any (Z := Z) (T := T) (C := C) (D := D) (B := B) (O := O) (U := U) (V := V) (cw := cw) (cl := cl) (cc := cc) (cd := cd) (cb := cb) (co := co) (cu := cu) (cv := cv) (cn := cn) h1 hn h2
 unfold landL custL troopL at fR fW ⊢
 refine K_enter (S := []) (K := []) Tryz.func17 rfl Tryz.ntmps17 rfl (Sat.start _) ?_
 refine TW.seq fun Y1 hY1 => TW.region ?_
 refine TL.m Mk.bx ?_
 intro b1
 refine TL.m Mk.bx ?_
 intro b2
 refine TL.m Mk.bx ?_
 intro b3
 refine TL.m Mk.bx ?_
 intro b4
 refine TL.p Pu.as ?_
 refine TL.p Pu.as ?_
 refine TL.p Pu.as ?_
 refine TL.nil (TQ.thenN (hY1 _ _ ?_))
 refine TW.seq fun Y2 hY2 => ?_
 refine TW.seq fun Y3 hY3 => TW.region ?_
 refine TL.p (Pu.lds ty_ag25) ?_
 refine TL.p (Pu.lds ty_ag30) ?_
 refine TL.p (Pu.lds ty_ag33) ?_
 refine TL.cr rfl (enters Tryz.func25 rfl rfl) (fun w hw => by
   exact fR _ (hL.ext (Chg.ext hw.chg)) (h.ext (Chg.ext hw.chg)) (t.ext (Chg.ext hw.chg))) ?_
 refine TL.p Pu.as ?_
 refine TL.nil (TQ.thenN (hY3 _ _ ?_))
 refine TW.seq fun Y4 hY4 => TW.region ?_
 refine TL.p Pu.mv ?_
 refine TL.p Pu.ne ?_
 refine TL.nil (TQ.thenN (hY4 _ _ ?_))
 refine TW.cond rfl (fun hc0 => ?_) (fun hc0 => ?_)
 try simp only [zcb9] at hc0
 have hne : rdyC Y Z T ≠ 0 := hc0
 have hte : tolC Y Z T ≠ 0 := by rw [tol_rdy hne]; exact hne
 refine TW.seq fun Y5 hY5 => TW.region ?_
 refine TL.p Pu.mv ?_
 refine TL.p Pu.as ?_
 refine TL.p Pu.as ?_
 refine TL.p Pu.as ?_
 refine TL.nil (TQ.thenN (hY5 _ _ ?_))
 refine TW.ret ?_
 refine TQ.thenR ?_
 refine TQ.ret Tryz.results17 rfl ((.tmp rfl (.tmp rfl (.tmp rfl .nil)))) ?_
 exact fun w hw => ⟨ret_3 (by rw [barA_bad hte]) (by rw [barA_bad hte]) (tol_rdy hne).symm, Chg.ext hw.chg⟩
 try simp only [zcb9] at hc0
 have hz : rdyC Y Z T = 0 := by simpa using hc0
 obtain ⟨hz1, hz2⟩ := rdy_split hz
 have hok := chk_ok hz1
 refine TW.skip ?_
 refine TQ.thenN (hY2 _ _ ?_)
 refine TW.seq fun Y6 hY6 => TW.region ?_
 refine TL.p (Pu.lds ty_ag25) ?_
 refine TL.p (Pu.lds ty_ag30) ?_
 refine TL.p (Pu.lds ty_ag33) ?_
 refine TL.p Pu.mv ?_
 refine TL.p Pu.mv ?_
 refine TL.p (Pu.lds ty_ag36) ?_
 refine TL.p Pu.mv ?_
 refine TL.call (M := []) rfl (enters Tryz.func27 rfl rfl) (List.Perm.refl _) rfl (fun w hw => by
   exact fW _ (hL.ext (Chg.ext hw.chg)) (hR.sat hw Apart.nil)) ?_
 rintro ⟨⟨As, cs⟩, bt⟩
 refine TL.p Pu.mv ?_
 refine TL.p Pu.ex ?_
 refine TL.p Pu.ex ?_
 refine TL.p Pu.as ?_
 refine TL.p Pu.as ?_
 refine TL.nil (TQ.thenN (hY6 _ _ ?_))
 refine TW.seq fun Y7 hY7 => ?_
 refine TW.seq fun Y8 hY8 => TW.region ?_
 refine TL.p Pu.mv ?_
 refine TL.p Pu.ne ?_
 refine TL.nil (TQ.thenN (hY8 _ _ ?_))
 refine TW.cond rfl (fun hc1 => ?_) (fun hc1 => ?_)
 try simp only [zcb9] at hc1
 have hne : wkC Y ≠ 0 := hc1
 have hte : tolC Y Z T ≠ 0 := by rw [tol_wk hz]; exact hne
 refine TW.seq fun Y9 hY9 => TW.region ?_
 refine TL.p Pu.mv ?_
 refine TL.p Pu.as ?_
 refine TL.p Pu.as ?_
 refine TL.p Pu.as ?_
 refine TL.nil (TQ.thenN (hY9 _ _ ?_))
 refine TW.ret ?_
 refine TQ.thenR ?_
 refine TQ.ret Tryz.results17 rfl ((.tmp rfl (.tmp rfl (.tmp rfl .nil)))) ?_
 exact fun w hw => ⟨ret_3 (by rw [barA_bad hte]) (by rw [barA_bad hte]) (tol_wk hz).symm, Chg.ext hw.chg⟩
 try simp only [zcb9] at hc1
 have hwz : wkC Y = 0 := by simpa using hc1
 have hte : tolC Y Z T = 0 := by rw [tol_wk hz]; exact hwz
 have hwn := wkN_n hwz
 have hwb := stY_bd hwz
 refine TW.skip ?_
 refine TQ.thenN (hY7 _ _ ?_)
 refine TW.seq fun Y10 hY10 => TW.region ?_
 refine TL.p Pu.mv ?_
 refine TL.cr rfl (enters Tryz.func43 rfl rfl) (fun w hw => by
   have q1 := OldB.of_blk (hw.holds (.blk bt 129 (trkL T O co U cu V cv Z C cc D cd B cb As (wkN Y) cs)) (by simp))
   have q2 := OwnR.rdr (hw.holds (.own As (wkN Y) cs 160 6 (fun k => stopL (stY Y k))) (by simp))
   exact cFirst_any hok (h.ext (Chg.ext hw.chg)) (t.ext (Chg.ext hw.chg)) ⟨by rw [hwn]; exact hn, q2, fun k hk => hwb k (by rw [← hwn]; exact hk)⟩ q1 (hG.ext (Chg.ext hw.chg))) ?_
 refine TL.p Pu.mv ?_
 refine TL.p Pu.ex ?_
 refine TL.p Pu.ex ?_
 refine TL.p Pu.as ?_
 refine TL.p Pu.as ?_
 refine TL.nil (TQ.thenN (hY10 _ _ ?_))
 refine TW.seq fun Y11 hY11 => TW.region ?_
 refine TL.p Pu.mv ?_
 refine TL.p Pu.mv ?_
 refine TL.p Pu.as ?_
 refine TL.p Pu.as ?_
 refine TL.p Pu.as ?_
 refine TL.nil (TQ.thenN (hY11 _ _ ?_))
 refine TW.ret ?_
 refine TQ.ret Tryz.results17 rfl ((.tmp rfl (.tmp rfl (.tmp rfl .nil)))) ?_
 exact fun w hw => ⟨ret_3 (by unfold barA; rw [if_pos hte, hwn]) (by unfold barA; rw [if_pos hte, hwn]) hte.symm, Chg.ext hw.chg⟩
end
end Go.Proofs.YtfaenhhgkhcghaaGreatDoor
namespace Go.Proofs.YtfaenhhgkhcghaaGreatDoor
set_option linter.all false
set_option linter.unusedVariables false
set_option linter.unusedSimpArgs false
open Go.RowKit
def dueL (Y : Wy) (Z : Cus) (T : Trp) : List TlX := if tolC Y Z T = 0 then tolA Z T (stY Y) Y.n else []
def dueLo (Y : Wy) (Z : Cus) (T : Trp) : Int := if tolC Y Z T = 0 then allLo Z T (stY Y) Y.n else 0
def dueHi (Y : Wy) (Z : Cus) (T : Trp) : Int := if tolC Y Z T = 0 then allHi Z T (stY Y) Y.n else 0
def dueV (Y : Wy) (Z : Cus) (T : Trp) (y : Option Addr × Nat) : Value := .tuple #[.slice y.1 (dueL Y Z T).length y.2, .agg #[.int .i64 (dueLo Y Z T), .int .i64 (dueHi Y Z T)], .int .i64 (tolC Y Z T)]
def dueK (Y : Wy) (Z : Cus) (T : Trp) (y : Option Addr × Nat) : List Fact := [.own y.1 (dueL Y Z T).length y.2 98 4 (rowsT (dueL Y Z T))]
theorem due_bad {Y : Wy} {Z : Cus} {T : Trp} {w w' : World} {K : List Fact} {e : Int} (hw : Sat [] w K w') (he : tolC Y Z T = e) (h0 : e ≠ 0) : ∃ y, Ending.returned (retV [.slice none 0 0, .agg #[.int .i64 0, .int .i64 0], .int .i64 e]) = .returned (dueV Y Z T y) ∧ Sat [] w (dueK Y Z T y) w' := by
 have h9 : tolC Y Z T ≠ 0 := by rw [he]; exact h0
 have e1 : dueL Y Z T = [] := if_neg h9
 have e2 : dueLo Y Z T = 0 := if_neg h9
 have e3 : dueHi Y Z T = 0 := if_neg h9
 refine ⟨(none, 0), ?_, ?_⟩
 · unfold dueV
   rw [e1, e2, e3, he]
   rfl
 · unfold dueK
   rw [e1]
   exact hw.sub (KSub.nilOwn KSub.nil)
section
variable {Z : Cus} {T : Trp} {Y : Wy} {W A L C D B O U V S : Option Addr} {cw cl cn cc cd cb co cu cv n cs bt : Nat} {st : Nat → Nat → Int} {w : World}
end
end Go.Proofs.YtfaenhhgkhcghaaGreatDoor
namespace Go.Proofs.YtfaenhhgkhcghaaGreatDoor
set_option linter.all false
set_option linter.unusedVariables false
set_option linter.unusedSimpArgs false
open Go.RowKit
theorem Fact.locB {φ : Fact} {w w' : World} (h : φ.holds w) (he : ∀ b ∈ φ.foot, w'.heap[b]? = w.heap[b]?) : φ.holds w' := by
  match φ, h, he with
  | .blk b t cs, h, he => exact (he b (by simp [Fact.foot])).trans h
  | .own A n c E sz f, h, he => exact ⟨own_of_block h.own fun b hb => he b (by rw [own_foot, hb]; simp), h.len⟩
  | .obj b o, h, he => exact ⟨(he b (by simp [Fact.foot])).trans h.1, h.2⟩
  | .pr l p, h, he =>
    refine ⟨h.loc w w' h.lt h.now he, fun b hb => ?_, h.loc⟩
    have h1 := h.lt b hb
    have h2 := he b hb
    rw [Array.getElem?_eq_getElem h1] at h2
    exact (Array.getElem?_eq_some_iff.1 h2).1
def bun (K : List Fact) : Fact := .pr (feet K) fun w => ∀ φ ∈ K, φ.holds w
theorem bun_holds {K : List Fact} {w : World} (h : ∀ φ ∈ K, φ.holds w) : (bun K).holds w :=
 ⟨h, fun b hb => by
  obtain ⟨φ, hφ, hb'⟩ := List.mem_flatMap.1 hb
  exact Fact.lt (h φ hφ) b hb', fun w w' _ hp he φ hφ => Fact.locB (hp φ hφ) fun b hb => he b (List.mem_flatMap.2 ⟨φ, hφ, hb⟩)⟩
theorem Sat.bun {S : List Nat} {w0 w : World} {K1 K : List Fact} (h : Sat S w0 (K1 ++ K) w) : Sat S w0 (bun K1 :: K) w := by
 have e : feet (Go.Proofs.YtfaenhhgkhcghaaGreatDoor.bun K1 :: K) = feet (K1 ++ K) := by rw [feet_append]; rfl
 refine ⟨h.chg, by rw [e]; exact h.nd, by rw [e]; exact h.ge, fun φ hφ => ?_⟩
 rcases List.mem_cons.1 hφ with rfl | hφ
 · exact bun_holds fun ψ hψ => h.holds ψ (List.mem_append_left _ hψ)
 · exact h.holds φ (List.mem_append_right _ hφ)
theorem TL.bun {c : Cx} {Q : Exit → Act → World → Prop} {F : Fr} {K1 K : List Fact} {ops : Array Oper} {rest : List Oper} (h : TL c ops Q rest F (bun K1 :: K)) : TL c ops Q rest F (K1 ++ K) := fun a w hF hK => h a w hF hK.bun
theorem bun_get {S : List Nat} {w0 w : World} {K1 K : List Fact} (hw : Sat S w0 K w) (hm : bun K1 ∈ K) {φ : Fact} (h : φ ∈ K1) : φ.holds w := (hw.holds _ hm).now φ h
end Go.Proofs.YtfaenhhgkhcghaaGreatDoor
namespace Go.Proofs.YtfaenhhgkhcghaaGreatDoor
set_option linter.all false
set_option linter.unusedVariables false
set_option linter.unusedSimpArgs false
open Go.RowKit
def ownsE (E : TypeId) (sz : Nat) (A : Nat → Option Addr) (l c : Nat → Nat) (r : Nat → Nat → List Value) : Nat → List Fact
 | 0 => []
 | n + 1 => .own (A n) (l n) (c n) E sz (r n) :: ownsE E sz A l c r n
theorem ownsE_mem {E : TypeId} {sz : Nat} {A : Nat → Option Addr} {l c : Nat → Nat} {r : Nat → Nat → List Value} {s : Nat} : ∀ {n : Nat}, s < n → Fact.own (A s) (l s) (c s) E sz (r s) ∈ ownsE E sz A l c r n
 | n + 1, h => by
  simp only [ownsE, List.mem_cons]
  by_cases hs : s = n
  · subst hs; exact .inl rfl
  · exact .inr (ownsE_mem (by omega))
def updA {α : Type} (f : Nat → α) (s : Nat) (x : α) : Nat → α := fun i => if i = s then x else f i
end Go.Proofs.YtfaenhhgkhcghaaGreatDoor
namespace Go.Proofs.YtfaenhhgkhcghaaGreatDoor
set_option linter.all false
set_option linter.unusedVariables false
set_option linter.unusedSimpArgs false
open Go.RowKit
abbrev tied (K : List Fact) : Fact := bun K
theorem Sat.unbun {S : List Nat} {w0 w : World} {K1 K : List Fact} (h : Sat S w0 (tied K1 :: K) w) : Sat S w0 (K1 ++ K) w := by
 have e : feet (tied K1 :: K) = feet (K1 ++ K) := by rw [feet_append]; rfl
 refine ⟨h.chg, by rw [← e]; exact h.nd, by rw [← e]; exact h.ge, fun φ hφ => ?_⟩
 rcases List.mem_append.1 hφ with hφ | hφ
 · exact (h.holds _ (List.mem_cons_self ..)).now φ hφ
 · exact h.holds φ (List.mem_cons_of_mem _ hφ)
def ownsU (E : TypeId) (sz : Nat) (A : Nat → Option Addr) (l c : Nat → Nat) (r : Nat → Nat → List Value) : Nat → Nat → List Fact
 | _, 0 => []
 | s, n + 1 => .own (A s) (l s) (c s) E sz (r s) :: ownsU E sz A l c r (s + 1) n
def ownsXE (E : TypeId) (sz : Nat) (A : Nat → Option Addr) (l c : Nat → Nat) (r : Nat → Nat → List Value) (s : Nat) : Nat → List Fact
 | 0 => []
 | n + 1 => if n = s then ownsE E sz A l c r n else .own (A n) (l n) (c n) E sz (r n) :: ownsXE E sz A l c r s n
section
variable {E : TypeId} {sz : Nat} {A A2 : Nat → Option Addr} {l l2 c c2 : Nat → Nat} {r r2 : Nat → Nat → List Value} {s : Nat}
theorem ownsE_perm : ∀ {n : Nat}, s < n → (ownsE E sz A l c r n).Perm (.own (A s) (l s) (c s) E sz (r s) :: ownsXE E sz A l c r s n)
 | n + 1, h => by
  by_cases hs : n = s
  · subst hs
    simp only [ownsE, ownsXE, if_true]
    exact List.Perm.refl _
  · simp only [ownsE, ownsXE, if_neg hs]
    exact ((ownsE_perm (n := n) (by omega)).cons _).trans (List.Perm.swap _ _ _)
theorem ownsE_congr2 : ∀ {n : Nat}, (∀ i, i < n → A i = A2 i ∧ l i = l2 i ∧ c i = c2 i ∧ r i = r2 i) → ownsE E sz A l c r n = ownsE E sz A2 l2 c2 r2 n
 | 0, _ => rfl
 | n + 1, h => by
  obtain ⟨h1, h2, h3, h4⟩ := h n (by omega)
  simp only [ownsE, h1, h2, h3, h4, ownsE_congr2 (n := n) fun i hi => h i (by omega)]
theorem ownsXE_congr : ∀ {n : Nat}, (∀ i, i < n → i ≠ s → A i = A2 i ∧ l i = l2 i ∧ c i = c2 i ∧ r i = r2 i) → ownsXE E sz A l c r s n = ownsXE E sz A2 l2 c2 r2 s n
  | 0, _ => rfl
  | n + 1, h => by
    by_cases hs : n = s
    · subst hs
      simp only [ownsXE, if_true]
      exact ownsE_congr2 fun i hi => h i (by omega) (by omega)
    · obtain ⟨h1, h2, h3, h4⟩ := h n (by omega) hs
      simp only [ownsXE, if_neg hs, h1, h2, h3, h4, ownsXE_congr (n := n) fun i hi => h i (by omega)]
variable {cx : Cx} {Q : Exit → Act → World → Prop} {F : Fr} {K K' : List Fact} {ops : Array Oper} {rest : List Oper}
theorem TL.ownTake {n : Nat} (s : Nat) (hs : s < n) (hp : Pick K (tied (ownsE E sz A l c r n)) K') (h : TL cx ops Q rest F (.own (A s) (l s) (c s) E sz (r s) :: tied (ownsXE E sz A l c r s n) :: K')) : TL cx ops Q rest F K := fun a w hF hK => by
 have h1 : Sat cx.S cx.w0 (ownsE E sz A l c r n ++ K') w := (hK.pick hp).unbun
 have h2 := h1.perm ((ownsE_perm hs).append_right K')
 have h3 : Sat cx.S cx.w0 (ownsXE E sz A l c r s n ++ (.own (A s) (l s) (c s) E sz (r s) :: K')) w := h2.perm List.perm_middle.symm
 exact h a w hF (h3.bun.perm (List.Perm.swap _ _ _))
theorem TL.ownNext {n : Nat} (hp : Pick K (tied (ownsU E sz A l c r s (n + 1))) K') (h : TL cx ops Q rest F (.own (A s) (l s) (c s) E sz (r s) :: tied (ownsU E sz A l c r (s + 1) n) :: K')) : TL cx ops Q rest F K := fun a w hF hK => by
 have h1 : Sat cx.S cx.w0 (ownsU E sz A l c r s (n + 1) ++ K') w := (hK.pick hp).unbun
 have h3 : Sat cx.S cx.w0 (ownsU E sz A l c r (s + 1) n ++ (.own (A s) (l s) (c s) E sz (r s) :: K')) w := h1.perm List.perm_middle.symm
 exact h a w hF (h3.bun.perm (List.Perm.swap _ _ _))
theorem TQ.tiedU {e : Exit} (hp : Pick K (tied (ownsE E sz A l c r 8)) K') (h : TQ cx Q e F (tied (ownsU E sz A l c r 0 8) :: K')) : TQ cx Q e F K := fun a w hF hK => by
 have h1 : Sat cx.S cx.w0 (ownsE E sz A l c r 8 ++ K') w := (hK.pick hp).unbun
 have e : ownsU E sz A l c r 0 8 = (ownsE E sz A l c r 8).reverse := rfl
 have h2 : Sat cx.S cx.w0 (ownsU E sz A l c r 0 8 ++ K') w := by
  rw [e]
  exact h1.perm ((List.reverse_perm _).symm.append_right K')
 exact h a w hF h2.bun
theorem TW.tied0 {x : Code} (r : Nat → Nat → List Value) (h : TW cx x Q F (tied (ownsE E sz (fun _ => none) (fun _ => 0) (fun _ => 0) r 8) :: K)) : TW cx x Q F K := fun a w hF hK => by
 refine h a w hF ((hK.sub ?_).bun)
 simp only [ownsE, List.cons_append, List.nil_append]
 exact KSub.nilOwn (KSub.nilOwn (KSub.nilOwn (KSub.nilOwn (KSub.nilOwn (KSub.nilOwn (KSub.nilOwn (KSub.nilOwn (KSub.refl _))))))))
theorem TL.ownPut {n : Nat} {A9 : Option Addr} {l9 c9 : Nat} {r9 : Nat → List Value} {K1 K2 : List Fact} (hp : Pick K (.own A9 l9 c9 E sz r9) K1) (hp2 : Pick K1 (tied (ownsXE E sz A l c r s n)) K2) (hs : s < n) (hA : A2 s = A9) (hl : l2 s = l9) (hc : c2 s = c9) (hr : ∀ k, k < l9 → r9 k = r2 s k)
  (ho : ∀ i, i < n → i ≠ s → A i = A2 i ∧ l i = l2 i ∧ c i = c2 i ∧ r i = r2 i) (h : TL cx ops Q rest F (tied (ownsE E sz A2 l2 c2 r2 n) :: K2)) : TL cx ops Q rest F K := fun a w hF hK => by
 subst hA hl hc
 have h1 := (hK.pick hp).sub (KSub.own Pick.hd hr (KSub.refl _))
 have h2 := h1.perm ((hp2.perm).cons _)
 have h3 := h2.perm (List.Perm.swap _ _ _)
 have h4 := h3.unbun
 rw [ownsXE_congr ho] at h4
 have h5 : Sat cx.S cx.w0 ((.own (A2 s) (l2 s) (c2 s) E sz (r2 s) :: ownsXE E sz A2 l2 c2 r2 s n) ++ K2) w := h4.perm List.perm_middle
 exact h a w hF ((h5.perm ((ownsE_perm hs).symm.append_right K2)).bun)
theorem Pu.l1V {d : Option Tmp} {ty : TypeId} {pos : String} {af : Array Edge} {g : Option (Nat × Bool)} {x y : Operand} {T kt et : TypeId} {kk : IntKind} {b : Nat} {i : Int} {z : Value} (v : Value) {m : List (Int × Value)} (hT : MapT cx.P T kt et kk) (hz : ∀ w, (zeroValue et).run cx.P w = .ok z w) (hv : (mlook i m).getD z = v) (hx : ev F x = some (.map (some b)) := by rfl) (hy : ev F y = some (.int kk i) := by rfl)
    (hp : Pick K (.obj b (mapO kk m)) K' := by repeat (first | exact Pick.hd | apply Pick.tl)) : Pu cx F K ⟨d, .lookup T x y false, ty, pos, af, g⟩ v := by
  subst hv
  exact Pu.l1 hT hz hx hy hp
end
theorem look_put {i j : Int} {v : Value} : ∀ l : List (Int × Value), mlook j (mput i v l) = if j = i then some v else mlook j l
 | [] => by simp only [mput, mlook]
 | (k, u) :: l => by
  simp only [mput]
  by_cases h : i = k
  · subst h
    rw [if_pos rfl]
    simp only [mlook]
    by_cases e : j = i
    · rw [if_pos e, if_pos e]
    · rw [if_neg e, if_neg e, if_neg e]
  · rw [if_neg h]
    simp only [mlook, look_put l]
    by_cases e : j = k
    · rw [if_pos e, if_pos e, if_neg (fun e2 => h (by rw [← e2, e]))]
    · rw [if_neg e, if_neg e]
noncomputable def propB (p : Prop) : Bool := @decide p (Classical.propDecidable p)
theorem propB_iff {p : Prop} : propB p = true ↔ p := @decide_eq_true_iff p (Classical.propDecidable p)
end Go.Proofs.YtfaenhhgkhcghaaGreatDoor
namespace Go.Proofs.YtfaenhhgkhcghaaGreatDoor
set_option linter.all false
set_option linter.unusedVariables false
set_option linter.unusedSimpArgs false
open Go.RowKit
def payB (Z : Cus) (T : Trp) (leg t : Int) : Bool := decide (0 ≤ holZ Z leg t) && !hasB T.v T.nv ((hclO Z leg t).1 1)
def isW (Z : Cus) (T : Trp) (leg : Int) (s : Nat) (t : Int) : Bool := payB Z T leg t && decide ((hclO Z leg t).1 1 = s)
theorem payB_no {Z : Cus} {T : Trp} {leg t : Int} (h : payB Z T leg t = false) : payZ Z T leg t = 0 := by
 unfold payB at h
 unfold payZ
 split
 · next hh =>
   rw [decide_eq_true hh, Bool.true_and, Bool.not_eq_false'] at h
   unfold hclO at h
   rw [if_pos hh] at h
   exact if_pos h
 · rfl
theorem onT_onW {Z : Cus} {T : Trp} {leg : Int} {s : Nat} (t : Int) : onT Z T leg s t = onW (isW Z T leg s) (payZ Z T leg) t := by
 unfold onT onW isW
 cases hb : payB Z T leg t with
 | false =>
  rw [payB_no hb]
  simp
 | true =>
  have hh : 0 ≤ holZ Z leg t := by
    unfold payB at hb
    rw [Bool.and_eq_true, decide_eq_true_eq] at hb
    exact hb.1
  have e : whoZ Z leg t = (hclO Z leg t).1 1 := by unfold whoZ hclO; rw [if_pos hh, if_pos hh]
  rw [e, Bool.true_and]
  by_cases e2 : (hclO Z leg t).1 1 = (s : Int)
  · rw [if_pos e2, if_pos (decide_eq_true e2)]
  · rw [if_neg e2, if_neg (by simpa using e2)]
def gq (Z : Cus) (T : Trp) (leg : Int) (D : List Int) (q s : Nat) : List Int := gtL (isW Z T leg s) (payZ Z T leg) (D.take q)
theorem gq_yes {Z : Cus} {T : Trp} {leg : Int} {D : List Int} {q s : Nat} (hq : q < D.length) (h : isW Z T leg s (D.getD q 0) = true) : gq Z T leg D (q + 1) s = gq Z T leg D q s ++ [payZ Z T leg (D.getD q 0)] := by
 unfold gq gtL
 rw [filter_takeT hq, if_pos h, List.map_append]
 rfl
theorem gq_no {Z : Cus} {T : Trp} {leg : Int} {D : List Int} {q s : Nat} (hq : q < D.length) (h : isW Z T leg s (D.getD q 0) = false) : gq Z T leg D (q + 1) s = gq Z T leg D q s := by
 unfold gq gtL
 rw [filter_takeT hq, if_neg (by rw [h]; simp)]
theorem gq_len {Z : Cus} {T : Trp} {leg : Int} {D : List Int} {q s : Nat} : (gq Z T leg D q s).length ≤ D.length := by
 unfold gq gtL
 rw [List.length_map]
 exact Nat.le_trans (List.length_filter_le _ _) (by rw [List.length_take]; omega)
def sumQ (Z : Cus) (T : Trp) (leg : Int) (D : List Int) (q : Nat) : List Int := (D.take q).map (payZ Z T leg)
theorem sumQ_s {Z : Cus} {T : Trp} {leg : Int} {D : List Int} {q : Nat} (hq : q < D.length) : sumQ Z T leg D (q + 1) = sumQ Z T leg D q ++ [payZ Z T leg (D.getD q 0)] := by
 unfold sumQ
 rw [take_succ hq, List.map_append]
 rfl
theorem sumQ_len {Z : Cus} {T : Trp} {leg : Int} {D : List Int} {q : Nat} (hq : q ≤ D.length) : (sumQ Z T leg D q).length = q := by
 unfold sumQ
 rw [List.length_map, List.length_take]
 omega
theorem mnF_spec {v : Nat → Int} : ∀ k, (∃ j, j ≤ k ∧ v j = mnF v k) ∧ ∀ j, j ≤ k → mnF v k ≤ v j
 | 0 => ⟨⟨0, Nat.le_refl _, rfl⟩, fun j hj => by have e : j = 0 := Nat.le_zero.1 hj; rw [e]; exact Int.le_refl _⟩
 | k + 1 => by
  obtain ⟨⟨j, hj, e⟩, h⟩ := mnF_spec (v := v) k
  simp only [mnF]
  refine ⟨?_, fun i hi => ?_⟩
  · by_cases h2 : mnF v k ≤ v (k + 1)
    · exact ⟨j, by omega, by omega⟩
    · exact ⟨k + 1, Nat.le_refl _, by omega⟩
  · by_cases e2 : i = k + 1
    · subst e2; omega
    · have := h i (by omega); omega
theorem mxF_spec {v : Nat → Int} : ∀ k, (∃ j, j ≤ k ∧ v j = mxF v k) ∧ ∀ j, j ≤ k → v j ≤ mxF v k
 | 0 => ⟨⟨0, Nat.le_refl _, rfl⟩, fun j hj => by have e : j = 0 := Nat.le_zero.1 hj; rw [e]; exact Int.le_refl _⟩
 | k + 1 => by
  obtain ⟨⟨j, hj, e⟩, h⟩ := mxF_spec (v := v) k
  simp only [mxF]
  refine ⟨?_, fun i hi => ?_⟩
  · by_cases h2 : v (k + 1) ≤ mxF v k
    · exact ⟨j, by omega, by omega⟩
    · exact ⟨k + 1, Nat.le_refl _, by omega⟩
  · by_cases e2 : i = k + 1
    · subst e2; omega
    · have := h i (by omega); omega
theorem mx0_mxF {v : Nat → Int} (hv : ∀ j, 0 ≤ v j) : ∀ k, mx0 v (k + 1) = mxF v k
 | 0 => by have := hv 0; simp only [mx0, mxF]; omega
 | k + 1 => by
  have := mx0_mxF hv k
  simp only [mx0, mxF] at this ⊢
  rw [this]
theorem lstF_spec {a : Int} {v : Nat → Int} : ∀ k, (lstF a v k = a ∨ ∃ j, j < k ∧ v j = lstF a v k) ∧ lstF a v k ≤ a ∧ ∀ j, j < k → lstF a v k ≤ v j
 | 0 => ⟨.inl rfl, Int.le_refl _, fun j hj => by omega⟩
 | k + 1 => by
  obtain ⟨h1, h2, h3⟩ := lstF_spec (a := a) (v := v) k
  simp only [lstF]
  refine ⟨?_, by omega, fun i hi => ?_⟩
  · by_cases h4 : lstF a v k ≤ v k
    · rcases h1 with h1 | ⟨j, hj, e⟩
      · exact .inl (by omega)
      · exact .inr ⟨j, by omega, by omega⟩
    · exact .inr ⟨k, by omega, by omega⟩
  · by_cases e2 : i = k
    · subst e2; omega
    · have := h3 i (by omega); omega
theorem mem_at {L : List Int} {x : Int} (h : x ∈ L) : ∃ j, j < L.length ∧ L.getD j 0 = x := by
 obtain ⟨j, hj, e⟩ := List.mem_iff_getElem.1 h
 exact ⟨j, hj, by simp [List.getD_eq_getElem?_getD, hj, e]⟩
theorem mn_lst {L : List Int} (h : 0 < L.length) : Lst1 L (mnF (fun k => L.getD k 0) (L.length - 1)) := by
 obtain ⟨⟨j, hj, e⟩, h2⟩ := mnF_spec (v := fun k => L.getD k 0) (L.length - 1)
 refine ⟨by rw [← e]; exact mem_getD (by omega), fun t ht => ?_⟩
 obtain ⟨i, hi, e2⟩ := mem_at ht
 rw [← e2]
 exact h2 i (by omega)
theorem mx_mst {L : List Int} (h : 0 < L.length) : Mst1 L (mxF (fun k => L.getD k 0) (L.length - 1)) := by
 obtain ⟨⟨j, hj, e⟩, h2⟩ := mxF_spec (v := fun k => L.getD k 0) (L.length - 1)
 refine ⟨by rw [← e]; exact mem_getD (by omega), fun t ht => ?_⟩
 obtain ⟨i, hi, e2⟩ := mem_at ht
 rw [← e2]
 exact h2 i (by omega)
theorem ls_lst {L : List Int} {a : Int} (h : a ∈ L) : Lst1 L (lstF a (fun k => L.getD k 0) L.length) := by
 obtain ⟨h1, h2, h3⟩ := lstF_spec (a := a) (v := fun k => L.getD k 0) L.length
 refine ⟨?_, fun t ht => ?_⟩
 · rcases h1 with h1 | ⟨j, hj, e⟩
   · rw [h1]; exact h
   · rw [← e]; exact mem_getD hj
 · obtain ⟨i, hi, e2⟩ := mem_at ht
   rw [← e2]
   exact h3 i hi
theorem map_at {D : List Int} {f : Int → Int} {j : Nat} (h : j < D.length) : f (D.getD j 0) = (D.map f).getD j 0 := by
 simp [List.getD_eq_getElem?_getD, h]
theorem mnF_congr {v u : Nat → Int} : ∀ k, (∀ j, j ≤ k → v j = u j) → mnF v k = mnF u k
 | 0, h => h 0 (Nat.le_refl _)
 | k + 1, h => by simp only [mnF]; rw [mnF_congr k fun j hj => h j (by omega), h (k + 1) (Nat.le_refl _)]
theorem mxF_congr {v u : Nat → Int} : ∀ k, (∀ j, j ≤ k → v j = u j) → mxF v k = mxF u k
 | 0, h => h 0 (Nat.le_refl _)
 | k + 1, h => by simp only [mxF]; rw [mxF_congr k fun j hj => h j (by omega), h (k + 1) (Nat.le_refl _)]
theorem dLo_lst {D : List Int} {f : Int → Int} (h : 0 < D.length) : Lst1 (D.map f) (dLo f D) := by
 have e : dLo f D = mnF (fun k => (D.map f).getD k 0) ((D.map f).length - 1) := by
  unfold dLo
  obtain ⟨n, hn⟩ : ∃ n, D.length = n + 1 := ⟨D.length - 1, by omega⟩
  rw [List.length_map, hn]
  exact mnF_congr n fun j hj => map_at (by omega)
 rw [e]
 exact mn_lst (by rw [List.length_map]; exact h)
theorem dHi_mst {D : List Int} {f : Int → Int} (hf : ∀ t, 0 ≤ f t) (h : 0 < D.length) : Mst1 (D.map f) (dHi f D) := by
 have e : dHi f D = mxF (fun k => (D.map f).getD k 0) ((D.map f).length - 1) := by
  unfold dHi
  obtain ⟨n, hn⟩ : ∃ n, D.length = n + 1 := ⟨D.length - 1, by omega⟩
  rw [List.length_map, hn, mx0_mxF (fun j => hf _)]
  exact mxF_congr n fun j hj => map_at (by omega)
 rw [e]
 exact mx_mst (by rw [List.length_map]; exact h)
theorem map_mem {D M : List Int} {f g : Int → Int} (h : ∀ t, t ∈ D ↔ t ∈ M) (e : ∀ t, f t = g t) (x : Int) : x ∈ D.map f ↔ x ∈ M.map g := by
 simp only [List.mem_map, h, e]
section
variable {Z : Cus} {T : Trp} {s : Nat → Int}
theorem cd_lo (h : s 2 ≤ s 3) : 0 < (cdZ Z (s 2) (s 3)).length := by
 have : s 2 ∈ cdZ Z (s 2) (s 3) := cdZ_mem.1 ((tu_cd).2 (cd_mem.2 ⟨inB_iff.2 ⟨Int.le_refl _, h⟩, rul_lo⟩))
 exact List.length_pos_of_mem this
theorem tu_lo (h : s 2 ≤ s 3) : 0 < (tuD Z (s 2) (s 3)).length := by
 have : s 2 ∈ tuD Z (s 2) (s 3) := (tu_cd).2 (cd_mem.2 ⟨inB_iff.2 ⟨Int.le_refl _, h⟩, rul_lo⟩)
 exact List.length_pos_of_mem this
theorem sum_lo (h : s 2 ≤ s 3) : mnF (fun k => ((cdZ Z (s 2) (s 3)).map (payZ Z T (s 0))).getD k 0) (((cdZ Z (s 2) (s 3)).map (payZ Z T (s 0))).length - 1) = sumLo Z T s :=
 Lst1.eq (map_mem (fun t => cdZ_mem.symm) fun _ => rfl) (mn_lst (by rw [List.length_map]; exact cd_lo h)) (dLo_lst (tu_lo h))
theorem sum_hi (hok : CusOk Z) (ht : trpOk T = true) (h : s 2 ≤ s 3) : mxF (fun k => ((cdZ Z (s 2) (s 3)).map (payZ Z T (s 0))).getD k 0) (((cdZ Z (s 2) (s 3)).map (payZ Z T (s 0))).length - 1) = sumHi Z T s :=
 Mst1.eq (map_mem (fun t => cdZ_mem.symm) fun _ => rfl) (mx_mst (by rw [List.length_map]; exact cd_lo h)) (dHi_mst (fun t => (payZ_bd hok ht).1) (tu_lo h))
def gotZ (Z : Cus) (T : Trp) (s : Nat → Int) (q : Nat) : List Int := gotL (isW Z T (s 0) q) (payZ Z T (s 0)) (cdZ Z (s 2) (s 3))
theorem gotZ_mem {q : Nat} (x : Int) : x ∈ gotZ Z T s q ↔ x ∈ (tuD Z (s 2) (s 3)).map (onT Z T (s 0) q) := by
 unfold gotZ
 rw [got_mem]
 exact map_mem (fun t => cdZ_mem.symm) (fun t => (onT_onW t).symm) x
theorem gotZ_pos {q : Nat} (h : s 2 ≤ s 3) : 0 < (gotZ Z T s q).length := by
 have h1 := tu_lo (Z := Z) h
 obtain ⟨t, ht⟩ := List.exists_mem_of_length_pos h1
 have : onT Z T (s 0) q t ∈ gotZ Z T s q := (gotZ_mem _).2 (List.mem_map_of_mem ht)
 exact List.length_pos_of_mem this
theorem trb_hi {q : Nat} (hok : CusOk Z) (ht : trpOk T = true) (h : s 2 ≤ s 3) : mxF (fun k => (gotZ Z T s q).getD k 0) ((gotZ Z T s q).length - 1) = trbHi Z T s q :=
 Mst1.eq gotZ_mem (mx_mst (gotZ_pos h)) (dHi_mst (fun t => (onT_bd hok ht).1) (tu_lo h))
theorem trb_lo {q : Nat} (hok : CusOk Z) (ht : trpOk T = true) (h : s 2 ≤ s 3) : lstF (trbHi Z T s q) (fun k => (gotZ Z T s q).getD k 0) (gotZ Z T s q).length = trbLo Z T s q := by
 have hm : trbHi Z T s q ∈ gotZ Z T s q := by
  rw [← trb_hi hok ht h]
  exact (mx_mst (gotZ_pos h)).1
 exact Lst1.eq gotZ_mem (ls_lst hm) (dLo_lst (tu_lo h))
theorem gotZ_yes {q : Nat} (h : (gq Z T (s 0) (cdZ Z (s 2) (s 3)) (cdZ Z (s 2) (s 3)).length q).length < (cdZ Z (s 2) (s 3)).length) : gq Z T (s 0) (cdZ Z (s 2) (s 3)) (cdZ Z (s 2) (s 3)).length q ++ [0] = gotZ Z T s q := by
 unfold gq at h ⊢
 rw [List.take_length] at h ⊢
 exact (if_pos h).symm
theorem gotZ_no {q : Nat} (h : ¬ (gq Z T (s 0) (cdZ Z (s 2) (s 3)) (cdZ Z (s 2) (s 3)).length q).length < (cdZ Z (s 2) (s 3)).length) : gq Z T (s 0) (cdZ Z (s 2) (s 3)) (cdZ Z (s 2) (s 3)).length q = gotZ Z T s q := by
 unfold gq at h ⊢
 rw [List.take_length] at h ⊢
 exact (if_neg h).symm
end
theorem max_got {A : Option Addr} {n cp : Nat} {L : List Int} {t : Int} {w : World} (hn : n = L.length) (h0 : 0 < L.length) (hm : n ≤ 1000000) (e : mxF (fun k => L.getD k 0) (L.length - 1) = t) (hR : RdR w 1 A n (iL L)) :
  Calls Tryz.prog 123 #[.slice A n cp] w (Ret w (.int .i64 t)) := by
 subst e hn
 exact slMax_any h0 hm hR
theorem min_got {A : Option Addr} {n cp : Nat} {L : List Int} {t : Int} {w : World} (hn : n = L.length) (h0 : 0 < L.length) (hm : n ≤ 1000000) (e : mnF (fun k => L.getD k 0) (L.length - 1) = t) (hR : RdR w 1 A n (iL L)) :
  Calls Tryz.prog 125 #[.slice A n cp] w (Ret w (.int .i64 t)) := by
 subst e hn
 exact slMin_any h0 hm hR
theorem lst_got {A : Option Addr} {n cp : Nat} {L : List Int} {a t : Int} {w : World} (hn : n = L.length) (hm : n ≤ 1000000) (e : lstF a (fun k => L.getD k 0) L.length = t) (hR : RdR w 1 A n (iL L)) :
  Calls Tryz.prog 124 #[.int .i64 a, .slice A n cp] w (Ret w (.int .i64 t)) := by
 subst e hn
 exact leastI_any a hm hR
theorem hclO_pay {Z : Cus} (hok : CusOk Z) {leg day : Int} : 0 ≤ (hclO Z leg day).1 4 ∧ (hclO Z leg day).1 4 ≤ 1000000 ∧ 0 ≤ (hclO Z leg day).1 5 ∧ (hclO Z leg day).1 5 ≤ 1000 := by
 unfold hclO
 split
 · have hol := hol_bd (Z := Z) (leg := leg) (day := day)
   have := hok.c (holZ Z leg day).toNat (by omega)
   unfold hclZ
   omega
 · exact ⟨Int.le_refl _, by decide, Int.le_refl _, by decide⟩
theorem pay_eq {Z : Cus} {T : Trp} {leg t : Int} (h : payB Z T leg t = true) : (hclO Z leg t).1 4 * T.hd + ((hclO Z leg t).1 5 * T.wo + 1000 - 1) / 1000 = payZ Z T leg t := by
 unfold payB at h
 rw [Bool.and_eq_true, decide_eq_true_eq, Bool.not_eq_true'] at h
 obtain ⟨h1, h2⟩ := h
 unfold hclO at h2 ⊢
 rw [if_pos h1] at h2 ⊢
 unfold payZ
 rw [if_pos h1, if_neg (by rw [h2]; simp)]
 congr 2
 omega
def dueP (Z : Cus) (T : Trp) (leg : Int) (D : List Int) (q : Nat) (mp : List (Int × Value)) (a : Nat → Option Addr) (c : Nat → Nat) : Prop :=
 ∀ s : Nat, s < 8 → (mlook (s : Int) mp).getD (.slice none 0 0) = .slice (a s) (gq Z T leg D q s).length (c s)
theorem dueP_0 {Z : Cus} {T : Trp} {leg : Int} {D : List Int} : dueP Z T leg D 0 [] (fun _ => none) (fun _ => 0) := fun s _ => rfl
theorem dueP_no {Z : Cus} {T : Trp} {leg : Int} {D : List Int} {q : Nat} {mp : List (Int × Value)} {a : Nat → Option Addr} {c : Nat → Nat} (hq : q < D.length) (h : payB Z T leg (D.getD q 0) = false) (hP : dueP Z T leg D q mp a c) : dueP Z T leg D (q + 1) mp a c := fun s hs => by
 rw [hP s hs, gq_no hq (by unfold isW; rw [h]; rfl)]
theorem isW_ne {Z : Cus} {T : Trp} {leg t : Int} {s : Nat} (h : (hclO Z leg t).1 1 ≠ s) : isW Z T leg s t = false := by
 unfold isW
 rw [decide_eq_false h, Bool.and_false]
theorem dueP_yes {Z : Cus} {T : Trp} {leg : Int} {D : List Int} {q s0 : Nat} {mp : List (Int × Value)} {a : Nat → Option Addr} {c : Nat → Nat} {A9 : Option Addr} {c9 : Nat} (hq : q < D.length) (h : payB Z T leg (D.getD q 0) = true) (hs : (hclO Z leg (D.getD q 0)).1 1 = s0) (hP : dueP Z T leg D q mp a c) :
    dueP Z T leg D (q + 1) (mput ((hclO Z leg (D.getD q 0)).1 1) (.slice A9 ((gq Z T leg D q s0).length + 1) c9) mp) (updA a s0 A9) (updA c s0 c9) := fun s h8 => by
  rw [look_put, hs]
  by_cases e : s = s0
  · subst e
    rw [if_pos rfl, gq_yes hq (by unfold isW; rw [h, decide_eq_true hs]; rfl), List.length_append]
    simp [updA]
  · rw [if_neg (by omega), hP s h8, gq_no hq (isW_ne (by rw [hs]; omega))]
    simp [updA, e]
end Go.Proofs.YtfaenhhgkhcghaaGreatDoor
namespace Go.Proofs.YtfaenhhgkhcghaaGreatDoor
set_option linter.all false
set_option linter.unusedVariables false
set_option linter.unusedSimpArgs false
structure Fes where
 nf : Nat
 t : Nat → Int
 r : Nat → Int
def feeK (E : Fes) (i : Nat) : Bool := inB5 0 7 (E.t i) && inB5 0 1000000000000 (E.r i) && (decide (i = 0) || decide (E.t (i - 1) < E.t i))
def fesOk (E : Fes) : Bool := allB E.nf (feeK E)
theorem fes_at {E : Fes} (h : fesOk E = true) {i : Nat} (hi : i < E.nf) : 0 ≤ E.t i ∧ E.t i ≤ 7 ∧ 0 ≤ E.r i ∧ E.r i ≤ 1000000000000 := by
 have := allB_iff.1 h i hi
 unfold feeK inB5 at this
 simp only [Bool.and_eq_true, decide_eq_true_eq] at this
 omega
theorem fes_up {E : Fes} (h : fesOk E = true) : ∀ i : Nat, i < E.nf → (i : Int) ≤ E.t i
 | 0, hi => (fes_at h hi).1
 | i + 1, hi => by
  have h1 := fes_up h i (by omega)
  have := allB_iff.1 h (i + 1) hi
  unfold feeK at this
  simp only [Bool.and_eq_true, Bool.or_eq_true, decide_eq_true_eq, Nat.add_sub_cancel] at this
  have h2 := this.2.resolve_left (by omega)
  omega
theorem fes_len {E : Fes} (h : fesOk E = true) : E.nf ≤ 8 := by
  by_cases h0 : E.nf = 0
  · omega
  · have h1 := fes_up h (E.nf - 1) (by omega)
    have h2 := (fes_at h (show E.nf - 1 < E.nf by omega)).2.1
    omega
def selT (E : Fes) (q : Nat) : Nat → List Int
 | 0 => []
 | k + 1 => if q / 2 ^ k % 2 = 1 then selT E q k ++ [E.t k] else selT E q k
def selR (E : Fes) (q : Nat) : Nat → Int
 | 0 => 0
 | k + 1 => if q / 2 ^ k % 2 = 1 then selR E q k + E.r k else selR E q k
theorem selT_len {E : Fes} {q : Nat} : ∀ k, (selT E q k).length ≤ k
 | 0 => Nat.le_refl _
 | k + 1 => by
  have := selT_len (E := E) (q := q) k
  simp only [selT]
  split
  · simp only [List.length_append, List.length_cons, List.length_nil]; omega
  · omega
theorem selR_bd {E : Fes} (h : fesOk E = true) {q : Nat} : ∀ k : Nat, k ≤ E.nf → 0 ≤ selR E q k ∧ selR E q k ≤ 1000000000000 * k
 | 0, _ => by simp [selR]
 | k + 1, hk => by
  have := selR_bd h (q := q) k (by omega)
  have := fes_at h (show k < E.nf by omega)
  simp only [selR]
  split <;> omega
def ltL : List Int → List Int → Bool
 | a :: l, b :: m => if a = b then ltL l m else decide (a < b)
 | _, _ => false
def cmpI : List Int → List Int → Int
 | [], [] => 0
 | [], _ :: _ => -1
 | _ :: _, [] => 1
 | x :: xs, y :: ys => if cmpV x y = 0 then cmpI xs ys else cmpV x y
theorem cmp_lt : ∀ {l m : List Int}, l.length = m.length → (0 ≤ cmpI l m ↔ ltL l m = false)
  | [], [], _ => by simp [cmpI, ltL]
  | [], _ :: _, h => by simp at h
  | _ :: _, [], h => by simp at h
  | a :: l, b :: m, h => by
    simp only [cmpI, ltL]
    by_cases e : a = b
    · subst e
      rw [if_pos rfl, if_pos (show cmpV a a = 0 by unfold cmpV; simp)]
      exact cmp_lt (by simpa using h)
    · rw [if_neg e, decide_eq_false_iff_not]
      by_cases e1 : a < b
      · have : cmpV a b = -1 := if_pos e1
        rw [this, if_neg (by decide)]
        omega
      · have : cmpV a b = 1 := by unfold cmpV; rw [if_neg e1, if_pos (by omega)]
        rw [this, if_neg (by decide)]
        omega
def betC (n : Int) (l : List Int) (cost : Int) (best : List Int) : Bool := decide (n < cost) || (decide (n = cost) && (decide (l.length < best.length) || (decide (l.length = best.length) && ltL l best)))
def hirK (free : List Int → Bool) (E : Fes) : Nat → List Int × Int × Bool
 | 0 => ([], 0, false)
 | q + 1 => if ((!(hirK free E q).2.2 || betC (selR E q E.nf) (selT E q E.nf) (hirK free E q).2.1 (hirK free E q).1) && free (selT E q E.nf)) = true then (selT E q E.nf, selR E q E.nf, true) else hirK free E q
theorem hir_yes {free : List Int → Bool} {E : Fes} {q : Nat} (h : (!(hirK free E q).2.2 || betC (selR E q E.nf) (selT E q E.nf) (hirK free E q).2.1 (hirK free E q).1) = true) (hf : free (selT E q E.nf) = true) : hirK free E (q + 1) = (selT E q E.nf, selR E q E.nf, true) := by
 simp only [hirK]
 rw [h, hf]
 rfl
theorem hir_no1 {free : List Int → Bool} {E : Fes} {q : Nat} (hf : free (selT E q E.nf) = false) : hirK free E (q + 1) = hirK free E q := by
 simp only [hirK]
 rw [hf, Bool.and_false]
 rfl
theorem hir_no2 {free : List Int → Bool} {E : Fes} {q : Nat} (h : (!(hirK free E q).2.2 || betC (selR E q E.nf) (selT E q E.nf) (hirK free E q).2.1 (hirK free E q).1) = false) : hirK free E (q + 1) = hirK free E q := by
 simp only [hirK]
 rw [h, Bool.false_and]
 rfl
theorem pow_nf {E : Fes} (h : fesOk E = true) : 2 ^ E.nf ≤ 256 := Nat.le_trans (Nat.pow_le_pow_right (by omega) (fes_len h)) (by decide)
theorem hirK_len {free : List Int → Bool} {E : Fes} : ∀ q, (hirK free E q).1.length ≤ E.nf
 | 0 => by simp [hirK]
 | q + 1 => by
  simp only [hirK]
  split
  · exact selT_len _
  · exact hirK_len q
theorem hirK_bd {free : List Int → Bool} {E : Fes} (h : fesOk E = true) : ∀ q, 0 ≤ (hirK free E q).2.1 ∧ (hirK free E q).2.1 ≤ 8000000000000
 | 0 => by simp [hirK]
 | q + 1 => by
  simp only [hirK]
  split
  · have := selR_bd h (q := q) E.nf (Nat.le_refl _)
    have := fes_len h
    simp only
    omega
  · exact hirK_bd h q
def tgu (T : Trp) (l : List Int) : Trp := { T with nu := T.nu + l.length, u := fun k => if k < T.nu then T.u k else l.getD (k - T.nu) 0 }
def freeB (Z : Cus) (T : Trp) (n : Nat) (st : Nat → Nat → Int) (l : List Int) : Bool := decide ((barD Z (tgu T l) n st).1 = 0)
def hirV (Z : Cus) (T : Trp) (n : Nat) (st : Nat → Nat → Int) (E : Fes) : List Int × Int × Bool := hirK (freeB Z T n st) E (2 ^ E.nf)
end Go.Proofs.YtfaenhhgkhcghaaGreatDoor
namespace Go.Proofs.YtfaenhhgkhcghaaGreatDoor
set_option linter.all false
set_option linter.unusedVariables false
set_option linter.unusedSimpArgs false
open Go.RowKit
def feeL (E : Fes) (k : Nat) : List Value := [.int .i64 (E.t k), .int .i64 (E.r k)]
section
variable {Z : Cus} {T : Trp} {C D B O U V S : Option Addr} {cc cd cb co cu cv n cs : Nat} {st : Nat → Nat → Int} {w : World}
def hirR (s : List Int × Int × Bool) (y : Option Addr × Nat) : Value := .tuple #[.slice y.1 s.1.length y.2, .int .i64 s.2.1, .bool s.2.2]
end
end Go.Proofs.YtfaenhhgkhcghaaGreatDoor
