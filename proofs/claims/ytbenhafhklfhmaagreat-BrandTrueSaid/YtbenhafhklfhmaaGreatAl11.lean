/-
  Part 11 of the proof of alive_any,ready2_any,has2_any,choose2_any,inside2_any,place2_any,lw_names,lw_fits,lw_has,open_herd,open_looksB,open_calves,open_u8b,open_u32sB,open_u32b,law_post,TW.meet,TL.unb,TW.ocap,rLooks2_any,bBirths_any,rSign_any,lks_in: declarations of several texts, in build order. No condition on a program.
-/
import Derived.Test.YtbenhafhklfhmaaGreatAl08
import Derived.Test.YtbenhafhklfhmaaGreatAl06
import Derived.ChangeKeysEq
import Derived.Test.YtbenhafhklfhmaaGreatAl09
import Derived.Test.YtbenhafhklfhmaaGreatAl10
import Derived.IntWalk
import Derived.Test.YtbenhafhklfhmaaGreatAl07
import Derived.Test.YtbenhafhklfhmaaGreatAl04
namespace Go.Proofs.YtbenhafhklfhmaaGreat
set_option linter.all false
set_option linter.unusedVariables false
set_option linter.unusedSimpArgs false
open Go.RowKit
def onK (g : Nat → Int) (s k : Nat) : Nat → Int := fun j => if j < k ∧ s / 2 ^ j % 2 = 0 then -1 else g j
theorem onK_0 {g : Nat → Int} {s : Nat} : onK g s 0 = g := by funext j; unfold onK; rw [if_neg (by omega)]
theorem on_eq {H : Hd} {at_ i s : Nat} (hs : ∀ k, k < 8 → 0 ≤ sgH H i k ∧ 0 ≤ sgH H at_ k) : (allB 8 fun k => decide (onK (sgH H i) s 8 k = onK (sgH H at_) s 8 k)) = smB H at_ i s := by
  rw [Bool.eq_iff_iff]
  unfold smB
  rw [allB_iff, allB_iff]
  constructor
  · intro h k hk
    have := of_decide_eq_true (h k hk)
    unfold onK at this
    by_cases e : s / 2 ^ k % 2 = 1
    · rw [if_neg (by omega), if_neg (by omega)] at this
      rw [decide_eq_true this, Bool.or_true]
    · rw [decide_eq_false e]; rfl
  · intro h k hk
    have h1 := h k hk
    refine decide_eq_true ?_
    unfold onK
    by_cases e : s / 2 ^ k % 2 = 1
    · rw [if_neg (by omega), if_neg (by omega)]
      rw [decide_eq_true e] at h1
      exact of_decide_eq_true h1
    · have : s / 2 ^ k % 2 = 0 := by omega
      rw [if_pos ⟨hk, this⟩, if_pos ⟨hk, this⟩]
set_option maxRecDepth 100000 in
set_option maxHeartbeats 1000000 in
theorem on_any {g : Nat → Int} {s : Nat} {w : World} (h8 : s ≤ 255) : Calls Tryz.prog 103 #[.agg (octL g).toArray, .int .i64 (s : Int)] w (Ret w (.agg (octL (onK g s 8)).toArray)) := by
 refine K_enter (S := []) (K := []) Tryz.func103 rfl Tryz.ntmps103 rfl (Sat.start _) ?_
 refine TW.seq fun Y1 hY1 => TW.region ?_
 refine TL.m Mk.bx ?_
 intro b1
 refine TL.m (Mk.al ty_zr111) ?_
 intro b2
 refine TL.nil (TQ.thenN (hY1 _ _ ?_))
 refine TW.seq fun Y2 hY2 => ?_
 refine TW.seq fun Y3 hY3 => TW.region ?_
 refine TL.p Pu.mv ?_
 refine TL.nil (TQ.thenN (hY3 _ _ ?_))
 refine TW.block ?_
 refine TW.loop1 (fun (k : Nat) => [(6, .int .i64 (k : Int)), (1, .int .i64 (s : Int)), (2, .pointer (some ⟨b1, 0, none⟩)), (4, .pointer (some ⟨b2, 0, none⟩))]) (fun k => [.own (some ⟨b1, 0, none⟩) 8 8 111 1 (fun j => [.int .i64 (onK g s k j)]), .blk b2 111 (octL fun _ => 0)]) (fun k => k ≤ 8) (fun k => 8 - k) 0 fs9 ?_ ?_ ?_
 rw [onK_0]
 exact KSub.ofBlk pk9 rfl (fun i hi => rfl) rfl rfl (KSub.cons pk9 KSub.nil)
 exact (by omega)
 rintro k hk Z0 hZ0
 refine TW.seq fun Y4 hY4 => TW.region ?_
 refine TL.p Pu.lt ?_
 refine TL.nil (TQ.thenN (hY4 _ _ ?_))
 refine TW.seq fun Y5 hY5 => ?_
 refine TW.cond rfl (fun hc0 => ?_) (fun hc0 => ?_)
 try simp only [zcb9] at hc0
 have hkn : k < 8 := by omega
 have hdv : s / 2 ^ k ≤ 255 := Nat.le_trans (Nat.div_le_self _ _) h8
 refine TW.skip ?_
 refine TQ.thenN (hY5 _ _ ?_)
 refine TW.seq fun Y6 hY6 => ?_
 refine TW.block ?_
 refine TW.seq fun Y7 hY7 => TW.region ?_
 refine TL.p Pu.mv ?_
 refine TL.p Pu.as ?_
 refine TL.nil (TQ.thenN (hY7 _ _ ?_))
 refine TW.seq fun Y8 hY8 => TW.region ?_
 refine TL.p Pu.mv ?_
 refine TL.p Pu.mv ?_
 refine TL.p (Pu.srN (b := s) (i := k)) ?_
 refine TL.p (Pu.an1 (m := s / 2 ^ k)) ?_
 refine TL.p Pu.eq ?_
 refine TL.nil (TQ.thenN (hY8 _ _ ?_))
 refine TW.cond rfl (fun hc1 => ?_) (fun hc1 => ?_)
 try simp only [zcb9] at hc1
 have hb : s / 2 ^ k % 2 = 0 := by omega
 have hst : ∀ j, onK g s (k + 1) j = if j = k then -1 else onK g s k j := fun j => by
  unfold onK
  by_cases e : j = k
  subst e; rw [if_pos ⟨by omega, hb⟩, if_pos rfl]
  rw [if_neg e]
  by_cases e2 : j < k ∧ s / 2 ^ j % 2 = 0
  rw [if_pos e2, if_pos ⟨by omega, e2.2⟩]
  rw [if_neg e2, if_neg (fun h => e2 ⟨by omega, h.2⟩)]
 refine TW.region ?_
 refine TL.p Pu.mv ?_
 refine TL.p (Pu.ea (q := k) oct8 (hk := Int.toNat_natCast _)) ?_
 first | refine TL.st ty_sz3 ?_ | refine TL.se ty_sz3 ?_
 refine TL.nil ?_
 refine TQ.blkN ?_
 refine TQ.thenN (hY6 _ _ ?_)
 refine TW.region ?_
 refine TL.p Pu.ad ?_
 refine TL.p Pu.mv ?_
 refine TL.nil ?_
 refine TQ.thenN (hZ0 (k + 1) _ _ ?_ ?_ fs9 ?_)
 exact (by omega)
 exact zom9
 exact KSub.own pk9 (fun j _ => by first | (simp only [updR]; rw [hst j]; by_cases h9 : j = k <;> simp [h9]; done) | rw [hst j]) (KSub.cons pk9 KSub.nil)
 try simp only [zcb9] at hc1
 have hb : ¬ s / 2 ^ k % 2 = 0 := by omega
 have hst : ∀ j, onK g s (k + 1) j = onK g s k j := fun j => by
  unfold onK
  by_cases e2 : j < k ∧ s / 2 ^ j % 2 = 0
  rw [if_pos e2, if_pos ⟨by omega, e2.2⟩]
  rw [if_neg e2, if_neg (fun h => by
   by_cases e : j = k
   subst e; exact hb h.2
   exact e2 ⟨by omega, h.2⟩)]
 refine TW.skip ?_
 refine TQ.blkN ?_
 refine TQ.thenN (hY6 _ _ ?_)
 refine TW.region ?_
 refine TL.p Pu.ad ?_
 refine TL.p Pu.mv ?_
 refine TL.nil ?_
 refine TQ.thenN (hZ0 (k + 1) _ _ ?_ ?_ fs9 ?_)
 exact (by omega)
 exact zom9
 exact KSub.own pk9 (fun j _ => by first | (simp only [updR]; rw [hst j]; by_cases h9 : j = k <;> simp [h9]; done) | rw [hst j]) (KSub.cons pk9 KSub.nil)
 try simp only [zcb9] at hc0
 obtain rfl : k = 8 := by omega
 refine TW.exit ?_
 refine TQ.thenX ?_
 refine TQ.thenX ?_
 refine TQ.blkX ?_
 refine TQ.thenN (hY2 _ _ ?_)
 refine TW.seq fun Y9 hY9 => TW.region ?_
 refine TL.bo (b := b1) (cs := octL (onK g s 8)) pk9 rfl ?_
 refine TL.p (Pu.lds ty_ag111) ?_
 first | refine TL.st ty_sz111 ?_ | refine TL.se ty_sz111 ?_
 refine TL.nil (TQ.thenN (hY9 _ _ ?_))
 refine TW.ret ?_
 refine TQ.ret Tryz.results103 rfl ((RV.cs ty_ag111 .nil)) ?_
 exact fun w hw => Ret.of hw
theorem eqInt9 (d : Nat) (i j : Int) (w : World) : (Op.equalIn (d + 1) 3 (.int .i64 i) (.int .i64 j)).run Tryz.prog w = .ok (decide (i = j)) w := by
 simp only [Op.equalIn, Sem.run_bind, run_underlying Tryz.underlying3, Result.andThen_ok, if_true, Sem.run_pure]
 simp
 rw [Bool.eq_iff_iff, beq_iff_eq, decide_eq_true_eq]
theorem oct_at {f : Nat → Int} {k : Nat} (hk : k < 8) : (octL f).toArray[k * 1]? = some (.int .i64 (f k)) := by
 rcases (by omega : k = 0 ∨ k = 1 ∨ k = 2 ∨ k = 3 ∨ k = 4 ∨ k = 5 ∨ k = 6 ∨ k = 7) with rfl | rfl | rfl | rfl | rfl | rfl | rfl | rfl <;> rfl
theorem eqItems8 (d : Nat) (f g : Nat → Int) (w : World) : ∀ ks : List Nat, (∀ k ∈ ks, k < 8) → (Op.eqItems (d + 1) 3 1 (octL f).toArray (octL g).toArray ks).run Tryz.prog w = .ok (ks.all fun k => decide (f k = g k)) w
 | [], _ => by simp [Op.eqItems]
 | k :: ks, h => by
  have hp : Tryz.prog.plainKey 3 = true := by kernel_rfl
  have ih := eqItems8 d f g w ks fun q hq => h q (by simp [hq])
  have hk := h k (by simp)
  simp only [Op.eqItems, Sem.run_bind, run_part_plain w hp (oct_at (f := f) hk), run_part_plain w hp (oct_at (f := g) hk), Result.andThen_ok, eqInt9, List.all_cons]
  by_cases e : f k = g k
  · simp [e, ih]
  · simp [e]
theorem eqOct (d : Nat) (f g : Nat → Int) (w : World) : (Op.equalIn (d + 2) 111 (.agg (octL f).toArray) (.agg (octL g).toArray)).run Tryz.prog w = .ok (allB 8 fun k => decide (f k = g k)) w := by
 obtain ⟨k, z, hk, _⟩ := (ty_et28 : ElemT Tryz.prog 28 3 1 8).hi
 refine (run_equalIn_array w (d + 1) _ _ Tryz.underlying111 hk).trans ?_
 have hc : Tryz.prog.cellsOf 3 = 1 := by kernel_rfl
 rw [hc, eqItems8 d f g w (List.range 8) (fun k hk => List.mem_range.1 hk)]
 rfl
theorem eqSigns (x y : Operand) (f g : Nat → Int) (w : World) : (do eqGuard .eql 111 x y (.agg (octL f).toArray) (.agg (octL g).toArray); binOp .eql 111 (.agg (octL f).toArray) (.agg (octL g).toArray) : Sem Value).run Tryz.prog w = .ok (.bool (allB 8 fun k => decide (f k = g k))) w := by
 have h := eqOct 9998 f g w
 go_simp
set_option maxRecDepth 100000 in
set_option maxHeartbeats 2000000 in
theorem told_any {H : Hd} {A : Option Addr} {cp at_ s : Nat} {x : OpX} {w : World} (hk : HOk H) (hW : HwIn w H A cp x) (ha : at_ < H.n) (h8 : s ≤ 255) : Calls Tryz.prog 70 #[.pointer (some ⟨x.1.1, 0, none⟩), .int .i64 (at_ : Int), .int .i64 (s : Int)] w (Ret w (.bool (toldB H at_ s))) := by
 have hoB := hW.oB
 have hoK := hW.oK
 have h16 := hk.n16
 refine K_enter (S := []) (K := []) Tryz.func70 rfl Tryz.ntmps70 rfl (Sat.start _) ?_
 refine TW.seq fun Y1 hY1 => TW.region ?_
 refine TL.p Pu.as ?_
 refine TL.nil (TQ.thenN (hY1 _ _ ?_))
 refine TW.seq fun Y2 hY2 => ?_
 refine TW.seq fun Y3 hY3 => TW.region ?_
 refine TL.p Pu.mv ?_
 refine TL.p (by first | exact Pu.nn | exact Pu.nc) ?_
 refine TL.p (by first | exact Pu.fb ty_fa106_3 | exact Pu.fe ty_fa106_3) ?_
 refine TL.p (Pu.ldo ty_sc104) ?_
 refine TL.p (Pu.ln Tryz.underlying104) ?_
 refine TL.p Pu.mv ?_
 refine TL.nil (TQ.thenN (hY3 _ _ ?_))
 refine TW.block ?_
 refine TW.loop1 (fun (k : Nat) => [(14, .int .i64 (k : Int)), (13, .int .i64 (H.n : Int)), (12, .slice x.2.2.1 H.n x.2.2.2), (0, .pointer (some ⟨x.1.1, 0, none⟩)), (1, .int .i64 (at_ : Int)), (2, .int .i64 (s : Int))]) (fun k => []) (fun k => k ≤ H.n ∧ ∀ j, j < k → j = at_ ∨ smB H at_ j s = false) (fun k => H.n - k) 0 fs9 ?_ ?_ ?_
 exact ks9
 exact ⟨Nat.zero_le _, fun j hj => by omega⟩
 rintro k ⟨hkn, hall⟩ Z0 hZ0
 refine TW.seq fun Y4 hY4 => TW.region ?_
 refine TL.p Pu.lt ?_
 refine TL.nil (TQ.thenN (hY4 _ _ ?_))
 refine TW.seq fun Y5 hY5 => ?_
 refine TW.cond rfl (fun hc0 => ?_) (fun hc0 => ?_)
 try simp only [zcb9] at hc0
 have hki : k < H.n := by omega
 have hsg : ∀ q, q < 8 → 0 ≤ sgH H k q ∧ 0 ≤ sgH H at_ q := fun q _ => ⟨(sg_bd hk hki).1, (sg_bd hk ha).1⟩
 refine TW.skip ?_
 refine TQ.thenN (hY5 _ _ ?_)
 refine TW.seq fun Y6 hY6 => ?_
 refine TW.block ?_
 refine TW.seq fun Y7 hY7 => TW.region ?_
 refine TL.p Pu.mv ?_
 refine TL.p (Pu.el ty_et104) ?_
 refine TL.p (Pu.lds ty_ag111) ?_
 refine TL.m (Mk.al ty_zr111) ?_
 intro b1
 refine TL.p Pu.as ?_
 first | refine TL.st ty_sz111 ?_ | refine TL.se ty_sz111 ?_
 refine TL.nil (TQ.thenN (hY7 _ _ ?_))
 refine TW.seq fun Y8 hY8 => ?_
 refine TW.join [(36, .bool (!decide (k = at_) && smB H at_ k s))] ?_ (fun hJ1 => ?_)
 refine TQ.thenN (hY8 _ _ ?_)
 refine TW.cond rfl (fun hc1 => ?_) (fun hc1 => ?_)
 try simp only [zcb9] at hc1
 have hne : ¬ k = at_ := by simpa using hc1.1
 have hsm : smB H at_ k s = true := hc1.2
 refine TW.seq fun Y9 hY9 => TW.region ?_
 refine TL.p Pu.as ?_
 refine TL.nil (TQ.thenN (hY9 _ _ ?_))
 refine TW.ret ?_
 refine TQ.blkR ?_
 refine TQ.thenR ?_
 refine TQ.thenR ?_
 refine TQ.blkR ?_
 refine TQ.thenR ?_
 refine TQ.ret Tryz.results70 rfl ((.tmp rfl .nil)) ?_
 exact fun w hw => ⟨ret_bool (by
  cases hm : toldB H at_ s with
  | false => rfl
  | true =>
   have := allB_iff.1 hm k hki
   rw [hsm, decide_eq_false hne] at this; cases this), Chg.ext hw.chg⟩
 try simp only [zcb9] at hc1
 have hok : k = at_ ∨ smB H at_ k s = false := by simpa using hc1
 refine TW.skip ?_
 refine TQ.blkN ?_
 refine TQ.thenN (hY6 _ _ ?_)
 refine TW.region ?_
 refine TL.p Pu.ad ?_
 refine TL.p Pu.mv ?_
 refine TL.nil ?_
 refine TQ.thenN (hZ0 (k + 1) _ _ ?_ ?_ fs9 ?_)
 refine ⟨by omega, fun j hj => ?_⟩
 by_cases e : j = k
 subst e; exact hok
 exact hall j (by omega)
 exact zom9
 exact ks9
 refine TW.dw 18 ?_
 refine RK.tk Pu.mv ?_
 refine RK.tk Pu.mv ?_
 refine RK.tk Pu.ne ?_
 refine RK.tk Pu.mv ?_
 refine RK.guard (t := 22) rfl (fun hg1 => ?_) (fun hg1 => ?_)
 try simp only [zgb9] at hg1
 refine RK.tk (Pu.lds ty_ag111) ?_
 refine RK.tk Pu.mv ?_
 refine RK.keep ?_
 refine RK.tk Pu.mv ?_
 refine RK.tk (by first | exact Pu.nn | exact Pu.nc) ?_
 refine RK.tk (by first | exact Pu.fb ty_fa106_3 | exact Pu.fe ty_fa106_3) ?_
 refine RK.tk (Pu.ldo ty_sc104) ?_
 refine RK.tk Pu.mv ?_
 refine RK.tk (Pu.el ty_et104) ?_
 refine RK.tk (Pu.lds ty_ag111) ?_
 refine RK.tk Pu.mv ?_
 refine RK.keep ?_
 refine RK.keep ?_
 refine RK.keep ?_
 refine RK.ch [false, false, true, true] ?_ trivial
 refine WK.cr rfl (enters Tryz.func103 rfl rfl) (fun w hw => by
   exact on_any h8) ?_
 refine WK.cr rfl (enters Tryz.func103 rfl rfl) (fun w hw => by
   exact on_any h8) ?_
 refine WK.p (Pu.bn (r := .bool (smB H at_ k s)) rfl rfl (fun w => by rw [← on_eq hsg]; exact eqSigns _ _ _ _ w)) ?_
 refine WK.p Pu.kt ?_
 refine WK.n ?_
 refine TL.nil ?_
 exact TQ.sub (by repeat (first | exact trivial | refine ⟨rfl, ?_⟩ | refine ⟨trivial, ?_⟩ | refine ⟨(by show some (Value.bool _) = some (Value.bool _); first | (simp [hg1]; done) | (refine congrArg (fun z => some (Value.bool z)) (Bool.eq_iff_iff.2 ?_); simp [hg1]; omega)), ?_⟩)) ks9 hJ1
 try simp only [zgb9] at hg1
 refine RK.s ?_
 refine RK.s ?_
 refine RK.keep ?_
 refine RK.s ?_
 refine RK.s ?_
 refine RK.s ?_
 refine RK.s ?_
 refine RK.s ?_
 refine RK.s ?_
 refine RK.s ?_
 refine RK.s ?_
 refine RK.keep ?_
 refine RK.keep ?_
 refine RK.keep ?_
 refine RK.ch [false, false, true, true] ?_ trivial
 refine WK.gs ?_
 refine WK.gs ?_
 refine WK.ps ?_
 refine WK.p Pu.kf ?_
 refine WK.n ?_
 refine TL.nil ?_
 exact TQ.sub (by repeat (first | exact trivial | refine ⟨rfl, ?_⟩ | refine ⟨trivial, ?_⟩ | refine ⟨(by show some (Value.bool _) = some (Value.bool _); first | (simp [hg1]; done) | (refine congrArg (fun z => some (Value.bool z)) (Bool.eq_iff_iff.2 ?_); simp [hg1]; omega)), ?_⟩)) ks9 hJ1
 try simp only [zcb9] at hc0
 obtain rfl : k = H.n := by omega
 refine TW.exit ?_
 refine TQ.thenX ?_
 refine TQ.thenX ?_
 refine TQ.blkX ?_
 refine TQ.thenN (hY2 _ _ ?_)
 refine TW.seq fun Y10 hY10 => TW.region ?_
 refine TL.p Pu.as ?_
 refine TL.nil (TQ.thenN (hY10 _ _ ?_))
 refine TW.ret ?_
 refine TQ.ret Tryz.results70 rfl ((.tmp rfl .nil)) ?_
 exact fun w hw => ⟨ret_bool (allB_iff.2 fun j hj => by
  rcases hall j (by omega) with e | e
  rw [decide_eq_true e]; rfl
  rw [e]; simp), Chg.ext hw.chg⟩
set_option maxRecDepth 100000 in
set_option maxHeartbeats 4000000 in
theorem bTell_any {w : World} {A : Option Addr} {cp : Nat} {H : Hd} {a : Nat → Option Addr} {c : Nat → Nat} {id : Int} (hI : HIn w A H a c) :
  CallsK Tryz.prog 28 #[.slice A H.n cp, .int .i64 id] [] w (Option Addr × Nat) (fun y => .tuple #[.slice y.1 (telL H id).length y.2, .int .i64 (telC H id)]) (fun y => [.own y.1 (telL H id).length y.2 3 1 (iL (telL H id))]) := by
 have hbad : ¬ telC H id = 0 → telL H id = [] := fun h => if_neg h
 cases hh : herdB H with
 | false =>
  have hc : telC H id = 20 := by unfold telC; rw [hh]; rfl
  have hN := hbad (by rw [hc]; decide)
  refine K_enter (S := []) (K := []) Tryz.func28 rfl Tryz.ntmps28 rfl (Sat.start _) ?_
  refine TW.seq fun Y1 hY1 => TW.region ?_
  refine TL.p Pu.as ?_
  refine TL.p Pu.as ?_
  refine TL.nil (TQ.thenN (hY1 _ _ ?_))
  refine TW.seq fun Y2 hY2 => TW.region ?_
  refine TL.p Pu.mv ?_
  refine TL.call (M := []) rfl (enters Tryz.func69 rfl rfl) (List.Perm.refl _) rfl (fun w hw => by
    have h9 := open_any (cp := cp) (hI.sat hw)
    rw [hh] at h9
    exact h9) ?_
  rintro xo
  refine TL.p Pu.mv ?_
  refine TL.p Pu.ex ?_
  refine TL.p Pu.ex ?_
  refine TL.p Pu.as ?_
  refine TL.p Pu.as ?_
  refine TL.nil (TQ.thenN (hY2 _ _ ?_))
  refine TW.seq fun Y3 hY3 => ?_
  refine TW.seq fun Y4 hY4 => TW.region ?_
  refine TL.p Pu.mv ?_
  refine TL.p Pu.ne ?_
  refine TL.nil (TQ.thenN (hY4 _ _ ?_))
  refine TW.condT rfl (rfl) ?_
  refine TW.seq fun Y5 hY5 => TW.region ?_
  refine TL.p Pu.mv ?_
  refine TL.p Pu.as ?_
  refine TL.p Pu.as ?_
  refine TL.nil (TQ.thenN (hY5 _ _ ?_))
  refine TW.ret ?_
  refine TQ.thenR ?_
  refine TQ.ret Tryz.results28 rfl ((.tmp rfl (.tmp rfl .nil))) ?_
  exact fun w hw => ⟨(none, 0), by simp only [hN, hc]; rfl, by simp only [hN]; exact hw.sub (KSub.nilOwn KSub.nil)⟩
 | true =>
  have hk := herdB_ok.1 hh
  have h16 := hk.n16
  obtain ⟨i, hi9⟩ : ∃ i, i = (atH H id).toNat := ⟨_, rfl⟩
  refine K_enter (S := []) (K := []) Tryz.func28 rfl Tryz.ntmps28 rfl (Sat.start _) ?_
  refine TW.seq fun Y1 hY1 => TW.region ?_
  refine TL.p Pu.as ?_
  refine TL.p Pu.as ?_
  refine TL.nil (TQ.thenN (hY1 _ _ ?_))
  refine TW.seq fun Y2 hY2 => TW.region ?_
  refine TL.p Pu.mv ?_
  refine TL.call (M := []) rfl (enters Tryz.func69 rfl rfl) (List.Perm.refl _) rfl (fun w hw => by
    have h9 := open_any (cp := cp) (hI.sat hw)
    rw [hh] at h9
    exact h9) ?_
  rintro xo
  simp only [if_true, opK, List.cons_append, List.nil_append]
  refine TL.p Pu.mv ?_
  refine TL.p Pu.ex ?_
  refine TL.p Pu.ex ?_
  refine TL.p Pu.as ?_
  refine TL.p Pu.as ?_
  refine TL.nil (TQ.thenN (hY2 _ _ ?_))
  refine TW.seq fun Y3 hY3 => ?_
  refine TW.seq fun Y4 hY4 => TW.region ?_
  refine TL.p Pu.mv ?_
  refine TL.p Pu.ne ?_
  refine TL.nil (TQ.thenN (hY4 _ _ ?_))
  refine TW.condF rfl (rfl) ?_
  refine TW.skip ?_
  refine TQ.thenN (hY3 _ _ ?_)
  refine TW.seq fun Y5 hY5 => TW.region ?_
  refine TL.p Pu.mv ?_
  refine TL.p (by first | exact Pu.nn | exact Pu.nc) ?_
  refine TL.p (by first | exact Pu.fb ty_fa106_1 | exact Pu.fe ty_fa106_1) ?_
  refine TL.p (Pu.ld ty_sc39) ?_
  refine TL.p Pu.mv ?_
  refine TL.p (Pu.lkV (.int .i64 (i : Int)) (decide (0 ≤ atH H id)) ty_mp39 ty_zv3 (hi9 ▸ pl_n) pl_s) ?_
  refine TL.p Pu.mv ?_
  refine TL.p Pu.ex ?_
  refine TL.p Pu.ex ?_
  refine TL.p Pu.as ?_
  refine TL.p Pu.as ?_
  refine TL.nil (TQ.thenN (hY5 _ _ ?_))
  refine TW.seq fun Y6 hY6 => ?_
  refine TW.seq fun Y7 hY7 => TW.region ?_
  refine TL.p Pu.mv ?_
  refine TL.p Pu.no ?_
  refine TL.nil (TQ.thenN (hY7 _ _ ?_))
  refine TW.cond rfl (fun hc1 => ?_) (fun hc1 => ?_)
  try simp only [zcb9] at hc1
  have hc : telC H id = 2 := by unfold telC; rw [hh, if_pos rfl, if_neg (by omega)]
  have hN := hbad (by rw [hc]; decide)
  refine TW.seq fun Y8 hY8 => TW.region ?_
  refine TL.p Pu.as ?_
  refine TL.p Pu.as ?_
  refine TL.nil (TQ.thenN (hY8 _ _ ?_))
  refine TW.ret ?_
  refine TQ.thenR ?_
  refine TQ.ret Tryz.results28 rfl ((.tmp rfl (.tmp rfl .nil))) ?_
  exact fun w hw => ⟨(none, 0), by simp only [hN, hc]; rfl, by simp only [hN]; exact hw.sub (KSub.nilOwn KSub.nil)⟩
  try simp only [zcb9] at hc1
  have hat : 0 ≤ atH H id := hc1
  have hc : telC H id = if toldB H i 255 then 0 else 6 := by unfold telC; rw [hh, if_pos rfl, if_pos hat, hi9]
  obtain ⟨hil, hie⟩ := at_lt hat
  rw [← hi9] at hil hie
  refine TW.skip ?_
  refine TQ.thenN (hY6 _ _ ?_)
  refine TW.seq fun Y9 hY9 => ?_
  refine TW.seq fun Y10 hY10 => TW.region ?_
  refine TL.p Pu.mv ?_
  refine TL.p Pu.mv ?_
  refine TL.cr rfl (enters Tryz.func70 rfl rfl) (fun w hw => by
    exact told_any (x := xo) hk (opK_in (A := A) (cp := cp) (x := xo) hw (by intro φ h; first | exact h | (simp only [opK, List.mem_cons] at h ⊢; simp at h ⊢; first | exact h | exact .inr h | exact .inr (.inr h) | exact .inr (.inr (.inr h)) | exact .inr (.inr (.inr (.inr h)))))) hil (by decide)) ?_
  refine TL.p Pu.no ?_
  refine TL.nil (TQ.thenN (hY10 _ _ ?_))
  refine TW.cond rfl (fun hc2 => ?_) (fun hc2 => ?_)
  try simp only [zcb9] at hc2
  have hc8 : telC H id = 6 := by rw [hc, hc2]; rfl
  have hN := hbad (by rw [hc8]; decide)
  refine TW.seq fun Y11 hY11 => TW.region ?_
  refine TL.p Pu.as ?_
  refine TL.p Pu.as ?_
  refine TL.nil (TQ.thenN (hY11 _ _ ?_))
  refine TW.ret ?_
  refine TQ.thenR ?_
  refine TQ.ret Tryz.results28 rfl ((.tmp rfl (.tmp rfl .nil))) ?_
  exact fun w hw => ⟨(none, 0), by simp only [hN, hc8]; rfl, by simp only [hN]; exact hw.sub (KSub.nilOwn KSub.nil)⟩
  try simp only [zcb9] at hc2
  have hc8 : telC H id = 0 := by rw [hc, hc2]; rfl
  have hN : telL H id = (telK H i 256).1 := by unfold telL; rw [if_pos hc8, hi9]
  refine TW.skip ?_
  refine TQ.thenN (hY9 _ _ ?_)
  refine TW.seq fun Y12 hY12 => TW.region ?_
  refine TL.p Pu.as ?_
  refine TL.nil (TQ.thenN (hY12 _ _ ?_))
  refine TW.seq fun Y13 hY13 => TW.region ?_
  refine TL.p Pu.as ?_
  refine TL.nil (TQ.thenN (hY13 _ _ ?_))
  refine TW.seq fun Y14 hY14 => ?_
  refine TW.seq fun Y15 hY15 => TW.region ?_
  refine TL.p Pu.mv ?_
  refine TL.nil (TQ.thenN (hY15 _ _ ?_))
  refine TW.block ?_
  refine TW.loop5 (fun (k : Nat) (Ab : Option Addr) (cb : Nat) (M : List Int) (m : Nat) => [(38, .int .i64 (k : Int)), (10, .slice Ab m cb), (11, .int .i64 ((telK H i k).2 : Int)), (6, .pointer (some ⟨xo.1.1, 0, none⟩)), (8, .int .i64 (i : Int))]) (fun k Ab cb M m => .own Ab m cb 3 1 (iL M) :: .blk xo.1.1 106 [.slice A H.n cp, .map (some xo.1.2), .slice xo.2.1.1 H.n xo.2.1.2, .slice xo.2.2.1 H.n xo.2.2.2] :: .obj xo.1.2 (mapO .i64 (plM H H.n)) :: .own xo.2.1.1 H.n xo.2.1.2 3 1 (fun j => [.int .i64 (moH H j)]) :: .own xo.2.2.1 H.n xo.2.2.2 111 8 (fun j => octL (sgH H j)) :: []) (fun k Ab cb M m => k ≤ 256 ∧ M = (telK H i k).1 ∧ m = M.length) (fun k Ab cb M m => 256 - k) 0 none 0 [] 0 fs9 ?_ ?_ ?_
  exact KSub.nilOwn ks9
  exact ⟨Nat.zero_le _, rfl, rfl⟩
  rintro k Ab cb M m ⟨hk256, hM, hm⟩ Z0 hZ0
  obtain ⟨ht1, ht2⟩ := telK_len (H := H) (at_ := i) k
  have hm9 : m ≤ 8 := by rw [hm, hM]; exact ht1
  obtain ⟨fw, hfw⟩ : ∃ fw : Int, fw = ((telK H i k).2 : Int) := ⟨_, rfl⟩
  rw [← hfw]
  refine TW.seq fun Y16 hY16 => TW.region ?_
  refine TL.p Pu.lt ?_
  refine TL.nil (TQ.thenN (hY16 _ _ ?_))
  refine TW.seq fun Y17 hY17 => ?_
  refine TW.cond rfl (fun hc3 => ?_) (fun hc3 => ?_)
  try simp only [zcb9] at hc3
  have hkn : k < 256 := by omega
  refine TW.skip ?_
  refine TQ.thenN (hY17 _ _ ?_)
  refine TW.seq fun Y18 hY18 => ?_
  refine TW.block ?_
  refine TW.seq fun Y19 hY19 => TW.region ?_
  refine TL.p Pu.mv ?_
  refine TL.p Pu.as ?_
  refine TL.nil (TQ.thenN (hY19 _ _ ?_))
  refine TW.seq fun Y20 hY20 => TW.region ?_
  refine TL.p Pu.as ?_
  refine TL.nil (TQ.thenN (hY20 _ _ ?_))
  refine TW.seq fun Y21 hY21 => ?_
  refine TW.seq fun Y22 hY22 => TW.region ?_
  refine TL.p Pu.mv ?_
  refine TL.nil (TQ.thenN (hY22 _ _ ?_))
  refine TW.block ?_
  refine TW.loop5 (fun (q : Nat) (Al : Option Addr) (cl : Nat) (P : List Int) (n : Nat) => [(41, .int .i64 (q : Int)), (13, .slice Al n cl), (12, .int .i64 (k : Int)), (38, .int .i64 (k : Int)), (10, .slice Ab m cb), (11, .int .i64 fw), (6, .pointer (some ⟨xo.1.1, 0, none⟩)), (8, .int .i64 (i : Int))]) (fun q Al cl P n => .own Al n cl 3 1 (iL P) :: .own Ab m cb 3 1 (iL M) :: .blk xo.1.1 106 [.slice A H.n cp, .map (some xo.1.2), .slice xo.2.1.1 H.n xo.2.1.2, .slice xo.2.2.1 H.n xo.2.2.2] :: .obj xo.1.2 (mapO .i64 (plM H H.n)) :: .own xo.2.1.1 H.n xo.2.1.2 3 1 (fun j => [.int .i64 (moH H j)]) :: .own xo.2.2.1 H.n xo.2.2.2 111 8 (fun j => octL (sgH H j)) :: []) (fun q Al cl P n => q ≤ 8 ∧ P = spK k q ∧ n = P.length) (fun q Al cl P n => 8 - q) 0 none 0 [] 0 fs9 ?_ ?_ ?_
  exact KSub.nilOwn ks9
  exact ⟨Nat.zero_le _, rfl, rfl⟩
  rintro q Al cl P n ⟨hq8, hP, hn⟩ Z1 hZ1
  have hn9 : n ≤ 8 := by have := spK_len (s := k) q; rw [hn, hP]; omega
  have hdv : k / 2 ^ q ≤ 256 := Nat.le_trans (Nat.div_le_self _ _) hk256
  refine TW.seq fun Y23 hY23 => TW.region ?_
  refine TL.p Pu.lt ?_
  refine TL.nil (TQ.thenN (hY23 _ _ ?_))
  refine TW.seq fun Y24 hY24 => ?_
  refine TW.cond rfl (fun hc4 => ?_) (fun hc4 => ?_)
  try simp only [zcb9] at hc4
  have hqn : q < 8 := by omega
  refine TW.skip ?_
  refine TQ.thenN (hY24 _ _ ?_)
  refine TW.seq fun Y25 hY25 => ?_
  refine TW.block ?_
  refine TW.seq fun Y26 hY26 => TW.region ?_
  refine TL.p Pu.mv ?_
  refine TL.p Pu.as ?_
  refine TL.nil (TQ.thenN (hY26 _ _ ?_))
  refine TW.seq fun Y27 hY27 => TW.region ?_
  refine TL.p Pu.mv ?_
  refine TL.p Pu.mv ?_
  refine TL.p (Pu.srN (b := k) (i := q)) ?_
  refine TL.p (Pu.an1 (m := k / 2 ^ q)) ?_
  refine TL.p Pu.eq ?_
  refine TL.nil (TQ.thenN (hY27 _ _ ?_))
  refine TW.cond rfl (fun hc5 => ?_) (fun hc5 => ?_)
  try simp only [zcb9] at hc5
  have hb : k / 2 ^ q % 2 = 1 := by omega
  have hst : spK k (q + 1) = P ++ [(q : Int)] := by rw [hP]; exact if_pos hb
  have hlen9 : n + 1 = (spK k (q + 1)).length := by rw [hst, List.length_append, ← hn]; rfl
  refine TW.region ?_
  refine TL.p Pu.mv ?_
  refine TL.p Pu.mv ?_
  refine TL.m Mk.bl ?_
  intro b1
  first | refine TL.a0 ty_et28 ?_ | refine TL.ap ty_et28 ?_
  intro A2 c2
  refine TL.p Pu.as ?_
  refine TL.nil ?_
  refine TQ.blkN ?_
  refine TQ.thenN (hY25 _ _ ?_)
  refine TW.region ?_
  refine TL.p Pu.ad ?_
  refine TL.p Pu.mv ?_
  refine TL.nil ?_
  refine TQ.thenN (hZ1 (q + 1) _ _ (spK k (q + 1)) _ _ _ ?_ ?_ fs9 ?_)
  exact ⟨by omega, rfl, hlen9⟩
  exact zom9
  first
   | exact KSub.own Pick.hd (iL_app hn hst rfl) ks9
   | exact KSub.own pk9 (fun i _ => by rw [hst]) ks9
  try simp only [zcb9] at hc5
  have hb : ¬ k / 2 ^ q % 2 = 1 := by omega
  have hst : spK k (q + 1) = P := by rw [hP]; exact if_neg hb
  have hlen9 : n = (spK k (q + 1)).length := by rw [hst, ← hn]
  refine TW.skip ?_
  refine TQ.blkN ?_
  refine TQ.thenN (hY25 _ _ ?_)
  refine TW.region ?_
  refine TL.p Pu.ad ?_
  refine TL.p Pu.mv ?_
  refine TL.nil ?_
  refine TQ.thenN (hZ1 (q + 1) _ _ (spK k (q + 1)) _ _ _ ?_ ?_ fs9 ?_)
  exact ⟨by omega, rfl, hlen9⟩
  exact zom9
  first
   | exact KSub.own Pick.hd (iL_app hn hst rfl) ks9
   | exact KSub.own pk9 (fun i _ => by rw [hst]) ks9
  try simp only [zcb9] at hc4
  obtain rfl : q = 8 := by omega
  refine TW.exit ?_
  refine TQ.thenX ?_
  refine TQ.thenX ?_
  refine TQ.blkX ?_
  refine TQ.thenN (hY21 _ _ ?_)
  refine TW.seq fun Y28 hY28 => ?_
  refine TW.join [(75, .bool (decide ((n : Int) ≤ fw) && (decide ((n : Int) < fw) || decide (cmpI P M < 0)) && toldB H i k))] ?_ (fun hJ1 => ?_)
  refine TQ.thenN (hY28 _ _ ?_)
  refine TW.cond rfl (fun hc6 => ?_) (fun hc6 => ?_)
  try simp only [zcb9] at hc6
  have hst : telK H i (k + 1) = (P, n) := by
   have e : (decide ((spK k 8).length ≤ (telK H i k).2) && (decide ((spK k 8).length < (telK H i k).2) || decide (cmpI (spK k 8) (telK H i k).1 < 0)) && toldB H i k) = true := by
    rw [← hP, ← hM, ← hn]
    simp only [Bool.and_eq_true, Bool.or_eq_true, decide_eq_true_eq]
    exact ⟨⟨by omega, hc6.1.2.imp_left (by omega)⟩, hc6.2⟩
   rw [telK, if_pos e, ← hP, ← hn]
  refine TW.region ?_
  refine TL.p Pu.mv ?_
  refine TL.p Pu.mv ?_
  refine TL.p (Pu.ln Tryz.underlying28) ?_
  refine TL.p Pu.as ?_
  refine TL.p Pu.as ?_
  refine TL.nil ?_
  refine TQ.blkN ?_
  refine TQ.thenN (hY18 _ _ ?_)
  refine TW.region ?_
  refine TL.p Pu.ad ?_
  refine TL.p Pu.mv ?_
  refine TL.nil ?_
  refine TQ.thenN (hZ0 (k + 1) _ _ (telK H i (k + 1)).1 _ _ _ ?_ ?_ (by rw [hst]; (repeat (first | exact trivial | refine ⟨rfl, ?_⟩ | refine ⟨(congrArg (fun z => some (Value.int .i64 z)) hfw), ?_⟩ | refine ⟨trivial, ?_⟩))) ?_)
  exact ⟨by omega, rfl, by rw [hst]; assumption⟩
  exact zom9
  rw [hst]
  exact KSub.cons pk9 ks9
  try simp only [zcb9] at hc6
  have hst : telK H i (k + 1) = (M, (telK H i k).2) := by
   have e : ¬ (decide ((spK k 8).length ≤ (telK H i k).2) && (decide ((spK k 8).length < (telK H i k).2) || decide (cmpI (spK k 8) (telK H i k).1 < 0)) && toldB H i k) = true := by
    rw [← hP, ← hM, ← hn]
    intro e
    simp only [Bool.and_eq_true, Bool.or_eq_true, decide_eq_true_eq] at e
    have e2 := e.1.1
    have e3 := e.1.2
    rcases hc6 with (h | h) | h
    omega
    rcases e3 with e3 | e3 <;> omega
    rw [e.2] at h; cases h
   rw [telK, if_neg e, hM]
  refine TW.skip ?_
  refine TQ.blkN ?_
  refine TQ.thenN (hY18 _ _ ?_)
  refine TW.region ?_
  refine TL.p Pu.ad ?_
  refine TL.p Pu.mv ?_
  refine TL.nil ?_
  refine TQ.thenN (hZ0 (k + 1) _ _ (telK H i (k + 1)).1 _ _ _ ?_ ?_ (by rw [hst]; (repeat (first | exact trivial | refine ⟨rfl, ?_⟩ | refine ⟨(congrArg (fun z => some (Value.int .i64 z)) hfw), ?_⟩ | refine ⟨trivial, ?_⟩))) ?_)
  exact ⟨by omega, rfl, by rw [hst]; assumption⟩
  exact zom9
  rw [hst]
  exact KSub.cons pk9 ks9
  refine TW.region ?_
  refine TL.p Pu.mv ?_
  refine TL.p (Pu.ln Tryz.underlying28) ?_
  refine TL.p Pu.mv ?_
  refine TL.p Pu.le ?_
  refine TL.p Pu.mv ?_
  refine TL.guard (t := 58) rfl (fun hg1 => ?_) (fun hg1 => ?_)
  refine TL.gd Pu.mv ?_
  refine TL.gd (Pu.ln Tryz.underlying28) ?_
  refine TL.gd Pu.mv ?_
  refine TL.gd Pu.lt ?_
  refine TL.gd Pu.mv ?_
  refine TL.guard (t := 63) rfl (fun hg2 => ?_) (fun hg2 => ?_)
  refine TL.gs ?_
  refine TL.gs ?_
  refine TL.gs ?_
  refine TL.gs ?_
  refine TL.gd Pu.kt ?_
  refine TL.p Pu.kt ?_
  refine TL.p Pu.mv ?_
  refine TL.gd Pu.mv ?_
  refine TL.gd Pu.mv ?_
  refine TL.gd Pu.mv ?_
  refine TL.cr rfl (enters Tryz.func70 rfl rfl) (fun w hw => by
    exact told_any (x := xo) hk (opK_in (A := A) (cp := cp) (x := xo) hw (by intro φ h; first | exact h | (simp only [opK, List.mem_cons] at h ⊢; simp at h ⊢; first | exact h | exact .inr h | exact .inr (.inr h) | exact .inr (.inr (.inr h)) | exact .inr (.inr (.inr (.inr h)))))) hil (by omega)) ?_
  refine TL.p Pu.kt ?_
  refine TL.nil ?_
  exact TQ.sub (by repeat (first | exact trivial | refine ⟨rfl, ?_⟩ | refine ⟨trivial, ?_⟩ | refine ⟨(by show some (Value.bool _) = some (Value.bool _); first | (simp [hg1, hg2]; done) | (refine congrArg (fun z => some (Value.bool z)) (Bool.eq_iff_iff.2 ?_); simp [hg1, hg2]; omega)), ?_⟩)) kt9 hJ1
  refine TL.gd Pu.mv ?_
  refine TL.gd Pu.mv ?_
  refine TL.cr rfl (enters Tryz.func71 rfl rfl) (fun w hw => by
    exact compareI_any hn hm (by omega) (by omega) (OwnR.rdr (hw.holds (.own Al n cl 3 1 (iL P)) (Pick.mem pk9))) (OwnR.rdr (hw.holds (.own Ab m cb 3 1 (iL M)) (Pick.mem pk9)))) ?_
  refine TL.gd Pu.lt ?_
  refine TL.gd Pu.kf ?_
  refine TL.p Pu.kt ?_
  refine TL.p Pu.mv ?_
  refine TL.guard (t := 70) rfl (fun hg3 => ?_) (fun hg3 => ?_)
  refine TL.gd Pu.mv ?_
  refine TL.gd Pu.mv ?_
  refine TL.gd Pu.mv ?_
  refine TL.cr rfl (enters Tryz.func70 rfl rfl) (fun w hw => by
    exact told_any (x := xo) hk (opK_in (A := A) (cp := cp) (x := xo) hw (by intro φ h; first | exact h | (simp only [opK, List.mem_cons] at h ⊢; simp at h ⊢; first | exact h | exact .inr h | exact .inr (.inr h) | exact .inr (.inr (.inr h)) | exact .inr (.inr (.inr (.inr h)))))) hil (by omega)) ?_
  refine TL.p Pu.kt ?_
  refine TL.nil ?_
  exact TQ.sub (by repeat (first | exact trivial | refine ⟨rfl, ?_⟩ | refine ⟨trivial, ?_⟩ | refine ⟨(by show some (Value.bool _) = some (Value.bool _); first | (simp [hg1, hg2, hg3]; done) | (refine congrArg (fun z => some (Value.bool z)) (Bool.eq_iff_iff.2 ?_); simp [hg1, hg2, hg3]; omega)), ?_⟩)) kt9 hJ1
  refine TL.gs ?_
  refine TL.gs ?_
  refine TL.gs ?_
  refine TL.gs ?_
  refine TL.p Pu.kf ?_
  refine TL.nil ?_
  exact TQ.sub (by repeat (first | exact trivial | refine ⟨rfl, ?_⟩ | refine ⟨trivial, ?_⟩ | refine ⟨(by show some (Value.bool _) = some (Value.bool _); first | (simp [hg1, hg2, hg3]; done) | (refine congrArg (fun z => some (Value.bool z)) (Bool.eq_iff_iff.2 ?_); simp [hg1, hg2, hg3]; omega)), ?_⟩)) kt9 hJ1
  refine TL.gs ?_
  refine TL.gs ?_
  refine TL.gs ?_
  refine TL.gs ?_
  refine TL.gs ?_
  refine TL.gs ?_
  refine TL.gs ?_
  refine TL.gs ?_
  refine TL.gs ?_
  refine TL.gs ?_
  refine TL.p Pu.kf ?_
  refine TL.p Pu.mv ?_
  refine TL.gs ?_
  refine TL.gs ?_
  refine TL.gs ?_
  refine TL.gs ?_
  refine TL.p Pu.kf ?_
  refine TL.nil ?_
  exact TQ.sub (by repeat (first | exact trivial | refine ⟨rfl, ?_⟩ | refine ⟨trivial, ?_⟩ | refine ⟨(by show some (Value.bool _) = some (Value.bool _); first | (simp [hg1]; done) | (refine congrArg (fun z => some (Value.bool z)) (Bool.eq_iff_iff.2 ?_); simp [hg1]; omega)), ?_⟩)) kt9 hJ1
  try simp only [zcb9] at hc3
  obtain rfl : k = 256 := by omega
  refine TW.exit ?_
  refine TQ.thenX ?_
  refine TQ.thenX ?_
  refine TQ.blkX ?_
  refine TQ.thenN (hY14 _ _ ?_)
  refine TW.seq fun Y29 hY29 => TW.region ?_
  refine TL.p Pu.mv ?_
  refine TL.p Pu.as ?_
  refine TL.p Pu.as ?_
  refine TL.nil (TQ.thenN (hY29 _ _ ?_))
  refine TW.ret ?_
  refine TQ.ret Tryz.results28 rfl ((.tmp rfl (.tmp rfl .nil))) ?_
  exact fun w hw => ⟨(Ab, cb), by rw [hN, hc8, ← hM, ← hm]; rfl, by rw [hN, ← hM, ← hm]; exact hw.sub (KSub.cons pk9 KSub.nil)⟩
end Go.Proofs.YtbenhafhklfhmaaGreat
namespace Go.Proofs.YtbenhafhklfhmaaGreat
set_option linter.all false
set_option linter.unusedVariables false
set_option linter.unusedSimpArgs false
open Go.RowKit
theorem CallsK.to {P : Program} {f : FuncId} {args : Array Value} {M : List Fact} {w : World} {X : Type} {val val2 : X → Value} {L L2 : X → List Fact} (h : CallsK P f args M w X val L) (hv : ∀ x, val x = val2 x) (hL : ∀ x, KSub (L x) (L2 x)) : CallsK P f args M w X val2 L2 :=
 h.mono fun _ _ ⟨x, e, hs⟩ => ⟨x, by rw [e, hv], hs.sub (hL x)⟩
def exR (d : Int) (j : Nat) : Int := [1, 2, 0, 0, 0, 0, 0, d, 0, 0, 0, 0, 11, 11].getD j 0
def exCn (i : Nat) : Int × Int := [(10, 12), (11, 11)].getD i (0, 0)
def exBr (i : Nat) : Int × Int := [(0, 100), (1400, 1600), (5000, 10100), (2900, 3100)].getD i (0, 0)
def exNl (k : Nat) : List Int := if k = 0 then [2] else [4]
set_option maxRecDepth 100000 in
theorem eTly : tErr 10 12 1 (fun _ => exR 4) = none ∧ (∀ i, i < 2 → counts 10 12 (fun _ => exR 4) 1 i = exCn i) ∧ ∀ j, j < 14 → known (fun _ => exR 4) (counts 10 12 (fun _ => exR 4) 1) 0 j = exR 3 j := by decide +kernel
set_option maxRecDepth 100000 in
theorem eLiv : livC exH = 0 ∧ ∀ i, i < 4 → livB exH i = exBr i := by decide +kernel
theorem row2_any (w : World) : Calls Tryz.prog 38 #[] w (Ret w (.agg #[.int .i64 1, .int .i64 2, .int .i64 0, .int .i64 0, .int .i64 0, .int .i64 0, .int .i64 0, .int .i64 4, .int .i64 0, .int .i64 0, .int .i64 0, .int .i64 0, .int .i64 11, .int .i64 11])) := by
 refine K_enter (S := []) (K := []) Tryz.func38 rfl Tryz.ntmps38 rfl (Sat.start _) ?_
 refine TW.seq fun Y1 hY1 => TW.region ?_
 refine TL.m (Mk.al ty_zr71) ?_
 intro b1
 refine TL.nil (TQ.thenN (hY1 _ _ ?_))
 refine TW.seq fun Y2 hY2 => TW.region ?_
 refine TL.cr rfl (enters Tryz.func18 rfl rfl) (fun w hw => by
  exact span2_any _ _ _) ?_
 refine TL.cr rfl (enters Tryz.func18 rfl rfl) (fun w hw => by
  exact span2_any _ _ _) ?_
 refine TL.cr rfl (enters Tryz.func18 rfl rfl) (fun w hw => by
  exact span2_any _ _ _) ?_
 refine TL.p Pu.bd ?_
 first | refine TL.st ty_sz71 ?_ | refine TL.se ty_sz71 ?_
 refine TL.nil (TQ.thenN (hY2 _ _ ?_))
 refine TW.ret ?_
 refine TQ.ret Tryz.results38 rfl ((RV.cs ty_ag71 .nil)) ?_
 exact fun w hw => Ret.of hw
section
variable {w : World} {x : EH} {b b1 b2 b3 b4 b5 : Nat}
theorem exLk_in {l : Lk} (h : Fact.holds (.own (some ⟨b, 0, none⟩) 8 8 25 1 (fun k => [.int .u32 (l.sg k : Int)])) w) (h8 : l.ns = 8) (hb : ∀ k, k < 8 → l.sg k ≤ 4294967295) : LkIn w l (some ⟨b, 0, none⟩) :=
 ⟨by omega, by rw [h8]; exact OwnR.rdr h, by rw [h8]; exact hb⟩
theorem exHB (h : (bun (exHf x)).holds w) : CallsK Tryz.prog 15 #[.slice (some ⟨x.1, 0, none⟩) 4 4] [] w (Option Addr × Nat) (fun y => .tuple #[.slice y.1 4 y.2, .int .i64 0]) (fun y => [.own y.1 4 y.2 36 2 (fun j => spL (exBr j).1 (exBr j).2)]) := by
 refine (bBirths_any (cp := 4) (exH_in h)).to (fun y => ?_) (fun y => ?_)
 · rw [eLiv.1]; rfl
 · rw [eLiv.1]
   exact KSub.own Pick.hd (fun i hi => by rw [eLiv.2 i hi]) KSub.nil
theorem exHF {l : Lk} {r : List Int} {c : Int} (h : (bun (exHf x)).holds w) (hL : LkIn w l (some ⟨b, 0, none⟩)) (e1 : fitC exH l = c) (e2 : fitL exH l = r) : CallsK Tryz.prog 21 #[.slice (some ⟨x.1, 0, none⟩) 4 4, .agg (lkL l (some ⟨b, 0, none⟩) 8).toArray] [] w (Option Addr × Nat) (fun y => .tuple #[.slice y.1 r.length y.2, .int .i64 c]) (fun y => [.own y.1 r.length y.2 3 1 (iL r)]) := by
 have h9 := bFits_any (cp := 4) (cl := 8) (exH_in h) hL
 rw [e1, e2] at h9
 exact h9
theorem exHN (h : (bun (exHf x)).holds w) (hL : LksIn w 2 exL (some ⟨b3, 0, none⟩) (fun k => if k = 0 then some ⟨b1, 0, none⟩ else some ⟨b2, 0, none⟩) (fun _ => 8)) (hC : CvsIn w 1 (fun _ => 0) (fun _ => 1) (some ⟨b4, 0, none⟩)) :
   CallsK Tryz.prog 20 #[.slice (some ⟨x.1, 0, none⟩) 4 4, .slice (some ⟨b3, 0, none⟩) 2 2, .slice (some ⟨b4, 0, none⟩) 1 1] [] w NX9 (fun y => .tuple #[.slice y.1.1 2 y.1.2, .int .i64 0]) (fun y => [.own y.1.1 2 y.1.2 28 1 (fun k => [.slice (y.2.1 k) (exNl k).length (y.2.2 k)]), .own (y.2.1 0) 1 (y.2.2 0) 3 1 (iL [2]), .own (y.2.1 1) 1 (y.2.2 1) 3 1 (iL [4])]) := by
 have hn : nmN exH 2 exL 1 (fun _ => 0) (fun _ => 1) = 2 := if_pos eNam.1
 refine (bNames_any (cp := 4) (cb := 2) (cc := 1) (exH_in h) hL hC).mono ?_
 rintro e w' ⟨y, rfl, hs⟩
 refine ⟨y, ?_, ?_⟩
 · unfold nmV; rw [hn, eNam.1]
 · unfold nmF at hs
   rw [hn] at hs
   have h2 := (hs.pick (Pick.tl Pick.hd)).unbun
   simp only [ownsE, eNam.2.1, eNam.2.2, List.cons_append, List.nil_append] at h2
   exact h2.sub (KSub.own (Pick.tl (Pick.tl Pick.hd)) (fun i hi => by
    rcases (by omega : i = 0 ∨ i = 1) with rfl | rfl
    · rw [eNam.2.1]; rfl
    · rw [eNam.2.2]; rfl) (KSub.cons (Pick.tl Pick.hd) (KSub.cons Pick.hd KSub.nil)))
theorem exLs_in (h1 : Fact.holds (.blk b3 42 (lkL (exK 4650) (some ⟨b1, 0, none⟩) 8 ++ lkL exC (some ⟨b2, 0, none⟩) 8)) w) (h2 : Fact.holds (.own (some ⟨b1, 0, none⟩) 8 8 25 1 (fun k => [.int .u32 ((exK 4650).sg k : Int)])) w) (h3 : Fact.holds (.own (some ⟨b2, 0, none⟩) 8 8 25 1 (fun k => [.int .u32 (exC.sg k : Int)])) w) :
  LksIn w 2 exL (some ⟨b3, 0, none⟩) (fun k => if k = 0 then some ⟨b1, 0, none⟩ else some ⟨b2, 0, none⟩) (fun _ => 8) :=
 ⟨by decide, RdR.blk (cs := lkL (exK 4650) (some ⟨b1, 0, none⟩) 8 ++ lkL exC (some ⟨b2, 0, none⟩) 8) (n := 2) (sz := 4) h1 rfl (fun _ _ => rfl), fun k hk => by
  rcases (by omega : k = 0 ∨ k = 1) with rfl | rfl
  · exact exLk_in (l := exK 4650) h2 rfl (by decide)
  · exact exLk_in (l := exC) h3 rfl (by decide)⟩
theorem exCv_in (h : Fact.holds (.blk b4 51 [.int .i64 0, .int .i64 1]) w) : CvsIn w 1 (fun _ => 0) (fun _ => 1) (some ⟨b4, 0, none⟩) :=
 ⟨by decide, RdR.blk (cs := [.int .i64 0, .int .i64 1]) (n := 1) (sz := 2) h rfl (fun _ _ => rfl)⟩
theorem exSl {y : NX9} (h1 : Fact.holds (.own y.1.1 2 y.1.2 28 1 (fun k => [.slice (y.2.1 k) (exNl k).length (y.2.2 k)])) w) (h2 : Fact.holds (.own (y.2.1 0) 1 (y.2.2 0) 3 1 (iL [2])) w) (h3 : Fact.holds (.own (y.2.1 1) 1 (y.2.2 1) 3 1 (iL [4])) w)
    (g1 : Fact.holds (.blk b1 28 [.slice (some ⟨b2, 0, none⟩) 1 1, .slice (some ⟨b3, 0, none⟩) 1 1]) w) (g2 : Fact.holds (.blk b2 3 [.int .i64 2]) w) (g3 : Fact.holds (.blk b3 3 [.int .i64 4]) w) :
    Calls Tryz.prog 42 #[.slice y.1.1 2 y.1.2, .slice (some ⟨b1, 0, none⟩) 2 2] w (Ret w (.bool true)) :=
  rSameL_any (L := exNl) (a := y.2.1) (b := fun k => if k = 0 then some ⟨b2, 0, none⟩ else some ⟨b3, 0, none⟩) (c := y.2.2) (d := fun _ => 1) (by decide) (fun k hk => by unfold exNl; split <;> decide) (OwnR.rdr h1)
    (RdR.blk (cs := [.slice (some ⟨b2, 0, none⟩) 1 1, .slice (some ⟨b3, 0, none⟩) 1 1]) (n := 2) (sz := 1) g1 rfl (fun _ _ => rfl)) (fun k hk => by
      rcases (by omega : k = 0 ∨ k = 1) with rfl | rfl
      · exact OwnR.rdr h2
      · exact OwnR.rdr h3) (fun k hk => by
      rcases (by omega : k = 0 ∨ k = 1) with rfl | rfl
      · exact RdR.blk (cs := [.int .i64 2]) (n := 1) (sz := 1) g2 rfl (fun _ _ => rfl)
      · exact RdR.blk (cs := [.int .i64 4]) (n := 1) (sz := 1) g3 rfl (fun _ _ => rfl))
theorem exHT {id c : Int} {r : List Int} (h : (bun (exHf x)).holds w) (e1 : telC exH id = c) (e2 : telL exH id = r) : CallsK Tryz.prog 28 #[.slice (some ⟨x.1, 0, none⟩) 4 4, .int .i64 id] [] w (Option Addr × Nat) (fun y => .tuple #[.slice y.1 r.length y.2, .int .i64 c]) (fun y => [.own y.1 r.length y.2 3 1 (iL r)]) := by
 have h9 := bTell_any (cp := 4) (id := id) (exH_in h)
 rw [e1, e2] at h9
 exact h9
theorem exHK (h : (bun (exHf x)).holds w) : Calls Tryz.prog 33 #[.slice (some ⟨x.1, 0, none⟩) 4 4, .int .i64 4, .int .i64 3] w (Ret w (.tuple #[.int .i64 2, .int .i64 1, .int .i64 0])) := by
 have h9 := bKin_any (cp := 4) (ia := 4) (ib := 3) (exH_in h)
 rw [eKin.1, eKin.2] at h9
 exact h9
theorem exTal (h : Fact.holds (.blk b 71 [.int .i64 1, .int .i64 2, .int .i64 0, .int .i64 0, .int .i64 0, .int .i64 0, .int .i64 0, .int .i64 4, .int .i64 0, .int .i64 0, .int .i64 0, .int .i64 0, .int .i64 11, .int .i64 11]) w) :
    CallsK Tryz.prog 30 #[.agg #[.int .i64 10, .int .i64 12], .slice (some ⟨b, 0, none⟩) 1 1] [] w TX (fun y => .tuple #[.slice y.1 2 y.2.1, .slice y.2.2.1 1 y.2.2.2, .int .i64 0, .int .i64 0]) (fun y => [.own y.1 2 y.2.1 36 2 (fun i => spL (exCn i).1 (exCn i).2), .own y.2.2.1 1 y.2.2.2 71 14 (fun _ => rowL (exR 3))]) := by
  have ho : OwnR w (some ⟨b, 0, none⟩) 1 1 71 14 (fun i => rowL ((fun _ => exR 4) i)) := OwnR.of_blk (cs := [.int .i64 1, .int .i64 2, .int .i64 0, .int .i64 0, .int .i64 0, .int .i64 0, .int .i64 0, .int .i64 4, .int .i64 0, .int .i64 0, .int .i64 0, .int .i64 0, .int .i64 11, .int .i64 11]) h rfl (fun _ _ => rfl) rfl rfl
  refine (tally_K' 10 12 _ 1 1 71 (fun _ => exR 4) w ho (by decide) eTly.1).to (fun y => ?_) (fun y => ?_)
  · obtain ⟨A1, c1, A2, c2⟩ := y; rfl
  · obtain ⟨A1, c1, A2, c2⟩ := y
    show KSub [.own A1 2 c1 36 2 (fun i => spL (if (0 : Nat) = 0 then (counts 10 12 (fun _ => exR 4) 1 i).1 else 0) (counts 10 12 (fun _ => exR 4) 1 i).2), .own A2 1 c2 71 14 (fun i => rowL (known (fun _ => exR 4) (counts 10 12 (fun _ => exR 4) 1) i))] _
    refine KSub.own Pick.hd (fun i hi => ?_) (KSub.own Pick.hd (fun i hi => ?_) KSub.nil)
    · rw [if_pos rfl, eTly.2.1 i hi]
    · obtain rfl : i = 0 := by omega
      unfold rowL
      simp only [eTly.2.2 _ (show (0 : Nat) < 14 by decide), eTly.2.2 _ (show (1 : Nat) < 14 by decide), eTly.2.2 _ (show (2 : Nat) < 14 by decide), eTly.2.2 _ (show (3 : Nat) < 14 by decide), eTly.2.2 _ (show (4 : Nat) < 14 by decide), eTly.2.2 _ (show (5 : Nat) < 14 by decide), eTly.2.2 _ (show (6 : Nat) < 14 by decide), eTly.2.2 _ (show (7 : Nat) < 14 by decide), eTly.2.2 _ (show (8 : Nat) < 14 by decide), eTly.2.2 _ (show (9 : Nat) < 14 by decide), eTly.2.2 _ (show (10 : Nat) < 14 by decide), eTly.2.2 _ (show (11 : Nat) < 14 by decide), eTly.2.2 _ (show (12 : Nat) < 14 by decide), eTly.2.2 _ (show (13 : Nat) < 14 by decide)]
end
end Go.Proofs.YtbenhafhklfhmaaGreat
namespace Go.Proofs.YtbenhafhklfhmaaGreat
set_option linter.all false
set_option linter.unusedVariables false
set_option linter.unusedSimpArgs false
open Go.RowKit
set_option maxRecDepth 100000 in
set_option maxHeartbeats 4000000 in
theorem alive_any (w : World) : Calls Tryz.prog 12 #[] w (Ret w (.bool true)) := by
 have fL := fun (w' : World) => look2_any 4650 w'
 have fC := fun (w' : World) => calf2_any w'
 have fF := fun (w' : World) (x : EH) (b : Nat) (h : (bun (exHf x)).holds w') (hL : LkIn w' (exK 4650) (some ⟨b, 0, none⟩)) => exHF (x := x) (b := b) h hL eFit.1 eFit.2.1
 unfold lkL at fL fC fF
 refine K_enter (S := []) (K := []) Tryz.func12 rfl Tryz.ntmps12 rfl (Sat.start _) ?_
 refine TW.seq fun Y1 hY1 => TW.region ?_
 refine TL.p Pu.as ?_
 refine TL.nil (TQ.thenN (hY1 _ _ ?_))
 refine TW.seq fun Y2 hY2 => TW.region ?_
 refine TL.call (M := []) rfl (enters Tryz.func35 rfl rfl) (List.Perm.refl _) rfl (fun w hw => by
  exact herd2_any _) ?_
 rintro x1
 dsimp only [List.cons_append, List.nil_append]
 refine TL.call (M := []) rfl (enters Tryz.func15 rfl rfl) (List.Perm.refl _) rfl (fun w hw => by
  exact exHB (x := x1) (hw.holds _ (Pick.mem pk9))) ?_
 rintro ⟨P1, p1⟩
 dsimp only [List.cons_append, List.nil_append]
 refine TL.p Pu.mv ?_
 refine TL.p Pu.ex ?_
 refine TL.p Pu.ex ?_
 refine TL.p Pu.as ?_
 refine TL.p Pu.as ?_
 refine TL.nil (TQ.thenN (hY2 _ _ ?_))
 refine TW.seq fun Y3 hY3 => TW.region ?_
 refine TL.call (M := []) rfl (enters Tryz.func35 rfl rfl) (List.Perm.refl _) rfl (fun w hw => by
  exact herd2_any _) ?_
 rintro x2
 dsimp only [List.cons_append, List.nil_append]
 refine TL.call (M := []) rfl (enters Tryz.func36 rfl rfl) (List.Perm.refl _) rfl (fun w hw => by
  exact fL _) ?_
 rintro k2
 dsimp only [List.cons_append, List.nil_append, exLk]
 refine TL.call (M := []) rfl (enters Tryz.func21 rfl rfl) (List.Perm.refl _) rfl (fun w hw => by
  exact fF _ x2 k2 (hw.holds _ (Pick.mem pk9)) (exLk_in (hw.holds _ (Pick.mem pk9)) rfl (by decide))) ?_
 rintro ⟨P2, p2⟩
 dsimp only [List.cons_append, List.nil_append]
 refine TL.p Pu.mv ?_
 refine TL.p Pu.ex ?_
 refine TL.p Pu.ex ?_
 refine TL.p Pu.as ?_
 refine TL.p Pu.as ?_
 refine TL.nil (TQ.thenN (hY3 _ _ ?_))
 refine TW.seq fun Y4 hY4 => TW.region ?_
 refine TL.call (M := []) rfl (enters Tryz.func35 rfl rfl) (List.Perm.refl _) rfl (fun w hw => by
  exact herd2_any _) ?_
 rintro x3
 dsimp only [List.cons_append, List.nil_append]
 refine TL.call (M := []) rfl (enters Tryz.func36 rfl rfl) (List.Perm.refl _) rfl (fun w hw => by
  exact fL _) ?_
 rintro k3
 dsimp only [List.cons_append, List.nil_append, exLk]
 refine TL.call (M := []) rfl (enters Tryz.func40 rfl rfl) (List.Perm.refl _) rfl (fun w hw => by
  exact fC _) ?_
 rintro c3
 dsimp only [List.cons_append, List.nil_append, exLk]
 refine TL.m Mk.bl ?_
 intro b1
 refine TL.p Pu.bd ?_
 refine TL.m Mk.bl ?_
 intro b2
 refine TL.call (M := []) rfl (enters Tryz.func20 rfl rfl) (List.Perm.refl _) rfl (fun w hw => by
  exact exHN (x := x3) (b1 := k3) (b2 := c3) (hw.holds _ (Pick.mem pk9)) (exLs_in (hw.holds _ (Pick.mem pk9)) (hw.holds _ (Pick.mem pk9)) (hw.holds _ (Pick.mem pk9))) (exCv_in (hw.holds _ (Pick.mem pk9)))) ?_
 rintro y3
 dsimp only [List.cons_append, List.nil_append]
 refine TL.p Pu.mv ?_
 refine TL.p Pu.ex ?_
 refine TL.p Pu.ex ?_
 refine TL.p Pu.as ?_
 refine TL.p Pu.as ?_
 refine TL.nil (TQ.thenN (hY4 _ _ ?_))
 refine TW.seq fun Y5 hY5 => TW.region ?_
 refine TL.call (M := []) rfl (enters Tryz.func35 rfl rfl) (List.Perm.refl _) rfl (fun w hw => by
  exact herd2_any _) ?_
 rintro x4
 dsimp only [List.cons_append, List.nil_append]
 refine TL.call (M := []) rfl (enters Tryz.func28 rfl rfl) (List.Perm.refl _) rfl (fun w hw => by
  exact exHT (x := x4) (hw.holds _ (Pick.mem pk9)) eTel.1 eTel.2.1) ?_
 rintro ⟨P4, p4⟩
 dsimp only [List.cons_append, List.nil_append]
 refine TL.p Pu.mv ?_
 refine TL.p Pu.ex ?_
 refine TL.p Pu.ex ?_
 refine TL.p Pu.as ?_
 refine TL.p Pu.as ?_
 refine TL.nil (TQ.thenN (hY5 _ _ ?_))
 refine TW.seq fun Y6 hY6 => TW.region ?_
 refine TL.call (M := []) rfl (enters Tryz.func35 rfl rfl) (List.Perm.refl _) rfl (fun w hw => by
  exact herd2_any _) ?_
 rintro x5
 dsimp only [List.cons_append, List.nil_append]
 refine TL.cr rfl (enters Tryz.func33 rfl rfl) (fun w hw => by
  exact exHK (x := x5) (hw.holds _ (Pick.mem pk9))) ?_
 refine TL.p Pu.mv ?_
 refine TL.p Pu.ex ?_
 refine TL.p Pu.ex ?_
 refine TL.p Pu.ex ?_
 refine TL.p Pu.as ?_
 refine TL.p Pu.as ?_
 refine TL.p Pu.as ?_
 refine TL.nil (TQ.thenN (hY6 _ _ ?_))
 refine TW.seq fun Y7 hY7 => TW.region ?_
 refine TL.cr rfl (enters Tryz.func18 rfl rfl) (fun w hw => by
  exact span2_any _ _ _) ?_
 refine TL.cr rfl (enters Tryz.func38 rfl rfl) (fun w hw => by
  exact row2_any _) ?_
 refine TL.m Mk.bl ?_
 intro b3
 refine TL.call (M := []) rfl (enters Tryz.func30 rfl rfl) (List.Perm.refl _) rfl (fun w hw => by
  exact exTal (hw.holds _ (Pick.mem pk9))) ?_
 rintro ⟨P6, p6, Q6, q6⟩
 dsimp only [List.cons_append, List.nil_append]
 refine TL.p Pu.mv ?_
 refine TL.p Pu.ex ?_
 refine TL.p Pu.ex ?_
 refine TL.p Pu.ex ?_
 refine TL.p Pu.ex ?_
 refine TL.p Pu.as ?_
 refine TL.p Pu.as ?_
 refine TL.p Pu.as ?_
 refine TL.p Pu.as ?_
 refine TL.nil (TQ.thenN (hY7 _ _ ?_))
 refine TW.seq fun Y8 hY8 => TW.region ?_
 refine TL.cr rfl (enters Tryz.func38 rfl rfl) (fun w hw => by
  exact row2_any _) ?_
 refine TL.m (Mk.al ty_zr71) ?_
 intro b4
 first | refine TL.st ty_sz71 ?_ | refine TL.se ty_sz71 ?_
 refine TL.nil (TQ.thenN (hY8 _ _ ?_))
 refine TW.seq fun Y9 hY9 => TW.region ?_
 refine TL.p (by first | exact Pu.fb ty_fa71_3 | exact Pu.fe ty_fa71_3) ?_
 refine TL.p (by first | exact Pu.fb ty_fa36_1 | exact Pu.fe ty_fa36_1) ?_
 first | refine TL.st ty_sz3 ?_ | refine TL.se ty_sz3 ?_
 refine TL.nil (TQ.thenN (hY9 _ _ ?_))
 refine TW.seq fun Y10 hY10 => TW.region ?_
 refine TL.p Pu.mv ?_
 refine TL.p Pu.eq ?_
 refine TL.lit (t := 62) (b' := true) rfl (rfl) ?_
 refine TL.p Pu.mv ?_
 refine TL.gd Pu.mv ?_
 refine TL.cr rfl (enters Tryz.func18 rfl rfl) (fun w hw => by
  exact span2_any _ _ _) ?_
 refine TL.cr rfl (enters Tryz.func18 rfl rfl) (fun w hw => by
  exact span2_any _ _ _) ?_
 refine TL.cr rfl (enters Tryz.func18 rfl rfl) (fun w hw => by
  exact span2_any _ _ _) ?_
 refine TL.cr rfl (enters Tryz.func18 rfl rfl) (fun w hw => by
  exact span2_any _ _ _) ?_
 refine TL.gm Mk.bl ?_
 intro b5
 refine TL.cr rfl (enters Tryz.func41 rfl rfl) (fun w hw => by
  exact sameSpans_any (fun i j => if j = 0 then (exBr i).1 else (exBr i).2) (n := 4) (OwnR.rdr (hw.holds (.own P1 4 p1 36 2 (fun j => spL (exBr j).1 (exBr j).2)) (Pick.mem pk9))) (RdR.blk (cs := [.int .i64 0, .int .i64 100, .int .i64 1400, .int .i64 1600, .int .i64 5000, .int .i64 10100, .int .i64 2900, .int .i64 3100]) (n := 4) (sz := 2) (hw.holds _ (List.mem_cons_self ..)) rfl (fun _ _ => rfl)) (by decide)) ?_
 refine TL.lit (t := 70) (b' := true) rfl (rfl) ?_
 refine TL.p Pu.kt ?_
 refine TL.p Pu.mv ?_
 refine TL.gd Pu.mv ?_
 refine TL.gd Pu.eq ?_
 refine TL.lit (t := 74) (b' := true) rfl (rfl) ?_
 refine TL.p Pu.kt ?_
 refine TL.p Pu.mv ?_
 refine TL.gd Pu.mv ?_
 refine TL.gm Mk.bl ?_
 intro b6
 refine TL.cr rfl (enters Tryz.func37 rfl rfl) (fun w hw => by
  exact bSameInts_any (n := 2) (v := fun j => ([2, 3] : List Int).getD j 0) (by decide) (OwnR.rdr (hw.holds (.own P2 2 p2 3 1 (iL [2, 3])) (Pick.mem pk9))) (RdR.blk (cs := [.int .i64 2, .int .i64 3]) (n := 2) (sz := 1) (hw.holds _ (List.mem_cons_self ..)) rfl (fun _ _ => rfl))) ?_
 refine TL.lit (t := 79) (b' := true) rfl (rfl) ?_
 refine TL.p Pu.kt ?_
 refine TL.p Pu.mv ?_
 refine TL.gd Pu.mv ?_
 refine TL.gd Pu.eq ?_
 refine TL.lit (t := 83) (b' := true) rfl (rfl) ?_
 refine TL.p Pu.kt ?_
 refine TL.p Pu.mv ?_
 refine TL.gd Pu.mv ?_
 refine TL.gm Mk.bl ?_
 intro b7
 refine TL.gm Mk.bl ?_
 intro b8
 refine TL.gm Mk.bl ?_
 intro b9
 refine TL.cr rfl (enters Tryz.func42 rfl rfl) (fun w hw => by
  exact exSl (hw.holds _ (Pick.mem pk9)) (hw.holds _ (Pick.mem pk9)) (hw.holds _ (Pick.mem pk9)) (hw.holds _ (List.mem_cons_self ..)) (hw.holds _ (List.mem_cons_of_mem _ (List.mem_cons_of_mem _ (List.mem_cons_self ..)))) (hw.holds _ (List.mem_cons_of_mem _ (List.mem_cons_self ..)))) ?_
 refine TL.lit (t := 90) (b' := true) rfl (rfl) ?_
 refine TL.p Pu.kt ?_
 refine TL.p Pu.mv ?_
 refine TL.gd Pu.mv ?_
 refine TL.gd Pu.eq ?_
 refine TL.lit (t := 94) (b' := true) rfl (rfl) ?_
 refine TL.p Pu.kt ?_
 refine TL.p Pu.mv ?_
 refine TL.gd Pu.mv ?_
 refine TL.gm Mk.bl ?_
 intro b10
 refine TL.cr rfl (enters Tryz.func37 rfl rfl) (fun w hw => by
  exact bSameInts_any (n := 2) (v := fun j => ([0, 1] : List Int).getD j 0) (by decide) (OwnR.rdr (hw.holds (.own P4 2 p4 3 1 (iL [0, 1])) (Pick.mem pk9))) (RdR.blk (cs := [.int .i64 0, .int .i64 1]) (n := 2) (sz := 1) (hw.holds _ (List.mem_cons_self ..)) rfl (fun _ _ => rfl))) ?_
 refine TL.lit (t := 99) (b' := true) rfl (rfl) ?_
 refine TL.p Pu.kt ?_
 refine TL.p Pu.mv ?_
 refine TL.gd Pu.mv ?_
 refine TL.gd Pu.eq ?_
 refine TL.lit (t := 103) (b' := true) rfl (rfl) ?_
 refine TL.p Pu.kt ?_
 refine TL.p Pu.mv ?_
 refine TL.gd Pu.mv ?_
 refine TL.gd Pu.eq ?_
 refine TL.lit (t := 107) (b' := true) rfl (rfl) ?_
 refine TL.p Pu.kt ?_
 refine TL.p Pu.mv ?_
 refine TL.gd Pu.mv ?_
 refine TL.gd Pu.eq ?_
 refine TL.lit (t := 111) (b' := true) rfl (rfl) ?_
 refine TL.p Pu.kt ?_
 refine TL.p Pu.mv ?_
 refine TL.gd Pu.mv ?_
 refine TL.gd Pu.eq ?_
 refine TL.lit (t := 115) (b' := true) rfl (rfl) ?_
 refine TL.p Pu.kt ?_
 refine TL.p Pu.mv ?_
 refine TL.gd Pu.mv ?_
 refine TL.cr rfl (enters Tryz.func18 rfl rfl) (fun w hw => by
  exact span2_any _ _ _) ?_
 refine TL.cr rfl (enters Tryz.func18 rfl rfl) (fun w hw => by
  exact span2_any _ _ _) ?_
 refine TL.gm Mk.bl ?_
 intro b11
 refine TL.cr rfl (enters Tryz.func41 rfl rfl) (fun w hw => by
  exact sameSpans_any (fun i j => if j = 0 then (exCn i).1 else (exCn i).2) (n := 2) (OwnR.rdr (hw.holds (.own P6 2 p6 36 2 (fun i => spL (exCn i).1 (exCn i).2)) (Pick.mem pk9))) (RdR.blk (cs := [.int .i64 10, .int .i64 12, .int .i64 11, .int .i64 11]) (n := 2) (sz := 2) (hw.holds _ (List.mem_cons_self ..)) rfl (fun _ _ => rfl)) (by decide)) ?_
 refine TL.lit (t := 122) (b' := true) rfl (rfl) ?_
 refine TL.p Pu.kt ?_
 refine TL.p Pu.mv ?_
 refine TL.gd Pu.mv ?_
 refine TL.gd (Pu.lds ty_ag71) ?_
 refine TL.gm Mk.bl ?_
 intro b12
 refine TL.cr rfl (enters Tryz.func43 rfl rfl) (fun w hw => by
  exact sameRows_any (fun _ => exR 3) (n := 1) (OwnR.rdr (hw.holds (.own Q6 1 q6 71 14 (fun _ => rowL (exR 3))) (Pick.mem pk9))) (RdR.blk (cs := [.int .i64 1, .int .i64 2, .int .i64 0, .int .i64 0, .int .i64 0, .int .i64 0, .int .i64 0, .int .i64 3, .int .i64 0, .int .i64 0, .int .i64 0, .int .i64 0, .int .i64 11, .int .i64 11]) (n := 1) (sz := 14) (hw.holds _ (List.mem_cons_self ..)) rfl (fun _ _ => rfl)) (by decide)) ?_
 refine TL.lit (t := 128) (b' := true) rfl (rfl) ?_
 refine TL.p Pu.kt ?_
 refine TL.p Pu.as ?_
 refine TL.nil (TQ.thenN (hY10 _ _ ?_))
 refine TW.ret ?_
 refine TQ.ret Tryz.results12 rfl ((.tmp rfl .nil)) ?_
 exact fun w hw => Ret.of hw
end Go.Proofs.YtbenhafhklfhmaaGreat
namespace Go.Proofs.YtbenhafhklfhmaaGreat
set_option linter.all false
set_option linter.unusedVariables false
set_option linter.unusedSimpArgs false
def chB (n : Nat) (u : Nat → Int) (i : Nat) : Int := if i < n then u i else 0
def U32b (n : Nat) (u : Nat → Int) : Prop := ∀ k, k < n → 0 ≤ u k ∧ u k ≤ 4294967295
def inV (lo hi x : Int) : Int := lo + x % (hi - lo + 1)
section
variable {H : Hd} {t i : Nat} {d : Nat → Int} {dn : Nat → Bool}
end
end Go.Proofs.YtbenhafhklfhmaaGreat
namespace Go.Proofs.YtbenhafhklfhmaaGreat
set_option linter.all false
set_option linter.unusedVariables false
set_option linter.unusedSimpArgs false
open Go.RowKit
theorem retW {a b : Int} (h : a = b) : Ending.returned (.int .u32 a) = .returned (.int .u32 b) := by rw [h]
set_option maxRecDepth 100000 in
theorem choose2_any {A : Option Addr} {n cp : Nat} {u : Nat → Int} {w : World} (i : Nat) (hR : RdR w 1 A n (fun k => [.int .u32 (u k)])) :
  Calls Tryz.prog 17 #[.slice A n cp, .int .i64 (i : Int)] w (Ret w (.int .u32 (chB n u i))) := by
 refine K_enter (S := []) (K := []) Tryz.func17 rfl Tryz.ntmps17 rfl (Sat.start _) ?_
 refine TW.seq fun Y1 hY1 => TW.region ?_
 refine TL.p Pu.as ?_
 refine TL.nil (TQ.thenN (hY1 _ _ ?_))
 refine TW.seq fun Y2 hY2 => ?_
 refine TW.seq fun Y3 hY3 => TW.region ?_
 refine TL.p Pu.mv ?_
 refine TL.p Pu.mv ?_
 refine TL.p (Pu.ln Tryz.underlying24) ?_
 refine TL.p Pu.lt ?_
 refine TL.nil (TQ.thenN (hY3 _ _ ?_))
 refine TW.cond rfl (fun hc0 => ?_) (fun hc0 => ?_)
 try simp only [zcb9] at hc0
 have hi : i < n := by omega
 refine TW.seq fun Y4 hY4 => TW.region ?_
 refine TL.p Pu.mv ?_
 refine TL.p Pu.mv ?_
 refine TL.p (Pu.el ty_et24) ?_
 refine TL.p (Pu.ld ty_sc25) ?_
 refine TL.p Pu.as ?_
 refine TL.nil (TQ.thenN (hY4 _ _ ?_))
 refine TW.ret ?_
 refine TQ.thenR ?_
 refine TQ.ret Tryz.results17 rfl ((.tmp rfl .nil)) ?_
 exact fun w hw => ⟨retW (by unfold chB; rw [if_pos hi]), Chg.ext hw.chg⟩
 try simp only [zcb9] at hc0
 have hi : ¬ i < n := by omega
 refine TW.skip ?_
 refine TQ.thenN (hY2 _ _ ?_)
 refine TW.seq fun Y5 hY5 => TW.region ?_
 refine TL.p Pu.as ?_
 refine TL.nil (TQ.thenN (hY5 _ _ ?_))
 refine TW.ret ?_
 refine TQ.ret Tryz.results17 rfl ((.tmp rfl .nil)) ?_
 exact fun w hw => ⟨retW (by unfold chB; rw [if_neg hi]), Chg.ext hw.chg⟩
set_option maxRecDepth 100000 in
theorem inside2_any {lo hi x : Int} (h0 : -1000000 ≤ lo) (h1 : lo ≤ hi) (h2 : hi ≤ 1000000) (hx : 0 ≤ x ∧ x ≤ 4294967295) (w : World) :
  Calls Tryz.prog 25 #[.agg #[.int .i64 lo, .int .i64 hi], .int .u32 x] w (Ret w (.int .i64 (inV lo hi x))) := by
 have h3 := Int.emod_nonneg x (show hi - lo + 1 ≠ 0 by omega)
 have h4 := Int.emod_lt_of_pos x (show 0 < hi - lo + 1 by omega)
 refine K_enter (S := []) (K := []) Tryz.func25 rfl Tryz.ntmps25 rfl (Sat.start _) ?_
 refine TW.seq fun Y1 hY1 => TW.region ?_
 refine TL.m Mk.bx ?_
 intro b1
 refine TL.p Pu.as ?_
 refine TL.nil (TQ.thenN (hY1 _ _ ?_))
 refine TW.seq fun Y2 hY2 => ?_
 refine TW.dw 13 ?_
 refine RK.tk (by first | exact Pu.fb ty_fa36_0 | exact Pu.fe ty_fa36_0) ?_
 refine RK.tk (Pu.ld ty_sc3) ?_
 refine RK.tk Pu.mv ?_
 refine RK.tk (Pu.cv (v := .int .i64 x) rfl (fun w => by go_simp; rw [IntWalk.i64_in x (by omega)])) ?_
 refine RK.tk (by first | exact Pu.fb ty_fa36_1 | exact Pu.fe ty_fa36_1) ?_
 refine RK.tk (Pu.ld ty_sc3) ?_
 refine RK.tk (by first | exact Pu.fb ty_fa36_0 | exact Pu.fe ty_fa36_0) ?_
 refine RK.tk (Pu.ld ty_sc3) ?_
 refine RK.tk Pu.sb ?_
 refine RK.tk Pu.ad ?_
 refine RK.tk Pu.rm ?_
 refine RK.tk Pu.ad ?_
 refine RK.tk Pu.as ?_
 refine RK.ch [] ?_ trivial
 refine WK.n ?_
 refine TL.nil (TQ.thenN (hY2 _ _ ?_))
 refine TW.ret ?_
 refine TQ.ret Tryz.results25 rfl ((.tmp rfl .nil)) ?_
 exact fun w hw => Ret.of hw
set_option maxRecDepth 100000 in
theorem has2_any {A : Option Addr} {n cp : Nat} {v : Nat → Int} {w : World} (x : Int) (hn : n ≤ 1000000) (hR : RdR w 1 A n (fun k => [.int .i64 (v k)])) :
  Calls Tryz.prog 22 #[.slice A n cp, .int .i64 x] w (Ret w (.bool (anyB n fun k => decide (v k = x)))) := by
 refine K_enter (S := []) (K := []) Tryz.func22 rfl Tryz.ntmps22 rfl (Sat.start _) ?_
 refine TW.seq fun Y1 hY1 => TW.region ?_
 refine TL.p Pu.as ?_
 refine TL.nil (TQ.thenN (hY1 _ _ ?_))
 refine TW.seq fun Y2 hY2 => ?_
 refine TW.seq fun Y3 hY3 => TW.region ?_
 refine TL.p Pu.mv ?_
 refine TL.p (Pu.ln Tryz.underlying28) ?_
 refine TL.p Pu.mv ?_
 refine TL.nil (TQ.thenN (hY3 _ _ ?_))
 refine TW.block ?_
 refine TW.loop1 (fun (k : Nat) => [(9, .int .i64 (k : Int)), (8, .int .i64 (n : Int)), (7, .slice A n cp), (1, .int .i64 x)]) (fun k => []) (fun k => k ≤ n ∧ ∀ j, j < k → v j ≠ x) (fun k => n - k) 0 fs9 ?_ ?_ ?_
 exact ks9
 exact ⟨Nat.zero_le _, fun j hj => by omega⟩
 rintro k ⟨hk, hall⟩ Z0 hZ0
 refine TW.seq fun Y4 hY4 => TW.region ?_
 refine TL.p Pu.lt ?_
 refine TL.nil (TQ.thenN (hY4 _ _ ?_))
 refine TW.seq fun Y5 hY5 => ?_
 refine TW.cond rfl (fun hc0 => ?_) (fun hc0 => ?_)
 try simp only [zcb9] at hc0
 have hkn : k < n := by omega
 refine TW.skip ?_
 refine TQ.thenN (hY5 _ _ ?_)
 refine TW.seq fun Y6 hY6 => ?_
 refine TW.block ?_
 refine TW.seq fun Y7 hY7 => TW.region ?_
 refine TL.p (Pu.el ty_et28) ?_
 refine TL.p (Pu.ld ty_sc3) ?_
 refine TL.p Pu.as ?_
 refine TL.nil (TQ.thenN (hY7 _ _ ?_))
 refine TW.seq fun Y8 hY8 => TW.region ?_
 refine TL.p Pu.mv ?_
 refine TL.p Pu.mv ?_
 refine TL.p Pu.eq ?_
 refine TL.nil (TQ.thenN (hY8 _ _ ?_))
 refine TW.cond rfl (fun hc1 => ?_) (fun hc1 => ?_)
 try simp only [zcb9] at hc1
 have he : v k = x := hc1
 refine TW.seq fun Y9 hY9 => TW.region ?_
 refine TL.p Pu.as ?_
 refine TL.nil (TQ.thenN (hY9 _ _ ?_))
 refine TW.ret ?_
 refine TQ.blkR ?_
 refine TQ.thenR ?_
 refine TQ.thenR ?_
 refine TQ.blkR ?_
 refine TQ.thenR ?_
 refine TQ.ret Tryz.results22 rfl ((.tmp rfl .nil)) ?_
 exact fun w hw => ⟨ret_bool (anyB_iff.2 ⟨k, hkn, decide_eq_true he⟩), Chg.ext hw.chg⟩
 try simp only [zcb9] at hc1
 have he : v k ≠ x := hc1
 refine TW.skip ?_
 refine TQ.blkN ?_
 refine TQ.thenN (hY6 _ _ ?_)
 refine TW.region ?_
 refine TL.p Pu.ad ?_
 refine TL.p Pu.mv ?_
 refine TL.nil ?_
 refine TQ.thenN (hZ0 (k + 1) _ _ ?_ ?_ fs9 ?_)
 refine ⟨by omega, fun j hj => ?_⟩
 by_cases e : j = k
 rw [e]; exact he
 exact hall j (by omega)
 exact zom9
 exact ks9
 try simp only [zcb9] at hc0
 obtain rfl : k = n := by omega
 refine TW.exit ?_
 refine TQ.thenX ?_
 refine TQ.thenX ?_
 refine TQ.blkX ?_
 refine TQ.thenN (hY2 _ _ ?_)
 refine TW.seq fun Y10 hY10 => TW.region ?_
 refine TL.p Pu.as ?_
 refine TL.nil (TQ.thenN (hY10 _ _ ?_))
 refine TW.ret ?_
 refine TQ.ret Tryz.results22 rfl ((.tmp rfl .nil)) ?_
 exact fun w hw => ⟨ret_bool (anyB_false.2 fun j hj => decide_eq_false (hall j hj)), Chg.ext hw.chg⟩
section
variable {w : World} {A : Option Addr} {cp : Nat} {H : Hd} {a : Nat → Option Addr} {c : Nat → Nat}
set_option maxRecDepth 100000 in
theorem place2_any {i : Nat} (hI : HIn w A H a c) (hk : HOk H) (hi : i < H.n) : Calls Tryz.prog 19 #[.slice A H.n cp, .int .i64 (i : Int)] w (Ret w (.int .i64 (moH H i))) := by
 obtain ⟨hn, hR, hM, hl⟩ := hI
 refine K_enter (S := []) (K := []) Tryz.func19 rfl Tryz.ntmps19 rfl (Sat.start _) ?_
 refine TW.seq fun Y1 hY1 => TW.region ?_
 refine TL.p Pu.as ?_
 refine TL.nil (TQ.thenN (hY1 _ _ ?_))
 refine TW.seq fun Y2 hY2 => ?_
 refine TW.seq fun Y3 hY3 => TW.region ?_
 refine TL.p Pu.mv ?_
 refine TL.p (Pu.ln Tryz.underlying22) ?_
 refine TL.p Pu.mv ?_
 refine TL.nil (TQ.thenN (hY3 _ _ ?_))
 refine TW.block ?_
 refine TW.loop1 (fun (k : Nat) => [(9, .int .i64 (k : Int)), (8, .int .i64 (H.n : Int)), (7, .slice A H.n cp), (0, .slice A H.n cp), (1, .int .i64 (i : Int))]) (fun k => []) (fun k => k ≤ H.n ∧ ∀ j, j < k → H.id j ≠ H.mo i) (fun k => H.n - k) 0 fs9 ?_ ?_ ?_
 exact ks9
 exact ⟨Nat.zero_le _, fun j hj => by omega⟩
 rintro k ⟨hkn, hall⟩ Z0 hZ0
 refine TW.seq fun Y4 hY4 => TW.region ?_
 refine TL.p Pu.lt ?_
 refine TL.nil (TQ.thenN (hY4 _ _ ?_))
 refine TW.seq fun Y5 hY5 => ?_
 refine TW.cond rfl (fun hc0 => ?_) (fun hc0 => ?_)
 try simp only [zcb9] at hc0
 have hkl : k < H.n := by omega
 refine TW.skip ?_
 refine TQ.thenN (hY5 _ _ ?_)
 refine TW.seq fun Y6 hY6 => ?_
 refine TW.block ?_
 refine TW.seq fun Y7 hY7 => TW.region ?_
 refine TL.p Pu.mv ?_
 refine TL.p (Pu.el ty_et22) ?_
 refine TL.p (Pu.lds ty_ag46) ?_
 refine TL.m (Mk.al ty_zr46) ?_
 intro b1
 refine TL.p Pu.as ?_
 first | refine TL.st ty_sz46 ?_ | refine TL.se ty_sz46 ?_
 refine TL.nil (TQ.thenN (hY7 _ _ ?_))
 refine TW.seq fun Y8 hY8 => ?_
 refine TW.dw 8 ?_
 refine RK.tk (by first | exact Pu.fb ty_fa46_0 | exact Pu.fe ty_fa46_0) ?_
 refine RK.tk (Pu.ld ty_sc3) ?_
 refine RK.tk Pu.mv ?_
 refine RK.tk Pu.mv ?_
 refine RK.tk (Pu.el ty_et22) ?_
 refine RK.tk (by first | exact Pu.fb ty_fa46_1 | exact Pu.fe ty_fa46_1) ?_
 refine RK.tk (Pu.ld ty_sc3) ?_
 refine RK.tk Pu.eq ?_
 refine RK.ch [] ?_ trivial
 refine WK.n ?_
 refine TL.nil (TQ.thenN (hY8 _ _ ?_))
 refine TW.cond rfl (fun hc1 => ?_) (fun hc1 => ?_)
 try simp only [zcb9] at hc1
 have he : H.id k = H.mo i := hc1
 refine TW.seq fun Y9 hY9 => TW.region ?_
 refine TL.p Pu.mv ?_
 refine TL.p Pu.as ?_
 refine TL.nil (TQ.thenN (hY9 _ _ ?_))
 refine TW.ret ?_
 refine TQ.blkR ?_
 refine TQ.thenR ?_
 refine TQ.thenR ?_
 refine TQ.blkR ?_
 refine TQ.thenR ?_
 refine TQ.ret Tryz.results19 rfl ((.tmp rfl .nil)) ?_
 have h9 : moH H i = (k : Int) := by
  unfold moH
  have h1 := hk.id k hkl
  rw [if_neg (by omega), ← he]
  exact hk.at_ k hkl
 exact fun w hw => ⟨by rw [h9]; rfl, Chg.ext hw.chg⟩
 try simp only [zcb9] at hc1
 have he : H.id k ≠ H.mo i := hc1
 refine TW.skip ?_
 refine TQ.blkN ?_
 refine TQ.thenN (hY6 _ _ ?_)
 refine TW.region ?_
 refine TL.p Pu.ad ?_
 refine TL.p Pu.mv ?_
 refine TL.nil ?_
 refine TQ.thenN (hZ0 (k + 1) _ _ ?_ ?_ fs9 ?_)
 refine ⟨by omega, fun j hj => ?_⟩
 by_cases e : j = k
 rw [e]; exact he
 exact hall j (by omega)
 exact zom9
 exact ks9
 try simp only [zcb9] at hc0
 obtain rfl : k = H.n := by omega
 refine TW.exit ?_
 refine TQ.thenX ?_
 refine TQ.thenX ?_
 refine TQ.blkX ?_
 refine TQ.thenN (hY2 _ _ ?_)
 refine TW.seq fun Y10 hY10 => TW.region ?_
 refine TL.p Pu.as ?_
 refine TL.nil (TQ.thenN (hY10 _ _ ?_))
 refine TW.ret ?_
 refine TQ.ret Tryz.results19 rfl ((.tmp rfl .nil)) ?_
 have h9 : moH H i = -1 := by
  have h0 := moH_Mo (H := H) i hi
  by_cases h1 : 0 ≤ moH H i
  have h2 := hk.mid hi h1
  exact absurd h2.1 (hall _ h2.2.1)
  omega
 exact fun w hw => ⟨by rw [h9]; rfl, Chg.ext hw.chg⟩
theorem rdy_code {H : Hd} : decide ((if herdB H then (0 : Int) else 20) = 0) = herdB H := by
 cases herdB H <;> rfl
def rdyH (H : Hd) : Bool := !greatH H && herdB H
set_option maxRecDepth 100000 in
theorem ready2_any (hR : RdR w 5 A H.n (fun i => anL H a c i)) (hM : ∀ i, i < H.n → RdR w 2 (a i) (H.ml i) (fun k => spL (H.sp i k) (H.sg i k))) : Calls Tryz.prog 13 #[.slice A H.n cp] w (Ret w (.bool (rdyH H))) := by
 refine K_enter (S := []) (K := []) Tryz.func13 rfl Tryz.ntmps13 rfl (Sat.start _) ?_
 refine TW.seq fun Y1 hY1 => TW.region ?_
 refine TL.p Pu.as ?_
 refine TL.nil (TQ.thenN (hY1 _ _ ?_))
 refine TW.seq fun Y2 hY2 => TW.region ?_
 refine TL.p Pu.mv ?_
 refine TL.cr rfl (enters Tryz.func44 rfl rfl) (fun w hw => by
  exact rGreat_any (hR.sat hw Apart.nil)) ?_
 refine TL.p Pu.no ?_
 refine TL.p Pu.mv ?_
 refine TL.guard (t := 6) rfl (fun hg1 => ?_) (fun hg1 => ?_)
 try simp only [zgb9] at hg1
 refine TL.gd Pu.mv ?_
 refine TL.cr rfl (enters Tryz.func45 rfl rfl) (fun w hw => by
  obtain ⟨h20, h12⟩ := great_in (show greatH H = false by simpa using hg1)
  exact rCheck_any (HIn.sat ⟨by omega, hR, hM, fun i hi => by have := h12 i hi; omega⟩ hw)) ?_
 refine TL.gd (Pu.bv Pu.eq (rdy_code (H := H))) ?_
 refine TL.p Pu.kt ?_
 refine TL.p Pu.as ?_
 refine TL.nil (TQ.thenN (hY2 _ _ ?_))
 refine TW.ret ?_
 refine TQ.ret Tryz.results13 rfl ((.tmp rfl .nil)) ?_
 refine fun w hw => ⟨ret_bool ?_, Chg.ext hw.chg⟩
 unfold rdyH
 simp [*]
 try simp only [zgb9] at hg1
 refine TL.gs ?_
 refine TL.gs ?_
 refine TL.gs ?_
 refine TL.p Pu.kf ?_
 refine TL.p Pu.as ?_
 refine TL.nil (TQ.thenN (hY2 _ _ ?_))
 refine TW.ret ?_
 refine TQ.ret Tryz.results13 rfl ((.tmp rfl .nil)) ?_
 refine fun w hw => ⟨ret_bool ?_, Chg.ext hw.chg⟩
 unfold rdyH
 simp [*]
end
end Go.Proofs.YtbenhafhklfhmaaGreat
namespace Go.Proofs.YtbenhafhklfhmaaGreat
set_option linter.all false
set_option linter.unusedVariables false
set_option linter.unusedSimpArgs false
section
variable {H : Hd} {l l' : Lk} {L L' : Nat → Lk} {nl nc : Nat} {dm yg : Nat → Int} {v : Int}
theorem lks_zero : lksC nl L nc dm yg = 0 ↔ (nl ≤ 4 ∧ nc ≤ 6) ∧ (∀ k, k < nl → lkB (L k) = true) ∧ cvB nl nc dm yg = true := by
 unfold lksC
 by_cases h1 : (nl : Int) ≤ 4 ∧ (nc : Int) ≤ 6
 · rw [if_neg (fun h => h h1)]
   by_cases h2 : ((allB nl fun k => lkB (L k)) && cvB nl nc dm yg) = true
   · rw [if_pos h2]
     rw [Bool.and_eq_true, allB_iff] at h2
     exact ⟨fun _ => ⟨by omega, h2⟩, fun _ => rfl⟩
   · rw [if_neg h2]
     refine ⟨fun h => (by cases h), fun ⟨_, h3, h4⟩ => absurd ?_ h2⟩
     rw [Bool.and_eq_true, allB_iff]
     exact ⟨h3, h4⟩
 · rw [if_pos h1]
   exact ⟨fun h => (by cases h), fun ⟨h2, _⟩ => absurd (by omega) h1⟩
end
end Go.Proofs.YtbenhafhklfhmaaGreat
namespace Go.Proofs.YtbenhafhklfhmaaGreat
set_option linter.all false
set_option linter.unusedVariables false
set_option linter.unusedSimpArgs false
open Go.RowKit
section
variable {c : Cx} {Q : Exit → Act → World → Prop} {F : Fr} {K K' K1 : List Fact} {ops : Array Oper} {rest : List Oper}
theorem TW.meet {x y : Code} {X : Type} (Fj : X → Fr) (Kj : X → List Fact) (h1 : ∀ x, TW c y Q (Fj x) (Kj x)) (h2 : ∀ Y : Act → World → Prop, (∀ x F K, fsub F (Fj x) → KSub K (Kj x) → TQ c (fun _ => Y) .normal F K) → TW c x (Exit.then Y Q) F K) : TW c (.seq x y) Q F K :=
 TW.seq fun Y hY => h2 Y fun x F K hF hK => TQ.sub hF hK (hY _ _ (h1 x))
theorem OwnR.cap {w : World} {A : Option Addr} {n cp : Nat} {E : TypeId} {sz : Nat} {r : Nat → List Value} (h : OwnR w A n cp E sz r) : n ≤ cp := by
 obtain ⟨A', c', e, h1, _⟩ := h.own.form
 cases e
 exact h1
theorem TW.ocap {x : Code} {A : Option Addr} {n cp : Nat} {E : TypeId} {sz : Nat} {r : Nat → List Value} (hp : Pick K (.own A n cp E sz r) K') (h : n ≤ cp → TW c x Q F K) : TW c x Q F K := fun a w hF hK =>
 h (OwnR.cap (hK.holds (.own A n cp E sz r) hp.mem)) a w hF hK
theorem TL.unb (hp : Pick K (tied K1) K') (h : TL c ops Q rest F (K1 ++ K')) : TL c ops Q rest F K := fun a w hF hK => h a w hF (hK.pick hp).unbun
end
section
variable {c : Cx} {F : Fr} {K : List Fact} {d : Option Tmp} {ty xt yt : TypeId} {pos : String} {af : Array Edge} {g : Option (Nat × Bool)} {x y : Operand}
end
end Go.Proofs.YtbenhafhklfhmaaGreat
namespace Go.Proofs.YtbenhafhklfhmaaGreat
set_option linter.all false
set_option linter.unusedVariables false
set_option linter.unusedSimpArgs false
section
variable {H : Hd} {at_ i s k : Nat} {v : Int} {L : List Int}
theorem mem_int_getD : v ∈ L ↔ ∃ k, k < L.length ∧ L.getD k 0 = v := by
 constructor
 · intro h
   obtain ⟨k, hk, e⟩ := List.mem_iff_getElem.1 h
   exact ⟨k, hk, by rw [List.getD_eq_getElem?_getD, List.getElem?_eq_getElem hk]; exact e⟩
 · rintro ⟨k, hk, e⟩
   rw [List.getD_eq_getElem?_getD, List.getElem?_eq_getElem hk] at e
   exact List.mem_iff_getElem.2 ⟨k, hk, e⟩
end
end Go.Proofs.YtbenhafhklfhmaaGreat
namespace Go.Proofs.YtbenhafhklfhmaaGreat
set_option linter.all false
set_option linter.unusedVariables false
set_option linter.unusedSimpArgs false
open Go.RowKit
section
variable {w : World} {A : Option Addr} {cp : Nat} {H : Hd} {a : Nat → Option Addr} {c : Nat → Nat}
theorem lw_fits {l : Lk} {Al : Option Addr} {cl : Nat} {X : List Int} {e : Int} (h1 : fitC H l = e) (h2 : fitL H l = X) (h : HIn w A H a c) (hL : LkIn w l Al) : CallsK Tryz.prog 21 #[.slice A H.n cp, .agg (lkL l Al cl).toArray] [] w (Option Addr × Nat) (fun y => .tuple #[.slice y.1 X.length y.2, .int .i64 e]) (fun y => [.own y.1 X.length y.2 3 1 (iL X)]) := by
 have h9 := bFits_any (cp := cp) (cl := cl) h hL
 rw [h1, h2] at h9
 exact h9
theorem lw_names {nl nc cb cc nM : Nat} {L : Nat → Lk} {dm yg : Nat → Int} {B C : Option Addr} {la : Nat → Option Addr} {lc : Nat → Nat} {M : Nat → List Int} {g : Int} (h1 : nmC H nl L nc dm yg = g) (h2 : nmL H nl L nc dm yg = M) (h3 : nmN H nl L nc dm yg = nM) (h : HIn w A H a c) (hL : LksIn w nl L B la lc) (hC : CvsIn w nc dm yg C) :
  CallsK Tryz.prog 20 #[.slice A H.n cp, .slice B nl cb, .slice C nc cc] [] w NX9 (fun y => .tuple #[.slice y.1.1 nM y.1.2, .int .i64 g]) (fun y => [.own y.1.1 nM y.1.2 28 1 (fun k => [.slice (y.2.1 k) (M k).length (y.2.2 k)]), tied (ownsE 3 1 y.2.1 (fun k => (M k).length) y.2.2 (fun k => iL (M k)) nM)]) := by
 have h9 := bNames_any (cp := cp) (cb := cb) (cc := cc) h hL hC
 unfold nmV nmF at h9
 rw [h1, h2, h3] at h9
 exact h9
end
set_option maxRecDepth 100000 in
set_option maxHeartbeats 1000000 in
theorem rLook2_any {l : Lk} {A : Option Addr} {c : Nat} {w : World} (hR : RdR w 1 A l.ns (fun k => [.int .u32 (l.sg k : Int)])) (hb : ∀ k, k < l.ns → l.sg k ≤ 4294967295) : Calls Tryz.prog 63 #[.agg (lkL l A c).toArray] w (Ret w (.bool (lkB l))) := by
 unfold lkL
 refine K_enter (S := []) (K := []) Tryz.func63 rfl Tryz.ntmps63 rfl (Sat.start _) ?_
 refine TW.seq fun Y1 hY1 => TW.region ?_
 refine TL.m Mk.bx ?_
 intro b1
 refine TL.p Pu.as ?_
 refine TL.nil (TQ.thenN (hY1 _ _ ?_))
 refine TW.seq fun Y2 hY2 => ?_
 refine TW.seq fun Y3 hY3 => ?_
 refine TW.join [(19, .bool (!(decide ((l.ns : Int) = 8) && inB5 0 100000 l.day && ordB5 0 200000 l.alo l.ahi)))] ?_ (fun hJ1 => ?_)
 refine TQ.thenN (hY3 _ _ ?_)
 refine TW.cond rfl (fun hc0 => ?_) (fun hc0 => ?_)
 try simp only [zcb9] at hc0
 have hbad : lkB l = false := by
  cases hq : lkB l with
  | false => rfl
  | true =>
   unfold lkB at hq
   simp only [Bool.and_eq_true, decide_eq_true_eq] at hq
   obtain ⟨⟨⟨h1, h2⟩, h3⟩, h4⟩ := hq
   exfalso
   simp [h1, h3, h4] at hc0
 refine TW.seq fun Y4 hY4 => TW.region ?_
 refine TL.p Pu.as ?_
 refine TL.nil (TQ.thenN (hY4 _ _ ?_))
 refine TW.ret ?_
 refine TQ.thenR ?_
 refine TQ.ret Tryz.results63 rfl ((.tmp rfl .nil)) ?_
 exact fun w hw => ⟨ret_bool hbad, Chg.ext hw.chg⟩
 try simp only [zcb9] at hc0
 have hgd : l.ns = 8 ∧ inB5 0 100000 l.day = true ∧ ordB5 0 200000 l.alo l.ahi = true := ⟨by have := hc0.1.1; omega, hc0.1.2, hc0.2⟩
 obtain ⟨h8, hg2, hg3⟩ := hgd
 refine TW.skip ?_
 refine TQ.thenN (hY2 _ _ ?_)
 refine TW.seq fun Y5 hY5 => ?_
 refine TW.seq fun Y6 hY6 => TW.region ?_
 refine TL.p Pu.as ?_
 refine TL.nil (TQ.thenN (hY6 _ _ ?_))
 refine TW.block ?_
 refine TW.loop1 (fun (k : Nat) => [(3, .int .i64 (k : Int)), (1, .pointer (some ⟨b1, 0, none⟩))]) (fun k => [.blk b1 42 [.slice A l.ns c, .int .i64 l.day, .int .i64 l.alo, .int .i64 l.ahi]]) (fun k => k ≤ 8 ∧ ∀ j, j < k → l.sg j < 2097152) (fun k => 8 - k) 0 fs9 ?_ ?_ ?_
 exact ks9
 exact ⟨by omega, fun j hj => by omega⟩
 rintro k ⟨hk8, hall⟩ Z0 hZ0
 refine TW.seq fun Y7 hY7 => ?_
 refine TW.seq fun Y8 hY8 => TW.region ?_
 refine TL.p Pu.mv ?_
 refine TL.p Pu.lt ?_
 refine TL.nil (TQ.thenN (hY8 _ _ ?_))
 refine TW.cond rfl (fun hc1 => ?_) (fun hc1 => ?_)
 try simp only [zcb9] at hc1
 have hkn : k < 8 := by omega
 refine TW.skip ?_
 refine TQ.thenN (hY7 _ _ ?_)
 refine TW.seq fun Y9 hY9 => ?_
 refine TW.block ?_
 refine TW.seq fun Y10 hY10 => TW.region ?_
 refine TL.p (by first | exact Pu.fb ty_fa42_0 | exact Pu.fe ty_fa42_0) ?_
 refine TL.p (Pu.ld ty_sc24) ?_
 refine TL.p Pu.mv ?_
 refine TL.p (Pu.el ty_et24) ?_
 refine TL.p (Pu.ld ty_sc25) ?_
 refine TL.p Pu.ge ?_
 refine TL.nil (TQ.thenN (hY10 _ _ ?_))
 refine TW.cond rfl (fun hc2 => ?_) (fun hc2 => ?_)
 try simp only [zcb9] at hc2
 have hbig : ¬ l.sg k < 2097152 := by omega
 refine TW.seq fun Y11 hY11 => TW.region ?_
 refine TL.p Pu.as ?_
 refine TL.nil (TQ.thenN (hY11 _ _ ?_))
 refine TW.ret ?_
 refine TQ.blkR ?_
 refine TQ.thenR ?_
 refine TQ.thenR ?_
 refine TQ.blkR ?_
 refine TQ.thenR ?_
 refine TQ.ret Tryz.results63 rfl ((.tmp rfl .nil)) ?_
 exact fun w hw => ⟨ret_bool (by
  cases hq : lkB l with
  | false => rfl
  | true =>
   unfold lkB at hq
   simp only [Bool.and_eq_true] at hq
   exact absurd (of_decide_eq_true (allB_iff.1 hq.1.1.2 k hkn)) hbig), Chg.ext hw.chg⟩
 try simp only [zcb9] at hc2
 have hsm : l.sg k < 2097152 := by omega
 refine TW.skip ?_
 refine TQ.blkN ?_
 refine TQ.thenN (hY9 _ _ ?_)
 refine TW.region ?_
 refine TL.p Pu.mv ?_
 refine TL.p Pu.ad ?_
 refine TL.p Pu.as ?_
 refine TL.nil ?_
 refine TQ.thenN (hZ0 (k + 1) _ _ ?_ ?_ fs9 ?_)
 refine ⟨by omega, fun j hj => ?_⟩
 by_cases e : j = k
 subst e; exact hsm
 exact hall j (by omega)
 exact zom9
 exact ks9
 try simp only [zcb9] at hc1
 have hkn : k = 8 := by omega
 refine TW.exit ?_
 refine TQ.thenX ?_
 refine TQ.thenX ?_
 refine TQ.blkX ?_
 refine TQ.thenN (hY5 _ _ ?_)
 refine TW.seq fun Y12 hY12 => TW.region ?_
 refine TL.p Pu.as ?_
 refine TL.nil (TQ.thenN (hY12 _ _ ?_))
 refine TW.ret ?_
 refine TQ.ret Tryz.results63 rfl ((.tmp rfl .nil)) ?_
 exact fun w hw => ⟨ret_bool (by
  have h1 : (allB 8 fun s => decide (l.sg s < 2097152)) = true := allB_iff.2 fun j hj => decide_eq_true (hall j (by omega))
  unfold lkB
  rw [h1, hg2, hg3, decide_eq_true h8]; rfl), Chg.ext hw.chg⟩
 refine TW.region ?_
 refine TL.p (by first | exact Pu.fb ty_fa42_0 | exact Pu.fe ty_fa42_0) ?_
 refine TL.p (Pu.ld ty_sc24) ?_
 refine TL.p (Pu.ln Tryz.underlying24) ?_
 refine TL.p Pu.ne ?_
 refine TL.p Pu.mv ?_
 refine TL.guard (t := 8) rfl (fun hg1 => ?_) (fun hg1 => ?_)
 refine TL.gs ?_
 refine TL.gs ?_
 refine TL.gs ?_
 refine TL.gs ?_
 refine TL.p Pu.kt ?_
 refine TL.p Pu.mv ?_
 refine TL.gs ?_
 refine TL.gs ?_
 refine TL.gs ?_
 refine TL.gs ?_
 refine TL.p Pu.kt ?_
 refine TL.nil ?_
 exact TQ.sub (by repeat (first | exact trivial | refine ⟨rfl, ?_⟩ | refine ⟨trivial, ?_⟩ | refine ⟨(by show some (Value.bool _) = some (Value.bool _); first | (simp [hg1]; done) | (refine congrArg (fun z => some (Value.bool z)) (Bool.eq_iff_iff.2 ?_); simp [hg1]; omega)), ?_⟩)) ks9 hJ1
 refine TL.gd (by first | exact Pu.fb ty_fa42_1 | exact Pu.fe ty_fa42_1) ?_
 refine TL.gd (Pu.ld ty_sc3) ?_
 refine TL.cr rfl (enters Tryz.func64 rfl rfl) (fun w hw => by
   exact rWithin_any _ _ _ _) ?_
 refine TL.gd Pu.no ?_
 refine TL.p Pu.kf ?_
 refine TL.p Pu.mv ?_
 refine TL.guard (t := 14) rfl (fun hg2 => ?_) (fun hg2 => ?_)
 refine TL.gs ?_
 refine TL.gs ?_
 refine TL.gs ?_
 refine TL.gs ?_
 refine TL.p Pu.kt ?_
 refine TL.nil ?_
 exact TQ.sub (by repeat (first | exact trivial | refine ⟨rfl, ?_⟩ | refine ⟨trivial, ?_⟩ | refine ⟨(by show some (Value.bool _) = some (Value.bool _); first | (simp [hg1, hg2]; done) | (refine congrArg (fun z => some (Value.bool z)) (Bool.eq_iff_iff.2 ?_); simp [hg1, hg2]; omega)), ?_⟩)) ks9 hJ1
 refine TL.gd (by first | exact Pu.fb ty_fa42_2 | exact Pu.fe ty_fa42_2) ?_
 refine TL.gd (Pu.lds ty_ag36) ?_
 refine TL.cr rfl (enters Tryz.func100 rfl rfl) (fun w hw => by
   exact rOrdered_any _ _ _ _ _) ?_
 refine TL.gd Pu.no ?_
 refine TL.p Pu.kf ?_
 refine TL.nil ?_
 exact TQ.sub (by repeat (first | exact trivial | refine ⟨rfl, ?_⟩ | refine ⟨trivial, ?_⟩ | refine ⟨(by show some (Value.bool _) = some (Value.bool _); first | (simp [hg1, hg2]; done) | (refine congrArg (fun z => some (Value.bool z)) (Bool.eq_iff_iff.2 ?_); simp [hg1, hg2]; omega)), ?_⟩)) ks9 hJ1
set_option maxRecDepth 100000 in
set_option maxHeartbeats 2000000 in
theorem rLooks2_any {w : World} {nl nc cb cc : Nat} {L : Nat → Lk} {B C : Option Addr} {la : Nat → Option Addr} {lc : Nat → Nat} {dm yg : Nat → Int} (hRL : RdR w 4 B nl (fun k => lkL (L k) (la k) (lc k))) (hLs : ∀ k, k < nl → RdR w 1 (la k) (L k).ns (fun j => [.int .u32 ((L k).sg j : Int)])) (hLb : ∀ k, k < nl → ∀ j, j < (L k).ns → (L k).sg j ≤ 4294967295) (hRC : RdR w 2 C nc (fun k => [.int .i64 (dm k), .int .i64 (yg k)])) :
  Calls Tryz.prog 23 #[.slice B nl cb, .slice C nc cc] w (Ret w (.int .i64 (lksC nl L nc dm yg))) := by
 have fL := fun (w' : World) (k : Nat) (h1 : RdR w' 1 (la k) (L k).ns (fun j => [.int .u32 ((L k).sg j : Int)])) (h2 : ∀ j, j < (L k).ns → (L k).sg j ≤ 4294967295) => rLook2_any (c := lc k) h1 h2
 unfold lkL at hRL fL
 refine K_enter (S := []) (K := []) Tryz.func23 rfl Tryz.ntmps23 rfl (Sat.start _) ?_
 refine TW.seq fun Y1 hY1 => TW.region ?_
 refine TL.p Pu.as ?_
 refine TL.nil (TQ.thenN (hY1 _ _ ?_))
 refine TW.seq fun Y2 hY2 => ?_
 refine TW.seq fun Y3 hY3 => ?_
 refine TW.join [(15, .bool (decide ((4 : Int) < (nl : Int)) || decide ((6 : Int) < (nc : Int))))] ?_ (fun hJ1 => ?_)
 refine TQ.thenN (hY3 _ _ ?_)
 refine TW.cond rfl (fun hc0 => ?_) (fun hc0 => ?_)
 try simp only [zcb9] at hc0
 have hbig : ¬ ((nl : Int) ≤ 4 ∧ (nc : Int) ≤ 6) := by
  intro hh
  rcases hc0 with h | h <;> omega
 refine TW.seq fun Y4 hY4 => TW.region ?_
 refine TL.p Pu.as ?_
 refine TL.nil (TQ.thenN (hY4 _ _ ?_))
 refine TW.ret ?_
 refine TQ.thenR ?_
 refine TQ.ret Tryz.results23 rfl ((.tmp rfl .nil)) ?_
 exact fun w hw => ⟨ret_int (by unfold lksC; rw [if_pos hbig]), Chg.ext hw.chg⟩
 try simp only [zcb9] at hc0
 have hsm : (nl : Int) ≤ 4 ∧ (nc : Int) ≤ 6 := ⟨by have := hc0.1; omega, by have := hc0.2; omega⟩
 refine TW.skip ?_
 refine TQ.thenN (hY2 _ _ ?_)
 refine TW.seq fun Y5 hY5 => ?_
 refine TW.seq fun Y6 hY6 => TW.region ?_
 refine TL.p Pu.as ?_
 refine TL.nil (TQ.thenN (hY6 _ _ ?_))
 refine TW.block ?_
 refine TW.loop1 (fun (k : Nat) => [(5, .int .i64 (k : Int)), (0, .slice B nl cb), (1, .slice C nc cc)]) (fun k => []) (fun k => k ≤ nl ∧ ∀ j, j < k → lkB (L j) = true) (fun k => nl - k) 0 fs9 ?_ ?_ ?_
 exact ks9
 exact ⟨Nat.zero_le _, fun j hj => by omega⟩
 rintro k ⟨hkn, hall⟩ Z0 hZ0
 refine TW.seq fun Y7 hY7 => ?_
 refine TW.seq fun Y8 hY8 => TW.region ?_
 refine TL.p Pu.mv ?_
 refine TL.p Pu.mv ?_
 refine TL.p (Pu.ln Tryz.underlying37) ?_
 refine TL.p Pu.lt ?_
 refine TL.nil (TQ.thenN (hY8 _ _ ?_))
 refine TW.cond rfl (fun hc1 => ?_) (fun hc1 => ?_)
 try simp only [zcb9] at hc1
 have hkl : k < nl := by omega
 refine TW.skip ?_
 refine TQ.thenN (hY7 _ _ ?_)
 refine TW.seq fun Y9 hY9 => ?_
 refine TW.block ?_
 refine TW.seq fun Y10 hY10 => TW.region ?_
 refine TL.p Pu.mv ?_
 refine TL.p Pu.mv ?_
 refine TL.p (Pu.el ty_et37) ?_
 refine TL.p (Pu.lds ty_ag42) ?_
 refine TL.cr rfl (enters Tryz.func63 rfl rfl) (fun w hw => by
   exact fL _ k ((hLs k hkl).sat hw Apart.nil) (hLb k hkl)) ?_
 refine TL.p Pu.no ?_
 refine TL.nil (TQ.thenN (hY10 _ _ ?_))
 refine TW.cond rfl (fun hc2 => ?_) (fun hc2 => ?_)
 try simp only [zcb9] at hc2
 have hbad : lkB (L k) = false := by simpa using hc2
 refine TW.seq fun Y11 hY11 => TW.region ?_
 refine TL.p Pu.as ?_
 refine TL.nil (TQ.thenN (hY11 _ _ ?_))
 refine TW.ret ?_
 refine TQ.blkR ?_
 refine TQ.thenR ?_
 refine TQ.thenR ?_
 refine TQ.blkR ?_
 refine TQ.thenR ?_
 refine TQ.ret Tryz.results23 rfl ((.tmp rfl .nil)) ?_
 exact fun w hw => ⟨ret_int (by
  unfold lksC
  rw [if_neg (fun h => h hsm), if_neg]
  intro hh
  rw [Bool.and_eq_true] at hh
  have := allB_iff.1 hh.1 k hkl
  rw [hbad] at this; cases this), Chg.ext hw.chg⟩
 try simp only [zcb9] at hc2
 have hgd : lkB (L k) = true := by simpa using hc2
 refine TW.skip ?_
 refine TQ.blkN ?_
 refine TQ.thenN (hY9 _ _ ?_)
 refine TW.region ?_
 refine TL.p Pu.mv ?_
 refine TL.p Pu.ad ?_
 refine TL.p Pu.as ?_
 refine TL.nil ?_
 refine TQ.thenN (hZ0 (k + 1) _ _ ?_ ?_ fs9 ?_)
 refine ⟨by omega, fun j hj => ?_⟩
 by_cases e : j = k
 subst e; exact hgd
 exact hall j (by omega)
 exact zom9
 exact ks9
 try simp only [zcb9] at hc1
 have hkl : k = nl := by omega
 refine TW.exit ?_
 refine TQ.thenX ?_
 refine TQ.thenX ?_
 refine TQ.blkX ?_
 refine TQ.thenN (hY5 _ _ ?_)
 refine TW.seq fun Y12 hY12 => ?_
 refine TW.seq fun Y13 hY13 => TW.region ?_
 refine TL.p Pu.as ?_
 refine TL.nil (TQ.thenN (hY13 _ _ ?_))
 refine TW.block ?_
 refine TW.loop1 (fun (c : Nat) => [(6, .int .i64 (c : Int)), (0, .slice B nl cb), (1, .slice C nc cc)]) (fun c => []) (fun c => c ≤ nc ∧ ∀ j, j < c → cv1 nl dm yg j = true) (fun c => nc - c) 0 fs9 ?_ ?_ ?_
 exact ks9
 exact ⟨Nat.zero_le _, fun j hj => by omega⟩
 rintro c ⟨hcn, hcv⟩ Z1 hZ1
 refine TW.seq fun Y14 hY14 => ?_
 refine TW.seq fun Y15 hY15 => TW.region ?_
 refine TL.p Pu.mv ?_
 refine TL.p Pu.mv ?_
 refine TL.p (Pu.ln Tryz.underlying38) ?_
 refine TL.p Pu.lt ?_
 refine TL.nil (TQ.thenN (hY15 _ _ ?_))
 refine TW.cond rfl (fun hc3 => ?_) (fun hc3 => ?_)
 try simp only [zcb9] at hc3
 have hcl : c < nc := by omega
 refine TW.skip ?_
 refine TQ.thenN (hY14 _ _ ?_)
 refine TW.seq fun Y16 hY16 => ?_
 refine TW.block ?_
 refine TW.seq fun Y17 hY17 => TW.region ?_
 refine TL.p Pu.mv ?_
 refine TL.p Pu.mv ?_
 refine TL.p (Pu.el ty_et38) ?_
 refine TL.p (Pu.lds ty_ag51) ?_
 refine TL.m (Mk.al ty_zr51) ?_
 intro b1
 first | refine TL.st ty_sz51 ?_ | refine TL.se ty_sz51 ?_
 refine TL.nil (TQ.thenN (hY17 _ _ ?_))
 refine TW.seq fun Y18 hY18 => ?_
 refine TW.join [(60, .bool (!cv1 nl dm yg c))] ?_ (fun hJ2 => ?_)
 refine TQ.thenN (hY18 _ _ ?_)
 refine TW.cond rfl (fun hc4 => ?_) (fun hc4 => ?_)
 try simp only [zcb9] at hc4
 have hbad : cv1 nl dm yg c = false := by simpa using hc4
 refine TW.seq fun Y19 hY19 => TW.region ?_
 refine TL.p Pu.as ?_
 refine TL.nil (TQ.thenN (hY19 _ _ ?_))
 refine TW.ret ?_
 refine TQ.blkR ?_
 refine TQ.thenR ?_
 refine TQ.thenR ?_
 refine TQ.blkR ?_
 refine TQ.thenR ?_
 refine TQ.ret Tryz.results23 rfl ((.tmp rfl .nil)) ?_
 exact fun w hw => ⟨ret_int (by
  unfold lksC
  rw [if_neg (fun h => h hsm), if_neg]
  intro hh
  rw [Bool.and_eq_true, ← cv_all] at hh
  have := allB_iff.1 hh.2 c hcl
  rw [hbad] at this; cases this), Chg.ext hw.chg⟩
 try simp only [zcb9] at hc4
 have hgd : cv1 nl dm yg c = true := by simpa using hc4
 refine TW.skip ?_
 refine TQ.blkN ?_
 refine TQ.thenN (hY16 _ _ ?_)
 refine TW.region ?_
 refine TL.p Pu.mv ?_
 refine TL.p Pu.ad ?_
 refine TL.p Pu.as ?_
 refine TL.nil ?_
 refine TQ.thenN (hZ1 (c + 1) _ _ ?_ ?_ fs9 ?_)
 refine ⟨by omega, fun j hj => ?_⟩
 by_cases e : j = c
 subst e; exact hgd
 exact hcv j (by omega)
 exact zom9
 exact ks9
 refine TW.region ?_
 refine TL.p (by first | exact Pu.fb ty_fa51_0 | exact Pu.fe ty_fa51_0) ?_
 refine TL.p (Pu.ld ty_sc3) ?_
 refine TL.p Pu.mv ?_
 refine TL.p (Pu.ln Tryz.underlying37) ?_
 refine TL.p Pu.sb ?_
 refine TL.cr rfl (enters Tryz.func64 rfl rfl) (fun w hw => by
   exact rWithin_any _ _ _ _) ?_
 refine TL.p Pu.no ?_
 refine TL.p Pu.mv ?_
 refine TL.guard (t := 45) rfl (fun hg1 => ?_) (fun hg1 => ?_)
 try simp only [zgb9] at hg1
 refine TL.gs ?_
 refine TL.gs ?_
 refine TL.gs ?_
 refine TL.gs ?_
 refine TL.gs ?_
 refine TL.gs ?_
 refine TL.gs ?_
 refine TL.p Pu.kt ?_
 refine TL.p Pu.mv ?_
 refine TL.gs ?_
 refine TL.gs ?_
 refine TL.gs ?_
 refine TL.gs ?_
 refine TL.gs ?_
 refine TL.p Pu.kt ?_
 refine TL.nil ?_
 exact TQ.sub (by repeat (first | exact trivial | refine ⟨rfl, ?_⟩ | refine ⟨trivial, ?_⟩ | refine ⟨(by show some (Value.bool _) = some (Value.bool _); first | (simp [hg1, cv1]; done) | (refine congrArg (fun z => some (Value.bool z)) (Bool.eq_iff_iff.2 ?_); simp [hg1, cv1]; omega)), ?_⟩)) ks9 hJ2
 try simp only [zgb9] at hg1
 refine TL.gd (by first | exact Pu.fb ty_fa51_1 | exact Pu.fe ty_fa51_1) ?_
 refine TL.gd (Pu.ld ty_sc3) ?_
 refine TL.gd Pu.mv ?_
 refine TL.gd (Pu.ln Tryz.underlying37) ?_
 refine TL.gd Pu.sb ?_
 refine TL.cr rfl (enters Tryz.func64 rfl rfl) (fun w hw => by
   exact rWithin_any _ _ _ _) ?_
 refine TL.gd Pu.no ?_
 refine TL.p Pu.kf ?_
 refine TL.p Pu.mv ?_
 refine TL.guard (t := 54) rfl (fun hg2 => ?_) (fun hg2 => ?_)
 try simp only [zgb9] at hg2
 refine TL.gs ?_
 refine TL.gs ?_
 refine TL.gs ?_
 refine TL.gs ?_
 refine TL.gs ?_
 refine TL.p Pu.kt ?_
 refine TL.nil ?_
 exact TQ.sub (by repeat (first | exact trivial | refine ⟨rfl, ?_⟩ | refine ⟨trivial, ?_⟩ | refine ⟨(by show some (Value.bool _) = some (Value.bool _); first | (simp [hg1, hg2, cv1]; done) | (refine congrArg (fun z => some (Value.bool z)) (Bool.eq_iff_iff.2 ?_); simp [hg1, hg2, cv1]; omega)), ?_⟩)) ks9 hJ2
 try simp only [zgb9] at hg2
 refine TL.gd (by first | exact Pu.fb ty_fa51_0 | exact Pu.fe ty_fa51_0) ?_
 refine TL.gd (Pu.ld ty_sc3) ?_
 refine TL.gd (by first | exact Pu.fb ty_fa51_1 | exact Pu.fe ty_fa51_1) ?_
 refine TL.gd (Pu.ld ty_sc3) ?_
 refine TL.gd Pu.eq ?_
 refine TL.p Pu.kf ?_
 refine TL.nil ?_
 exact TQ.sub (by repeat (first | exact trivial | refine ⟨rfl, ?_⟩ | refine ⟨trivial, ?_⟩ | refine ⟨(by show some (Value.bool _) = some (Value.bool _); first | (simp [hg1, hg2, cv1]; done) | (refine congrArg (fun z => some (Value.bool z)) (Bool.eq_iff_iff.2 ?_); simp [hg1, hg2, cv1]; omega)), ?_⟩)) ks9 hJ2
 try simp only [zcb9] at hc3
 have hcl : c = nc := by omega
 refine TW.exit ?_
 refine TQ.thenX ?_
 refine TQ.thenX ?_
 refine TQ.blkX ?_
 refine TQ.thenN (hY12 _ _ ?_)
 refine TW.seq fun Y20 hY20 => TW.region ?_
 refine TL.p Pu.as ?_
 refine TL.nil (TQ.thenN (hY20 _ _ ?_))
 refine TW.ret ?_
 refine TQ.ret Tryz.results23 rfl ((.tmp rfl .nil)) ?_
 exact fun w hw => ⟨ret_int (by
  unfold lksC
  rw [if_neg (fun h => h hsm), if_pos]
  rw [Bool.and_eq_true, ← cv_all]
  exact ⟨allB_iff.2 fun j hj => hall j (by omega), allB_iff.2 fun j hj => hcv j (by omega)⟩), Chg.ext hw.chg⟩
 refine TW.region ?_
 refine TL.p Pu.mv ?_
 refine TL.p (Pu.ln Tryz.underlying37) ?_
 refine TL.p Pu.gt ?_
 refine TL.p Pu.mv ?_
 refine TL.guard (t := 11) rfl (fun hg3 => ?_) (fun hg3 => ?_)
 try simp only [zgb9] at hg3
 refine TL.gs ?_
 refine TL.gs ?_
 refine TL.gs ?_
 refine TL.p Pu.kt ?_
 refine TL.nil ?_
 exact TQ.sub (by repeat (first | exact trivial | refine ⟨rfl, ?_⟩ | refine ⟨trivial, ?_⟩ | refine ⟨(by show some (Value.bool _) = some (Value.bool _); first | (simp [hg3]; done) | (refine congrArg (fun z => some (Value.bool z)) (Bool.eq_iff_iff.2 ?_); simp [hg3]; omega)), ?_⟩)) ks9 hJ1
 try simp only [zgb9] at hg3
 refine TL.gd Pu.mv ?_
 refine TL.gd (Pu.ln Tryz.underlying38) ?_
 refine TL.gd Pu.gt ?_
 refine TL.p Pu.kf ?_
 refine TL.nil ?_
 exact TQ.sub (by repeat (first | exact trivial | refine ⟨rfl, ?_⟩ | refine ⟨trivial, ?_⟩ | refine ⟨(by show some (Value.bool _) = some (Value.bool _); first | (simp [hg3]; done) | (refine congrArg (fun z => some (Value.bool z)) (Bool.eq_iff_iff.2 ?_); simp [hg3]; omega)), ?_⟩)) ks9 hJ1
theorem any_mem {X : List Int} {v : Int} (h : v ∈ X) : anyB X.length (fun k => decide (X.getD k 0 = v)) = true := by
 obtain ⟨k, hk, e⟩ := mem_int_getD.1 h
 exact anyB_iff.2 ⟨k, hk, decide_eq_true e⟩
theorem lw_has {w : World} {X : List Int} {P : Option Addr} {pc : Nat} (v : Int) (hn : X.length ≤ 1000000) (h : v ∈ X) (hR : RdR w 1 P X.length (iL X)) : Calls Tryz.prog 22 #[.slice P X.length pc, .int .i64 v] w (Ret w (.bool true)) := by
 have h9 := has2_any (cp := pc) (v := fun k => X.getD k 0) v hn hR
 rw [any_mem h] at h9
 exact h9
theorem lks_in {w : World} {nl nc : Nat} {L : Nat → Lk} {dm yg : Nat → Int} {B C : Option Addr} {la : Nat → Option Addr} {lc : Nat → Nat} (hl : lksC nl L nc dm yg = 0) (hRL : RdR w 4 B nl (fun k => lkL (L k) (la k) (lc k))) (hLs : ∀ k, k < nl → RdR w 1 (la k) (L k).ns (fun j => [.int .u32 ((L k).sg j : Int)])) (hLb : ∀ k, k < nl → ∀ j, j < (L k).ns → (L k).sg j ≤ 4294967295) (hRC : RdR w 2 C nc (fun k => [.int .i64 (dm k), .int .i64 (yg k)])) : LksIn w nl L B la lc ∧ CvsIn w nc dm yg C := by
 obtain ⟨h1, h2, _⟩ := lks_zero.1 hl
 exact ⟨⟨by omega, hRL, fun k hk => ⟨by have := lk_8 (h2 k hk); omega, hLs k hk, hLb k hk⟩⟩, ⟨by omega, hRC⟩⟩
end Go.Proofs.YtbenhafhklfhmaaGreat
namespace Go.Proofs.YtbenhafhklfhmaaGreat
set_option linter.all false
set_option linter.unusedVariables false
set_option linter.unusedSimpArgs false
open Go.ChangeShapes Go.WideShapes Go.RowKit Go.Deep
section
variable {H : Type} {enc : TypeId × Value → H} {P : Program} {w : World} {base : Nat} {spare : Nat → Bool} {held : Bool}
theorem open_slice_any {t e : TypeId} {fuel : Nat} {cs : List Value} {x : DataW H × List MemPlace} {sz : Nat} (ht : P.underlying t = some (.slice e)) (hC : P.cellsOf e = sz) (h0 : Nat.blt 0 sz = true) (h : DataW.trod enc P w base spare held fuel t cs = some x) :
    ∃ (A : Option Addr) (len cap : Nat) (G : Nat → List Value), cs = [.slice A len cap] ∧ RdR w sz A len G ∧ (∀ i, i < len → ∃ n y, DataW.trod enc P w base spare held n e (G i) = some y) ∧ (A = none → len = 0 ∧ cap = 0) ∧ len ≤ cap ∧ cap ≤ maxLen := by
  have h0 : 0 < sz := Nat.le_of_ble_eq_true h0
  rcases open_slice ht h with ⟨rfl, rfl⟩ | ⟨a, len, cap, m, n, D, Pl, rfl, hb, hl, hm, hmm, _, hi⟩
  · exact ⟨none, 0, 0, fun _ => [], rfl, ⟨Rd.nil, fun i hi => by omega⟩, fun i hi => by omega, fun _ => ⟨rfl, rfl⟩, Nat.le_refl _, Nat.zero_le _⟩
  · have hlm : len ≤ m := by rw [hmm]; split <;> omega
    have key : ∀ i, i < len → ∃ cs' : List Value, cs'.length = sz ∧ (∀ j, j < sz → w.cell? (a.add (i * sz + j)) = cs'[j]?) ∧ ∃ n y, DataW.trod enc P w base spare held n e cs' = some y := fun i hil => by
      obtain ⟨cs', hc, hx⟩ := hi i (by omega)
      obtain ⟨_, hcl, hat⟩ := World.cells?_some hc
      refine ⟨cs', by rw [hcl, hC], fun j hj => ?_, n, _, hx⟩
      have := hat j (by rw [hC]; exact hj)
      rw [hC] at this
      rw [← this, ← add_add]
    refine ⟨some a, len, cap, fun i => if hi : i < len then (key i hi).choose else [], rfl, ⟨fun hn => ?_, fun i hi => ?_⟩, fun i hi => ?_, fun h => (by cases h), hl, hm⟩
    · have h1 := (key 0 hn).choose_spec.2.1 0 h0
      have hsome : ((key 0 hn).choose)[0]? = some ((key 0 hn).choose[0]'(by rw [(key 0 hn).choose_spec.1]; exact h0)) := List.getElem?_eq_getElem _
      rw [hsome] at h1
      have hadd : a.add (0 * sz + 0) = a := by simp [Addr.add]
      rw [hadd] at h1
      have hsp : a.spot = none := by
        unfold World.cell? at h1
        split at h1
        · cases hs : a.spot with
          | none => rfl
          | some s => simp [hs] at h1
        · cases h1
      have hlt : a.block < w.heap.size := World.block_lt_of_cell? w a h1
      obtain ⟨b, o, s⟩ := a
      simp only at hsp
      subst hsp
      refine ⟨b, o, rfl, hlt, fun i j hi hj => ?_⟩
      have h2 := (key i hi).choose_spec.2.1 j hj
      rw [add_plain] at h2
      rw [show o + i * sz + j = o + (i * sz + j) by omega, h2]
      simp only [rowF, hi, dite_true]
      have hl2 : j < (key i hi).choose.length := by rw [(key i hi).choose_spec.1]; exact hj
      rw [List.getD_eq_getElem?_getD, List.getElem?_eq_getElem hl2]
      rfl
    · simp only [hi, dite_true]
      exact (key i hi).choose_spec.1
    · simp only [hi, dite_true]
      exact (key i hi).choose_spec.2.2
theorem trod_fields {t : TypeId} {fs : Array Field} {fuel : Nat} {cs : List Value} {x : DataW H × List MemPlace} (ht : P.underlying t = some (.struct fs)) (h : DataW.trod enc P w base spare held fuel t cs = some x) :
  cs.length = P.cellsOf t ∧ ∀ (i : Nat) (f : Field), fs[i]? = some f → ∃ n y, DataW.trod enc P w base spare held n f.type ((cs.drop f.offset).take (P.cellsOf f.type)) = some y := by
 obtain ⟨xs, n, _, _, hlen, hxl, hf⟩ := DataW.trod_struct ht h
 refine ⟨hlen, fun i f hi => ?_⟩
 have h1 := hf i f hi
 have hi' : i < fs.size := (Array.getElem?_eq_some_iff.1 hi).1
 rw [List.getElem?_eq_getElem (by omega)] at h1
 exact ⟨n, _, h1⟩
end
end Go.Proofs.YtbenhafhklfhmaaGreat
namespace Go.Proofs.YtbenhafhklfhmaaGreat
set_option linter.all false
set_option linter.unusedVariables false
set_option linter.unusedSimpArgs false
open Go.ChangeShapes Go.WideShapes Go.ChangeAt Go.RowKit Go.Deep
section
variable {H : Type} {enc : TypeId × Value → H} {w : World} {base : Nat} {spare : Nat → Bool} {held : Bool}
structure AnP where
 id : Int
 mo : Int
 lo : Int
 hi : Int
 A : Option Addr
 n : Nat
 c : Nat
 g : Nat → Nat → Int
def anpL (x : AnP) : List Value := [.int .i64 x.id, .int .i64 x.mo, .int .i64 x.lo, .int .i64 x.hi, .slice x.A x.n x.c]
set_option maxRecDepth 100000 in
theorem animal_of_trod {fuel : Nat} {G : List Value} {y : DataW H × List MemPlace} (hl : G.length = 5) (hy : DataW.trod enc Tryz.prog w base spare held fuel 46 G = some y) :
    ∃ x : AnP, G = anpL x ∧ RdR w 2 x.A x.n (fun k => spL (x.g k 0) (x.g k 1)) := by
  obtain ⟨_, hf⟩ := trod_fields Tryz.underlying46 hy
  obtain ⟨n0, y0, h0⟩ := hf 0 _ rfl
  obtain ⟨n1, y1, h1⟩ := hf 1 _ rfl
  obtain ⟨n2, y2, h2⟩ := hf 2 _ rfl
  obtain ⟨n3, y3, h3⟩ := hf 3 _ rfl
  obtain ⟨k0, e0, _, _⟩ := DataW.trod_int Tryz.underlying3 h0
  obtain ⟨k1, e1, _, _⟩ := DataW.trod_int Tryz.underlying3 h1
  obtain ⟨s2, e2, l2⟩ := kindsF_spec 2 36 [.i64, .i64] (by kernel_rfl) _ _ _ h2
  obtain ⟨A, n, c, gg, e3, hg, hR, _⟩ := open_flat_slice (ks := [.i64, .i64]) 3 Tryz.underlying44 (by kernel_rfl) (by kernel_rfl) rfl h3
  have hc1 : Tryz.prog.cellsOf 3 = 1 := by kernel_rfl
  have hc2 : Tryz.prog.cellsOf 36 = 2 := by kernel_rfl
  have hc3 : Tryz.prog.cellsOf 44 = 1 := by kernel_rfl
  match s2, l2 with
  | [a0, a1], _ =>
    match G, hl with
    | [x0, x1, x2, x3, x4], _ =>
      have e0 : [x0] = [.int .i64 k0] := by simpa [hc1] using e0
      have e1 : [x1] = [.int .i64 k1] := by simpa [hc1] using e1
      have e2 : [x2, x3] = [.int .i64 a0, .int .i64 a1] := by simpa [hc2, ints] using e2
      have e3 : [x4] = [.slice A n c] := by simpa [hc3] using e3
      cases e0; cases e1; cases e2; cases e3
      exact ⟨⟨k0, k1, a0, a1, A, n, c, fun j => gi (gg j)⟩, rfl, hR.rowK hg⟩
theorem rows_choose {α : Type} {n sz : Nat} {A : Option Addr} {G : Nat → List Value} {F : α → List Value} {q : Nat → α → Prop} (d : α) (hR : RdR w sz A n G) (h : ∀ i, i < n → ∃ x, G i = F x ∧ q i x) : ∃ r : Nat → α, RdR w sz A n (fun i => F (r i)) ∧ ∀ i, i < n → q i (r i) := by
 have hch : ∀ i, ∃ x, i < n → G i = F x ∧ q i x := fun i => by
  by_cases hi : i < n
  · obtain ⟨x, hx⟩ := h i hi
    exact ⟨x, fun _ => hx⟩
  · exact ⟨d, fun h => absurd h hi⟩
 obtain ⟨r, hr⟩ := Classical.axiomOfChoice hch
 exact ⟨r, ⟨hR.rd.congr fun i j hi hj => by simp only [rowF, (hr i hi).1], fun i hi => by rw [← (hr i hi).1]; exact hR.len i hi⟩, fun i hi => (hr i hi).2⟩
set_option maxRecDepth 100000 in
theorem open_herd {r : Reach} {b0 : Nat} {v : Value} {dd : DataW H} {p : List MemPlace} (hv : Value.okWide Tryz.prog w r b0 22 v) (h : DataW.Trod enc Tryz.prog w base spare held 22 v dd p) :
  ∃ (A : Option Addr) (cp : Nat) (K : Hd) (a : Nat → Option Addr) (c : Nat → Nat), v = .slice A K.n cp ∧ RdR w 5 A K.n (fun i => anL K a c i) ∧ ∀ i, i < K.n → RdR w 2 (a i) (K.ml i) (fun k => spL (K.sp i k) (K.sg i k)) := by
 obtain ⟨A0, n0, c0, rfl⟩ := okWide_slice Tryz.underlying22 hv
 obtain ⟨fuel, h⟩ := h
 obtain ⟨A, m, cp, G, e, hR, hel, _, hc, _⟩ := open_slice_any (sz := 5) Tryz.underlying22 (by kernel_rfl) rfl h
 simp only [Value.cells, List.cons.injEq, Value.slice.injEq, and_true] at e
 obtain ⟨rfl, rfl, rfl⟩ := e
 obtain ⟨x, hx, hq⟩ := rows_choose (F := anpL) (q := fun _ x => RdR w 2 x.A x.n (fun k => spL (x.g k 0) (x.g k 1))) ⟨0, 0, 0, 0, none, 0, 0, fun _ _ => 0⟩ hR (fun i hi => by
  obtain ⟨n, y, hy⟩ := hel i hi
  exact animal_of_trod (hR.len i hi) hy)
 exact ⟨A0, c0, ⟨n0, fun i => (x i).id, fun i => (x i).mo, fun i => (x i).lo, fun i => (x i).hi, fun i => (x i).n, fun i k => (x i).g k 0, fun i k => (x i).g k 1⟩, fun i => (x i).A, fun i => (x i).c, rfl, hx, hq⟩
end
end Go.Proofs.YtbenhafhklfhmaaGreat
namespace Go.Proofs.YtbenhafhklfhmaaGreat
set_option linter.all false
set_option linter.unusedVariables false
set_option linter.unusedSimpArgs false
open Go.ChangeShapes Go.WideShapes Go.ChangeAt Go.RowKit Go.Deep
section
variable {H : Type} {enc : TypeId × Value → H} {w : World} {base : Nat} {spare : Nat → Bool} {held : Bool}
theorem trod_int9 {P : Program} {n : Nat} {t : TypeId} {k : IntKind} {cs : List Value} {y : DataW H × List MemPlace} (ht : P.underlying t = some (.int k)) (h : DataW.trod enc P w base spare held n t cs = some y) : ∃ x : Int, cs = [.int k x] ∧ k.min ≤ x ∧ x ≤ k.max := by
 cases n with
 | zero => cases h
 | succ n =>
  unfold DataW.trod at h
  rw [ht] at h
  split at h <;> first | (rename_i e _; cases e; done) | skip
  all_goals first | (rename_i k1 k2 x e; cases e; split at h; (rename_i hx; obtain ⟨rfl, hw⟩ := hx; simp only [Lit.wf, Bool.and_eq_true, decide_eq_true_eq] at hw; exact ⟨x, rfl, hw.1, hw.2⟩); cases h) | (cases h; done) | (rename_i e; cases e; done) | (rename_i e _ _; cases e; done) | (rename_i e _ _ _; cases e; done)
set_option maxRecDepth 100000 in
theorem u32s_of_trod {fuel : Nat} {cs : List Value} {y : DataW H × List MemPlace} (h : DataW.trod enc Tryz.prog w base spare held fuel 24 cs = some y) :
  ∃ (A : Option Addr) (n c : Nat) (u : Nat → Nat), cs = [.slice A n c] ∧ RdR w 1 A n (fun k => [.int .u32 (u k : Int)]) ∧ ∀ k, k < n → u k ≤ 4294967295 := by
 obtain ⟨A, n, c, G, rfl, hR, hel, _⟩ := open_slice_any (sz := 1) Tryz.underlying24 (by kernel_rfl) rfl h
 obtain ⟨u, hu, hb⟩ := rows_choose (F := fun x : Nat => [Value.int .u32 (x : Int)]) (q := fun _ x => x ≤ 4294967295) 0 hR (fun i hi => by
  obtain ⟨m, z, hz⟩ := hel i hi
  obtain ⟨x, e, h1, h2⟩ := trod_int9 Tryz.underlying25 hz
  have h1 : 0 ≤ x := h1
  have h2 : x ≤ 4294967295 := h2
  obtain ⟨y, rfl⟩ := Int.eq_ofNat_of_zero_le h1
  exact ⟨y, e, by omega⟩)
 exact ⟨A, n, c, u, rfl, hu, hb⟩
structure LkP where
 l : Lk
 A : Option Addr
 c : Nat
def lkpL (x : LkP) : List Value := lkL x.l x.A x.c
def lkpQ (w : World) (x : LkP) : Prop := RdR w 1 x.A x.l.ns (fun k => [.int .u32 (x.l.sg k : Int)]) ∧ ∀ k, k < x.l.ns → x.l.sg k ≤ 4294967295
set_option maxRecDepth 100000 in
theorem look_of_trod {fuel : Nat} {G : List Value} {y : DataW H × List MemPlace} (hl : G.length = 4) (hy : DataW.trod enc Tryz.prog w base spare held fuel 42 G = some y) : ∃ x : LkP, G = lkpL x ∧ lkpQ w x := by
  obtain ⟨_, hf⟩ := trod_fields Tryz.underlying42 hy
  obtain ⟨n0, y0, h0⟩ := hf 0 _ rfl
  obtain ⟨n1, y1, h1⟩ := hf 1 _ rfl
  obtain ⟨n2, y2, h2⟩ := hf 2 _ rfl
  obtain ⟨A, n, c, u, e0, hR, hb⟩ := u32s_of_trod h0
  obtain ⟨k1, e1, _, _⟩ := DataW.trod_int Tryz.underlying3 h1
  obtain ⟨s2, e2, l2⟩ := kindsF_spec 2 36 [.i64, .i64] (by kernel_rfl) _ _ _ h2
  have hc0 : Tryz.prog.cellsOf 24 = 1 := by kernel_rfl
  have hc1 : Tryz.prog.cellsOf 3 = 1 := by kernel_rfl
  have hc2 : Tryz.prog.cellsOf 36 = 2 := by kernel_rfl
  match s2, l2 with
  | [a0, a1], _ =>
    match G, hl with
    | [x0, x1, x2, x3], _ =>
      have e0 : [x0] = [.slice A n c] := by simpa [hc0] using e0
      have e1 : [x1] = [.int .i64 k1] := by simpa [hc0, hc1] using e1
      have e2 : [x2, x3] = [.int .i64 a0, .int .i64 a1] := by simpa [hc0, hc1, hc2, ints] using e2
      cases e0; cases e1; cases e2
      exact ⟨⟨⟨n, u, k1, a0, a1⟩, A, c⟩, rfl, hR, hb⟩
set_option maxRecDepth 100000 in
theorem open_calves {r : Reach} {b0 : Nat} {v : Value} {dd : DataW H} {p : List MemPlace} (hv : Value.okWide Tryz.prog w r b0 38 v) (h : DataW.Trod enc Tryz.prog w base spare held 38 v dd p) :
  ∃ (A : Option Addr) (n cp : Nat) (dm yg : Nat → Int), v = .slice A n cp ∧ RdR w 2 A n (fun k => [.int .i64 (dm k), .int .i64 (yg k)]) := by
 obtain ⟨A, n, cp, g, rfl, hg, hR, _, _, _⟩ := open_rows 2 [.i64, .i64] Tryz.underlying38 (by kernel_rfl) (by kernel_rfl) rfl hv h
 exact ⟨A, n, cp, fun k => gi (g k) 0, fun k => gi (g k) 1, rfl, hR.rowK hg⟩
end
end Go.Proofs.YtbenhafhklfhmaaGreat
namespace Go.Proofs.YtbenhafhklfhmaaGreat
set_option linter.all false
set_option linter.unusedVariables false
set_option linter.unusedSimpArgs false
open Go.ChangeShapes Go.WideShapes Go.ChangeAt Go.RowKit Go.Deep
section
variable {H : Type} {enc : TypeId × Value → H} {P : Program} {w : World} {base : Nat} {spare : Nat → Bool} {held : Bool}
theorem open_num {r : Reach} {b0 : Nat} {v : Value} {dd : DataW H} {p : List MemPlace} {t : TypeId} {k : IntKind} (ht : P.underlying t = some (.int k)) (hv : Value.okWide P w r b0 t v) (h : DataW.Trod enc P w base spare held t v dd p) : ∃ x : Int, v = .int k x ∧ k.min ≤ x ∧ x ≤ k.max := by
 obtain ⟨x, rfl⟩ := okWide_int ht hv
 obtain ⟨fuel, h⟩ := h
 obtain ⟨y, e, h1, h2⟩ := trod_int9 ht h
 have e : x = y := by simpa [Value.cells] using e
 subst e
 exact ⟨x, rfl, h1, h2⟩
theorem open_u8b {r : Reach} {b0 : Nat} {v : Value} {dd : DataW H} {p : List MemPlace} {t : TypeId} (ht : P.underlying t = some (.int .u8)) (hv : Value.okWide P w r b0 t v) (h : DataW.Trod enc P w base spare held t v dd p) : ∃ x : Nat, v = .int .u8 (x : Int) ∧ x ≤ 255 := by
 obtain ⟨x, rfl, h1, h2⟩ := open_num ht hv h
 have h1 : 0 ≤ x := h1
 have h2 : x ≤ 255 := h2
 obtain ⟨y, rfl⟩ := Int.eq_ofNat_of_zero_le h1
 exact ⟨y, rfl, by omega⟩
theorem open_u32b {r : Reach} {b0 : Nat} {v : Value} {dd : DataW H} {p : List MemPlace} {t : TypeId} (ht : P.underlying t = some (.int .u32)) (hv : Value.okWide P w r b0 t v) (h : DataW.Trod enc P w base spare held t v dd p) : ∃ x : Int, v = .int .u32 x ∧ 0 ≤ x ∧ x ≤ 4294967295 := open_num ht hv h
set_option maxRecDepth 100000 in
theorem open_u32sB {r : Reach} {b0 : Nat} {v : Value} {dd : DataW H} {p : List MemPlace} (hv : Value.okWide Tryz.prog w r b0 24 v) (h : DataW.Trod enc Tryz.prog w base spare held 24 v dd p) :
  ∃ (A : Option Addr) (n cp : Nat) (u : Nat → Int), v = .slice A n cp ∧ RdR w 1 A n (fun k => [.int .u32 (u k)]) ∧ U32b n u := by
 obtain ⟨A0, n0, c0, rfl⟩ := okWide_slice Tryz.underlying24 hv
 obtain ⟨fuel, h⟩ := h
 obtain ⟨A, n, c, u, e, hR, hb⟩ := u32s_of_trod h
 simp only [Value.cells, List.cons.injEq, Value.slice.injEq, and_true] at e
 obtain ⟨rfl, rfl, rfl⟩ := e
 exact ⟨A0, n0, c0, fun k => (u k : Int), rfl, hR, fun k hk => by
  have := hb k hk
  show 0 ≤ (u k : Int) ∧ (u k : Int) ≤ 4294967295
  omega⟩
set_option maxRecDepth 100000 in
theorem open_looksB {r : Reach} {b0 : Nat} {v : Value} {dd : DataW H} {p : List MemPlace} (hv : Value.okWide Tryz.prog w r b0 37 v) (h : DataW.Trod enc Tryz.prog w base spare held 37 v dd p) :
  ∃ (A : Option Addr) (n cp : Nat) (x : Nat → LkP), v = .slice A n cp ∧ RdR w 4 A n (fun i => lkpL (x i)) ∧ (∀ i, i < n → lkpQ w (x i)) ∧ n ≤ cp := by
 obtain ⟨A0, n0, c0, rfl⟩ := okWide_slice Tryz.underlying37 hv
 obtain ⟨fuel, h⟩ := h
 obtain ⟨A, m, cp, G, e, hR, hel, _, hc, _⟩ := open_slice_any (sz := 4) Tryz.underlying37 (by kernel_rfl) rfl h
 simp only [Value.cells, List.cons.injEq, Value.slice.injEq, and_true] at e
 obtain ⟨rfl, rfl, rfl⟩ := e
 obtain ⟨x, hx, hq⟩ := rows_choose (F := lkpL) (q := fun _ x => lkpQ w x) ⟨⟨0, fun _ => 0, 0, 0, 0⟩, none, 0⟩ hR (fun i hi => by
  obtain ⟨n, y, hy⟩ := hel i hi
  exact look_of_trod (hR.len i hi) hy)
 exact ⟨A0, n0, c0, x, rfl, hx, hq, hc⟩
end
end Go.Proofs.YtbenhafhklfhmaaGreat
