/-
  The statement BrandKinSaid: for every input the law BrandKin returns true, and its arguments read afterwards as before. No condition.
-/
import Derived.Test.YtbenhafhklfhmaaGreatKin09
import Derived.Test.YtbenhafhklfhmaaGreatKin06
import Derived.ChangeKeysEq
import Derived.Test.YtbenhafhklfhmaaGreatKin10
import Derived.IntWalk
import Derived.Test.YtbenhafhklfhmaaGreatKin08
import Derived.Test.YtbenhafhklfhmaaGreatKin07
import Derived.Test.YtbenhafhklfhmaaGreatKin04
import Derived.Test.YtbenhafhklfhmaaGreatRows
import Derived.OpenShut
namespace Go.Proofs.YtbenhafhklfhmaaGreat
set_option linter.all false
set_option linter.unusedVariables false
set_option linter.unusedSimpArgs false
open Go.RowKit
def onK (g : Nat → Int) (s k : Nat) : Nat → Int := fun j => if j < k ∧ s / 2 ^ j % 2 = 0 then -1 else g j
theorem onK_0 {g : Nat → Int} {s : Nat} : onK g s 0 = g := by funext j; unfold onK; rw [if_neg (by omega)]
theorem on_eq {H : Hd} {at_ i s : Nat} (hs : ∀ k, k < 8 → 0 ≤ sgH H i k ∧ 0 ≤ sgH H at_ k) : (allB 8 fun k => decide (onK (sgH H i) s 8 k = onK (sgH H at_) s 8 k)) = smB H at_ i s := by
  rw [Bool.eq_iff_iff]
  unfold smB
  rw [allB_iff, allB_iff]
  constructor
  · intro h k hk
    have := of_decide_eq_true (h k hk)
    unfold onK at this
    by_cases e : s / 2 ^ k % 2 = 1
    · rw [if_neg (by omega), if_neg (by omega)] at this
      rw [decide_eq_true this, Bool.or_true]
    · rw [decide_eq_false e]; rfl
  · intro h k hk
    have h1 := h k hk
    refine decide_eq_true ?_
    unfold onK
    by_cases e : s / 2 ^ k % 2 = 1
    · rw [if_neg (by omega), if_neg (by omega)]
      rw [decide_eq_true e] at h1
      exact of_decide_eq_true h1
    · have : s / 2 ^ k % 2 = 0 := by omega
      rw [if_pos ⟨hk, this⟩, if_pos ⟨hk, this⟩]
set_option maxRecDepth 100000 in
set_option maxHeartbeats 1000000 in
theorem on_any {g : Nat → Int} {s : Nat} {w : World} (h8 : s ≤ 255) : Calls Tryz.prog 103 #[.agg (octL g).toArray, .int .i64 (s : Int)] w (Ret w (.agg (octL (onK g s 8)).toArray)) := by
 refine K_enter (S := []) (K := []) Tryz.func103 rfl Tryz.ntmps103 rfl (Sat.start _) ?_
 refine TW.seq fun Y1 hY1 => TW.region ?_
 refine TL.m Mk.bx ?_
 intro b1
 refine TL.m (Mk.al ty_zr111) ?_
 intro b2
 refine TL.nil (TQ.thenN (hY1 _ _ ?_))
 refine TW.seq fun Y2 hY2 => ?_
 refine TW.seq fun Y3 hY3 => TW.region ?_
 refine TL.p Pu.mv ?_
 refine TL.nil (TQ.thenN (hY3 _ _ ?_))
 refine TW.block ?_
 refine TW.loop1 (fun (k : Nat) => [(6, .int .i64 (k : Int)), (1, .int .i64 (s : Int)), (2, .pointer (some ⟨b1, 0, none⟩)), (4, .pointer (some ⟨b2, 0, none⟩))]) (fun k => [.own (some ⟨b1, 0, none⟩) 8 8 111 1 (fun j => [.int .i64 (onK g s k j)]), .blk b2 111 (octL fun _ => 0)]) (fun k => k ≤ 8) (fun k => 8 - k) 0 fs9 ?_ ?_ ?_
 rw [onK_0]
 exact KSub.ofBlk pk9 rfl (fun i hi => rfl) rfl rfl (KSub.cons pk9 KSub.nil)
 exact (by omega)
 rintro k hk Z0 hZ0
 refine TW.seq fun Y4 hY4 => TW.region ?_
 refine TL.p Pu.lt ?_
 refine TL.nil (TQ.thenN (hY4 _ _ ?_))
 refine TW.seq fun Y5 hY5 => ?_
 refine TW.cond rfl (fun hc0 => ?_) (fun hc0 => ?_)
 try simp only [zcb9] at hc0
 have hkn : k < 8 := by omega
 have hdv : s / 2 ^ k ≤ 255 := Nat.le_trans (Nat.div_le_self _ _) h8
 refine TW.skip ?_
 refine TQ.thenN (hY5 _ _ ?_)
 refine TW.seq fun Y6 hY6 => ?_
 refine TW.block ?_
 refine TW.seq fun Y7 hY7 => TW.region ?_
 refine TL.p Pu.mv ?_
 refine TL.p Pu.as ?_
 refine TL.nil (TQ.thenN (hY7 _ _ ?_))
 refine TW.seq fun Y8 hY8 => TW.region ?_
 refine TL.p Pu.mv ?_
 refine TL.p Pu.mv ?_
 refine TL.p (Pu.srN (b := s) (i := k)) ?_
 refine TL.p (Pu.an1 (m := s / 2 ^ k)) ?_
 refine TL.p Pu.eq ?_
 refine TL.nil (TQ.thenN (hY8 _ _ ?_))
 refine TW.cond rfl (fun hc1 => ?_) (fun hc1 => ?_)
 try simp only [zcb9] at hc1
 have hb : s / 2 ^ k % 2 = 0 := by omega
 have hst : ∀ j, onK g s (k + 1) j = if j = k then -1 else onK g s k j := fun j => by
  unfold onK
  by_cases e : j = k
  subst e; rw [if_pos ⟨by omega, hb⟩, if_pos rfl]
  rw [if_neg e]
  by_cases e2 : j < k ∧ s / 2 ^ j % 2 = 0
  rw [if_pos e2, if_pos ⟨by omega, e2.2⟩]
  rw [if_neg e2, if_neg (fun h => e2 ⟨by omega, h.2⟩)]
 refine TW.region ?_
 refine TL.p Pu.mv ?_
 refine TL.p (Pu.ea (q := k) oct8 (hk := Int.toNat_natCast _)) ?_
 first | refine TL.st ty_sz3 ?_ | refine TL.se ty_sz3 ?_
 refine TL.nil ?_
 refine TQ.blkN ?_
 refine TQ.thenN (hY6 _ _ ?_)
 refine TW.region ?_
 refine TL.p Pu.ad ?_
 refine TL.p Pu.mv ?_
 refine TL.nil ?_
 refine TQ.thenN (hZ0 (k + 1) _ _ ?_ ?_ fs9 ?_)
 exact (by omega)
 exact zom9
 exact KSub.own pk9 (fun j _ => by first | (simp only [updR]; rw [hst j]; by_cases h9 : j = k <;> simp [h9]; done) | rw [hst j]) (KSub.cons pk9 KSub.nil)
 try simp only [zcb9] at hc1
 have hb : ¬ s / 2 ^ k % 2 = 0 := by omega
 have hst : ∀ j, onK g s (k + 1) j = onK g s k j := fun j => by
  unfold onK
  by_cases e2 : j < k ∧ s / 2 ^ j % 2 = 0
  rw [if_pos e2, if_pos ⟨by omega, e2.2⟩]
  rw [if_neg e2, if_neg (fun h => by
   by_cases e : j = k
   subst e; exact hb h.2
   exact e2 ⟨by omega, h.2⟩)]
 refine TW.skip ?_
 refine TQ.blkN ?_
 refine TQ.thenN (hY6 _ _ ?_)
 refine TW.region ?_
 refine TL.p Pu.ad ?_
 refine TL.p Pu.mv ?_
 refine TL.nil ?_
 refine TQ.thenN (hZ0 (k + 1) _ _ ?_ ?_ fs9 ?_)
 exact (by omega)
 exact zom9
 exact KSub.own pk9 (fun j _ => by first | (simp only [updR]; rw [hst j]; by_cases h9 : j = k <;> simp [h9]; done) | rw [hst j]) (KSub.cons pk9 KSub.nil)
 try simp only [zcb9] at hc0
 obtain rfl : k = 8 := by omega
 refine TW.exit ?_
 refine TQ.thenX ?_
 refine TQ.thenX ?_
 refine TQ.blkX ?_
 refine TQ.thenN (hY2 _ _ ?_)
 refine TW.seq fun Y9 hY9 => TW.region ?_
 refine TL.bo (b := b1) (cs := octL (onK g s 8)) pk9 rfl ?_
 refine TL.p (Pu.lds ty_ag111) ?_
 first | refine TL.st ty_sz111 ?_ | refine TL.se ty_sz111 ?_
 refine TL.nil (TQ.thenN (hY9 _ _ ?_))
 refine TW.ret ?_
 refine TQ.ret Tryz.results103 rfl ((RV.cs ty_ag111 .nil)) ?_
 exact fun w hw => Ret.of hw
theorem eqInt9 (d : Nat) (i j : Int) (w : World) : (Op.equalIn (d + 1) 3 (.int .i64 i) (.int .i64 j)).run Tryz.prog w = .ok (decide (i = j)) w := by
 simp only [Op.equalIn, Sem.run_bind, run_underlying Tryz.underlying3, Result.andThen_ok, if_true, Sem.run_pure]
 simp
 rw [Bool.eq_iff_iff, beq_iff_eq, decide_eq_true_eq]
theorem oct_at {f : Nat → Int} {k : Nat} (hk : k < 8) : (octL f).toArray[k * 1]? = some (.int .i64 (f k)) := by
 rcases (by omega : k = 0 ∨ k = 1 ∨ k = 2 ∨ k = 3 ∨ k = 4 ∨ k = 5 ∨ k = 6 ∨ k = 7) with rfl | rfl | rfl | rfl | rfl | rfl | rfl | rfl <;> rfl
theorem eqItems8 (d : Nat) (f g : Nat → Int) (w : World) : ∀ ks : List Nat, (∀ k ∈ ks, k < 8) → (Op.eqItems (d + 1) 3 1 (octL f).toArray (octL g).toArray ks).run Tryz.prog w = .ok (ks.all fun k => decide (f k = g k)) w
 | [], _ => by simp [Op.eqItems]
 | k :: ks, h => by
  have hp : Tryz.prog.plainKey 3 = true := by kernel_rfl
  have ih := eqItems8 d f g w ks fun q hq => h q (by simp [hq])
  have hk := h k (by simp)
  simp only [Op.eqItems, Sem.run_bind, run_part_plain w hp (oct_at (f := f) hk), run_part_plain w hp (oct_at (f := g) hk), Result.andThen_ok, eqInt9, List.all_cons]
  by_cases e : f k = g k
  · simp [e, ih]
  · simp [e]
theorem eqOct (d : Nat) (f g : Nat → Int) (w : World) : (Op.equalIn (d + 2) 111 (.agg (octL f).toArray) (.agg (octL g).toArray)).run Tryz.prog w = .ok (allB 8 fun k => decide (f k = g k)) w := by
 obtain ⟨k, z, hk, _⟩ := (ty_et28 : ElemT Tryz.prog 28 3 1 8).hi
 refine (run_equalIn_array w (d + 1) _ _ Tryz.underlying111 hk).trans ?_
 have hc : Tryz.prog.cellsOf 3 = 1 := by kernel_rfl
 rw [hc, eqItems8 d f g w (List.range 8) (fun k hk => List.mem_range.1 hk)]
 rfl
theorem eqSigns (x y : Operand) (f g : Nat → Int) (w : World) : (do eqGuard .eql 111 x y (.agg (octL f).toArray) (.agg (octL g).toArray); binOp .eql 111 (.agg (octL f).toArray) (.agg (octL g).toArray) : Sem Value).run Tryz.prog w = .ok (.bool (allB 8 fun k => decide (f k = g k))) w := by
 have h := eqOct 9998 f g w
 go_simp
set_option maxRecDepth 100000 in
set_option maxHeartbeats 2000000 in
theorem told_any {H : Hd} {A : Option Addr} {cp at_ s : Nat} {x : OpX} {w : World} (hk : HOk H) (hW : HwIn w H A cp x) (ha : at_ < H.n) (h8 : s ≤ 255) : Calls Tryz.prog 70 #[.pointer (some ⟨x.1.1, 0, none⟩), .int .i64 (at_ : Int), .int .i64 (s : Int)] w (Ret w (.bool (toldB H at_ s))) := by
 have hoB := hW.oB
 have hoK := hW.oK
 have h16 := hk.n16
 refine K_enter (S := []) (K := []) Tryz.func70 rfl Tryz.ntmps70 rfl (Sat.start _) ?_
 refine TW.seq fun Y1 hY1 => TW.region ?_
 refine TL.p Pu.as ?_
 refine TL.nil (TQ.thenN (hY1 _ _ ?_))
 refine TW.seq fun Y2 hY2 => ?_
 refine TW.seq fun Y3 hY3 => TW.region ?_
 refine TL.p Pu.mv ?_
 refine TL.p (by first | exact Pu.nn | exact Pu.nc) ?_
 refine TL.p (by first | exact Pu.fb ty_fa106_3 | exact Pu.fe ty_fa106_3) ?_
 refine TL.p (Pu.ldo ty_sc104) ?_
 refine TL.p (Pu.ln Tryz.underlying104) ?_
 refine TL.p Pu.mv ?_
 refine TL.nil (TQ.thenN (hY3 _ _ ?_))
 refine TW.block ?_
 refine TW.loop1 (fun (k : Nat) => [(14, .int .i64 (k : Int)), (13, .int .i64 (H.n : Int)), (12, .slice x.2.2.1 H.n x.2.2.2), (0, .pointer (some ⟨x.1.1, 0, none⟩)), (1, .int .i64 (at_ : Int)), (2, .int .i64 (s : Int))]) (fun k => []) (fun k => k ≤ H.n ∧ ∀ j, j < k → j = at_ ∨ smB H at_ j s = false) (fun k => H.n - k) 0 fs9 ?_ ?_ ?_
 exact ks9
 exact ⟨Nat.zero_le _, fun j hj => by omega⟩
 rintro k ⟨hkn, hall⟩ Z0 hZ0
 refine TW.seq fun Y4 hY4 => TW.region ?_
 refine TL.p Pu.lt ?_
 refine TL.nil (TQ.thenN (hY4 _ _ ?_))
 refine TW.seq fun Y5 hY5 => ?_
 refine TW.cond rfl (fun hc0 => ?_) (fun hc0 => ?_)
 try simp only [zcb9] at hc0
 have hki : k < H.n := by omega
 have hsg : ∀ q, q < 8 → 0 ≤ sgH H k q ∧ 0 ≤ sgH H at_ q := fun q _ => ⟨(sg_bd hk hki).1, (sg_bd hk ha).1⟩
 refine TW.skip ?_
 refine TQ.thenN (hY5 _ _ ?_)
 refine TW.seq fun Y6 hY6 => ?_
 refine TW.block ?_
 refine TW.seq fun Y7 hY7 => TW.region ?_
 refine TL.p Pu.mv ?_
 refine TL.p (Pu.el ty_et104) ?_
 refine TL.p (Pu.lds ty_ag111) ?_
 refine TL.m (Mk.al ty_zr111) ?_
 intro b1
 refine TL.p Pu.as ?_
 first | refine TL.st ty_sz111 ?_ | refine TL.se ty_sz111 ?_
 refine TL.nil (TQ.thenN (hY7 _ _ ?_))
 refine TW.seq fun Y8 hY8 => ?_
 refine TW.join [(36, .bool (!decide (k = at_) && smB H at_ k s))] ?_ (fun hJ1 => ?_)
 refine TQ.thenN (hY8 _ _ ?_)
 refine TW.cond rfl (fun hc1 => ?_) (fun hc1 => ?_)
 try simp only [zcb9] at hc1
 have hne : ¬ k = at_ := by simpa using hc1.1
 have hsm : smB H at_ k s = true := hc1.2
 refine TW.seq fun Y9 hY9 => TW.region ?_
 refine TL.p Pu.as ?_
 refine TL.nil (TQ.thenN (hY9 _ _ ?_))
 refine TW.ret ?_
 refine TQ.blkR ?_
 refine TQ.thenR ?_
 refine TQ.thenR ?_
 refine TQ.blkR ?_
 refine TQ.thenR ?_
 refine TQ.ret Tryz.results70 rfl ((.tmp rfl .nil)) ?_
 exact fun w hw => ⟨ret_bool (by
  cases hm : toldB H at_ s with
  | false => rfl
  | true =>
   have := allB_iff.1 hm k hki
   rw [hsm, decide_eq_false hne] at this; cases this), Chg.ext hw.chg⟩
 try simp only [zcb9] at hc1
 have hok : k = at_ ∨ smB H at_ k s = false := by simpa using hc1
 refine TW.skip ?_
 refine TQ.blkN ?_
 refine TQ.thenN (hY6 _ _ ?_)
 refine TW.region ?_
 refine TL.p Pu.ad ?_
 refine TL.p Pu.mv ?_
 refine TL.nil ?_
 refine TQ.thenN (hZ0 (k + 1) _ _ ?_ ?_ fs9 ?_)
 refine ⟨by omega, fun j hj => ?_⟩
 by_cases e : j = k
 subst e; exact hok
 exact hall j (by omega)
 exact zom9
 exact ks9
 refine TW.dw 18 ?_
 refine RK.tk Pu.mv ?_
 refine RK.tk Pu.mv ?_
 refine RK.tk Pu.ne ?_
 refine RK.tk Pu.mv ?_
 refine RK.guard (t := 22) rfl (fun hg1 => ?_) (fun hg1 => ?_)
 try simp only [zgb9] at hg1
 refine RK.tk (Pu.lds ty_ag111) ?_
 refine RK.tk Pu.mv ?_
 refine RK.keep ?_
 refine RK.tk Pu.mv ?_
 refine RK.tk (by first | exact Pu.nn | exact Pu.nc) ?_
 refine RK.tk (by first | exact Pu.fb ty_fa106_3 | exact Pu.fe ty_fa106_3) ?_
 refine RK.tk (Pu.ldo ty_sc104) ?_
 refine RK.tk Pu.mv ?_
 refine RK.tk (Pu.el ty_et104) ?_
 refine RK.tk (Pu.lds ty_ag111) ?_
 refine RK.tk Pu.mv ?_
 refine RK.keep ?_
 refine RK.keep ?_
 refine RK.keep ?_
 refine RK.ch [false, false, true, true] ?_ trivial
 refine WK.cr rfl (enters Tryz.func103 rfl rfl) (fun w hw => by
   exact on_any h8) ?_
 refine WK.cr rfl (enters Tryz.func103 rfl rfl) (fun w hw => by
   exact on_any h8) ?_
 refine WK.p (Pu.bn (r := .bool (smB H at_ k s)) rfl rfl (fun w => by rw [← on_eq hsg]; exact eqSigns _ _ _ _ w)) ?_
 refine WK.p Pu.kt ?_
 refine WK.n ?_
 refine TL.nil ?_
 exact TQ.sub (by repeat (first | exact trivial | refine ⟨rfl, ?_⟩ | refine ⟨trivial, ?_⟩ | refine ⟨(by show some (Value.bool _) = some (Value.bool _); first | (simp [hg1]; done) | (refine congrArg (fun z => some (Value.bool z)) (Bool.eq_iff_iff.2 ?_); simp [hg1]; omega)), ?_⟩)) ks9 hJ1
 try simp only [zgb9] at hg1
 refine RK.s ?_
 refine RK.s ?_
 refine RK.keep ?_
 refine RK.s ?_
 refine RK.s ?_
 refine RK.s ?_
 refine RK.s ?_
 refine RK.s ?_
 refine RK.s ?_
 refine RK.s ?_
 refine RK.s ?_
 refine RK.keep ?_
 refine RK.keep ?_
 refine RK.keep ?_
 refine RK.ch [false, false, true, true] ?_ trivial
 refine WK.gs ?_
 refine WK.gs ?_
 refine WK.ps ?_
 refine WK.p Pu.kf ?_
 refine WK.n ?_
 refine TL.nil ?_
 exact TQ.sub (by repeat (first | exact trivial | refine ⟨rfl, ?_⟩ | refine ⟨trivial, ?_⟩ | refine ⟨(by show some (Value.bool _) = some (Value.bool _); first | (simp [hg1]; done) | (refine congrArg (fun z => some (Value.bool z)) (Bool.eq_iff_iff.2 ?_); simp [hg1]; omega)), ?_⟩)) ks9 hJ1
 try simp only [zcb9] at hc0
 obtain rfl : k = H.n := by omega
 refine TW.exit ?_
 refine TQ.thenX ?_
 refine TQ.thenX ?_
 refine TQ.blkX ?_
 refine TQ.thenN (hY2 _ _ ?_)
 refine TW.seq fun Y10 hY10 => TW.region ?_
 refine TL.p Pu.as ?_
 refine TL.nil (TQ.thenN (hY10 _ _ ?_))
 refine TW.ret ?_
 refine TQ.ret Tryz.results70 rfl ((.tmp rfl .nil)) ?_
 exact fun w hw => ⟨ret_bool (allB_iff.2 fun j hj => by
  rcases hall j (by omega) with e | e
  rw [decide_eq_true e]; rfl
  rw [e]; simp), Chg.ext hw.chg⟩
set_option maxRecDepth 100000 in
set_option maxHeartbeats 4000000 in
theorem bTell_any {w : World} {A : Option Addr} {cp : Nat} {H : Hd} {a : Nat → Option Addr} {c : Nat → Nat} {id : Int} (hI : HIn w A H a c) :
  CallsK Tryz.prog 28 #[.slice A H.n cp, .int .i64 id] [] w (Option Addr × Nat) (fun y => .tuple #[.slice y.1 (telL H id).length y.2, .int .i64 (telC H id)]) (fun y => [.own y.1 (telL H id).length y.2 3 1 (iL (telL H id))]) := by
 have hbad : ¬ telC H id = 0 → telL H id = [] := fun h => if_neg h
 cases hh : herdB H with
 | false =>
  have hc : telC H id = 20 := by unfold telC; rw [hh]; rfl
  have hN := hbad (by rw [hc]; decide)
  refine K_enter (S := []) (K := []) Tryz.func28 rfl Tryz.ntmps28 rfl (Sat.start _) ?_
  refine TW.seq fun Y1 hY1 => TW.region ?_
  refine TL.p Pu.as ?_
  refine TL.p Pu.as ?_
  refine TL.nil (TQ.thenN (hY1 _ _ ?_))
  refine TW.seq fun Y2 hY2 => TW.region ?_
  refine TL.p Pu.mv ?_
  refine TL.call (M := []) rfl (enters Tryz.func69 rfl rfl) (List.Perm.refl _) rfl (fun w hw => by
    have h9 := open_any (cp := cp) (hI.sat hw)
    rw [hh] at h9
    exact h9) ?_
  rintro xo
  refine TL.p Pu.mv ?_
  refine TL.p Pu.ex ?_
  refine TL.p Pu.ex ?_
  refine TL.p Pu.as ?_
  refine TL.p Pu.as ?_
  refine TL.nil (TQ.thenN (hY2 _ _ ?_))
  refine TW.seq fun Y3 hY3 => ?_
  refine TW.seq fun Y4 hY4 => TW.region ?_
  refine TL.p Pu.mv ?_
  refine TL.p Pu.ne ?_
  refine TL.nil (TQ.thenN (hY4 _ _ ?_))
  refine TW.condT rfl (rfl) ?_
  refine TW.seq fun Y5 hY5 => TW.region ?_
  refine TL.p Pu.mv ?_
  refine TL.p Pu.as ?_
  refine TL.p Pu.as ?_
  refine TL.nil (TQ.thenN (hY5 _ _ ?_))
  refine TW.ret ?_
  refine TQ.thenR ?_
  refine TQ.ret Tryz.results28 rfl ((.tmp rfl (.tmp rfl .nil))) ?_
  exact fun w hw => ⟨(none, 0), by simp only [hN, hc]; rfl, by simp only [hN]; exact hw.sub (KSub.nilOwn KSub.nil)⟩
 | true =>
  have hk := herdB_ok.1 hh
  have h16 := hk.n16
  obtain ⟨i, hi9⟩ : ∃ i, i = (atH H id).toNat := ⟨_, rfl⟩
  refine K_enter (S := []) (K := []) Tryz.func28 rfl Tryz.ntmps28 rfl (Sat.start _) ?_
  refine TW.seq fun Y1 hY1 => TW.region ?_
  refine TL.p Pu.as ?_
  refine TL.p Pu.as ?_
  refine TL.nil (TQ.thenN (hY1 _ _ ?_))
  refine TW.seq fun Y2 hY2 => TW.region ?_
  refine TL.p Pu.mv ?_
  refine TL.call (M := []) rfl (enters Tryz.func69 rfl rfl) (List.Perm.refl _) rfl (fun w hw => by
    have h9 := open_any (cp := cp) (hI.sat hw)
    rw [hh] at h9
    exact h9) ?_
  rintro xo
  simp only [if_true, opK, List.cons_append, List.nil_append]
  refine TL.p Pu.mv ?_
  refine TL.p Pu.ex ?_
  refine TL.p Pu.ex ?_
  refine TL.p Pu.as ?_
  refine TL.p Pu.as ?_
  refine TL.nil (TQ.thenN (hY2 _ _ ?_))
  refine TW.seq fun Y3 hY3 => ?_
  refine TW.seq fun Y4 hY4 => TW.region ?_
  refine TL.p Pu.mv ?_
  refine TL.p Pu.ne ?_
  refine TL.nil (TQ.thenN (hY4 _ _ ?_))
  refine TW.condF rfl (rfl) ?_
  refine TW.skip ?_
  refine TQ.thenN (hY3 _ _ ?_)
  refine TW.seq fun Y5 hY5 => TW.region ?_
  refine TL.p Pu.mv ?_
  refine TL.p (by first | exact Pu.nn | exact Pu.nc) ?_
  refine TL.p (by first | exact Pu.fb ty_fa106_1 | exact Pu.fe ty_fa106_1) ?_
  refine TL.p (Pu.ld ty_sc39) ?_
  refine TL.p Pu.mv ?_
  refine TL.p (Pu.lkV (.int .i64 (i : Int)) (decide (0 ≤ atH H id)) ty_mp39 ty_zv3 (hi9 ▸ pl_n) pl_s) ?_
  refine TL.p Pu.mv ?_
  refine TL.p Pu.ex ?_
  refine TL.p Pu.ex ?_
  refine TL.p Pu.as ?_
  refine TL.p Pu.as ?_
  refine TL.nil (TQ.thenN (hY5 _ _ ?_))
  refine TW.seq fun Y6 hY6 => ?_
  refine TW.seq fun Y7 hY7 => TW.region ?_
  refine TL.p Pu.mv ?_
  refine TL.p Pu.no ?_
  refine TL.nil (TQ.thenN (hY7 _ _ ?_))
  refine TW.cond rfl (fun hc1 => ?_) (fun hc1 => ?_)
  try simp only [zcb9] at hc1
  have hc : telC H id = 2 := by unfold telC; rw [hh, if_pos rfl, if_neg (by omega)]
  have hN := hbad (by rw [hc]; decide)
  refine TW.seq fun Y8 hY8 => TW.region ?_
  refine TL.p Pu.as ?_
  refine TL.p Pu.as ?_
  refine TL.nil (TQ.thenN (hY8 _ _ ?_))
  refine TW.ret ?_
  refine TQ.thenR ?_
  refine TQ.ret Tryz.results28 rfl ((.tmp rfl (.tmp rfl .nil))) ?_
  exact fun w hw => ⟨(none, 0), by simp only [hN, hc]; rfl, by simp only [hN]; exact hw.sub (KSub.nilOwn KSub.nil)⟩
  try simp only [zcb9] at hc1
  have hat : 0 ≤ atH H id := hc1
  have hc : telC H id = if toldB H i 255 then 0 else 6 := by unfold telC; rw [hh, if_pos rfl, if_pos hat, hi9]
  obtain ⟨hil, hie⟩ := at_lt hat
  rw [← hi9] at hil hie
  refine TW.skip ?_
  refine TQ.thenN (hY6 _ _ ?_)
  refine TW.seq fun Y9 hY9 => ?_
  refine TW.seq fun Y10 hY10 => TW.region ?_
  refine TL.p Pu.mv ?_
  refine TL.p Pu.mv ?_
  refine TL.cr rfl (enters Tryz.func70 rfl rfl) (fun w hw => by
    exact told_any (x := xo) hk (opK_in (A := A) (cp := cp) (x := xo) hw (by intro φ h; first | exact h | (simp only [opK, List.mem_cons] at h ⊢; simp at h ⊢; first | exact h | exact .inr h | exact .inr (.inr h) | exact .inr (.inr (.inr h)) | exact .inr (.inr (.inr (.inr h)))))) hil (by decide)) ?_
  refine TL.p Pu.no ?_
  refine TL.nil (TQ.thenN (hY10 _ _ ?_))
  refine TW.cond rfl (fun hc2 => ?_) (fun hc2 => ?_)
  try simp only [zcb9] at hc2
  have hc8 : telC H id = 6 := by rw [hc, hc2]; rfl
  have hN := hbad (by rw [hc8]; decide)
  refine TW.seq fun Y11 hY11 => TW.region ?_
  refine TL.p Pu.as ?_
  refine TL.p Pu.as ?_
  refine TL.nil (TQ.thenN (hY11 _ _ ?_))
  refine TW.ret ?_
  refine TQ.thenR ?_
  refine TQ.ret Tryz.results28 rfl ((.tmp rfl (.tmp rfl .nil))) ?_
  exact fun w hw => ⟨(none, 0), by simp only [hN, hc8]; rfl, by simp only [hN]; exact hw.sub (KSub.nilOwn KSub.nil)⟩
  try simp only [zcb9] at hc2
  have hc8 : telC H id = 0 := by rw [hc, hc2]; rfl
  have hN : telL H id = (telK H i 256).1 := by unfold telL; rw [if_pos hc8, hi9]
  refine TW.skip ?_
  refine TQ.thenN (hY9 _ _ ?_)
  refine TW.seq fun Y12 hY12 => TW.region ?_
  refine TL.p Pu.as ?_
  refine TL.nil (TQ.thenN (hY12 _ _ ?_))
  refine TW.seq fun Y13 hY13 => TW.region ?_
  refine TL.p Pu.as ?_
  refine TL.nil (TQ.thenN (hY13 _ _ ?_))
  refine TW.seq fun Y14 hY14 => ?_
  refine TW.seq fun Y15 hY15 => TW.region ?_
  refine TL.p Pu.mv ?_
  refine TL.nil (TQ.thenN (hY15 _ _ ?_))
  refine TW.block ?_
  refine TW.loop5 (fun (k : Nat) (Ab : Option Addr) (cb : Nat) (M : List Int) (m : Nat) => [(38, .int .i64 (k : Int)), (10, .slice Ab m cb), (11, .int .i64 ((telK H i k).2 : Int)), (6, .pointer (some ⟨xo.1.1, 0, none⟩)), (8, .int .i64 (i : Int))]) (fun k Ab cb M m => .own Ab m cb 3 1 (iL M) :: .blk xo.1.1 106 [.slice A H.n cp, .map (some xo.1.2), .slice xo.2.1.1 H.n xo.2.1.2, .slice xo.2.2.1 H.n xo.2.2.2] :: .obj xo.1.2 (mapO .i64 (plM H H.n)) :: .own xo.2.1.1 H.n xo.2.1.2 3 1 (fun j => [.int .i64 (moH H j)]) :: .own xo.2.2.1 H.n xo.2.2.2 111 8 (fun j => octL (sgH H j)) :: []) (fun k Ab cb M m => k ≤ 256 ∧ M = (telK H i k).1 ∧ m = M.length) (fun k Ab cb M m => 256 - k) 0 none 0 [] 0 fs9 ?_ ?_ ?_
  exact KSub.nilOwn ks9
  exact ⟨Nat.zero_le _, rfl, rfl⟩
  rintro k Ab cb M m ⟨hk256, hM, hm⟩ Z0 hZ0
  obtain ⟨ht1, ht2⟩ := telK_len (H := H) (at_ := i) k
  have hm9 : m ≤ 8 := by rw [hm, hM]; exact ht1
  obtain ⟨fw, hfw⟩ : ∃ fw : Int, fw = ((telK H i k).2 : Int) := ⟨_, rfl⟩
  rw [← hfw]
  refine TW.seq fun Y16 hY16 => TW.region ?_
  refine TL.p Pu.lt ?_
  refine TL.nil (TQ.thenN (hY16 _ _ ?_))
  refine TW.seq fun Y17 hY17 => ?_
  refine TW.cond rfl (fun hc3 => ?_) (fun hc3 => ?_)
  try simp only [zcb9] at hc3
  have hkn : k < 256 := by omega
  refine TW.skip ?_
  refine TQ.thenN (hY17 _ _ ?_)
  refine TW.seq fun Y18 hY18 => ?_
  refine TW.block ?_
  refine TW.seq fun Y19 hY19 => TW.region ?_
  refine TL.p Pu.mv ?_
  refine TL.p Pu.as ?_
  refine TL.nil (TQ.thenN (hY19 _ _ ?_))
  refine TW.seq fun Y20 hY20 => TW.region ?_
  refine TL.p Pu.as ?_
  refine TL.nil (TQ.thenN (hY20 _ _ ?_))
  refine TW.seq fun Y21 hY21 => ?_
  refine TW.seq fun Y22 hY22 => TW.region ?_
  refine TL.p Pu.mv ?_
  refine TL.nil (TQ.thenN (hY22 _ _ ?_))
  refine TW.block ?_
  refine TW.loop5 (fun (q : Nat) (Al : Option Addr) (cl : Nat) (P : List Int) (n : Nat) => [(41, .int .i64 (q : Int)), (13, .slice Al n cl), (12, .int .i64 (k : Int)), (38, .int .i64 (k : Int)), (10, .slice Ab m cb), (11, .int .i64 fw), (6, .pointer (some ⟨xo.1.1, 0, none⟩)), (8, .int .i64 (i : Int))]) (fun q Al cl P n => .own Al n cl 3 1 (iL P) :: .own Ab m cb 3 1 (iL M) :: .blk xo.1.1 106 [.slice A H.n cp, .map (some xo.1.2), .slice xo.2.1.1 H.n xo.2.1.2, .slice xo.2.2.1 H.n xo.2.2.2] :: .obj xo.1.2 (mapO .i64 (plM H H.n)) :: .own xo.2.1.1 H.n xo.2.1.2 3 1 (fun j => [.int .i64 (moH H j)]) :: .own xo.2.2.1 H.n xo.2.2.2 111 8 (fun j => octL (sgH H j)) :: []) (fun q Al cl P n => q ≤ 8 ∧ P = spK k q ∧ n = P.length) (fun q Al cl P n => 8 - q) 0 none 0 [] 0 fs9 ?_ ?_ ?_
  exact KSub.nilOwn ks9
  exact ⟨Nat.zero_le _, rfl, rfl⟩
  rintro q Al cl P n ⟨hq8, hP, hn⟩ Z1 hZ1
  have hn9 : n ≤ 8 := by have := spK_len (s := k) q; rw [hn, hP]; omega
  have hdv : k / 2 ^ q ≤ 256 := Nat.le_trans (Nat.div_le_self _ _) hk256
  refine TW.seq fun Y23 hY23 => TW.region ?_
  refine TL.p Pu.lt ?_
  refine TL.nil (TQ.thenN (hY23 _ _ ?_))
  refine TW.seq fun Y24 hY24 => ?_
  refine TW.cond rfl (fun hc4 => ?_) (fun hc4 => ?_)
  try simp only [zcb9] at hc4
  have hqn : q < 8 := by omega
  refine TW.skip ?_
  refine TQ.thenN (hY24 _ _ ?_)
  refine TW.seq fun Y25 hY25 => ?_
  refine TW.block ?_
  refine TW.seq fun Y26 hY26 => TW.region ?_
  refine TL.p Pu.mv ?_
  refine TL.p Pu.as ?_
  refine TL.nil (TQ.thenN (hY26 _ _ ?_))
  refine TW.seq fun Y27 hY27 => TW.region ?_
  refine TL.p Pu.mv ?_
  refine TL.p Pu.mv ?_
  refine TL.p (Pu.srN (b := k) (i := q)) ?_
  refine TL.p (Pu.an1 (m := k / 2 ^ q)) ?_
  refine TL.p Pu.eq ?_
  refine TL.nil (TQ.thenN (hY27 _ _ ?_))
  refine TW.cond rfl (fun hc5 => ?_) (fun hc5 => ?_)
  try simp only [zcb9] at hc5
  have hb : k / 2 ^ q % 2 = 1 := by omega
  have hst : spK k (q + 1) = P ++ [(q : Int)] := by rw [hP]; exact if_pos hb
  have hlen9 : n + 1 = (spK k (q + 1)).length := by rw [hst, List.length_append, ← hn]; rfl
  refine TW.region ?_
  refine TL.p Pu.mv ?_
  refine TL.p Pu.mv ?_
  refine TL.m Mk.bl ?_
  intro b1
  first | refine TL.a0 ty_et28 ?_ | refine TL.ap ty_et28 ?_
  intro A2 c2
  refine TL.p Pu.as ?_
  refine TL.nil ?_
  refine TQ.blkN ?_
  refine TQ.thenN (hY25 _ _ ?_)
  refine TW.region ?_
  refine TL.p Pu.ad ?_
  refine TL.p Pu.mv ?_
  refine TL.nil ?_
  refine TQ.thenN (hZ1 (q + 1) _ _ (spK k (q + 1)) _ _ _ ?_ ?_ fs9 ?_)
  exact ⟨by omega, rfl, hlen9⟩
  exact zom9
  first
   | exact KSub.own Pick.hd (iL_app hn hst rfl) ks9
   | exact KSub.own pk9 (fun i _ => by rw [hst]) ks9
  try simp only [zcb9] at hc5
  have hb : ¬ k / 2 ^ q % 2 = 1 := by omega
  have hst : spK k (q + 1) = P := by rw [hP]; exact if_neg hb
  have hlen9 : n = (spK k (q + 1)).length := by rw [hst, ← hn]
  refine TW.skip ?_
  refine TQ.blkN ?_
  refine TQ.thenN (hY25 _ _ ?_)
  refine TW.region ?_
  refine TL.p Pu.ad ?_
  refine TL.p Pu.mv ?_
  refine TL.nil ?_
  refine TQ.thenN (hZ1 (q + 1) _ _ (spK k (q + 1)) _ _ _ ?_ ?_ fs9 ?_)
  exact ⟨by omega, rfl, hlen9⟩
  exact zom9
  first
   | exact KSub.own Pick.hd (iL_app hn hst rfl) ks9
   | exact KSub.own pk9 (fun i _ => by rw [hst]) ks9
  try simp only [zcb9] at hc4
  obtain rfl : q = 8 := by omega
  refine TW.exit ?_
  refine TQ.thenX ?_
  refine TQ.thenX ?_
  refine TQ.blkX ?_
  refine TQ.thenN (hY21 _ _ ?_)
  refine TW.seq fun Y28 hY28 => ?_
  refine TW.join [(75, .bool (decide ((n : Int) ≤ fw) && (decide ((n : Int) < fw) || decide (cmpI P M < 0)) && toldB H i k))] ?_ (fun hJ1 => ?_)
  refine TQ.thenN (hY28 _ _ ?_)
  refine TW.cond rfl (fun hc6 => ?_) (fun hc6 => ?_)
  try simp only [zcb9] at hc6
  have hst : telK H i (k + 1) = (P, n) := by
   have e : (decide ((spK k 8).length ≤ (telK H i k).2) && (decide ((spK k 8).length < (telK H i k).2) || decide (cmpI (spK k 8) (telK H i k).1 < 0)) && toldB H i k) = true := by
    rw [← hP, ← hM, ← hn]
    simp only [Bool.and_eq_true, Bool.or_eq_true, decide_eq_true_eq]
    exact ⟨⟨by omega, hc6.1.2.imp_left (by omega)⟩, hc6.2⟩
   rw [telK, if_pos e, ← hP, ← hn]
  refine TW.region ?_
  refine TL.p Pu.mv ?_
  refine TL.p Pu.mv ?_
  refine TL.p (Pu.ln Tryz.underlying28) ?_
  refine TL.p Pu.as ?_
  refine TL.p Pu.as ?_
  refine TL.nil ?_
  refine TQ.blkN ?_
  refine TQ.thenN (hY18 _ _ ?_)
  refine TW.region ?_
  refine TL.p Pu.ad ?_
  refine TL.p Pu.mv ?_
  refine TL.nil ?_
  refine TQ.thenN (hZ0 (k + 1) _ _ (telK H i (k + 1)).1 _ _ _ ?_ ?_ (by rw [hst]; (repeat (first | exact trivial | refine ⟨rfl, ?_⟩ | refine ⟨(congrArg (fun z => some (Value.int .i64 z)) hfw), ?_⟩ | refine ⟨trivial, ?_⟩))) ?_)
  exact ⟨by omega, rfl, by rw [hst]; assumption⟩
  exact zom9
  rw [hst]
  exact KSub.cons pk9 ks9
  try simp only [zcb9] at hc6
  have hst : telK H i (k + 1) = (M, (telK H i k).2) := by
   have e : ¬ (decide ((spK k 8).length ≤ (telK H i k).2) && (decide ((spK k 8).length < (telK H i k).2) || decide (cmpI (spK k 8) (telK H i k).1 < 0)) && toldB H i k) = true := by
    rw [← hP, ← hM, ← hn]
    intro e
    simp only [Bool.and_eq_true, Bool.or_eq_true, decide_eq_true_eq] at e
    have e2 := e.1.1
    have e3 := e.1.2
    rcases hc6 with (h | h) | h
    omega
    rcases e3 with e3 | e3 <;> omega
    rw [e.2] at h; cases h
   rw [telK, if_neg e, hM]
  refine TW.skip ?_
  refine TQ.blkN ?_
  refine TQ.thenN (hY18 _ _ ?_)
  refine TW.region ?_
  refine TL.p Pu.ad ?_
  refine TL.p Pu.mv ?_
  refine TL.nil ?_
  refine TQ.thenN (hZ0 (k + 1) _ _ (telK H i (k + 1)).1 _ _ _ ?_ ?_ (by rw [hst]; (repeat (first | exact trivial | refine ⟨rfl, ?_⟩ | refine ⟨(congrArg (fun z => some (Value.int .i64 z)) hfw), ?_⟩ | refine ⟨trivial, ?_⟩))) ?_)
  exact ⟨by omega, rfl, by rw [hst]; assumption⟩
  exact zom9
  rw [hst]
  exact KSub.cons pk9 ks9
  refine TW.region ?_
  refine TL.p Pu.mv ?_
  refine TL.p (Pu.ln Tryz.underlying28) ?_
  refine TL.p Pu.mv ?_
  refine TL.p Pu.le ?_
  refine TL.p Pu.mv ?_
  refine TL.guard (t := 58) rfl (fun hg1 => ?_) (fun hg1 => ?_)
  refine TL.gd Pu.mv ?_
  refine TL.gd (Pu.ln Tryz.underlying28) ?_
  refine TL.gd Pu.mv ?_
  refine TL.gd Pu.lt ?_
  refine TL.gd Pu.mv ?_
  refine TL.guard (t := 63) rfl (fun hg2 => ?_) (fun hg2 => ?_)
  refine TL.gs ?_
  refine TL.gs ?_
  refine TL.gs ?_
  refine TL.gs ?_
  refine TL.gd Pu.kt ?_
  refine TL.p Pu.kt ?_
  refine TL.p Pu.mv ?_
  refine TL.gd Pu.mv ?_
  refine TL.gd Pu.mv ?_
  refine TL.gd Pu.mv ?_
  refine TL.cr rfl (enters Tryz.func70 rfl rfl) (fun w hw => by
    exact told_any (x := xo) hk (opK_in (A := A) (cp := cp) (x := xo) hw (by intro φ h; first | exact h | (simp only [opK, List.mem_cons] at h ⊢; simp at h ⊢; first | exact h | exact .inr h | exact .inr (.inr h) | exact .inr (.inr (.inr h)) | exact .inr (.inr (.inr (.inr h)))))) hil (by omega)) ?_
  refine TL.p Pu.kt ?_
  refine TL.nil ?_
  exact TQ.sub (by repeat (first | exact trivial | refine ⟨rfl, ?_⟩ | refine ⟨trivial, ?_⟩ | refine ⟨(by show some (Value.bool _) = some (Value.bool _); first | (simp [hg1, hg2]; done) | (refine congrArg (fun z => some (Value.bool z)) (Bool.eq_iff_iff.2 ?_); simp [hg1, hg2]; omega)), ?_⟩)) kt9 hJ1
  refine TL.gd Pu.mv ?_
  refine TL.gd Pu.mv ?_
  refine TL.cr rfl (enters Tryz.func71 rfl rfl) (fun w hw => by
    exact compareI_any hn hm (by omega) (by omega) (OwnR.rdr (hw.holds (.own Al n cl 3 1 (iL P)) (Pick.mem pk9))) (OwnR.rdr (hw.holds (.own Ab m cb 3 1 (iL M)) (Pick.mem pk9)))) ?_
  refine TL.gd Pu.lt ?_
  refine TL.gd Pu.kf ?_
  refine TL.p Pu.kt ?_
  refine TL.p Pu.mv ?_
  refine TL.guard (t := 70) rfl (fun hg3 => ?_) (fun hg3 => ?_)
  refine TL.gd Pu.mv ?_
  refine TL.gd Pu.mv ?_
  refine TL.gd Pu.mv ?_
  refine TL.cr rfl (enters Tryz.func70 rfl rfl) (fun w hw => by
    exact told_any (x := xo) hk (opK_in (A := A) (cp := cp) (x := xo) hw (by intro φ h; first | exact h | (simp only [opK, List.mem_cons] at h ⊢; simp at h ⊢; first | exact h | exact .inr h | exact .inr (.inr h) | exact .inr (.inr (.inr h)) | exact .inr (.inr (.inr (.inr h)))))) hil (by omega)) ?_
  refine TL.p Pu.kt ?_
  refine TL.nil ?_
  exact TQ.sub (by repeat (first | exact trivial | refine ⟨rfl, ?_⟩ | refine ⟨trivial, ?_⟩ | refine ⟨(by show some (Value.bool _) = some (Value.bool _); first | (simp [hg1, hg2, hg3]; done) | (refine congrArg (fun z => some (Value.bool z)) (Bool.eq_iff_iff.2 ?_); simp [hg1, hg2, hg3]; omega)), ?_⟩)) kt9 hJ1
  refine TL.gs ?_
  refine TL.gs ?_
  refine TL.gs ?_
  refine TL.gs ?_
  refine TL.p Pu.kf ?_
  refine TL.nil ?_
  exact TQ.sub (by repeat (first | exact trivial | refine ⟨rfl, ?_⟩ | refine ⟨trivial, ?_⟩ | refine ⟨(by show some (Value.bool _) = some (Value.bool _); first | (simp [hg1, hg2, hg3]; done) | (refine congrArg (fun z => some (Value.bool z)) (Bool.eq_iff_iff.2 ?_); simp [hg1, hg2, hg3]; omega)), ?_⟩)) kt9 hJ1
  refine TL.gs ?_
  refine TL.gs ?_
  refine TL.gs ?_
  refine TL.gs ?_
  refine TL.gs ?_
  refine TL.gs ?_
  refine TL.gs ?_
  refine TL.gs ?_
  refine TL.gs ?_
  refine TL.gs ?_
  refine TL.p Pu.kf ?_
  refine TL.p Pu.mv ?_
  refine TL.gs ?_
  refine TL.gs ?_
  refine TL.gs ?_
  refine TL.gs ?_
  refine TL.p Pu.kf ?_
  refine TL.nil ?_
  exact TQ.sub (by repeat (first | exact trivial | refine ⟨rfl, ?_⟩ | refine ⟨trivial, ?_⟩ | refine ⟨(by show some (Value.bool _) = some (Value.bool _); first | (simp [hg1]; done) | (refine congrArg (fun z => some (Value.bool z)) (Bool.eq_iff_iff.2 ?_); simp [hg1]; omega)), ?_⟩)) kt9 hJ1
  try simp only [zcb9] at hc3
  obtain rfl : k = 256 := by omega
  refine TW.exit ?_
  refine TQ.thenX ?_
  refine TQ.thenX ?_
  refine TQ.blkX ?_
  refine TQ.thenN (hY14 _ _ ?_)
  refine TW.seq fun Y29 hY29 => TW.region ?_
  refine TL.p Pu.mv ?_
  refine TL.p Pu.as ?_
  refine TL.p Pu.as ?_
  refine TL.nil (TQ.thenN (hY29 _ _ ?_))
  refine TW.ret ?_
  refine TQ.ret Tryz.results28 rfl ((.tmp rfl (.tmp rfl .nil))) ?_
  exact fun w hw => ⟨(Ab, cb), by rw [hN, hc8, ← hM, ← hm]; rfl, by rw [hN, ← hM, ← hm]; exact hw.sub (KSub.cons pk9 KSub.nil)⟩
end Go.Proofs.YtbenhafhklfhmaaGreat
namespace Go.Proofs.YtbenhafhklfhmaaGreat
set_option linter.all false
set_option linter.unusedVariables false
set_option linter.unusedSimpArgs false
open Go.RowKit
theorem CallsK.to {P : Program} {f : FuncId} {args : Array Value} {M : List Fact} {w : World} {X : Type} {val val2 : X → Value} {L L2 : X → List Fact} (h : CallsK P f args M w X val L) (hv : ∀ x, val x = val2 x) (hL : ∀ x, KSub (L x) (L2 x)) : CallsK P f args M w X val2 L2 :=
 h.mono fun _ _ ⟨x, e, hs⟩ => ⟨x, by rw [e, hv], hs.sub (hL x)⟩
def exR (d : Int) (j : Nat) : Int := [1, 2, 0, 0, 0, 0, 0, d, 0, 0, 0, 0, 11, 11].getD j 0
def exCn (i : Nat) : Int × Int := [(10, 12), (11, 11)].getD i (0, 0)
def exBr (i : Nat) : Int × Int := [(0, 100), (1400, 1600), (5000, 10100), (2900, 3100)].getD i (0, 0)
def exNl (k : Nat) : List Int := if k = 0 then [2] else [4]
set_option maxRecDepth 100000 in
theorem eTly : tErr 10 12 1 (fun _ => exR 4) = none ∧ (∀ i, i < 2 → counts 10 12 (fun _ => exR 4) 1 i = exCn i) ∧ ∀ j, j < 14 → known (fun _ => exR 4) (counts 10 12 (fun _ => exR 4) 1) 0 j = exR 3 j := by decide +kernel
set_option maxRecDepth 100000 in
theorem eLiv : livC exH = 0 ∧ ∀ i, i < 4 → livB exH i = exBr i := by decide +kernel
theorem row2_any (w : World) : Calls Tryz.prog 38 #[] w (Ret w (.agg #[.int .i64 1, .int .i64 2, .int .i64 0, .int .i64 0, .int .i64 0, .int .i64 0, .int .i64 0, .int .i64 4, .int .i64 0, .int .i64 0, .int .i64 0, .int .i64 0, .int .i64 11, .int .i64 11])) := by
 refine K_enter (S := []) (K := []) Tryz.func38 rfl Tryz.ntmps38 rfl (Sat.start _) ?_
 refine TW.seq fun Y1 hY1 => TW.region ?_
 refine TL.m (Mk.al ty_zr71) ?_
 intro b1
 refine TL.nil (TQ.thenN (hY1 _ _ ?_))
 refine TW.seq fun Y2 hY2 => TW.region ?_
 refine TL.cr rfl (enters Tryz.func18 rfl rfl) (fun w hw => by
  exact span2_any _ _ _) ?_
 refine TL.cr rfl (enters Tryz.func18 rfl rfl) (fun w hw => by
  exact span2_any _ _ _) ?_
 refine TL.cr rfl (enters Tryz.func18 rfl rfl) (fun w hw => by
  exact span2_any _ _ _) ?_
 refine TL.p Pu.bd ?_
 first | refine TL.st ty_sz71 ?_ | refine TL.se ty_sz71 ?_
 refine TL.nil (TQ.thenN (hY2 _ _ ?_))
 refine TW.ret ?_
 refine TQ.ret Tryz.results38 rfl ((RV.cs ty_ag71 .nil)) ?_
 exact fun w hw => Ret.of hw
section
variable {w : World} {x : EH} {b b1 b2 b3 b4 b5 : Nat}
theorem exLk_in {l : Lk} (h : Fact.holds (.own (some ⟨b, 0, none⟩) 8 8 25 1 (fun k => [.int .u32 (l.sg k : Int)])) w) (h8 : l.ns = 8) (hb : ∀ k, k < 8 → l.sg k ≤ 4294967295) : LkIn w l (some ⟨b, 0, none⟩) :=
 ⟨by omega, by rw [h8]; exact OwnR.rdr h, by rw [h8]; exact hb⟩
theorem exHB (h : (bun (exHf x)).holds w) : CallsK Tryz.prog 15 #[.slice (some ⟨x.1, 0, none⟩) 4 4] [] w (Option Addr × Nat) (fun y => .tuple #[.slice y.1 4 y.2, .int .i64 0]) (fun y => [.own y.1 4 y.2 36 2 (fun j => spL (exBr j).1 (exBr j).2)]) := by
 refine (bBirths_any (cp := 4) (exH_in h)).to (fun y => ?_) (fun y => ?_)
 · rw [eLiv.1]; rfl
 · rw [eLiv.1]
   exact KSub.own Pick.hd (fun i hi => by rw [eLiv.2 i hi]) KSub.nil
theorem exHF {l : Lk} {r : List Int} {c : Int} (h : (bun (exHf x)).holds w) (hL : LkIn w l (some ⟨b, 0, none⟩)) (e1 : fitC exH l = c) (e2 : fitL exH l = r) : CallsK Tryz.prog 21 #[.slice (some ⟨x.1, 0, none⟩) 4 4, .agg (lkL l (some ⟨b, 0, none⟩) 8).toArray] [] w (Option Addr × Nat) (fun y => .tuple #[.slice y.1 r.length y.2, .int .i64 c]) (fun y => [.own y.1 r.length y.2 3 1 (iL r)]) := by
 have h9 := bFits_any (cp := 4) (cl := 8) (exH_in h) hL
 rw [e1, e2] at h9
 exact h9
theorem exHN (h : (bun (exHf x)).holds w) (hL : LksIn w 2 exL (some ⟨b3, 0, none⟩) (fun k => if k = 0 then some ⟨b1, 0, none⟩ else some ⟨b2, 0, none⟩) (fun _ => 8)) (hC : CvsIn w 1 (fun _ => 0) (fun _ => 1) (some ⟨b4, 0, none⟩)) :
   CallsK Tryz.prog 20 #[.slice (some ⟨x.1, 0, none⟩) 4 4, .slice (some ⟨b3, 0, none⟩) 2 2, .slice (some ⟨b4, 0, none⟩) 1 1] [] w NX9 (fun y => .tuple #[.slice y.1.1 2 y.1.2, .int .i64 0]) (fun y => [.own y.1.1 2 y.1.2 28 1 (fun k => [.slice (y.2.1 k) (exNl k).length (y.2.2 k)]), .own (y.2.1 0) 1 (y.2.2 0) 3 1 (iL [2]), .own (y.2.1 1) 1 (y.2.2 1) 3 1 (iL [4])]) := by
 have hn : nmN exH 2 exL 1 (fun _ => 0) (fun _ => 1) = 2 := if_pos eNam.1
 refine (bNames_any (cp := 4) (cb := 2) (cc := 1) (exH_in h) hL hC).mono ?_
 rintro e w' ⟨y, rfl, hs⟩
 refine ⟨y, ?_, ?_⟩
 · unfold nmV; rw [hn, eNam.1]
 · unfold nmF at hs
   rw [hn] at hs
   have h2 := (hs.pick (Pick.tl Pick.hd)).unbun
   simp only [ownsE, eNam.2.1, eNam.2.2, List.cons_append, List.nil_append] at h2
   exact h2.sub (KSub.own (Pick.tl (Pick.tl Pick.hd)) (fun i hi => by
    rcases (by omega : i = 0 ∨ i = 1) with rfl | rfl
    · rw [eNam.2.1]; rfl
    · rw [eNam.2.2]; rfl) (KSub.cons (Pick.tl Pick.hd) (KSub.cons Pick.hd KSub.nil)))
theorem exLs_in (h1 : Fact.holds (.blk b3 42 (lkL (exK 4650) (some ⟨b1, 0, none⟩) 8 ++ lkL exC (some ⟨b2, 0, none⟩) 8)) w) (h2 : Fact.holds (.own (some ⟨b1, 0, none⟩) 8 8 25 1 (fun k => [.int .u32 ((exK 4650).sg k : Int)])) w) (h3 : Fact.holds (.own (some ⟨b2, 0, none⟩) 8 8 25 1 (fun k => [.int .u32 (exC.sg k : Int)])) w) :
  LksIn w 2 exL (some ⟨b3, 0, none⟩) (fun k => if k = 0 then some ⟨b1, 0, none⟩ else some ⟨b2, 0, none⟩) (fun _ => 8) :=
 ⟨by decide, RdR.blk (cs := lkL (exK 4650) (some ⟨b1, 0, none⟩) 8 ++ lkL exC (some ⟨b2, 0, none⟩) 8) (n := 2) (sz := 4) h1 rfl (fun _ _ => rfl), fun k hk => by
  rcases (by omega : k = 0 ∨ k = 1) with rfl | rfl
  · exact exLk_in (l := exK 4650) h2 rfl (by decide)
  · exact exLk_in (l := exC) h3 rfl (by decide)⟩
theorem exCv_in (h : Fact.holds (.blk b4 51 [.int .i64 0, .int .i64 1]) w) : CvsIn w 1 (fun _ => 0) (fun _ => 1) (some ⟨b4, 0, none⟩) :=
 ⟨by decide, RdR.blk (cs := [.int .i64 0, .int .i64 1]) (n := 1) (sz := 2) h rfl (fun _ _ => rfl)⟩
theorem exSl {y : NX9} (h1 : Fact.holds (.own y.1.1 2 y.1.2 28 1 (fun k => [.slice (y.2.1 k) (exNl k).length (y.2.2 k)])) w) (h2 : Fact.holds (.own (y.2.1 0) 1 (y.2.2 0) 3 1 (iL [2])) w) (h3 : Fact.holds (.own (y.2.1 1) 1 (y.2.2 1) 3 1 (iL [4])) w)
    (g1 : Fact.holds (.blk b1 28 [.slice (some ⟨b2, 0, none⟩) 1 1, .slice (some ⟨b3, 0, none⟩) 1 1]) w) (g2 : Fact.holds (.blk b2 3 [.int .i64 2]) w) (g3 : Fact.holds (.blk b3 3 [.int .i64 4]) w) :
    Calls Tryz.prog 42 #[.slice y.1.1 2 y.1.2, .slice (some ⟨b1, 0, none⟩) 2 2] w (Ret w (.bool true)) :=
  rSameL_any (L := exNl) (a := y.2.1) (b := fun k => if k = 0 then some ⟨b2, 0, none⟩ else some ⟨b3, 0, none⟩) (c := y.2.2) (d := fun _ => 1) (by decide) (fun k hk => by unfold exNl; split <;> decide) (OwnR.rdr h1)
    (RdR.blk (cs := [.slice (some ⟨b2, 0, none⟩) 1 1, .slice (some ⟨b3, 0, none⟩) 1 1]) (n := 2) (sz := 1) g1 rfl (fun _ _ => rfl)) (fun k hk => by
      rcases (by omega : k = 0 ∨ k = 1) with rfl | rfl
      · exact OwnR.rdr h2
      · exact OwnR.rdr h3) (fun k hk => by
      rcases (by omega : k = 0 ∨ k = 1) with rfl | rfl
      · exact RdR.blk (cs := [.int .i64 2]) (n := 1) (sz := 1) g2 rfl (fun _ _ => rfl)
      · exact RdR.blk (cs := [.int .i64 4]) (n := 1) (sz := 1) g3 rfl (fun _ _ => rfl))
theorem exHT {id c : Int} {r : List Int} (h : (bun (exHf x)).holds w) (e1 : telC exH id = c) (e2 : telL exH id = r) : CallsK Tryz.prog 28 #[.slice (some ⟨x.1, 0, none⟩) 4 4, .int .i64 id] [] w (Option Addr × Nat) (fun y => .tuple #[.slice y.1 r.length y.2, .int .i64 c]) (fun y => [.own y.1 r.length y.2 3 1 (iL r)]) := by
 have h9 := bTell_any (cp := 4) (id := id) (exH_in h)
 rw [e1, e2] at h9
 exact h9
theorem exHK (h : (bun (exHf x)).holds w) : Calls Tryz.prog 33 #[.slice (some ⟨x.1, 0, none⟩) 4 4, .int .i64 4, .int .i64 3] w (Ret w (.tuple #[.int .i64 2, .int .i64 1, .int .i64 0])) := by
 have h9 := bKin_any (cp := 4) (ia := 4) (ib := 3) (exH_in h)
 rw [eKin.1, eKin.2] at h9
 exact h9
theorem exTal (h : Fact.holds (.blk b 71 [.int .i64 1, .int .i64 2, .int .i64 0, .int .i64 0, .int .i64 0, .int .i64 0, .int .i64 0, .int .i64 4, .int .i64 0, .int .i64 0, .int .i64 0, .int .i64 0, .int .i64 11, .int .i64 11]) w) :
    CallsK Tryz.prog 30 #[.agg #[.int .i64 10, .int .i64 12], .slice (some ⟨b, 0, none⟩) 1 1] [] w TX (fun y => .tuple #[.slice y.1 2 y.2.1, .slice y.2.2.1 1 y.2.2.2, .int .i64 0, .int .i64 0]) (fun y => [.own y.1 2 y.2.1 36 2 (fun i => spL (exCn i).1 (exCn i).2), .own y.2.2.1 1 y.2.2.2 71 14 (fun _ => rowL (exR 3))]) := by
  have ho : OwnR w (some ⟨b, 0, none⟩) 1 1 71 14 (fun i => rowL ((fun _ => exR 4) i)) := OwnR.of_blk (cs := [.int .i64 1, .int .i64 2, .int .i64 0, .int .i64 0, .int .i64 0, .int .i64 0, .int .i64 0, .int .i64 4, .int .i64 0, .int .i64 0, .int .i64 0, .int .i64 0, .int .i64 11, .int .i64 11]) h rfl (fun _ _ => rfl) rfl rfl
  refine (tally_K' 10 12 _ 1 1 71 (fun _ => exR 4) w ho (by decide) eTly.1).to (fun y => ?_) (fun y => ?_)
  · obtain ⟨A1, c1, A2, c2⟩ := y; rfl
  · obtain ⟨A1, c1, A2, c2⟩ := y
    show KSub [.own A1 2 c1 36 2 (fun i => spL (if (0 : Nat) = 0 then (counts 10 12 (fun _ => exR 4) 1 i).1 else 0) (counts 10 12 (fun _ => exR 4) 1 i).2), .own A2 1 c2 71 14 (fun i => rowL (known (fun _ => exR 4) (counts 10 12 (fun _ => exR 4) 1) i))] _
    refine KSub.own Pick.hd (fun i hi => ?_) (KSub.own Pick.hd (fun i hi => ?_) KSub.nil)
    · rw [if_pos rfl, eTly.2.1 i hi]
    · obtain rfl : i = 0 := by omega
      unfold rowL
      simp only [eTly.2.2 _ (show (0 : Nat) < 14 by decide), eTly.2.2 _ (show (1 : Nat) < 14 by decide), eTly.2.2 _ (show (2 : Nat) < 14 by decide), eTly.2.2 _ (show (3 : Nat) < 14 by decide), eTly.2.2 _ (show (4 : Nat) < 14 by decide), eTly.2.2 _ (show (5 : Nat) < 14 by decide), eTly.2.2 _ (show (6 : Nat) < 14 by decide), eTly.2.2 _ (show (7 : Nat) < 14 by decide), eTly.2.2 _ (show (8 : Nat) < 14 by decide), eTly.2.2 _ (show (9 : Nat) < 14 by decide), eTly.2.2 _ (show (10 : Nat) < 14 by decide), eTly.2.2 _ (show (11 : Nat) < 14 by decide), eTly.2.2 _ (show (12 : Nat) < 14 by decide), eTly.2.2 _ (show (13 : Nat) < 14 by decide)]
end
end Go.Proofs.YtbenhafhklfhmaaGreat
namespace Go.Proofs.YtbenhafhklfhmaaGreat
set_option linter.all false
set_option linter.unusedVariables false
set_option linter.unusedSimpArgs false
open Go.RowKit
set_option maxRecDepth 100000 in
set_option maxHeartbeats 4000000 in
theorem alive_any (w : World) : Calls Tryz.prog 12 #[] w (Ret w (.bool true)) := by
 have fL := fun (w' : World) => look2_any 4650 w'
 have fC := fun (w' : World) => calf2_any w'
 have fF := fun (w' : World) (x : EH) (b : Nat) (h : (bun (exHf x)).holds w') (hL : LkIn w' (exK 4650) (some ⟨b, 0, none⟩)) => exHF (x := x) (b := b) h hL eFit.1 eFit.2.1
 unfold lkL at fL fC fF
 refine K_enter (S := []) (K := []) Tryz.func12 rfl Tryz.ntmps12 rfl (Sat.start _) ?_
 refine TW.seq fun Y1 hY1 => TW.region ?_
 refine TL.p Pu.as ?_
 refine TL.nil (TQ.thenN (hY1 _ _ ?_))
 refine TW.seq fun Y2 hY2 => TW.region ?_
 refine TL.call (M := []) rfl (enters Tryz.func35 rfl rfl) (List.Perm.refl _) rfl (fun w hw => by
  exact herd2_any _) ?_
 rintro x1
 dsimp only [List.cons_append, List.nil_append]
 refine TL.call (M := []) rfl (enters Tryz.func15 rfl rfl) (List.Perm.refl _) rfl (fun w hw => by
  exact exHB (x := x1) (hw.holds _ (Pick.mem pk9))) ?_
 rintro ⟨P1, p1⟩
 dsimp only [List.cons_append, List.nil_append]
 refine TL.p Pu.mv ?_
 refine TL.p Pu.ex ?_
 refine TL.p Pu.ex ?_
 refine TL.p Pu.as ?_
 refine TL.p Pu.as ?_
 refine TL.nil (TQ.thenN (hY2 _ _ ?_))
 refine TW.seq fun Y3 hY3 => TW.region ?_
 refine TL.call (M := []) rfl (enters Tryz.func35 rfl rfl) (List.Perm.refl _) rfl (fun w hw => by
  exact herd2_any _) ?_
 rintro x2
 dsimp only [List.cons_append, List.nil_append]
 refine TL.call (M := []) rfl (enters Tryz.func36 rfl rfl) (List.Perm.refl _) rfl (fun w hw => by
  exact fL _) ?_
 rintro k2
 dsimp only [List.cons_append, List.nil_append, exLk]
 refine TL.call (M := []) rfl (enters Tryz.func21 rfl rfl) (List.Perm.refl _) rfl (fun w hw => by
  exact fF _ x2 k2 (hw.holds _ (Pick.mem pk9)) (exLk_in (hw.holds _ (Pick.mem pk9)) rfl (by decide))) ?_
 rintro ⟨P2, p2⟩
 dsimp only [List.cons_append, List.nil_append]
 refine TL.p Pu.mv ?_
 refine TL.p Pu.ex ?_
 refine TL.p Pu.ex ?_
 refine TL.p Pu.as ?_
 refine TL.p Pu.as ?_
 refine TL.nil (TQ.thenN (hY3 _ _ ?_))
 refine TW.seq fun Y4 hY4 => TW.region ?_
 refine TL.call (M := []) rfl (enters Tryz.func35 rfl rfl) (List.Perm.refl _) rfl (fun w hw => by
  exact herd2_any _) ?_
 rintro x3
 dsimp only [List.cons_append, List.nil_append]
 refine TL.call (M := []) rfl (enters Tryz.func36 rfl rfl) (List.Perm.refl _) rfl (fun w hw => by
  exact fL _) ?_
 rintro k3
 dsimp only [List.cons_append, List.nil_append, exLk]
 refine TL.call (M := []) rfl (enters Tryz.func40 rfl rfl) (List.Perm.refl _) rfl (fun w hw => by
  exact fC _) ?_
 rintro c3
 dsimp only [List.cons_append, List.nil_append, exLk]
 refine TL.m Mk.bl ?_
 intro b1
 refine TL.p Pu.bd ?_
 refine TL.m Mk.bl ?_
 intro b2
 refine TL.call (M := []) rfl (enters Tryz.func20 rfl rfl) (List.Perm.refl _) rfl (fun w hw => by
  exact exHN (x := x3) (b1 := k3) (b2 := c3) (hw.holds _ (Pick.mem pk9)) (exLs_in (hw.holds _ (Pick.mem pk9)) (hw.holds _ (Pick.mem pk9)) (hw.holds _ (Pick.mem pk9))) (exCv_in (hw.holds _ (Pick.mem pk9)))) ?_
 rintro y3
 dsimp only [List.cons_append, List.nil_append]
 refine TL.p Pu.mv ?_
 refine TL.p Pu.ex ?_
 refine TL.p Pu.ex ?_
 refine TL.p Pu.as ?_
 refine TL.p Pu.as ?_
 refine TL.nil (TQ.thenN (hY4 _ _ ?_))
 refine TW.seq fun Y5 hY5 => TW.region ?_
 refine TL.call (M := []) rfl (enters Tryz.func35 rfl rfl) (List.Perm.refl _) rfl (fun w hw => by
  exact herd2_any _) ?_
 rintro x4
 dsimp only [List.cons_append, List.nil_append]
 refine TL.call (M := []) rfl (enters Tryz.func28 rfl rfl) (List.Perm.refl _) rfl (fun w hw => by
  exact exHT (x := x4) (hw.holds _ (Pick.mem pk9)) eTel.1 eTel.2.1) ?_
 rintro ⟨P4, p4⟩
 dsimp only [List.cons_append, List.nil_append]
 refine TL.p Pu.mv ?_
 refine TL.p Pu.ex ?_
 refine TL.p Pu.ex ?_
 refine TL.p Pu.as ?_
 refine TL.p Pu.as ?_
 refine TL.nil (TQ.thenN (hY5 _ _ ?_))
 refine TW.seq fun Y6 hY6 => TW.region ?_
 refine TL.call (M := []) rfl (enters Tryz.func35 rfl rfl) (List.Perm.refl _) rfl (fun w hw => by
  exact herd2_any _) ?_
 rintro x5
 dsimp only [List.cons_append, List.nil_append]
 refine TL.cr rfl (enters Tryz.func33 rfl rfl) (fun w hw => by
  exact exHK (x := x5) (hw.holds _ (Pick.mem pk9))) ?_
 refine TL.p Pu.mv ?_
 refine TL.p Pu.ex ?_
 refine TL.p Pu.ex ?_
 refine TL.p Pu.ex ?_
 refine TL.p Pu.as ?_
 refine TL.p Pu.as ?_
 refine TL.p Pu.as ?_
 refine TL.nil (TQ.thenN (hY6 _ _ ?_))
 refine TW.seq fun Y7 hY7 => TW.region ?_
 refine TL.cr rfl (enters Tryz.func18 rfl rfl) (fun w hw => by
  exact span2_any _ _ _) ?_
 refine TL.cr rfl (enters Tryz.func38 rfl rfl) (fun w hw => by
  exact row2_any _) ?_
 refine TL.m Mk.bl ?_
 intro b3
 refine TL.call (M := []) rfl (enters Tryz.func30 rfl rfl) (List.Perm.refl _) rfl (fun w hw => by
  exact exTal (hw.holds _ (Pick.mem pk9))) ?_
 rintro ⟨P6, p6, Q6, q6⟩
 dsimp only [List.cons_append, List.nil_append]
 refine TL.p Pu.mv ?_
 refine TL.p Pu.ex ?_
 refine TL.p Pu.ex ?_
 refine TL.p Pu.ex ?_
 refine TL.p Pu.ex ?_
 refine TL.p Pu.as ?_
 refine TL.p Pu.as ?_
 refine TL.p Pu.as ?_
 refine TL.p Pu.as ?_
 refine TL.nil (TQ.thenN (hY7 _ _ ?_))
 refine TW.seq fun Y8 hY8 => TW.region ?_
 refine TL.cr rfl (enters Tryz.func38 rfl rfl) (fun w hw => by
  exact row2_any _) ?_
 refine TL.m (Mk.al ty_zr71) ?_
 intro b4
 first | refine TL.st ty_sz71 ?_ | refine TL.se ty_sz71 ?_
 refine TL.nil (TQ.thenN (hY8 _ _ ?_))
 refine TW.seq fun Y9 hY9 => TW.region ?_
 refine TL.p (by first | exact Pu.fb ty_fa71_3 | exact Pu.fe ty_fa71_3) ?_
 refine TL.p (by first | exact Pu.fb ty_fa36_1 | exact Pu.fe ty_fa36_1) ?_
 first | refine TL.st ty_sz3 ?_ | refine TL.se ty_sz3 ?_
 refine TL.nil (TQ.thenN (hY9 _ _ ?_))
 refine TW.seq fun Y10 hY10 => TW.region ?_
 refine TL.p Pu.mv ?_
 refine TL.p Pu.eq ?_
 refine TL.lit (t := 62) (b' := true) rfl (rfl) ?_
 refine TL.p Pu.mv ?_
 refine TL.gd Pu.mv ?_
 refine TL.cr rfl (enters Tryz.func18 rfl rfl) (fun w hw => by
  exact span2_any _ _ _) ?_
 refine TL.cr rfl (enters Tryz.func18 rfl rfl) (fun w hw => by
  exact span2_any _ _ _) ?_
 refine TL.cr rfl (enters Tryz.func18 rfl rfl) (fun w hw => by
  exact span2_any _ _ _) ?_
 refine TL.cr rfl (enters Tryz.func18 rfl rfl) (fun w hw => by
  exact span2_any _ _ _) ?_
 refine TL.gm Mk.bl ?_
 intro b5
 refine TL.cr rfl (enters Tryz.func41 rfl rfl) (fun w hw => by
  exact sameSpans_any (fun i j => if j = 0 then (exBr i).1 else (exBr i).2) (n := 4) (OwnR.rdr (hw.holds (.own P1 4 p1 36 2 (fun j => spL (exBr j).1 (exBr j).2)) (Pick.mem pk9))) (RdR.blk (cs := [.int .i64 0, .int .i64 100, .int .i64 1400, .int .i64 1600, .int .i64 5000, .int .i64 10100, .int .i64 2900, .int .i64 3100]) (n := 4) (sz := 2) (hw.holds _ (List.mem_cons_self ..)) rfl (fun _ _ => rfl)) (by decide)) ?_
 refine TL.lit (t := 70) (b' := true) rfl (rfl) ?_
 refine TL.p Pu.kt ?_
 refine TL.p Pu.mv ?_
 refine TL.gd Pu.mv ?_
 refine TL.gd Pu.eq ?_
 refine TL.lit (t := 74) (b' := true) rfl (rfl) ?_
 refine TL.p Pu.kt ?_
 refine TL.p Pu.mv ?_
 refine TL.gd Pu.mv ?_
 refine TL.gm Mk.bl ?_
 intro b6
 refine TL.cr rfl (enters Tryz.func37 rfl rfl) (fun w hw => by
  exact bSameInts_any (n := 2) (v := fun j => ([2, 3] : List Int).getD j 0) (by decide) (OwnR.rdr (hw.holds (.own P2 2 p2 3 1 (iL [2, 3])) (Pick.mem pk9))) (RdR.blk (cs := [.int .i64 2, .int .i64 3]) (n := 2) (sz := 1) (hw.holds _ (List.mem_cons_self ..)) rfl (fun _ _ => rfl))) ?_
 refine TL.lit (t := 79) (b' := true) rfl (rfl) ?_
 refine TL.p Pu.kt ?_
 refine TL.p Pu.mv ?_
 refine TL.gd Pu.mv ?_
 refine TL.gd Pu.eq ?_
 refine TL.lit (t := 83) (b' := true) rfl (rfl) ?_
 refine TL.p Pu.kt ?_
 refine TL.p Pu.mv ?_
 refine TL.gd Pu.mv ?_
 refine TL.gm Mk.bl ?_
 intro b7
 refine TL.gm Mk.bl ?_
 intro b8
 refine TL.gm Mk.bl ?_
 intro b9
 refine TL.cr rfl (enters Tryz.func42 rfl rfl) (fun w hw => by
  exact exSl (hw.holds _ (Pick.mem pk9)) (hw.holds _ (Pick.mem pk9)) (hw.holds _ (Pick.mem pk9)) (hw.holds _ (List.mem_cons_self ..)) (hw.holds _ (List.mem_cons_of_mem _ (List.mem_cons_of_mem _ (List.mem_cons_self ..)))) (hw.holds _ (List.mem_cons_of_mem _ (List.mem_cons_self ..)))) ?_
 refine TL.lit (t := 90) (b' := true) rfl (rfl) ?_
 refine TL.p Pu.kt ?_
 refine TL.p Pu.mv ?_
 refine TL.gd Pu.mv ?_
 refine TL.gd Pu.eq ?_
 refine TL.lit (t := 94) (b' := true) rfl (rfl) ?_
 refine TL.p Pu.kt ?_
 refine TL.p Pu.mv ?_
 refine TL.gd Pu.mv ?_
 refine TL.gm Mk.bl ?_
 intro b10
 refine TL.cr rfl (enters Tryz.func37 rfl rfl) (fun w hw => by
  exact bSameInts_any (n := 2) (v := fun j => ([0, 1] : List Int).getD j 0) (by decide) (OwnR.rdr (hw.holds (.own P4 2 p4 3 1 (iL [0, 1])) (Pick.mem pk9))) (RdR.blk (cs := [.int .i64 0, .int .i64 1]) (n := 2) (sz := 1) (hw.holds _ (List.mem_cons_self ..)) rfl (fun _ _ => rfl))) ?_
 refine TL.lit (t := 99) (b' := true) rfl (rfl) ?_
 refine TL.p Pu.kt ?_
 refine TL.p Pu.mv ?_
 refine TL.gd Pu.mv ?_
 refine TL.gd Pu.eq ?_
 refine TL.lit (t := 103) (b' := true) rfl (rfl) ?_
 refine TL.p Pu.kt ?_
 refine TL.p Pu.mv ?_
 refine TL.gd Pu.mv ?_
 refine TL.gd Pu.eq ?_
 refine TL.lit (t := 107) (b' := true) rfl (rfl) ?_
 refine TL.p Pu.kt ?_
 refine TL.p Pu.mv ?_
 refine TL.gd Pu.mv ?_
 refine TL.gd Pu.eq ?_
 refine TL.lit (t := 111) (b' := true) rfl (rfl) ?_
 refine TL.p Pu.kt ?_
 refine TL.p Pu.mv ?_
 refine TL.gd Pu.mv ?_
 refine TL.gd Pu.eq ?_
 refine TL.lit (t := 115) (b' := true) rfl (rfl) ?_
 refine TL.p Pu.kt ?_
 refine TL.p Pu.mv ?_
 refine TL.gd Pu.mv ?_
 refine TL.cr rfl (enters Tryz.func18 rfl rfl) (fun w hw => by
  exact span2_any _ _ _) ?_
 refine TL.cr rfl (enters Tryz.func18 rfl rfl) (fun w hw => by
  exact span2_any _ _ _) ?_
 refine TL.gm Mk.bl ?_
 intro b11
 refine TL.cr rfl (enters Tryz.func41 rfl rfl) (fun w hw => by
  exact sameSpans_any (fun i j => if j = 0 then (exCn i).1 else (exCn i).2) (n := 2) (OwnR.rdr (hw.holds (.own P6 2 p6 36 2 (fun i => spL (exCn i).1 (exCn i).2)) (Pick.mem pk9))) (RdR.blk (cs := [.int .i64 10, .int .i64 12, .int .i64 11, .int .i64 11]) (n := 2) (sz := 2) (hw.holds _ (List.mem_cons_self ..)) rfl (fun _ _ => rfl)) (by decide)) ?_
 refine TL.lit (t := 122) (b' := true) rfl (rfl) ?_
 refine TL.p Pu.kt ?_
 refine TL.p Pu.mv ?_
 refine TL.gd Pu.mv ?_
 refine TL.gd (Pu.lds ty_ag71) ?_
 refine TL.gm Mk.bl ?_
 intro b12
 refine TL.cr rfl (enters Tryz.func43 rfl rfl) (fun w hw => by
  exact sameRows_any (fun _ => exR 3) (n := 1) (OwnR.rdr (hw.holds (.own Q6 1 q6 71 14 (fun _ => rowL (exR 3))) (Pick.mem pk9))) (RdR.blk (cs := [.int .i64 1, .int .i64 2, .int .i64 0, .int .i64 0, .int .i64 0, .int .i64 0, .int .i64 0, .int .i64 3, .int .i64 0, .int .i64 0, .int .i64 0, .int .i64 0, .int .i64 11, .int .i64 11]) (n := 1) (sz := 14) (hw.holds _ (List.mem_cons_self ..)) rfl (fun _ _ => rfl)) (by decide)) ?_
 refine TL.lit (t := 128) (b' := true) rfl (rfl) ?_
 refine TL.p Pu.kt ?_
 refine TL.p Pu.as ?_
 refine TL.nil (TQ.thenN (hY10 _ _ ?_))
 refine TW.ret ?_
 refine TQ.ret Tryz.results12 rfl ((.tmp rfl .nil)) ?_
 exact fun w hw => Ret.of hw
end Go.Proofs.YtbenhafhklfhmaaGreat
namespace Go.Proofs.YtbenhafhklfhmaaGreat
set_option linter.all false
set_option linter.unusedVariables false
set_option linter.unusedSimpArgs false
open Go.RowKit
set_option maxRecDepth 100000 in
theorem has2_any {A : Option Addr} {n cp : Nat} {v : Nat → Int} {w : World} (x : Int) (hn : n ≤ 1000000) (hR : RdR w 1 A n (fun k => [.int .i64 (v k)])) :
  Calls Tryz.prog 22 #[.slice A n cp, .int .i64 x] w (Ret w (.bool (anyB n fun k => decide (v k = x)))) := by
 refine K_enter (S := []) (K := []) Tryz.func22 rfl Tryz.ntmps22 rfl (Sat.start _) ?_
 refine TW.seq fun Y1 hY1 => TW.region ?_
 refine TL.p Pu.as ?_
 refine TL.nil (TQ.thenN (hY1 _ _ ?_))
 refine TW.seq fun Y2 hY2 => ?_
 refine TW.seq fun Y3 hY3 => TW.region ?_
 refine TL.p Pu.mv ?_
 refine TL.p (Pu.ln Tryz.underlying28) ?_
 refine TL.p Pu.mv ?_
 refine TL.nil (TQ.thenN (hY3 _ _ ?_))
 refine TW.block ?_
 refine TW.loop1 (fun (k : Nat) => [(9, .int .i64 (k : Int)), (8, .int .i64 (n : Int)), (7, .slice A n cp), (1, .int .i64 x)]) (fun k => []) (fun k => k ≤ n ∧ ∀ j, j < k → v j ≠ x) (fun k => n - k) 0 fs9 ?_ ?_ ?_
 exact ks9
 exact ⟨Nat.zero_le _, fun j hj => by omega⟩
 rintro k ⟨hk, hall⟩ Z0 hZ0
 refine TW.seq fun Y4 hY4 => TW.region ?_
 refine TL.p Pu.lt ?_
 refine TL.nil (TQ.thenN (hY4 _ _ ?_))
 refine TW.seq fun Y5 hY5 => ?_
 refine TW.cond rfl (fun hc0 => ?_) (fun hc0 => ?_)
 try simp only [zcb9] at hc0
 have hkn : k < n := by omega
 refine TW.skip ?_
 refine TQ.thenN (hY5 _ _ ?_)
 refine TW.seq fun Y6 hY6 => ?_
 refine TW.block ?_
 refine TW.seq fun Y7 hY7 => TW.region ?_
 refine TL.p (Pu.el ty_et28) ?_
 refine TL.p (Pu.ld ty_sc3) ?_
 refine TL.p Pu.as ?_
 refine TL.nil (TQ.thenN (hY7 _ _ ?_))
 refine TW.seq fun Y8 hY8 => TW.region ?_
 refine TL.p Pu.mv ?_
 refine TL.p Pu.mv ?_
 refine TL.p Pu.eq ?_
 refine TL.nil (TQ.thenN (hY8 _ _ ?_))
 refine TW.cond rfl (fun hc1 => ?_) (fun hc1 => ?_)
 try simp only [zcb9] at hc1
 have he : v k = x := hc1
 refine TW.seq fun Y9 hY9 => TW.region ?_
 refine TL.p Pu.as ?_
 refine TL.nil (TQ.thenN (hY9 _ _ ?_))
 refine TW.ret ?_
 refine TQ.blkR ?_
 refine TQ.thenR ?_
 refine TQ.thenR ?_
 refine TQ.blkR ?_
 refine TQ.thenR ?_
 refine TQ.ret Tryz.results22 rfl ((.tmp rfl .nil)) ?_
 exact fun w hw => ⟨ret_bool (anyB_iff.2 ⟨k, hkn, decide_eq_true he⟩), Chg.ext hw.chg⟩
 try simp only [zcb9] at hc1
 have he : v k ≠ x := hc1
 refine TW.skip ?_
 refine TQ.blkN ?_
 refine TQ.thenN (hY6 _ _ ?_)
 refine TW.region ?_
 refine TL.p Pu.ad ?_
 refine TL.p Pu.mv ?_
 refine TL.nil ?_
 refine TQ.thenN (hZ0 (k + 1) _ _ ?_ ?_ fs9 ?_)
 refine ⟨by omega, fun j hj => ?_⟩
 by_cases e : j = k
 rw [e]; exact he
 exact hall j (by omega)
 exact zom9
 exact ks9
 try simp only [zcb9] at hc0
 obtain rfl : k = n := by omega
 refine TW.exit ?_
 refine TQ.thenX ?_
 refine TQ.thenX ?_
 refine TQ.blkX ?_
 refine TQ.thenN (hY2 _ _ ?_)
 refine TW.seq fun Y10 hY10 => TW.region ?_
 refine TL.p Pu.as ?_
 refine TL.nil (TQ.thenN (hY10 _ _ ?_))
 refine TW.ret ?_
 refine TQ.ret Tryz.results22 rfl ((.tmp rfl .nil)) ?_
 exact fun w hw => ⟨ret_bool (anyB_false.2 fun j hj => decide_eq_false (hall j hj)), Chg.ext hw.chg⟩
section
variable {w : World} {A : Option Addr} {cp : Nat} {H : Hd} {a : Nat → Option Addr} {c : Nat → Nat}
theorem rdy_code {H : Hd} : decide ((if herdB H then (0 : Int) else 20) = 0) = herdB H := by
 cases herdB H <;> rfl
def rdyH (H : Hd) : Bool := !greatH H && herdB H
theorem rdy_in {H : Hd} (h : rdyH H = true) : HOk H ∧ H.n ≤ 1000 ∧ ∀ i, i < H.n → H.ml i ≤ 1000 := by
 unfold rdyH at h
 rw [Bool.and_eq_true, Bool.not_eq_true'] at h
 obtain ⟨h20, h12⟩ := great_in h.1
 exact ⟨herdB_ok.1 h.2, by omega, fun i hi => by have := h12 i hi; omega⟩
set_option maxRecDepth 100000 in
theorem ready2_any (hR : RdR w 5 A H.n (fun i => anL H a c i)) (hM : ∀ i, i < H.n → RdR w 2 (a i) (H.ml i) (fun k => spL (H.sp i k) (H.sg i k))) : Calls Tryz.prog 13 #[.slice A H.n cp] w (Ret w (.bool (rdyH H))) := by
 refine K_enter (S := []) (K := []) Tryz.func13 rfl Tryz.ntmps13 rfl (Sat.start _) ?_
 refine TW.seq fun Y1 hY1 => TW.region ?_
 refine TL.p Pu.as ?_
 refine TL.nil (TQ.thenN (hY1 _ _ ?_))
 refine TW.seq fun Y2 hY2 => TW.region ?_
 refine TL.p Pu.mv ?_
 refine TL.cr rfl (enters Tryz.func44 rfl rfl) (fun w hw => by
  exact rGreat_any (hR.sat hw Apart.nil)) ?_
 refine TL.p Pu.no ?_
 refine TL.p Pu.mv ?_
 refine TL.guard (t := 6) rfl (fun hg1 => ?_) (fun hg1 => ?_)
 try simp only [zgb9] at hg1
 refine TL.gd Pu.mv ?_
 refine TL.cr rfl (enters Tryz.func45 rfl rfl) (fun w hw => by
  obtain ⟨h20, h12⟩ := great_in (show greatH H = false by simpa using hg1)
  exact rCheck_any (HIn.sat ⟨by omega, hR, hM, fun i hi => by have := h12 i hi; omega⟩ hw)) ?_
 refine TL.gd (Pu.bv Pu.eq (rdy_code (H := H))) ?_
 refine TL.p Pu.kt ?_
 refine TL.p Pu.as ?_
 refine TL.nil (TQ.thenN (hY2 _ _ ?_))
 refine TW.ret ?_
 refine TQ.ret Tryz.results13 rfl ((.tmp rfl .nil)) ?_
 refine fun w hw => ⟨ret_bool ?_, Chg.ext hw.chg⟩
 unfold rdyH
 simp [*]
 try simp only [zgb9] at hg1
 refine TL.gs ?_
 refine TL.gs ?_
 refine TL.gs ?_
 refine TL.p Pu.kf ?_
 refine TL.p Pu.as ?_
 refine TL.nil (TQ.thenN (hY2 _ _ ?_))
 refine TW.ret ?_
 refine TQ.ret Tryz.results13 rfl ((.tmp rfl .nil)) ?_
 refine fun w hw => ⟨ret_bool ?_, Chg.ext hw.chg⟩
 unfold rdyH
 simp [*]
end
end Go.Proofs.YtbenhafhklfhmaaGreat
namespace Go.Proofs.YtbenhafhklfhmaaGreat
set_option linter.all false
set_option linter.unusedVariables false
set_option linter.unusedSimpArgs false
def lnV (H : Hd) (i s : Nat) : Int := H.id (upH (moH H) i s).toNat
section
variable {H : Hd} {i j s q : Nat}
theorem ln_0 : lnV H i 0 = H.id i := by unfold lnV upH; rw [Int.toNat_natCast]
theorem up_in (hk : HOk H) (hi : i < H.n) (hs : s < depH (moH H) H.n i) : 0 ≤ upH (moH H) i s ∧ (upH (moH H) i s).toNat < H.n := by
 have h1 := dep_in hs
 have h2 := upH_bd (f := moH H) moH_Mo hi s
 omega
theorem ln_iff (hk : HOk H) (hi : i < H.n) (hj : j < H.n) (hs : s < depH (moH H) H.n i) (hq : q < depH (moH H) H.n j) : lnV H i s = lnV H j q ↔ upH (moH H) i s = upH (moH H) j q := by
 obtain ⟨h1, h2⟩ := up_in hk hi hs
 obtain ⟨h3, h4⟩ := up_in hk hj hq
 constructor
 · intro e
   have := hk.inj h2 h4 e
   omega
 · intro e; unfold lnV; rw [e]
theorem lin_all (hk : HOk H) (hi : i < H.n) : linC H (H.id i) = 0 ∧ linN H (H.id i) + 1 = depH (moH H) H.n i ∧ ∀ s, linV H (H.id i) s = lnV H i (s + 1) := by
 have h0 := hk.at_ i hi
 have hd := dep_pos (hk.ac i hi)
 have hc : linC H (H.id i) = 0 := by
   unfold linC
   rw [herdB_ok.2 hk, if_pos rfl, if_pos (by omega)]
 refine ⟨hc, ?_, fun s => ?_⟩
 · unfold linN
   rw [if_pos hc, h0, Int.toNat_natCast]
   omega
 · unfold linV lnV
   rw [h0, Int.toNat_natCast]
theorem kin_code (hk : HOk H) (hi : i < H.n) (hj : j < H.n) : kinC H (H.id i) (H.id j) = if kinU (moH H) H.n i j < depH (moH H) H.n i then 0 else 6 := by
 have h0 := hk.at_ i hi
 have h1 := hk.at_ j hj
 unfold kinC
 rw [herdB_ok.2 hk, if_pos rfl, if_pos (by omega), h0, h1, Int.toNat_natCast, Int.toNat_natCast]
theorem kin_res (hk : HOk H) (hi : i < H.n) (hj : j < H.n) (h : kinU (moH H) H.n i j < depH (moH H) H.n i) : kinR H (H.id i) (H.id j) = ((kinU (moH H) H.n i j : Int), kinD (moH H) H.n i j) := by
 have h0 := hk.at_ i hi
 have h1 := hk.at_ j hj
 unfold kinR
 rw [kin_code hk hi hj, if_pos h, if_pos rfl, h0, h1, Int.toNat_natCast, Int.toNat_natCast]
theorem kin_none (hk : HOk H) (hi : i < H.n) (hj : j < H.n) (h : ¬ kinU (moH H) H.n i j < depH (moH H) H.n i) : kinR H (H.id i) (H.id j) = (0, 0) := by
 unfold kinR
 rw [kin_code hk hi hj, if_neg h, if_neg (by decide)]
theorem kin_two (hk : HOk H) (hi : i < H.n) (hj : j < H.n) : kinC H (H.id i) (H.id j) = kinC H (H.id j) (H.id i) ∧ (kinR H (H.id i) (H.id j)).1 = (kinR H (H.id j) (H.id i)).2 ∧ (kinR H (H.id i) (H.id j)).2 = (kinR H (H.id j) (H.id i)).1 := by
 have hs := kinU_sym (f := moH H) (n := H.n) (i := i) (j := j)
 by_cases h : kinU (moH H) H.n i j < depH (moH H) H.n i
 · have h2 := hs.1 h
   obtain ⟨e1, e2, e3⟩ := kin_back hk.ac moH_Mo hi hj h
   rw [kin_code hk hi hj, kin_code hk hj hi, if_pos h, if_pos h2, kin_res hk hi hj h, kin_res hk hj hi h2]
   dsimp only
   refine ⟨rfl, e2.symm, ?_⟩
   rw [e1, e3]
 · have h2 : ¬ kinU (moH H) H.n j i < depH (moH H) H.n j := fun h9 => h (hs.2 h9)
   rw [kin_code hk hi hj, kin_code hk hj hi, if_neg h, if_neg h2, kin_none hk hi hj h, kin_none hk hj hi h2]
   exact ⟨rfl, rfl, rfl⟩
theorem kin_apart (hk : HOk H) (hi : i < H.n) (hj : j < H.n) (h : ¬ kinU (moH H) H.n i j < depH (moH H) H.n i) (hs : s < depH (moH H) H.n i) : anyB (depH (moH H) H.n j) (fun q => decide (lnV H j q = lnV H i s)) = false := by
 rw [anyB_false]
 intro q hq
 refine decide_eq_false fun e => h (kinU_lt.2 ⟨s, hs, q, hq, ?_⟩)
 exact (ln_iff hk hi hj hs hq).1 e.symm
theorem kin_meet (hk : HOk H) (hi : i < H.n) (hj : j < H.n) (h : kinU (moH H) H.n i j < depH (moH H) H.n i) : ∃ d, d < depH (moH H) H.n j ∧ kinD (moH H) H.n i j = (d : Int) ∧ lnV H i (kinU (moH H) H.n i j) = lnV H j d ∧ ∀ s, s < kinU (moH H) H.n i j → anyB (depH (moH H) H.n j) (fun q => decide (lnV H j q = lnV H i s)) = false := by
 obtain ⟨d, h1, h2, h3, h4⟩ := kin_first h
 refine ⟨d, h1, h3, (ln_iff hk hi hj h h1).2 h2, fun s hs => ?_⟩
 rw [anyB_false]
 intro q hq
 exact decide_eq_false fun e => h4 s hs q hq ((ln_iff hk hi hj (by omega) hq).1 e.symm)
theorem kin_mum (hk : HOk H) (hi : i < H.n) (h : H.mo i ≠ -1) : kinC H (H.id i) (H.mo i) = 0 ∧ kinR H (H.id i) (H.mo i) = (1, 0) ∧ 1 < depH (moH H) H.n i ∧ lnV H i 1 = H.mo i := by
 have h0 : 0 ≤ moH H i := by
  by_cases h0 : 0 ≤ moH H i
  · exact h0
  · exact absurd ((hk.root hi).1 (by omega)) h
 obtain ⟨e1, e2, e3⟩ := hk.mid hi h0
 obtain ⟨k1, k2, k3⟩ := kin_mother hk.ac moH_Mo hi h0
 rw [← e1, kin_code hk hi e2, if_pos (by omega), kin_res hk hi e2 (by omega), k1, k2]
 refine ⟨rfl, rfl, k3, ?_⟩
 unfold lnV
 have e9 : upH (moH H) i 1 = moH H i := by
  show (if (i : Int) < 0 then -1 else moH H (i : Int).toNat) = moH H i
  rw [if_neg (by omega), Int.toNat_natCast]
 rw [e9]
end
end Go.Proofs.YtbenhafhklfhmaaGreat
namespace Go.Proofs.YtbenhafhklfhmaaGreat
set_option linter.all false
set_option linter.unusedVariables false
set_option linter.unusedSimpArgs false
open Go.RowKit
section
variable {c : Cx} {Q : Exit → Act → World → Prop} {F : Fr} {K K' K1 : List Fact} {ops : Array Oper} {rest : List Oper}
theorem OwnR.cap {w : World} {A : Option Addr} {n cp : Nat} {E : TypeId} {sz : Nat} {r : Nat → List Value} (h : OwnR w A n cp E sz r) : n ≤ cp := by
 obtain ⟨A', c', e, h1, _⟩ := h.own.form
 cases e
 exact h1
theorem TW.ocap {x : Code} {A : Option Addr} {n cp : Nat} {E : TypeId} {sz : Nat} {r : Nat → List Value} (hp : Pick K (.own A n cp E sz r) K') (h : n ≤ cp → TW c x Q F K) : TW c x Q F K := fun a w hF hK =>
 h (OwnR.cap (hK.holds (.own A n cp E sz r) hp.mem)) a w hF hK
end
section
variable {c : Cx} {F : Fr} {K : List Fact} {d : Option Tmp} {ty xt yt : TypeId} {pos : String} {af : Array Edge} {g : Option (Nat × Bool)} {x y : Operand}
end
end Go.Proofs.YtbenhafhklfhmaaGreat
namespace Go.Proofs.YtbenhafhklfhmaaGreat
set_option linter.all false
set_option linter.unusedVariables false
set_option linter.unusedSimpArgs false
open Go.RowKit
structure KinS (H : Hd) (i j p q m m' : Nat) (e : Int) : Prop where
 mi : 1 + m = depH (moH H) H.n i
 mj : 1 + m' = depH (moH H) H.n j
 ye : e = 0 → p < 1 + m ∧ q < 1 + m' ∧ lnV H i p = lnV H j q ∧ ∀ s, s < p → anyB (1 + m') (fun k => decide (lnV H j k = lnV H i s)) = false
 no : e ≠ 0 → e = 6 ∧ ∀ s, s < 1 + m → anyB (1 + m') (fun k => decide (lnV H j k = lnV H i s)) = false
section
variable {w : World} {A : Option Addr} {cp : Nat} {H : Hd} {a : Nat → Option Addr} {c : Nat → Nat} {i j : Nat}
theorem kin_say (hk : HOk H) (hi : i < H.n) (hj : j < H.n) : ∃ (p q m m' : Nat) (e : Int), KinS H i j p q m m' e ∧ kinR H (H.id i) (H.id j) = ((p : Int), (q : Int)) ∧ kinC H (H.id i) (H.id j) = e ∧ kinR H (H.id j) (H.id i) = ((q : Int), (p : Int)) ∧ kinC H (H.id j) (H.id i) = e ∧ linN H (H.id i) = m ∧ linN H (H.id j) = m' := by
 obtain ⟨_, h1, _⟩ := lin_all hk hi
 obtain ⟨_, h2, _⟩ := lin_all hk hj
 obtain ⟨k1, k2, k3⟩ := kin_two hk hi hj
 by_cases h : kinU (moH H) H.n i j < depH (moH H) H.n i
 · obtain ⟨d, h3, h4, h5, h6⟩ := kin_meet hk hi hj h
   have h7 := kin_res hk hi hj h
   rw [h4] at h7
   have h8 : kinC H (H.id i) (H.id j) = 0 := by rw [kin_code hk hi hj, if_pos h]
   rw [h7] at k2 k3
   refine ⟨kinU (moH H) H.n i j, d, linN H (H.id i), linN H (H.id j), 0, ⟨by omega, by omega, fun _ => ⟨by omega, by omega, h5, fun s hs => ?_⟩, fun h9 => absurd rfl h9⟩, h7, h8, Prod.ext k3.symm k2.symm, k1.symm.trans h8, rfl, rfl⟩
   rw [show 1 + linN H (H.id j) = depH (moH H) H.n j by omega]
   exact h6 s hs
 · have h7 := kin_none hk hi hj h
   have h8 : kinC H (H.id i) (H.id j) = 6 := by rw [kin_code hk hi hj, if_neg h]
   rw [h7] at k2 k3
   refine ⟨0, 0, linN H (H.id i), linN H (H.id j), 6, ⟨by omega, by omega, fun h9 => (by cases h9), fun _ => ⟨rfl, fun s hs => ?_⟩⟩, h7, h8, Prod.ext k3.symm k2.symm, k1.symm.trans h8, rfl, rfl⟩
   rw [show 1 + linN H (H.id j) = depH (moH H) H.n j by omega]
   exact kin_apart hk hi hj h (by omega)
theorem lw_kin {p q : Nat} {e : Int} (i j : Nat) (h1 : kinR H (H.id i) (H.id j) = ((p : Int), (q : Int))) (h2 : kinC H (H.id i) (H.id j) = e) (h : HIn w A H a c) : Calls Tryz.prog 33 #[.slice A H.n cp, .int .i64 (H.id i), .int .i64 (H.id j)] w (Ret w (.tuple #[.int .i64 (p : Int), .int .i64 (q : Int), .int .i64 e])) := by
 have h9 := bKin_any (cp := cp) (ia := H.id i) (ib := H.id j) h
 rw [h1, h2] at h9
 exact h9
theorem lw_kin2 {i : Nat} {v : Int} (h1 : kinR H (H.id i) v = (1, 0)) (h2 : kinC H (H.id i) v = 0) (h : HIn w A H a c) : Calls Tryz.prog 33 #[.slice A H.n cp, .int .i64 (H.id i), .int .i64 v] w (Ret w (.tuple #[.int .i64 1, .int .i64 0, .int .i64 0])) := by
 have h9 := bKin_any (cp := cp) (ia := H.id i) (ib := v) h
 rw [h1, h2] at h9
 exact h9
theorem lw_line {m : Nat} (i : Nat) (hk : HOk H) (hi : i < H.n) (hm : linN H (H.id i) = m) (h : HIn w A H a c) : CallsK Tryz.prog 34 #[.slice A H.n cp, .int .i64 (H.id i)] [] w (Option Addr × Nat) (fun y => .tuple #[.slice y.1 m y.2, .int .i64 0]) (fun y => [.own y.1 m y.2 3 1 (fun s => [.int .i64 (lnV H i (s + 1))])]) := by
 obtain ⟨h1, _, h3⟩ := lin_all hk hi
 have h9 := bLine_any (cp := cp) (id := H.id i) h
 rw [h1, hm] at h9
 simp only [h3] at h9
 exact h9
theorem cat_ln {m s : Nat} : catR 1 (fun _ => [.int .i64 (H.id i)]) (fun s => [Value.int .i64 (lnV H i (s + 1))]) s = [.int .i64 (lnV H i s)] := by
  unfold catR
  split
  · obtain rfl : s = 0 := by omega
    rw [ln_0]
  · show [Value.int .i64 (lnV H i (s - 1 + 1))] = _
    rw [show s - 1 + 1 = s by omega]
set_option maxRecDepth 100000 in
set_option maxHeartbeats 8000000 in
theorem lawKin_any (hR : RdR w 5 A H.n (fun i => anL H a c i)) (hM : ∀ i, i < H.n → RdR w 2 (a i) (H.ml i) (fun k => spL (H.sp i k) (H.sg i k))) (o t : Nat) (ho : o ≤ 255) (ht : t ≤ 255) :
  Calls Tryz.prog 10 #[.slice A H.n cp, .int .u8 (o : Int), .int .u8 (t : Int)] w (Ret w (.bool true)) := by
 refine K_enter (S := []) (K := []) Tryz.func10 rfl Tryz.ntmps10 rfl (Sat.start _) ?_
 refine TW.seq fun Y1 hY1 => TW.region ?_
 refine TL.p Pu.as ?_
 refine TL.nil (TQ.thenN (hY1 _ _ ?_))
 refine TW.seq fun Y2 hY2 => TW.region ?_
 refine TL.cr rfl (enters Tryz.func12 rfl rfl) (fun w hw => by
   exact alive_any _) ?_
 refine TL.p Pu.as ?_
 refine TL.nil (TQ.thenN (hY2 _ _ ?_))
 refine TW.seq fun Y3 hY3 => ?_
 refine TW.seq fun Y4 hY4 => ?_
 refine TW.join [(39, .bool (!rdyH H || decide ((H.n : Int) = 0)))] ?_ (fun hJ1 => ?_)
 refine TQ.thenN (hY4 _ _ ?_)
 refine TW.cond rfl (fun hc0 => ?_) (fun hc0 => ?_)
 try simp only [zcb9] at hc0
 refine TW.seq fun Y5 hY5 => TW.region ?_
 refine TL.p Pu.mv ?_
 refine TL.p Pu.as ?_
 refine TL.nil (TQ.thenN (hY5 _ _ ?_))
 refine TW.ret ?_
 refine TQ.thenR ?_
 refine TQ.ret Tryz.results10 rfl ((.tmp rfl .nil)) ?_
 exact fun w hw => Ret.of hw
 try simp only [zcb9] at hc0
 obtain ⟨hr0, hn0⟩ := hc0
 have hr1 : rdyH H = true := by simpa using hr0
 obtain ⟨hk, hI0⟩ := rdy_in hr1
 have hI : HIn w A H a c := ⟨hI0.1, hR, hM, hI0.2⟩
 have hnn : 0 < H.n := by omega
 have h16 := hk.n16
 obtain ⟨i, ei, hi⟩ : ∃ i : Nat, HidT ((o : Int) % (H.n : Int) = (i : Int)) ∧ i < H.n := ⟨o % H.n, hidT (Int.natCast_emod o H.n).symm, Nat.mod_lt _ hnn⟩
 obtain ⟨j, ej, hj⟩ : ∃ j : Nat, HidT ((t : Int) % (H.n : Int) = (j : Int)) ∧ j < H.n := ⟨t % H.n, hidT (Int.natCast_emod t H.n).symm, Nat.mod_lt _ hnn⟩
 obtain ⟨p, q, m, m', e, hS, k1, k2, k3, k4, k5, k6⟩ := kin_say hk hi hj
 replace k1 := hidT k1
 replace k2 := hidT k2
 replace k3 := hidT k3
 replace k4 := hidT k4
 replace k5 := hidT k5
 replace k6 := hidT k6
 have hmi : m ≤ 16 := by have := hS.mi; have := dep_le (f := moH H) (n := H.n) (i := i); omega
 have hmj : m' ≤ 16 := by have := hS.mj; have := dep_le (f := moH H) (n := H.n) (i := j); omega
 have hye := hidT hS.ye
 have hno := hidT hS.no
 have hmi0 := hS.mi
 clear hS
 refine TW.skip ?_
 refine TQ.thenN (hY3 _ _ ?_)
 refine TW.seq fun Y6 hY6 => ?_
 refine TW.expl (fun (⟨x16, x17⟩ : Nat × Nat) => ([(8, .pointer (some ⟨x16, 0, none⟩)), (9, .pointer (some ⟨x17, 0, none⟩)), (0, .slice A H.n cp), (7, .bool true)] : Fr)) (fun (⟨x16, x17⟩ : Nat × Nat) => [.blk x16 46 (anL H a c i), .blk x17 46 (anL H a c j)]) Drop.done ?_ (fun hE => ?_)
 rintro ⟨x16, x17⟩
 refine TQ.thenN (hY6 _ _ ?_)
 refine TW.seq fun Y7 hY7 => TW.region ?_
 refine TL.p Pu.mv ?_
 refine TL.p (by first | exact Pu.fb ty_fa46_0 | exact Pu.fe ty_fa46_0) ?_
 refine TL.p (Pu.ld ty_sc3) ?_
 refine TL.p (by first | exact Pu.fb ty_fa46_0 | exact Pu.fe ty_fa46_0) ?_
 refine TL.p (Pu.ld ty_sc3) ?_
 refine TL.cr rfl (enters Tryz.func33 rfl rfl) (fun w hw => by
   exact lw_kin i j k1.out k2.out (hI.sat hw)) ?_
 refine TL.p Pu.mv ?_
 refine TL.p Pu.ex ?_
 refine TL.p Pu.ex ?_
 refine TL.p Pu.ex ?_
 refine TL.p Pu.as ?_
 refine TL.p Pu.as ?_
 refine TL.p Pu.as ?_
 refine TL.nil (TQ.thenN (hY7 _ _ ?_))
 refine TW.seq fun Y8 hY8 => TW.region ?_
 refine TL.p Pu.mv ?_
 refine TL.p (by first | exact Pu.fb ty_fa46_0 | exact Pu.fe ty_fa46_0) ?_
 refine TL.p (Pu.ld ty_sc3) ?_
 refine TL.p (by first | exact Pu.fb ty_fa46_0 | exact Pu.fe ty_fa46_0) ?_
 refine TL.p (Pu.ld ty_sc3) ?_
 refine TL.cr rfl (enters Tryz.func33 rfl rfl) (fun w hw => by
   exact lw_kin j i k3.out k4.out (hI.sat hw)) ?_
 refine TL.p Pu.mv ?_
 refine TL.p Pu.ex ?_
 refine TL.p Pu.ex ?_
 refine TL.p Pu.ex ?_
 refine TL.p Pu.as ?_
 refine TL.p Pu.as ?_
 refine TL.p Pu.as ?_
 refine TL.nil (TQ.thenN (hY8 _ _ ?_))
 refine TW.seq fun Y9 hY9 => TW.region ?_
 refine TL.p Pu.mv ?_
 refine TL.p (by first | exact Pu.fb ty_fa46_0 | exact Pu.fe ty_fa46_0) ?_
 refine TL.p (Pu.ld ty_sc3) ?_
 refine TL.call (M := []) rfl (enters Tryz.func34 rfl rfl) (List.Perm.refl _) rfl (fun w hw => by
   exact lw_line i hk hi k5.out (hI.sat hw)) ?_
 rintro ⟨X1, x1⟩
 refine TL.p Pu.mv ?_
 refine TL.p Pu.ex ?_
 refine TL.p Pu.ex ?_
 refine TL.p Pu.as ?_
 refine TL.p Pu.as ?_
 refine TL.nil (TQ.thenN (hY9 _ _ ?_))
 refine TW.seq fun Y10 hY10 => TW.region ?_
 refine TL.p Pu.mv ?_
 refine TL.p (by first | exact Pu.fb ty_fa46_0 | exact Pu.fe ty_fa46_0) ?_
 refine TL.p (Pu.ld ty_sc3) ?_
 refine TL.call (M := []) rfl (enters Tryz.func34 rfl rfl) (List.Perm.refl _) rfl (fun w hw => by
   exact lw_line j hk hj k6.out (hI.sat hw)) ?_
 rintro ⟨X2, x2⟩
 refine TL.p Pu.mv ?_
 refine TL.p Pu.ex ?_
 refine TL.p Pu.ex ?_
 refine TL.p Pu.as ?_
 refine TL.p Pu.as ?_
 refine TL.nil (TQ.thenN (hY10 _ _ ?_))
 refine TW.seq fun Y11 hY11 => ?_
 refine TW.expl (fun (⟨A4, c4, A9, c9⟩ : Option Addr × Nat × Option Addr × Nat) => ([(16, .slice A4 (1 + m) c4), (18, .slice A9 (1 + m') c9), (0, .slice A H.n cp), (7, .bool true), (8, .pointer (some ⟨x16, 0, none⟩)), (9, .pointer (some ⟨x17, 0, none⟩)), (10, .int .i64 (p : Int)), (11, .int .i64 (q : Int)), (12, .int .i64 e), (13, .int .i64 (q : Int)), (14, .int .i64 (p : Int)), (15, .int .i64 e), (17, .int .i64 0), (19, .int .i64 0)] : Fr)) (fun (⟨A4, c4, A9, c9⟩ : Option Addr × Nat × Option Addr × Nat) => [.own A4 (1 + m) c4 3 1 (catR 1 (fun _ => [.int .i64 (H.id i)]) (fun s => [.int .i64 (lnV H i (s + 1))])), .own A9 (1 + m') c9 3 1 (catR 1 (fun _ => [.int .i64 (H.id j)]) (fun s => [.int .i64 (lnV H j (s + 1))])), .blk x16 46 (anL H a c i), .blk x17 46 (anL H a c j)]) Drop.done ?_ (fun hE => ?_)
 rintro ⟨A4, c4, A9, c9⟩
 refine TQ.thenN (hY11 _ _ ?_)
 refine TW.seq fun Y12 hY12 => ?_
 refine TW.subK (KSub.own Pick.hd (s := fun s => [.int .i64 (lnV H i s)]) (fun _ _ => cat_ln (m := 0)) (KSub.own Pick.hd (s := fun s => [.int .i64 (lnV H j s)]) (fun _ _ => cat_ln (m := 0)) (KSub.refl _))) ?_
 refine TW.seq fun Y13 hY13 => TW.region ?_
 refine TL.p Pu.mv ?_
 refine TL.p Pu.mv ?_
 refine TL.p Pu.ne ?_
 refine TL.lit (t := 103) (b' := false) rfl ((by simp)) ?_
 refine TL.p Pu.mv ?_
 refine TL.gd Pu.mv ?_
 refine TL.gd Pu.mv ?_
 refine TL.gd Pu.ne ?_
 refine TL.lit (t := 107) (b' := false) rfl ((by simp)) ?_
 refine TL.p Pu.kf ?_
 refine TL.p Pu.mv ?_
 refine TL.gd Pu.mv ?_
 refine TL.gd Pu.mv ?_
 refine TL.gd Pu.ne ?_
 refine TL.lit (t := 112) (b' := false) rfl ((by simp)) ?_
 refine TL.p Pu.kf ?_
 refine TL.p Pu.mv ?_
 refine TL.gd Pu.mv ?_
 refine TL.gd Pu.ne ?_
 refine TL.lit (t := 116) (b' := false) rfl (rfl) ?_
 refine TL.p Pu.kf ?_
 refine TL.p Pu.mv ?_
 refine TL.gd Pu.mv ?_
 refine TL.gd Pu.ne ?_
 refine TL.lit (t := 120) (b' := false) rfl (rfl) ?_
 refine TL.p Pu.kf ?_
 refine TL.nil (TQ.thenN (hY13 _ _ ?_))
 refine TW.condF rfl rfl ?_
 refine TW.skip ?_
 refine TQ.thenN (hY12 _ _ ?_)
 refine TW.seq fun Y14 hY14 => ?_
 refine TW.seq fun Y15 hY15 => TW.region ?_
 refine TL.p Pu.mv ?_
 refine TL.p Pu.ne ?_
 refine TL.nil (TQ.thenN (hY15 _ _ ?_))
 refine TW.cond rfl (fun hc2 => ?_) (fun hc2 => ?_)
 try simp only [zcb9] at hc2
 have hne : e ≠ 0 := by simpa using hc2
 obtain ⟨he6, hnm⟩ := hno.out hne
 refine TW.seq fun Y16 hY16 => ?_
 refine TW.seq fun Y17 hY17 => TW.region ?_
 refine TL.p Pu.mv ?_
 refine TL.p (Pu.ln Tryz.underlying28) ?_
 refine TL.p Pu.mv ?_
 refine TL.nil (TQ.thenN (hY17 _ _ ?_))
 refine TW.block ?_
 refine TW.loop1 (fun (s : Nat) => [(126, .int .i64 (s : Int)), (125, .int .i64 ((1 + m : Nat) : Int)), (124, .slice A4 (1 + m) c4), (18, .slice A9 (1 + m') c9), (7, .bool true), (12, .int .i64 e)]) (fun s => [.own A4 (1 + m) c4 3 1 (fun s => [.int .i64 (lnV H i s)]), .own A9 (1 + m') c9 3 1 (fun s => [.int .i64 (lnV H j s)])]) (fun s => s ≤ 1 + m) (fun s => 1 + m - s) 0 fs9 ?_ ?_ ?_
 exact ks9
 exact Nat.zero_le _
 rintro s hs Z0 hZ0
 refine TW.seq fun Y18 hY18 => TW.region ?_
 refine TL.p Pu.lt ?_
 refine TL.nil (TQ.thenN (hY18 _ _ ?_))
 refine TW.seq fun Y19 hY19 => ?_
 refine TW.cond rfl (fun hc3 => ?_) (fun hc3 => ?_)
 try simp only [zcb9] at hc3
 have hsm : s < 1 + m := by omega
 refine TW.skip ?_
 refine TQ.thenN (hY19 _ _ ?_)
 refine TW.seq fun Y20 hY20 => ?_
 refine TW.block ?_
 refine TW.seq fun Y21 hY21 => TW.region ?_
 refine TL.p (Pu.el ty_et28) ?_
 refine TL.p (Pu.ld ty_sc3) ?_
 refine TL.p Pu.as ?_
 refine TL.nil (TQ.thenN (hY21 _ _ ?_))
 refine TW.seq fun Y22 hY22 => TW.region ?_
 refine TL.p Pu.mv ?_
 refine TL.p Pu.mv ?_
 refine TL.cr rfl (enters Tryz.func22 rfl rfl) (fun w hw => by
   exact has2_any (v := lnV H j) _ (by omega) (OwnR.rdr (hw.holds (.own A9 (1 + m') c9 3 1 (fun s => [.int .i64 (lnV H j s)])) (Pick.mem pk9)))) ?_
 refine TL.nil (TQ.thenN (hY22 _ _ ?_))
 refine TW.condF rfl ((hnm s hsm)) ?_
 refine TW.skip ?_
 refine TQ.blkN ?_
 refine TQ.thenN (hY20 _ _ ?_)
 refine TW.region ?_
 refine TL.p Pu.ad ?_
 refine TL.p Pu.mv ?_
 refine TL.nil ?_
 refine TQ.thenN (hZ0 (s + 1) _ _ ?_ ?_ fs9 ?_)
 exact (by omega)
 exact zom9
 exact ks9
 try simp only [zcb9] at hc3
 refine TW.exit ?_
 refine TQ.thenX ?_
 refine TQ.thenX ?_
 refine TQ.blkX ?_
 refine TQ.thenN (hY16 _ _ ?_)
 refine TW.seq fun Y23 hY23 => TW.region ?_
 refine TL.p Pu.mv ?_
 refine TL.p Pu.mv ?_
 refine TL.lit (t := 135) (b' := true) rfl (rfl) ?_
 refine TL.gd Pu.mv ?_
 refine TL.gd Pu.eq ?_
 refine TL.lit (t := 137) (b' := true) rfl ((decide_eq_true he6)) ?_
 refine TL.p Pu.kt ?_
 refine TL.p Pu.as ?_
 refine TL.nil (TQ.thenN (hY23 _ _ ?_))
 refine TW.ret ?_
 refine TQ.thenR ?_
 refine TQ.ret Tryz.results10 rfl ((.tmp rfl .nil)) ?_
 exact fun w hw => Ret.of hw
 try simp only [zcb9] at hc2
 have hee : e = 0 := by simpa using hc2
 obtain ⟨hp, hq, hpq, hpm⟩ := hye.out hee
 refine TW.skip ?_
 refine TQ.thenN (hY14 _ _ ?_)
 refine TW.seq fun Y24 hY24 => ?_
 refine TW.seq fun Y25 hY25 => ?_
 refine TW.dw 29 ?_
 refine RK.tk Pu.mv ?_
 refine RK.tk (Pu.bv Pu.lt (decide_eq_false (by omega))) ?_
 refine RK.tk Pu.mv ?_
 refine RK.tk Pu.mv ?_
 refine RK.tk Pu.mv ?_
 refine RK.tk (Pu.ln Tryz.underlying28) ?_
 refine RK.tk (Pu.bv Pu.ge (decide_eq_false (by omega))) ?_
 refine RK.tk Pu.kf ?_
 refine RK.tk Pu.mv ?_
 refine RK.tk Pu.mv ?_
 refine RK.tk (Pu.bv Pu.lt (decide_eq_false (by omega))) ?_
 refine RK.tk Pu.kf ?_
 refine RK.tk Pu.mv ?_
 refine RK.tk Pu.mv ?_
 refine RK.tk Pu.mv ?_
 refine RK.tk (Pu.ln Tryz.underlying28) ?_
 refine RK.tk (Pu.bv Pu.ge (decide_eq_false (by omega))) ?_
 refine RK.tk Pu.kf ?_
 refine RK.tk Pu.mv ?_
 refine RK.tk Pu.mv ?_
 refine RK.tk Pu.mv ?_
 refine RK.tk (Pu.el ty_et28) ?_
 refine RK.tk (Pu.ld ty_sc3) ?_
 refine RK.tk Pu.mv ?_
 refine RK.tk Pu.mv ?_
 refine RK.tk (Pu.el ty_et28) ?_
 refine RK.tk (Pu.ld ty_sc3) ?_
 refine RK.tk (Pu.bv Pu.ne (show (!decide (lnV H i p = lnV H j q)) = false by rw [decide_eq_true hpq]; rfl)) ?_
 refine RK.tk Pu.kf ?_
 refine RK.ch [] ?_ trivial
 refine WK.n ?_
 refine TL.nil (TQ.thenN (hY25 _ _ ?_))
 refine TW.condF rfl rfl ?_
 refine TW.skip ?_
 refine TQ.thenN (hY24 _ _ ?_)
 refine TW.seq fun Y26 hY26 => ?_
 refine TW.ocap (A := A4) (n := 1 + m) (cp := c4) pk9 fun hc4 => ?_
 refine TW.seq fun Y27 hY27 => TW.region ?_
 refine TL.p Pu.mv ?_
 refine TL.p Pu.mv ?_
 refine TL.p (Pu.sh ty_et28) ?_
 refine TL.p (Pu.ln Tryz.underlying28) ?_
 refine TL.p Pu.mv ?_
 refine TL.nil (TQ.thenN (hY27 _ _ ?_))
 refine TW.block ?_
 refine TW.loop1 (fun (s : Nat) => [(172, .int .i64 (s : Int)), (171, .int .i64 (p : Int)), (170, .slice A4 p c4), (16, .slice A4 (1 + m) c4), (18, .slice A9 (1 + m') c9), (7, .bool true), (0, .slice A H.n cp), (8, .pointer (some ⟨x16, 0, none⟩))]) (fun s => [.own A4 (1 + m) c4 3 1 (fun s => [.int .i64 (lnV H i s)]), .own A9 (1 + m') c9 3 1 (fun s => [.int .i64 (lnV H j s)]), .blk x16 46 (anL H a c i)]) (fun s => s ≤ p) (fun s => p - s) 0 fs9 ?_ ?_ ?_
 exact ks9
 exact Nat.zero_le _
 rintro s hs Z1 hZ1
 refine TW.seq fun Y28 hY28 => TW.region ?_
 refine TL.p Pu.lt ?_
 refine TL.nil (TQ.thenN (hY28 _ _ ?_))
 refine TW.seq fun Y29 hY29 => ?_
 refine TW.cond rfl (fun hc6 => ?_) (fun hc6 => ?_)
 try simp only [zcb9] at hc6
 have hsp : s < p := by omega
 refine TW.skip ?_
 refine TQ.thenN (hY29 _ _ ?_)
 refine TW.seq fun Y30 hY30 => ?_
 refine TW.block ?_
 refine TW.seq fun Y31 hY31 => TW.region ?_
 refine TL.p (Pu.el ty_et28) ?_
 refine TL.p (Pu.ld ty_sc3) ?_
 refine TL.p Pu.as ?_
 refine TL.nil (TQ.thenN (hY31 _ _ ?_))
 refine TW.seq fun Y32 hY32 => TW.region ?_
 refine TL.p Pu.mv ?_
 refine TL.p Pu.mv ?_
 refine TL.cr rfl (enters Tryz.func22 rfl rfl) (fun w hw => by
   exact has2_any (v := lnV H j) _ (by omega) (OwnR.rdr (hw.holds (.own A9 (1 + m') c9 3 1 (fun s => [.int .i64 (lnV H j s)])) (Pick.mem pk9)))) ?_
 refine TL.nil (TQ.thenN (hY32 _ _ ?_))
 refine TW.condF rfl ((hpm s hsp)) ?_
 refine TW.skip ?_
 refine TQ.blkN ?_
 refine TQ.thenN (hY30 _ _ ?_)
 refine TW.region ?_
 refine TL.p Pu.ad ?_
 refine TL.p Pu.mv ?_
 refine TL.nil ?_
 refine TQ.thenN (hZ1 (s + 1) _ _ ?_ ?_ fs9 ?_)
 exact (by omega)
 exact zom9
 exact ks9
 try simp only [zcb9] at hc6
 refine TW.exit ?_
 refine TQ.thenX ?_
 refine TQ.thenX ?_
 refine TQ.blkX ?_
 refine TQ.thenN (hY26 _ _ ?_)
 refine TW.seq fun Y33 hY33 => ?_
 refine TW.seq fun Y34 hY34 => TW.region ?_
 refine TL.p (by first | exact Pu.fb ty_fa46_1 | exact Pu.fe ty_fa46_1) ?_
 refine TL.p (Pu.ld ty_sc3) ?_
 refine TL.p Pu.ne ?_
 refine TL.nil (TQ.thenN (hY34 _ _ ?_))
 refine TW.cond rfl (fun hc8 => ?_) (fun hc8 => ?_)
 try simp only [zcb9] at hc8
 have hm1 : H.mo i ≠ -1 := hc8
 obtain ⟨g1, g2, g3, g4⟩ := kin_mum hk hi hm1
 replace g1 := hidT g1
 replace g2 := hidT g2
 have g3 : 1 < 1 + m := by have := hmi0; omega
 replace g4 := hidT g4
 refine TW.seq fun Y35 hY35 => TW.region ?_
 refine TL.p Pu.mv ?_
 refine TL.p (by first | exact Pu.fb ty_fa46_0 | exact Pu.fe ty_fa46_0) ?_
 refine TL.p (Pu.ld ty_sc3) ?_
 refine TL.p (by first | exact Pu.fb ty_fa46_1 | exact Pu.fe ty_fa46_1) ?_
 refine TL.p (Pu.ld ty_sc3) ?_
 refine TL.cr rfl (enters Tryz.func33 rfl rfl) (fun w hw => by
   exact lw_kin2 g2.out g1.out (hI.sat hw)) ?_
 refine TL.p Pu.mv ?_
 refine TL.p Pu.ex ?_
 refine TL.p Pu.ex ?_
 refine TL.p Pu.ex ?_
 refine TL.p Pu.as ?_
 refine TL.p Pu.as ?_
 refine TL.p Pu.as ?_
 refine TL.nil (TQ.thenN (hY35 _ _ ?_))
 refine TW.seq fun Y36 hY36 => ?_
 refine TW.dw 23 ?_
 refine RK.tk Pu.mv ?_
 refine RK.tk (Pu.bv Pu.ne rfl) ?_
 refine RK.tk Pu.mv ?_
 refine RK.tk Pu.mv ?_
 refine RK.tk (Pu.bv Pu.ne rfl) ?_
 refine RK.tk Pu.kf ?_
 refine RK.tk Pu.mv ?_
 refine RK.tk Pu.mv ?_
 refine RK.tk (Pu.bv Pu.ne rfl) ?_
 refine RK.tk Pu.kf ?_
 refine RK.tk Pu.mv ?_
 refine RK.tk Pu.mv ?_
 refine RK.tk (Pu.ln Tryz.underlying28) ?_
 refine RK.tk (Pu.bv Pu.lt (decide_eq_false (by omega))) ?_
 refine RK.tk Pu.kf ?_
 refine RK.tk Pu.mv ?_
 refine RK.tk Pu.mv ?_
 refine RK.tk (Pu.el ty_et28) ?_
 refine RK.tk (Pu.ld ty_sc3) ?_
 refine RK.tk (by first | exact Pu.fb ty_fa46_1 | exact Pu.fe ty_fa46_1) ?_
 refine RK.tk (Pu.ld ty_sc3) ?_
 refine RK.tk (Pu.bv Pu.ne (show (!decide (lnV H i 1 = H.mo i)) = false by rw [decide_eq_true g4.out]; rfl)) ?_
 refine RK.tk Pu.kf ?_
 refine RK.ch [] ?_ trivial
 refine WK.n ?_
 refine TL.nil (TQ.thenN (hY36 _ _ ?_))
 refine TW.condF rfl rfl ?_
 refine TW.skip ?_
 refine TQ.thenN (hY33 _ _ ?_)
 refine TW.seq fun Y37 hY37 => TW.region ?_
 refine TL.p Pu.mv ?_
 refine TL.p Pu.as ?_
 refine TL.nil (TQ.thenN (hY37 _ _ ?_))
 refine TW.ret ?_
 refine TQ.ret Tryz.results10 rfl ((.tmp rfl .nil)) ?_
 exact fun w hw => Ret.of hw
 try simp only [zcb9] at hc8
 refine TW.skip ?_
 refine TQ.thenN (hY33 _ _ ?_)
 refine TW.seq fun Y38 hY38 => TW.region ?_
 refine TL.p Pu.mv ?_
 refine TL.p Pu.as ?_
 refine TL.nil (TQ.thenN (hY38 _ _ ?_))
 refine TW.ret ?_
 refine TQ.ret Tryz.results10 rfl ((.tmp rfl .nil)) ?_
 exact fun w hw => Ret.of hw
 refine RG.tk 0 rfl (by first | exact Pu.fb ty_fa46_0 | exact Pu.fe ty_fa46_0) ?_
 refine RG.tk 1 rfl (Pu.ld ty_sc3) ?_
 refine RG.tk 3 rfl Pu.mv ?_
 refine RG.tk 5 rfl (by first | exact Pu.fb ty_fa46_0 | exact Pu.fe ty_fa46_0) ?_
 refine RG.tk 6 rfl (Pu.ld ty_sc3) ?_
 refine RG.tk 8 rfl Pu.mv ?_
 refine RG.a2 2 7 rfl rfl (fun X2 hX2 => ?_) (fun X7 hX7 => ?_)
 refine TL.m Mk.bl ?_
 intro x2
 refine TL.nil ?_
 refine TQ.nxt (hX2 _ _ hl9 ?_)
 refine RG.a2 4 7 rfl rfl (fun X4 hX4 => ?_) (fun X7 hX7 => ?_)
 refine TL.obn (b := x2) (n := 1) (sz := 1) (r := fun _ => [.int .i64 (H.id i)]) pk9 rfl (fun _ _ => rfl) ?_
 first | refine TL.a0 ty_et28 ?_ | refine TL.ap ty_et28 ?_
 intro A4 c4
 refine TL.nil ?_
 refine TQ.nxt (hX4 _ _ hl9 ?_)
 refine RG.a1 7 rfl (fun X7 hX7 => ?_)
 refine TL.m Mk.bl ?_
 intro x7
 refine TL.nil ?_
 refine TQ.nxt (hX7 _ _ hl9 ?_)
 refine RG.a1 9 rfl (fun X9 hX9 => ?_)
 refine TL.obn (b := x7) (n := 1) (sz := 1) (r := fun _ => [.int .i64 (H.id j)]) pk9 rfl (fun _ _ => rfl) ?_
 first | refine TL.a0 ty_et28 ?_ | refine TL.ap ty_et28 ?_
 intro A9 c9
 refine TL.nil ?_
 refine TQ.nxt (hX9 _ _ hl9 ?_)
 refine RG.tk 10 rfl Pu.as ?_
 refine RG.tk 11 rfl Pu.as ?_
 exact RG.nil (TQ.sub fs9 kt9 (hE ⟨A4, c4, A9, c9⟩)) (by kernel_rfl)
 refine TL.m Mk.bl ?_
 intro x7
 refine TL.nil ?_
 refine TQ.nxt (hX7 _ _ hl9 ?_)
 refine RG.a1 4 rfl (fun X4 hX4 => ?_)
 refine TL.obn (b := x2) (n := 1) (sz := 1) (r := fun _ => [.int .i64 (H.id i)]) pk9 rfl (fun _ _ => rfl) ?_
 first | refine TL.a0 ty_et28 ?_ | refine TL.ap ty_et28 ?_
 intro A4 c4
 refine TL.nil ?_
 refine TQ.nxt (hX4 _ _ hl9 ?_)
 refine RG.a1 9 rfl (fun X9 hX9 => ?_)
 refine TL.obn (b := x7) (n := 1) (sz := 1) (r := fun _ => [.int .i64 (H.id j)]) pk9 rfl (fun _ _ => rfl) ?_
 first | refine TL.a0 ty_et28 ?_ | refine TL.ap ty_et28 ?_
 intro A9 c9
 refine TL.nil ?_
 refine TQ.nxt (hX9 _ _ hl9 ?_)
 refine RG.tk 10 rfl Pu.as ?_
 refine RG.tk 11 rfl Pu.as ?_
 exact RG.nil (TQ.sub fs9 kt9 (hE ⟨A4, c4, A9, c9⟩)) (by kernel_rfl)
 refine TL.m Mk.bl ?_
 intro x7
 refine TL.nil ?_
 refine TQ.nxt (hX7 _ _ hl9 ?_)
 refine RG.a1 2 rfl (fun X2 hX2 => ?_)
 refine TL.m Mk.bl ?_
 intro x2
 refine TL.nil ?_
 refine TQ.nxt (hX2 _ _ hl9 ?_)
 refine RG.a1 4 rfl (fun X4 hX4 => ?_)
 refine TL.obn (b := x2) (n := 1) (sz := 1) (r := fun _ => [.int .i64 (H.id i)]) pk9 rfl (fun _ _ => rfl) ?_
 first | refine TL.a0 ty_et28 ?_ | refine TL.ap ty_et28 ?_
 intro A4 c4
 refine TL.nil ?_
 refine TQ.nxt (hX4 _ _ hl9 ?_)
 refine RG.a1 9 rfl (fun X9 hX9 => ?_)
 refine TL.obn (b := x7) (n := 1) (sz := 1) (r := fun _ => [.int .i64 (H.id j)]) pk9 rfl (fun _ _ => rfl) ?_
 first | refine TL.a0 ty_et28 ?_ | refine TL.ap ty_et28 ?_
 intro A9 c9
 refine TL.nil ?_
 refine TQ.nxt (hX9 _ _ hl9 ?_)
 refine RG.tk 10 rfl Pu.as ?_
 refine RG.tk 11 rfl Pu.as ?_
 exact RG.nil (TQ.sub fs9 kt9 (hE ⟨A4, c4, A9, c9⟩)) (by kernel_rfl)
 refine RG.tk 0 rfl Pu.mv ?_
 refine RG.tk 1 rfl Pu.mv ?_
 refine RG.tk 2 rfl (Pu.cv (v := .int .i64 (o : Int)) rfl (fun w => by go_simp; rw [IntWalk.i64_in (o : Int) (by omega)])) ?_
 refine RG.tk 3 rfl Pu.mv ?_
 refine RG.tk 4 rfl (Pu.ln Tryz.underlying22) ?_
 refine RG.tk 5 rfl (Pu.iv Pu.rm ei.out) ?_
 refine RG.tk 6 rfl (Pu.el ty_et22) ?_
 refine RG.tk 7 rfl (Pu.lds ty_ag46) ?_
 refine RG.tk 8 rfl Pu.mv ?_
 refine RG.tk 9 rfl Pu.mv ?_
 refine RG.tk 10 rfl (Pu.cv (v := .int .i64 (t : Int)) rfl (fun w => by go_simp; rw [IntWalk.i64_in (t : Int) (by omega)])) ?_
 refine RG.tk 11 rfl Pu.mv ?_
 refine RG.tk 12 rfl (Pu.ln Tryz.underlying22) ?_
 refine RG.tk 13 rfl (Pu.iv Pu.rm ej.out) ?_
 refine RG.tk 14 rfl (Pu.el ty_et22) ?_
 refine RG.tk 15 rfl (Pu.lds ty_ag46) ?_
 refine RG.a2 16 17 rfl rfl (fun X16 hX16 => ?_) (fun X17 hX17 => ?_)
 refine TL.m (Mk.al ty_zr46) ?_
 intro x16
 refine TL.nil ?_
 refine TQ.nxt (hX16 _ _ hl9 ?_)
 refine RG.a1 17 rfl (fun X17 hX17 => ?_)
 refine TL.m (Mk.al ty_zr46) ?_
 intro x17
 refine TL.nil ?_
 refine TQ.nxt (hX17 _ _ hl9 ?_)
 refine RG.a1 18 rfl (fun X18 hX18 => ?_)
 first | refine TL.st ty_sz46 ?_ | refine TL.se ty_sz46 ?_
 refine TL.nil ?_
 refine TQ.nxt (hX18 _ _ hl9 ?_)
 refine RG.a1 19 rfl (fun X19 hX19 => ?_)
 first | refine TL.st ty_sz46 ?_ | refine TL.se ty_sz46 ?_
 refine TL.nil ?_
 refine TQ.nxt (hX19 _ _ hl9 ?_)
 exact RG.nil (TQ.sub fs9 kt9 (hE ⟨x16, x17⟩)) (by kernel_rfl)
 refine TL.m (Mk.al ty_zr46) ?_
 intro x17
 refine TL.nil ?_
 refine TQ.nxt (hX17 _ _ hl9 ?_)
 refine RG.a1 16 rfl (fun X16 hX16 => ?_)
 refine TL.m (Mk.al ty_zr46) ?_
 intro x16
 refine TL.nil ?_
 refine TQ.nxt (hX16 _ _ hl9 ?_)
 refine RG.a1 18 rfl (fun X18 hX18 => ?_)
 first | refine TL.st ty_sz46 ?_ | refine TL.se ty_sz46 ?_
 refine TL.nil ?_
 refine TQ.nxt (hX18 _ _ hl9 ?_)
 refine RG.a1 19 rfl (fun X19 hX19 => ?_)
 first | refine TL.st ty_sz46 ?_ | refine TL.se ty_sz46 ?_
 refine TL.nil ?_
 refine TQ.nxt (hX19 _ _ hl9 ?_)
 exact RG.nil (TQ.sub fs9 kt9 (hE ⟨x16, x17⟩)) (by kernel_rfl)
 refine TW.region ?_
 refine TL.p Pu.mv ?_
 refine TL.cr rfl (enters Tryz.func13 rfl rfl) (fun w hw => by
   exact ready2_any (hR.sat hw Apart.nil) (fun i hi => (hM i hi).sat hw Apart.nil)) ?_
 refine TL.p Pu.no ?_
 refine TL.p Pu.mv ?_
 refine TL.guard (t := 31) rfl (fun hg1 => ?_) (fun hg1 => ?_)
 try simp only [zgb9] at hg1
 refine TL.gs ?_
 refine TL.gs ?_
 refine TL.gs ?_
 refine TL.p Pu.kt ?_
 refine TL.p Pu.mv ?_
 refine TL.gs ?_
 refine TL.gs ?_
 refine TL.p Pu.kt ?_
 refine TL.nil ?_
 exact TQ.sub (by repeat (first | exact trivial | refine ⟨rfl, ?_⟩ | refine ⟨trivial, ?_⟩ | refine ⟨(by show some (Value.bool _) = some (Value.bool _); first | (simp [hg1]; done) | (refine congrArg (fun z => some (Value.bool z)) (Bool.eq_iff_iff.2 ?_); simp [hg1]; omega)), ?_⟩)) ks9 hJ1
 try simp only [zgb9] at hg1
 refine TL.gd Pu.mv ?_
 refine TL.gd (Pu.ln Tryz.underlying22) ?_
 refine TL.gd Pu.eq ?_
 refine TL.p Pu.kf ?_
 refine TL.p Pu.mv ?_
 refine TL.guard (t := 36) rfl (fun hg2 => ?_) (fun hg2 => ?_)
 try simp only [zgb9] at hg2
 refine TL.gs ?_
 refine TL.gs ?_
 refine TL.p Pu.kt ?_
 refine TL.nil ?_
 exact TQ.sub (by repeat (first | exact trivial | refine ⟨rfl, ?_⟩ | refine ⟨trivial, ?_⟩ | refine ⟨(by show some (Value.bool _) = some (Value.bool _); first | (simp [hg1, hg2]; done) | (refine congrArg (fun z => some (Value.bool z)) (Bool.eq_iff_iff.2 ?_); simp [hg1, hg2]; omega)), ?_⟩)) ks9 hJ1
 try simp only [zgb9] at hg2
 refine TL.gd Pu.mv ?_
 refine TL.gd Pu.no ?_
 refine TL.lit (t := 38) (b' := false) rfl (rfl) ?_
 refine TL.p Pu.kf ?_
 refine TL.nil ?_
 exact TQ.sub (by repeat (first | exact trivial | refine ⟨rfl, ?_⟩ | refine ⟨trivial, ?_⟩ | refine ⟨(by show some (Value.bool _) = some (Value.bool _); first | (simp [hg1, hg2]; done) | (refine congrArg (fun z => some (Value.bool z)) (Bool.eq_iff_iff.2 ?_); simp [hg1, hg2]; omega)), ?_⟩)) ks9 hJ1
end
end Go.Proofs.YtbenhafhklfhmaaGreat
namespace Go.Proofs.YtbenhafhklfhmaaGreat
set_option linter.all false
set_option linter.unusedVariables false
set_option linter.unusedSimpArgs false
open Go.ChangeShapes Go.WideShapes Go.RowKit Go.Deep
section
variable {H : Type} {enc : TypeId × Value → H} {P : Program} {w : World} {base : Nat} {spare : Nat → Bool} {held : Bool}
theorem open_slice_any {t e : TypeId} {fuel : Nat} {cs : List Value} {x : DataW H × List MemPlace} {sz : Nat} (ht : P.underlying t = some (.slice e)) (hC : P.cellsOf e = sz) (h0 : Nat.blt 0 sz = true) (h : DataW.trod enc P w base spare held fuel t cs = some x) :
    ∃ (A : Option Addr) (len cap : Nat) (G : Nat → List Value), cs = [.slice A len cap] ∧ RdR w sz A len G ∧ (∀ i, i < len → ∃ n y, DataW.trod enc P w base spare held n e (G i) = some y) ∧ (A = none → len = 0 ∧ cap = 0) ∧ len ≤ cap ∧ cap ≤ maxLen := by
  have h0 : 0 < sz := Nat.le_of_ble_eq_true h0
  rcases open_slice ht h with ⟨rfl, rfl⟩ | ⟨a, len, cap, m, n, D, Pl, rfl, hb, hl, hm, hmm, _, hi⟩
  · exact ⟨none, 0, 0, fun _ => [], rfl, ⟨Rd.nil, fun i hi => by omega⟩, fun i hi => by omega, fun _ => ⟨rfl, rfl⟩, Nat.le_refl _, Nat.zero_le _⟩
  · have hlm : len ≤ m := by rw [hmm]; split <;> omega
    have key : ∀ i, i < len → ∃ cs' : List Value, cs'.length = sz ∧ (∀ j, j < sz → w.cell? (a.add (i * sz + j)) = cs'[j]?) ∧ ∃ n y, DataW.trod enc P w base spare held n e cs' = some y := fun i hil => by
      obtain ⟨cs', hc, hx⟩ := hi i (by omega)
      obtain ⟨_, hcl, hat⟩ := World.cells?_some hc
      refine ⟨cs', by rw [hcl, hC], fun j hj => ?_, n, _, hx⟩
      have := hat j (by rw [hC]; exact hj)
      rw [hC] at this
      rw [← this, ← add_add]
    refine ⟨some a, len, cap, fun i => if hi : i < len then (key i hi).choose else [], rfl, ⟨fun hn => ?_, fun i hi => ?_⟩, fun i hi => ?_, fun h => (by cases h), hl, hm⟩
    · have h1 := (key 0 hn).choose_spec.2.1 0 h0
      have hsome : ((key 0 hn).choose)[0]? = some ((key 0 hn).choose[0]'(by rw [(key 0 hn).choose_spec.1]; exact h0)) := List.getElem?_eq_getElem _
      rw [hsome] at h1
      have hadd : a.add (0 * sz + 0) = a := by simp [Addr.add]
      rw [hadd] at h1
      have hsp : a.spot = none := by
        unfold World.cell? at h1
        split at h1
        · cases hs : a.spot with
          | none => rfl
          | some s => simp [hs] at h1
        · cases h1
      have hlt : a.block < w.heap.size := World.block_lt_of_cell? w a h1
      obtain ⟨b, o, s⟩ := a
      simp only at hsp
      subst hsp
      refine ⟨b, o, rfl, hlt, fun i j hi hj => ?_⟩
      have h2 := (key i hi).choose_spec.2.1 j hj
      rw [add_plain] at h2
      rw [show o + i * sz + j = o + (i * sz + j) by omega, h2]
      simp only [rowF, hi, dite_true]
      have hl2 : j < (key i hi).choose.length := by rw [(key i hi).choose_spec.1]; exact hj
      rw [List.getD_eq_getElem?_getD, List.getElem?_eq_getElem hl2]
      rfl
    · simp only [hi, dite_true]
      exact (key i hi).choose_spec.1
    · simp only [hi, dite_true]
      exact (key i hi).choose_spec.2.2
theorem trod_fields {t : TypeId} {fs : Array Field} {fuel : Nat} {cs : List Value} {x : DataW H × List MemPlace} (ht : P.underlying t = some (.struct fs)) (h : DataW.trod enc P w base spare held fuel t cs = some x) :
  cs.length = P.cellsOf t ∧ ∀ (i : Nat) (f : Field), fs[i]? = some f → ∃ n y, DataW.trod enc P w base spare held n f.type ((cs.drop f.offset).take (P.cellsOf f.type)) = some y := by
 obtain ⟨xs, n, _, _, hlen, hxl, hf⟩ := DataW.trod_struct ht h
 refine ⟨hlen, fun i f hi => ?_⟩
 have h1 := hf i f hi
 have hi' : i < fs.size := (Array.getElem?_eq_some_iff.1 hi).1
 rw [List.getElem?_eq_getElem (by omega)] at h1
 exact ⟨n, _, h1⟩
end
end Go.Proofs.YtbenhafhklfhmaaGreat
namespace Go.Proofs.YtbenhafhklfhmaaGreat
set_option linter.all false
set_option linter.unusedVariables false
set_option linter.unusedSimpArgs false
open Go.ChangeShapes Go.WideShapes Go.ChangeAt Go.RowKit Go.Deep
section
variable {H : Type} {enc : TypeId × Value → H} {w : World} {base : Nat} {spare : Nat → Bool} {held : Bool}
structure AnP where
 id : Int
 mo : Int
 lo : Int
 hi : Int
 A : Option Addr
 n : Nat
 c : Nat
 g : Nat → Nat → Int
def anpL (x : AnP) : List Value := [.int .i64 x.id, .int .i64 x.mo, .int .i64 x.lo, .int .i64 x.hi, .slice x.A x.n x.c]
set_option maxRecDepth 100000 in
theorem animal_of_trod {fuel : Nat} {G : List Value} {y : DataW H × List MemPlace} (hl : G.length = 5) (hy : DataW.trod enc Tryz.prog w base spare held fuel 46 G = some y) :
    ∃ x : AnP, G = anpL x ∧ RdR w 2 x.A x.n (fun k => spL (x.g k 0) (x.g k 1)) := by
  obtain ⟨_, hf⟩ := trod_fields Tryz.underlying46 hy
  obtain ⟨n0, y0, h0⟩ := hf 0 _ rfl
  obtain ⟨n1, y1, h1⟩ := hf 1 _ rfl
  obtain ⟨n2, y2, h2⟩ := hf 2 _ rfl
  obtain ⟨n3, y3, h3⟩ := hf 3 _ rfl
  obtain ⟨k0, e0, _, _⟩ := DataW.trod_int Tryz.underlying3 h0
  obtain ⟨k1, e1, _, _⟩ := DataW.trod_int Tryz.underlying3 h1
  obtain ⟨s2, e2, l2⟩ := kindsF_spec 2 36 [.i64, .i64] (by kernel_rfl) _ _ _ h2
  obtain ⟨A, n, c, gg, e3, hg, hR, _⟩ := open_flat_slice (ks := [.i64, .i64]) 3 Tryz.underlying44 (by kernel_rfl) (by kernel_rfl) rfl h3
  have hc1 : Tryz.prog.cellsOf 3 = 1 := by kernel_rfl
  have hc2 : Tryz.prog.cellsOf 36 = 2 := by kernel_rfl
  have hc3 : Tryz.prog.cellsOf 44 = 1 := by kernel_rfl
  match s2, l2 with
  | [a0, a1], _ =>
    match G, hl with
    | [x0, x1, x2, x3, x4], _ =>
      have e0 : [x0] = [.int .i64 k0] := by simpa [hc1] using e0
      have e1 : [x1] = [.int .i64 k1] := by simpa [hc1] using e1
      have e2 : [x2, x3] = [.int .i64 a0, .int .i64 a1] := by simpa [hc2, ints] using e2
      have e3 : [x4] = [.slice A n c] := by simpa [hc3] using e3
      cases e0; cases e1; cases e2; cases e3
      exact ⟨⟨k0, k1, a0, a1, A, n, c, fun j => gi (gg j)⟩, rfl, hR.rowK hg⟩
theorem rows_choose {α : Type} {n sz : Nat} {A : Option Addr} {G : Nat → List Value} {F : α → List Value} {q : Nat → α → Prop} (d : α) (hR : RdR w sz A n G) (h : ∀ i, i < n → ∃ x, G i = F x ∧ q i x) : ∃ r : Nat → α, RdR w sz A n (fun i => F (r i)) ∧ ∀ i, i < n → q i (r i) := by
 have hch : ∀ i, ∃ x, i < n → G i = F x ∧ q i x := fun i => by
  by_cases hi : i < n
  · obtain ⟨x, hx⟩ := h i hi
    exact ⟨x, fun _ => hx⟩
  · exact ⟨d, fun h => absurd h hi⟩
 obtain ⟨r, hr⟩ := Classical.axiomOfChoice hch
 exact ⟨r, ⟨hR.rd.congr fun i j hi hj => by simp only [rowF, (hr i hi).1], fun i hi => by rw [← (hr i hi).1]; exact hR.len i hi⟩, fun i hi => (hr i hi).2⟩
set_option maxRecDepth 100000 in
theorem open_herd {r : Reach} {b0 : Nat} {v : Value} {dd : DataW H} {p : List MemPlace} (hv : Value.okWide Tryz.prog w r b0 22 v) (h : DataW.Trod enc Tryz.prog w base spare held 22 v dd p) :
  ∃ (A : Option Addr) (cp : Nat) (K : Hd) (a : Nat → Option Addr) (c : Nat → Nat), v = .slice A K.n cp ∧ RdR w 5 A K.n (fun i => anL K a c i) ∧ ∀ i, i < K.n → RdR w 2 (a i) (K.ml i) (fun k => spL (K.sp i k) (K.sg i k)) := by
 obtain ⟨A0, n0, c0, rfl⟩ := okWide_slice Tryz.underlying22 hv
 obtain ⟨fuel, h⟩ := h
 obtain ⟨A, m, cp, G, e, hR, hel, _, hc, _⟩ := open_slice_any (sz := 5) Tryz.underlying22 (by kernel_rfl) rfl h
 simp only [Value.cells, List.cons.injEq, Value.slice.injEq, and_true] at e
 obtain ⟨rfl, rfl, rfl⟩ := e
 obtain ⟨x, hx, hq⟩ := rows_choose (F := anpL) (q := fun _ x => RdR w 2 x.A x.n (fun k => spL (x.g k 0) (x.g k 1))) ⟨0, 0, 0, 0, none, 0, 0, fun _ _ => 0⟩ hR (fun i hi => by
  obtain ⟨n, y, hy⟩ := hel i hi
  exact animal_of_trod (hR.len i hi) hy)
 exact ⟨A0, c0, ⟨n0, fun i => (x i).id, fun i => (x i).mo, fun i => (x i).lo, fun i => (x i).hi, fun i => (x i).n, fun i k => (x i).g k 0, fun i k => (x i).g k 1⟩, fun i => (x i).A, fun i => (x i).c, rfl, hx, hq⟩
end
end Go.Proofs.YtbenhafhklfhmaaGreat
namespace Go.Proofs.YtbenhafhklfhmaaGreat
set_option linter.all false
set_option linter.unusedVariables false
set_option linter.unusedSimpArgs false
open Go.ChangeShapes Go.WideShapes Go.ChangeAt Go.RowKit Go.Deep
section
variable {H : Type} {enc : TypeId × Value → H} {w : World} {base : Nat} {spare : Nat → Bool} {held : Bool}
theorem trod_int9 {P : Program} {n : Nat} {t : TypeId} {k : IntKind} {cs : List Value} {y : DataW H × List MemPlace} (ht : P.underlying t = some (.int k)) (h : DataW.trod enc P w base spare held n t cs = some y) : ∃ x : Int, cs = [.int k x] ∧ k.min ≤ x ∧ x ≤ k.max := by
 cases n with
 | zero => cases h
 | succ n =>
  unfold DataW.trod at h
  rw [ht] at h
  split at h <;> first | (rename_i e _; cases e; done) | skip
  all_goals first | (rename_i k1 k2 x e; cases e; split at h; (rename_i hx; obtain ⟨rfl, hw⟩ := hx; simp only [Lit.wf, Bool.and_eq_true, decide_eq_true_eq] at hw; exact ⟨x, rfl, hw.1, hw.2⟩); cases h) | (cases h; done) | (rename_i e; cases e; done) | (rename_i e _ _; cases e; done) | (rename_i e _ _ _; cases e; done)
end
end Go.Proofs.YtbenhafhklfhmaaGreat
namespace Go.Proofs.YtbenhafhklfhmaaGreat
set_option linter.all false
set_option linter.unusedVariables false
set_option linter.unusedSimpArgs false
open Go.ChangeShapes Go.WideShapes Go.ChangeAt Go.RowKit Go.Deep
section
variable {H : Type} {enc : TypeId × Value → H} {P : Program} {w : World} {base : Nat} {spare : Nat → Bool} {held : Bool}
theorem open_num {r : Reach} {b0 : Nat} {v : Value} {dd : DataW H} {p : List MemPlace} {t : TypeId} {k : IntKind} (ht : P.underlying t = some (.int k)) (hv : Value.okWide P w r b0 t v) (h : DataW.Trod enc P w base spare held t v dd p) : ∃ x : Int, v = .int k x ∧ k.min ≤ x ∧ x ≤ k.max := by
 obtain ⟨x, rfl⟩ := okWide_int ht hv
 obtain ⟨fuel, h⟩ := h
 obtain ⟨y, e, h1, h2⟩ := trod_int9 ht h
 have e : x = y := by simpa [Value.cells] using e
 subst e
 exact ⟨x, rfl, h1, h2⟩
theorem open_u8b {r : Reach} {b0 : Nat} {v : Value} {dd : DataW H} {p : List MemPlace} {t : TypeId} (ht : P.underlying t = some (.int .u8)) (hv : Value.okWide P w r b0 t v) (h : DataW.Trod enc P w base spare held t v dd p) : ∃ x : Nat, v = .int .u8 (x : Int) ∧ x ≤ 255 := by
 obtain ⟨x, rfl, h1, h2⟩ := open_num ht hv h
 have h1 : 0 ≤ x := h1
 have h2 : x ≤ 255 := h2
 obtain ⟨y, rfl⟩ := Int.eq_ofNat_of_zero_le h1
 exact ⟨y, rfl, by omega⟩
end
end Go.Proofs.YtbenhafhklfhmaaGreat
namespace Go.Proofs.YtbenhafhklfhmaaGreat
set_option linter.all false
set_option linter.unusedVariables false
set_option linter.unusedSimpArgs false
open Go.ChangeShapes Go.WideShapes Go.ChangeAt Go.RowKit Go.Deep
theorem Tryz.own : ownKnob Tryz.prog.godebug = none := by kernel_rfl
theorem Tryz.laidOut : laidOutB Tryz.prog = true := by kernel_rfl
set_option maxRecDepth 100000 in
theorem brandKin_lifted (os : Os) (started : os.Started) (H : Type) (enc : TypeId × Value → H) :
    ReturnsInHanded {} Tryz.checked os 10 .any (Rows.brandKinSpec.pre6 enc Tryz.prog Tryz.f10 Rows.brandKinRow.domain false) (Rows.brandKinSpec.post enc Tryz.prog Tryz.f10 false true false false) := by
  refine returnsInHanded_of_change (C := Tryz.checked) Tryz.own started (by kernel_rfl) Tryz.func10
    (ChangeSpec.witness6 (enc := enc) (C := Tryz.checked) false ⟨#[], #[.slice none 0 0, .int .u8 0, .int .u8 0], []⟩ 8 (by kernel_rfl) (by kernel_rfl) (by kernel_rfl) (by kernel_rfl)) ?_
  intro W base args ds gs before hval0 hW hcnd _
  have hval : ∀ (j : Nat) t v, Tryz.f10.params[j]? = some t → args[j]? = some v → Value.okWide Tryz.prog W .any base t v := hval0
  have hW' := hW
  obtain ⟨p, q, hA0, hV, rfl, hfz, hnd⟩ := hW
  have hA : DataW.TrodAll enc Tryz.prog W 0 (fun _ => true) true Tryz.f10.params.toList args.toList ds p := hA0
  have hA1 := hA
  rw [Tryz.params10] at hA hval
  obtain ⟨v0, v1, v2, d0, d1, d2, p0, p1, p2, rfl, rfl, rfl, h0, h1, h2⟩ := trodAll_three hA
  obtain ⟨rfl, rfl⟩ := trodVars_none hV
  obtain ⟨A, cp, Hh, a, c, rfl, hR, hM⟩ := open_herd (hval 0 22 v0 rfl rfl) h0
  obtain ⟨o, rfl, ho⟩ := open_u8b Tryz.underlying5 (hval 1 5 v1 rfl rfl) h1
  obtain ⟨t, rfl, ht⟩ := open_u8b Tryz.underlying5 (hval 2 5 v2 rfl rfl) h2
  clear hA0 hval0
  simp only [List.append_nil] at hW'
  refine (lawKin_any hR hM o t ho ht).mono ?_
  rintro e W' ⟨rfl, hb⟩
  exact ⟨_, rfl, law_post Tryz.laidOut rfl hW' hA1 (by kernel_rfl) (by kernel_rfl) Tryz.underlying4 rfl hb⟩
theorem brandKin_holds : Rows.BrandKinSaid :=
  OpenClaim.holds_of_wide 10 Tryz.f10 rfl rfl rfl rfl rfl rfl rfl ⟨rfl, rfl, rfl, rfl, rfl⟩ rfl rfl rfl rfl rfl (by kernel_rfl) Tryz.func10 (by kernel_rfl)
    (of_decide_eq_true (by kernel_rfl)) (by unfold Func.isWrapper; first | (rw [if_pos (by decide +kernel)]; kernel_rfl) | (rw [if_neg (by decide +kernel)]; exact ⟨rfl, rfl⟩))
    (fun os started H enc _ => brandKin_lifted os started H enc)
end Go.Proofs.YtbenhafhklfhmaaGreat
