/-
  The statement BrandTrueSaid: for every input the law BrandTrue returns true, and its arguments read afterwards as before. No condition.
-/
import Derived.Test.YtbenhafhklfhmaaGreatAl01
import Derived.Test.YtbenhafhklfhmaaGreatAl02
import Derived.Test.YtbenhafhklfhmaaGreatAl03
import Derived.Test.YtbenhafhklfhmaaGreatAl04
import Derived.Test.YtbenhafhklfhmaaGreatAl05
import Derived.Test.YtbenhafhklfhmaaGreatAl06
import Derived.Test.YtbenhafhklfhmaaGreatAl07
import Derived.Test.YtbenhafhklfhmaaGreatAl08
import Derived.Test.YtbenhafhklfhmaaGreatAl09
import Derived.Test.YtbenhafhklfhmaaGreatAl10
import Derived.Test.YtbenhafhklfhmaaGreatAl11
import Derived.Test.YtbenhafhklfhmaaGreatTru01
import Derived.Test.YtbenhafhklfhmaaGreatRows
import Derived.WalkKit
import Derived.WalkSpells
import Derived.WalkLawsBesides
import Derived.Deep.QuietTactic
import Derived.BigQuiet
import Derived.Lib.AppendZerosOnto
import Derived.Laws.OwnMore
import Derived.OrdersHeld
import Derived.Maps.AppendAt
import Derived.OwnWalk
import Derived.Lib.SliceRun
import Derived.RangeFuncNested
import Derived.RangeFuncBound
import Derived.RangeFuncCalls
import Derived.RangeFuncLeaves
import Derived.OwnWalkIn
import Derived.TacticsInMore
import Derived.LoopNIn
import Derived.LoopIn
import Derived.OrdersIn
import Derived.ProofKit
import Derived.Deep.Slices
import Derived.Carry
import Derived.Deep.RegionHeld3
import Derived.BigRegion
import Derived.OpenShut
namespace Go.Proofs.YtbenhafhklfhmaaGreat
set_option linter.all false
set_option linter.unusedVariables false
set_option linter.unusedSimpArgs false
open Go.RowKit
section
variable {c : Cx} {Q : Exit → Act → World → Prop} {F : Fr} {K K1 K2 : List Fact}
theorem TW.ownSnoc {x : Code} {E : TypeId} {sz : Nat} {A A2 : Nat → Option Addr} {l l2 cc c2 : Nat → Nat} {r r2 : Nat → Nat → List Value} {n l9 c9 : Nat} {A9 : Option Addr} {r9 : Nat → List Value}
  (hp : Pick K (.own A9 l9 c9 E sz r9) K1) (hp2 : Pick K1 (tied (ownsE E sz A l cc r n)) K2) (hA : A2 n = A9) (hl : l2 n = l9) (hc : c2 n = c9) (hr : ∀ k, k < l9 → r9 k = r2 n k) (ho : ∀ i, i < n → A i = A2 i ∧ l i = l2 i ∧ cc i = c2 i ∧ r i = r2 i)
  (h : TW c x Q F (tied (ownsE E sz A2 l2 c2 r2 (n + 1)) :: K2)) : TW c x Q F K := fun a w hF hK => by
 subst hA hl hc
 have h1 := (hK.pick hp).sub (KSub.own Pick.hd hr (KSub.refl _))
 have h2 := h1.perm ((hp2.perm).cons _)
 have h3 := h2.perm (List.Perm.swap _ _ _)
 have h4 := h3.unbun
 rw [ownsE_congr2 ho] at h4
 have h5 : Sat c.S c.w0 ((.own (A2 n) (l2 n) (c2 n) E sz (r2 n) :: ownsE E sz A2 l2 c2 r2 n) ++ K2) w := h4.perm List.perm_middle
 exact h a w hF h5.bun
end
theorem cat_fun {k : Nat} {f : Nat → Value} {s : Nat → List Value} (hs : s 0 = [f k]) : ∀ i, i < k + 1 → catR k (fun q => [f q]) s i = [f i] := fun i hi => by
 unfold catR
 split
 · rfl
 · rename_i h
   obtain rfl : i = k := by omega
   rw [Nat.sub_self, hs]
theorem cat_at {n i : Nat} {at_ : List Nat} (hn : n = at_.length) : ∀ k, k < n + 1 → catR n (fun k => [Value.int .i64 (at_.getD k 0 : Int)]) (fun _ => [.int .i64 (i : Int)]) k = [.int .i64 ((at_ ++ [i]).getD k 0 : Int)] := fun k hk => by
  subst hn
  unfold catR
  split
  · rename_i h; rw [at_l h]
  · obtain rfl : k = at_.length := by omega
    rw [at_r]
theorem cat_lk {n : Nat} {L : Nat → Lk} {la : Nat → Option Addr} {lc : Nat → Nat} {l : Lk} {Sa : Option Addr} {sc : Nat} : ∀ k, k < n + 1 → catR n (fun k => lkL (L k) (la k) (lc k)) (fun _ => lkL l Sa sc) k = lkL (updA L n l k) (updA la n Sa k) (updA lc n sc k) := fun k hk => by
  unfold catR updA
  by_cases h : k < n
  · rw [if_pos h, if_neg (by omega), if_neg (by omega), if_neg (by omega)]
  · obtain rfl : k = n := by omega
    rw [if_neg h, if_pos rfl, if_pos rfl, if_pos rfl]
section
variable {w : World} {A B G : Option Addr} {cp cb gc nw gn : Nat} {H : Hd} {a : Nat → Option Addr} {c : Nat → Nat} {x : Nat → Nat} {u : Nat → Int} {st : Int}
theorem lw_days (hk : HOk H) (hI : HIn w A H a c) (hu : U32b gn u) (hGR : RdR w 1 G gn (fun k => [.int .u32 (u k)])) :
  CallsK Tryz.prog 14 #[.slice A H.n cp, .slice G gn gc] [] w { x : (Option Addr × Nat) × (Nat → Int) × Bool × Nat // x.2.2.1 = true → Tru H x.2.1 ∧ x.2.2.2 = H.n } (fun y => .tuple #[.slice y.1.1.1 y.1.2.2.2 y.1.1.2, .bool y.1.2.2.1]) (fun y => [.own y.1.1.1 y.1.2.2.2 y.1.1.2 3 1 (fun j => [.int .i64 (y.1.2.1 j)])]) :=
 (days_any hk hI hu hGR).mono fun _ _ ⟨x, e, hs⟩ => ⟨⟨(x.1.1, x.1.2.1, x.1.2.2, if x.1.2.2 then H.n else 0), fun h => ⟨x.2 h, if_pos h⟩⟩, e, hs⟩
theorem ch_x {w : World} (y : Int) {q : Nat} {v : Int} (hy : y = (q : Int)) (hv : v = chB gn u q) (hR : RdR w 1 G gn (fun k => [.int .u32 (u k)])) : Calls Tryz.prog 17 #[.slice G gn gc, .int .i64 y] w (Ret w (.int .u32 v)) := by
 subst hy hv
 exact choose2_any (cp := gc) q hR
theorem lw_sgn {k q s : Nat} (hk : HOk H) (hkn : k < H.n) (e : sgH H k q = (s : Int)) (h : HIn w A H a c) : Calls Tryz.prog 16 #[.agg (anL H a c k).toArray, .int .i64 (q : Int)] w (Ret w (.int .i64 (s : Int))) := by
 have h9 := lw_sign (v := (q : Int)) hk hkn h (by omega)
 rw [Int.toNat_natCast, e] at h9
 exact h9
set_option maxRecDepth 100000 in
set_option maxHeartbeats 16000000 in
theorem lawTrue_any (hR : RdR w 5 A H.n (fun i => anL H a c i)) (hM : ∀ i, i < H.n → RdR w 2 (a i) (H.ml i) (fun k => spL (H.sp i k) (H.sg i k))) (hWR : RdR w 1 B nw (fun k => [.int .u8 (x k : Int)])) (hx : ∀ k, k < nw → x k ≤ 255) (hnw : nw ≤ 9223372036854775807)
  (hu : U32b gn u) (hGR : RdR w 1 G gn (fun k => [.int .u32 (u k)])) (hst : 0 ≤ st ∧ st ≤ 4294967295) :
  Calls Tryz.prog 3 #[.slice A H.n cp, .slice B nw cb, .slice G gn gc, .int .u32 st] w (Ret w (.bool true)) := by
 obtain ⟨on, hon⟩ : ∃ z : Int, z = st % 100001 := ⟨_, rfl⟩
 have hon9 : 0 ≤ on ∧ on ≤ 100000 := by omega
 replace hon := hidT hon
 refine K_enter (S := []) (K := []) Tryz.func3 rfl Tryz.ntmps3 rfl (Sat.start _) ?_
 refine TW.seq fun Y1 hY1 => TW.region ?_
 refine TL.p Pu.as ?_
 refine TL.nil (TQ.thenN (hY1 _ _ ?_))
 refine TW.seq fun Y2 hY2 => TW.region ?_
 refine TL.cr rfl (enters Tryz.func12 rfl rfl) (fun w hw => by
   exact alive_any _) ?_
 refine TL.p Pu.as ?_
 refine TL.nil (TQ.thenN (hY2 _ _ ?_))
 refine TW.seq fun Y3 hY3 => ?_
 refine TW.seq fun Y4 hY4 => ?_
 refine TW.join [(52, .bool (!rdyH H || decide ((H.n : Int) = 0)))] ?_ (fun hJ1 => ?_)
 refine TQ.thenN (hY4 _ _ ?_)
 refine TW.cond rfl (fun hc0 => ?_) (fun hc0 => ?_)
 try simp only [zcb9] at hc0
 refine TW.seq fun Y5 hY5 => TW.region ?_
 refine TL.p Pu.mv ?_
 refine TL.p Pu.as ?_
 refine TL.nil (TQ.thenN (hY5 _ _ ?_))
 refine TW.ret ?_
 refine TQ.thenR ?_
 refine TQ.ret Tryz.results3 rfl ((.tmp rfl .nil)) ?_
 exact fun w hw => Ret.of hw
 try simp only [zcb9] at hc0
 obtain ⟨hr0, hn0⟩ := hc0
 have hr1 : rdyH H = true := by simpa using hr0
 obtain ⟨hk, hI0⟩ := rdy_in hr1
 have hI : HIn w A H a c := ⟨hI0.1, hR, hM, hI0.2⟩
 have hnn : 0 < H.n := by omega
 have h16 := hk.n16
 refine TW.skip ?_
 refine TQ.thenN (hY3 _ _ ?_)
 refine TW.seq fun Y6 hY6 => TW.region ?_
 refine TL.p Pu.mv ?_
 refine TL.p Pu.mv ?_
 refine TL.call (M := []) rfl (enters Tryz.func14 rfl rfl) (List.Perm.refl _) rfl (fun w hw => by
   exact lw_days hk (hI.sat hw) hu (hGR.sat hw Apart.nil)) ?_
 rintro ⟨⟨⟨Ad, cd⟩, d, bb, nd⟩, hTr⟩
 dsimp only [List.cons_append, List.nil_append]
 refine TL.p Pu.mv ?_
 refine TL.p Pu.ex ?_
 refine TL.p Pu.ex ?_
 refine TL.p Pu.as ?_
 refine TL.p Pu.as ?_
 refine TL.nil (TQ.thenN (hY6 _ _ ?_))
 refine TW.seq fun Y7 hY7 => ?_
 refine TW.seq fun Y8 hY8 => TW.region ?_
 refine TL.p Pu.mv ?_
 refine TL.p Pu.no ?_
 refine TL.nil (TQ.thenN (hY8 _ _ ?_))
 refine TW.cond rfl (fun hc1 => ?_) (fun hc1 => ?_)
 try simp only [zcb9] at hc1
 refine TW.seq fun Y9 hY9 => TW.region ?_
 refine TL.p Pu.mv ?_
 refine TL.p Pu.as ?_
 refine TL.nil (TQ.thenN (hY9 _ _ ?_))
 refine TW.ret ?_
 refine TQ.thenR ?_
 refine TQ.ret Tryz.results3 rfl ((.tmp rfl .nil)) ?_
 exact fun w hw => Ret.of hw
 try simp only [zcb9] at hc1
 have hbb : bb = true := by simpa using hc1
 have hTru : Tru H d := (hTr hbb).1
 obtain rfl : nd = H.n := (hTr hbb).2
 clear hTr
 have hl0 : livC H = 0 := by
  unfold livC
  rw [herdB_ok.2 hk, if_pos rfl, if_pos (hTru.ok hk hTru.own)]
 obtain ⟨Bt, hBt⟩ : ∃ z, livB H = z := ⟨_, rfl⟩
 have hbt : ∀ j, j < H.n → (Bt j).1 ≤ d j ∧ d j ≤ (Bt j).2 := by
  rw [← hBt]
  exact hTru.inb hk hTru.own
 have hnb : HidT ((if livC H = 0 then H.n else 0) = H.n) := hidT (if_pos hl0)
 replace hl0 := hidT hl0
 replace hBt := hidT hBt
 refine TW.skip ?_
 refine TQ.thenN (hY7 _ _ ?_)
 refine TW.seq fun Y10 hY10 => TW.region ?_
 refine TL.p Pu.mv ?_
 refine TL.call (M := []) rfl (enters Tryz.func15 rfl rfl) (List.Perm.refl _) rfl (fun w hw => by
   exact lw_births hl0.out hBt.out hnb.out (hI.sat hw)) ?_
 rintro ⟨P, pc⟩
 refine TL.p Pu.mv ?_
 refine TL.p Pu.ex ?_
 refine TL.p Pu.ex ?_
 refine TL.p Pu.as ?_
 refine TL.p Pu.as ?_
 refine TL.nil (TQ.thenN (hY10 _ _ ?_))
 refine TW.seq fun Y11 hY11 => ?_
 refine TW.seq fun Y12 hY12 => TW.region ?_
 refine TL.p Pu.mv ?_
 refine TL.p Pu.ne ?_
 refine TL.lit (t := 69) (b' := false) rfl (rfl) ?_
 refine TL.p Pu.mv ?_
 refine TL.gd Pu.mv ?_
 refine TL.gd (Pu.ln Tryz.underlying31) ?_
 refine TL.gd Pu.mv ?_
 refine TL.gd (Pu.ln Tryz.underlying22) ?_
 refine TL.gd Pu.ne ?_
 refine TL.lit (t := 75) (b' := false) rfl ((by simp)) ?_
 refine TL.p Pu.kf ?_
 refine TL.nil (TQ.thenN (hY12 _ _ ?_))
 refine TW.condF rfl rfl ?_
 refine TW.skip ?_
 refine TQ.thenN (hY11 _ _ ?_)
 refine TW.seq fun Y13 hY13 => ?_
 refine TW.seq fun Y14 hY14 => TW.region ?_
 refine TL.p Pu.mv ?_
 refine TL.p (Pu.ln Tryz.underlying28) ?_
 refine TL.p Pu.mv ?_
 refine TL.nil (TQ.thenN (hY14 _ _ ?_))
 refine TW.block ?_
 refine TW.loop1 (fun (k : Nat) => [(79, .int .i64 (k : Int)), (78, .int .i64 (H.n : Int)), (77, .slice Ad H.n cd), (10, .slice Ad H.n cd), (12, .slice P H.n pc), (9, .bool true), (0, .slice A H.n cp), (1, .slice B nw cb), (2, .slice G gn gc), (3, .int .u32 st)]) (fun k => [.own P H.n pc 36 2 (fun j => spL (Bt j).1 (Bt j).2), .own Ad H.n cd 3 1 (fun j => [.int .i64 (d j)])]) (fun k => k ≤ H.n) (fun k => H.n - k) 0 fs9 ?_ ?_ ?_
 exact ks9
 exact Nat.zero_le _
 rintro k hkn Z0 hZ0
 refine TW.seq fun Y15 hY15 => TW.region ?_
 refine TL.p Pu.lt ?_
 refine TL.nil (TQ.thenN (hY15 _ _ ?_))
 refine TW.seq fun Y16 hY16 => ?_
 refine TW.cond rfl (fun hc3 => ?_) (fun hc3 => ?_)
 try simp only [zcb9] at hc3
 have hkl : k < H.n := by omega
 obtain ⟨hb1, hb2⟩ := hbt k hkl
 refine TW.skip ?_
 refine TQ.thenN (hY16 _ _ ?_)
 refine TW.seq fun Y17 hY17 => ?_
 refine TW.block ?_
 refine TW.seq fun Y18 hY18 => TW.region ?_
 refine TL.p Pu.mv ?_
 refine TL.p (Pu.el ty_et28) ?_
 refine TL.p (Pu.ld ty_sc3) ?_
 refine TL.p Pu.as ?_
 refine TL.p Pu.as ?_
 refine TL.nil (TQ.thenN (hY18 _ _ ?_))
 refine TW.seq fun Y19 hY19 => TW.region ?_
 refine TL.p Pu.mv ?_
 refine TL.p Pu.mv ?_
 refine TL.p Pu.mv ?_
 refine TL.p (Pu.el ty_et31) ?_
 refine TL.p (by first | exact Pu.fb ty_fa36_0 | exact Pu.fe ty_fa36_0) ?_
 refine TL.p (Pu.ld ty_sc3) ?_
 refine TL.p Pu.lt ?_
 refine TL.lit (t := 90) (b' := false) rfl ((decide_eq_false (by omega))) ?_
 refine TL.p Pu.mv ?_
 refine TL.gd Pu.mv ?_
 refine TL.gd Pu.mv ?_
 refine TL.gd Pu.mv ?_
 refine TL.gd (Pu.el ty_et31) ?_
 refine TL.gd (by first | exact Pu.fb ty_fa36_1 | exact Pu.fe ty_fa36_1) ?_
 refine TL.gd (Pu.ld ty_sc3) ?_
 refine TL.gd Pu.gt ?_
 refine TL.lit (t := 98) (b' := false) rfl ((decide_eq_false (by omega))) ?_
 refine TL.p Pu.kf ?_
 refine TL.nil (TQ.thenN (hY19 _ _ ?_))
 refine TW.condF rfl rfl ?_
 refine TW.skip ?_
 refine TQ.blkN ?_
 refine TQ.thenN (hY17 _ _ ?_)
 refine TW.region ?_
 refine TL.p Pu.ad ?_
 refine TL.p Pu.mv ?_
 refine TL.nil ?_
 refine TQ.thenN (hZ0 (k + 1) _ _ ?_ ?_ fs9 ?_)
 exact (by omega)
 exact zom9
 exact ks9
 try simp only [zcb9] at hc3
 refine TW.exit ?_
 refine TQ.thenX ?_
 refine TQ.thenX ?_
 refine TQ.blkX ?_
 refine TQ.thenN (hY13 _ _ ?_)
 refine TW.rebase fun w1 hw1 => ?_
 have rD := OwnR.rdr (hw1.holds (.own Ad H.n cd 3 1 (fun j => [.int .i64 (d j)])) (Pick.mem pk9))
 have hI2 := hI.ext (Chg.ext hw1.chg)
 have hR2 := hI2.hR
 unfold anL at hR2
 have hGR2 := hGR.sat hw1 Apart.nil
 have hWR2 := hWR.sat hw1 Apart.nil
 clear hGR hWR hI hR hM
 refine TW.seq fun Y20 hY20 => TW.region ?_
 refine TL.p Pu.mv ?_
 refine TL.p (Pu.cv (v := .int .i64 (st)) rfl (fun w => by go_simp; rw [IntWalk.i64_in (st) (by omega)])) ?_
 refine TL.p (Pu.iv Pu.rm hon.out.symm) ?_
 refine TL.p Pu.as ?_
 refine TL.nil (TQ.thenN (hY20 _ _ ?_))
 refine TW.seq fun Y21 hY21 => TW.region ?_
 refine TL.p Pu.as ?_
 refine TL.nil (TQ.thenN (hY21 _ _ ?_))
 refine TW.seq fun Y22 hY22 => TW.region ?_
 refine TL.p Pu.as ?_
 refine TL.nil (TQ.thenN (hY22 _ _ ?_))
 refine TW.seq fun Y23 hY23 => TW.region ?_
 refine TL.p Pu.as ?_
 refine TL.nil (TQ.thenN (hY23 _ _ ?_))
 refine TW.seq fun Y24 hY24 => TW.region ?_
 refine TL.mm (kk := .i64) ?_
 intro b1
 refine TL.p Pu.as ?_
 refine TL.nil (TQ.thenN (hY24 _ _ ?_))
 refine TW.tiedN (E := 25) (sz := 1) (r := fun _ _ => []) 0 ?_
 refine TW.seq fun Y25 hY25 => ?_
 refine TW.seq fun Y26 hY26 => TW.region ?_
 refine TL.p Pu.mv ?_
 refine TL.p (Pu.ln Tryz.underlying23) ?_
 refine TL.p Pu.mv ?_
 refine TL.nil (TQ.thenN (hY26 _ _ ?_))
 refine TW.block ?_
 refine TW.loop4 (fun (j : Nat) (n : Nat) (m : Nat) (T : TS) => [(107, .int .i64 (j : Int)), (106, .int .i64 (nw : Int)), (105, .slice B nw cb), (9, .bool true), (0, .slice A H.n cp), (2, .slice G gn gc), (10, .slice Ad H.n cd), (16, .int .i64 on), (20, .map (some b1)), (17, .slice T.Al n T.cl), (18, .slice T.Ac m T.cc), (19, .slice T.Aa n T.ca)]) (fun j n m T => [.own T.Aa n T.ca 3 1 (fun k => [.int .i64 (T.at_.getD k 0 : Int)]), .own T.Al n T.cl 42 4 (fun k => lkL (T.L k) (T.la k) (T.lc k)), tied (ownsE 25 1 T.la (fun _ => 8) T.lc (fun k j => [.int .u32 ((T.L k).sg j : Int)]) n), .own T.Ac m T.cc 51 2 (prL T.R), .obj b1 (mapO .i64 (usM T.at_ n))]) (fun j n m T => j ≤ nw ∧ HidT (n = T.at_.length) ∧ HidT (m = T.R.length) ∧ TrI H d on T.at_ T.L T.R) (fun j n m T => nw - j) 0 0 0 ⟨[], fun _ => ⟨0, fun _ => 0, 0, 0, 0⟩, [], fun _ => none, fun _ => 0, none, 0, none, 0, none, 0⟩ fs9 ?_ ?_ ?_
 exact KSub.nilOwn (KSub.nilOwn (KSub.cons pk9 (KSub.nilOwn ks9)))
 exact ⟨Nat.zero_le _, hidT rfl, hidT rfl, TrI.start⟩
 rintro j n m T ⟨hj, hn, hm, hT⟩ Z1 hZ1
 obtain ⟨at_, L, R, la, lc, Aa, ca, Al, cl, Ac, cc⟩ := T
 dsimp only at hn hm hT ⊢
 have hn4 : n ≤ 4 := by rw [hn.out]; exact hT.len
 have hmn : m ≤ n := by rw [hn.out, hm.out]; exact hT.rl
 refine TW.seq fun Y27 hY27 => TW.region ?_
 refine TL.p Pu.lt ?_
 refine TL.nil (TQ.thenN (hY27 _ _ ?_))
 refine TW.seq fun Y28 hY28 => ?_
 refine TW.cond rfl (fun hc5 => ?_) (fun hc5 => ?_)
 try simp only [zcb9] at hc5
 have hjl : j < nw := by omega
 have hxj := hx j hjl
 obtain ⟨i, ei, hi⟩ : ∃ i : Nat, HidT ((x j : Int) % (H.n : Int) = (i : Int)) ∧ i < H.n := ⟨x j % H.n, hidT (Int.natCast_emod (x j) H.n).symm, Nat.mod_lt _ hnn⟩
 have hdi := hTru.own i hi
 have hbd := hk.bd i hi
 obtain ⟨fd, hfd⟩ : ∃ z, (mlook (i : Int) (usM at_ n)).isSome = z := ⟨_, rfl⟩
 obtain ⟨fv, hfv⟩ : ∃ z, (mlook (i : Int) (usM at_ n)).getD (.int .i64 0) = z := ⟨_, rfl⟩
 replace hfd := hidT hfd
 replace hfv := hidT hfv
 refine TW.skip ?_
 refine TQ.thenN (hY28 _ _ ?_)
 refine TW.seq fun Y29 hY29 => ?_
 refine TW.block ?_
 refine TW.seq fun Y30 hY30 => TW.region ?_
 refine TL.p (Pu.el ty_et23) ?_
 refine TL.p (Pu.ld ty_sc5) ?_
 refine TL.p Pu.as ?_
 refine TL.nil (TQ.thenN (hY30 _ _ ?_))
 refine TW.seq fun Y31 hY31 => TW.region ?_
 refine TL.p Pu.mv ?_
 refine TL.p (Pu.cv (v := .int .i64 ((x j : Int))) rfl (fun w => by go_simp; rw [IntWalk.i64_in ((x j : Int)) (by omega)])) ?_
 refine TL.p Pu.mv ?_
 refine TL.p (Pu.ln Tryz.underlying22) ?_
 refine TL.p (Pu.iv Pu.rm ei.out) ?_
 refine TL.p Pu.as ?_
 refine TL.nil (TQ.thenN (hY31 _ _ ?_))
 refine TW.seq fun Y32 hY32 => ?_
 refine TW.seq fun Y33 hY33 => TW.region ?_
 refine TL.p Pu.mv ?_
 refine TL.p Pu.mv ?_
 refine TL.p (Pu.lkV fv fd ty_mp39 ty_zv3 hfv.out hfd.out) ?_
 refine TL.p Pu.mv ?_
 refine TL.p Pu.ex ?_
 refine TL.p Pu.ex ?_
 refine TL.p Pu.as ?_
 refine TL.p Pu.as ?_
 refine TL.nil (TQ.thenN (hY33 _ _ ?_))
 refine TW.seq fun Y34 hY34 => ?_
 refine TW.join [(135, .bool (fd || decide ((4 : Int) ≤ (n : Int)) || decide (on < d i)))] ?_ (fun hJ2 => ?_)
 refine TQ.thenN (hY34 _ _ ?_)
 refine TW.cond rfl (fun hc6 => ?_) (fun hc6 => ?_)
 try simp only [zcb9] at hc6
 refine TW.exit ?_
 refine TQ.thenX ?_
 refine TQ.blkX ?_
 refine TQ.thenN (hY29 _ _ ?_)
 refine TW.region ?_
 refine TL.p Pu.ad ?_
 refine TL.p Pu.mv ?_
 refine TL.nil ?_
 refine TQ.thenN (hZ1 (j + 1) (by first | exact (fun (_ : A3 = A3) => n + 1) rfl | exact n) (by first | exact (fun (_ : r9 = r9) => m + 1) rfl | exact m) ⟨(by first | exact (fun (_ : A3 = A3) => at_ ++ [i]) rfl | exact at_), (by first | exact (fun (_ : A3 = A3) => updA L n ⟨8, sg, on, lo, hi9⟩) rfl | exact L), (by first | exact R ++ [((r9 : Int), (n : Int))] | exact R), (by first | exact (fun (_ : A3 = A3) => updA la n Sa) rfl | exact la), (by first | exact (fun (_ : A3 = A3) => updA lc n sc) rfl | exact lc), (by first | exact A3 | exact Aa), (by first | exact c3 | exact ca), (by first | exact A7 | exact Al), (by first | exact c7 | exact cl), _, _⟩ _ _ ?_ ?_ fs9 ?_)
 first
  | exact ⟨by omega, hn2, hmd, hTd⟩
  | exact ⟨by omega, hn2, hm, hT2⟩
  | exact ⟨by omega, hn, hm, hT⟩
 exact zom9
 first
  | exact KSub.cons pk9 (KSub.cons pk9 (KSub.cons pk9 (KSub.own pk9 (prL_app (L := R) (x := (r9 : Int)) (y := (n : Int)) hm.out rfl rfl) ks9)))
  | exact ks9
 try simp only [zcb9] at hc6
 obtain ⟨⟨hfd0, hn40⟩, hdo0⟩ := hc6
 have hfd1 : fd = false := by simpa using hfd0
 have hn3 : n < 4 := by omega
 have hdo : d i ≤ on := by omega
 have hlo0 : mlook (i : Int) (usM at_ n) = none := by
  have h9 := hfd.out
  rw [hfd1] at h9
  cases h8 : mlook (i : Int) (usM at_ n) with
  | none => rfl
  | some v => rw [h8] at h9; cases h9
 have hno : ∀ q, q < at_.length → at_.getD q 0 ≠ i := fun q hq e => us_no (k := n) (x := (i : Int)) (X := at_) (by rw [hlo0]; rfl) q (by rw [hn.out]; exact hq) (by rw [e])
 have hus : HidT (mput (i : Int) (.int .i64 (n : Int)) (usM at_ n) = usM (at_ ++ [i]) (n + 1)) := hidT (by
  have h9 := hlo0
  rw [hn.out] at h9 ⊢
  exact us_put (by rw [h9]; rfl))
 have hn2 : HidT (n + 1 = (at_ ++ [i]).length) := hidT (by rw [List.length_append, ← hn.out]; rfl)
 replace hlo0 := hidT hlo0
 obtain ⟨sg, hsg⟩ : ∃ f : Nat → Nat, ∀ q, f q = sgN (sgH H i q).toNat (chB gn u (20 + 8 * n + q)).toNat := ⟨_, fun _ => rfl⟩
 have hsgb : ∀ q, sg q < 2097152 := fun q => by rw [hsg]; exact sgN_bd
 have hsgt : ∀ q, sg q / 2 ^ (sgH H i q).toNat % 2 = 1 := fun q => by
  rw [hsg]
  have h9 := sg_bd hk (s := q) hi
  exact sgN_bit (by omega)
 replace hsg := hidT hsg
 obtain ⟨ag, hag⟩ : ∃ z : Int, z = on - d i := ⟨_, rfl⟩
 have hag9 : 0 ≤ ag ∧ ag ≤ 200000 := by omega
 have cv1 := chB_bd hu (60 + n)
 obtain ⟨v1, hv1⟩ : ∃ z, z = chB gn u (60 + n) := ⟨_, rfl⟩
 rw [← hv1] at cv1
 replace hv1 := hidT hv1
 have cv2 := chB_bd hu (64 + n)
 obtain ⟨v2, hv2⟩ : ∃ z, z = chB gn u (64 + n) := ⟨_, rfl⟩
 rw [← hv2] at cv2
 replace hv2 := hidT hv2
 obtain ⟨lo, hlo⟩ : ∃ z : Int, z = max 0 (ag - v1 % 500) := ⟨_, rfl⟩
 obtain ⟨hi9, hhi9⟩ : ∃ z : Int, z = min 200000 (ag + v2 % 500) := ⟨_, rfl⟩
 have hlh : 0 ≤ lo ∧ lo ≤ ag ∧ ag ≤ hi9 ∧ hi9 ≤ 200000 := by omega
 have hT2 : TrI H d on (at_ ++ [i]) (updA L n ⟨8, sg, on, lo, hi9⟩) R := by
  rw [hn.out]
  refine hT.look (by rw [← hn.out]; exact hn3) hi hno ?_ ?_ ?_
  have h1 : (allB 8 fun s => decide (sg s < 2097152)) = true := allB_iff.2 fun j hj => decide_eq_true (hsgb j)
  unfold lkB inB5 ordB5
  simp only [Bool.and_eq_true, decide_eq_true_eq, Bool.not_eq_true', decide_eq_false_iff_not]
  refine ⟨⟨⟨trivial, h1⟩, ?_⟩, ?_⟩ <;> omega
  unfold maB
  exact allB_iff.2 fun s hs => decide_eq_true (hsgt s)
  show on - hi9 ≤ d i ∧ d i ≤ on - lo
  omega
 replace hag := hidT hag
 replace hlo := hidT hlo
 replace hhi9 := hidT hhi9
 refine TW.skip ?_
 refine TQ.thenN (hY32 _ _ ?_)
 refine TW.seq fun Y35 hY35 => TW.region ?_
 refine TL.p Pu.mv ?_
 refine TL.p Pu.mv ?_
 refine TL.p Pu.mv ?_
 refine TL.p (Pu.ln Tryz.underlying28) ?_
 refine TL.mu ty_mp39 ?_
 refine TL.nil (TQ.thenN (hY35 _ _ ?_))
 refine TW.seq fun Y36 hY36 => ?_
 rw [hus.out]
 refine TW.region ?_
 refine TL.p Pu.mv ?_
 refine TL.p Pu.bd ?_
 refine TL.m (Mk.al ty_zr42) ?_
 intro b2
 first | refine TL.st ty_sz42 ?_ | refine TL.se ty_sz42 ?_
 refine TL.nil (TQ.thenN (hY36 _ _ ?_))
 refine TW.seq fun Y37 hY37 => ?_
 refine TW.seq fun Y38 hY38 => TW.region ?_
 refine TL.p Pu.mv ?_
 refine TL.nil (TQ.thenN (hY38 _ _ ?_))
 refine TW.block ?_
 refine TW.loop3 (fun (k : Nat) (Sa : Option Addr) (sc : Nat) => [(142, .int .i64 (k : Int)), (26, .pointer (some ⟨b2, 0, none⟩)), (23, .int .i64 (i : Int)), (107, .int .i64 (j : Int)), (106, .int .i64 (nw : Int)), (105, .slice B nw cb), (9, .bool true), (0, .slice A H.n cp), (2, .slice G gn gc), (10, .slice Ad H.n cd), (16, .int .i64 on), (20, .map (some b1)), (17, .slice Al n cl), (18, .slice Ac m cc), (19, .slice Aa n ca)]) (fun k Sa sc => [.own Sa k sc 25 1 (fun q => [.int .u32 (sg q : Int)]), .blk b2 42 [.slice Sa k sc, .int .i64 on, .int .i64 0, .int .i64 0], .own Aa n ca 3 1 (fun k => [.int .i64 (at_.getD k 0 : Int)]), .own Al n cl 42 4 (fun k => lkL (L k) (la k) (lc k)), tied (ownsE 25 1 la (fun _ => 8) lc (fun k j => [.int .u32 ((L k).sg j : Int)]) n), .own Ac m cc 51 2 (prL R), .obj b1 (mapO .i64 (usM (at_ ++ [i]) (n + 1)))]) (fun k Sa sc => k ≤ 8) (fun k Sa sc => 8 - k) 0 none 0 fs9 ?_ ?_ ?_
 exact KSub.nilOwn ks9
 exact Nat.zero_le _
 rintro k Sa sc hk8 Z2 hZ2
 refine TW.seq fun Y39 hY39 => TW.region ?_
 refine TL.p Pu.lt ?_
 refine TL.nil (TQ.thenN (hY39 _ _ ?_))
 refine TW.seq fun Y40 hY40 => ?_
 refine TW.cond rfl (fun hc7 => ?_) (fun hc7 => ?_)
 try simp only [zcb9] at hc7
 have hkl : k < 8 := by omega
 have hsb := sg_bd hk (s := k) hi
 obtain ⟨s9, hs9⟩ : ∃ s : Nat, sgH H i k = (s : Int) := ⟨(sgH H i k).toNat, by omega⟩
 have hs20 : s9 ≤ 20 := by omega
 have h2s : 2 ^ s9 ≤ 4294967295 := Nat.le_trans (Nat.pow_le_pow_right (by omega) hs20) (by decide)
 have hcb := chB_bd hu (20 + 8 * n + k)
 obtain ⟨m9, hm9⟩ : ∃ m : Nat, (m : Int) = chB gn u (20 + 8 * n + k) := ⟨(chB gn u (20 + 8 * n + k)).toNat, by omega⟩
 have hm9b : m9 ≤ 4294967295 := by omega
 have hor : 2 ^ s9 ||| m9 ≤ 4294967295 := Nat.le_of_lt_succ (Nat.or_lt_two_pow (n := 32) (Nat.lt_succ_of_le h2s) (Nat.lt_succ_of_le hm9b))
 have hsk : HidT (sg k = (2 ^ s9 ||| m9) &&& 2097151) := hidT (by rw [hsg.out, hs9, ← hm9]; rfl)
 replace hs9 := hidT hs9
 replace hm9 := hidT hm9
 clear hsb
 have fS := fun (w' : World) (h : HIn w' A H a c) => lw_sgn hk hi hs9.out h
 unfold anL at fS
 refine TW.skip ?_
 refine TQ.thenN (hY40 _ _ ?_)
 refine TW.seq fun Y41 hY41 => ?_
 refine TW.block ?_
 refine TW.seq fun Y42 hY42 => TW.region ?_
 refine TL.p Pu.mv ?_
 refine TL.p Pu.as ?_
 refine TL.nil (TQ.thenN (hY42 _ _ ?_))
 refine TW.dw 20 ?_
 refine RK.tk (by first | exact Pu.fb ty_fa42_0 | exact Pu.fe ty_fa42_0) ?_
 refine RK.tk (Pu.ld ty_sc24) ?_
 refine RK.tk Pu.mv ?_
 refine RK.tk Pu.mv ?_
 refine RK.tk (Pu.el ty_et22) ?_
 refine RK.tk (Pu.lds ty_ag46) ?_
 refine RK.tk Pu.mv ?_
 refine RK.keep ?_
 refine RK.keep ?_
 refine RK.tk Pu.mv ?_
 refine RK.tk Pu.mv ?_
 refine RK.tk (Pu.ln Tryz.underlying28) ?_
 refine RK.tk Pu.ml ?_
 refine RK.tk Pu.ad ?_
 refine RK.tk Pu.mv ?_
 refine RK.tk Pu.ad ?_
 refine RK.keep ?_
 refine RK.keep ?_
 refine RK.keep ?_
 refine RK.keep ?_
 refine RK.ch [false, true, false, true, true, false] ?_ trivial
 refine WK.cr rfl (enters Tryz.func16 rfl rfl) (fun w hw => by
   exact fS _ (hI2.sat hw)) ?_
 refine WK.p (Pu.slW (j := s9)) ?_
 refine WK.cr rfl (enters Tryz.func17 rfl rfl) (fun w hw => by
   exact ch_x (q := 20 + 8 * n + k) (v := (m9 : Int)) _ (by omega) hm9.out (hGR2.sat hw Apart.nil)) ?_
 refine WK.p (Pu.oW (a := 2 ^ s9) (b := m9) (ha := h2s) (hb := hm9b)) ?_
 refine WK.p (Pu.aW (a := 2 ^ s9 ||| m9) (b := 2097151) (ha := hor) (hb := by decide)) ?_
 refine WK.m Mk.bl ?_
 intro b3
 refine WK.n ?_
 first | refine TL.a0 ty_et24 ?_ | refine TL.ap ty_et24 ?_
 intro A4 c4
 refine TL.p (by first | exact Pu.fb ty_fa42_0 | exact Pu.fe ty_fa42_0) ?_
 first | refine TL.st ty_sz24 ?_ | refine TL.se ty_sz24 ?_
 refine TL.nil ?_
 refine TQ.blkN ?_
 refine TQ.thenN (hY41 _ _ ?_)
 refine TW.region ?_
 refine TL.p Pu.ad ?_
 refine TL.p Pu.mv ?_
 refine TL.nil ?_
 refine TQ.thenN (hZ2 (k + 1) A4 c4 _ _ ?_ ?_ fs9 ?_)
 exact (by omega)
 exact zom9
 exact KSub.own pk9 (cat_fun (f := fun q => .int .u32 (sg q : Int)) (by rw [hsk.out])) ks9
 try simp only [zcb9] at hc7
 obtain rfl : k = 8 := by omega
 refine TW.exit ?_
 refine TQ.thenX ?_
 refine TQ.thenX ?_
 refine TQ.blkX ?_
 refine TQ.thenN (hY37 _ _ ?_)
 refine TW.seq fun Y43 hY43 => TW.region ?_
 refine TL.p Pu.mv ?_
 refine TL.p Pu.mv ?_
 refine TL.p Pu.mv ?_
 refine TL.p (Pu.el ty_et28) ?_
 refine TL.p (Pu.ld ty_sc3) ?_
 refine TL.p (Pu.iv Pu.sb hag.out.symm) ?_
 refine TL.p Pu.as ?_
 refine TL.nil (TQ.thenN (hY43 _ _ ?_))
 refine TW.seq fun Y44 hY44 => TW.region ?_
 refine TL.p Pu.mv ?_
 refine TL.p Pu.mv ?_
 refine TL.p Pu.mv ?_
 refine TL.p (Pu.ln Tryz.underlying28) ?_
 refine TL.p Pu.ad ?_
 refine TL.cr rfl (enters Tryz.func17 rfl rfl) (fun w hw => by
   exact ch_x (q := 60 + n) (v := v1) _ (by omega) hv1.out (hGR2.sat hw Apart.nil)) ?_
 refine TL.p Pu.rmW ?_
 refine TL.p (Pu.cv (v := .int .i64 (v1 % 500)) rfl (fun w => by go_simp; rw [IntWalk.i64_in (v1 % 500) (by omega)])) ?_
 refine TL.p Pu.sb ?_
 refine TL.p (Pu.iv Pu.mx hlo.out.symm) ?_
 refine TL.p Pu.mv ?_
 refine TL.p Pu.mv ?_
 refine TL.p Pu.mv ?_
 refine TL.p (Pu.ln Tryz.underlying28) ?_
 refine TL.p Pu.ad ?_
 refine TL.cr rfl (enters Tryz.func17 rfl rfl) (fun w hw => by
   exact ch_x (q := 64 + n) (v := v2) _ (by omega) hv2.out (hGR2.sat hw Apart.nil)) ?_
 refine TL.p Pu.rmW ?_
 refine TL.p (Pu.cv (v := .int .i64 (v2 % 500)) rfl (fun w => by go_simp; rw [IntWalk.i64_in (v2 % 500) (by omega)])) ?_
 refine TL.p Pu.ad ?_
 refine TL.p (Pu.iv Pu.mn hhi9.out.symm) ?_
 refine TL.cr rfl (enters Tryz.func18 rfl rfl) (fun w hw => by
   exact span2_any _ _ _) ?_
 refine TL.p (by first | exact Pu.fb ty_fa42_2 | exact Pu.fe ty_fa42_2) ?_
 first | refine TL.st ty_sz36 ?_ | refine TL.se ty_sz36 ?_
 refine TL.nil (TQ.thenN (hY44 _ _ ?_))
 refine TW.seq fun Y45 hY45 => ?_
 refine TW.ownSnoc (A9 := Sa) (l9 := 8) (c9 := sc) (r9 := fun q => [.int .u32 (sg q : Int)]) (A2 := updA la n Sa) (l2 := fun _ => 8) (c2 := updA lc n sc) (r2 := fun k j => [.int .u32 ((updA L n (⟨8, sg, on, lo, hi9⟩ : Lk) k).sg j : Int)]) pk9 pk9 (if_pos rfl) rfl (if_pos rfl) (fun k _ => by unfold updA; rw [if_pos rfl]) (fun k hk9 => ⟨(if_neg (by omega)).symm, rfl, (if_neg (by omega)).symm, by unfold updA; rw [if_neg (by omega)]⟩) ?_
 refine TW.expk [.blk b2 42 [.slice Sa 8 sc, .int .i64 on, .int .i64 lo, .int .i64 hi9]] (fun (⟨A3, c3, A7, c7⟩ : Option Addr × Nat × Option Addr × Nat) => ([(23, .int .i64 (i : Int)), (107, .int .i64 (j : Int)), (106, .int .i64 (nw : Int)), (105, .slice B nw cb), (9, .bool true), (0, .slice A H.n cp), (2, .slice G gn gc), (10, .slice Ad H.n cd), (16, .int .i64 on), (20, .map (some b1)), (17, .slice A7 (n + 1) c7), (18, .slice Ac m cc), (19, .slice A3 (n + 1) c3)] : Fr)) (fun (⟨A3, c3, A7, c7⟩ : Option Addr × Nat × Option Addr × Nat) => [.own A3 (n + 1) c3 3 1 (catR n (fun k => [.int .i64 (at_.getD k 0 : Int)]) (fun _ => [.int .i64 (i : Int)])), .own A7 (n + 1) c7 42 4 (catR n (fun k => lkL (L k) (la k) (lc k)) (fun _ => lkL ⟨8, sg, on, lo, hi9⟩ Sa sc)), tied (ownsE 25 1 (updA la n Sa) (fun _ => 8) (updA lc n sc) (fun k j => [.int .u32 ((updA L n (⟨8, sg, on, lo, hi9⟩ : Lk) k).sg j : Int)]) (n + 1)), .own Ac m cc 51 2 (prL R), .obj b1 (mapO .i64 (usM (at_ ++ [i]) (n + 1)))]) ?_ (fun hE => ?_)
 rintro ⟨A3, c3, A7, c7⟩
 refine TQ.thenN (hY45 _ _ ?_)
 refine TW.seq fun Y46 hY46 => ?_
 refine TW.subK (KSub.own pk9 (s := fun k => [.int .i64 ((at_ ++ [i]).getD k 0 : Int)]) (cat_at hn.out) (KSub.own pk9 (s := fun k => lkL (updA L n (⟨8, sg, on, lo, hi9⟩ : Lk) k) (updA la n Sa k) (updA lc n sc k)) cat_lk (KSub.refl _))) ?_
 refine TW.region ?_
 refine TL.p Pu.mv ?_
 refine TL.p Pu.mv ?_
 refine TL.cr rfl (enters Tryz.func19 rfl rfl) (fun w hw => by
   exact place2_any (hI2.sat hw) hk hi) ?_
 refine TL.p Pu.as ?_
 refine TL.nil (TQ.thenN (hY46 _ _ ?_))
 refine TW.seq fun Y47 hY47 => TW.region ?_
 refine TL.p Pu.mv ?_
 refine TL.p Pu.ge ?_
 refine TL.nil (TQ.thenN (hY47 _ _ ?_))
 refine TW.cond rfl (fun hc8 => ?_) (fun hc8 => ?_)
 try simp only [zcb9] at hc8
 have h0 : 0 ≤ moH H i := hc8
 obtain ⟨q, hq⟩ : ∃ q : Nat, moH H i = (q : Int) := ⟨(moH H i).toNat, by omega⟩
 rw [hq]
 have hqi : q ≠ i := fun e => by
  have h9 := hTru.mo i hi h0
  rw [hq, Int.toNat_natCast, e] at h9
  omega
 obtain ⟨f2, hf2⟩ : ∃ z, (mlook (q : Int) (usM (at_ ++ [i]) (n + 1))).isSome = z := ⟨_, rfl⟩
 obtain ⟨v3, hv3⟩ : ∃ z, (mlook (q : Int) (usM (at_ ++ [i]) (n + 1))).getD (.int .i64 0) = z := ⟨_, rfl⟩
 replace hf2 := hidT hf2
 replace hv3 := hidT hv3
 replace hq := hidT hq
 refine TW.seq fun Y48 hY48 => TW.region ?_
 refine TL.p Pu.mv ?_
 refine TL.p Pu.mv ?_
 refine TL.p (Pu.lkV v3 f2 ty_mp39 ty_zv3 hv3.out hf2.out) ?_
 refine TL.p Pu.mv ?_
 refine TL.p Pu.ex ?_
 refine TL.p Pu.ex ?_
 refine TL.p Pu.as ?_
 refine TL.p Pu.as ?_
 refine TL.nil (TQ.thenN (hY48 _ _ ?_))
 refine TW.seq fun Y49 hY49 => TW.region ?_
 refine TL.p Pu.mv ?_
 refine TL.nil (TQ.thenN (hY49 _ _ ?_))
 refine TW.cond rfl (fun hc9 => ?_) (fun hc9 => ?_)
 try simp only [zcb9] at hc9
 have hf3 : f2 = true := by simpa using hc9
 obtain ⟨r9, hr1, hr2, hr3⟩ := us_get (x := (q : Int)) (X := at_ ++ [i]) (n + 1) (by rw [hf2.out, hf3])
 obtain rfl : v3 = .int .i64 (r9 : Int) := by rw [← hv3.out, hr3]; rfl
 have hl3 : HidT ((mlook (i : Int) (usM (at_ ++ [i]) (n + 1))).getD (.int .i64 0) = .int .i64 (n : Int)) := hidT (by
  rw [hn.out, us_last hno]
  rfl)
 have hmd : HidT (m + 1 = (R ++ [((r9 : Int), (n : Int))]).length) := hidT (by rw [List.length_append, ← hm.out]; rfl)
 have hTd : TrI H d on (at_ ++ [i]) (updA L n ⟨8, sg, on, lo, hi9⟩) (R ++ [((r9 : Int), (n : Int))]) := by
  have e9 : (at_ ++ [i]).getD n 0 = i := by rw [hn.out]; exact at_r
  refine hT2.calf (by rw [← hn2.out, ← hm.out]; omega) (by rw [← hn2.out]; exact hr1) (by rw [← hn2.out]; omega) (fun e => hqi ?_) ?_
  rw [e, e9] at hr2
  omega
  rw [e9, hr2]
  exact hq.out
 clear hr2 hr3
 refine TW.region ?_
 refine TL.p Pu.mv ?_
 refine TL.p Pu.mv ?_
 refine TL.p Pu.mv ?_
 refine TL.p Pu.mv ?_
 refine TL.p (Pu.l1V (.int .i64 (n : Int)) ty_mp39 ty_zv3 hl3.out) ?_
 refine TL.p Pu.bd ?_
 refine TL.m Mk.bl ?_
 intro b5
 first | refine TL.a0 ty_et38 ?_ | refine TL.ap ty_et38 ?_
 intro A6 c6
 refine TL.p Pu.as ?_
 refine TL.nil ?_
 refine TQ.blkN ?_
 refine TQ.thenN (hY29 _ _ ?_)
 refine TW.region ?_
 refine TL.p Pu.ad ?_
 refine TL.p Pu.mv ?_
 refine TL.nil ?_
 refine TQ.thenN (hZ1 (j + 1) (by first | exact (fun (_ : A3 = A3) => n + 1) rfl | exact n) (by first | exact (fun (_ : r9 = r9) => m + 1) rfl | exact m) ⟨(by first | exact (fun (_ : A3 = A3) => at_ ++ [i]) rfl | exact at_), (by first | exact (fun (_ : A3 = A3) => updA L n ⟨8, sg, on, lo, hi9⟩) rfl | exact L), (by first | exact R ++ [((r9 : Int), (n : Int))] | exact R), (by first | exact (fun (_ : A3 = A3) => updA la n Sa) rfl | exact la), (by first | exact (fun (_ : A3 = A3) => updA lc n sc) rfl | exact lc), (by first | exact A3 | exact Aa), (by first | exact c3 | exact ca), (by first | exact A7 | exact Al), (by first | exact c7 | exact cl), _, _⟩ _ _ ?_ ?_ fs9 ?_)
 first
  | exact ⟨by omega, hn2, hmd, hTd⟩
  | exact ⟨by omega, hn2, hm, hT2⟩
  | exact ⟨by omega, hn, hm, hT⟩
 exact zom9
 first
  | exact KSub.cons pk9 (KSub.cons pk9 (KSub.cons pk9 (KSub.own pk9 (prL_app (L := R) (x := (r9 : Int)) (y := (n : Int)) hm.out rfl rfl) ks9)))
  | exact ks9
 try simp only [zcb9] at hc9
 refine TW.skip ?_
 refine TQ.blkN ?_
 refine TQ.thenN (hY29 _ _ ?_)
 refine TW.region ?_
 refine TL.p Pu.ad ?_
 refine TL.p Pu.mv ?_
 refine TL.nil ?_
 refine TQ.thenN (hZ1 (j + 1) (by first | exact (fun (_ : A3 = A3) => n + 1) rfl | exact n) (by first | exact (fun (_ : r9 = r9) => m + 1) rfl | exact m) ⟨(by first | exact (fun (_ : A3 = A3) => at_ ++ [i]) rfl | exact at_), (by first | exact (fun (_ : A3 = A3) => updA L n ⟨8, sg, on, lo, hi9⟩) rfl | exact L), (by first | exact R ++ [((r9 : Int), (n : Int))] | exact R), (by first | exact (fun (_ : A3 = A3) => updA la n Sa) rfl | exact la), (by first | exact (fun (_ : A3 = A3) => updA lc n sc) rfl | exact lc), (by first | exact A3 | exact Aa), (by first | exact c3 | exact ca), (by first | exact A7 | exact Al), (by first | exact c7 | exact cl), _, _⟩ _ _ ?_ ?_ fs9 ?_)
 first
  | exact ⟨by omega, hn2, hmd, hTd⟩
  | exact ⟨by omega, hn2, hm, hT2⟩
  | exact ⟨by omega, hn, hm, hT⟩
 exact zom9
 first
  | exact KSub.cons pk9 (KSub.cons pk9 (KSub.cons pk9 (KSub.own pk9 (prL_app (L := R) (x := (r9 : Int)) (y := (n : Int)) hm.out rfl rfl) ks9)))
  | exact ks9
 try simp only [zcb9] at hc8
 refine TW.skip ?_
 refine TQ.blkN ?_
 refine TQ.thenN (hY29 _ _ ?_)
 refine TW.region ?_
 refine TL.p Pu.ad ?_
 refine TL.p Pu.mv ?_
 refine TL.nil ?_
 refine TQ.thenN (hZ1 (j + 1) (by first | exact (fun (_ : A3 = A3) => n + 1) rfl | exact n) (by first | exact (fun (_ : r9 = r9) => m + 1) rfl | exact m) ⟨(by first | exact (fun (_ : A3 = A3) => at_ ++ [i]) rfl | exact at_), (by first | exact (fun (_ : A3 = A3) => updA L n ⟨8, sg, on, lo, hi9⟩) rfl | exact L), (by first | exact R ++ [((r9 : Int), (n : Int))] | exact R), (by first | exact (fun (_ : A3 = A3) => updA la n Sa) rfl | exact la), (by first | exact (fun (_ : A3 = A3) => updA lc n sc) rfl | exact lc), (by first | exact A3 | exact Aa), (by first | exact c3 | exact ca), (by first | exact A7 | exact Al), (by first | exact c7 | exact cl), _, _⟩ _ _ ?_ ?_ fs9 ?_)
 first
  | exact ⟨by omega, hn2, hmd, hTd⟩
  | exact ⟨by omega, hn2, hm, hT2⟩
  | exact ⟨by omega, hn, hm, hT⟩
 exact zom9
 first
  | exact KSub.cons pk9 (KSub.cons pk9 (KSub.cons pk9 (KSub.own pk9 (prL_app (L := R) (x := (r9 : Int)) (y := (n : Int)) hm.out rfl rfl) ks9)))
  | exact ks9
 refine RG.tk 0 rfl Pu.mv ?_
 refine RG.tk 1 rfl Pu.mv ?_
 refine RG.tk 4 rfl Pu.mv ?_
 refine RG.tk 5 rfl (Pu.lds ty_ag42) ?_
 refine RG.a2 2 6 rfl rfl (fun X2 hX2 => ?_) (fun X6 hX6 => ?_)
 refine TL.m Mk.bl ?_
 intro x2
 refine TL.nil ?_
 refine TQ.nxt (hX2 _ _ hl9 ?_)
 refine RG.a2 3 6 rfl rfl (fun X3 hX3 => ?_) (fun X6 hX6 => ?_)
 first | refine TL.a0 ty_et28 ?_ | refine TL.ap ty_et28 ?_
 intro A3 c3
 refine TL.nil ?_
 refine TQ.nxt (hX3 _ _ hl9 ?_)
 refine RG.a1 6 rfl (fun X6 hX6 => ?_)
 refine TL.m Mk.bl ?_
 intro x6
 refine TL.nil ?_
 refine TQ.nxt (hX6 _ _ hl9 ?_)
 refine RG.a1 7 rfl (fun X7 hX7 => ?_)
 first | refine TL.a0 ty_et37 ?_ | refine TL.ap ty_et37 ?_
 intro A7 c7
 refine TL.nil ?_
 refine TQ.nxt (hX7 _ _ hl9 ?_)
 refine RG.tk 8 rfl Pu.as ?_
 refine RG.tk 9 rfl Pu.as ?_
 exact RG.nil (TQ.sub fs9 kt9 (hE ⟨A3, c3, A7, c7⟩)) (by kernel_rfl)
 refine TL.m Mk.bl ?_
 intro x6
 refine TL.nil ?_
 refine TQ.nxt (hX6 _ _ hl9 ?_)
 refine RG.a1 3 rfl (fun X3 hX3 => ?_)
 first | refine TL.a0 ty_et28 ?_ | refine TL.ap ty_et28 ?_
 intro A3 c3
 refine TL.nil ?_
 refine TQ.nxt (hX3 _ _ hl9 ?_)
 refine RG.a1 7 rfl (fun X7 hX7 => ?_)
 first | refine TL.a0 ty_et37 ?_ | refine TL.ap ty_et37 ?_
 intro A7 c7
 refine TL.nil ?_
 refine TQ.nxt (hX7 _ _ hl9 ?_)
 refine RG.tk 8 rfl Pu.as ?_
 refine RG.tk 9 rfl Pu.as ?_
 exact RG.nil (TQ.sub fs9 kt9 (hE ⟨A3, c3, A7, c7⟩)) (by kernel_rfl)
 refine TL.m Mk.bl ?_
 intro x6
 refine TL.nil ?_
 refine TQ.nxt (hX6 _ _ hl9 ?_)
 refine RG.a1 2 rfl (fun X2 hX2 => ?_)
 refine TL.m Mk.bl ?_
 intro x2
 refine TL.nil ?_
 refine TQ.nxt (hX2 _ _ hl9 ?_)
 refine RG.a1 3 rfl (fun X3 hX3 => ?_)
 first | refine TL.a0 ty_et28 ?_ | refine TL.ap ty_et28 ?_
 intro A3 c3
 refine TL.nil ?_
 refine TQ.nxt (hX3 _ _ hl9 ?_)
 refine RG.a1 7 rfl (fun X7 hX7 => ?_)
 first | refine TL.a0 ty_et37 ?_ | refine TL.ap ty_et37 ?_
 intro A7 c7
 refine TL.nil ?_
 refine TQ.nxt (hX7 _ _ hl9 ?_)
 refine RG.tk 8 rfl Pu.as ?_
 refine RG.tk 9 rfl Pu.as ?_
 exact RG.nil (TQ.sub fs9 kt9 (hE ⟨A3, c3, A7, c7⟩)) (by kernel_rfl)
 refine TW.region ?_
 refine TL.p Pu.mv ?_
 refine TL.p Pu.mv ?_
 refine TL.guard (t := 123) rfl (fun hg1 => ?_) (fun hg1 => ?_)
 try simp only [zgb9] at hg1
 refine TL.gs ?_
 refine TL.gs ?_
 refine TL.gs ?_
 refine TL.p Pu.kt ?_
 refine TL.p Pu.mv ?_
 refine TL.gs ?_
 refine TL.gs ?_
 refine TL.gs ?_
 refine TL.gs ?_
 refine TL.gs ?_
 refine TL.gs ?_
 refine TL.p Pu.kt ?_
 refine TL.nil ?_
 exact TQ.sub (by repeat (first | exact trivial | refine ⟨rfl, ?_⟩ | refine ⟨trivial, ?_⟩ | refine ⟨(by show some (Value.bool _) = some (Value.bool _); first | (simp [hg1]; done) | (refine congrArg (fun z => some (Value.bool z)) (Bool.eq_iff_iff.2 ?_); simp [hg1]; omega)), ?_⟩)) ks9 hJ2
 try simp only [zgb9] at hg1
 refine TL.gd Pu.mv ?_
 refine TL.gd (Pu.ln Tryz.underlying28) ?_
 refine TL.gd Pu.ge ?_
 refine TL.p Pu.kf ?_
 refine TL.p Pu.mv ?_
 refine TL.guard (t := 128) rfl (fun hg2 => ?_) (fun hg2 => ?_)
 try simp only [zgb9] at hg2
 refine TL.gs ?_
 refine TL.gs ?_
 refine TL.gs ?_
 refine TL.gs ?_
 refine TL.gs ?_
 refine TL.gs ?_
 refine TL.p Pu.kt ?_
 refine TL.nil ?_
 exact TQ.sub (by repeat (first | exact trivial | refine ⟨rfl, ?_⟩ | refine ⟨trivial, ?_⟩ | refine ⟨(by show some (Value.bool _) = some (Value.bool _); first | (simp [hg1, hg2]; done) | (refine congrArg (fun z => some (Value.bool z)) (Bool.eq_iff_iff.2 ?_); simp [hg1, hg2]; omega)), ?_⟩)) ks9 hJ2
 try simp only [zgb9] at hg2
 refine TL.gd Pu.mv ?_
 refine TL.gd Pu.mv ?_
 refine TL.gd (Pu.el ty_et28) ?_
 refine TL.gd (Pu.ld ty_sc3) ?_
 refine TL.gd Pu.mv ?_
 refine TL.gd Pu.gt ?_
 refine TL.p Pu.kf ?_
 refine TL.nil ?_
 exact TQ.sub (by repeat (first | exact trivial | refine ⟨rfl, ?_⟩ | refine ⟨trivial, ?_⟩ | refine ⟨(by show some (Value.bool _) = some (Value.bool _); first | (simp [hg1, hg2]; done) | (refine congrArg (fun z => some (Value.bool z)) (Bool.eq_iff_iff.2 ?_); simp [hg1, hg2]; omega)), ?_⟩)) ks9 hJ2
 try simp only [zcb9] at hc5
 obtain rfl : j = nw := by omega
 have hF := hT.fin hk hTru
 rw [← hn.out, ← hm.out] at hF
 obtain ⟨⟨k5, k7⟩, hS⟩ := hF
 obtain ⟨M, k6⟩ : ∃ z, nmL H n L m (prD R) (prY R) = z := ⟨_, rfl⟩
 rw [k6] at hS
 obtain ⟨iy, hiy⟩ : ∃ f : Nat → Nat, ∀ k, at_.getD k 0 = f k := ⟨_, fun _ => rfl⟩
 have hib : ∀ k, k < n → iy k < H.n := fun k h => by rw [← hiy k]; exact hT.bd k (by rw [← hn.out]; exact h)
 have hfit : ∀ k, k < n → fitC H (L k) = 0 := fun k h => hS.fit k (by rw [← hn.out]; exact h)
 have hinM : ∀ k, k < n → H.id (iy k) ∈ M k := fun k h => by rw [← hiy k]; exact hS.inM k (by rw [← hn.out]; exact h)
 have hinF : ∀ k, k < n → H.id (iy k) ∈ fitL H (L k) := fun k h => by rw [← hiy k]; exact hS.inF k (by rw [← hn.out]; exact h)
 have hsub : ∀ k, k < n → ∀ v, v ∈ M k → v ∈ fitL H (L k) := fun k h => hS.sub k (by rw [← hn.out]; exact h)
 have hasc := hS.asc
 have hlM : ∀ k, k < n → (M k).length ≤ 1000000 := fun k h => hS.lM k (by rw [← hn.out]; exact h)
 have hlk : ∀ k, k < n → lkB (L k) = true := fun k h => hT.lk k (by rw [← hn.out]; exact h)
 replace k5 := hidT k5
 replace k6 := hidT k6
 replace k7 := hidT k7
 clear hS
 refine TW.exit ?_
 refine TQ.thenX ?_
 refine TQ.thenX ?_
 refine TQ.blkX ?_
 refine TQ.thenN (hY25 _ _ ?_)
 refine TW.rebase fun w2 hw2 => ?_
 have rA := (OwnR.rdr (hw2.holds (.own Aa n ca 3 1 (fun k => [.int .i64 (at_.getD k 0 : Int)])) (Pick.mem pk9))).cg (s := fun k => [.int .i64 (iy k : Int)]) (fun k _ => by rw [hiy k])
 have rL := OwnR.rdr (hw2.holds (.own Al n cl 42 4 (fun k => lkL (L k) (la k) (lc k))) (Pick.mem pk9))
 have rC := OwnR.rdr (hw2.holds (.own Ac m cc 51 2 (prL R)) (Pick.mem pk9))
 have hLin : ∀ k, k < n → LkIn w2 (L k) (la k) := fun k hk9 => by
  have h8 := lk_8 (hlk k hk9)
  have hb8 : ∀ j, j < 8 → (L k).sg j < 2097152 := fun j hj => by
   have h9 := hlk k hk9
   unfold lkB at h9
   simp only [Bool.and_eq_true] at h9
   exact of_decide_eq_true (allB_iff.1 h9.1.1.2 j hj)
  refine ⟨by omega, ?_, fun j hj => by have := hb8 j (by omega); omega⟩
  rw [h8]
  exact OwnR.rdr (bun_get hw2 (K1 := ownsE 25 1 la (fun _ => 8) lc (fun k j => [.int .u32 ((L k).sg j : Int)]) n) (Pick.mem pk9) (ownsE_mem hk9))
 have hLI : LksIn w2 n L Al la lc := ⟨by omega, rL, hLin⟩
 have hCI : CvsIn w2 m (prD R) (prY R) Ac := ⟨by omega, rC⟩
 have hI3 := hI2.ext (Chg.ext hw2.chg)
 clear rC hR2 hWR2 hGR2 rD
 refine TW.seq fun Y50 hY50 => TW.region ?_
 refine TL.p Pu.mv ?_
 refine TL.p Pu.mv ?_
 refine TL.p Pu.mv ?_
 refine TL.call (M := []) rfl (enters Tryz.func20 rfl rfl) (List.Perm.refl _) rfl (fun w hw => by
   exact lw_names k5.out k6.out k7.out (hI3.sat hw) (hLI.ext (Chg.ext hw.chg)) (hCI.ext (Chg.ext hw.chg))) ?_
 rintro ⟨⟨PM, pm⟩, ma, mc⟩
 refine TL.p Pu.mv ?_
 refine TL.p Pu.ex ?_
 refine TL.p Pu.ex ?_
 refine TL.p Pu.as ?_
 refine TL.p Pu.as ?_
 refine TL.nil (TQ.thenN (hY50 _ _ ?_))
 refine TW.seq fun Y51 hY51 => ?_
 refine TW.seq fun Y52 hY52 => TW.region ?_
 refine TL.p Pu.mv ?_
 refine TL.p Pu.ne ?_
 refine TL.lit (t := 233) (b' := false) rfl (rfl) ?_
 refine TL.p Pu.mv ?_
 refine TL.gd Pu.mv ?_
 refine TL.gd (Pu.ln Tryz.underlying52) ?_
 refine TL.gd Pu.mv ?_
 refine TL.gd (Pu.ln Tryz.underlying37) ?_
 refine TL.gd Pu.ne ?_
 refine TL.lit (t := 239) (b' := false) rfl ((by simp)) ?_
 refine TL.p Pu.kf ?_
 refine TL.nil (TQ.thenN (hY52 _ _ ?_))
 refine TW.condF rfl rfl ?_
 refine TW.skip ?_
 refine TQ.thenN (hY51 _ _ ?_)
 refine TW.rebase fun w3 hw3 => ?_
 have rM := OwnR.rdr (hw3.holds (.own PM n pm 28 1 (fun k => [.slice (ma k) (M k).length (mc k)])) (Pick.mem pk9))
 have rMk : ∀ k, k < n → RdR w3 1 (ma k) (M k).length (iL (M k)) := fun k hk9 => OwnR.rdr (bun_get hw3 (K1 := ownsE 3 1 ma (fun k => (M k).length) mc (fun k => iL (M k)) n) (Pick.mem pk9) (ownsE_mem hk9))
 have hI4 := hI3.ext (Chg.ext hw3.chg)
 have hR4 := hI4.hR
 unfold anL at hR4
 have hLI4 := hLI.ext (Chg.ext hw3.chg)
 have rL4 := hLI4.hR
 unfold lkL at rL4
 have rA4 := rA.sat hw3 Apart.nil
 have fF := fun (w' : World) (k : Nat) (X : List Int) (h1 : fitC H (L k) = 0) (h2 : fitL H (L k) = X) (h : HIn w' A H a c) (h3 : LkIn w' (L k) (la k)) => lw_fits (cp := cp) (cl := lc k) h1 h2 h h3
 unfold lkL at fF
 clear rL rA
 refine TW.seq fun Y53 hY53 => ?_
 refine TW.seq fun Y54 hY54 => TW.region ?_
 refine TL.p Pu.mv ?_
 refine TL.p (Pu.ln Tryz.underlying28) ?_
 refine TL.p Pu.mv ?_
 refine TL.nil (TQ.thenN (hY54 _ _ ?_))
 refine TW.block ?_
 refine TW.loop1 (fun (k : Nat) => [(243, .int .i64 (k : Int)), (242, .int .i64 (n : Int)), (241, .slice Aa n ca), (9, .bool true), (0, .slice A H.n cp), (17, .slice Al n cl), (32, .slice PM n pm)]) (fun k => []) (fun k => k ≤ n) (fun k => n - k) 0 fs9 ?_ ?_ ?_
 exact ks9
 exact Nat.zero_le _
 rintro k hkn Z3 hZ3
 refine TW.seq fun Y55 hY55 => TW.region ?_
 refine TL.p Pu.lt ?_
 refine TL.nil (TQ.thenN (hY55 _ _ ?_))
 refine TW.seq fun Y56 hY56 => ?_
 refine TW.cond rfl (fun hc11 => ?_) (fun hc11 => ?_)
 try simp only [zcb9] at hc11
 have hkl : k < n := by omega
 have hibk := hib k hkl
 have hlMk := hlM k hkl
 have rMk1 := rMk k hkl
 have hasck := hasc k
 have hinMk := hinM k hkl
 obtain ⟨X, hX⟩ : ∃ z, fitL H (L k) = z := ⟨_, rfl⟩
 have hinX : H.id (iy k) ∈ X := by rw [← hX]; exact hinF k hkl
 have hsubX : ∀ v, v ∈ M k → v ∈ X := by rw [← hX]; exact hsub k hkl
 have hlX : X.length ≤ 1000000 := by rw [← hX]; exact fit_len hk
 have hfk := hidT (hfit k hkl)
 replace hX := hidT hX
 refine TW.skip ?_
 refine TQ.thenN (hY56 _ _ ?_)
 refine TW.seq fun Y57 hY57 => ?_
 refine TW.block ?_
 refine TW.seq fun Y58 hY58 => TW.region ?_
 refine TL.p Pu.mv ?_
 refine TL.p (Pu.el ty_et28) ?_
 refine TL.p (Pu.ld ty_sc3) ?_
 refine TL.p Pu.as ?_
 refine TL.p Pu.as ?_
 refine TL.nil (TQ.thenN (hY58 _ _ ?_))
 refine TW.seq fun Y59 hY59 => TW.region ?_
 refine TL.p Pu.mv ?_
 refine TL.p Pu.mv ?_
 refine TL.p Pu.mv ?_
 refine TL.p (Pu.el ty_et37) ?_
 refine TL.p (Pu.lds ty_ag42) ?_
 refine TL.call (M := []) rfl (enters Tryz.func21 rfl rfl) (List.Perm.refl _) rfl (fun w hw => by
   exact fF _ k X hfk.out hX.out (hI4.sat hw) ((hLI4.ext (Chg.ext hw.chg)).hL k hkl)) ?_
 rintro ⟨PF, pf⟩
 refine TL.p Pu.mv ?_
 refine TL.p Pu.ex ?_
 refine TL.p Pu.ex ?_
 refine TL.p Pu.as ?_
 refine TL.p Pu.as ?_
 refine TL.nil (TQ.thenN (hY59 _ _ ?_))
 refine TW.seq fun Y60 hY60 => ?_
 refine TW.seq fun Y61 hY61 => ?_
 refine TW.dw 25 ?_
 refine RK.tk Pu.mv ?_
 refine RK.tk Pu.ne ?_
 refine RK.tk Pu.mv ?_
 refine RK.tk Pu.mv ?_
 refine RK.tk Pu.mv ?_
 refine RK.tk (Pu.el ty_et52) ?_
 refine RK.tk (Pu.ld ty_sc28) ?_
 refine RK.tk Pu.mv ?_
 refine RK.tk Pu.mv ?_
 refine RK.tk (Pu.el ty_et22) ?_
 refine RK.tk (by first | exact Pu.fb ty_fa46_0 | exact Pu.fe ty_fa46_0) ?_
 refine RK.tk (Pu.ld ty_sc3) ?_
 refine RK.keep ?_
 refine RK.keep ?_
 refine RK.keep ?_
 refine RK.keep ?_
 refine RK.keep ?_
 refine RK.keep ?_
 refine RK.keep ?_
 refine RK.keep ?_
 refine RK.keep ?_
 refine RK.keep ?_
 refine RK.keep ?_
 refine RK.keep ?_
 refine RK.keep ?_
 refine RK.ch [false, true, true, true, true, true, true, true, true, true, false, true, true] ?_ trivial
 refine WK.cr rfl (enters Tryz.func22 rfl rfl) (fun w hw => by
   exact lw_has _ hlMk hinMk (rMk1.sat hw Apart.nil)) ?_
 refine WK.p Pu.no ?_
 refine WK.lit (t := 270) (b' := false) rfl (rfl) ?_
 refine WK.p Pu.kf ?_
 refine WK.p Pu.mv ?_
 refine WK.p Pu.mv ?_
 refine WK.p Pu.mv ?_
 refine WK.p Pu.mv ?_
 refine WK.p (Pu.el ty_et22) ?_
 refine WK.p (by first | exact Pu.fb ty_fa46_0 | exact Pu.fe ty_fa46_0) ?_
 refine WK.p (Pu.ld ty_sc3) ?_
 refine WK.cr rfl (enters Tryz.func22 rfl rfl) (fun w hw => by
   exact lw_has _ hlX hinX (OwnR.rdr (hw.holds (.own PF X.length pf 3 1 (iL X)) (Pick.mem pk9)))) ?_
 refine WK.p Pu.no ?_
 refine WK.p Pu.kf ?_
 refine WK.n ?_
 refine TL.nil (TQ.thenN (hY61 _ _ ?_))
 refine TW.condF rfl (rfl) ?_
 refine TW.skip ?_
 refine TQ.thenN (hY60 _ _ ?_)
 refine TW.seq fun Y62 hY62 => TW.region ?_
 refine TL.p Pu.mv ?_
 refine TL.p Pu.mv ?_
 refine TL.p (Pu.el ty_et52) ?_
 refine TL.p (Pu.ld ty_sc28) ?_
 refine TL.p (Pu.ln Tryz.underlying28) ?_
 refine TL.p Pu.mv ?_
 refine TL.nil (TQ.thenN (hY62 _ _ ?_))
 refine TW.block ?_
 refine TW.loop1 (fun (j : Nat) => [(287, .int .i64 (j : Int)), (286, .int .i64 ((M k).length : Int)), (285, .slice (ma k) (M k).length (mc k)), (36, .slice PF X.length pf), (34, .int .i64 (k : Int)), (243, .int .i64 (k : Int)), (242, .int .i64 (n : Int)), (241, .slice Aa n ca), (9, .bool true), (0, .slice A H.n cp), (17, .slice Al n cl), (32, .slice PM n pm)]) (fun j => [.own PF X.length pf 3 1 (iL X)]) (fun j => j ≤ (M k).length) (fun j => (M k).length - j) 0 fs9 ?_ ?_ ?_
 exact ks9
 exact Nat.zero_le _
 rintro j hj Z4 hZ4
 refine TW.seq fun Y63 hY63 => TW.region ?_
 refine TL.p Pu.lt ?_
 refine TL.nil (TQ.thenN (hY63 _ _ ?_))
 refine TW.seq fun Y64 hY64 => ?_
 refine TW.cond rfl (fun hc13 => ?_) (fun hc13 => ?_)
 try simp only [zcb9] at hc13
 have hjl : j < (M k).length := by omega
 refine TW.skip ?_
 refine TQ.thenN (hY64 _ _ ?_)
 refine TW.seq fun Y65 hY65 => ?_
 refine TW.block ?_
 refine TW.seq fun Y66 hY66 => TW.region ?_
 refine TL.p Pu.mv ?_
 refine TL.p (Pu.el ty_et28) ?_
 refine TL.p (Pu.ld ty_sc3) ?_
 refine TL.p Pu.as ?_
 refine TL.p Pu.as ?_
 refine TL.nil (TQ.thenN (hY66 _ _ ?_))
 refine TW.seq fun Y67 hY67 => ?_
 refine TW.join [(311, .bool false)] ?_ (fun hJ3 => ?_)
 refine TQ.thenN (hY67 _ _ ?_)
 refine TW.condF rfl (rfl) ?_
 refine TW.skip ?_
 refine TQ.blkN ?_
 refine TQ.thenN (hY65 _ _ ?_)
 refine TW.region ?_
 refine TL.p Pu.ad ?_
 refine TL.p Pu.mv ?_
 refine TL.nil ?_
 refine TQ.thenN (hZ4 (j + 1) _ _ ?_ ?_ fs9 ?_)
 exact (by omega)
 exact zom9
 exact ks9
 refine TW.region ?_
 refine TL.p Pu.mv ?_
 refine TL.p Pu.mv ?_
 refine TL.cr rfl (enters Tryz.func22 rfl rfl) (fun w hw => by
   exact lw_has _ hlX (hsubX _ (getD_memI hjl)) (OwnR.rdr (hw.holds (.own PF X.length pf 3 1 (iL X)) (Pick.mem pk9)))) ?_
 refine TL.p Pu.no ?_
 refine TL.lit (t := 295) (b' := false) rfl (rfl) ?_
 refine TL.p Pu.mv ?_
 refine TL.gd Pu.mv ?_
 refine TL.gd Pu.gt ?_
 refine TL.gd Pu.mv ?_
 refine TL.guard (t := 299) rfl (fun hg3 => ?_) (fun hg3 => ?_)
 try simp only [zgb9] at hg3
 refine TL.gd Pu.mv ?_
 refine TL.gd Pu.mv ?_
 refine TL.gd Pu.mv ?_
 refine TL.gd (Pu.el ty_et52) ?_
 refine TL.gd (Pu.ld ty_sc28) ?_
 refine TL.gd Pu.mv ?_
 refine TL.gd Pu.sb ?_
 refine TL.gd (Pu.el ty_et28 (q := j - 1) (hk := by omega) (hA := CellsN.old rMk1 Apart.nil (show j - 1 < (M k).length by omega) SubL.nil)) ?_
 refine TL.gd (Pu.ld ty_sc3) ?_
 refine TL.gd Pu.le ?_
 refine TL.lit (t := 309) (b' := false) rfl ((decide_eq_false (by have h9 := asc_at hasck (k := j) (by omega) hjl; omega))) ?_
 refine TL.gd Pu.kt ?_
 refine TL.p Pu.kf ?_
 refine TL.nil ?_
 exact TQ.sub (by repeat (first | exact trivial | refine ⟨rfl, ?_⟩ | refine ⟨trivial, ?_⟩ | refine ⟨(by show some (Value.bool _) = some (Value.bool _); first | (simp [hg3]; done) | (refine congrArg (fun z => some (Value.bool z)) (Bool.eq_iff_iff.2 ?_); simp [hg3]; omega)), ?_⟩)) ks9 hJ3
 try simp only [zgb9] at hg3
 refine TL.gs ?_
 refine TL.gs ?_
 refine TL.gs ?_
 refine TL.gs ?_
 refine TL.gs ?_
 refine TL.gs ?_
 refine TL.gs ?_
 refine TL.gs ?_
 refine TL.gs ?_
 refine TL.gs ?_
 refine TL.gd Pu.kf ?_
 refine TL.p Pu.kf ?_
 refine TL.nil ?_
 exact TQ.sub (by repeat (first | exact trivial | refine ⟨rfl, ?_⟩ | refine ⟨trivial, ?_⟩ | refine ⟨(by show some (Value.bool _) = some (Value.bool _); first | (simp [hg3]; done) | (refine congrArg (fun z => some (Value.bool z)) (Bool.eq_iff_iff.2 ?_); simp [hg3]; omega)), ?_⟩)) ks9 hJ3
 try simp only [zcb9] at hc13
 refine TW.exit ?_
 refine TQ.thenX ?_
 refine TQ.thenX ?_
 refine TQ.blkX ?_
 refine TQ.blkN ?_
 refine TQ.thenN (hY57 _ _ ?_)
 refine TW.region ?_
 refine TL.p Pu.ad ?_
 refine TL.p Pu.mv ?_
 refine TL.nil ?_
 refine TQ.thenN (hZ3 (k + 1) _ _ ?_ ?_ fs9 ?_)
 exact (by omega)
 exact zom9
 exact ks9
 try simp only [zcb9] at hc11
 refine TW.exit ?_
 refine TQ.thenX ?_
 refine TQ.thenX ?_
 refine TQ.blkX ?_
 refine TQ.thenN (hY53 _ _ ?_)
 refine TW.seq fun Y68 hY68 => TW.region ?_
 refine TL.p Pu.mv ?_
 refine TL.p Pu.as ?_
 refine TL.nil (TQ.thenN (hY68 _ _ ?_))
 refine TW.ret ?_
 refine TQ.ret Tryz.results3 rfl ((.tmp rfl .nil)) ?_
 exact fun w hw => Ret.of (((hw.from hw3.chg (fun _ hb => .inl hb)).from hw2.chg (fun _ hb => .inl hb)).from hw1.chg (fun _ hb => .inl hb))
 refine TW.region ?_
 refine TL.p Pu.mv ?_
 refine TL.cr rfl (enters Tryz.func13 rfl rfl) (fun w hw => by
   exact ready2_any (hR.sat hw Apart.nil) (fun i hi => (hM i hi).sat hw Apart.nil)) ?_
 refine TL.p Pu.no ?_
 refine TL.p Pu.mv ?_
 refine TL.guard (t := 44) rfl (fun hg4 => ?_) (fun hg4 => ?_)
 try simp only [zgb9] at hg4
 refine TL.gs ?_
 refine TL.gs ?_
 refine TL.gs ?_
 refine TL.p Pu.kt ?_
 refine TL.p Pu.mv ?_
 refine TL.gs ?_
 refine TL.gs ?_
 refine TL.p Pu.kt ?_
 refine TL.nil ?_
 exact TQ.sub (by repeat (first | exact trivial | refine ⟨rfl, ?_⟩ | refine ⟨trivial, ?_⟩ | refine ⟨(by show some (Value.bool _) = some (Value.bool _); first | (simp [hg4]; done) | (refine congrArg (fun z => some (Value.bool z)) (Bool.eq_iff_iff.2 ?_); simp [hg4]; omega)), ?_⟩)) ks9 hJ1
 try simp only [zgb9] at hg4
 refine TL.gd Pu.mv ?_
 refine TL.gd (Pu.ln Tryz.underlying22) ?_
 refine TL.gd Pu.eq ?_
 refine TL.p Pu.kf ?_
 refine TL.p Pu.mv ?_
 refine TL.guard (t := 49) rfl (fun hg5 => ?_) (fun hg5 => ?_)
 try simp only [zgb9] at hg5
 refine TL.gs ?_
 refine TL.gs ?_
 refine TL.p Pu.kt ?_
 refine TL.nil ?_
 exact TQ.sub (by repeat (first | exact trivial | refine ⟨rfl, ?_⟩ | refine ⟨trivial, ?_⟩ | refine ⟨(by show some (Value.bool _) = some (Value.bool _); first | (simp [hg4, hg5]; done) | (refine congrArg (fun z => some (Value.bool z)) (Bool.eq_iff_iff.2 ?_); simp [hg4, hg5]; omega)), ?_⟩)) ks9 hJ1
 try simp only [zgb9] at hg5
 refine TL.gd Pu.mv ?_
 refine TL.gd Pu.no ?_
 refine TL.lit (t := 51) (b' := false) rfl (rfl) ?_
 refine TL.p Pu.kf ?_
 refine TL.nil ?_
 exact TQ.sub (by repeat (first | exact trivial | refine ⟨rfl, ?_⟩ | refine ⟨trivial, ?_⟩ | refine ⟨(by show some (Value.bool _) = some (Value.bool _); first | (simp [hg4, hg5]; done) | (refine congrArg (fun z => some (Value.bool z)) (Bool.eq_iff_iff.2 ?_); simp [hg4, hg5]; omega)), ?_⟩)) ks9 hJ1
end
end Go.Proofs.YtbenhafhklfhmaaGreat
namespace Go.Proofs.YtbenhafhklfhmaaGreat
set_option linter.all false
set_option linter.unusedVariables false
set_option linter.unusedSimpArgs false
open Go.ChangeShapes Go.WideShapes Go.ChangeAt Go.RowKit Go.Deep
section
variable {H : Type} {enc : TypeId × Value → H} {P : Program} {w : World} {base : Nat} {spare : Nat → Bool} {held : Bool}
set_option maxRecDepth 100000 in
theorem open_u8sB {r : Reach} {b0 : Nat} {v : Value} {dd : DataW H} {p : List MemPlace} (hv : Value.okWide Tryz.prog w r b0 23 v) (h : DataW.Trod enc Tryz.prog w base spare held 23 v dd p) :
  ∃ (A : Option Addr) (n cp : Nat) (x : Nat → Nat), v = .slice A n cp ∧ RdR w 1 A n (fun k => [.int .u8 (x k : Int)]) ∧ (∀ k, k < n → x k ≤ 255) ∧ n ≤ 9223372036854775807 := by
 obtain ⟨A0, n0, c0, rfl⟩ := okWide_slice Tryz.underlying23 hv
 obtain ⟨fuel, h⟩ := h
 obtain ⟨A, n, c, G, e, hR, hel, _, h2, h3⟩ := open_slice_any (sz := 1) Tryz.underlying23 (by kernel_rfl) rfl h
 simp only [Value.cells, List.cons.injEq, Value.slice.injEq, and_true] at e
 obtain ⟨rfl, rfl, rfl⟩ := e
 obtain ⟨x, hx, hb⟩ := rows_choose (F := fun x : Nat => [Value.int .u8 (x : Int)]) (q := fun _ x => x ≤ 255) 0 hR (fun i hi => by
  obtain ⟨m, z, hz⟩ := hel i hi
  obtain ⟨x, e, h1, h2⟩ := trod_int9 Tryz.underlying5 hz
  have h1 : 0 ≤ x := h1
  have h2 : x ≤ 255 := h2
  obtain ⟨y, rfl⟩ := Int.eq_ofNat_of_zero_le h1
  exact ⟨y, e, by omega⟩)
 exact ⟨A0, n0, c0, x, rfl, hx, hb, Nat.le_trans h2 (Nat.le_trans h3 (by decide))⟩
end
end Go.Proofs.YtbenhafhklfhmaaGreat
namespace Go.Proofs.YtbenhafhklfhmaaGreat
set_option linter.all false
set_option linter.unusedVariables false
set_option linter.unusedSimpArgs false
open Go.ChangeShapes Go.WideShapes Go.ChangeAt Go.RowKit Go.Deep
theorem Tryz.own : ownKnob Tryz.prog.godebug = none := by kernel_rfl
theorem Tryz.laidOut : laidOutB Tryz.prog = true := by kernel_rfl
set_option maxRecDepth 100000 in
theorem brandTrue_lifted (os : Os) (started : os.Started) (H : Type) (enc : TypeId × Value → H) :
    ReturnsInHanded {} Tryz.checked os 3 .any (Rows.brandTrueSpec.pre6 enc Tryz.prog Tryz.f3 Rows.brandTrueRow.domain false) (Rows.brandTrueSpec.post enc Tryz.prog Tryz.f3 false true false false) := by
  refine returnsInHanded_of_change (C := Tryz.checked) Tryz.own started (by kernel_rfl) Tryz.func3
    (ChangeSpec.witness6 (enc := enc) (C := Tryz.checked) false ⟨#[], #[.slice none 0 0, .slice none 0 0, .slice none 0 0, .int .u32 0], []⟩ 8 (by kernel_rfl) (by kernel_rfl) (by kernel_rfl) (by kernel_rfl)) ?_
  intro W base args ds gs before hval0 hW hcnd _
  have hval : ∀ (j : Nat) t v, Tryz.f3.params[j]? = some t → args[j]? = some v → Value.okWide Tryz.prog W .any base t v := hval0
  have hW' := hW
  obtain ⟨p, q, hA0, hV, rfl, hfz, hnd⟩ := hW
  have hA : DataW.TrodAll enc Tryz.prog W 0 (fun _ => true) true Tryz.f3.params.toList args.toList ds p := hA0
  have hA1 := hA
  rw [Tryz.params3] at hA hval
  obtain ⟨v0, v1, v2, v3, d0, d1, d2, d3, p0, p1, p2, p3, rfl, rfl, rfl, h0, h1, h2, h3⟩ := trodAll_four hA
  obtain ⟨rfl, rfl⟩ := trodVars_none hV
  obtain ⟨A, cp, Hh, a, c, rfl, hR, hM⟩ := open_herd (hval 0 22 v0 rfl rfl) h0
  obtain ⟨B, nw, cb, x, rfl, hWR, hx, hnw⟩ := open_u8sB (hval 1 23 v1 rfl rfl) h1
  obtain ⟨G, gn, gc, u, rfl, hGR, hu⟩ := open_u32sB (hval 2 24 v2 rfl rfl) h2
  obtain ⟨st, rfl, hst⟩ := open_u32b Tryz.underlying25 (hval 3 25 v3 rfl rfl) h3
  clear hA0 hval0
  simp only [List.append_nil] at hW'
  refine (lawTrue_any hR hM hWR hx hnw hu hGR hst).mono ?_
  rintro e W' ⟨rfl, hb⟩
  exact ⟨_, rfl, law_post Tryz.laidOut rfl hW' hA1 (by kernel_rfl) (by kernel_rfl) Tryz.underlying4 rfl hb⟩
theorem brandTrue_holds : Rows.BrandTrueSaid :=
  OpenClaim.holds_of_wide 3 Tryz.f3 rfl rfl rfl rfl rfl rfl rfl ⟨rfl, rfl, rfl, rfl, rfl⟩ rfl rfl rfl rfl rfl (by kernel_rfl) Tryz.func3 (by kernel_rfl)
    (of_decide_eq_true (by kernel_rfl)) (by unfold Func.isWrapper; first | (rw [if_pos (by decide +kernel)]; kernel_rfl) | (rw [if_neg (by decide +kernel)]; exact ⟨rfl, rfl⟩))
    (fun os started H enc _ => brandTrue_lifted os started H enc)
end Go.Proofs.YtbenhafhklfhmaaGreat
