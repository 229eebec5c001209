/-
  Part 4 of the proof of brandNames_holds: declarations of several texts, in build order. No condition on a program.
-/
import Derived.Test.YtceokmaddbdnfaaGreatNa03
import Derived.Lib.SliceRun
import Derived.Test.YtceokmaddbdnfaaGreatNa02
import Derived.ProofKit
import Derived.Deep.Slices
import Derived.Carry
namespace Go.Proofs.YtceokmaddbdnfaaGreat
set_option linter.all false
set_option linter.unusedVariables false
set_option linter.unusedSimpArgs false
open Go.RowKit
theorem bIn1_any (x lo hi : Int) (b1 b2 : Nat) (w : World) (h1 : OldB w b1 [.int .i64 lo]) (h2 : OldB w b2 [.int .i64 hi]) :
  Calls Tryz.prog 104 #[.int .i64 x, .pointer (some ⟨b1, 0, none⟩), .pointer (some ⟨b2, 0, none⟩)] w (Ret w (.bool (!inB5 lo hi x))) := by
 refine K_enter (S := []) (K := []) Tryz.func104 rfl Tryz.ntmps104 rfl (Sat.start _) ?_
 refine TW.seq fun Y1 hY1 => TW.region ?_
 refine TL.p Pu.as ?_
 refine TL.nil (TQ.thenN (hY1 _ _ ?_))
 refine TW.seq fun Y2 hY2 => ?_
 refine TW.join [(4, .bool (decide (x < lo) || decide (hi < x)))] ?_ (fun hJ1 => ?_)
 refine TQ.thenN (hY2 _ _ ?_)
 refine TW.ret ?_
 refine TQ.ret Tryz.results104 rfl ((.tmp rfl .nil)) ?_
 exact fun w hw => ⟨ret_bool (by unfold inB5; rw [Bool.eq_iff_iff]; simp only [Bool.not_eq_true', Bool.and_eq_false_iff, Bool.or_eq_true, decide_eq_true_eq, decide_eq_false_iff_not]; omega), Chg.ext hw.chg⟩
 refine TW.region ?_
 refine TL.p Pu.mv ?_
 refine TL.p (by first | exact (Pu.ld ty_sc3) | exact (Pu.ldo ty_sc3)) ?_
 refine TL.p Pu.lt ?_
 refine TL.p Pu.mv ?_
 refine TL.guard (t := 8) rfl (fun hg1 => ?_) (fun hg1 => ?_)
 refine TL.gs ?_
 refine TL.gs ?_
 refine TL.gs ?_
 refine TL.p Pu.kt ?_
 refine TL.p Pu.as ?_
 refine TL.nil ?_
 exact TQ.sub (by repeat (first | exact trivial | refine ⟨rfl, ?_⟩ | refine ⟨trivial, ?_⟩ | refine ⟨(by show some (Value.bool _) = some (Value.bool _); first | (simp [hg1]; done) | (refine congrArg (fun z => some (Value.bool z)) (Bool.eq_iff_iff.2 ?_); simp [hg1]; omega)), ?_⟩)) ks9 hJ1
 refine TL.gd Pu.mv ?_
 refine TL.gd (by first | exact (Pu.ld ty_sc3) | exact (Pu.ldo ty_sc3)) ?_
 refine TL.gd Pu.gt ?_
 refine TL.p Pu.kf ?_
 refine TL.p Pu.as ?_
 refine TL.nil ?_
 exact TQ.sub (by repeat (first | exact trivial | refine ⟨rfl, ?_⟩ | refine ⟨trivial, ?_⟩ | refine ⟨(by show some (Value.bool _) = some (Value.bool _); first | (simp [hg1]; done) | (refine congrArg (fun z => some (Value.bool z)) (Bool.eq_iff_iff.2 ?_); simp [hg1]; omega)), ?_⟩)) ks9 hJ1
theorem bIn_any (lo hi : Int) {A : Option Addr} {n cp : Nat} {v : Nat → Int} {w : World} (hn : n ≤ 9223372036854775807) (hR : RdR w 1 A n (fun k => [.int .i64 (v k)])) :
  Calls Tryz.prog 60 #[.int .i64 lo, .int .i64 hi, .slice A n cp] w (Ret w (.bool (allB n fun k => inB5 lo hi (v k)))) := by
 refine K_enter (S := []) (K := []) Tryz.func60 rfl Tryz.ntmps60 rfl (Sat.start _) ?_
 refine TW.seq fun Y1 hY1 => TW.region ?_
 refine TL.m Mk.bx ?_
 intro b1
 refine TL.m Mk.bx ?_
 intro b2
 refine TL.p Pu.as ?_
 refine TL.nil (TQ.thenN (hY1 _ _ ?_))
 refine TW.seq fun Y2 hY2 => TW.region ?_
 refine TL.p Pu.mv ?_
 refine TL.p Pu.fn ?_
 refine TL.cr rfl (enters Tryz.func103 rfl rfl) (fun w hw => by
   have h1 := OldB.of_blk (hw.holds (.blk b1 3 [.int .i64 lo]) (by simp))
   have h2 := OldB.of_blk (hw.holds (.blk b2 3 [.int .i64 hi]) (by simp))
   exact hasInt_any (fs := []) (p := fun k => !inB5 lo hi (v k)) (enters Tryz.func104 rfl rfl) hn (hR.sat hw Apart.nil) fun k hk w' hb => bIn1_any _ _ _ b1 b2 w' (h1.ext hb) (h2.ext hb)) ?_
 refine TL.p Pu.no ?_
 refine TL.p Pu.as ?_
 refine TL.nil (TQ.thenN (hY2 _ _ ?_))
 refine TW.ret ?_
 refine TQ.ret Tryz.results60 rfl ((.tmp rfl .nil)) ?_
 exact fun w hw => ⟨ret_bool (by rw [not_anyB]; simp), Chg.ext hw.chg⟩
theorem bInOne_any (lo hi x : Int) {b E : Nat} {w : World} (h : Blk w b E #[.int .i64 x]) :
  Calls Tryz.prog 60 #[.int .i64 lo, .int .i64 hi, .slice (some ⟨b, 0, none⟩) 1 1] w (Ret w (.bool (inB5 lo hi x))) := by
 have := bIn_any lo hi (n := 1) (cp := 1) (v := fun _ => x) (by decide) (RdR.blk (cs := [.int .i64 x]) h rfl (fun _ _ => rfl))
 simpa [allB] using this
theorem bInTwo_any (lo hi x y : Int) {b E : Nat} {w : World} (h : Blk w b E #[.int .i64 x, .int .i64 y]) :
  Calls Tryz.prog 60 #[.int .i64 lo, .int .i64 hi, .slice (some ⟨b, 0, none⟩) 2 2] w (Ret w (.bool (inB5 lo hi x && inB5 lo hi y))) := by
 have := bIn_any lo hi (n := 2) (cp := 2) (v := fun k => if k = 0 then x else y) (by decide) (RdR.blk (cs := [.int .i64 x, .int .i64 y]) h rfl (fun _ _ => rfl))
 simpa [allB, List.range_succ] using this
theorem bProper1_any (x y lo hi : Int) (b1 b2 : Nat) (w : World) (h1 : OldB w b1 [.int .i64 lo]) (h2 : OldB w b2 [.int .i64 hi]) :
  Calls Tryz.prog 116 #[.agg (spL x y).toArray, .pointer (some ⟨b1, 0, none⟩), .pointer (some ⟨b2, 0, none⟩)] w (Ret w (.bool (!ordB5 lo hi x y))) := by
 refine K_enter (S := []) (K := []) Tryz.func116 rfl Tryz.ntmps116 rfl (Sat.start _) ?_
 refine TW.seq fun Y1 hY1 => TW.region ?_
 refine TL.m Mk.bx ?_
 intro b1
 refine TL.p Pu.as ?_
 refine TL.nil (TQ.thenN (hY1 _ _ ?_))
 refine TW.seq fun Y2 hY2 => ?_
 refine TW.join [(4, .bool (decide (y < x) || !(inB5 lo hi x && inB5 lo hi y)))] ?_ (fun hJ1 => ?_)
 refine TQ.thenN (hY2 _ _ ?_)
 refine TW.ret ?_
 refine TQ.ret Tryz.results116 rfl ((.tmp rfl .nil)) ?_
 exact fun w hw => ⟨ret_bool (by unfold ordB5 inB5; rw [Bool.eq_iff_iff]; simp only [Bool.not_eq_true', Bool.and_eq_false_iff, Bool.or_eq_true, decide_eq_true_eq, decide_eq_false_iff_not]; omega), Chg.ext hw.chg⟩
 refine TW.region ?_
 refine TL.p (by first | exact Pu.fb ty_fa25_0 | exact Pu.fe ty_fa25_0) ?_
 refine TL.p (by first | exact (Pu.ld ty_sc3) | exact (Pu.ldo ty_sc3)) ?_
 refine TL.p (by first | exact Pu.fb ty_fa25_1 | exact Pu.fe ty_fa25_1) ?_
 refine TL.p (by first | exact (Pu.ld ty_sc3) | exact (Pu.ldo ty_sc3)) ?_
 refine TL.p Pu.gt ?_
 refine TL.p Pu.mv ?_
 refine TL.guard (t := 10) rfl (fun hg1 => ?_) (fun hg1 => ?_)
 refine TL.gs ?_
 refine TL.gs ?_
 refine TL.gs ?_
 refine TL.gs ?_
 refine TL.gs ?_
 refine TL.gs ?_
 refine TL.gs ?_
 refine TL.gs ?_
 refine TL.gs ?_
 refine TL.p Pu.kt ?_
 refine TL.p Pu.as ?_
 refine TL.nil ?_
 exact TQ.sub (by repeat (first | exact trivial | refine ⟨rfl, ?_⟩ | refine ⟨trivial, ?_⟩ | refine ⟨(by show some (Value.bool _) = some (Value.bool _); first | (simp [hg1]; done) | (refine congrArg (fun z => some (Value.bool z)) (Bool.eq_iff_iff.2 ?_); simp [hg1]; omega)), ?_⟩)) ks9 hJ1
 refine TL.gd (by first | exact (Pu.ld ty_sc3) | exact (Pu.ldo ty_sc3)) ?_
 refine TL.gd (by first | exact (Pu.ld ty_sc3) | exact (Pu.ldo ty_sc3)) ?_
 refine TL.gd (by first | exact Pu.fb ty_fa25_0 | exact Pu.fe ty_fa25_0) ?_
 refine TL.gd (by first | exact (Pu.ld ty_sc3) | exact (Pu.ldo ty_sc3)) ?_
 refine TL.gd (by first | exact Pu.fb ty_fa25_1 | exact Pu.fe ty_fa25_1) ?_
 refine TL.gd (by first | exact (Pu.ld ty_sc3) | exact (Pu.ldo ty_sc3)) ?_
 refine TL.gm Mk.bl ?_
 intro b2
 refine TL.cr rfl (enters Tryz.func60 rfl rfl) (fun w hw => by
   exact bInTwo_any _ _ _ _ (hw.holds _ (List.mem_cons_self ..))) ?_
 refine TL.gd Pu.no ?_
 refine TL.p Pu.kf ?_
 refine TL.p Pu.as ?_
 refine TL.nil ?_
 exact TQ.sub (by repeat (first | exact trivial | refine ⟨rfl, ?_⟩ | refine ⟨trivial, ?_⟩ | refine ⟨(by show some (Value.bool _) = some (Value.bool _); first | (simp [hg1]; done) | (refine congrArg (fun z => some (Value.bool z)) (Bool.eq_iff_iff.2 ?_); simp [hg1]; omega)), ?_⟩)) ks9 hJ1
theorem bProper_any (lo hi : Int) {A : Option Addr} {n cp : Nat} {v : Nat → Nat → Int} {w : World} (hn : n ≤ 9223372036854775807) (hR : RdR w 2 A n (fun k => spL (v k 0) (v k 1))) :
  Calls Tryz.prog 86 #[.int .i64 lo, .int .i64 hi, .slice A n cp] w (Ret w (.bool (allB n fun k => ordB5 lo hi (v k 0) (v k 1)))) := by
 refine K_enter (S := []) (K := []) Tryz.func86 rfl Tryz.ntmps86 rfl (Sat.start _) ?_
 refine TW.seq fun Y1 hY1 => TW.region ?_
 refine TL.m Mk.bx ?_
 intro b1
 refine TL.m Mk.bx ?_
 intro b2
 refine TL.p Pu.as ?_
 refine TL.nil (TQ.thenN (hY1 _ _ ?_))
 refine TW.seq fun Y2 hY2 => TW.region ?_
 refine TL.p Pu.mv ?_
 refine TL.p Pu.fn ?_
 refine TL.cr rfl (enters Tryz.func112 rfl rfl) (fun w hw => by
   have h1 := OldB.of_blk (hw.holds (.blk b1 3 [.int .i64 lo]) (by simp))
   have h2 := OldB.of_blk (hw.holds (.blk b2 3 [.int .i64 hi]) (by simp))
   exact hasSpan_any (fs := []) (v := v) (p := fun k => !ordB5 lo hi (v k 0) (v k 1)) (enters Tryz.func116 rfl rfl) hn (hR.sat hw Apart.nil) fun k hk w' hb => bProper1_any _ _ _ _ b1 b2 w' (h1.ext hb) (h2.ext hb)) ?_
 refine TL.p Pu.no ?_
 refine TL.p Pu.as ?_
 refine TL.nil (TQ.thenN (hY2 _ _ ?_))
 refine TW.ret ?_
 refine TQ.ret Tryz.results86 rfl ((.tmp rfl .nil)) ?_
 exact fun w hw => ⟨ret_bool (by rw [not_anyB]; simp), Chg.ext hw.chg⟩
theorem bProperOne_any (lo hi x y : Int) {b E : Nat} {w : World} (h : Blk w b E #[.int .i64 x, .int .i64 y]) :
  Calls Tryz.prog 86 #[.int .i64 lo, .int .i64 hi, .slice (some ⟨b, 0, none⟩) 1 1] w (Ret w (.bool (ordB5 lo hi x y))) := by
 have := bProper_any lo hi (n := 1) (cp := 1) (v := fun _ j => if j = 0 then x else y) (by decide) (RdR.blk (cs := [.int .i64 x, .int .i64 y]) h rfl (fun _ _ => rfl))
 simpa [allB] using this
theorem bCommon_any (a b c d : Int) (w : World) : Calls Tryz.prog 87 #[.agg #[.int .i64 a, .int .i64 b], .agg #[.int .i64 c, .int .i64 d]] w (Ret w (.agg #[.int .i64 (max a c), .int .i64 (min b d)])) := by
 refine K_enter (S := []) (K := []) Tryz.func87 rfl Tryz.ntmps87 rfl (Sat.start _) ?_
 refine TW.seq fun Y1 hY1 => TW.region ?_
 refine TL.m Mk.bx ?_
 intro b1
 refine TL.m Mk.bx ?_
 intro b2
 refine TL.m (Mk.al ty_zr25) ?_
 intro b3
 refine TL.nil (TQ.thenN (hY1 _ _ ?_))
 refine TW.seq fun Y2 hY2 => TW.region ?_
 refine TL.p (by first | exact Pu.fb ty_fa25_0 | exact Pu.fe ty_fa25_0) ?_
 refine TL.p (Pu.ld ty_sc3) ?_
 refine TL.p (by first | exact Pu.fb ty_fa25_0 | exact Pu.fe ty_fa25_0) ?_
 refine TL.p (Pu.ld ty_sc3) ?_
 refine TL.p Pu.mx ?_
 refine TL.p (by first | exact Pu.fb ty_fa25_1 | exact Pu.fe ty_fa25_1) ?_
 refine TL.p (Pu.ld ty_sc3) ?_
 refine TL.p (by first | exact Pu.fb ty_fa25_1 | exact Pu.fe ty_fa25_1) ?_
 refine TL.p (Pu.ld ty_sc3) ?_
 refine TL.p Pu.mn ?_
 refine TL.p Pu.bd ?_
 first | refine TL.st ty_sz25 ?_ | refine TL.se ty_sz25 ?_
 refine TL.nil (TQ.thenN (hY2 _ _ ?_))
 refine TW.ret ?_
 refine TQ.ret Tryz.results87 rfl ((RV.cs ty_ag25 .nil)) ?_
 exact fun w hw => Ret.of hw
theorem bShifted_any (a b x y : Int) (w : World) (h : (-1000000000000000000 ≤ a ∧ a ≤ 1000000000000000000) ∧ (-1000000000000000000 ≤ b ∧ b ≤ 1000000000000000000) ∧ (-1000000000000000000 ≤ x ∧ x ≤ 1000000000000000000) ∧ (-1000000000000000000 ≤ y ∧ y ≤ 1000000000000000000)) :
  Calls Tryz.prog 110 #[.agg #[.int .i64 a, .int .i64 b], .int .i64 x, .int .i64 y] w (Ret w (.agg #[.int .i64 (a + x), .int .i64 (b + y)])) := by
 refine K_enter (S := []) (K := []) Tryz.func110 rfl Tryz.ntmps110 rfl (Sat.start _) ?_
 refine TW.seq fun Y1 hY1 => TW.region ?_
 refine TL.m Mk.bx ?_
 intro b1
 refine TL.m (Mk.al ty_zr25) ?_
 intro b2
 refine TL.nil (TQ.thenN (hY1 _ _ ?_))
 refine TW.seq fun Y2 hY2 => TW.region ?_
 refine TL.p (by first | exact Pu.fb ty_fa25_0 | exact Pu.fe ty_fa25_0) ?_
 refine TL.p (Pu.ld ty_sc3) ?_
 refine TL.p Pu.mv ?_
 refine TL.p Pu.ad ?_
 refine TL.p (by first | exact Pu.fb ty_fa25_1 | exact Pu.fe ty_fa25_1) ?_
 refine TL.p (Pu.ld ty_sc3) ?_
 refine TL.p Pu.mv ?_
 refine TL.p Pu.ad ?_
 refine TL.p Pu.bd ?_
 first | refine TL.st ty_sz25 ?_ | refine TL.se ty_sz25 ?_
 refine TL.nil (TQ.thenN (hY2 _ _ ?_))
 refine TW.ret ?_
 refine TQ.ret Tryz.results110 rfl ((RV.cs ty_ag25 .nil)) ?_
 exact fun w hw => Ret.of hw
def anL (H : Hd) (a : Nat → Option Addr) (c : Nat → Nat) (i : Nat) : List Value := [.int .i64 (H.id i), .int .i64 (H.mo i), .int .i64 (H.lo i), .int .i64 (H.hi i), .slice (a i) (H.ml i) (c i)]
def octL (g : Nat → Int) : List Value := [.int .i64 (g 0), .int .i64 (g 1), .int .i64 (g 2), .int .i64 (g 3), .int .i64 (g 4), .int .i64 (g 5), .int .i64 (g 6), .int .i64 (g 7)]
theorem oct8 : ArrT Tryz.prog 108 3 8 1 := ⟨Tryz.underlying108, fun w => by kernel_rfl⟩
def SgX (H : Hd) (i : Nat) := { g : Nat → Int // marksB H i = true → ∀ s, s < 8 → g s = sgH H i s }
set_option maxRecDepth 100000 in
set_option maxHeartbeats 1000000 in
theorem signed_any {H : Hd} {a : Nat → Option Addr} {c : Nat → Nat} {i : Nat} {w : World} (hl : H.ml i ≤ 1000) (hR : RdR w 2 (a i) (H.ml i) (fun k => spL (H.sp i k) (H.sg i k))) :
  CallsK Tryz.prog 114 #[.agg (anL H a c i).toArray] [] w (SgX H i) (fun g => .tuple #[.agg (octL g.1).toArray, .bool (marksB H i)]) (fun _ => []) := by
 unfold anL
 refine K_enter (S := []) (K := []) Tryz.func114 rfl Tryz.ntmps114 rfl (Sat.start _) ?_
 refine TW.seq fun Y1 hY1 => TW.region ?_
 refine TL.m Mk.bx ?_
 intro b1
 refine TL.m (Mk.al ty_zr108) ?_
 intro b2
 refine TL.p Pu.as ?_
 refine TL.nil (TQ.thenN (hY1 _ _ ?_))
 refine TW.seq fun Y2 hY2 => TW.region ?_
 refine TL.m (Mk.al ty_zr108) ?_
 intro b3
 refine TL.nil (TQ.thenN (hY2 _ _ ?_))
 refine TW.seq fun Y3 hY3 => ?_
 refine TW.seq fun Y4 hY4 => TW.region ?_
 refine TL.p (by first | exact Pu.fb ty_fa65_3 | exact Pu.fe ty_fa65_3) ?_
 refine TL.p (Pu.ld ty_sc63) ?_
 refine TL.p (Pu.ln Tryz.underlying63) ?_
 refine TL.p Pu.mv ?_
 refine TL.nil (TQ.thenN (hY4 _ _ ?_))
 refine TW.block ?_
 refine TW.loop1 (fun (k : Nat) => [(10, .int .i64 (k : Int)), (9, .int .i64 (H.ml i : Int)), (8, .slice (a i) (H.ml i) (c i)), (4, .pointer (some ⟨b3, 0, none⟩)), (2, .pointer (some ⟨b2, 0, none⟩))]) (fun k => [.own (some ⟨b3, 0, none⟩) 8 8 108 1 (fun s => [.int .i64 (sgK H i k s)]), .blk b2 108 (octL fun _ => 0)]) (fun k => k ≤ H.ml i ∧ ∀ j, j < k → markB H i j = true) (fun k => H.ml i - k) 0 fs9 ?_ ?_ ?_
 exact KSub.ofBlk pk9 rfl (fun i hi => rfl) rfl rfl (KSub.cons pk9 KSub.nil)
 exact ⟨Nat.zero_le _, fun j hj => by omega⟩
 rintro k ⟨hk, hm⟩ Z0 hZ0
 refine TW.seq fun Y5 hY5 => TW.region ?_
 refine TL.p Pu.lt ?_
 refine TL.nil (TQ.thenN (hY5 _ _ ?_))
 refine TW.seq fun Y6 hY6 => ?_
 refine TW.cond rfl (fun hc0 => ?_) (fun hc0 => ?_)
 try simp only [zcb9] at hc0
 have hkl : k < H.ml i := by omega
 refine TW.skip ?_
 refine TQ.thenN (hY6 _ _ ?_)
 refine TW.seq fun Y7 hY7 => ?_
 refine TW.block ?_
 refine TW.seq fun Y8 hY8 => TW.region ?_
 refine TL.p (Pu.el ty_et63) ?_
 refine TL.p (Pu.lds ty_ag97) ?_
 refine TL.m (Mk.al ty_zr97) ?_
 intro b4
 first | refine TL.st ty_sz97 ?_ | refine TL.se ty_sz97 ?_
 refine TL.nil (TQ.thenN (hY8 _ _ ?_))
 refine TW.seq fun Y9 hY9 => ?_
 refine TW.seq fun Y10 hY10 => TW.region ?_
 refine TL.p (by first | exact Pu.fb ty_fa97_0 | exact Pu.fe ty_fa97_0) ?_
 refine TL.p (Pu.ld ty_sc3) ?_
 refine TL.m Mk.bl ?_
 intro b5
 refine TL.cr rfl (enters Tryz.func60 rfl rfl) (fun w hw => by
   exact bInOne_any _ _ _ (hw.holds _ (List.mem_cons_self ..))) ?_
 refine TL.p Pu.no ?_
 refine TL.p Pu.mv ?_
 refine TL.guard (t := 19) rfl (fun hg1 => ?_) (fun hg1 => ?_)
 try simp only [zgb9] at hg1
 refine TL.gs ?_
 refine TL.gs ?_
 refine TL.gs ?_
 refine TL.gs ?_
 refine TL.gs ?_
 refine TL.p Pu.kt ?_
 refine TL.p Pu.mv ?_
 refine TL.gs ?_
 refine TL.gs ?_
 refine TL.gs ?_
 refine TL.gs ?_
 refine TL.gs ?_
 refine TL.p Pu.kt ?_
 refine TL.nil (TQ.thenN (hY10 _ _ ?_))
 refine TW.condT rfl rfl ?_
 refine TW.seq fun Y11 hY11 => TW.region ?_
 refine TL.bo (b := b3) (cs := octL (sgK H i k)) pk9 rfl ?_
 refine TL.p (Pu.lds ty_ag108) ?_
 first | refine TL.st ty_sz108 ?_ | refine TL.se ty_sz108 ?_
 refine TL.p Pu.as ?_
 refine TL.nil (TQ.thenN (hY11 _ _ ?_))
 refine TW.ret ?_
 refine TQ.thenR ?_
 refine TQ.blkR ?_
 refine TQ.thenR ?_
 refine TQ.thenR ?_
 refine TQ.blkR ?_
 refine TQ.thenR ?_
 refine TQ.ret Tryz.results114 rfl ((RV.cs ty_ag108 (.tmp rfl .nil))) ?_
 have hno := marks_no hkl (by first | exact hbad | (unfold markB; rw [hg1]; rfl) | (unfold markB; rw [hg1, hg2]; rfl))
 exact fun w hw => ⟨⟨sgK H i k, fun h => by rw [hno] at h; cases h⟩, by show _ = Ending.returned (Value.tuple #[Value.agg (octL (sgK H i k)).toArray, Value.bool (marksB H i)]); rw [hno]; rfl, hw.sub KSub.nil⟩
 try simp only [zgb9] at hg1
 refine TL.gd (by first | exact Pu.fb ty_fa97_1 | exact Pu.fe ty_fa97_1) ?_
 refine TL.gd (Pu.ld ty_sc3) ?_
 refine TL.gm Mk.bl ?_
 intro b6
 refine TL.cr rfl (enters Tryz.func60 rfl rfl) (fun w hw => by
   exact bInOne_any _ _ _ (hw.holds _ (List.mem_cons_self ..))) ?_
 refine TL.gd Pu.no ?_
 refine TL.p Pu.kf ?_
 refine TL.p Pu.mv ?_
 refine TL.guard (t := 26) rfl (fun hg2 => ?_) (fun hg2 => ?_)
 try simp only [zgb9] at hg2
 refine TL.gs ?_
 refine TL.gs ?_
 refine TL.gs ?_
 refine TL.gs ?_
 refine TL.gs ?_
 refine TL.p Pu.kt ?_
 refine TL.nil (TQ.thenN (hY10 _ _ ?_))
 refine TW.condT rfl rfl ?_
 refine TW.seq fun Y12 hY12 => TW.region ?_
 refine TL.bo (b := b3) (cs := octL (sgK H i k)) pk9 rfl ?_
 refine TL.p (Pu.lds ty_ag108) ?_
 first | refine TL.st ty_sz108 ?_ | refine TL.se ty_sz108 ?_
 refine TL.p Pu.as ?_
 refine TL.nil (TQ.thenN (hY12 _ _ ?_))
 refine TW.ret ?_
 refine TQ.thenR ?_
 refine TQ.blkR ?_
 refine TQ.thenR ?_
 refine TQ.thenR ?_
 refine TQ.blkR ?_
 refine TQ.thenR ?_
 refine TQ.ret Tryz.results114 rfl ((RV.cs ty_ag108 (.tmp rfl .nil))) ?_
 have hno := marks_no hkl (by first | exact hbad | (unfold markB; rw [hg1]; rfl) | (unfold markB; rw [hg1, hg2]; rfl))
 exact fun w hw => ⟨⟨sgK H i k, fun h => by rw [hno] at h; cases h⟩, by show _ = Ending.returned (Value.tuple #[Value.agg (octL (sgK H i k)).toArray, Value.bool (marksB H i)]); rw [hno]; rfl, hw.sub KSub.nil⟩
 try simp only [zgb9] at hg2
 have h7 : 0 ≤ H.sp i k ∧ H.sp i k ≤ 7 := by simpa [inB5] using hg1
 refine TL.gd (by first | exact Pu.fb ty_fa97_0 | exact Pu.fe ty_fa97_0) ?_
 refine TL.gd (Pu.ld ty_sc3) ?_
 refine TL.gd (Pu.ea (q := (H.sp i k).toNat) oct8 (hk := rfl)) ?_
 refine TL.gd (Pu.ld ty_sc3) ?_
 refine TL.gd Pu.ne ?_
 refine TL.p Pu.kf ?_
 refine TL.nil (TQ.thenN (hY10 _ _ ?_))
 refine TW.cond rfl (fun hc1 => ?_) (fun hc1 => ?_)
 try simp only [zcb9] at hc1
 have hbad : markB H i k = false := by
  cases h : markB H i k with
  | false => rfl
  | true => exact absurd ((mark_step hm hg1 hg2).2 h) hc1
 refine TW.seq fun Y13 hY13 => TW.region ?_
 refine TL.bo (b := b3) (cs := octL (sgK H i k)) pk9 rfl ?_
 refine TL.p (Pu.lds ty_ag108) ?_
 first | refine TL.st ty_sz108 ?_ | refine TL.se ty_sz108 ?_
 refine TL.p Pu.as ?_
 refine TL.nil (TQ.thenN (hY13 _ _ ?_))
 refine TW.ret ?_
 refine TQ.thenR ?_
 refine TQ.blkR ?_
 refine TQ.thenR ?_
 refine TQ.thenR ?_
 refine TQ.blkR ?_
 refine TQ.thenR ?_
 refine TQ.ret Tryz.results114 rfl ((RV.cs ty_ag108 (.tmp rfl .nil))) ?_
 have hno := marks_no hkl (by first | exact hbad | (unfold markB; rw [hg1]; rfl) | (unfold markB; rw [hg1, hg2]; rfl))
 exact fun w hw => ⟨⟨sgK H i k, fun h => by rw [hno] at h; cases h⟩, by show _ = Ending.returned (Value.tuple #[Value.agg (octL (sgK H i k)).toArray, Value.bool (marksB H i)]); rw [hno]; rfl, hw.sub KSub.nil⟩
 try simp only [zcb9] at hc1
 have hgood : markB H i k = true := (mark_step hm hg1 hg2).1 (by simpa using hc1)
 refine TW.skip ?_
 refine TQ.thenN (hY9 _ _ ?_)
 refine TW.region ?_
 refine TL.p (by first | exact Pu.fb ty_fa97_0 | exact Pu.fe ty_fa97_0) ?_
 refine TL.p (Pu.ld ty_sc3) ?_
 refine TL.p (by first | exact Pu.fb ty_fa97_1 | exact Pu.fe ty_fa97_1) ?_
 refine TL.p (Pu.ld ty_sc3) ?_
 refine TL.p (Pu.ea (q := (H.sp i k).toNat) oct8 (hk := rfl)) ?_
 first | refine TL.st ty_sz3 ?_ | refine TL.se ty_sz3 ?_
 refine TL.nil ?_
 refine TQ.blkN ?_
 refine TQ.thenN (hY7 _ _ ?_)
 refine TW.region ?_
 refine TL.p Pu.ad ?_
 refine TL.p Pu.mv ?_
 refine TL.nil ?_
 refine TQ.thenN (hZ0 (k + 1) _ _ ?_ ?_ fs9 ?_)
 refine ⟨by omega, fun j hj => ?_⟩
 by_cases e : j = k
 subst e; exact hgood
 exact hm j (by omega)
 exact zom9
 refine KSub.own pk9 (fun s _ => ?_) (KSub.cons pk9 KSub.nil)
 unfold updR
 simp only [sgK]
 split <;> rfl
 try simp only [zcb9] at hc0
 obtain rfl : k = H.ml i := by omega
 refine TW.exit ?_
 refine TQ.thenX ?_
 refine TQ.thenX ?_
 refine TQ.blkX ?_
 refine TQ.thenN (hY3 _ _ ?_)
 refine TW.seq fun Y14 hY14 => TW.region ?_
 refine TL.bo (b := b3) (cs := octL (sgH H i)) pk9 rfl ?_
 refine TL.p (Pu.lds ty_ag108) ?_
 first | refine TL.st ty_sz108 ?_ | refine TL.se ty_sz108 ?_
 refine TL.p Pu.as ?_
 refine TL.nil (TQ.thenN (hY14 _ _ ?_))
 refine TW.ret ?_
 refine TQ.ret Tryz.results114 rfl ((RV.cs ty_ag108 (.tmp rfl .nil))) ?_
 have hgood : marksB H i = true := allB_iff.2 hm
 exact fun w hw => ⟨⟨sgH H i, fun _ _ _ => rfl⟩, by show _ = Ending.returned (Value.tuple #[Value.agg (octL (sgH H i)).toArray, Value.bool (marksB H i)]); rw [hgood]; rfl, hw.sub KSub.nil⟩
end Go.Proofs.YtceokmaddbdnfaaGreat
namespace Go.Proofs.YtceokmaddbdnfaaGreat
set_option linter.all false
set_option linter.unusedVariables false
set_option linter.unusedSimpArgs false
open Go.RowKit
section
variable {c : Cx} {Q : Exit → Act → World → Prop} {F : Fr} {K K' : List Fact} {ops : Array Oper} {rest : List Oper} {d : Option Tmp} {ty : TypeId} {pos : String} {af : Array Edge} {g : Option (Nat × Bool)} {x y : Operand} {xt yt : TypeId}
theorem Pu.srN {b i : Nat} (hx : ev F x = some (.int .i64 (b : Int)) := by rfl) (hy : ev F y = some (.int .i64 (i : Int)) := by rfl) (hj : i ≤ 62 := by omega) : Pu c F K ⟨d, .binOp .shr xt x y yt, ty, pos, af, g⟩ (.int .i64 ((b / 2 ^ i : Nat) : Int)) := Pu.bin hx hy fun w => by
 go_simp
theorem bits_and1 {m : Nat} (hm : m ≤ 9223372036854775807) : bits .and .i64 (m : Int) 1 = ((m % 2 : Nat) : Int) := by
 have h1 : (BitVec.ofInt 64 (m : Int) &&& BitVec.ofInt 64 1).toNat = m % 2 := by
  rw [BitVec.toNat_and, BitVec.toNat_ofInt, BitVec.toNat_ofInt]
  have e1 : ((m : Int) % (2 ^ 64 : Nat)).toNat = m := by omega
  have e2 : ((1 : Int) % (2 ^ 64 : Nat)).toNat = 1 := by decide
  rw [e1, e2, Nat.and_one_is_mod]
 have h2 : bits .and .i64 (m : Int) 1 = IntKind.i64.wrap ((BitVec.ofInt 64 (m : Int) &&& BitVec.ofInt 64 1).toNat : Int) := rfl
 rw [h2, h1]
 exact IntWalk.i64_in _ (by omega)
theorem Pu.an1 {m : Nat} (hx : ev F x = some (.int .i64 (m : Int)) := by rfl) (hy : ev F y = some (.int .i64 1) := by rfl) (hm : m ≤ 9223372036854775807 := by omega) : Pu c F K ⟨d, .binOp .and xt x y yt, ty, pos, af, g⟩ (.int .i64 ((m % 2 : Nat) : Int)) := Pu.bin hx hy fun w => by
 have h := bits_and1 hm
 go_simp
theorem own_clear {z : Value} {E : TypeId} {G n cp : Nat} : ∀ (m q : Nat) (r : Nat → List Value) (w : World), q + m = n → OwnR w (some ⟨G, 0, none⟩) n cp E 1 r → OwnR (w.setCells G q (List.replicate m z)) (some ⟨G, 0, none⟩) n cp E 1 (fun k => if k < q then r k else [z]) ∧ Chg [G] w (w.setCells G q (List.replicate m z))
  | 0, q, r, w, hq, h => ⟨⟨h.own.congr fun i j hi hj => by simp only [rowF]; rw [if_pos (by omega)], fun i hi => by rw [if_pos (by omega)]; exact h.len i hi⟩, Chg.refl _ _⟩
  | m + 1, q, r, w, hq, h => by
    have hl := h.len q (by omega)
    have hset := h.own.set q 0 (by omega) (by omega) z
    rw [Nat.mul_one, Nat.add_zero] at hset
    have h2 : OwnR (w.setCell ⟨G, q, none⟩ z) (some ⟨G, 0, none⟩) n cp E 1 (updR r q [z]) := by
      refine ⟨hset.congr fun i j hi hj => ?_, fun i hi => ?_⟩
      · obtain rfl : j = 0 := by omega
        simp only [rowF, updR]
        by_cases h1 : i = q
        · subst h1; simp
        · simp [h1]
      · simp only [updR]; split
        · rfl
        · exact h.len i hi
    obtain ⟨h3, h4⟩ := own_clear m (q + 1) (updR r q [z]) _ (by omega) h2
    refine ⟨⟨h3.own.congr fun i j hi hj => ?_, fun i hi => ?_⟩, (Chg.setCell w ⟨G, q, none⟩ z).trans h4⟩
    · simp only [rowF, updR]
      by_cases h1 : i < q
      · rw [if_pos (by omega), if_neg (by omega), if_pos h1]
      · by_cases h5 : i = q
        · subst h5; rw [if_pos (by omega), if_pos rfl, if_neg h1]
        · rw [if_neg (by omega), if_neg h1]
    · have := h3.len i hi
      by_cases h1 : i < q
      · rw [if_pos h1]; exact h.len i hi
      · rw [if_neg h1]; rfl
theorem TL.clr {T E : TypeId} {A : Option Addr} {n cp q m cp2 : Nat} {r : Nat → List Value} {z : Value} {bytes : Nat} {dd : Option Tmp} (hT : ElemT c.P T E 1 bytes) (hz : ∀ w, (zeroValue E).run c.P w = .ok z w) (hzc : z.cells = #[z]) (h1 : z.oneCell' = true) (h : TL c ops Q rest (fput F dd (.tuple #[])) (.own A n cp E 1 (fun k => if k < q then r k else [z]) :: K'))
    (hx : ev F x = some (.slice (slA A cp 1 q) m cp2) := by rfl) (hp : Pick K (.own A n cp E 1 r) K' := by repeat (first | exact Pick.hd | apply Pick.tl)) (hq : q + m = n := by omega) (hd : dok dd c.n = true := by rfl) :
    TL c ops Q (⟨dd, .call { callee := .builtin .clear, args := #[x], argTypes := #[T] }, ty, pos, af, none⟩ :: rest) F K := fun a w hF hK => by
  have hs := hK.pick hp
  have hb : OwnR w A n cp E 1 r := hs.holds (.own A n cp E 1 r) (by simp)
  by_cases hm : m = 0
  · subst hm
    refine wpList_eff (v := .tuple #[]) rfl (w' := w) ?_ (h _ _ (hF.fput hd _) (hs.turn (Chg.refl _ _) (by cases A <;> simp [Fact.foot]) (fun b hb => .inl (by cases A <;> exact hb)) ?_))
    · simp only [execOp, resolve, invoke, List.map_toArray, List.map_cons, List.map_nil, hF.evl hx]
      cases slA A cp 1 q <;> simp [go_sem, Builtin.clear_, run_underlying hT.ht]
    · exact ⟨hb.own.congr fun i j hi hj => by simp only [rowF]; rw [if_pos (by omega)], fun i hi => by rw [if_pos (by omega)]; exact hb.len i hi⟩
  · obtain ⟨G, c', e, _, hg, hc, hcell, hfr⟩ := hb.own.form1 (by omega)
    injection e with e1 e2 e3
    subst e1 e3
    have eA : slA (some ⟨G, 0, none⟩) cp 1 q = some ⟨G, q, none⟩ := by
      unfold slA
      rw [if_neg (by omega), Option.map_some, add_plain, Nat.zero_add, Nat.mul_one]
    rw [eA] at hx
    obtain ⟨h3, h4⟩ := own_clear m q r w hq (z := z) hb
    refine wpList_eff (v := .tuple #[]) rfl (w' := w.setCells G q (List.replicate m z)) ?_ (h _ _ (hF.fput hd _) (hs.turn h4 (by simp [Fact.foot]) (fun b hb => .inl hb) h3))
    have hr := Lib.run_clear_slice (P := c.P) w T E ty z hT.ht hz hzc h1 G q m cp2 (by omega) (fun j hj => by have := hcell (q + j) 0 (by omega) (by omega); rw [Nat.mul_one, Nat.add_zero] at this; rw [this]; rfl) (fun j hj => hfr _)
    simp only [execOp, resolve, invoke, List.map_toArray, List.map_cons, List.map_nil, hF.evl hx]
    simp only [go_sem, builtin, Sem.run_bind, hr, Result.andThen_ok, Sem.run_pure]
end
end Go.Proofs.YtceokmaddbdnfaaGreat
namespace Go.Proofs.YtceokmaddbdnfaaGreat
set_option linter.all false
set_option linter.unusedVariables false
set_option linter.unusedSimpArgs false
open Go.RowKit
section
variable {c : Cx} {F : Fr} {K K' : List Fact}
theorem TW.seqD {Q : Exit → Act → World → Prop} {x y : Code} (h : ∀ Y : Act → World → Prop, (∀ (c2 : Cx) (F : Fr) (K : List Fact), TW c2 y Q F K → (hP : c2.P = c.P := by rfl) → TQ c2 (fun _ => Y) .normal F K) → TW c x (Exit.then Y Q) F K) : TW c (.seq x y) Q F K := fun a w hF hK =>
 wp_seq (h (y.wp c.P Q) (fun c2 F K h hP a w h1 h2 => hP ▸ h a w h1 h2) a w hF hK)
end
end Go.Proofs.YtceokmaddbdnfaaGreat
namespace Go.Proofs.YtceokmaddbdnfaaGreat
set_option linter.all false
set_option linter.unusedVariables false
set_option linter.unusedSimpArgs false
open Go.RowKit
theorem line_any {w : World} {bh : Nat} {i : Int} : CallsK Tryz.prog 96 #[.pointer (some ⟨bh, 0, none⟩), .int .i64 i] [] w (Nat × Nat) (fun x => .func (.func 119) #[] #[.pointer (some ⟨x.1, 0, none⟩), .pointer (some ⟨x.2, 0, none⟩)]) (fun x => [.blk x.1 3 [.int .i64 i], .blk x.2 100 [.pointer (some ⟨bh, 0, none⟩)]]) := by
 refine K_enter (S := []) (K := []) Tryz.func96 rfl Tryz.ntmps96 rfl (Sat.start _) ?_
 refine TW.seq fun Y1 hY1 => TW.region ?_
 refine TL.m Mk.bx ?_
 intro b1
 refine TL.m Mk.bx ?_
 intro b2
 refine TL.p Pu.as ?_
 refine TL.nil (TQ.thenN (hY1 _ _ ?_))
 refine TW.seq fun Y2 hY2 => TW.region ?_
 refine TL.p Pu.fn ?_
 refine TL.p Pu.as ?_
 refine TL.nil (TQ.thenN (hY2 _ _ ?_))
 refine TW.ret ?_
 refine TQ.ret Tryz.results96 rfl ((.tmp rfl .nil)) ?_
 exact fun w hw => ⟨(b2, b1), rfl, hw.sub ks9⟩
def linM (bi bp bh : Nat) (i : Int) : List Fact := [.blk bi 3 [.int .i64 i], .blk bp 100 [.pointer (some ⟨bh, 0, none⟩)]]
set_option maxRecDepth 100000 in
set_option maxHeartbeats 1000000 in
theorem line1_iter {f : Nat → Int} {n i N bi bp bh cm : Nat} {Am : Option Addr} {va vm vk : Value} {S : List Nat} {W0 : World} {R : Type} {J : Nat → R → List Fact} (hoB : OldB W0 bh [va, vm, .slice Am n cm, vk]) (hSb : Apart S (some ⟨bh, 0, none⟩)) (hoM : RdR W0 1 Am n (fun j => [.int .i64 (f j)])) (hA : Apart S Am) (hf : Mo f n) (hi : i < n)
  (hN : (N = depH f n i ∧ upH f i n < 0) ∨ (0 ≤ upH f i n ∧ ∀ X r w, ¬ Sat S W0 (X ++ J N r) w)) :
  IterR Tryz.prog 119 [.pointer (some ⟨bi, 0, none⟩), .pointer (some ⟨bp, 0, none⟩)] (linM bi bp bh i) Unit (fun q _ => [.int .i64 (upH f i q)]) (fun q _ => linM bi bp bh (upH f i q)) (fun q _ => linM bi bp bh (upH f i q)) N [] S W0 R J := by
 intro lY Rx Jx r0 W hS hround
 have hbd := upH_bd hf hi
 refine K_enterW (S := S) (K := .blk bi 3 [.int .i64 (i : Int)] :: .blk bp 100 [.pointer (some ⟨bh, 0, none⟩)] :: J 0 r0) Tryz.func119 rfl Tryz.ntmps119 rfl hS ?_
 refine TW.block ?_
 refine TW.loop2 (fun (q : Nat) (r : R) => [(0, .func (.yield lY) #[] #[]), (1, .pointer (some ⟨bi, 0, none⟩)), (2, .pointer (some ⟨bp, 0, none⟩))]) (fun q r => .blk bi 3 [.int .i64 (upH f i q)] :: .blk bp 100 [.pointer (some ⟨bh, 0, none⟩)] :: J q r) (fun q r => q ≤ N ∧ ∀ t, t < q → 0 ≤ upH f i t) (fun q r => N - q) 0 r0 fs9 ?_ ?_ ?_
 exact kt9
 exact ⟨Nat.zero_le _, fun t ht => by omega⟩
 rintro q r ⟨hq, hup⟩ Z0 hZ0
 have hbq := hbd q
 by_cases hqN : q = N ∧ 0 ≤ upH f i n
 rcases hN with ⟨_, h9⟩ | ⟨_, h9⟩
 have := hqN.2; omega
 obtain ⟨rfl, _⟩ := hqN
 exact fun a w hF hK => absurd hK (h9 [.blk bi 3 [.int .i64 (upH f i q)], .blk bp 100 [.pointer (some ⟨bh, 0, none⟩)]] r w)
 refine TW.seq fun Y1 hY1 => ?_
 refine TW.seq fun Y2 hY2 => TW.region ?_
 refine TL.p (by first | exact (Pu.ld ty_sc3) | exact (Pu.ldo ty_sc3)) ?_
 refine TL.p Pu.ge ?_
 refine TL.nil (TQ.thenN (hY2 _ _ ?_))
 refine TW.cond rfl (fun hc0 => ?_) (fun hc0 => ?_)
 try simp only [zcb9] at hc0
 have hlt : q < N := by
  rcases hN with ⟨h8, h9⟩ | ⟨h8, _⟩
  have h7 := dep_end h9
  rw [← h8] at h7
  by_cases e : q = N
  subst e; omega
  omega
  by_cases e : q = N
  exact absurd ⟨e, h8⟩ hqN
  omega
 have hnx : upH f i (q + 1) = f (upH f i q).toNat := if_neg (by omega)
 refine TW.skip ?_
 refine TQ.thenN (hY1 _ _ ?_)
 refine TW.seq fun Y3 hY3 => ?_
 refine TW.block ?_
 refine TW.seq fun Y4 hY4 => ?_
 refine TW.regionI ?_
 refine TLi.op (fun U1 hU1 => ?_) (by rintro ⟨_, _, h⟩; first | exact h | (obtain ⟨⟨_, h⟩, _⟩ := h; cases h) | cases h)
 refine TL.p Pu.mv ?_
 refine TL.nil ?_
 refine TQ.nxt (hU1 _ _ ?_)
 refine TLi.op (fun U2 hU2 => ?_) (by rintro ⟨_, _, h⟩; first | exact h | (obtain ⟨⟨_, h⟩, _⟩ := h; cases h) | cases h)
 refine TL.p (by first | exact (Pu.ld ty_sc3) | exact (Pu.ldo ty_sc3)) ?_
 refine TL.nil ?_
 refine TQ.nxt (hU2 _ _ ?_)
 refine TLi.yi rfl rfl (fun w hw => by
   exact hround q () r w hlt hw) ?_ ?_
 intro r'
 refine TLi.op (fun U3 hU3 => ?_) (by rintro ⟨_, _, h⟩; first | exact h | (obtain ⟨⟨_, h⟩, _⟩ := h; cases h) | cases h)
 refine TL.p Pu.no ?_
 refine TL.nil ?_
 refine TQ.nxt (hU3 _ _ ?_)
 refine TLi.nil ?_
 refine TQ.thenN (hY4 _ _ ?_)
 refine TW.condF rfl rfl ?_
 refine TW.skip ?_
 refine TQ.blkN ?_
 refine TQ.thenN (hY3 _ _ ?_)
 refine TW.dw 7 ?_
 refine RK.tk (by first | exact (Pu.ld ty_sc100) | exact (Pu.ldo ty_sc100)) ?_
 refine RK.tk (by first | exact Pu.nn | exact Pu.nc) ?_
 refine RK.tk (by first | exact Pu.fb ty_fa106_2 | exact Pu.fe ty_fa106_2) ?_
 refine RK.tk (by first | exact (Pu.ld ty_sc33) | exact (Pu.ldo ty_sc33)) ?_
 refine RK.tk (by first | exact (Pu.ld ty_sc3) | exact (Pu.ldo ty_sc3)) ?_
 refine RK.tk (Pu.el (q := (upH f i q).toNat) ty_et33 (hk := rfl)) ?_
 refine RK.tk (by first | exact (Pu.ld ty_sc3) | exact (Pu.ldo ty_sc3)) ?_
 refine RK.ch [] ?_ trivial
 refine WK.n ?_
 first | refine TL.st ty_sz3 ?_ | refine TL.se ty_sz3 ?_
 refine TL.nil ?_
 refine TQ.thenN (hZ0 (q + 1) r' _ _ ?_ ?_ fs9 ?_)
 refine ⟨by omega, fun t ht => ?_⟩
 by_cases e : t = q
 subst e; omega
 exact hup t (by omega)
 exact zom9
 rw [hnx]; exact KSub.refl _
 intro x
 refine TLi.op (fun U4 hU4 => ?_) (by rintro ⟨_, _, h⟩; first | exact h | (obtain ⟨⟨_, h⟩, _⟩ := h; cases h) | cases h)
 refine TL.p Pu.no ?_
 refine TL.nil ?_
 refine TQ.nxt (hU4 _ _ ?_)
 refine TLi.nil ?_
 refine TQ.thenN (hY4 _ _ ?_)
 refine TW.condT rfl rfl ?_
 refine TW.ret ?_
 refine TQ.blkR ?_
 refine TQ.thenR ?_
 refine TQ.thenR ?_
 refine TQ.blkR ?_
 refine TQ.ret Tryz.results119 rfl (.nil) ?_
 exact fun w hw => ⟨⟨_, rfl⟩, .inr ⟨x, hw.sub (KSub.dropL _ (KSub.refl _))⟩⟩
 try simp only [zcb9] at hc0
 have hqe : q = N := by
  rcases hN with ⟨h8, h9⟩ | ⟨h8, _⟩
  by_cases e : q = N
  exact e
  have := dep_in (f := f) (n := n) (i := i) (s := q) (by omega)
  omega
  have := upH_cycle hf hi h8 q
  omega
 subst hqe
 refine TW.exit ?_
 refine TQ.thenX ?_
 refine TQ.thenX ?_
 refine TQ.blkX ?_
 refine TQ.end Tryz.results119 rfl (.nil) ?_
 exact fun w hw => ⟨⟨_, rfl⟩, .inl ⟨r, hw.sub (KSub.drop (KSub.drop (KSub.refl _)))⟩⟩
end Go.Proofs.YtceokmaddbdnfaaGreat
namespace Go.Proofs.YtceokmaddbdnfaaGreat
set_option linter.all false
set_option linter.unusedVariables false
set_option linter.unusedSimpArgs false
open Go.RowKit
def colD (Ds : List Nat) : List Deferred := Ds.map fun D => { target := .collected D, args := #[] }
def defK (Ds : List Nat) : List Fact := Ds.map fun D => .obj D (.deferred (some []))
section
variable {c : Cx} {Q : Exit → Act → World → Prop} {F F' : Fr} {K K' : List Fact}
theorem leaves {P : Program} {fn : Func} {R : Ending → World → Prop} {t : Array Value} {v : Value} {S : List Nat} {w0 : World} {K : List Fact} (hr : ∀ w, Sat S w0 K w → (results fn t).run P w = .ok v w) (hR : ∀ w, Sat S w0 K w → R (.returned v) w) : ∀ (Ds : List Nat) (w : World), Sat S w0 (defK Ds ++ K) w → LeavesInM Fence.wide 2 P fn t R (colD Ds) .returning w
 | [], w, h => ⟨v, hr w h, hR w h⟩
 | D :: Ds, w, h => by
  have hd : w.heap[D]? = some (.deferred (some [])) := (h.holds (.obj D (.deferred (some []))) (by simp [defK])).1
  have h2 : Sat S w0 (defK Ds ++ K) (w.putObj D (.deferred none)) := (Sat.putO (o' := .deferred none) (K := defK Ds ++ K) h rfl).sub (KSub.drop (KSub.refl _))
  exact ⟨by simp, .inl ⟨D, _, rfl, run_takeDeferred hd, leaves hr hR Ds _ h2⟩⟩
theorem TQ.retMs {fn : Func} {R : Ending → World → Prop} {rs : List ResultVar} {vs : List Value} (Ds : List Nat) (K1 : List Fact) (hr : fn.results = rs.toArray) (hK : KSub K (K1 ++ defK Ds)) (hv : RV c F K1 rs vs) (h : ∀ w, Sat c.S c.w0 K1 w → R (.returned (retV vs)) w) (hD : c.D = colD Ds := by rfl) : TQ c (bodyPostM Fence.wide 2 c.P fn R) .ret F K := fun a w hF hs => by
 obtain ⟨t, ds⟩ := a
 have e : ds = colD Ds := hF.dfs.trans hD
 subst e
 exact leaves (fun w hw => hv.results hr hF hw) h Ds w ((hs.sub hK).perm List.perm_append_comm)
theorem TW.loopM {ι : Type} {x : Code} (FI : ι → Fr) (KI : ι → List Nat → List Fact) (p : ι → Prop) (μ : ι → Nat) (i0 : ι) (Ds0 : List Nat) (hF : fsub F (FI i0)) (hK : KSub K (KI i0 Ds0)) (hp : p i0)
  (round : ∀ i, p i → ∀ Ds, ∀ Y : Act → World → Prop, (∀ j Ds' F K, p j → μ j < μ i → fsub F (FI j) → KSub K (KI j Ds') → TQ { c with D := colD Ds' } (fun _ => Y) .normal F K) → TW { c with D := colD Ds } x (Exit.then Y Q) (FI i) (KI i Ds)) (hD : c.D = colD Ds0 := by rfl) : TW c (.loop x) Q F K := fun a w hf hk => by
 refine wp_loop_ghost (fun k a w => ∃ i Ds, μ i = k ∧ p i ∧ FS c.n (colD Ds) (FI i) a ∧ Sat c.S c.w0 (KI i Ds) w) (μ i0) ⟨i0, Ds0, rfl, hp, hD ▸ hf.sub (fsub_spec hF), hk.sub hK⟩ ?_
 rintro k a w ⟨i, Ds, rfl, hpi, hf, hk⟩
 refine round i hpi Ds _ (fun j Ds' F K hpj hj hF hK a w h1 h2 => ?_) a w hf hk
 exact ⟨μ j, hj, j, Ds', rfl, hpj, h1.sub (fsub_spec hF), h2.sub hK⟩
theorem TW.loopM1 {ι1 : Type} {x : Code} (FI : ι1 → Fr) (KI : ι1 → List Nat → List Fact) (p : ι1 → Prop) (μ : ι1 → Nat) (i1 : ι1) (Ds0 : List Nat) (hF : fsub F (FI i1)) (hK : KSub K (KI i1 Ds0)) (hp : p i1)
  (round : ∀ i1, p i1 → ∀ Ds, ∀ Y : Act → World → Prop, (∀ j1 Ds' F K, p j1 → μ j1 < μ i1 → fsub F (FI j1) → KSub K (KI j1 Ds') → TQ { c with D := colD Ds' } (fun _ => Y) .normal F K) → TW { c with D := colD Ds } x (Exit.then Y Q) (FI i1) (KI i1 Ds)) (hD : c.D = colD Ds0 := by rfl) : TW c (.loop x) Q F K :=
 TW.loopM FI KI p μ i1 Ds0 hF hK hp round hD
theorem TW.loopM3 {ι1 ι2 ι3 : Type} {x : Code} (FI : ι1 → ι2 → ι3 → Fr) (KI : ι1 → ι2 → ι3 → List Nat → List Fact) (p : ι1 → ι2 → ι3 → Prop) (μ : ι1 → ι2 → ι3 → Nat) (i1 : ι1) (i2 : ι2) (i3 : ι3) (Ds0 : List Nat) (hF : fsub F (FI i1 i2 i3)) (hK : KSub K (KI i1 i2 i3 Ds0)) (hp : p i1 i2 i3)
  (round : ∀ i1 i2 i3, p i1 i2 i3 → ∀ Ds, ∀ Y : Act → World → Prop, (∀ j1 j2 j3 Ds' F K, p j1 j2 j3 → μ j1 j2 j3 < μ i1 i2 i3 → fsub F (FI j1 j2 j3) → KSub K (KI j1 j2 j3 Ds') → TQ { c with D := colD Ds' } (fun _ => Y) .normal F K) → TW { c with D := colD Ds } x (Exit.then Y Q) (FI i1 i2 i3) (KI i1 i2 i3 Ds)) (hD : c.D = colD Ds0 := by rfl) : TW c (.loop x) Q F K :=
 TW.loopM (ι := ι1 × ι2 × ι3) (fun t => FI t.1 t.2.1 t.2.2) (fun t => KI t.1 t.2.1 t.2.2) (fun t => p t.1 t.2.1 t.2.2) (fun t => μ t.1 t.2.1 t.2.2) (i1, i2, i3) Ds0 hF hK hp (fun t hp Ds Y hY => round t.1 t.2.1 t.2.2 hp Ds Y fun j1 j2 j3 => hY (j1, j2, j3)) hD
theorem TW.np {x : Code} (h : TW c x (NP Q) F K) : TW c x Q F K := fun a w hF hK => wp_mono (h a w hF hK) fun e a w he => by
 cases e with
 | panic ch => exact he.elim
 | _ => exact he
theorem TQ.npN (h : TQ c Q .normal F K) : TQ c (NP Q) .normal F K := h
theorem TW.rebaseK {x : Code} (K1 K2 : List Fact) (hp : KSub K (K1 ++ K2)) (h : ∀ w1, Sat c.S c.w0 (K1 ++ K2) w1 → TW ⟨c.P, c.n, c.D, feet K1, w1⟩ x Q F K1) : TW c x Q F K := fun a w hF hK => by
 have hs := hK.sub hp
 exact h w hs a w hF (Has.sat ⟨K2, List.Perm.refl _⟩ hs).self
end
theorem Sat.apartO {S : List Nat} {w0 w : World} {K1 K2 : List Fact} {A : Option Addr} {n c : Nat} {E : TypeId} {sz : Nat} {r : Nat → List Value} (h : Sat S w0 (K1 ++ K2) w) (hm : .own A n c E sz r ∈ K2) : Apart (feet K1) A := fun b hb hm1 => by
 have hnd := List.nodup_append.1 (feet_append K1 K2 ▸ h.nd)
 cases A with
 | none => cases hb
 | some a =>
  have e : a.block = b := by simpa using hb
  exact hnd.2.2 b hm1 b (List.mem_flatMap.2 ⟨_, hm, by simp [Fact.foot, e]⟩) rfl
theorem Sat.apartB {S : List Nat} {w0 w : World} {K1 K2 : List Fact} {b : Nat} {t : TypeId} {cs : List Value} (h : Sat S w0 (K1 ++ K2) w) (hm : .blk b t cs ∈ K2) : Apart (feet K1) (some ⟨b, 0, none⟩) := fun b' hb hm1 => by
 have hnd := List.nodup_append.1 (feet_append K1 K2 ▸ h.nd)
 have e : b = b' := by simpa using hb
 subst e
 exact hnd.2.2 b hm1 b (List.mem_flatMap.2 ⟨_, hm, by simp [Fact.foot]⟩) rfl
end Go.Proofs.YtceokmaddbdnfaaGreat
namespace Go.Proofs.YtceokmaddbdnfaaGreat
set_option linter.all false
set_option linter.unusedVariables false
set_option linter.unusedSimpArgs false
open Go.RowKit
section
variable {x : Int} {u v : Value} {k : Int} {l : List (Int × Value)}
theorem mlook_app : ∀ {l : List (Int × Value)}, mlook x (l ++ [(k, u)]) = (mlook x l).or (if x = k then some u else none)
 | [] => by simp [mlook]
 | (k', u') :: l => by
  have ih := mlook_app (l := l)
  by_cases h : x = k'
  · simp [mlook, h]
  · simp [mlook, h, ih]
theorem mput_new : ∀ {l : List (Int × Value)}, mlook x l = none → mput x v l = l ++ [(x, v)]
  | [], _ => rfl
  | (k', u') :: l, h => by
    by_cases e : x = k'
    · simp [mlook, e] at h
    · have h' : mlook x l = none := by simpa [mlook, e] using h
      simp [mput, e, mput_new h']
end
def plM (H : Hd) (i : Nat) : List (Int × Value) := (List.range i).map fun j => (H.id j, .int .i64 (j : Int))
section
variable {H : Hd} {i : Nat} {x : Int}
theorem plM_succ : plM H (i + 1) = plM H i ++ [(H.id i, .int .i64 (i : Int))] := by simp [plM, List.range_succ]
theorem mlook_pl : ∀ {i}, mlook x (plM H i) = if fst1 (fun j => decide (H.id j = x)) i < i then some (.int .i64 ((fst1 (fun j => decide (H.id j = x)) i : Nat) : Int)) else none
  | 0 => rfl
  | i + 1 => by
    have hl := fst1_le (p := fun j => decide (H.id j = x)) (n := i)
    rw [plM_succ, mlook_app, mlook_pl (i := i)]
    by_cases h : fst1 (fun j => decide (H.id j = x)) i < i
    · have e : fst1 (fun j => decide (H.id j = x)) (i + 1) = fst1 (fun j => decide (H.id j = x)) i := by simp only [fst1]; rw [if_pos h]
      rw [e, if_pos h, if_pos (show fst1 (fun j => decide (H.id j = x)) i < i + 1 by omega)]; rfl
    · rw [if_neg h]
      by_cases e : H.id i = x
      · have e2 : fst1 (fun j => decide (H.id j = x)) (i + 1) = i := by simp only [fst1]; rw [if_neg h, if_pos (decide_eq_true e)]
        rw [e2, if_pos e.symm, if_pos (show i < i + 1 by omega)]; rfl
      · have e2 : fst1 (fun j => decide (H.id j = x)) (i + 1) = i + 1 := by simp only [fst1]; rw [if_neg h, if_neg (by simpa using e)]
        rw [e2, if_neg (fun e3 => e e3.symm), if_neg (show ¬ i + 1 < i + 1 by omega)]; rfl
theorem pl_look : mlook x (plM H H.n) = if 0 ≤ atH H x then some (.int .i64 (atH H x)) else none := by
 rw [mlook_pl]
 unfold atH atI
 split
 · rw [if_pos (by omega)]
 · rw [if_neg (by omega)]
theorem pl_twice (hi : i < H.n) : (mlook (H.id i) (plM H i)).isSome = !decide (atH H (H.id i) = (i : Int)) := by
 rw [mlook_pl]
 have h1 := at_first (H := H) hi
 have h2 := fst1_lt (p := fun j => decide (H.id j = H.id i)) (n := i)
 by_cases h : atH H (H.id i) = (i : Int)
 · rw [if_neg]
   · simp [h]
   · intro h3
     obtain ⟨j, hj, e⟩ := h2.1 h3
     exact h1.1 h j hj (by simpa using e)
 · rw [if_pos]
   · simp [h]
   · refine h2.2 ?_
     have h3 : ¬ ∀ j, j < i → H.id j ≠ H.id i := fun h3 => h (h1.2 h3)
     simp only [Classical.not_forall] at h3
     obtain ⟨j, hj, e⟩ := h3
     exact ⟨j, hj, by simpa using e⟩
theorem pl_next (h : (mlook (H.id i) (plM H i)).isSome = false) : mput (H.id i) (.int .i64 (i : Int)) (plM H i) = plM H (i + 1) := by
 rw [plM_succ]
 exact mput_new (by simpa using h)
theorem herd_no1 (hi : i < H.n) (h : an1B H i = false) : herdB H = false := by
 cases h2 : herdB H with
 | false => rfl
 | true =>
  unfold herdB at h2
  simp only [Bool.and_eq_true] at h2
  rw [allB_iff.1 h2.1.1.2 i hi] at h; cases h
theorem herd_no2 (hi : i < H.n) (h : an2B H i = false) : herdB H = false := by
 cases h2 : herdB H with
 | false => rfl
 | true =>
  unfold herdB at h2
  simp only [Bool.and_eq_true] at h2
  rw [allB_iff.1 h2.1.2 i hi] at h; cases h
theorem herd_no3 (hi : i < H.n) (h : endB H i = false) : herdB H = false := by
 cases h2 : herdB H with
 | false => rfl
 | true =>
  unfold herdB at h2
  simp only [Bool.and_eq_true] at h2
  rw [allB_iff.1 h2.2 i hi] at h; cases h
theorem herd_no0 (h : (16 : Int) < (H.n : Int)) : herdB H = false := by
 unfold herdB
 rw [decide_eq_false (by omega)]
 rfl
theorem herd_yes (h0 : (H.n : Int) ≤ 16) (h1 : ∀ i, i < H.n → an1B H i = true) (h2 : ∀ i, i < H.n → an2B H i = true) (h3 : ∀ i, i < H.n → endB H i = true) : herdB H = true := by
 unfold herdB
 simp only [Bool.and_eq_true, decide_eq_true_eq, allB_iff]
 exact ⟨⟨⟨h0, h1⟩, h2⟩, h3⟩
end
structure HIn (w : World) (A : Option Addr) (H : Hd) (a : Nat → Option Addr) (c : Nat → Nat) : Prop where
 hn : H.n ≤ 1000
 hR : RdR w 5 A H.n (fun i => anL H a c i)
 hM : ∀ i, i < H.n → RdR w 2 (a i) (H.ml i) (fun k => spL (H.sp i k) (H.sg i k))
 hl : ∀ i, i < H.n → H.ml i ≤ 1000
theorem HIn.sat {w w' : World} {A : Option Addr} {H : Hd} {a : Nat → Option Addr} {c : Nat → Nat} {K : List Fact} (h : HIn w A H a c) (hs : Sat [] w K w') : HIn w' A H a c :=
 ⟨h.hn, h.hR.sat hs Apart.nil, fun i hi => (h.hM i hi).sat hs Apart.nil, h.hl⟩
abbrev OpX := (Nat × Nat) × (Option Addr × Nat) × (Option Addr × Nat)
def opK (H : Hd) (A : Option Addr) (cp : Nat) (x : OpX) : List Fact := [.blk x.1.1 106 [.slice A H.n cp, .map (some x.1.2), .slice x.2.1.1 H.n x.2.1.2, .slice x.2.2.1 H.n x.2.2.2], .obj x.1.2 (mapO .i64 (plM H H.n)), .own x.2.1.1 H.n x.2.1.2 3 1 (fun j => [.int .i64 (moH H j)]), .own x.2.2.1 H.n x.2.2.2 108 8 (fun j => octL (sgH H j))]
theorem octL_congr {g h : Nat → Int} (e : ∀ s, s < 8 → g s = h s) : octL g = octL h := by
 unfold octL
 rw [e 0 (by omega), e 1 (by omega), e 2 (by omega), e 3 (by omega), e 4 (by omega), e 5 (by omega), e 6 (by omega), e 7 (by omega)]
def badF : Fact := .obj 0 (.cells #[] 0 (0, 0))
theorem no_bad {S : List Nat} {w0 w : World} {K : List Fact} (h : Sat S w0 K w) (hm : badF ∈ K) : False := by
 have := (h.holds _ hm).2
 cases this
theorem cat_rows {i j : Nat} {r : Nat → List Value} {v : List Value} (h : v = r i) (hj : j < i + 1) : catR i r (fun _ => v) j = r j := by
 unfold catR
 split
 · rfl
 · rw [h, show j = i by omega]
set_option maxRecDepth 100000 in
set_option maxHeartbeats 4000000 in
theorem open_any {w : World} {A : Option Addr} {cp : Nat} {H : Hd} {a : Nat → Option Addr} {c : Nat → Nat} (hI : HIn w A H a c) :
  CallsK Tryz.prog 71 #[.slice A H.n cp] [] w OpX (fun x => if herdB H then .tuple #[.pointer (some ⟨x.1.1, 0, none⟩), .int .i64 0] else .tuple #[.pointer none, .int .i64 20]) (fun x => if herdB H then opK H A cp x else []) := by
 have hn := hI.hn
 have hR := hI.hR
 refine K_enterM (S := []) (K := []) Tryz.func71 rfl Tryz.ntmps71 rfl (Sat.start _) ?_
 refine TW.seqD fun Y1 hY1 => ?_
 refine TW.region ?_
 refine TL.m Mk.bx ?_
 intro b1
 refine TL.m (Mk.al ty_zr100) ?_
 intro b2
 refine TL.m (Mk.al ty_zr34) ?_
 intro b3
 refine TL.nil ?_
 refine TQ.thenN (hY1 _ _ _ ?_)
 refine TW.seqD fun Y2 hY2 => ?_
 refine TW.region ?_
 refine TL.p (Pu.ld ty_sc22) ?_
 refine TL.mm (kk := .i64) ?_
 intro b4
 refine TL.p Pu.bd ?_
 refine TL.m Mk.bx ?_
 intro b5
 refine TL.p Pu.as ?_
 refine TL.nil ?_
 refine TQ.thenN (hY2 _ _ _ ?_)
 refine TW.seqD fun Y3 hY3 => ?_
 refine TW.seqD fun Y4 hY4 => ?_
 refine TW.region ?_
 refine TL.p (Pu.ld ty_sc22) ?_
 refine TL.p (Pu.ln Tryz.underlying22) ?_
 refine TL.p Pu.gt ?_
 refine TL.nil ?_
 refine TQ.thenN (hY4 _ _ _ ?_)
 refine TW.cond rfl (fun hc0 => ?_) (fun hc0 => ?_)
 try simp only [zcb9] at hc0
 refine TW.seqD fun Y5 hY5 => ?_
 refine TW.region ?_
 first | refine TL.st ty_sz100 ?_ | refine TL.se ty_sz100 ?_
 first | refine TL.st ty_sz34 ?_ | refine TL.se ty_sz34 ?_
 refine TL.nil ?_
 refine TQ.thenN (hY5 _ _ _ ?_)
 refine TW.ret ?_
 refine TQ.thenR ?_
 refine TQ.retM0 Tryz.results71 ((RV.c1 ty_sc100 (RV.c1 ty_sc34 .nil))) ?_
 have hno := herd_no0 (H := H) hc0
 exact fun w hw => ⟨((0, 0), (none, 0), (none, 0)), by show Ending.returned _ = Ending.returned (if herdB H = true then _ else _); rw [hno]; rfl, by show Sat _ _ (if herdB H = true then _ else _) _; rw [hno]; exact hw.sub KSub.nil⟩
 try simp only [zcb9] at hc0
 have h16 : ¬ (16 : Int) < (H.n : Int) := by omega
 refine TW.skip ?_
 refine TQ.thenN (hY3 _ _ _ ?_)
 refine TW.seqD fun Y6 hY6 => ?_
 refine TW.seqD fun Y7 hY7 => ?_
 refine TW.region ?_
 refine TL.p (Pu.ld ty_sc22) ?_
 refine TL.p (Pu.ln Tryz.underlying22) ?_
 refine TL.p Pu.mv ?_
 refine TL.nil ?_
 refine TQ.thenN (hY7 _ _ _ ?_)
 refine TW.block ?_
 refine TW.loop3 (fun (i : Nat) (Ak : Option Addr) (ck : Nat) => [(26, .int .i64 (i : Int)), (25, .int .i64 (H.n : Int)), (24, .slice A H.n cp), (4, .pointer (some ⟨b5, 0, none⟩)), (1, .pointer (some ⟨b1, 0, none⟩)), (2, .pointer (some ⟨b2, 0, none⟩)), (3, .pointer (some ⟨b3, 0, none⟩))]) (fun i Ak ck => .blk b5 106 [.slice A H.n cp, .map (some b4), .slice none 0 0, .slice Ak i ck] :: .obj b4 (mapO .i64 (plM H i)) :: .own Ak i ck 108 8 (fun j => octL (sgH H j)) :: .blk b1 22 [.slice A H.n cp] :: .blk b2 100 [.pointer none] :: .blk b3 34 [.int .i64 0] :: []) (fun i Ak ck => i ≤ H.n ∧ ∀ j, j < i → an1B H j = true) (fun i Ak ck => H.n - i) 0 none 0 fs9 ?_ ?_ ?_
 exact KSub.cons pk9 (KSub.cons pk9 (KSub.nilOwn (KSub.cons pk9 (KSub.cons pk9 (KSub.cons pk9 KSub.nil)))))
 exact ⟨Nat.zero_le _, fun j hj => by omega⟩
 rintro i Ak ck ⟨hi, h1⟩ Z0 hZ0
 refine TW.seqD fun Y8 hY8 => ?_
 refine TW.region ?_
 refine TL.p Pu.lt ?_
 refine TL.nil ?_
 refine TQ.thenN (hY8 _ _ _ ?_)
 refine TW.seqD fun Y9 hY9 => ?_
 refine TW.cond rfl (fun hc1 => ?_) (fun hc1 => ?_)
 try simp only [zcb9] at hc1
 have hin : i < H.n := by omega
 refine TW.skip ?_
 refine TQ.thenN (hY9 _ _ _ ?_)
 refine TW.seqD fun Y10 hY10 => ?_
 refine TW.block ?_
 refine TW.seqD fun Y11 hY11 => ?_
 refine TW.region ?_
 refine TL.p Pu.mv ?_
 refine TL.p (Pu.el ty_et22) ?_
 refine TL.p (Pu.lds ty_ag65) ?_
 refine TL.m (Mk.al ty_zr65) ?_
 intro b6
 refine TL.p Pu.as ?_
 first | refine TL.st ty_sz65 ?_ | refine TL.se ty_sz65 ?_
 refine TL.nil ?_
 refine TQ.thenN (hY11 _ _ _ ?_)
 refine TW.seqD fun Y12 hY12 => ?_
 refine TW.region ?_
 refine TL.p (Pu.lds ty_ag65) ?_
 refine TL.call (M := []) rfl (enters Tryz.func114 rfl rfl) (List.Perm.refl _) rfl (fun w hw => by
   exact signed_any (H := H) (i := i) (hI.hl i hin) ((hI.hM i hin).sat hw Apart.nil)) ?_
 rintro ⟨gs, hgs⟩
 refine TL.p Pu.mv ?_
 refine TL.p Pu.ex ?_
 refine TL.p Pu.ex ?_
 refine TL.m (Mk.al ty_zr108) ?_
 intro b7
 first | refine TL.st ty_sz108 ?_ | refine TL.se ty_sz108 ?_
 refine TL.p Pu.as ?_
 refine TL.nil ?_
 refine TQ.thenN (hY12 _ _ _ ?_)
 refine TW.seqD fun Y13 hY13 => ?_
 refine TW.seqD fun Y14 hY14 => ?_
 refine TW.np ?_
 refine TW.dw 12 ?_
 refine RK.tk Pu.mv ?_
 refine RK.tk (by first | exact Pu.nn | exact Pu.nc) ?_
 refine RK.tk (by first | exact Pu.fb ty_fa106_1 | exact Pu.fe ty_fa106_1) ?_
 refine RK.tk (Pu.ld ty_sc60) ?_
 refine RK.tk (by first | exact Pu.fb ty_fa65_0 | exact Pu.fe ty_fa65_0) ?_
 refine RK.tk (Pu.ld ty_sc3) ?_
 refine RK.tk (Pu.lkV (mlook (H.id i) (plM H i) |>.getD (.int .i64 0)) (!decide (atH H (H.id i) = (i : Int))) ty_mp60 ty_zv3 rfl (pl_twice hin)) ?_
 refine RK.tk Pu.mv ?_
 refine RK.tk Pu.ex ?_
 refine RK.tk Pu.ex ?_
 refine RK.tk Pu.as ?_
 refine RK.tk Pu.as ?_
 refine RK.ch [] ?_ trivial
 refine WK.n ?_
 refine TL.nil ?_
 refine TQ.npN ?_
 refine TQ.thenN (hY14 _ _ _ ?_)
 refine TW.seqD fun Y15 hY15 => ?_
 refine TW.join [(64, .bool (!an1B H i))] ?_ (fun hJ1 => ?_)
 refine TQ.thenN (hY15 _ _ _ ?_)
 refine TW.cond rfl (fun hc2 => ?_) (fun hc2 => ?_)
 try simp only [zcb9] at hc2
 have hno := herd_no1 hin hc2
 refine TW.seqD fun Y16 hY16 => ?_
 refine TW.region ?_
 first | refine TL.st ty_sz100 ?_ | refine TL.se ty_sz100 ?_
 first | refine TL.st ty_sz34 ?_ | refine TL.se ty_sz34 ?_
 refine TL.nil ?_
 refine TQ.thenN (hY16 _ _ _ ?_)
 refine TW.ret ?_
 refine TQ.thenR ?_
 refine TQ.blkR ?_
 refine TQ.thenR ?_
 refine TQ.thenR ?_
 refine TQ.blkR ?_
 refine TQ.thenR ?_
 refine TQ.retM0 Tryz.results71 ((RV.c1 ty_sc100 (RV.c1 ty_sc34 .nil))) ?_
 exact fun w hw => ⟨((0, 0), (none, 0), (none, 0)), by show Ending.returned _ = Ending.returned (if herdB H = true then _ else _); rw [hno]; rfl, by show Sat _ _ (if herdB H = true then _ else _) _; rw [hno]; exact hw.sub KSub.nil⟩
 try simp only [zcb9] at hc2
 have hgood : an1B H i = true := hc2
 have hparts := hgood
 unfold an1B at hparts
 simp only [Bool.and_eq_true, decide_eq_true_eq] at hparts
 have htw : (mlook (H.id i) (plM H i)).isSome = false := by rw [pl_twice hin, hparts.1.1.2]; simp
 have hge : octL gs = octL (sgH H i) := octL_congr (hgs hparts.2)
 refine TW.skip ?_
 refine TQ.thenN (hY13 _ _ _ ?_)
 refine TW.seqD fun Y17 hY17 => ?_
 refine TW.np ?_
 refine TW.dw 7 ?_
 refine RK.tk Pu.mv ?_
 refine RK.tk (by first | exact Pu.nn | exact Pu.nc) ?_
 refine RK.tk (by first | exact Pu.fb ty_fa106_1 | exact Pu.fe ty_fa106_1) ?_
 refine RK.tk (Pu.ld ty_sc60) ?_
 refine RK.tk (by first | exact Pu.fb ty_fa65_0 | exact Pu.fe ty_fa65_0) ?_
 refine RK.tk (Pu.ld ty_sc3) ?_
 refine RK.tk Pu.mv ?_
 refine RK.ch [] ?_ trivial
 refine WK.n ?_
 refine TL.mu ty_mp60 ?_
 refine TL.nil ?_
 refine TQ.npN ?_
 refine TQ.thenN (hY17 _ _ _ ?_)
 refine TW.np ?_
 refine TW.ex0k [.blk b7 108 (octL gs)] ?_
 refine RG.tk 0 rfl Pu.mv ?_
 refine RG.tk 1 rfl Pu.mv ?_
 refine RG.tk 5 rfl (Pu.lds ty_ag108) ?_
 refine RG.a2 2 6 rfl rfl (fun X2 hX2 => ?_) (fun X6 hX6 => ?_)
 refine TL.p (by first | exact Pu.nn | exact Pu.nc) ?_
 refine TL.nil ?_
 refine TQ.nxt (hX2 _ _ hl9 ?_)
 refine RG.tk 3 rfl (by first | exact Pu.fb ty_fa106_3 | exact Pu.fe ty_fa106_3) ?_
 refine RG.a2 4 6 rfl rfl (fun X4 hX4 => ?_) (fun X6 hX6 => ?_)
 refine TL.p (Pu.ld ty_sc104) ?_
 refine TL.nil ?_
 refine TQ.nxt (hX4 _ _ hl9 ?_)
 refine RG.a1 6 rfl (fun X6 hX6 => ?_)
 refine TL.m Mk.bl ?_
 intro b8
 refine TL.nil ?_
 refine TQ.nxt (hX6 _ _ hl9 ?_)
 refine RG.a1 7 rfl (fun X7 hX7 => ?_)
 first | refine TL.a0 ty_et104 ?_ | refine TL.ap ty_et104 ?_
 intro A9 c9
 refine TL.nil ?_
 refine TQ.nxt (hX7 _ _ hl9 ?_)
 refine RG.a1 8 rfl (fun X8 hX8 => ?_)
 refine TL.p (by first | exact Pu.nn | exact Pu.nc) ?_
 refine TL.nil ?_
 refine TQ.nxt (hX8 _ _ hl9 ?_)
 refine RG.tk 9 rfl (by first | exact Pu.fb ty_fa106_3 | exact Pu.fe ty_fa106_3) ?_
 refine RG.a1 10 rfl (fun X10 hX10 => ?_)
 first | refine TL.st ty_sz104 ?_ | refine TL.se ty_sz104 ?_
 refine TL.nil ?_
 refine TQ.nxt (hX10 _ _ hl9 ?_)
 refine RG.nil ?_ (by kernel_rfl)
 refine TQ.npN ?_
 refine TQ.blkN ?_
 refine TQ.thenN (hY10 _ _ _ ?_)
 refine TW.region ?_
 first
  | (generalize A9 = AN; generalize c9 = cN)
  | (generalize A11 = AN; generalize c11 = cN)
  | (generalize A13 = AN; generalize c13 = cN)
 refine TL.p Pu.ad ?_
 refine TL.p Pu.mv ?_
 refine TL.nil ?_
 refine TQ.thenN (hZ0 (i + 1) AN cN _ _ ?_ ?_ fs9 ?_)
 refine ⟨by omega, fun j hj => ?_⟩
 by_cases e : j = i
 subst e; exact hgood
 exact h1 j (by omega)
 exact zom9
 rw [pl_next htw]
 exact KSub.cons pk9 (KSub.cons pk9 (KSub.own pk9 (fun j hj => by first | exact cat_rows (r := fun j => octL (sgH H j)) hge hj | exact cat_rows (r := fun j => octL (sgH H j)) rfl hj) (KSub.cons pk9 (KSub.cons pk9 (KSub.cons pk9 KSub.nil)))))
 refine TL.m Mk.bl ?_
 intro b10
 refine TL.nil ?_
 refine TQ.nxt (hX6 _ _ hl9 ?_)
 refine RG.a1 4 rfl (fun X4 hX4 => ?_)
 refine TL.p (Pu.ld ty_sc104) ?_
 refine TL.nil ?_
 refine TQ.nxt (hX4 _ _ hl9 ?_)
 refine RG.a1 7 rfl (fun X7 hX7 => ?_)
 first | refine TL.a0 ty_et104 ?_ | refine TL.ap ty_et104 ?_
 intro A11 c11
 refine TL.nil ?_
 refine TQ.nxt (hX7 _ _ hl9 ?_)
 refine RG.a1 8 rfl (fun X8 hX8 => ?_)
 refine TL.p (by first | exact Pu.nn | exact Pu.nc) ?_
 refine TL.nil ?_
 refine TQ.nxt (hX8 _ _ hl9 ?_)
 refine RG.tk 9 rfl (by first | exact Pu.fb ty_fa106_3 | exact Pu.fe ty_fa106_3) ?_
 refine RG.a1 10 rfl (fun X10 hX10 => ?_)
 first | refine TL.st ty_sz104 ?_ | refine TL.se ty_sz104 ?_
 refine TL.nil ?_
 refine TQ.nxt (hX10 _ _ hl9 ?_)
 refine RG.nil ?_ (by kernel_rfl)
 refine TQ.npN ?_
 refine TQ.blkN ?_
 refine TQ.thenN (hY10 _ _ _ ?_)
 refine TW.region ?_
 first
  | (generalize A9 = AN; generalize c9 = cN)
  | (generalize A11 = AN; generalize c11 = cN)
  | (generalize A13 = AN; generalize c13 = cN)
 refine TL.p Pu.ad ?_
 refine TL.p Pu.mv ?_
 refine TL.nil ?_
 refine TQ.thenN (hZ0 (i + 1) AN cN _ _ ?_ ?_ fs9 ?_)
 refine ⟨by omega, fun j hj => ?_⟩
 by_cases e : j = i
 subst e; exact hgood
 exact h1 j (by omega)
 exact zom9
 rw [pl_next htw]
 exact KSub.cons pk9 (KSub.cons pk9 (KSub.own pk9 (fun j hj => by first | exact cat_rows (r := fun j => octL (sgH H j)) hge hj | exact cat_rows (r := fun j => octL (sgH H j)) rfl hj) (KSub.cons pk9 (KSub.cons pk9 (KSub.cons pk9 KSub.nil)))))
 refine TL.m Mk.bl ?_
 intro b12
 refine TL.nil ?_
 refine TQ.nxt (hX6 _ _ hl9 ?_)
 refine RG.a1 2 rfl (fun X2 hX2 => ?_)
 refine TL.p (by first | exact Pu.nn | exact Pu.nc) ?_
 refine TL.nil ?_
 refine TQ.nxt (hX2 _ _ hl9 ?_)
 refine RG.tk 3 rfl (by first | exact Pu.fb ty_fa106_3 | exact Pu.fe ty_fa106_3) ?_
 refine RG.a1 4 rfl (fun X4 hX4 => ?_)
 refine TL.p (Pu.ld ty_sc104) ?_
 refine TL.nil ?_
 refine TQ.nxt (hX4 _ _ hl9 ?_)
 refine RG.a1 7 rfl (fun X7 hX7 => ?_)
 first | refine TL.a0 ty_et104 ?_ | refine TL.ap ty_et104 ?_
 intro A13 c13
 refine TL.nil ?_
 refine TQ.nxt (hX7 _ _ hl9 ?_)
 refine RG.a1 8 rfl (fun X8 hX8 => ?_)
 refine TL.p (by first | exact Pu.nn | exact Pu.nc) ?_
 refine TL.nil ?_
 refine TQ.nxt (hX8 _ _ hl9 ?_)
 refine RG.tk 9 rfl (by first | exact Pu.fb ty_fa106_3 | exact Pu.fe ty_fa106_3) ?_
 refine RG.a1 10 rfl (fun X10 hX10 => ?_)
 first | refine TL.st ty_sz104 ?_ | refine TL.se ty_sz104 ?_
 refine TL.nil ?_
 refine TQ.nxt (hX10 _ _ hl9 ?_)
 refine RG.nil ?_ (by kernel_rfl)
 refine TQ.npN ?_
 refine TQ.blkN ?_
 refine TQ.thenN (hY10 _ _ _ ?_)
 refine TW.region ?_
 first
  | (generalize A9 = AN; generalize c9 = cN)
  | (generalize A11 = AN; generalize c11 = cN)
  | (generalize A13 = AN; generalize c13 = cN)
 refine TL.p Pu.ad ?_
 refine TL.p Pu.mv ?_
 refine TL.nil ?_
 refine TQ.thenN (hZ0 (i + 1) AN cN _ _ ?_ ?_ fs9 ?_)
 refine ⟨by omega, fun j hj => ?_⟩
 by_cases e : j = i
 subst e; exact hgood
 exact h1 j (by omega)
 exact zom9
 rw [pl_next htw]
 exact KSub.cons pk9 (KSub.cons pk9 (KSub.own pk9 (fun j hj => by first | exact cat_rows (r := fun j => octL (sgH H j)) hge hj | exact cat_rows (r := fun j => octL (sgH H j)) rfl hj) (KSub.cons pk9 (KSub.cons pk9 (KSub.cons pk9 KSub.nil)))))
 refine TW.region ?_
 refine TL.p Pu.mv ?_
 refine TL.p Pu.mv ?_
 refine TL.guard (t := 47) rfl (fun hg1 => ?_) (fun hg1 => ?_)
 try simp only [zgb9] at hg1
 refine TL.gs ?_
 refine TL.gs ?_
 refine TL.p Pu.kt ?_
 refine TL.p Pu.mv ?_
 refine TL.gs ?_
 refine TL.gs ?_
 refine TL.gs ?_
 refine TL.gs ?_
 refine TL.gs ?_
 refine TL.p Pu.kt ?_
 refine TL.p Pu.mv ?_
 refine TL.gs ?_
 refine TL.gs ?_
 refine TL.gs ?_
 refine TL.gs ?_
 refine TL.gs ?_
 refine TL.p Pu.kt ?_
 refine TL.nil ?_
 exact TQ.sub (by repeat (first | exact trivial | refine ⟨rfl, ?_⟩ | refine ⟨trivial, ?_⟩ | refine ⟨(by show some (Value.bool _) = some (Value.bool _); first | (simp [hg1, an1B]; done) | (refine congrArg (fun z => some (Value.bool z)) (Bool.eq_iff_iff.2 ?_); simp [hg1, an1B]; omega)), ?_⟩)) kt9 hJ1
 try simp only [zgb9] at hg1
 refine TL.gd Pu.mv ?_
 refine TL.gd Pu.no ?_
 refine TL.p Pu.kf ?_
 refine TL.p Pu.mv ?_
 refine TL.guard (t := 51) rfl (fun hg2 => ?_) (fun hg2 => ?_)
 try simp only [zgb9] at hg2
 refine TL.gs ?_
 refine TL.gs ?_
 refine TL.gs ?_
 refine TL.gs ?_
 refine TL.gs ?_
 refine TL.p Pu.kt ?_
 refine TL.p Pu.mv ?_
 refine TL.gs ?_
 refine TL.gs ?_
 refine TL.gs ?_
 refine TL.gs ?_
 refine TL.gs ?_
 refine TL.p Pu.kt ?_
 refine TL.nil ?_
 exact TQ.sub (by repeat (first | exact trivial | refine ⟨rfl, ?_⟩ | refine ⟨trivial, ?_⟩ | refine ⟨(by show some (Value.bool _) = some (Value.bool _); first | (simp [hg1, hg2, an1B]; done) | (refine congrArg (fun z => some (Value.bool z)) (Bool.eq_iff_iff.2 ?_); simp [hg1, hg2, an1B]; omega)), ?_⟩)) kt9 hJ1
 try simp only [zgb9] at hg2
 refine TL.gd (by first | exact Pu.fb ty_fa65_0 | exact Pu.fe ty_fa65_0) ?_
 refine TL.gd (Pu.ld ty_sc3) ?_
 refine TL.gm Mk.bl ?_
 intro b14
 refine TL.cr rfl (enters Tryz.func60 rfl rfl) (fun w hw => by
   exact bInOne_any _ _ _ (hw.holds _ (List.mem_cons_self ..))) ?_
 refine TL.gd Pu.no ?_
 refine TL.p Pu.kf ?_
 refine TL.p Pu.mv ?_
 refine TL.guard (t := 58) rfl (fun hg3 => ?_) (fun hg3 => ?_)
 try simp only [zgb9] at hg3
 refine TL.gs ?_
 refine TL.gs ?_
 refine TL.gs ?_
 refine TL.gs ?_
 refine TL.gs ?_
 refine TL.p Pu.kt ?_
 refine TL.nil ?_
 exact TQ.sub (by repeat (first | exact trivial | refine ⟨rfl, ?_⟩ | refine ⟨trivial, ?_⟩ | refine ⟨(by show some (Value.bool _) = some (Value.bool _); first | (simp [hg1, hg2, hg3, an1B]; done) | (refine congrArg (fun z => some (Value.bool z)) (Bool.eq_iff_iff.2 ?_); simp [hg1, hg2, hg3, an1B]; omega)), ?_⟩)) kt9 hJ1
 try simp only [zgb9] at hg3
 refine TL.gd (by first | exact Pu.fb ty_fa65_2 | exact Pu.fe ty_fa65_2) ?_
 refine TL.gd (Pu.lds ty_ag25) ?_
 refine TL.gm Mk.bl ?_
 intro b15
 refine TL.cr rfl (enters Tryz.func86 rfl rfl) (fun w hw => by
   exact bProperOne_any _ _ _ _ (hw.holds _ (List.mem_cons_self ..))) ?_
 refine TL.gd Pu.no ?_
 refine TL.p Pu.kf ?_
 refine TL.nil ?_
 exact TQ.sub (by repeat (first | exact trivial | refine ⟨rfl, ?_⟩ | refine ⟨trivial, ?_⟩ | refine ⟨(by show some (Value.bool _) = some (Value.bool _); first | (simp [hg1, hg2, hg3, an1B]; done) | (refine congrArg (fun z => some (Value.bool z)) (Bool.eq_iff_iff.2 ?_); simp [hg1, hg2, hg3, an1B]; omega)), ?_⟩)) kt9 hJ1
 try simp only [zcb9] at hc1
 obtain rfl : i = H.n := by omega
 refine TW.exit ?_
 refine TQ.thenX ?_
 refine TQ.thenX ?_
 refine TQ.blkX ?_
 refine TQ.thenN (hY6 _ _ _ ?_)
 refine TW.seqD fun Y18 hY18 => ?_
 refine TW.seqD fun Y19 hY19 => ?_
 refine TW.region ?_
 refine TL.p (Pu.ld ty_sc22) ?_
 refine TL.p (Pu.ln Tryz.underlying22) ?_
 refine TL.p Pu.mv ?_
 refine TL.nil ?_
 refine TQ.thenN (hY19 _ _ _ ?_)
 refine TW.block ?_
 refine TW.loop3 (fun (i : Nat) (Am : Option Addr) (cm : Nat) => [(85, .int .i64 (i : Int)), (84, .int .i64 (H.n : Int)), (83, .slice A H.n cp), (4, .pointer (some ⟨b5, 0, none⟩)), (1, .pointer (some ⟨b1, 0, none⟩)), (2, .pointer (some ⟨b2, 0, none⟩)), (3, .pointer (some ⟨b3, 0, none⟩))]) (fun i Am cm => .blk b5 106 [.slice A H.n cp, .map (some b4), .slice Am i cm, .slice Ak H.n ck] :: .obj b4 (mapO .i64 (plM H H.n)) :: .own Am i cm 3 1 (fun j => [.int .i64 (moH H j)]) :: .own Ak H.n ck 108 8 (fun j => octL (sgH H j)) :: .blk b1 22 [.slice A H.n cp] :: .blk b2 100 [.pointer none] :: .blk b3 34 [.int .i64 0] :: []) (fun i Am cm => i ≤ H.n ∧ ∀ j, j < i → an2B H j = true) (fun i Am cm => H.n - i) 0 none 0 fs9 ?_ ?_ ?_
 exact KSub.cons pk9 (KSub.cons pk9 (KSub.nilOwn (KSub.cons pk9 (KSub.cons pk9 (KSub.cons pk9 (KSub.cons pk9 KSub.nil))))))
 exact ⟨Nat.zero_le _, fun j hj => by omega⟩
 rintro i Am cm ⟨hi, h2⟩ Z1 hZ1
 refine TW.seqD fun Y20 hY20 => ?_
 refine TW.region ?_
 refine TL.p Pu.lt ?_
 refine TL.nil ?_
 refine TQ.thenN (hY20 _ _ _ ?_)
 refine TW.seqD fun Y21 hY21 => ?_
 refine TW.cond rfl (fun hc3 => ?_) (fun hc3 => ?_)
 try simp only [zcb9] at hc3
 have hin : i < H.n := by omega
 have hlk := pl_look (H := H) (x := H.mo i)
 have hv : (mlook (H.mo i) (plM H H.n)).getD (.int .i64 0) = .int .i64 (if 0 ≤ atH H (H.mo i) then atH H (H.mo i) else 0) := by
  rw [hlk]
  by_cases h : 0 ≤ atH H (H.mo i)
  rw [if_pos h, if_pos h]; rfl
  rw [if_neg h, if_neg h]; rfl
 have hs : (mlook (H.mo i) (plM H H.n)).isSome = decide (0 ≤ atH H (H.mo i)) := by
  rw [hlk]
  by_cases h : 0 ≤ atH H (H.mo i)
  rw [if_pos h, decide_eq_true h]; rfl
  rw [if_neg h, decide_eq_false h]; rfl
 refine TW.skip ?_
 refine TQ.thenN (hY21 _ _ _ ?_)
 refine TW.seqD fun Y22 hY22 => ?_
 refine TW.block ?_
 refine TW.seqD fun Y23 hY23 => ?_
 refine TW.region ?_
 refine TL.p (Pu.el ty_et22) ?_
 refine TL.p (Pu.lds ty_ag65) ?_
 refine TL.m (Mk.al ty_zr65) ?_
 intro b16
 first | refine TL.st ty_sz65 ?_ | refine TL.se ty_sz65 ?_
 refine TL.nil ?_
 refine TQ.thenN (hY23 _ _ _ ?_)
 refine TW.seqD fun Y24 hY24 => ?_
 refine TW.np ?_
 refine TW.dw 12 ?_
 refine RK.tk Pu.mv ?_
 refine RK.tk (by first | exact Pu.nn | exact Pu.nc) ?_
 refine RK.tk (by first | exact Pu.fb ty_fa106_1 | exact Pu.fe ty_fa106_1) ?_
 refine RK.tk (Pu.ld ty_sc60) ?_
 refine RK.tk (by first | exact Pu.fb ty_fa65_1 | exact Pu.fe ty_fa65_1) ?_
 refine RK.tk (Pu.ld ty_sc3) ?_
 refine RK.tk (Pu.lkV (.int .i64 (if 0 ≤ atH H (H.mo i) then atH H (H.mo i) else 0)) (decide (0 ≤ atH H (H.mo i))) ty_mp60 ty_zv3 hv hs) ?_
 refine RK.tk Pu.mv ?_
 refine RK.tk Pu.ex ?_
 refine RK.tk Pu.ex ?_
 refine RK.tk Pu.as ?_
 refine RK.tk Pu.as ?_
 refine RK.ch [] ?_ trivial
 refine WK.n ?_
 refine TL.nil ?_
 refine TQ.npN ?_
 refine TQ.thenN (hY24 _ _ _ ?_)
 refine TW.seqD fun Y25 hY25 => ?_
 refine TW.seqD fun Y26 hY26 => ?_
 refine TW.region ?_
 refine TL.p (by first | exact Pu.fb ty_fa65_1 | exact Pu.fe ty_fa65_1) ?_
 refine TL.p (Pu.ld ty_sc3) ?_
 refine TL.p Pu.eq ?_
 refine TL.nil ?_
 refine TQ.thenN (hY26 _ _ _ ?_)
 refine TW.cond rfl (fun hc4 => ?_) (fun hc4 => ?_)
 try simp only [zcb9] at hc4
 have hm1 : H.mo i = -1 := hc4
 have hmo : moH H i = -1 := if_pos hm1
 have hg2 : an2B H i = true := by unfold an2B; rw [decide_eq_true hm1]; rfl
 refine TW.region ?_
 refine TL.p Pu.as ?_
 refine TL.p Pu.as ?_
 refine TL.nil ?_
 refine TQ.thenN (hY25 _ _ _ ?_)
 refine TW.seqD fun Y27 hY27 => ?_
 refine TW.seqD fun Y28 hY28 => ?_
 refine TW.region ?_
 refine TL.p Pu.mv ?_
 refine TL.p Pu.no ?_
 refine TL.nil ?_
 refine TQ.thenN (hY28 _ _ _ ?_)
 refine TW.condF rfl rfl ?_
 refine TW.skip ?_
 refine TQ.thenN (hY27 _ _ _ ?_)
 refine TW.region ?_
 refine TL.p Pu.mv ?_
 refine TL.p Pu.mv ?_
 refine TL.p (by first | exact Pu.nn | exact Pu.nc) ?_
 refine TL.p (by first | exact Pu.fb ty_fa106_2 | exact Pu.fe ty_fa106_2) ?_
 refine TL.p (Pu.ld ty_sc33) ?_
 refine TL.p Pu.mv ?_
 refine TL.m Mk.bl ?_
 intro b17
 first | refine TL.a0 ty_et33 ?_ | refine TL.ap ty_et33 ?_
 intro A18 c18
 refine TL.p (by first | exact Pu.nn | exact Pu.nc) ?_
 refine TL.p (by first | exact Pu.fb ty_fa106_2 | exact Pu.fe ty_fa106_2) ?_
 first | refine TL.st ty_sz33 ?_ | refine TL.se ty_sz33 ?_
 refine TL.nil ?_
 refine TQ.blkN ?_
 refine TQ.thenN (hY22 _ _ _ ?_)
 refine TW.region ?_
 first
  | (generalize A18 = AN; generalize c18 = cN)
  | (generalize A20 = AN; generalize c20 = cN)
 refine TL.p Pu.ad ?_
 refine TL.p Pu.mv ?_
 refine TL.nil ?_
 refine TQ.thenN (hZ1 (i + 1) AN cN _ _ ?_ ?_ fs9 ?_)
 refine ⟨by omega, fun j hj => ?_⟩
 by_cases e : j = i
 subst e; exact hg2
 exact h2 j (by omega)
 exact zom9
 exact KSub.cons pk9 (KSub.cons pk9 (KSub.own pk9 (fun j hj => cat_rows (r := fun j => [Value.int .i64 (moH H j)]) (by first | (rw [hmo]; done) | (rw [hmo]; rfl) | rw [hmo, if_pos hc5]) hj) (KSub.cons pk9 (KSub.cons pk9 (KSub.cons pk9 (KSub.cons pk9 KSub.nil))))))
 try simp only [zcb9] at hc4
 have hm1 : H.mo i ≠ -1 := hc4
 refine TW.skip ?_
 refine TQ.thenN (hY25 _ _ _ ?_)
 refine TW.seqD fun Y29 hY29 => ?_
 refine TW.seqD fun Y30 hY30 => ?_
 refine TW.region ?_
 refine TL.p Pu.mv ?_
 refine TL.p Pu.no ?_
 refine TL.nil ?_
 refine TQ.thenN (hY30 _ _ _ ?_)
 refine TW.cond rfl (fun hc5 => ?_) (fun hc5 => ?_)
 try simp only [zcb9] at hc5
 have hno : herdB H = false := herd_no2 hin (by unfold an2B; rw [decide_eq_false hm1, decide_eq_false (show ¬ 0 ≤ atH H (H.mo i) by omega)]; rfl)
 refine TW.seqD fun Y31 hY31 => ?_
 refine TW.region ?_
 first | refine TL.st ty_sz100 ?_ | refine TL.se ty_sz100 ?_
 first | refine TL.st ty_sz34 ?_ | refine TL.se ty_sz34 ?_
 refine TL.nil ?_
 refine TQ.thenN (hY31 _ _ _ ?_)
 refine TW.ret ?_
 refine TQ.thenR ?_
 refine TQ.blkR ?_
 refine TQ.thenR ?_
 refine TQ.thenR ?_
 refine TQ.blkR ?_
 refine TQ.thenR ?_
 refine TQ.retM0 Tryz.results71 ((RV.c1 ty_sc100 (RV.c1 ty_sc34 .nil))) ?_
 exact fun w hw => ⟨((0, 0), (none, 0), (none, 0)), by show Ending.returned _ = Ending.returned (if herdB H = true then _ else _); rw [hno]; rfl, by show Sat _ _ (if herdB H = true then _ else _) _; rw [hno]; exact hw.sub KSub.nil⟩
 try simp only [zcb9] at hc5
 have hmo : moH H i = (if 0 ≤ atH H (H.mo i) then atH H (H.mo i) else 0) := by unfold moH; rw [if_neg hm1, if_pos hc5]
 have hg2 : an2B H i = true := by unfold an2B; rw [decide_eq_true hc5, Bool.or_true]
 refine TW.skip ?_
 refine TQ.thenN (hY29 _ _ _ ?_)
 refine TW.region ?_
 refine TL.p Pu.mv ?_
 refine TL.p Pu.mv ?_
 refine TL.p (by first | exact Pu.nn | exact Pu.nc) ?_
 refine TL.p (by first | exact Pu.fb ty_fa106_2 | exact Pu.fe ty_fa106_2) ?_
 refine TL.p (Pu.ld ty_sc33) ?_
 refine TL.p Pu.mv ?_
 refine TL.m Mk.bl ?_
 intro b19
 first | refine TL.a0 ty_et33 ?_ | refine TL.ap ty_et33 ?_
 intro A20 c20
 refine TL.p (by first | exact Pu.nn | exact Pu.nc) ?_
 refine TL.p (by first | exact Pu.fb ty_fa106_2 | exact Pu.fe ty_fa106_2) ?_
 first | refine TL.st ty_sz33 ?_ | refine TL.se ty_sz33 ?_
 refine TL.nil ?_
 refine TQ.blkN ?_
 refine TQ.thenN (hY22 _ _ _ ?_)
 refine TW.region ?_
 first
  | (generalize A18 = AN; generalize c18 = cN)
  | (generalize A20 = AN; generalize c20 = cN)
 refine TL.p Pu.ad ?_
 refine TL.p Pu.mv ?_
 refine TL.nil ?_
 refine TQ.thenN (hZ1 (i + 1) AN cN _ _ ?_ ?_ fs9 ?_)
 refine ⟨by omega, fun j hj => ?_⟩
 by_cases e : j = i
 subst e; exact hg2
 exact h2 j (by omega)
 exact zom9
 exact KSub.cons pk9 (KSub.cons pk9 (KSub.own pk9 (fun j hj => cat_rows (r := fun j => [Value.int .i64 (moH H j)]) (by first | (rw [hmo]; done) | (rw [hmo]; rfl) | rw [hmo, if_pos hc5]) hj) (KSub.cons pk9 (KSub.cons pk9 (KSub.cons pk9 (KSub.cons pk9 KSub.nil))))))
 try simp only [zcb9] at hc3
 obtain rfl : i = H.n := by omega
 refine TW.exit ?_
 refine TQ.thenX ?_
 refine TQ.thenX ?_
 refine TQ.blkX ?_
 refine TQ.thenN (hY18 _ _ _ ?_)
 refine TW.seqD fun Y32 hY32 => ?_
 refine TW.rebaseK [.blk b1 22 [.slice A H.n cp], .blk b2 100 [.pointer none], .blk b3 34 [.int .i64 0]] (opK H A cp ((b5, b4), (Am, cm), (Ak, ck))) (by unfold opK; (repeat (first | exact KSub.nil | refine KSub.cons pk9 ?_))) fun w1 hw1 => ?_
 have hoB : OldB w1 b5 [.slice A H.n cp, .map (some b4), .slice Am H.n cm, .slice Ak H.n ck] := OldB.of_blk (hw1.holds (.blk b5 106 [.slice A H.n cp, .map (some b4), .slice Am H.n cm, .slice Ak H.n ck]) (by simp [opK]))
 have hSb := hw1.apartB (b := b5) (t := 106) (cs := [.slice A H.n cp, .map (some b4), .slice Am H.n cm, .slice Ak H.n ck]) (by simp [opK])
 have hoM : RdR w1 1 Am H.n (fun j => [.int .i64 (moH H j)]) := OwnR.rdr (hw1.holds (.own Am H.n cm 3 1 (fun j => [.int .i64 (moH H j)])) (by simp [opK]))
 have hSm := hw1.apartO (A := Am) (n := H.n) (c := cm) (E := 3) (sz := 1) (r := fun j => [.int .i64 (moH H j)]) (by simp [opK])
 refine TW.seqD fun Y33 hY33 => ?_
 refine TW.region ?_
 refine TL.p (Pu.ld ty_sc22) ?_
 refine TL.p (Pu.ln Tryz.underlying22) ?_
 refine TL.p Pu.mv ?_
 refine TL.nil ?_
 refine TQ.thenN (hY33 _ _ _ ?_)
 refine TW.block ?_
 refine TW.loopM1 (fun (i : Nat) => [(117, .int .i64 (i : Int)), (116, .int .i64 (H.n : Int)), (4, .pointer (some ⟨b5, 0, none⟩)), (1, .pointer (some ⟨b1, 0, none⟩)), (2, .pointer (some ⟨b2, 0, none⟩)), (3, .pointer (some ⟨b3, 0, none⟩))]) (fun i Ds => .blk b1 22 [.slice A H.n cp] :: .blk b2 100 [.pointer none] :: .blk b3 34 [.int .i64 0] :: defK Ds) (fun i => i ≤ H.n ∧ ∀ j, j < i → endB H j = true) (fun i => H.n - i) 0 ([]) fs9 ?_ ?_ ?_
 exact KSub.refl _
 exact ⟨Nat.zero_le _, fun j hj => by omega⟩
 rintro i ⟨hi, h3⟩ Ds Z2 hZ2
 refine TW.seqD fun Y34 hY34 => ?_
 refine TW.region ?_
 refine TL.p Pu.lt ?_
 refine TL.nil ?_
 refine TQ.thenN (hY34 _ _ _ ?_)
 refine TW.seqD fun Y35 hY35 => ?_
 refine TW.cond rfl (fun hc6 => ?_) (fun hc6 => ?_)
 try simp only [zcb9] at hc6
 have hin : i < H.n := by omega
 obtain ⟨N, hN⟩ : ∃ N, N = if endB H i = true then depH (moH H) H.n i else H.n + 1 := ⟨_, rfl⟩
 have hNl : N ≤ H.n + 1 := by
  rw [hN]
  split
  exact Nat.le_succ_of_le dep_le
  exact Nat.le_refl _
 refine TW.skip ?_
 refine TQ.thenN (hY35 _ _ _ ?_)
 refine TW.seqD fun Y36 hY36 => ?_
 refine TW.block ?_
 refine TW.seqD fun Y37 hY37 => ?_
 refine TW.region ?_
 refine TL.p Pu.mv ?_
 refine TL.p Pu.as ?_
 refine TL.nil ?_
 refine TQ.thenN (hY37 _ _ _ ?_)
 refine TW.seqD fun Y38 hY38 => ?_
 refine TW.region ?_
 refine TL.m (Mk.al ty_zr3) ?_
 intro b21
 first | refine TL.st ty_sz3 ?_ | refine TL.se ty_sz3 ?_
 refine TL.nil ?_
 refine TQ.thenN (hY38 _ _ _ ?_)
 refine TW.seqD fun Y39 hY39 => ?_
 refine TW.region ?_
 refine TL.p Pu.mv ?_
 refine TL.p Pu.mv ?_
 refine TL.call (M := []) rfl (enters Tryz.func96 rfl rfl) (List.Perm.refl _) rfl (fun w hw => by
   exact line_any) ?_
 rintro ⟨bi, bp⟩
 refine TL.nil ?_
 refine TQ.thenN (hY39 _ _ _ ?_)
 refine TW.block ?_
 have hNN : (N = depH (moH H) H.n i ∧ upH (moH H) i H.n < 0) ∨ (0 ≤ upH (moH H) i H.n ∧ ∀ (G : List Fact) (S : List Nat) (W : World) (X : List Fact) (x y : Fact) (w : World), ¬ Sat S W (X ++ (x :: y :: (if N ≤ H.n then G else [badF]))) w) := by
  by_cases hE : endB H i = true
  rw [if_pos hE] at hN
  unfold endB at hE
  exact .inl ⟨hN, of_decide_eq_true hE⟩
  rw [if_neg hE] at hN
  unfold endB at hE
  refine .inr ⟨by simpa using hE, fun G S W X x y w hs => no_bad hs ?_⟩
  rw [hN, if_neg (by omega)]
  simp
 refine TW.rangeR (fun (q : Nat) (_ : Unit) => if q ≤ H.n then .blk b21 3 [.int .i64 (q : Int)] :: .blk b1 22 [.slice A H.n cp] :: .blk b2 100 [.pointer none] :: .blk b3 34 [.int .i64 0] :: defK Ds else [badF]) (fun _ : { _u : Unit // endB H i = false } => Code.ret) (fun _ => .blk b2 100 [.pointer none] :: .blk b3 34 [.int .i64 20] :: defK Ds) (()) (fun x y => line1_iter (N := N) (bi := bi) (bp := bp) (i := i) hoB hSb hoM hSm moH_Mo hin (hNN.imp_right fun h => ⟨h.1, fun X r w => h.2 _ _ _ _ _ _ _⟩)) ?_ ?_ ?_ ?_ (eg := enters Tryz.func119 rfl rfl)
 show KSub _ (linM bi bp b5 i ++ (if (0 : Nat) ≤ H.n then _ else _))
 rw [if_pos (Nat.zero_le _)]
 exact KSub.cons pk9 (KSub.cons pk9 (KSub.cons pk9 (KSub.cons pk9 (KSub.cons pk9 (KSub.cons pk9 (KSub.refl _))))))
 rintro lR DR oR oR1 oR2 q g r hq ZR0 hZR0
 have hqn : q ≤ H.n := by omega
 simp only [if_pos hqn, linM, List.cons_append, List.nil_append]
 refine TWi.skip ?_
 refine TQ.thenN (hZR0 _ _ _ Pick.hd ?_)
 refine TWi.block ?_
 refine TWi.seq fun Y40 hY40 => ?_
 refine TWi.region ?_
 refine TL.p (Pu.ld ty_sc3) ?_
 refine TL.p Pu.ad ?_
 first | refine TL.st ty_sz3 ?_ | refine TL.se ty_sz3 ?_
 refine TL.nil (TQ.thenN (hY40 _ _ ?_))
 refine TWi.seq fun Y41 hY41 => ?_
 refine TWi.region ?_
 refine TL.p (Pu.ld ty_sc3) ?_
 refine TL.p (Pu.ld ty_sc22) ?_
 refine TL.p (Pu.ln Tryz.underlying22) ?_
 refine TL.p Pu.gt ?_
 refine TL.nil (TQ.thenN (hY41 _ _ ?_))
 refine TWi.cond rfl (fun hc7 => ?_) (fun hc7 => ?_)
 try simp only [zcb9] at hc7
 have hE : endB H i = false := by
  cases h : endB H i with
  | false => rfl
  | true =>
   rw [if_pos h] at hN
   have := dep_le (f := moH H) (n := H.n) (i := i)
   omega
 refine TWi.seq fun Y42 hY42 => ?_
 refine TWi.region ?_
 first | refine TL.st ty_sz100 ?_ | refine TL.se ty_sz100 ?_
 first | refine TL.st ty_sz34 ?_ | refine TL.se ty_sz34 ?_
 refine TL.nil (TQ.thenN (hY42 _ _ ?_))
 refine TWi.ret ?_
 refine TQ.blkR ?_
 refine TQ.rbR (⟨(), hE⟩) rfl ?_
 simp only [linM, List.cons_append, List.nil_append]
 exact KSub.cons pk9 (KSub.cons pk9 (KSub.cons pk9 (KSub.cons pk9 (KSub.cons pk9 (KSub.cons pk9 (KSub.drop (KSub.drop (KSub.refl _))))))))
 try simp only [zcb9] at hc7
 have hqn1 : q + 1 ≤ H.n := by omega
 refine TWi.skip ?_
 refine TQ.blkN ?_
 refine TQ.rbN (()) ?_
 simp only [if_pos hqn1, linM, List.cons_append, List.nil_append]
 exact KSub.cons pk9 (KSub.cons pk9 (KSub.cons pk9 (KSub.cons pk9 (KSub.valI pk9 (by omega) (KSub.cons pk9 (KSub.cons pk9 (KSub.cons pk9 (KSub.refl _))))))))
 rintro DR r
 by_cases hE : endB H i = true
 case neg => exact fun a w hF hK => (no_bad hK (by rw [hN, if_neg hE, if_neg (by omega)]; simp)).elim
 have hNd : N ≤ H.n := by rw [hN, if_pos hE]; exact dep_le
 simp only [if_pos hNd, List.nil_append]
 refine TQ.blkN ?_
 refine TQ.blkN ?_
 refine TQ.thenN (hY36 _ _ _ ?_)
 refine TW.region ?_
 refine TL.p Pu.ad ?_
 refine TL.p Pu.mv ?_
 refine TL.nil ?_
 refine TQ.thenN (hZ2 (i + 1) (DR :: Ds) _ _ ?_ ?_ fs9 ?_)
 refine ⟨by omega, fun j hj => ?_⟩
 by_cases e : j = i
 subst e; exact hE
 exact h3 j (by omega)
 exact zom9
 exact KSub.cons pk9 (KSub.cons pk9 (KSub.cons pk9 (KSub.cons pk9 (KSub.drop (KSub.refl _)))))
 rintro DR ⟨_, hE⟩
 have hno := herd_no3 hin hE
 refine TW.ret ?_
 refine TQ.blkR ?_
 refine TQ.blkR ?_
 refine TQ.thenR ?_
 refine TQ.thenR ?_
 refine TQ.blkR ?_
 refine TQ.thenR ?_
 refine TQ.retMs (DR :: Ds) ([.blk b2 100 [.pointer none], .blk b3 34 [.int .i64 20]]) Tryz.results71 ?_ ((RV.c1 ty_sc100 (RV.c1 ty_sc34 .nil))) ?_
 simp only [defK, List.map_nil, List.map_cons, List.nil_append, List.cons_append]
 exact kt9
 exact fun w hw => ⟨((0, 0), (none, 0), (none, 0)), by show Ending.returned _ = Ending.returned (if herdB H = true then _ else _); rw [hno]; rfl, by show Sat _ _ (if herdB H = true then _ else _) _; rw [hno]; exact Sat.nil (hw1.step hw).chg⟩
 try simp only [zcb9] at hc6
 obtain rfl : i = H.n := by omega
 refine TW.exit ?_
 refine TQ.thenX ?_
 refine TQ.thenX ?_
 refine TQ.blkX ?_
 refine TQ.thenN (hY32 _ _ _ ?_)
 refine TW.seqD fun Y43 hY43 => ?_
 refine TW.region ?_
 refine TL.p Pu.mv ?_
 first | refine TL.st ty_sz100 ?_ | refine TL.se ty_sz100 ?_
 first | refine TL.st ty_sz34 ?_ | refine TL.se ty_sz34 ?_
 refine TL.nil ?_
 refine TQ.thenN (hY43 _ _ _ ?_)
 refine TW.ret ?_
 refine TQ.retMs (Ds) ([.blk b2 100 [.pointer (some ⟨b5, 0, none⟩)], .blk b3 34 [.int .i64 0]]) Tryz.results71 ?_ ((RV.c1 ty_sc100 (RV.c1 ty_sc34 .nil))) ?_
 simp only [defK, List.map_nil, List.map_cons, List.nil_append, List.cons_append]
 exact kt9
 have hyes := herd_yes (by omega) h1 h2 h3
 exact fun w hw => ⟨((b5, b4), (Am, cm), (Ak, ck)), by show Ending.returned _ = Ending.returned (if herdB H = true then _ else _); rw [hyes]; rfl, by show Sat _ _ (if herdB H = true then _ else _) _; rw [hyes]; exact (hw1.step hw).sub (KSub.drop (KSub.drop (KSub.refl _)))⟩
end Go.Proofs.YtceokmaddbdnfaaGreat
namespace Go.Proofs.YtceokmaddbdnfaaGreat
set_option linter.all false
set_option linter.unusedVariables false
set_option linter.unusedSimpArgs false
open Go.ChangeShapes Go.WideShapes Go.RowKit Go.Deep
section
variable {H : Type} {enc : TypeId × Value → H} {P : Program} {w : World} {base : Nat} {spare : Nat → Bool} {held : Bool}
def kindsL (P : Program) (g : TypeId → Option (List IntKind)) : List Field → Nat → Option (List IntKind)
  | [], _ => some []
  | f :: fs, off => match g f.type with
    | some a => if f.offset = off ∧ a.length = P.cellsOf f.type then match kindsL P g fs (off + a.length) with
      | some b => some (a ++ b)
      | none => none
      else none
    | none => none
def kindsF (P : Program) : Nat → TypeId → Option (List IntKind)
  | 0, _ => none
  | d + 1, t => match P.underlying t with
    | some (.int k) => some [k]
    | some (.struct fs) => match kindsL P (kindsF P d) fs.toList 0 with
      | some a => if a.length = P.cellsOf t then some a else none
      | none => none
    | _ => none
def ints (ks : List IntKind) (ns : List Int) : List Value := List.zipWith Value.int ks ns
theorem ints_append {a b : List IntKind} {x y : List Int} (h : x.length = a.length) : ints (a ++ b) (x ++ y) = ints a x ++ ints b y := by
 unfold ints; rw [List.zipWith_append h.symm]
theorem ints_length {a : List IntKind} {x : List Int} (h : x.length = a.length) : (ints a x).length = a.length := by simp [ints, h]
theorem kindsL_spec {g : TypeId → Option (List IntKind)} (hg : ∀ t ks, g t = some ks → ∀ fuel cs x, DataW.trod enc P w base spare held fuel t cs = some x → ∃ ns : List Int, cs = ints ks ns ∧ ns.length = ks.length) :
  ∀ (fs : List Field) (off : Nat) (ks : List IntKind) (cs : List Value), kindsL P g fs off = some ks → cs.length = off + ks.length →
   (∀ f ∈ fs, ∃ n x, DataW.trod enc P w base spare held n f.type ((cs.drop f.offset).take (P.cellsOf f.type)) = some x) → ∃ ns : List Int, cs.drop off = ints ks ns ∧ ns.length = ks.length
 | [], off, ks, cs, h, hl, _ => by cases h; exact ⟨[], by simp at hl; simp [ints, hl], rfl⟩
 | f :: fs, off, ks, cs, h, hl, hf => by
  simp only [kindsL] at h
  cases h1 : g f.type with
  | none => rw [h1] at h; cases h
  | some a =>
   rw [h1] at h
   simp only at h
   split at h
   · rename_i h2
     obtain ⟨h2, h3⟩ := h2
     cases h4 : kindsL P g fs (off + a.length) with
     | none => rw [h4] at h; cases h
     | some b =>
      rw [h4] at h
      cases h
      obtain ⟨n, x, hx⟩ := hf f (by simp)
      rw [h2, ← h3] at hx
      obtain ⟨ns, e1, e2⟩ := hg _ _ h1 _ _ _ hx
      obtain ⟨ms, e3, e4⟩ := kindsL_spec hg fs (off + a.length) b cs h4 (by rw [hl]; simp; omega) (fun f' hf' => hf f' (by simp [hf']))
      refine ⟨ns ++ ms, ?_, by simp [e2, e4]⟩
      rw [ints_append e2, ← e1, ← e3, ← List.drop_drop, List.take_append_drop]
   · cases h
theorem kindsF_spec : ∀ (d : Nat) (t : TypeId) (ks : List IntKind), kindsF P d t = some ks → ∀ fuel cs x, DataW.trod enc P w base spare held fuel t cs = some x → ∃ ns : List Int, cs = ints ks ns ∧ ns.length = ks.length
  | 0, _, _, h, _, _, _, _ => by cases h
  | d + 1, t, ks, h, fuel, cs, x, hx => by
    simp only [kindsF] at h
    cases hu : P.underlying t with
    | none => rw [hu] at h; cases h
    | some desc =>
      rw [hu] at h
      match desc, hu, h with
      | .int k, hu, h =>
        injection h with h
        subst h
        obtain ⟨n, rfl, _, _⟩ := DataW.trod_int hu hx
        exact ⟨[n], rfl, rfl⟩
      | .struct fs, hu, h =>
        simp only at h
        cases h1 : kindsL P (kindsF P d) fs.toList 0 with
        | none => rw [h1] at h; cases h
        | some a =>
          rw [h1] at h
          simp only at h
          split at h
          · rename_i h2
            cases h
            obtain ⟨xs, n, _, _, hlen, hxl, hf⟩ := DataW.trod_struct hu hx
            obtain ⟨ns, e1, e2⟩ := kindsL_spec (kindsF_spec d) fs.toList 0 _ cs h1 (by omega) (fun f hf' => by
              obtain ⟨i, hi, rfl⟩ := List.getElem_of_mem hf'
              have hi' : i < fs.size := by simpa using hi
              have := hf i fs[i] (by simp [hi'])
              rw [List.getElem?_eq_getElem (by omega)] at this
              exact ⟨n, _, this⟩)
            exact ⟨ns, by simpa using e1, e2⟩
          · cases h
theorem open_flat_slice {t e : TypeId} {fuel : Nat} {cs : List Value} {x : DataW H × List MemPlace} (d : Nat) {ks : List IntKind} (ht : P.underlying t = some (.slice e)) (hk : kindsF P d e = some ks) (hC : P.cellsOf e = ks.length) (h0 : Nat.blt 0 ks.length = true) (h : DataW.trod enc P w base spare held fuel t cs = some x) :
    ∃ (A : Option Addr) (len cap : Nat) (g : Nat → List Int), cs = [.slice A len cap] ∧ (∀ i, i < len → (g i).length = ks.length) ∧ RdR w ks.length A len (fun i => ints ks (g i)) ∧ (A = none → len = 0 ∧ cap = 0) ∧ len ≤ cap ∧ cap ≤ maxLen := by
  have h0 : 0 < ks.length := Nat.le_of_ble_eq_true h0
  rcases open_slice ht h with ⟨rfl, rfl⟩ | ⟨a, len, cap, m, n, D, Pl, rfl, hb, hl, hm, hmm, _, hi⟩
  · exact ⟨none, 0, 0, fun _ => [], rfl, fun i hi => by omega, ⟨Rd.nil, fun i hi => by omega⟩, fun _ => ⟨rfl, rfl⟩, Nat.le_refl _, Nat.zero_le _⟩
  · have hlm : len ≤ m := by rw [hmm]; split <;> omega
    have key : ∀ i, i < len → ∃ ns : List Int, ns.length = ks.length ∧ ∀ j, j < ks.length → w.cell? (a.add (i * ks.length + j)) = (ints ks ns)[j]? := fun i hil => by
      obtain ⟨cs', hc, hx⟩ := hi i (by omega)
      obtain ⟨_, hcl, hat⟩ := World.cells?_some hc
      obtain ⟨ns, rfl, e2⟩ := kindsF_spec d e ks hk _ _ _ hx
      refine ⟨ns, e2, fun j hj => ?_⟩
      have := hat j (by rw [hC]; exact hj)
      rw [hC] at this
      rw [← this, ← add_add]
    refine ⟨some a, len, cap, fun i => if hi : i < len then (key i hi).choose else [], rfl, fun i hi => ?_, ⟨fun hn => ?_, fun i hi => ?_⟩, fun h => (by cases h), hl, hm⟩
    · simp only [hi, dite_true]; exact (key i hi).choose_spec.1
    · have h1 := (key 0 hn).choose_spec.2 0 h0
      have hsome : (ints ks (key 0 hn).choose)[0]? = some ((ints ks (key 0 hn).choose)[0]'(by rw [ints_length (key 0 hn).choose_spec.1]; exact h0)) := List.getElem?_eq_getElem _
      rw [hsome] at h1
      have hadd : a.add (0 * ks.length + 0) = a := by simp [Addr.add]
      rw [hadd] at h1
      have hsp : a.spot = none := by
        unfold World.cell? at h1
        split at h1
        · cases hs : a.spot with
          | none => rfl
          | some s => simp [hs] at h1
        · cases h1
      have hlt : a.block < w.heap.size := World.block_lt_of_cell? w a h1
      obtain ⟨b, o, s⟩ := a
      simp only at hsp
      subst hsp
      refine ⟨b, o, rfl, hlt, fun i j hi hj => ?_⟩
      have h2 := (key i hi).choose_spec.2 j hj
      rw [add_plain] at h2
      rw [show o + i * ks.length + j = o + (i * ks.length + j) by omega, h2]
      simp only [rowF, hi, dite_true]
      have hl2 : j < (ints ks (key i hi).choose).length := by rw [ints_length (key i hi).choose_spec.1]; exact hj
      rw [List.getElem?_eq_getElem hl2]
      simp [List.getD_eq_getElem?_getD, List.getElem?_eq_getElem hl2]
    · simp only [hi, dite_true]
      exact ints_length (key i hi).choose_spec.1
theorem open_rows {r : Reach} {b0 : Nat} {t e : TypeId} {v : Value} {dd : DataW H} {p : List MemPlace} (d : Nat) (ks : List IntKind) (ht : P.underlying t = some (.slice e)) (hk : kindsF P d e = some ks) (hC : P.cellsOf e = ks.length) (h0 : Nat.blt 0 ks.length = true) (hv : Value.okWide P w r b0 t v) (h : DataW.Trod enc P w base spare held t v dd p) :
  ∃ (A : Option Addr) (len cap : Nat) (g : Nat → List Int), v = .slice A len cap ∧ (∀ i, i < len → (g i).length = ks.length) ∧ RdR w ks.length A len (fun i => ints ks (g i)) ∧ (A = none → len = 0 ∧ cap = 0) ∧ len ≤ cap ∧ cap ≤ maxLen := by
 obtain ⟨a, n, c, rfl⟩ := okWide_slice ht hv
 obtain ⟨fuel, h⟩ := h
 obtain ⟨A, len, cap, g, e, h1⟩ := open_flat_slice d ht hk hC h0 h
 simp only [Value.cells, List.cons.injEq, Value.slice.injEq, and_true] at e
 obtain ⟨rfl, rfl, rfl⟩ := e
 exact ⟨_, _, _, g, rfl, h1⟩
def gi (ns : List Int) (j : Nat) : Int := ns.getD j 0
def rowK : List IntKind → (Nat → Int) → List Value
 | [], _ => []
 | k :: ks, f => .int k (f 0) :: rowK ks fun j => f (j + 1)
theorem ints_rowK : ∀ (ks : List IntKind) (ns : List Int), ns.length = ks.length → ints ks ns = rowK ks (gi ns)
 | [], [], _ => rfl
 | k :: ks, n :: ns, h => by
  show Value.int k n :: ints ks ns = _
  rw [ints_rowK ks ns (by simpa using h)]
  rfl
theorem RdR.rowK {sz n : Nat} {A : Option Addr} {ks : List IntKind} {g : Nat → List Int} (h : RdR w sz A n (fun i => ints ks (g i))) (hl : ∀ i, i < n → (g i).length = ks.length) : RdR w sz A n (fun i => rowK ks (gi (g i))) :=
 ⟨h.rd.congr fun i j hi hj => by simp only [rowF, ints_rowK ks (g i) (hl i hi)], fun i hi => by rw [← ints_rowK ks (g i) (hl i hi)]; exact h.len i hi⟩
theorem trodAll_stays (hl : laidOutB P = true) {W W' : World} (hb : Below W.heap.size W W') {sp' : Nat → Bool} : ∀ {ts : List TypeId} {vs : List Value} {ds : List (DataW H)} {ps : List MemPlace}, ts.all (fun t => P.readableRec t && decide (t < P.types.size)) = true →
  DataW.TrodAll enc P W 0 (fun _ => true) true ts vs ds ps → (∀ p ∈ ps, p.block < W.heap.size) → (∀ p ∈ ps, sp' p.block = true) → DataW.TrodAll enc P W' 0 sp' true ts vs ds ps
 | [], [], [], ps, _, h, _, _ => h
 | t :: ts, v :: vs, d :: ds, ps, ht, h, hlt, hs => by
  simp only [List.all_cons, Bool.and_eq_true, decide_eq_true_eq] at ht
  obtain ⟨p, q, h1, h2, rfl⟩ := h
  exact ⟨p, q, WideElems.Trod_stays hl ht.1.1 ht.1.2 h1 (fun x hx => hb.same (hlt x (by simp [hx]))) (fun x hx => hs x (by simp [hx])), trodAll_stays hl hb ht.2 h2 (fun x hx => hlt x (by simp [hx])) (fun x hx => hs x (by simp [hx])), rfl⟩
theorem law_post {f : Func} {s : ChangeSpec} {apart fresh handsOn again : Bool} {W W' : World} {args : Array Value} {ds : List (DataW H)} {p : List MemPlace} {tb : TypeId} (hl : laidOutB P = true) (hvars : s.vars = [])
   (hW : DataW.Whole enc P f.params.toList s.vars apart W args.toList ds [] p) (hA : DataW.TrodAll enc P W 0 (fun _ => true) true f.params.toList args.toList ds p)
   (ht : f.params.toList.all (fun t => P.readableRec t && decide (t < P.types.size)) = true) (hrt : f.resultTypes = #[tb]) (htb : P.underlying tb = some .bool) (hfn : s.fn H ds = { results := [.lit (.bool true)], args := ds }) (hb : Below W.heap.size W W') :
   s.post enc P f apart fresh handsOn again W args (.bool true) W' := by
 have hlt : ∀ q ∈ p, q.block < W.heap.size := fun q hq => hW.lt q hq
 have hold : ∀ q ∈ p, (fun b => decide (b < W.heap.size)) q.block = true := fun q hq => by simpa using hW.lt q hq
 have hres : ∀ (b : Nat) (sp : Nat → Bool) (hd : Bool), DataW.TrodAll enc P W' b sp hd f.resultTypes.toList ((Value.bool true).resultList f.resultTypes.size) (s.fn H (ds ++ [])).results [] := fun b sp hd => by
   rw [List.append_nil, hfn, hrt]
   exact ⟨[], [], shut_bool htb true, rfl, rfl⟩
 have hargs : ∀ sp : Nat → Bool, (∀ q ∈ p, sp q.block = true) → DataW.TrodAll enc P W' 0 sp true f.params.toList args.toList (s.fn H (ds ++ [])).args p := fun sp hs => by
   rw [List.append_nil, hfn]
   exact trodAll_stays hl hb ht hA (fun q hq => hW.lt q hq) hs
 have hv : ∀ sp : Nat → Bool, DataW.TrodVars enc P W' sp s.vars (s.fn H (ds ++ [])).vars [] := fun sp => by
   rw [List.append_nil, hfn, hvars]; exact rfl
 have hok : ∀ (j : Nat) (t : TypeId) (r : Value), f.resultTypes[j]? = some t → ((Value.bool true).resultList f.resultTypes.size)[j]? = some r → Value.okWide P W' .any 0 t r := ok_one (by rw [hrt]) rfl (okWide_bool_mk htb true)
 refine ⟨ds, [], p, [], p, [], hW, hres _ _ _, hargs _ hold, hv _, World.keptBut_mono (fun q hq => ⟨hq, by simpa using hq⟩) (hb.frame (· ∈ p)), fun _ => ?_⟩
 obtain ⟨_, _, _, _, _, hz, hn⟩ := hW
 refine ⟨hok, _, _, ([] ++ p) ++ [], ⟨[] ++ p, [], trodAll_append (hargs _ (fun _ _ => rfl)) (hres _ _ _), hv _, rfl, ?_, ?_⟩, ?_⟩
 · intro b off hp
   have hin : MemPlace.cell b off ∈ p := by simpa using hp
   rw [hb.frozen (hlt _ hin)]
   exact hz b off hin
 · intro ha
   have := hn ha
   simpa using this
 · intro q hq _
   simpa using hq
end
end Go.Proofs.YtceokmaddbdnfaaGreat
namespace Go.Proofs.YtceokmaddbdnfaaGreat
set_option linter.all false
set_option linter.unusedVariables false
set_option linter.unusedSimpArgs false
open Go.ChangeShapes Go.WideShapes Go.RowKit Go.Deep
section
variable {H : Type} {enc : TypeId × Value → H} {P : Program} {w : World} {base : Nat} {spare : Nat → Bool} {held : Bool}
theorem open_slice_any {t e : TypeId} {fuel : Nat} {cs : List Value} {x : DataW H × List MemPlace} {sz : Nat} (ht : P.underlying t = some (.slice e)) (hC : P.cellsOf e = sz) (h0 : Nat.blt 0 sz = true) (h : DataW.trod enc P w base spare held fuel t cs = some x) :
    ∃ (A : Option Addr) (len cap : Nat) (G : Nat → List Value), cs = [.slice A len cap] ∧ RdR w sz A len G ∧ (∀ i, i < len → ∃ n y, DataW.trod enc P w base spare held n e (G i) = some y) ∧ (A = none → len = 0 ∧ cap = 0) ∧ len ≤ cap ∧ cap ≤ maxLen := by
  have h0 : 0 < sz := Nat.le_of_ble_eq_true h0
  rcases open_slice ht h with ⟨rfl, rfl⟩ | ⟨a, len, cap, m, n, D, Pl, rfl, hb, hl, hm, hmm, _, hi⟩
  · exact ⟨none, 0, 0, fun _ => [], rfl, ⟨Rd.nil, fun i hi => by omega⟩, fun i hi => by omega, fun _ => ⟨rfl, rfl⟩, Nat.le_refl _, Nat.zero_le _⟩
  · have hlm : len ≤ m := by rw [hmm]; split <;> omega
    have key : ∀ i, i < len → ∃ cs' : List Value, cs'.length = sz ∧ (∀ j, j < sz → w.cell? (a.add (i * sz + j)) = cs'[j]?) ∧ ∃ n y, DataW.trod enc P w base spare held n e cs' = some y := fun i hil => by
      obtain ⟨cs', hc, hx⟩ := hi i (by omega)
      obtain ⟨_, hcl, hat⟩ := World.cells?_some hc
      refine ⟨cs', by rw [hcl, hC], fun j hj => ?_, n, _, hx⟩
      have := hat j (by rw [hC]; exact hj)
      rw [hC] at this
      rw [← this, ← add_add]
    refine ⟨some a, len, cap, fun i => if hi : i < len then (key i hi).choose else [], rfl, ⟨fun hn => ?_, fun i hi => ?_⟩, fun i hi => ?_, fun h => (by cases h), hl, hm⟩
    · have h1 := (key 0 hn).choose_spec.2.1 0 h0
      have hsome : ((key 0 hn).choose)[0]? = some ((key 0 hn).choose[0]'(by rw [(key 0 hn).choose_spec.1]; exact h0)) := List.getElem?_eq_getElem _
      rw [hsome] at h1
      have hadd : a.add (0 * sz + 0) = a := by simp [Addr.add]
      rw [hadd] at h1
      have hsp : a.spot = none := by
        unfold World.cell? at h1
        split at h1
        · cases hs : a.spot with
          | none => rfl
          | some s => simp [hs] at h1
        · cases h1
      have hlt : a.block < w.heap.size := World.block_lt_of_cell? w a h1
      obtain ⟨b, o, s⟩ := a
      simp only at hsp
      subst hsp
      refine ⟨b, o, rfl, hlt, fun i j hi hj => ?_⟩
      have h2 := (key i hi).choose_spec.2.1 j hj
      rw [add_plain] at h2
      rw [show o + i * sz + j = o + (i * sz + j) by omega, h2]
      simp only [rowF, hi, dite_true]
      have hl2 : j < (key i hi).choose.length := by rw [(key i hi).choose_spec.1]; exact hj
      rw [List.getD_eq_getElem?_getD, List.getElem?_eq_getElem hl2]
      rfl
    · simp only [hi, dite_true]
      exact (key i hi).choose_spec.1
    · simp only [hi, dite_true]
      exact (key i hi).choose_spec.2.2
theorem trod_fields {t : TypeId} {fs : Array Field} {fuel : Nat} {cs : List Value} {x : DataW H × List MemPlace} (ht : P.underlying t = some (.struct fs)) (h : DataW.trod enc P w base spare held fuel t cs = some x) :
  cs.length = P.cellsOf t ∧ ∀ (i : Nat) (f : Field), fs[i]? = some f → ∃ n y, DataW.trod enc P w base spare held n f.type ((cs.drop f.offset).take (P.cellsOf f.type)) = some y := by
 obtain ⟨xs, n, _, _, hlen, hxl, hf⟩ := DataW.trod_struct ht h
 refine ⟨hlen, fun i f hi => ?_⟩
 have h1 := hf i f hi
 have hi' : i < fs.size := (Array.getElem?_eq_some_iff.1 hi).1
 rw [List.getElem?_eq_getElem (by omega)] at h1
 exact ⟨n, _, h1⟩
theorem trodAll_five {t0 t1 t2 t3 t4 : TypeId} {args : Array Value} {ds : List (DataW H)} {ps : List MemPlace} (h : DataW.TrodAll enc P w base spare held [t0, t1, t2, t3, t4] args.toList ds ps) :
  ∃ v0 v1 v2 v3 v4 d0 d1 d2 d3 d4 p0 p1 p2 p3 p4, args = #[v0, v1, v2, v3, v4] ∧ ds = [d0, d1, d2, d3, d4] ∧ ps = p0 ++ (p1 ++ (p2 ++ (p3 ++ p4))) ∧ DataW.Trod enc P w base spare held t0 v0 d0 p0 ∧ DataW.Trod enc P w base spare held t1 v1 d1 p1 ∧ DataW.Trod enc P w base spare held t2 v2 d2 p2 ∧ DataW.Trod enc P w base spare held t3 v3 d3 p3 ∧ DataW.Trod enc P w base spare held t4 v4 d4 p4 := by
 obtain ⟨v0, vs0, d0, ds0, p0, q0, hargs, rfl, rfl, h0, hr0⟩ := trodAll_cons h
 obtain ⟨v1, vs1, d1, ds1, p1, q1, rfl, rfl, rfl, h1, hr1⟩ := trodAll_cons hr0
 obtain ⟨v2, vs2, d2, ds2, p2, q2, rfl, rfl, rfl, h2, hr2⟩ := trodAll_cons hr1
 obtain ⟨v3, vs3, d3, ds3, p3, q3, rfl, rfl, rfl, h3, hr3⟩ := trodAll_cons hr2
 obtain ⟨v4, vs4, d4, ds4, p4, q4, rfl, rfl, rfl, h4, hr4⟩ := trodAll_cons hr3
 obtain ⟨rfl, rfl, rfl⟩ := trodAll_nil hr4
 exact ⟨v0, v1, v2, v3, v4, d0, d1, d2, d3, d4, p0, p1, p2, p3, p4, by cases args; simp_all, rfl, by simp, h0, h1, h2, h3, h4⟩
end
end Go.Proofs.YtceokmaddbdnfaaGreat
namespace Go.Proofs.YtceokmaddbdnfaaGreat
set_option linter.all false
set_option linter.unusedVariables false
set_option linter.unusedSimpArgs false
open Go.ChangeShapes Go.WideShapes Go.ChangeAt Go.RowKit Go.Deep
section
variable {H : Type} {enc : TypeId × Value → H} {w : World} {base : Nat} {spare : Nat → Bool} {held : Bool}
structure AnP where
 id : Int
 mo : Int
 lo : Int
 hi : Int
 A : Option Addr
 n : Nat
 c : Nat
 g : Nat → Nat → Int
def anpL (x : AnP) : List Value := [.int .i64 x.id, .int .i64 x.mo, .int .i64 x.lo, .int .i64 x.hi, .slice x.A x.n x.c]
set_option maxRecDepth 100000 in
theorem animal_of_trod {fuel : Nat} {G : List Value} {y : DataW H × List MemPlace} (hl : G.length = 5) (hy : DataW.trod enc Tryz.prog w base spare held fuel 65 G = some y) :
    ∃ x : AnP, G = anpL x ∧ RdR w 2 x.A x.n (fun k => spL (x.g k 0) (x.g k 1)) := by
  obtain ⟨_, hf⟩ := trod_fields Tryz.underlying65 hy
  obtain ⟨n0, y0, h0⟩ := hf 0 _ rfl
  obtain ⟨n1, y1, h1⟩ := hf 1 _ rfl
  obtain ⟨n2, y2, h2⟩ := hf 2 _ rfl
  obtain ⟨n3, y3, h3⟩ := hf 3 _ rfl
  obtain ⟨k0, e0, _, _⟩ := DataW.trod_int Tryz.underlying3 h0
  obtain ⟨k1, e1, _, _⟩ := DataW.trod_int Tryz.underlying3 h1
  obtain ⟨s2, e2, l2⟩ := kindsF_spec 2 25 [.i64, .i64] (by kernel_rfl) _ _ _ h2
  obtain ⟨A, n, c, gg, e3, hg, hR, _⟩ := open_flat_slice (ks := [.i64, .i64]) 3 Tryz.underlying63 (by kernel_rfl) (by kernel_rfl) rfl h3
  have hc1 : Tryz.prog.cellsOf 3 = 1 := by kernel_rfl
  have hc2 : Tryz.prog.cellsOf 25 = 2 := by kernel_rfl
  have hc3 : Tryz.prog.cellsOf 63 = 1 := by kernel_rfl
  match s2, l2 with
  | [a0, a1], _ =>
    match G, hl with
    | [x0, x1, x2, x3, x4], _ =>
      have e0 : [x0] = [.int .i64 k0] := by simpa [hc1] using e0
      have e1 : [x1] = [.int .i64 k1] := by simpa [hc1] using e1
      have e2 : [x2, x3] = [.int .i64 a0, .int .i64 a1] := by simpa [hc2, ints] using e2
      have e3 : [x4] = [.slice A n c] := by simpa [hc3] using e3
      cases e0; cases e1; cases e2; cases e3
      exact ⟨⟨k0, k1, a0, a1, A, n, c, fun j => gi (gg j)⟩, rfl, hR.rowK hg⟩
theorem rows_choose {α : Type} {n sz : Nat} {A : Option Addr} {G : Nat → List Value} {F : α → List Value} {q : Nat → α → Prop} (d : α) (hR : RdR w sz A n G) (h : ∀ i, i < n → ∃ x, G i = F x ∧ q i x) : ∃ r : Nat → α, RdR w sz A n (fun i => F (r i)) ∧ ∀ i, i < n → q i (r i) := by
 have hch : ∀ i, ∃ x, i < n → G i = F x ∧ q i x := fun i => by
  by_cases hi : i < n
  · obtain ⟨x, hx⟩ := h i hi
    exact ⟨x, fun _ => hx⟩
  · exact ⟨d, fun h => absurd h hi⟩
 obtain ⟨r, hr⟩ := Classical.axiomOfChoice hch
 exact ⟨r, ⟨hR.rd.congr fun i j hi hj => by simp only [rowF, (hr i hi).1], fun i hi => by rw [← (hr i hi).1]; exact hR.len i hi⟩, fun i hi => (hr i hi).2⟩
set_option maxRecDepth 100000 in
theorem open_herd {r : Reach} {b0 : Nat} {v : Value} {dd : DataW H} {p : List MemPlace} (hv : Value.okWide Tryz.prog w r b0 22 v) (h : DataW.Trod enc Tryz.prog w base spare held 22 v dd p) :
  ∃ (A : Option Addr) (cp : Nat) (K : Hd) (a : Nat → Option Addr) (c : Nat → Nat), v = .slice A K.n cp ∧ RdR w 5 A K.n (fun i => anL K a c i) ∧ ∀ i, i < K.n → RdR w 2 (a i) (K.ml i) (fun k => spL (K.sp i k) (K.sg i k)) := by
 obtain ⟨A0, n0, c0, rfl⟩ := okWide_slice Tryz.underlying22 hv
 obtain ⟨fuel, h⟩ := h
 obtain ⟨A, m, cp, G, e, hR, hel, _, hc, _⟩ := open_slice_any (sz := 5) Tryz.underlying22 (by kernel_rfl) rfl h
 simp only [Value.cells, List.cons.injEq, Value.slice.injEq, and_true] at e
 obtain ⟨rfl, rfl, rfl⟩ := e
 obtain ⟨x, hx, hq⟩ := rows_choose (F := anpL) (q := fun _ x => RdR w 2 x.A x.n (fun k => spL (x.g k 0) (x.g k 1))) ⟨0, 0, 0, 0, none, 0, 0, fun _ _ => 0⟩ hR (fun i hi => by
  obtain ⟨n, y, hy⟩ := hel i hi
  exact animal_of_trod (hR.len i hi) hy)
 exact ⟨A0, c0, ⟨n0, fun i => (x i).id, fun i => (x i).mo, fun i => (x i).lo, fun i => (x i).hi, fun i => (x i).n, fun i k => (x i).g k 0, fun i k => (x i).g k 1⟩, fun i => (x i).A, fun i => (x i).c, rfl, hx, hq⟩
end
end Go.Proofs.YtceokmaddbdnfaaGreat
