/-
  Part 10 of the proof of alive_any,ready2_any,has2_any,choose2_any,inside2_any,place2_any,lw_names,lw_fits,lw_has,open_herd,open_looksB,open_calves,open_u8b,open_u32sB,open_u32b,law_post,TW.meet,TL.unb,TW.ocap,rLooks2_any,bBirths_any,rSign_any,lks_in: declarations of several texts, in build order. No condition on a program.
-/
import Derived.Test.YtbenhafhklfhmaaGreatAl09
import Derived.Test.YtbenhafhklfhmaaGreatAl02
import Derived.Test.YtbenhafhklfhmaaGreatAl06
import Derived.Test.YtbenhafhklfhmaaGreatAl08
namespace Go.Proofs.YtbenhafhklfhmaaGreat
set_option linter.all false
set_option linter.unusedVariables false
set_option linter.unusedSimpArgs false
open Go.RowKit
theorem indexLook_any {g : FuncId} {fs cs : List Value} {A : Option Addr} {n cp : Nat} {v : Nat → Lk × Option Addr × Nat} {p : Nat → Bool} {M : Nat → List Fact} {w : World} (hen : Enters Tryz.prog g) (hn : n ≤ 9223372036854775807)
  (hR : RdR w 4 A n (fun k => lkL (v k).1 (v k).2.1 (v k).2.2)) (hA : 0 < n → Apart (feet (M 0)) A) (hM : Sat (feet (M 0)) w (M 0) w) (hfe : ∀ k, feet (M k) = feet (M 0))
  (hg : ∀ k, k < n → (∀ j, j < k → p j = false) → ∀ w', Sat (feet (M 0)) w (M k) w' → CallsK Tryz.prog g (fs ++ [Value.agg (lkL (v k).1 (v k).2.1 (v k).2.2).toArray] ++ cs).toArray (M k) w' Unit (fun _ => .bool (p k)) (fun _ => M (k + 1))) :
  CallsK Tryz.prog 87 #[.slice A n cp, .func (.func g) fs.toArray cs.toArray] (M 0) w (Fst p n) (fun x => .int .i64 (if x.1 < n then (x.1 : Int) else -1)) (fun x => M (aft n x.1)) := by
 refine K_enter (S := feet (M 0)) (K := M 0) Tryz.func87 rfl Tryz.ntmps87 rfl hM ?_
 refine TW.seq fun Y1 hY1 => TW.region ?_
 refine TL.p Pu.as ?_
 refine TL.nil (TQ.thenN (hY1 _ _ ?_))
 refine TW.seq fun Y2 hY2 => ?_
 refine TW.seq fun Y3 hY3 => TW.region ?_
 refine TL.p Pu.mv ?_
 refine TL.p (Pu.ln Tryz.underlying37) ?_
 refine TL.p Pu.mv ?_
 refine TL.nil (TQ.thenN (hY3 _ _ ?_))
 refine TW.block ?_
 refine TW.loop1 (fun (k : Nat) => [(8, .int .i64 (k : Int)), (7, .int .i64 (n : Int)), (0, .slice A n cp), (1, .func (.func g) fs.toArray cs.toArray)]) (fun k => M k) (fun k => k ≤ n ∧ ∀ j, j < k → p j = false) (fun k => n - k) 0 fs9 ?_ ?_ ?_
 exact KSub.refl _
 exact ⟨by omega, fun j hj => by omega⟩
 rintro k ⟨hk, hall⟩ Z0 hZ0
 refine TW.seq fun Y4 hY4 => TW.region ?_
 refine TL.p Pu.lt ?_
 refine TL.nil (TQ.thenN (hY4 _ _ ?_))
 refine TW.seq fun Y5 hY5 => ?_
 refine TW.cond rfl (fun hc0 => ?_) (fun hc0 => ?_)
 try simp only [zcb9] at hc0
 have hkn : k < n := by omega
 have hA := hA (by omega)
 refine TW.skip ?_
 refine TQ.thenN (hY5 _ _ ?_)
 refine TW.seq fun Y6 hY6 => ?_
 refine TW.block ?_
 refine TW.seq fun Y7 hY7 => TW.region ?_
 refine TL.p Pu.mv ?_
 refine TL.p Pu.as ?_
 refine TL.nil (TQ.thenN (hY7 _ _ ?_))
 refine TW.seq fun Y8 hY8 => TW.region ?_
 refine TL.p Pu.mv ?_
 refine TL.p Pu.mv ?_
 refine TL.p Pu.mv ?_
 refine TL.p (Pu.el ty_et37) ?_
 refine TL.p (Pu.lds ty_ag42) ?_
 refine TL.cvk rfl rfl hen (by rw [List.append_nil]) (fun w hw => by
   exact hg k (by omega) hall w hw) ?_
 intro _
 refine TL.nil (TQ.thenN (hY8 _ _ ?_))
 refine TW.cond rfl (fun hc1 => ?_) (fun hc1 => ?_)
 try simp only [zcb9] at hc1
 refine TW.seq fun Y9 hY9 => TW.region ?_
 refine TL.p Pu.mv ?_
 refine TL.p Pu.as ?_
 refine TL.nil (TQ.thenN (hY9 _ _ ?_))
 refine TW.ret ?_
 refine TQ.blkR ?_
 refine TQ.thenR ?_
 refine TQ.thenR ?_
 refine TQ.blkR ?_
 refine TQ.thenR ?_
 refine TQ.ret Tryz.results87 rfl ((.tmp rfl .nil)) ?_
 exact fun w hw => ⟨⟨k, by omega, hall, fun _ => hc1⟩, by simp [hkn]; rfl, by simpa [aft, hkn] using hw⟩
 try simp only [zcb9] at hc1
 refine TW.skip ?_
 refine TQ.blkN ?_
 refine TQ.thenN (hY6 _ _ ?_)
 refine TW.region ?_
 refine TL.p Pu.ad ?_
 refine TL.p Pu.mv ?_
 refine TL.nil ?_
 refine TQ.thenN (hZ0 (k + 1) _ _ ?_ ?_ fs9 ?_)
 refine ⟨by omega, fun j hj => ?_⟩
 by_cases h : j = k
 subst h; exact hc1
 exact hall j (by omega)
 exact zom9
 rw [List.append_nil]; exact KSub.refl _
 try simp only [zcb9] at hc0
 have hkn : k = n := by omega
 refine TW.exit ?_
 refine TQ.thenX ?_
 refine TQ.thenX ?_
 refine TQ.blkX ?_
 refine TQ.thenN (hY2 _ _ ?_)
 refine TW.seq fun Y10 hY10 => TW.region ?_
 refine TL.p Pu.as ?_
 refine TL.nil (TQ.thenN (hY10 _ _ ?_))
 refine TW.ret ?_
 refine TQ.ret Tryz.results87 rfl ((.tmp rfl .nil)) ?_
 exact fun w hw => ⟨⟨k, by omega, hall, fun h => by omega⟩, by simp [hkn]; rfl, by simpa [aft, hkn] using hw⟩
theorem hasLook_st {g : FuncId} {fs cs : List Value} {A : Option Addr} {n cp : Nat} {v : Nat → Lk × Option Addr × Nat} {p : Nat → Bool} {M : Nat → List Fact} {w : World} (hen : Enters Tryz.prog g) (hn : n ≤ 9223372036854775807)
  (hR : RdR w 4 A n (fun k => lkL (v k).1 (v k).2.1 (v k).2.2)) (hA : 0 < n → Apart (feet (M 0)) A) (hM : Sat (feet (M 0)) w (M 0) w) (hfe : ∀ k, feet (M k) = feet (M 0))
  (hg : ∀ k, k < n → (∀ j, j < k → p j = false) → ∀ w', Sat (feet (M 0)) w (M k) w' → CallsK Tryz.prog g (fs ++ [Value.agg (lkL (v k).1 (v k).2.1 (v k).2.2).toArray] ++ cs).toArray (M k) w' Unit (fun _ => .bool (p k)) (fun _ => M (k + 1))) :
  CallsK Tryz.prog 49 #[.slice A n cp, .func (.func g) fs.toArray cs.toArray] (M 0) w (Fst p n) (fun x => .bool (decide (x.1 < n))) (fun x => M (aft n x.1)) := by
 refine K_enter (S := feet (M 0)) (K := M 0) Tryz.func49 rfl Tryz.ntmps49 rfl hM ?_
 refine TW.seq fun Y1 hY1 => TW.region ?_
 refine TL.p Pu.as ?_
 refine TL.nil (TQ.thenN (hY1 _ _ ?_))
 refine TW.seq fun Y2 hY2 => TW.region ?_
 refine TL.p Pu.mv ?_
 refine TL.p Pu.mv ?_
 refine TL.call rfl (enters Tryz.func87 rfl rfl) (by rw [List.append_nil]) rfl (fun w hw => by
   exact indexLook_any hen hn (hR.sat0 hw hA) hA hw.self hfe (fun k hk hp w' hw' => hg k hk hp w' (hw'.from hw.chg fun _ hb => .inl hb))) ?_
 intro x
 refine TL.p Pu.ge ?_
 refine TL.p Pu.as ?_
 refine TL.nil (TQ.thenN (hY2 _ _ ?_))
 refine TW.ret ?_
 refine TQ.ret Tryz.results49 rfl ((.tmp rfl .nil)) ?_
 exact fun w hw => ⟨x, by by_cases h : x.1 < n <;> simp [retV, h], by simpa using hw⟩
theorem hasLook_any {g : FuncId} {fs cs : List Value} {A : Option Addr} {n cp : Nat} {v : Nat → Lk × Option Addr × Nat} {p : Nat → Bool} {w : World} (hen : Enters Tryz.prog g) (hn : n ≤ 9223372036854775807)
  (hR : RdR w 4 A n (fun k => lkL (v k).1 (v k).2.1 (v k).2.2)) (hg : ∀ k, k < n → ∀ w', Below w.heap.size w w' → Calls Tryz.prog g (fs ++ [Value.agg (lkL (v k).1 (v k).2.1 (v k).2.2).toArray] ++ cs).toArray w' (Ret w' (.bool (p k)))) :
  Calls Tryz.prog 49 #[.slice A n cp, .func (.func g) fs.toArray cs.toArray] w (Ret w (.bool (anyB n p))) :=
 CallsK.retOf (hasLook_st (M := fun _ => []) hen hn hR (fun _ => Apart.nil) (Sat.start w) (fun _ => rfl) fun k hk _ w' hw' => CallsK.ret (hg k hk w' (Chg.ext hw'.chg))) fun x => by rw [x.any]; rfl
theorem indexCalf_any {g : FuncId} {fs cs : List Value} {A : Option Addr} {n cp : Nat} {v : Nat → Int × Int} {p : Nat → Bool} {M : Nat → List Fact} {w : World} (hen : Enters Tryz.prog g) (hn : n ≤ 9223372036854775807)
  (hR : RdR w 2 A n (fun k => [.int .i64 (v k).1, .int .i64 (v k).2])) (hA : 0 < n → Apart (feet (M 0)) A) (hM : Sat (feet (M 0)) w (M 0) w) (hfe : ∀ k, feet (M k) = feet (M 0))
  (hg : ∀ k, k < n → (∀ j, j < k → p j = false) → ∀ w', Sat (feet (M 0)) w (M k) w' → CallsK Tryz.prog g (fs ++ [Value.agg #[.int .i64 (v k).1, .int .i64 (v k).2]] ++ cs).toArray (M k) w' Unit (fun _ => .bool (p k)) (fun _ => M (k + 1))) :
  CallsK Tryz.prog 90 #[.slice A n cp, .func (.func g) fs.toArray cs.toArray] (M 0) w (Fst p n) (fun x => .int .i64 (if x.1 < n then (x.1 : Int) else -1)) (fun x => M (aft n x.1)) := by
 refine K_enter (S := feet (M 0)) (K := M 0) Tryz.func90 rfl Tryz.ntmps90 rfl hM ?_
 refine TW.seq fun Y1 hY1 => TW.region ?_
 refine TL.p Pu.as ?_
 refine TL.nil (TQ.thenN (hY1 _ _ ?_))
 refine TW.seq fun Y2 hY2 => ?_
 refine TW.seq fun Y3 hY3 => TW.region ?_
 refine TL.p Pu.mv ?_
 refine TL.p (Pu.ln Tryz.underlying38) ?_
 refine TL.p Pu.mv ?_
 refine TL.nil (TQ.thenN (hY3 _ _ ?_))
 refine TW.block ?_
 refine TW.loop1 (fun (k : Nat) => [(8, .int .i64 (k : Int)), (7, .int .i64 (n : Int)), (0, .slice A n cp), (1, .func (.func g) fs.toArray cs.toArray)]) (fun k => M k) (fun k => k ≤ n ∧ ∀ j, j < k → p j = false) (fun k => n - k) 0 fs9 ?_ ?_ ?_
 exact KSub.refl _
 exact ⟨by omega, fun j hj => by omega⟩
 rintro k ⟨hk, hall⟩ Z0 hZ0
 refine TW.seq fun Y4 hY4 => TW.region ?_
 refine TL.p Pu.lt ?_
 refine TL.nil (TQ.thenN (hY4 _ _ ?_))
 refine TW.seq fun Y5 hY5 => ?_
 refine TW.cond rfl (fun hc0 => ?_) (fun hc0 => ?_)
 try simp only [zcb9] at hc0
 have hkn : k < n := by omega
 have hA := hA (by omega)
 refine TW.skip ?_
 refine TQ.thenN (hY5 _ _ ?_)
 refine TW.seq fun Y6 hY6 => ?_
 refine TW.block ?_
 refine TW.seq fun Y7 hY7 => TW.region ?_
 refine TL.p Pu.mv ?_
 refine TL.p Pu.as ?_
 refine TL.nil (TQ.thenN (hY7 _ _ ?_))
 refine TW.seq fun Y8 hY8 => TW.region ?_
 refine TL.p Pu.mv ?_
 refine TL.p Pu.mv ?_
 refine TL.p Pu.mv ?_
 refine TL.p (Pu.el ty_et38) ?_
 refine TL.p (Pu.lds ty_ag51) ?_
 refine TL.cvk rfl rfl hen (by rw [List.append_nil]) (fun w hw => by
   exact hg k (by omega) hall w hw) ?_
 intro _
 refine TL.nil (TQ.thenN (hY8 _ _ ?_))
 refine TW.cond rfl (fun hc1 => ?_) (fun hc1 => ?_)
 try simp only [zcb9] at hc1
 refine TW.seq fun Y9 hY9 => TW.region ?_
 refine TL.p Pu.mv ?_
 refine TL.p Pu.as ?_
 refine TL.nil (TQ.thenN (hY9 _ _ ?_))
 refine TW.ret ?_
 refine TQ.blkR ?_
 refine TQ.thenR ?_
 refine TQ.thenR ?_
 refine TQ.blkR ?_
 refine TQ.thenR ?_
 refine TQ.ret Tryz.results90 rfl ((.tmp rfl .nil)) ?_
 exact fun w hw => ⟨⟨k, by omega, hall, fun _ => hc1⟩, by simp [hkn]; rfl, by simpa [aft, hkn] using hw⟩
 try simp only [zcb9] at hc1
 refine TW.skip ?_
 refine TQ.blkN ?_
 refine TQ.thenN (hY6 _ _ ?_)
 refine TW.region ?_
 refine TL.p Pu.ad ?_
 refine TL.p Pu.mv ?_
 refine TL.nil ?_
 refine TQ.thenN (hZ0 (k + 1) _ _ ?_ ?_ fs9 ?_)
 refine ⟨by omega, fun j hj => ?_⟩
 by_cases h : j = k
 subst h; exact hc1
 exact hall j (by omega)
 exact zom9
 rw [List.append_nil]; exact KSub.refl _
 try simp only [zcb9] at hc0
 have hkn : k = n := by omega
 refine TW.exit ?_
 refine TQ.thenX ?_
 refine TQ.thenX ?_
 refine TQ.blkX ?_
 refine TQ.thenN (hY2 _ _ ?_)
 refine TW.seq fun Y10 hY10 => TW.region ?_
 refine TL.p Pu.as ?_
 refine TL.nil (TQ.thenN (hY10 _ _ ?_))
 refine TW.ret ?_
 refine TQ.ret Tryz.results90 rfl ((.tmp rfl .nil)) ?_
 exact fun w hw => ⟨⟨k, by omega, hall, fun h => by omega⟩, by simp [hkn]; rfl, by simpa [aft, hkn] using hw⟩
theorem hasCalf_st {g : FuncId} {fs cs : List Value} {A : Option Addr} {n cp : Nat} {v : Nat → Int × Int} {p : Nat → Bool} {M : Nat → List Fact} {w : World} (hen : Enters Tryz.prog g) (hn : n ≤ 9223372036854775807)
  (hR : RdR w 2 A n (fun k => [.int .i64 (v k).1, .int .i64 (v k).2])) (hA : 0 < n → Apart (feet (M 0)) A) (hM : Sat (feet (M 0)) w (M 0) w) (hfe : ∀ k, feet (M k) = feet (M 0))
  (hg : ∀ k, k < n → (∀ j, j < k → p j = false) → ∀ w', Sat (feet (M 0)) w (M k) w' → CallsK Tryz.prog g (fs ++ [Value.agg #[.int .i64 (v k).1, .int .i64 (v k).2]] ++ cs).toArray (M k) w' Unit (fun _ => .bool (p k)) (fun _ => M (k + 1))) :
  CallsK Tryz.prog 52 #[.slice A n cp, .func (.func g) fs.toArray cs.toArray] (M 0) w (Fst p n) (fun x => .bool (decide (x.1 < n))) (fun x => M (aft n x.1)) := by
 refine K_enter (S := feet (M 0)) (K := M 0) Tryz.func52 rfl Tryz.ntmps52 rfl hM ?_
 refine TW.seq fun Y1 hY1 => TW.region ?_
 refine TL.p Pu.as ?_
 refine TL.nil (TQ.thenN (hY1 _ _ ?_))
 refine TW.seq fun Y2 hY2 => TW.region ?_
 refine TL.p Pu.mv ?_
 refine TL.p Pu.mv ?_
 refine TL.call rfl (enters Tryz.func90 rfl rfl) (by rw [List.append_nil]) rfl (fun w hw => by
   exact indexCalf_any hen hn (hR.sat0 hw hA) hA hw.self hfe (fun k hk hp w' hw' => hg k hk hp w' (hw'.from hw.chg fun _ hb => .inl hb))) ?_
 intro x
 refine TL.p Pu.ge ?_
 refine TL.p Pu.as ?_
 refine TL.nil (TQ.thenN (hY2 _ _ ?_))
 refine TW.ret ?_
 refine TQ.ret Tryz.results52 rfl ((.tmp rfl .nil)) ?_
 exact fun w hw => ⟨x, by by_cases h : x.1 < n <;> simp [retV, h], by simpa using hw⟩
theorem hasCalf_any {g : FuncId} {fs cs : List Value} {A : Option Addr} {n cp : Nat} {v : Nat → Int × Int} {p : Nat → Bool} {w : World} (hen : Enters Tryz.prog g) (hn : n ≤ 9223372036854775807)
  (hR : RdR w 2 A n (fun k => [.int .i64 (v k).1, .int .i64 (v k).2])) (hg : ∀ k, k < n → ∀ w', Below w.heap.size w w' → Calls Tryz.prog g (fs ++ [Value.agg #[.int .i64 (v k).1, .int .i64 (v k).2]] ++ cs).toArray w' (Ret w' (.bool (p k)))) :
  Calls Tryz.prog 52 #[.slice A n cp, .func (.func g) fs.toArray cs.toArray] w (Ret w (.bool (anyB n p))) :=
 CallsK.retOf (hasCalf_st (M := fun _ => []) hen hn hR (fun _ => Apart.nil) (Sat.start w) (fun _ => rfl) fun k hk _ w' hw' => CallsK.ret (hg k hk w' (Chg.ext hw'.chg))) fun x => by rw [x.any]; rfl
set_option maxRecDepth 100000 in
theorem wrong_any {d y : Int} {b nl cb : Nat} {B : Option Addr} {w : World} (hn : nl ≤ 1000) (hB : OldB w b [.slice B nl cb]) : Calls Tryz.prog 47 #[.agg #[.int .i64 d, .int .i64 y], .pointer (some ⟨b, 0, none⟩)] w (Ret w (.bool (!(inB5 0 ((nl : Int) - 1) d && inB5 0 ((nl : Int) - 1) y && !decide (d = y))))) := by
 refine K_enter (S := []) (K := []) Tryz.func47 rfl Tryz.ntmps47 rfl (Sat.start _) ?_
 refine TW.seq fun Y1 hY1 => TW.region ?_
 refine TL.m Mk.bx ?_
 intro b1
 refine TL.p Pu.as ?_
 refine TL.nil (TQ.thenN (hY1 _ _ ?_))
 refine TW.seq fun Y2 hY2 => ?_
 refine TW.join [(3, .bool (!(inB5 0 ((nl : Int) - 1) d && inB5 0 ((nl : Int) - 1) y && !decide (d = y))))] ?_ (fun hJ1 => ?_)
 refine TQ.thenN (hY2 _ _ ?_)
 refine TW.ret ?_
 refine TQ.ret Tryz.results47 rfl ((.tmp rfl .nil)) ?_
 exact fun w hw => Ret.of hw
 refine TW.region ?_
 refine TL.p (by first | exact (Pu.ld ty_sc37) | exact (Pu.ldo ty_sc37)) ?_
 refine TL.p (Pu.ln Tryz.underlying37) ?_
 refine TL.p Pu.sb ?_
 refine TL.p (by first | exact Pu.fb ty_fa51_0 | exact Pu.fe ty_fa51_0) ?_
 refine TL.p (by first | exact (Pu.ld ty_sc3) | exact (Pu.ldo ty_sc3)) ?_
 refine TL.p (by first | exact Pu.fb ty_fa51_1 | exact Pu.fe ty_fa51_1) ?_
 refine TL.p (by first | exact (Pu.ld ty_sc3) | exact (Pu.ldo ty_sc3)) ?_
 refine TL.m Mk.bl ?_
 intro b2
 refine TL.cr rfl (enters Tryz.func48 rfl rfl) (fun w hw => by
  exact bInTwo_any _ _ _ _ (hw.holds _ (List.mem_cons_self ..))) ?_
 refine TL.p Pu.no ?_
 refine TL.p Pu.mv ?_
 refine TL.guard (t := 14) rfl (fun hg1 => ?_) (fun hg1 => ?_)
 refine TL.gs ?_
 refine TL.gs ?_
 refine TL.gs ?_
 refine TL.gs ?_
 refine TL.gs ?_
 refine TL.p Pu.kt ?_
 refine TL.p Pu.as ?_
 refine TL.nil ?_
 exact TQ.sub (by repeat (first | exact trivial | refine ⟨rfl, ?_⟩ | refine ⟨trivial, ?_⟩ | refine ⟨(by show some (Value.bool _) = some (Value.bool _); first | (simp [hg1]; done) | (refine congrArg (fun z => some (Value.bool z)) (Bool.eq_iff_iff.2 ?_); simp [hg1]; omega)), ?_⟩)) ks9 hJ1
 refine TL.gd (by first | exact Pu.fb ty_fa51_0 | exact Pu.fe ty_fa51_0) ?_
 refine TL.gd (by first | exact (Pu.ld ty_sc3) | exact (Pu.ldo ty_sc3)) ?_
 refine TL.gd (by first | exact Pu.fb ty_fa51_1 | exact Pu.fe ty_fa51_1) ?_
 refine TL.gd (by first | exact (Pu.ld ty_sc3) | exact (Pu.ldo ty_sc3)) ?_
 refine TL.gd Pu.eq ?_
 refine TL.p Pu.kf ?_
 refine TL.p Pu.as ?_
 refine TL.nil ?_
 exact TQ.sub (by repeat (first | exact trivial | refine ⟨rfl, ?_⟩ | refine ⟨trivial, ?_⟩ | refine ⟨(by show some (Value.bool _) = some (Value.bool _); first | (simp [hg1]; done) | (refine congrArg (fun z => some (Value.bool z)) (Bool.eq_iff_iff.2 ?_); simp [hg1]; omega)), ?_⟩)) ks9 hJ1
theorem nseen_any {l : Lk} {A : Option Addr} {c : Nat} {w : World} (h : LkIn w l A) : Calls Tryz.prog 50 #[.agg (lkL l A c).toArray] w (Ret w (.bool (!lkB l))) := by
 have fS := fun (w' : World) (h1 : LkIn w' l A) => seen_any (c := c) h1
 unfold lkL at fS ⊢
 refine K_enter (S := []) (K := []) Tryz.func50 rfl Tryz.ntmps50 rfl (Sat.start _) ?_
 refine TW.seq fun Y1 hY1 => TW.region ?_
 refine TL.m Mk.bx ?_
 intro b1
 refine TL.p Pu.as ?_
 refine TL.nil (TQ.thenN (hY1 _ _ ?_))
 refine TW.seq fun Y2 hY2 => TW.region ?_
 refine TL.p (Pu.lds ty_ag42) ?_
 refine TL.cr rfl (enters Tryz.func51 rfl rfl) (fun w hw => by
  exact fS _ (h.sat hw)) ?_
 refine TL.p Pu.no ?_
 refine TL.p Pu.as ?_
 refine TL.nil (TQ.thenN (hY2 _ _ ?_))
 refine TW.ret ?_
 refine TQ.ret Tryz.results50 rfl ((.tmp rfl .nil)) ?_
 exact fun w hw => Ret.of hw
set_option maxRecDepth 100000 in
set_option maxHeartbeats 1000000 in
theorem kin_any {H : Hd} {A Aa : Option Addr} {cp bA bH m ca nl : Nat} {xo : OpX} {X : List Nat} {dm yg : Nat → Int} {q : Nat} {w : World} (hm : m = X.length) (hX : ∀ i ∈ X, i < H.n) (h16 : H.n ≤ 16) (hml : m ≤ 1000) (hd : 0 ≤ dm q ∧ dm q < nl) (hy : 0 ≤ yg q ∧ yg q < nl) (hA : OldB w bA [.slice Aa m ca]) (hR : RdR w 1 Aa m (nL X)) (hH : OldB w bH [.pointer (some ⟨xo.1.1, 0, none⟩)]) (hW : HwIn w H A cp xo) :
  Calls Tryz.prog 53 #[.agg #[.int .i64 (dm q), .int .i64 (yg q)], .pointer (some ⟨bA, 0, none⟩), .pointer (some ⟨bH, 0, none⟩)] w (Ret w (.bool (kl1 (moH H) dm yg X q))) := by
 have hoB := hW.oB
 have hoM := hW.oM
 have hg : ∀ j : Nat, j < m → X.getD j 0 < H.n := fun j hj => hX _ (getD_memN (by omega))
 have hgy := hg (yg q).toNat
 have hgd := hg (dm q).toNat
 have e9 : kl1 (moH H) dm yg X q = (decide ((m : Int) ≤ max (dm q) (yg q)) || decide (moH H (X.getD (yg q).toNat 0) = (X.getD (dm q).toNat 0 : Int))) := by rw [hm]; rfl
 rw [e9]
 unfold nL at hR
 clear e9 hg hX
 refine K_enter (S := []) (K := []) Tryz.func53 rfl Tryz.ntmps53 rfl (Sat.start _) ?_
 refine TW.seq fun Y1 hY1 => TW.region ?_
 refine TL.m Mk.bx ?_
 intro b1
 refine TL.p Pu.as ?_
 refine TL.nil (TQ.thenN (hY1 _ _ ?_))
 refine TW.seq fun Y2 hY2 => ?_
 refine TW.join [(4, .bool (decide ((m : Int) ≤ max (dm q) (yg q)) || decide (moH H (X.getD (yg q).toNat 0) = (X.getD (dm q).toNat 0 : Int))))] ?_ (fun hJ1 => ?_)
 refine TQ.thenN (hY2 _ _ ?_)
 refine TW.ret ?_
 refine TQ.ret Tryz.results53 rfl ((.tmp rfl .nil)) ?_
 exact fun w hw => Ret.of hw
 refine TW.dw 28 ?_
 refine RK.tk (by first | exact Pu.fb ty_fa51_0 | exact Pu.fe ty_fa51_0) ?_
 refine RK.tk (by first | exact (Pu.ld ty_sc3) | exact (Pu.ldo ty_sc3)) ?_
 refine RK.tk (by first | exact Pu.fb ty_fa51_1 | exact Pu.fe ty_fa51_1) ?_
 refine RK.tk (by first | exact (Pu.ld ty_sc3) | exact (Pu.ldo ty_sc3)) ?_
 refine RK.tk Pu.mx ?_
 refine RK.tk (by first | exact (Pu.ld ty_sc28) | exact (Pu.ldo ty_sc28)) ?_
 refine RK.tk (Pu.ln Tryz.underlying28) ?_
 refine RK.tk Pu.ge ?_
 refine RK.tk Pu.mv ?_
 refine RK.guard (t := 13) rfl (fun hg1 => ?_) (fun hg1 => ?_)
 try simp only [zgb9] at hg1
 refine RK.s ?_
 refine RK.s ?_
 refine RK.s ?_
 refine RK.s ?_
 refine RK.s ?_
 refine RK.s ?_
 refine RK.s ?_
 refine RK.s ?_
 refine RK.s ?_
 refine RK.s ?_
 refine RK.s ?_
 refine RK.s ?_
 refine RK.s ?_
 refine RK.s ?_
 refine RK.s ?_
 refine RK.s ?_
 refine RK.s ?_
 refine RK.tk Pu.kt ?_
 refine RK.tk Pu.as ?_
 refine RK.ch [] ?_ trivial
 refine WK.n ?_
 refine TL.nil ?_
 exact TQ.sub (by repeat (first | exact trivial | refine ⟨rfl, ?_⟩ | refine ⟨trivial, ?_⟩ | refine ⟨(by show some (Value.bool _) = some (Value.bool _); first | (simp [hg1]; done) | (refine congrArg (fun z => some (Value.bool z)) (Bool.eq_iff_iff.2 ?_); simp [hg1]; omega)), ?_⟩)) ks9 hJ1
 try simp only [zgb9] at hg1
 refine RK.tk (by first | exact (Pu.ld ty_sc96) | exact (Pu.ldo ty_sc96)) ?_
 refine RK.tk (by first | exact Pu.nn | exact Pu.nc) ?_
 refine RK.tk (by first | exact Pu.fb ty_fa106_2 | exact Pu.fe ty_fa106_2) ?_
 refine RK.tk (by first | exact (Pu.ld ty_sc28) | exact (Pu.ldo ty_sc28)) ?_
 refine RK.tk (by first | exact (Pu.ld ty_sc28) | exact (Pu.ldo ty_sc28)) ?_
 refine RK.tk (by first | exact Pu.fb ty_fa51_1 | exact Pu.fe ty_fa51_1) ?_
 refine RK.tk (by first | exact (Pu.ld ty_sc3) | exact (Pu.ldo ty_sc3)) ?_
 refine RK.tk (Pu.el (q := (yg q).toNat) ty_et28 (hk := rfl)) ?_
 refine RK.tk (by first | exact (Pu.ld ty_sc3) | exact (Pu.ldo ty_sc3)) ?_
 refine RK.tk (Pu.el (q := X.getD (yg q).toNat 0) ty_et28 (hk := Int.toNat_natCast _) (h1 := Int.ofNat_lt.2 (hgy (by omega)))) ?_
 refine RK.tk (by first | exact (Pu.ld ty_sc3) | exact (Pu.ldo ty_sc3)) ?_
 refine RK.tk (by first | exact (Pu.ld ty_sc28) | exact (Pu.ldo ty_sc28)) ?_
 refine RK.tk (by first | exact Pu.fb ty_fa51_0 | exact Pu.fe ty_fa51_0) ?_
 refine RK.tk (by first | exact (Pu.ld ty_sc3) | exact (Pu.ldo ty_sc3)) ?_
 refine RK.tk (Pu.el (q := (dm q).toNat) ty_et28 (hk := rfl)) ?_
 refine RK.tk (by first | exact (Pu.ld ty_sc3) | exact (Pu.ldo ty_sc3)) ?_
 refine RK.tk Pu.eq ?_
 refine RK.tk Pu.kf ?_
 refine RK.tk Pu.as ?_
 refine RK.ch [] ?_ trivial
 refine WK.n ?_
 refine TL.nil ?_
 exact TQ.sub (by repeat (first | exact trivial | refine ⟨rfl, ?_⟩ | refine ⟨trivial, ?_⟩ | refine ⟨(by show some (Value.bool _) = some (Value.bool _); first | (simp [hg1]; done) | (refine congrArg (fun z => some (Value.bool z)) (Bool.eq_iff_iff.2 ?_); simp [hg1]; omega)), ?_⟩)) ks9 hJ1
theorem nkin_any {b : Bool} {d y : Int} {bK bA bH : Nat} {w : World} (hK : OldB w bK [.func (.func 53) #[] #[.pointer (some ⟨bA, 0, none⟩), .pointer (some ⟨bH, 0, none⟩)]]) (hg : ∀ w', Below w.heap.size w w' → Calls Tryz.prog 53 #[.agg #[.int .i64 d, .int .i64 y], .pointer (some ⟨bA, 0, none⟩), .pointer (some ⟨bH, 0, none⟩)] w' (Ret w' (.bool b))) :
  Calls Tryz.prog 58 #[.agg #[.int .i64 d, .int .i64 y], .pointer (some ⟨bK, 0, none⟩)] w (Ret w (.bool (!b))) := by
 refine K_enter (S := []) (K := []) Tryz.func58 rfl Tryz.ntmps58 rfl (Sat.start _) ?_
 refine TW.seq fun Y1 hY1 => TW.region ?_
 refine TL.m Mk.bx ?_
 intro b1
 refine TL.p Pu.as ?_
 refine TL.nil (TQ.thenN (hY1 _ _ ?_))
 refine TW.seq fun Y2 hY2 => TW.region ?_
 refine TL.p (by first | exact (Pu.ld ty_sc100) | exact (Pu.ldo ty_sc100)) ?_
 refine TL.p (by first | exact (Pu.lds ty_ag51) | exact (Pu.ldso ty_ag51)) ?_
 refine TL.cv rfl rfl (enters Tryz.func53 rfl rfl) (fun w hw => by
   exact hg _ (Chg.ext hw.chg)) ?_
 refine TL.p Pu.no ?_
 refine TL.p Pu.as ?_
 refine TL.nil (TQ.thenN (hY2 _ _ ?_))
 refine TW.ret ?_
 refine TQ.ret Tryz.results58 rfl ((.tmp rfl .nil)) ?_
 exact fun w hw => Ret.of hw
theorem bCont_any {w : World} {A : Option Addr} {n cp : Nat} {X : List Nat} (i : Nat) (hn : n = X.length) (h1 : n ≤ 1000000) (hR : RdR w 1 A n (nL X)) : Calls Tryz.prog 57 #[.slice A n cp, .int .i64 (i : Int)] w (Ret w (.bool (X.contains i))) := by
 subst hn
 have fI := fun (w' : World) (h : RdR w' 1 A X.length (nL X)) => bIndex_any (cp := cp) (v := fun k => (X.getD k 0 : Int)) (i : Int) h1 h
 have e9 : decide (0 ≤ atI (fun k => decide ((i : Int) = (X.getD k 0 : Int))) X.length) = X.contains i := by
  rw [Bool.eq_iff_iff, decide_eq_true_eq, List.contains_iff_mem, mem_nat_getD]
  constructor
  intro h
  obtain ⟨h1, h2, _⟩ := atI_le h
  exact ⟨_, h1, by simp only [decide_eq_true_eq] at h2; omega⟩
  rintro ⟨k, hk, e⟩
  unfold atI
  rw [if_pos (fst1_lt.2 ⟨k, hk, decide_eq_true (by omega)⟩)]
  omega
 refine K_enter (S := []) (K := []) Tryz.func57 rfl Tryz.ntmps57 rfl (Sat.start _) ?_
 refine TW.seq fun Y1 hY1 => TW.region ?_
 refine TL.p Pu.as ?_
 refine TL.nil (TQ.thenN (hY1 _ _ ?_))
 refine TW.seq fun Y2 hY2 => TW.region ?_
 refine TL.p Pu.mv ?_
 refine TL.p Pu.mv ?_
 refine TL.cr rfl (enters Tryz.func83 rfl rfl) (fun w hw => by
   exact fI _ (hR.sat hw Apart.nil)) ?_
 refine TL.p Pu.ge ?_
 refine TL.p Pu.as ?_
 refine TL.nil (TQ.thenN (hY2 _ _ ?_))
 refine TW.ret ?_
 refine TQ.ret Tryz.results57 rfl ((.tmp rfl .nil)) ?_
 exact fun w hw => ⟨ret_bool e9.symm, Chg.ext hw.chg⟩
theorem RdR.cong9 {w : World} {sz n : Nat} {A : Option Addr} {r s : Nat → List Value} (h : RdR w sz A n r) (e : ∀ i, i < n → r i = s i) : RdR w sz A n s := ⟨h.rd.congr fun i j hi hj => by simp only [rowF, e i hi], fun i hi => by rw [← e i hi]; exact h.len i hi⟩
theorem TL.capLe {c : Cx} {Q : Exit → Act → World → Prop} {F : Fr} {K K' : List Fact} {ops : Array Oper} {rest : List Oper} {A : Option Addr} {n cp : Nat} {E : TypeId} {sz : Nat} {r : Nat → List Value} (hp : Pick K (.own A n cp E sz r) K') (h : n ≤ cp → TL c ops Q rest F K) : TL c ops Q rest F K := fun a w hF hK => by
 have ho : OwnR w A n cp E sz r := hK.holds _ hp.mem
 obtain ⟨A', c', e, h2, _⟩ := ho.own.form
 cases e
 exact h h2 a w hF hK
theorem srch_no {H : Hd} {L : Nat → Lk} {nc r : Nat} {dm yg : Nat → Int} {S : BSt} {X : List Nat} (h : bthOk (moH H) H.n S = false) : srch H L nc dm yg r S X = [] := by
 cases r with
 | zero => simp only [srch]; rw [if_neg (by rw [h]; decide)]
 | succ r => simp only [srch]; rw [if_neg (by rw [h]; decide)]
abbrev NX9 := (Option Addr × Nat) × (Nat → Option Addr) × (Nat → Nat)
abbrev colR (R : List (List Nat)) (k : Nat) : List Nat := R.map fun x => x.getD k 0
def nxM (bF bA : Nat) (An : Option Addr) (nl : Nat) (R : List (List Nat)) (X : List Nat) (y : NX9) : List Fact :=
 [.blk bF 4 [.bool (decide (R.length ≠ 0))], .blk bA 28 [.slice y.1.1 X.length y.1.2], .own y.1.1 X.length y.1.2 3 1 (nL X), .own An nl nl 28 1 (fun k => [.slice (y.2.1 k) R.length (y.2.2 k)]), tied (ownsE 3 1 y.2.1 (fun _ => R.length) y.2.2 (fun k => nL (colR R k)) nl)]
abbrev NCAP (bH bA bL bF bN bC bK bX : Nat) : List Value := [.pointer (some ⟨bH, 0, none⟩), .pointer (some ⟨bA, 0, none⟩), .pointer (some ⟨bL, 0, none⟩), .pointer (some ⟨bF, 0, none⟩), .pointer (some ⟨bN, 0, none⟩), .pointer (some ⟨bC, 0, none⟩), .pointer (some ⟨bK, 0, none⟩), .pointer (some ⟨bX, 0, none⟩)]
structure NxX (w0 w : World) (M : List Nat) (bN bK bX : Nat) (An : Option Addr) (nl : Nat) (fk fx : Value) : Prop where
 bel : Below w0.heap.size w0 w
 ge : ∀ b ∈ M, w0.heap.size ≤ b
 oN : OldB w bN [.slice An nl nl]
 oK : OldB w bK [fk]
 oX : OldB w bX [fx]
 nN : bN ∉ M
 nK : bK ∉ M
 nX : bX ∉ M
theorem NxX.sat {w0 w w' : World} {M M' : List Nat} {bN bK bX : Nat} {An : Option Addr} {nl : Nat} {fk fx : Value} {K : List Fact} (h : NxX w0 w M bN bK bX An nl fk fx) (hs : Sat M w K w') (hM : ∀ b ∈ M', b ∈ feet K) : NxX w0 w' M' bN bK bX An nl fk fx :=
 ⟨h.bel.trans (chg_below hs.chg h.ge h.bel.size), fun b hb => (hs.ge b (hM b hb)).elim (h.ge b) (fun h9 => Nat.le_trans h.bel.size h9), h.oN.sat hs h.nN, h.oK.sat hs h.nK, h.oX.sat hs h.nX,
  notin_sat9 hs hM h.nN h.oN.1, notin_sat9 hs hM h.nK h.oK.1, notin_sat9 hs hM h.nX h.oX.1⟩
section
variable {w0 : World} {H : Hd} {A B C An : Option Addr} {cp cb cc nl nc : Nat} {xo : OpX} {a : Nat → Option Addr} {c : Nat → Nat} {L : Nat → Lk} {la : Nat → Option Addr} {lc : Nat → Nat} {dm yg : Nat → Int} {bH bA bL bF bN bC bK bX : Nat}
def NxtOk (w0 : World) (H : Hd) (An : Option Addr) (nl nc : Nat) (L : Nat → Lk) (dm yg : Nat → Int) (bH bA bL bF bN bC bK bX r : Nat) : Prop :=
 ∀ (w : World) (X : List Nat) (R : List (List Nat)) (S : BSt) (Ab : Option Addr) (cb9 : Nat) (y : NX9), X.length + r = nl → (∀ i ∈ X, i < H.n) → BdS H.n 300000 S → R.length + 16 ^ r ≤ 1000000 →
  Sat (feet (nxM bF bA An nl R X y)) w (nxM bF bA An nl R X y) w → NxX w0 w (feet (nxM bF bA An nl R X y)) bN bK bX An nl (.func (.func 53) #[] #[.pointer (some ⟨bA, 0, none⟩), .pointer (some ⟨bH, 0, none⟩)]) (.func (.func 54) #[] (NCAP bH bA bL bF bN bC bK bX).toArray) → RdR w 2 Ab H.n (fun j => spL (S j).1 (S j).2) → (0 < H.n → Apart (feet (nxM bF bA An nl R X y)) Ab) →
  CallsK Tryz.prog 54 (.slice Ab H.n cb9 :: NCAP bH bA bL bF bN bC bK bX).toArray (nxM bF bA An nl R X y) w NX9 (fun _ => .tuple #[]) (fun z => nxM bF bA An nl (R ++ srch H L nc dm yg r S X) X z)
set_option maxRecDepth 100000 in
set_option maxHeartbeats 8000000 in
theorem nx_step {r : Nat} (hk : HOk H) (hI : HIn w0 A H a c) (hW : HwIn w0 H A cp xo) (hL : LksIn w0 nl L B la lc) (hC : CvsIn w0 nc dm yg C) (hlk : ∀ k, k < nl → lkB (L k) = true) (hcv : cvB nl nc dm yg = true) (h4 : nl ≤ 4)
  (oH : OldB w0 bH [.pointer (some ⟨xo.1.1, 0, none⟩)]) (oL : OldB w0 bL [.slice B nl cb]) (oC : OldB w0 bC [.slice C nc cc])
  (ih : ∀ r', r = r' + 1 → NxtOk w0 H An nl nc L dm yg bH bA bL bF bN bC bK bX r') : NxtOk w0 H An nl nc L dm yg bH bA bL bF bN bC bK bX r := by
 rintro w X R S Ab cb9 ⟨⟨Aa, ca⟩, ia, ic⟩ hXr hXb hBd hRl hM hX hRb hAb
 have h16 := hk.n16
 have hX0 := hX
 obtain ⟨hbel, hge, oN, oK, oX, nN, nK, nX⟩ := hX
 have old9 : ∀ {b : Nat} {cs : List Value}, OldB w0 b cs → OldB w b cs ∧ Apart (feet (nxM bF bA An nl R X ((Aa, ca), ia, ic))) (some ⟨b, 0, none⟩) := fun {b cs} h => ⟨h.ext hbel, apart_of9 fun hm => by have := hge _ hm; have := h.1; omega⟩
 have apR : ∀ {A9 : Option Addr} {n9 sz9 : Nat} {r9 : Nat → List Value}, RdR w0 sz9 A9 n9 r9 → 0 < n9 → Apart (feet (nxM bF bA An nl R X ((Aa, ca), ia, ic))) A9 := fun {A9 n9 sz9 r9} h h9 b hb hm => by
  obtain ⟨b', off, e, hlt, _⟩ := h.rd h9
  rw [e] at hb
  have hb : b' = b := by simpa using hb
  have := hge b hm
  omega
 obtain ⟨oHw, aH⟩ := old9 oH
 obtain ⟨oLw, aL⟩ := old9 oL
 obtain ⟨oCw, aC⟩ := old9 oC
 obtain ⟨oBw, aB⟩ := old9 hW.oB
 have ap1 := apart_of9 nN
 have ap2 := apart_of9 nK
 have ap3 := apart_of9 nX
 have hWw := hW.ext hbel
 have hLw := hL.ext hbel
 have hCw := hC.ext hbel
 have hoK := hWw.oK
 have aoK := apR hW.oK
 have hRL := hLw.hR
 have aRL := apR hL.hR
 have aRC := apR hC.hR
 have hnl := hL.hn
 have hnc := hC.hn
 have hpos : 0 < 16 ^ r := Nat.pow_pos (by decide)
 have hpow : 16 ^ r ≤ 1000000 := by omega
 have hcv' : ∀ q, q < nc → (0 ≤ dm q ∧ dm q < nl) ∧ (0 ≤ yg q ∧ yg q < nl) := fun q h => by
  have := allB_iff.1 hcv q h
  simp only [inB5, Bool.and_eq_true, decide_eq_true_eq] at this
  omega
 have bl9 : ∀ {K : List Fact} {w' : World}, Sat (feet (nxM bF bA An nl R X ((Aa, ca), ia, ic))) w K w' → Below w0.heap.size w0 w' := fun hs => hbel.trans (chg_below hs.chg hge hbel.size)
 have fB := fun (w' : World) (i k : Nat) (hi : i < H.n) (hkn : k < nl) (h1 : LkIn w' (L k) (la k)) => bears_any (c := lc k) hk hi h1 (lk_8 (hlk k hkn))
 have fA := fun (w' : World) (i k : Nat) (hkn : k < nl) => age_any (a := (S i).1) (b := (S i).2) (A := la k) (c := lc k) (w := w') (hlk k hkn)
 unfold lkL at hRL fB fA
 obtain ⟨Q0, hQ0⟩ : ∃ Q0, Q0 = srch H L nc dm yg r S X := ⟨_, rfl⟩
 rw [← hQ0]
 have hbt : bthOk (moH H) H.n S = false → Q0 = [] := fun h => by rw [hQ0, srch_no h]
 have hfull : r = 0 → bthOk (moH H) H.n S = true → Q0 = [X] := fun h h9 => by subst h; rw [hQ0]; simp only [srch]; rw [if_pos h9]
 obtain ⟨G, hG⟩ : ∃ G : Nat → List (List Nat), G = fun i => srch H L nc dm yg (r - 1) (putS1 S i (agd (S i) (L X.length))) (X ++ [i]) := ⟨_, rfl⟩
 obtain ⟨Pb, hPb⟩ : ∃ Pb : Nat → Bool, Pb = stpB H L nc dm yg X := ⟨_, rfl⟩
 have hmore : ∀ r', r = r' + 1 → bthOk (moH H) H.n S = true → Q0 = srN G Pb H.n := fun r' h h9 => by subst h; rw [hQ0, hG, hPb]; simp only [srch]; rw [if_pos h9]; rfl
 have hsl : ∀ r' i, r = r' + 1 → i < H.n → (srN G Pb i).length + 16 ^ r' ≤ 16 ^ r := fun r' i h hi => by
  subst h
  have := srN_len (g := G) (p := Pb) (m := 16 ^ r') (fun i => by rw [hG]; exact srch_len h16 r' _ _) i
  have h1 : i * 16 ^ r' + 16 ^ r' ≤ 16 * 16 ^ r' := by rw [← Nat.succ_mul]; exact Nat.mul_le_mul_right _ (by omega)
  rw [Nat.pow_succ, Nat.mul_comm (16 ^ r') 16]
  omega
 have hyes : ∀ i, Pb i = true → srN G Pb (i + 1) = srN G Pb i ++ G i := fun i h => by simp only [srN]; rw [if_pos h]
 have hno9 : ∀ i, Pb i = false → srN G Pb (i + 1) = srN G Pb i := fun i h => by simp only [srN]; rw [if_neg (by rw [h]; decide), List.append_nil]
 have hPy : ∀ i, Pb i = (maB H (L X.length) i && !X.contains i && klB (moH H) nc dm yg (X ++ [i])) := fun i => by rw [hPb]; rfl
 replace hG := hidT hG
 clear hPb hQ0
 refine K_enter (args := (.slice Ab H.n cb9 :: NCAP bH bA bL bF bN bC bK bX)) (S := feet (nxM bF bA An nl R X ((Aa, ca), ia, ic))) (K := [.blk bF 4 [.bool (decide (R.length ≠ 0))], .blk bA 28 [.slice Aa X.length ca], .own Aa X.length ca 3 1 (nL X), .own An nl nl 28 1 (fun k => [.slice (ia k) R.length (ic k)]), tied (ownsE 3 1 ia (fun _ => R.length) ic (fun k => nL (colR R k)) nl)]) Tryz.func54 rfl Tryz.ntmps54 rfl hM ?_
 refine TW.seq fun Y1 hY1 => ?_
 refine TW.seq fun Y2 hY2 => TW.region ?_
 refine TL.p (by first | exact (Pu.ld ty_sc96) | exact (Pu.ldo ty_sc96)) ?_
 refine TL.p Pu.mv ?_
 refine TL.call (M := []) rfl (enters Tryz.func55 rfl rfl) (List.Perm.refl _) rfl (fun w hw => by
   exact births_any hk (hW.ext (bl9 hw)) (hRb.sat0 hw hAb) hBd (by decide)) ?_
 rintro ⟨Ab3, cb3⟩
 refine TL.p Pu.mv ?_
 refine TL.p Pu.ex ?_
 refine TL.p Pu.ex ?_
 refine TL.p Pu.as ?_
 refine TL.p Pu.as ?_
 refine TL.nil (TQ.thenN (hY2 _ _ ?_))
 refine TW.seq fun Y3 hY3 => TW.region ?_
 refine TL.p Pu.mv ?_
 refine TL.p Pu.no ?_
 refine TL.nil (TQ.thenN (hY3 _ _ ?_))
 refine TW.cond rfl (fun hc0 => ?_) (fun hc0 => ?_)
 try simp only [zcb9] at hc0
 have hbt0 := hbt (by simpa using hc0)
 refine TW.ret ?_
 refine TQ.thenR ?_
 refine TQ.ret Tryz.results54 rfl (.nil) ?_
 exact fun w hw => ⟨((Aa, ca), ia, ic), rfl, by rw [hbt0, List.append_nil]; exact hw.sub ks9⟩
 try simp only [zcb9] at hc0
 have hbo : bthOk (moH H) H.n S = true := by simpa using hc0
 refine TW.skip ?_
 refine TQ.thenN (hY1 _ _ ?_)
 refine TW.seq fun Y4 hY4 => TW.region ?_
 refine TL.p (by first | exact (Pu.ld ty_sc28) | exact (Pu.ldo ty_sc28)) ?_
 refine TL.p (Pu.ln Tryz.underlying28) ?_
 refine TL.p Pu.as ?_
 refine TL.nil (TQ.thenN (hY4 _ _ ?_))
 refine TW.seq fun Y5 hY5 => ?_
 refine TW.seq fun Y6 hY6 => TW.region ?_
 refine TL.p Pu.mv ?_
 refine TL.p (by first | exact (Pu.ld ty_sc37) | exact (Pu.ldo ty_sc37)) ?_
 refine TL.p (Pu.ln Tryz.underlying37) ?_
 refine TL.p Pu.eq ?_
 refine TL.nil (TQ.thenN (hY6 _ _ ?_))
 refine TW.cond rfl (fun hc1 => ?_) (fun hc1 => ?_)
 try simp only [zcb9] at hc1
 have hr0 : r = 0 := by omega
 have hQ1 := hfull hr0 hbo
 refine TW.seq fun Y7 hY7 => TW.region ?_
 first | refine TL.st ty_sz4 ?_ | refine TL.se ty_sz4 ?_
 refine TL.nil (TQ.thenN (hY7 _ _ ?_))
 refine TW.seq fun Y8 hY8 => ?_
 refine TW.seq fun Y9 hY9 => TW.region ?_
 refine TL.p (by first | exact (Pu.ld ty_sc28) | exact (Pu.ldo ty_sc28)) ?_
 refine TL.p (Pu.ln Tryz.underlying28) ?_
 refine TL.p Pu.mv ?_
 refine TL.nil (TQ.thenN (hY9 _ _ ?_))
 refine TW.block ?_
 refine TW.loop5 (fun (k : Nat) (ia : Nat → Option Addr) (ic : Nat → Nat) (ln : Nat → Nat) (M : Nat → List Nat) => [(34, .int .i64 (k : Int)), (33, .int .i64 (X.length : Int)), (32, .slice Aa X.length ca), (5, .pointer (some ⟨bN, 0, none⟩))]) (fun k ia ic ln M => [.blk bF 4 [.bool true], .blk bA 28 [.slice Aa X.length ca], .own Aa X.length ca 3 1 (nL X), .own An nl nl 28 1 (fun q => [.slice (ia q) (ln q) (ic q)]), tied (ownsE 3 1 ia ln ic (fun q => nL (M q)) nl)]) (fun k ia ic ln M => k ≤ X.length ∧ ∀ q, q < nl → ln q = (M q).length ∧ M q = if q < k then colR (R ++ [X]) q else colR R q) (fun k ia ic ln M => X.length - k) 0 ia ic (fun _ => R.length) (fun q => colR R q) fs9 ?_ ?_ ?_
 exact ks9
 exact ⟨Nat.zero_le _, fun q _ => ⟨by simp, rfl⟩⟩
 rintro k ia ic ln M ⟨hkX, hlm⟩ Z0 hZ0
 replace hlm := hidT hlm
 refine TW.seq fun Y10 hY10 => TW.region ?_
 refine TL.p Pu.lt ?_
 refine TL.nil (TQ.thenN (hY10 _ _ ?_))
 refine TW.seq fun Y11 hY11 => ?_
 refine TW.cond rfl (fun hc2 => ?_) (fun hc2 => ?_)
 try simp only [zcb9] at hc2
 have hkn : k < X.length := by omega
 have hkn2 : k < nl := by omega
 obtain ⟨hl1, hl2⟩ := hlm.out k hkn2
 rw [if_neg (by omega)] at hl2
 have hl3 : ln k ≤ 1000000 := by rw [hl1, hl2, List.length_map]; omega
 refine TW.skip ?_
 refine TQ.thenN (hY11 _ _ ?_)
 refine TW.seq fun Y12 hY12 => ?_
 refine TW.block ?_
 refine TW.seq fun Y13 hY13 => TW.region ?_
 refine TL.p Pu.mv ?_
 refine TL.p (Pu.el ty_et28) ?_
 refine TL.p (by first | exact (Pu.ld ty_sc3) | exact (Pu.ldo ty_sc3)) ?_
 refine TL.p Pu.as ?_
 refine TL.p Pu.as ?_
 refine TL.nil (TQ.thenN (hY13 _ _ ?_))
 refine TW.expk [] (fun (⟨A8, c8⟩ : Option Addr × Nat) => ([(34, .int .i64 (k : Int)), (33, .int .i64 (X.length : Int)), (32, .slice Aa X.length ca), (5, .pointer (some ⟨bN, 0, none⟩))] : Fr)) (fun (⟨A8, c8⟩ : Option Addr × Nat) => [.blk bF 4 [.bool true], .blk bA 28 [.slice Aa X.length ca], .own Aa X.length ca 3 1 (nL X), .own An nl nl 28 1 (fun q => [.slice (updA ia k A8 q) (updA ln k (ln k + 1) q) (updA ic k c8 q)]), tied (ownsE 3 1 (updA ia k A8) (updA ln k (ln k + 1)) (updA ic k c8) (fun q => nL (updA M k (M k ++ [X.getD k 0]) q)) nl)]) ?_ (fun hE => ?_)
 rintro ⟨A8, c8⟩
 refine TQ.blkN ?_
 refine TQ.thenN (hY12 _ _ ?_)
 refine TW.region ?_
 refine TL.p Pu.ad ?_
 refine TL.p Pu.mv ?_
 refine TL.nil ?_
 refine TQ.thenN (hZ0 (k + 1) (updA ia k A8) (updA ic k c8) (updA ln k (ln k + 1)) (updA M k (M k ++ [X.getD k 0])) _ _ ?_ ?_ fs9 ?_)
 refine ⟨by omega, fun q hq => ?_⟩
 obtain ⟨q1, q2⟩ := hlm.out q hq
 by_cases e : q = k
 subst e
 rw [show updA ln q (ln q + 1) q = ln q + 1 from if_pos rfl, show updA M q (M q ++ [X.getD q 0]) q = M q ++ [X.getD q 0] from if_pos rfl, if_pos (by omega), List.length_append, ← hl1, hl2]
 exact ⟨rfl, by simp [colR]⟩
 rw [show updA ln k (ln k + 1) q = ln q from if_neg e, show updA M k (M k ++ [X.getD k 0]) q = M q from if_neg e, q2]
 refine ⟨by rw [q1, q2], ?_⟩
 by_cases h9 : q < k
 rw [if_pos h9, if_pos (by omega)]
 rw [if_neg h9, if_neg (by omega)]
 exact zom9
 exact ks9
 refine RG.tk 0 rfl (by first | exact (Pu.ld ty_sc52) | exact (Pu.ldo ty_sc52)) ?_
 refine RG.tk 1 rfl Pu.mv ?_
 refine RG.tk 2 rfl (by first | exact (Pu.ld ty_sc52) | exact (Pu.ldo ty_sc52)) ?_
 refine RG.tk 3 rfl Pu.mv ?_
 refine RG.tk 6 rfl Pu.mv ?_
 refine RG.a2 4 7 rfl rfl (fun X4 hX4 => ?_) (fun X7 hX7 => ?_)
 refine TL.p (Pu.el ty_et52) ?_
 refine TL.nil ?_
 refine TQ.nxt (hX4 _ _ hl9 ?_)
 refine RG.a2 5 7 rfl rfl (fun X5 hX5 => ?_) (fun X7 hX7 => ?_)
 refine TL.p (by first | exact (Pu.ld ty_sc28) | exact (Pu.ldo ty_sc28)) ?_
 refine TL.nil ?_
 refine TQ.nxt (hX5 _ _ hl9 ?_)
 refine RG.a1 7 rfl (fun X7 hX7 => ?_)
 refine TL.m Mk.bl ?_
 intro x7
 refine TL.nil ?_
 refine TQ.nxt (hX7 _ _ hl9 ?_)
 refine RG.a1 8 rfl (fun X8 hX8 => ?_)
 refine TL.ownTake k hkn2 pk9 ?_
 first | refine TL.a0 ty_et28 ?_ | refine TL.ap ty_et28 ?_
 intro A8 c8
 refine TL.nil ?_
 refine TQ.nxt (hX8 _ _ hl9 ?_)
 refine RG.a1 9 rfl (fun X9 hX9 => ?_)
 refine TL.p (Pu.el ty_et52) ?_
 refine TL.nil ?_
 refine TQ.nxt (hX9 _ _ hl9 ?_)
 refine RG.a1 10 rfl (fun X10 hX10 => ?_)
 refine TL.ownPut (A2 := updA ia k A8) (l2 := updA ln k (ln k + 1)) (c2 := updA ic k c8) (r2 := fun q => nL (updA M k (M k ++ [X.getD k 0]) q)) pk9 pk9 hkn2 (if_pos rfl) (if_pos rfl) (if_pos rfl) (fun q hq => (nL_app (k := X.getD k 0) hl1 rfl (by simp [List.getD_eq_getElem?_getD, hkn]) q hq).trans (by rw [show updA M k (M k ++ [X.getD k 0]) k = M k ++ [X.getD k 0] from if_pos rfl])) (fun q hq hne => ⟨(if_neg hne).symm, (if_neg hne).symm, (if_neg hne).symm, by rw [show updA M k (M k ++ [X.getD k 0]) q = M q from if_neg hne]⟩) ?_
 refine TL.se ty_sz28 ?_
 refine TL.subK (KSub.own (s := fun q => [.slice (updA ia k A8 q) (updA ln k (ln k + 1) q) (updA ic k c8 q)]) pk9 (fun q _ => by unfold updR updA; by_cases h9 : q = k <;> simp [h9]) (KSub.refl _)) ?_
 refine TL.nil ?_
 refine TQ.nxt (hX10 _ _ hl9 ?_)
 exact RG.nil (TQ.sub fs9 kt9 (hE ⟨A8, c8⟩)) (by kernel_rfl)
 refine TL.m Mk.bl ?_
 intro x7
 refine TL.nil ?_
 refine TQ.nxt (hX7 _ _ hl9 ?_)
 refine RG.a1 5 rfl (fun X5 hX5 => ?_)
 refine TL.p (by first | exact (Pu.ld ty_sc28) | exact (Pu.ldo ty_sc28)) ?_
 refine TL.nil ?_
 refine TQ.nxt (hX5 _ _ hl9 ?_)
 refine RG.a1 8 rfl (fun X8 hX8 => ?_)
 refine TL.ownTake k hkn2 pk9 ?_
 first | refine TL.a0 ty_et28 ?_ | refine TL.ap ty_et28 ?_
 intro A8 c8
 refine TL.nil ?_
 refine TQ.nxt (hX8 _ _ hl9 ?_)
 refine RG.a1 9 rfl (fun X9 hX9 => ?_)
 refine TL.p (Pu.el ty_et52) ?_
 refine TL.nil ?_
 refine TQ.nxt (hX9 _ _ hl9 ?_)
 refine RG.a1 10 rfl (fun X10 hX10 => ?_)
 refine TL.ownPut (A2 := updA ia k A8) (l2 := updA ln k (ln k + 1)) (c2 := updA ic k c8) (r2 := fun q => nL (updA M k (M k ++ [X.getD k 0]) q)) pk9 pk9 hkn2 (if_pos rfl) (if_pos rfl) (if_pos rfl) (fun q hq => (nL_app (k := X.getD k 0) hl1 rfl (by simp [List.getD_eq_getElem?_getD, hkn]) q hq).trans (by rw [show updA M k (M k ++ [X.getD k 0]) k = M k ++ [X.getD k 0] from if_pos rfl])) (fun q hq hne => ⟨(if_neg hne).symm, (if_neg hne).symm, (if_neg hne).symm, by rw [show updA M k (M k ++ [X.getD k 0]) q = M q from if_neg hne]⟩) ?_
 refine TL.se ty_sz28 ?_
 refine TL.subK (KSub.own (s := fun q => [.slice (updA ia k A8 q) (updA ln k (ln k + 1) q) (updA ic k c8 q)]) pk9 (fun q _ => by unfold updR updA; by_cases h9 : q = k <;> simp [h9]) (KSub.refl _)) ?_
 refine TL.nil ?_
 refine TQ.nxt (hX10 _ _ hl9 ?_)
 exact RG.nil (TQ.sub fs9 kt9 (hE ⟨A8, c8⟩)) (by kernel_rfl)
 refine TL.m Mk.bl ?_
 intro x7
 refine TL.nil ?_
 refine TQ.nxt (hX7 _ _ hl9 ?_)
 refine RG.a1 4 rfl (fun X4 hX4 => ?_)
 refine TL.p (Pu.el ty_et52) ?_
 refine TL.nil ?_
 refine TQ.nxt (hX4 _ _ hl9 ?_)
 refine RG.a1 5 rfl (fun X5 hX5 => ?_)
 refine TL.p (by first | exact (Pu.ld ty_sc28) | exact (Pu.ldo ty_sc28)) ?_
 refine TL.nil ?_
 refine TQ.nxt (hX5 _ _ hl9 ?_)
 refine RG.a1 8 rfl (fun X8 hX8 => ?_)
 refine TL.ownTake k hkn2 pk9 ?_
 first | refine TL.a0 ty_et28 ?_ | refine TL.ap ty_et28 ?_
 intro A8 c8
 refine TL.nil ?_
 refine TQ.nxt (hX8 _ _ hl9 ?_)
 refine RG.a1 9 rfl (fun X9 hX9 => ?_)
 refine TL.p (Pu.el ty_et52) ?_
 refine TL.nil ?_
 refine TQ.nxt (hX9 _ _ hl9 ?_)
 refine RG.a1 10 rfl (fun X10 hX10 => ?_)
 refine TL.ownPut (A2 := updA ia k A8) (l2 := updA ln k (ln k + 1)) (c2 := updA ic k c8) (r2 := fun q => nL (updA M k (M k ++ [X.getD k 0]) q)) pk9 pk9 hkn2 (if_pos rfl) (if_pos rfl) (if_pos rfl) (fun q hq => (nL_app (k := X.getD k 0) hl1 rfl (by simp [List.getD_eq_getElem?_getD, hkn]) q hq).trans (by rw [show updA M k (M k ++ [X.getD k 0]) k = M k ++ [X.getD k 0] from if_pos rfl])) (fun q hq hne => ⟨(if_neg hne).symm, (if_neg hne).symm, (if_neg hne).symm, by rw [show updA M k (M k ++ [X.getD k 0]) q = M q from if_neg hne]⟩) ?_
 refine TL.se ty_sz28 ?_
 refine TL.subK (KSub.own (s := fun q => [.slice (updA ia k A8 q) (updA ln k (ln k + 1) q) (updA ic k c8 q)]) pk9 (fun q _ => by unfold updR updA; by_cases h9 : q = k <;> simp [h9]) (KSub.refl _)) ?_
 refine TL.nil ?_
 refine TQ.nxt (hX10 _ _ hl9 ?_)
 exact RG.nil (TQ.sub fs9 kt9 (hE ⟨A8, c8⟩)) (by kernel_rfl)
 try simp only [zcb9] at hc2
 obtain rfl : k = X.length := by omega
 refine TW.exit ?_
 refine TQ.thenX ?_
 refine TQ.thenX ?_
 refine TQ.blkX ?_
 refine TQ.thenN (hY8 _ _ ?_)
 refine TW.ret ?_
 refine TQ.thenR ?_
 refine TQ.ret Tryz.results54 rfl (.nil) ?_
 refine fun w hw => ⟨((Aa, ca), ia, ic), rfl, ?_⟩
 have hln : ∀ q, q < nl → ln q = (R ++ [X]).length ∧ M q = colR (R ++ [X]) q := fun q hq => by
  obtain ⟨q1, q2⟩ := hlm.out q hq
  rw [if_pos (by omega)] at q2
  exact ⟨by rw [q1, q2, List.length_map], q2⟩
 rw [hQ1]
 have ho : ownsE 3 1 ia ln ic (fun q => nL (M q)) nl = ownsE 3 1 ia (fun _ => (R ++ [X]).length) ic (fun q => nL (colR (R ++ [X]) q)) nl := ownsE_congr2 fun q hq => ⟨rfl, (hln q hq).1, rfl, by rw [(hln q hq).2]⟩
 rw [ho] at hw
 have e9 : decide ((R ++ [X]).length ≠ 0) = true := by simp
 show Sat _ _ [.blk bF 4 [.bool (decide ((R ++ [X]).length ≠ 0))], .blk bA 28 [.slice Aa X.length ca], .own Aa X.length ca 3 1 (nL X), .own An nl nl 28 1 (fun k => [.slice (ia k) (R ++ [X]).length (ic k)]), tied (ownsE 3 1 ia (fun _ => (R ++ [X]).length) ic (fun k => nL (colR (R ++ [X]) k)) nl)] w
 rw [e9]
 exact hw.sub (KSub.cons pk9 (KSub.cons pk9 (KSub.cons pk9 (KSub.own pk9 (fun q hq => by rw [(hln q hq).1]) (KSub.cons pk9 KSub.nil)))))
 try simp only [zcb9] at hc1
 obtain ⟨r', hr'⟩ : ∃ r', r = r' + 1 := ⟨r - 1, by omega⟩
 have hQ1 := hmore r' hr' hbo
 have hkl : X.length < nl := by omega
 have ihr := ih r' hr'
 have hGi : ∀ i, G i = srch H L nc dm yg r' (putS1 S i (agd (S i) (L X.length))) (X ++ [i]) := fun i => by rw [hG.out, hr']; rfl
 refine TW.skip ?_
 refine TQ.thenN (hY5 _ _ ?_)
 refine TW.seq fun Y14 hY14 => TW.region ?_
 refine TL.p (by first | exact (Pu.ld ty_sc96) | exact (Pu.ldo ty_sc96)) ?_
 refine TL.p (by first | exact Pu.nn | exact Pu.nc) ?_
 refine TL.p (by first | exact Pu.fb ty_fa106_3 | exact Pu.fe ty_fa106_3) ?_
 refine TL.p (by first | exact (Pu.ld ty_sc104) | exact (Pu.ldo ty_sc104)) ?_
 refine TL.p (Pu.ln Tryz.underlying104) ?_
 refine TL.p Pu.mv ?_
 refine TL.nil (TQ.thenN (hY14 _ _ ?_))
 refine TW.block ?_
 refine TW.loop6 (fun (i : Nat) (Q : List (List Nat)) (Aa : Option Addr) (ca : Nat) (ia : Nat → Option Addr) (ic : Nat → Nat) => [(55, .int .i64 (i : Int)), (54, .int .i64 (H.n : Int)), (53, .slice xo.2.2.1 H.n xo.2.2.2), (12, .int .i64 (X.length : Int)), (0, .slice Ab H.n cb9), (1, .pointer (some ⟨bH, 0, none⟩)), (2, .pointer (some ⟨bA, 0, none⟩)), (3, .pointer (some ⟨bL, 0, none⟩)), (4, .pointer (some ⟨bF, 0, none⟩)), (5, .pointer (some ⟨bN, 0, none⟩)), (6, .pointer (some ⟨bC, 0, none⟩)), (7, .pointer (some ⟨bK, 0, none⟩)), (8, .pointer (some ⟨bX, 0, none⟩))]) (fun i Q Aa ca ia ic => [.blk bF 4 [.bool (decide (Q.length ≠ 0))], .blk bA 28 [.slice Aa X.length ca], .own Aa X.length ca 3 1 (nL X), .own An nl nl 28 1 (fun k => [.slice (ia k) Q.length (ic k)]), tied (ownsE 3 1 ia (fun _ => Q.length) ic (fun k => nL (colR Q k)) nl)]) (fun i Q Aa ca ia ic => i ≤ H.n ∧ Q = R ++ srN G Pb i) (fun i Q Aa ca ia ic => H.n - i) 0 R Aa ca ia ic fs9 ?_ ?_ ?_
 exact ks9
 exact ⟨Nat.zero_le _, (List.append_nil R).symm⟩
 rintro i Q Aa ca ia ic ⟨hiH, hQ⟩ Z1 hZ1
 refine TW.seq fun Y15 hY15 => TW.region ?_
 refine TL.p Pu.lt ?_
 refine TL.nil (TQ.thenN (hY15 _ _ ?_))
 refine TW.seq fun Y16 hY16 => ?_
 refine TW.cond rfl (fun hc3 => ?_) (fun hc3 => ?_)
 try simp only [zcb9] at hc3
 have hih : i < H.n := by omega
 have hQl : Q.length + 16 ^ r' ≤ 1000000 := by
  have := hsl r' i hr' hih
  rw [hQ, List.length_append]; omega
 have ab9 := hAb (by omega)
 have aoK9 := aoK (by omega)
 have aRL9 := aRL (by omega)
 have fX := hXb
 refine TW.skip ?_
 refine TQ.thenN (hY16 _ _ ?_)
 refine TW.seq fun Y17 hY17 => ?_
 refine TW.block ?_
 refine TW.seq fun Y18 hY18 => TW.region ?_
 refine TL.p Pu.mv ?_
 refine TL.p (Pu.el ty_et104) ?_
 refine TL.p (by first | exact (Pu.lds ty_ag111) | exact (Pu.ldso ty_ag111)) ?_
 refine TL.m (Mk.al ty_zr111) ?_
 intro b1
 refine TL.p Pu.as ?_
 first | refine TL.st ty_sz111 ?_ | refine TL.se ty_sz111 ?_
 refine TL.nil (TQ.thenN (hY18 _ _ ?_))
 refine TW.seq fun Y19 hY19 => ?_
 refine TW.seq fun Y20 hY20 => ?_
 refine TW.join [(71, .bool (!(maB H (L X.length) i && !X.contains i)))] ?_ (fun hJ1 => ?_)
 refine TQ.thenN (hY20 _ _ ?_)
 refine TW.cond rfl (fun hc4 => ?_) (fun hc4 => ?_)
 try simp only [zcb9] at hc4
 have hp0 : Pb i = false := by
  rw [hPy]
  have : (maB H (L X.length) i && !X.contains i) = false := by
   rcases hc4 with h | h
   rw [h]; rfl
   rw [h]; cases maB H (L X.length) i <;> rfl
  rw [this]; rfl
 have hq9 : R ++ srN G Pb (i + 1) = Q := by rw [hno9 i hp0, hQ]
 refine TW.exit ?_
 refine TQ.thenX ?_
 refine TQ.blkX ?_
 refine TQ.thenN (hY17 _ _ ?_)
 refine TW.region ?_
 refine TL.p Pu.ad ?_
 refine TL.p Pu.mv ?_
 refine TL.nil ?_
 refine TQ.thenN (hZ1 (i + 1) (R ++ srN G Pb (i + 1)) (by first | exact A3 | exact Aa) (by first | exact c3 | exact ca) ia ic _ _ ?_ ?_ fs9 ?_)
 exact ⟨by omega, rfl⟩
 exact zom9
 rw [hq9]
 exact KSub.cons pk9 (KSub.cons pk9 (KSub.own pk9 (fun k hk => by first | rfl | (unfold catR; rw [if_pos hk]) | (unfold nL; rw [getD_appl hk])) (KSub.cons pk9 (KSub.cons pk9 KSub.nil))))
 try simp only [zcb9] at hc4
 have hp1 : (maB H (L X.length) i && !X.contains i) = true := by rw [hc4.1, hc4.2]; rfl
 have hXi : ∀ j ∈ X ++ [i], j < H.n := fun j hj => by
  rcases List.mem_append.1 hj with hj | hj
  exact hXb j hj
  have := List.mem_singleton.1 hj; omega
 refine TW.skip ?_
 refine TQ.thenN (hY19 _ _ ?_)
 refine TW.seq fun Y21 hY21 => TW.region ?_
 refine TL.p (by first | exact (Pu.ld ty_sc28) | exact (Pu.ldo ty_sc28)) ?_
 refine TL.p Pu.mv ?_
 refine TL.m Mk.bl ?_
 intro b2
 first | refine TL.a0 ty_et28 ?_ | refine TL.ap ty_et28 ?_
 intro A3 c3
 first | refine TL.st ty_sz28 ?_ | refine TL.se ty_sz28 ?_
 refine TL.nil (TQ.thenN (hY21 _ _ ?_))
 refine TW.seq fun Y22 hY22 => ?_
 refine TW.seq fun Y23 hY23 => TW.region ?_
 refine TL.p (by first | exact (Pu.ld ty_sc38) | exact (Pu.ldo ty_sc38)) ?_
 refine TL.p Pu.fn ?_
 refine TL.cr rfl (enters Tryz.func52 rfl rfl) (fun w hw => by
   have q1 := OldB.of_blk (hw.holds (.blk bA 28 [.slice A3 (X.length + 1) c3]) (Pick.mem pk9))
   have q2 : RdR w 1 A3 (X ++ [i]).length (nL (X ++ [i])) := by
    rw [List.length_append]
    exact (OwnR.rdr (hw.holds (.own A3 (X.length + 1) c3 3 1 (catR X.length (nL X) (fun _ => [.int .i64 (i : Int)]))) (Pick.mem pk9))).cong9 fun k hk => nL_app rfl rfl rfl k hk
   have q3 := oK.sat hw nK
   have q4 := bl9 hw
   exact hasCalf_any (fs := []) (cs := [.pointer (some ⟨bK, 0, none⟩)]) (v := fun k => (dm k, yg k)) (p := fun k => !kl1 (moH H) dm yg (X ++ [i]) k) (enters Tryz.func58 rfl rfl) (by omega) ((hC.ext q4).hR) fun k hk w' hb => nkin_any (q3.ext hb) fun w'' hb2 => kin_any (m := X.length + 1) (ca := c3) (by simp) hXi h16 (by omega) (hcv' k hk).1 (hcv' k hk).2 ((q1.ext hb).ext hb2) (by
    have q5 : RdR w 1 A3 (X.length + 1) (nL (X ++ [i])) := by rw [show X.length + 1 = (X ++ [i]).length by simp]; exact q2
    exact ⟨(q5.rd.below hb).below hb2, q5.len⟩) ((oH.ext q4).ext hb |>.ext hb2) ((hW.ext q4).ext hb |>.ext hb2)) ?_
 refine TL.p Pu.no ?_
 refine TL.nil (TQ.thenN (hY23 _ _ ?_))
 refine TW.cond rfl (fun hc5 => ?_) (fun hc5 => ?_)
 try simp only [zcb9] at hc5
 have hkb : klB (moH H) nc dm yg (X ++ [i]) = true := by
  have : anyB nc (fun k => !kl1 (moH H) dm yg (X ++ [i]) k) = false := by simpa using hc5
  refine allB_iff.2 fun k hk => ?_
  have := anyB_false.1 this k hk
  simpa using this
 have hp2 : Pb i = true := by rw [hPy, hp1, hkb]; rfl
 obtain ⟨Q2, hQ2⟩ : ∃ Q2, Q2 = Q ++ srch H L nc dm yg r' (putS1 S i (agd (S i) (L X.length))) (X ++ [i]) := ⟨_, rfl⟩
 have hq9 : R ++ srN G Pb (i + 1) = Q2 := by rw [hyes i hp2, hQ2, hQ, ← hGi, List.append_assoc]
 refine TW.seq fun Y24 hY24 => TW.region ?_
 refine TL.p Pu.mv ?_
 refine TL.call (M := []) rfl (enters Tryz.func59 rfl rfl) (List.Perm.refl _) rfl (fun w hw => by
   exact cloneSpan_any (S := S) (by omega) (hRb.sat0 hw hAb)) ?_
 rintro ⟨A8, c8⟩
 refine TL.p Pu.as ?_
 refine TL.nil (TQ.thenN (hY24 _ _ ?_))
 refine TW.seq fun Y25 hY25 => ?_
 refine TW.dw 12 ?_
 refine RK.tk Pu.mv ?_
 refine RK.tk Pu.mv ?_
 refine RK.tk Pu.mv ?_
 refine RK.tk Pu.mv ?_
 refine RK.tk (Pu.el ty_et31) ?_
 refine RK.tk (by first | exact (Pu.lds ty_ag36) | exact (Pu.ldso ty_ag36)) ?_
 refine RK.tk (by first | exact (Pu.ld ty_sc37) | exact (Pu.ldo ty_sc37)) ?_
 refine RK.tk Pu.mv ?_
 refine RK.tk (Pu.el ty_et37) ?_
 refine RK.tk (by first | exact (Pu.lds ty_ag42) | exact (Pu.ldso ty_ag42)) ?_
 refine RK.keep ?_
 refine RK.keep ?_
 refine RK.ch [false, true] ?_ trivial
 refine WK.cr rfl (enters Tryz.func60 rfl rfl) (fun w hw => by
   exact fA _ i _ hkl) ?_
 refine WK.p (Pu.el ty_et31) ?_
 refine WK.n ?_
 first | refine TL.st ty_sz36 ?_ | refine TL.se ty_sz36 ?_
 refine TL.nil (TQ.thenN (hY25 _ _ ?_))
 refine TW.region ?_
 refine TL.p (by first | exact (Pu.ld ty_sc107) | exact (Pu.ldo ty_sc107)) ?_
 refine TL.p Pu.mv ?_
 refine TL.subK (K' := nxM bF bA An nl Q (X ++ [i]) ((A3, c3), ia, ic) ++ [.own A8 H.n c8 36 2 (fun j => spL (putS1 S i (agd (S i) (L X.length)) j).1 (putS1 S i (agd (S i) (L X.length)) j).2)]) (by
  simp only [nxM, List.length_append, List.length_singleton, List.cons_append, List.nil_append]
  exact KSub.cons pk9 (KSub.cons pk9 (KSub.own pk9 (nL_app rfl rfl rfl) (KSub.cons pk9 (KSub.cons pk9 (KSub.own pk9 put_row KSub.nil)))))) ?_
 refine TL.cvk (M := nxM bF bA An nl Q (X ++ [i]) ((A3, c3), ia, ic)) (K' := [.own A8 H.n c8 36 2 (fun j => spL (putS1 S i (agd (S i) (L X.length)) j).1 (putS1 S i (agd (S i) (L X.length)) j).2)]) rfl rfl (enters Tryz.func54 rfl rfl) (List.Perm.refl _) (fun w hw => by
  have hs := (Has.sat ⟨[.own A8 H.n c8 36 2 (fun j => spL (putS1 S i (agd (S i) (L X.length)) j).1 (putS1 S i (agd (S i) (L X.length)) j).2)], List.Perm.refl _⟩ hw).self
  have h9 := ihr w (X ++ [i]) Q (putS1 S i (agd (S i) (L X.length))) A8 c8 ((A3, c3), ia, ic) (by rw [List.length_append, List.length_singleton]; omega) hXi (agd_bd hBd hih (hlk _ hkl)) hQl hs (hX0.sat hw (fun b hb => by rw [feet_append]; exact List.mem_append_left _ hb)) (OwnR.rdr (hw.holds (.own A8 H.n c8 36 2 (fun j => spL (putS1 S i (agd (S i) (L X.length)) j).1 (putS1 S i (agd (S i) (L X.length)) j).2)) (by simp))) (fun _ => Sat.apartO hw (n := H.n) (c := c8) (E := 36) (sz := 2) (r := fun j => spL (putS1 S i (agd (S i) (L X.length)) j).1 (putS1 S i (agd (S i) (L X.length)) j).2) (by simp))
  rw [← hQ2] at h9
  exact h9) ?_
 rintro ⟨⟨A3, c3⟩, ia, ic⟩
 simp only [nxM, List.length_append, List.length_singleton, List.cons_append, List.nil_append]
 refine TL.nil (TQ.thenN (hY22 _ _ ?_))
 refine TW.region ?_
 refine TL.p (by first | exact (Pu.ld ty_sc28) | exact (Pu.ldo ty_sc28)) ?_
 refine TL.p Pu.mv ?_
 refine TL.capLe (n := X.length + 1) pk9 (fun hcap => ?_)
 refine TL.p (Pu.sh ty_et28) ?_
 refine TL.take (n := X.length + 1) (m := X.length) pk9 (by omega) ?_
 first | refine TL.st ty_sz28 ?_ | refine TL.se ty_sz28 ?_
 refine TL.nil ?_
 refine TQ.blkN ?_
 refine TQ.thenN (hY17 _ _ ?_)
 refine TW.region ?_
 refine TL.p Pu.ad ?_
 refine TL.p Pu.mv ?_
 refine TL.nil ?_
 refine TQ.thenN (hZ1 (i + 1) (R ++ srN G Pb (i + 1)) (by first | exact A3 | exact Aa) (by first | exact c3 | exact ca) ia ic _ _ ?_ ?_ fs9 ?_)
 exact ⟨by omega, rfl⟩
 exact zom9
 rw [hq9]
 exact KSub.cons pk9 (KSub.cons pk9 (KSub.own pk9 (fun k hk => by first | rfl | (unfold catR; rw [if_pos hk]) | (unfold nL; rw [getD_appl hk])) (KSub.cons pk9 (KSub.cons pk9 KSub.nil))))
 try simp only [zcb9] at hc5
 have hp2 : Pb i = false := by
  rw [hPy, hp1, Bool.true_and]
  have : anyB nc (fun k => !kl1 (moH H) dm yg (X ++ [i]) k) = true := by simpa using hc5
  cases hz : klB (moH H) nc dm yg (X ++ [i]) with
  | false => rfl
  | true =>
   obtain ⟨k, hk, hk2⟩ := anyB_iff.1 this
   have := allB_iff.1 hz k hk
   rw [this] at hk2; cases hk2
 have hq9 : R ++ srN G Pb (i + 1) = Q := by rw [hno9 i hp2, hQ]
 refine TW.skip ?_
 refine TQ.thenN (hY22 _ _ ?_)
 refine TW.region ?_
 refine TL.p (by first | exact (Pu.ld ty_sc28) | exact (Pu.ldo ty_sc28)) ?_
 refine TL.p Pu.mv ?_
 refine TL.capLe (n := X.length + 1) pk9 (fun hcap => ?_)
 refine TL.p (Pu.sh ty_et28) ?_
 refine TL.take (n := X.length + 1) (m := X.length) pk9 (by omega) ?_
 first | refine TL.st ty_sz28 ?_ | refine TL.se ty_sz28 ?_
 refine TL.nil ?_
 refine TQ.blkN ?_
 refine TQ.thenN (hY17 _ _ ?_)
 refine TW.region ?_
 refine TL.p Pu.ad ?_
 refine TL.p Pu.mv ?_
 refine TL.nil ?_
 refine TQ.thenN (hZ1 (i + 1) (R ++ srN G Pb (i + 1)) (by first | exact A3 | exact Aa) (by first | exact c3 | exact ca) ia ic _ _ ?_ ?_ fs9 ?_)
 exact ⟨by omega, rfl⟩
 exact zom9
 rw [hq9]
 exact KSub.cons pk9 (KSub.cons pk9 (KSub.own pk9 (fun k hk => by first | rfl | (unfold catR; rw [if_pos hk]) | (unfold nL; rw [getD_appl hk])) (KSub.cons pk9 (KSub.cons pk9 KSub.nil))))
 refine TW.dw 12 ?_
 refine RK.tk (by first | exact (Pu.lds ty_ag111) | exact (Pu.ldso ty_ag111)) ?_
 refine RK.tk (by first | exact (Pu.ld ty_sc37) | exact (Pu.ldo ty_sc37)) ?_
 refine RK.tk Pu.mv ?_
 refine RK.tk (Pu.el ty_et37) ?_
 refine RK.tk (by first | exact (Pu.lds ty_ag42) | exact (Pu.ldso ty_ag42)) ?_
 refine RK.keep ?_
 refine RK.keep ?_
 refine RK.keep ?_
 refine RK.keep ?_
 refine RK.keep ?_
 refine RK.keep ?_
 refine RK.keep ?_
 refine RK.ch [false, true, true, true, true, false, true] ?_ trivial
 refine WK.cr rfl (enters Tryz.func56 rfl rfl) (fun w hw => by
   exact fB _ i _ hih hkl ((hL.hL _ hkl).ext (bl9 hw))) ?_
 refine WK.p Pu.no ?_
 refine WK.p Pu.mv ?_
 refine WK.guard (t := 67) rfl (fun hg1 => ?_) (fun hg1 => ?_)
 try simp only [zgb9] at hg1
 refine WK.ps ?_
 refine WK.ps ?_
 refine WK.gs ?_
 refine WK.p Pu.kt ?_
 refine WK.n ?_
 refine TL.nil ?_
 exact TQ.sub (by repeat (first | exact trivial | refine ⟨rfl, ?_⟩ | refine ⟨trivial, ?_⟩ | refine ⟨(by show some (Value.bool _) = some (Value.bool _); first | (simp [hg1]; done) | (refine congrArg (fun z => some (Value.bool z)) (Bool.eq_iff_iff.2 ?_); simp [hg1]; omega)), ?_⟩)) ks9 hJ1
 try simp only [zgb9] at hg1
 refine WK.p (by first | exact (Pu.ld ty_sc28) | exact (Pu.ldo ty_sc28)) ?_
 refine WK.p Pu.mv ?_
 refine WK.cr rfl (enters Tryz.func57 rfl rfl) (fun w hw => by
   exact bCont_any i rfl (by omega) (OwnR.rdr (hw.holds (.own Aa X.length ca 3 1 (nL X)) (Pick.mem pk9)))) ?_
 refine WK.p Pu.kf ?_
 refine WK.n ?_
 refine TL.nil ?_
 exact TQ.sub (by repeat (first | exact trivial | refine ⟨rfl, ?_⟩ | refine ⟨trivial, ?_⟩ | refine ⟨(by show some (Value.bool _) = some (Value.bool _); first | (simp [hg1]; done) | (refine congrArg (fun z => some (Value.bool z)) (Bool.eq_iff_iff.2 ?_); simp [hg1]; omega)), ?_⟩)) ks9 hJ1
 try simp only [zcb9] at hc3
 obtain rfl : i = H.n := by omega
 refine TW.exit ?_
 refine TQ.thenX ?_
 refine TQ.thenX ?_
 refine TQ.blkX ?_
 refine TQ.end Tryz.results54 rfl (.nil) ?_
 exact fun w hw => ⟨((Aa, ca), ia, ic), rfl, by rw [hQ1, ← hQ]; exact hw.sub ks9⟩
theorem nx_all (hk : HOk H) (hI : HIn w0 A H a c) (hW : HwIn w0 H A cp xo) (hL : LksIn w0 nl L B la lc) (hC : CvsIn w0 nc dm yg C) (hlk : ∀ k, k < nl → lkB (L k) = true) (hcv : cvB nl nc dm yg = true) (h4 : nl ≤ 4)
  (oH : OldB w0 bH [.pointer (some ⟨xo.1.1, 0, none⟩)]) (oL : OldB w0 bL [.slice B nl cb]) (oC : OldB w0 bC [.slice C nc cc]) : ∀ r, NxtOk w0 H An nl nc L dm yg bH bA bL bF bN bC bK bX r
 | 0 => nx_step hk hI hW hL hC hlk hcv h4 oH oL oC fun r' h => by omega
 | r + 1 => nx_step hk hI hW hL hC hlk hcv h4 oH oL oC fun r' h => by
  obtain rfl : r' = r := by omega
  exact nx_all hk hI hW hL hC hlk hcv h4 oH oL oC r'
end
end Go.Proofs.YtbenhafhklfhmaaGreat
namespace Go.Proofs.YtbenhafhklfhmaaGreat
set_option linter.all false
set_option linter.unusedVariables false
set_option linter.unusedSimpArgs false
open Go.RowKit
def nmN (H : Hd) (nl : Nat) (L : Nat → Lk) (nc : Nat) (dm yg : Nat → Int) : Nat := if nmC H nl L nc dm yg = 0 then nl else 0
def nmV (H : Hd) (nl : Nat) (L : Nat → Lk) (nc : Nat) (dm yg : Nat → Int) (y : NX9) : Value := .tuple #[.slice y.1.1 (nmN H nl L nc dm yg) y.1.2, .int .i64 (nmC H nl L nc dm yg)]
def nmF (H : Hd) (nl : Nat) (L : Nat → Lk) (nc : Nat) (dm yg : Nat → Int) (y : NX9) : List Fact := [.own y.1.1 (nmN H nl L nc dm yg) y.1.2 28 1 (fun k => [.slice (y.2.1 k) (nmL H nl L nc dm yg k).length (y.2.2 k)]), tied (ownsE 3 1 y.2.1 (fun k => (nmL H nl L nc dm yg k).length) y.2.2 (fun k => iL (nmL H nl L nc dm yg k)) (nmN H nl L nc dm yg))]
section
variable {H : Hd} {nl nc : Nat} {L : Nat → Lk} {dm yg : Nat → Int}
theorem nm_bad {w0 w : World} {K : List Fact} {e : Int} (h : Sat [] w0 K w) (he : nmC H nl L nc dm yg = e) (h0 : e ≠ 0) : ∃ y : NX9, Ending.returned (retV [.slice none 0 0, .int .i64 e]) = .returned (nmV H nl L nc dm yg y) ∧ Sat [] w0 (nmF H nl L nc dm yg y) w := by
 have hN : nmN H nl L nc dm yg = 0 := if_neg (by rw [he]; exact h0)
 refine ⟨((none, 0), fun _ => none, fun _ => 0), ?_, ?_⟩
 · unfold nmV
   rw [hN, he]; rfl
 · unfold nmF
   rw [hN]
   have h1 : Sat [] w0 ([] ++ [Fact.own none 0 0 28 1 (fun k => [.slice none (nmL H nl L nc dm yg k).length 0])]) w := h.sub (KSub.nilOwn KSub.nil)
   exact (Sat.bun (K1 := []) h1).perm (List.Perm.swap _ _ _)
end
theorem TW.tiedN {cx : Cx} {Q : Exit → Act → World → Prop} {F : Fr} {K : List Fact} {x : Code} {E : TypeId} {sz : Nat} {r : Nat → Nat → List Value} (n : Nat) (h : TW cx x Q F (tied (ownsE E sz (fun _ => none) (fun _ => 0) (fun _ => 0) r n) :: K)) : TW cx x Q F K := fun a w hF hK => by
 have key : ∀ n, KSub K (ownsE E sz (fun _ => none) (fun _ => 0) (fun _ => 0) r n ++ K) := fun n => by
  induction n with
  | zero => exact KSub.refl _
  | succ n ih => exact KSub.nilOwn ih
 exact h a w hF (hK.sub (key n)).bun
set_option maxRecDepth 100000 in
set_option maxHeartbeats 8000000 in
theorem bNames_any {w : World} {A B C : Option Addr} {cp cb cc nl nc : Nat} {H : Hd} {a : Nat → Option Addr} {c : Nat → Nat} {L : Nat → Lk} {la : Nat → Option Addr} {lc : Nat → Nat} {dm yg : Nat → Int} (hI : HIn w A H a c) (hL : LksIn w nl L B la lc) (hC : CvsIn w nc dm yg C) :
  CallsK Tryz.prog 20 #[.slice A H.n cp, .slice B nl cb, .slice C nc cc] [] w NX9 (nmV H nl L nc dm yg) (nmF H nl L nc dm yg) := by
 have hnl := hL.hn
 have hnc := hC.hn
 by_cases hc : livC H = 0
 case neg =>
  have hf : nmC H nl L nc dm yg = livC H := if_pos hc
  refine K_enter (S := []) (K := []) Tryz.func20 rfl Tryz.ntmps20 rfl (Sat.start _) ?_
  refine TW.seq fun Y1 hY1 => TW.region ?_
  refine TL.m Mk.bx ?_
  intro b1
  refine TL.m Mk.bx ?_
  intro b2
  refine TL.p Pu.as ?_
  refine TL.p Pu.as ?_
  refine TL.nil (TQ.thenN (hY1 _ _ ?_))
  refine TW.seq fun Y2 hY2 => TW.region ?_
  refine TL.p Pu.mv ?_
  refine TL.call (M := []) rfl (enters Tryz.func46 rfl rfl) (List.Perm.refl _) rfl (fun w hw => by
    have h9 := lived_any (cp := cp) (hI.ext (Chg.ext hw.chg))
    simp only [if_neg hc] at h9
    exact h9) ?_
  rintro ⟨xo, A3, c3⟩
  refine TL.p Pu.mv ?_
  refine TL.p Pu.ex ?_
  refine TL.p Pu.ex ?_
  refine TL.p Pu.ex ?_
  refine TL.m (Mk.al ty_zr96) ?_
  intro b3
  first | refine TL.st ty_sz96 ?_ | refine TL.se ty_sz96 ?_
  refine TL.p Pu.as ?_
  refine TL.p Pu.as ?_
  refine TL.nil (TQ.thenN (hY2 _ _ ?_))
  refine TW.seq fun Y3 hY3 => ?_
  refine TW.seq fun Y4 hY4 => TW.region ?_
  refine TL.p Pu.mv ?_
  refine TL.p Pu.ne ?_
  refine TL.nil (TQ.thenN (hY4 _ _ ?_))
  refine TW.condT rfl ((by simpa using hc)) ?_
  refine TW.seq fun Y5 hY5 => TW.region ?_
  refine TL.p Pu.mv ?_
  refine TL.p Pu.as ?_
  refine TL.p Pu.as ?_
  refine TL.nil (TQ.thenN (hY5 _ _ ?_))
  refine TW.ret ?_
  refine TQ.thenR ?_
  refine TQ.ret Tryz.results20 rfl ((.tmp rfl (.tmp rfl .nil))) ?_
  exact fun w hw => nm_bad hw hf hc
 case pos =>
  have hh : herdB H = true := by
   cases hh : herdB H with
   | true => rfl
   | false => unfold livC at hc; rw [hh] at hc; cases hc
  have hk := herdB_ok.1 hh
  have h16 := hk.n16
  have hf9 : nmC H nl L nc dm yg = if lksC nl L nc dm yg ≠ 0 then lksC nl L nc dm yg else if (nmR H nl L nc dm yg).length = 0 then 23 else 0 := if_neg (fun h => h hc)
  refine K_enter (S := []) (K := []) Tryz.func20 rfl Tryz.ntmps20 rfl (Sat.start _) ?_
  refine TW.seq fun Y1 hY1 => TW.region ?_
  refine TL.m Mk.bx ?_
  intro b1
  refine TL.m Mk.bx ?_
  intro b2
  refine TL.p Pu.as ?_
  refine TL.p Pu.as ?_
  refine TL.nil (TQ.thenN (hY1 _ _ ?_))
  refine TW.seq fun Y2 hY2 => TW.region ?_
  refine TL.p Pu.mv ?_
  refine TL.call (M := []) rfl (enters Tryz.func46 rfl rfl) (List.Perm.refl _) rfl (fun w hw => by
    have h9 := lived_any (cp := cp) (hI.ext (Chg.ext hw.chg))
    simp only [if_pos hc] at h9
    exact h9) ?_
  rintro ⟨xo, A3, c3⟩
  simp only [opK, List.cons_append, List.nil_append]
  refine TL.p Pu.mv ?_
  refine TL.p Pu.ex ?_
  refine TL.p Pu.ex ?_
  refine TL.p Pu.ex ?_
  refine TL.m (Mk.al ty_zr96) ?_
  intro b3
  first | refine TL.st ty_sz96 ?_ | refine TL.se ty_sz96 ?_
  refine TL.p Pu.as ?_
  refine TL.p Pu.as ?_
  refine TL.nil (TQ.thenN (hY2 _ _ ?_))
  refine TW.seq fun Y3 hY3 => ?_
  refine TW.seq fun Y4 hY4 => TW.region ?_
  refine TL.p Pu.mv ?_
  refine TL.p Pu.ne ?_
  refine TL.nil (TQ.thenN (hY4 _ _ ?_))
  refine TW.condF rfl (rfl) ?_
  refine TW.skip ?_
  refine TQ.thenN (hY3 _ _ ?_)
  refine TW.seq fun Y5 hY5 => ?_
  refine TW.seq fun Y6 hY6 => ?_
  refine TW.join [(35, .bool (decide ((4 : Int) < (nl : Int)) || decide ((6 : Int) < (nc : Int))))] ?_ (fun hJ1 => ?_)
  refine TQ.thenN (hY6 _ _ ?_)
  refine TW.cond rfl (fun hc1 => ?_) (fun hc1 => ?_)
  try simp only [zcb9] at hc1
  have hlc : lksC nl L nc dm yg = 4 := by unfold lksC; rw [if_pos (by intro hh; rcases hc1 with h | h <;> omega)]
  have hf : nmC H nl L nc dm yg = 4 := by rw [hf9, hlc]; rfl
  refine TW.seq fun Y7 hY7 => TW.region ?_
  refine TL.p Pu.as ?_
  refine TL.p Pu.as ?_
  refine TL.nil (TQ.thenN (hY7 _ _ ?_))
  refine TW.ret ?_
  refine TQ.thenR ?_
  refine TQ.ret Tryz.results20 rfl ((.tmp rfl (.tmp rfl .nil))) ?_
  exact fun w hw => nm_bad hw hf (by decide)
  try simp only [zcb9] at hc1
  have hsm : (nl : Int) ≤ 4 ∧ (nc : Int) ≤ 6 := ⟨by have := hc1.1; omega, by have := hc1.2; omega⟩
  refine TW.skip ?_
  refine TQ.thenN (hY5 _ _ ?_)
  refine TW.seq fun Y8 hY8 => TW.region ?_
  refine TL.p Pu.fn ?_
  refine TL.p Pu.as ?_
  refine TL.nil (TQ.thenN (hY8 _ _ ?_))
  refine TW.seq fun Y9 hY9 => ?_
  refine TW.seq fun Y10 hY10 => ?_
  refine TW.join [(43, .bool (anyB nl (fun k => !lkB (L k)) || anyB nc (fun k => !cv1 nl dm yg k)))] ?_ (fun hJ2 => ?_)
  refine TQ.thenN (hY10 _ _ ?_)
  refine TW.cond rfl (fun hc2 => ?_) (fun hc2 => ?_)
  try simp only [zcb9] at hc2
  have hlc : lksC nl L nc dm yg = 22 := by
   unfold lksC
   rw [if_neg (fun h => h hsm), if_neg]
   intro hh
   rw [Bool.and_eq_true, ← cv_all] at hh
   rcases hc2 with h | h
   obtain ⟨k, hk1, hk2⟩ := anyB_iff.1 h
   have := allB_iff.1 hh.1 k hk1
   rw [this] at hk2; cases hk2
   obtain ⟨k, hk1, hk2⟩ := anyB_iff.1 h
   have := allB_iff.1 hh.2 k hk1
   rw [this] at hk2; cases hk2
  have hf : nmC H nl L nc dm yg = 22 := by rw [hf9, hlc]; rfl
  refine TW.seq fun Y11 hY11 => TW.region ?_
  refine TL.p Pu.as ?_
  refine TL.p Pu.as ?_
  refine TL.nil (TQ.thenN (hY11 _ _ ?_))
  refine TW.ret ?_
  refine TQ.thenR ?_
  refine TQ.ret Tryz.results20 rfl ((.tmp rfl (.tmp rfl .nil))) ?_
  exact fun w hw => nm_bad hw hf (by decide)
  try simp only [zcb9] at hc2
  have hlk : ∀ k, k < nl → lkB (L k) = true := fun k hk1 => by
   have := anyB_false.1 hc2.1 k hk1
   simpa using this
  have hcv : cvB nl nc dm yg = true := by
   rw [← cv_all]
   refine allB_iff.2 fun k hk1 => ?_
   have := anyB_false.1 hc2.2 k hk1
   simpa using this
  have hlc : lksC nl L nc dm yg = 0 := by
   unfold lksC
   rw [if_neg (fun h => h hsm), if_pos]
   rw [hcv, Bool.and_true]
   exact allB_iff.2 hlk
  have hf8 : nmC H nl L nc dm yg = if (nmR H nl L nc dm yg).length = 0 then 23 else 0 := by rw [hf9, hlc]; rfl
  have h4 : nl ≤ 4 := by omega
  refine TW.skip ?_
  refine TQ.thenN (hY9 _ _ ?_)
  refine TW.rebase fun w1 hw1 => ?_
  have oL : OldB w1 b1 [.slice B nl cb] := OldB.of_blk (hw1.holds (.blk b1 37 [.slice B nl cb]) (Pick.mem pk9))
  have oC : OldB w1 b2 [.slice C nc cc] := OldB.of_blk (hw1.holds (.blk b2 38 [.slice C nc cc]) (Pick.mem pk9))
  have oH : OldB w1 b3 [.pointer (some ⟨xo.1.1, 0, none⟩)] := OldB.of_blk (hw1.holds (.blk b3 96 [.pointer (some ⟨xo.1.1, 0, none⟩)]) (Pick.mem pk9))
  have hW : HwIn w1 H A cp xo := opK_in (A := A) (cp := cp) (x := xo) hw1 (by intro φ h; simp only [opK, List.mem_cons, List.not_mem_nil, or_false] at h; rcases h with rfl | rfl | rfl | rfl <;> exact Pick.mem pk9)
  have hI1 := hI.ext (Chg.ext hw1.chg)
  have hL1 := hL.ext (Chg.ext hw1.chg)
  have hC1 := hC.ext (Chg.ext hw1.chg)
  refine TW.seq fun Y12 hY12 => TW.region ?_
  refine TL.m (Mk.al ty_zr28) ?_
  intro b4
  refine TL.nil (TQ.thenN (hY12 _ _ ?_))
  refine TW.seq fun Y13 hY13 => TW.region ?_
  refine TL.p (Pu.ldo ty_sc37) ?_
  refine TL.p (Pu.ln Tryz.underlying37) ?_
  refine TL.ms ty_et52 ty_zr28 ?_
  intro b5
  refine TL.m (Mk.al ty_zr52) ?_
  intro b6
  first | refine TL.st ty_sz52 ?_ | refine TL.se ty_sz52 ?_
  refine TL.nil (TQ.thenN (hY13 _ _ ?_))
  refine TW.seq fun Y14 hY14 => TW.region ?_
  refine TL.m (Mk.al ty_zr4) ?_
  intro b7
  first | refine TL.st ty_sz4 ?_ | refine TL.se ty_sz4 ?_
  refine TL.nil (TQ.thenN (hY14 _ _ ?_))
  refine TW.seq fun Y15 hY15 => TW.region ?_
  refine TL.p Pu.fn ?_
  refine TL.m (Mk.al ty_zr100) ?_
  intro b8
  first | refine TL.st ty_sz100 ?_ | refine TL.se ty_sz100 ?_
  refine TL.nil (TQ.thenN (hY15 _ _ ?_))
  refine TW.seq fun Y16 hY16 => TW.region ?_
  refine TL.m (Mk.al ty_zr107) ?_
  intro b9
  refine TL.nil (TQ.thenN (hY16 _ _ ?_))
  refine TW.seq fun Y17 hY17 => TW.region ?_
  refine TL.p Pu.fn ?_
  first | refine TL.st ty_sz107 ?_ | refine TL.se ty_sz107 ?_
  refine TL.nil (TQ.thenN (hY17 _ _ ?_))
  refine TW.subK (KSub.nilOwn (E := 3) (sz := 1) (r := nL []) (KSub.refl _)) ?_
  refine TW.tiedN (E := 3) (sz := 1) (r := fun k => nL (colR [] k)) nl ?_
  refine TW.seq fun Y18 hY18 => ?_
  refine TW.ex0k [.blk b9 107 [.func (.func 54) #[] (NCAP b3 b4 b1 b7 b6 b2 b8 b9).toArray]] ?_
  refine RG.tk 0 rfl (Pu.ld ty_sc107) ?_
  refine RG.tk 1 rfl (Pu.ldo ty_sc96) ?_
  refine RG.a1 2 rfl (fun X2 hX2 => ?_)
  refine TL.call (M := []) rfl (enters Tryz.func61 rfl rfl) (List.Perm.refl _) rfl (fun w hw => by
    exact born_any (x := xo) (hI1.ext (Chg.ext hw.chg)) (hW.ext (Chg.ext hw.chg))) ?_
  rintro ⟨A8, c8⟩
  refine TL.nil ?_
  refine TQ.nxt (hX2 _ _ hl9 ?_)
  refine RG.a1 3 rfl (fun X3 hX3 => ?_)
  refine TL.subK (K' := nxM b7 b4 (some ⟨b5, 0, none⟩) nl [] [] ((none, 0), fun _ => none, fun _ => 0) ++ [.own A8 H.n c8 36 2 (fun j => spL (bornH H j).1 (bornH H j).2), .blk b6 52 [.slice (some ⟨b5, 0, none⟩) nl nl], .blk b8 100 [.func (.func 53) #[] #[.pointer (some ⟨b4, 0, none⟩), .pointer (some ⟨b3, 0, none⟩)]], .blk b9 107 [.func (.func 54) #[] (NCAP b3 b4 b1 b7 b6 b2 b8 b9).toArray]]) (by
   simp only [nxM, List.cons_append, List.nil_append]
   exact KSub.cons pk9 (KSub.cons pk9 (KSub.cons pk9 (KSub.own pk9 (fun _ _ => rfl) (KSub.cons pk9 (KSub.cons pk9 (KSub.cons pk9 (KSub.cons pk9 (KSub.cons pk9 KSub.nil))))))))) ?_
  refine TL.cvk (M := nxM b7 b4 (some ⟨b5, 0, none⟩) nl [] [] ((none, 0), fun _ => none, fun _ => 0)) (K' := [.own A8 H.n c8 36 2 (fun j => spL (bornH H j).1 (bornH H j).2), .blk b6 52 [.slice (some ⟨b5, 0, none⟩) nl nl], .blk b8 100 [.func (.func 53) #[] #[.pointer (some ⟨b4, 0, none⟩), .pointer (some ⟨b3, 0, none⟩)]], .blk b9 107 [.func (.func 54) #[] (NCAP b3 b4 b1 b7 b6 b2 b8 b9).toArray]]) rfl rfl (enters Tryz.func54 rfl rfl) (List.Perm.refl _) (fun w hw => by
   have hs := (Has.sat ⟨_, List.Perm.refl _⟩ hw).self
   have hX : NxX w1 w (feet (nxM b7 b4 (some ⟨b5, 0, none⟩) nl [] [] ((none, 0), fun _ => none, fun _ => 0))) b6 b8 b9 (some ⟨b5, 0, none⟩) nl (.func (.func 53) #[] #[.pointer (some ⟨b4, 0, none⟩), .pointer (some ⟨b3, 0, none⟩)]) (.func (.func 54) #[] (NCAP b3 b4 b1 b7 b6 b2 b8 b9).toArray) := ⟨Chg.ext hw.chg, fun b hb => (hw.ge b (by rw [feet_append]; exact List.mem_append_left _ hb)).elim (fun h9 => by cases h9) id, OldB.of_blk (hw.holds (.blk b6 52 [.slice (some ⟨b5, 0, none⟩) nl nl]) (by simp)), OldB.of_blk (hw.holds (.blk b8 100 [.func (.func 53) #[] #[.pointer (some ⟨b4, 0, none⟩), .pointer (some ⟨b3, 0, none⟩)]]) (by simp)), OldB.of_blk (hw.holds (.blk b9 107 [.func (.func 54) #[] (NCAP b3 b4 b1 b7 b6 b2 b8 b9).toArray]) (by simp)), Sat.apartB hw (t := 52) (cs := [.slice (some ⟨b5, 0, none⟩) nl nl]) (by simp) b6 rfl, Sat.apartB hw (t := 100) (cs := [.func (.func 53) #[] #[.pointer (some ⟨b4, 0, none⟩), .pointer (some ⟨b3, 0, none⟩)]]) (by simp) b8 rfl, Sat.apartB hw (t := 107) (cs := [.func (.func 54) #[] (NCAP b3 b4 b1 b7 b6 b2 b8 b9).toArray]) (by simp) b9 rfl⟩
   exact nx_all (cp := cp) (cb := cb) (cc := cc) hk hI1 hW hL1 hC1 hlk hcv h4 oH oL oC nl w [] [] (bornH H) A8 c8 ((none, 0), fun _ => none, fun _ => 0) (Nat.zero_add _) (fun i h => by cases h) (born_bd3 hk) (by
    have : 16 ^ nl ≤ 16 ^ 4 := Nat.pow_le_pow_right (by decide) h4
    have e : (16 : Nat) ^ 4 = 65536 := by decide
    simp only [List.length_nil]; omega) hs hX (OwnR.rdr (hw.holds (.own A8 H.n c8 36 2 (fun j => spL (bornH H j).1 (bornH H j).2)) (by simp))) (fun _ => Sat.apartO hw (n := H.n) (c := c8) (E := 36) (sz := 2) (r := fun j => spL (bornH H j).1 (bornH H j).2) (by simp))) ?_
  rintro ⟨⟨Aa, ca⟩, ia, ic⟩
  obtain ⟨R, hR⟩ : ∃ R, R = nmR H nl L nc dm yg := ⟨_, rfl⟩
  rw [show srch H L nc dm yg nl (bornH H) [] = R from hR.symm]
  simp only [nxM, List.cons_append, List.nil_append]
  refine TL.nil ?_
  refine TQ.nxt (hX3 _ _ hl9 ?_)
  refine RG.nil ?_ (by kernel_rfl)
  refine TQ.thenN (hY18 _ _ ?_)
  refine TW.seq fun Y19 hY19 => ?_
  refine TW.seq fun Y20 hY20 => TW.region ?_
  refine TL.p (Pu.ld ty_sc4) ?_
  refine TL.p Pu.no ?_
  refine TL.nil (TQ.thenN (hY20 _ _ ?_))
  refine TW.cond rfl (fun hc3 => ?_) (fun hc3 => ?_)
  try simp only [zcb9] at hc3
  have hr0 : (nmR H nl L nc dm yg).length = 0 := by
   rw [← hR]
   by_cases h9 : R.length = 0
   exact h9
   simp [h9] at hc3
  have hf : nmC H nl L nc dm yg = 23 := by rw [hf8, if_pos hr0]
  refine TW.seq fun Y21 hY21 => TW.region ?_
  refine TL.p Pu.as ?_
  refine TL.p Pu.as ?_
  refine TL.nil (TQ.thenN (hY21 _ _ ?_))
  refine TW.ret ?_
  refine TQ.thenR ?_
  refine TQ.ret Tryz.results20 rfl ((.tmp rfl (.tmp rfl .nil))) ?_
  exact fun w hw => nm_bad (hw.from hw1.chg (fun _ hb => .inl hb)) hf (by decide)
  try simp only [zcb9] at hc3
  have hr0 : (nmR H nl L nc dm yg).length ≠ 0 := by
   rw [← hR]
   intro h9
   simp [h9] at hc3
  have hf : nmC H nl L nc dm yg = 0 := by rw [hf8, if_neg hr0]
  have hN : nmN H nl L nc dm yg = nl := if_pos hf
  have hRl : R.length ≤ 65536 := by
   rw [hR]
   have h1 := srch_len (L := L) (nc := nc) (dm := dm) (yg := yg) h16 nl (bornH H) []
   have h2 : 16 ^ nl ≤ 16 ^ 4 := Nat.pow_le_pow_right (by decide) h4
   have e : (16 : Nat) ^ 4 = 65536 := by decide
   unfold nmR
   omega
  have hcb : ∀ k, k < nl → ∀ i ∈ colR R k, i < H.n := fun k hk1 i hi => by
   obtain ⟨x, hx, rfl⟩ := List.mem_map.1 hi
   rw [hR] at hx
   exact ((srch_vld hk hcv).1 hx).bd k hk1
  have hid9 : ∀ k, idsL H (colR R k) = nmL H nl L nc dm yg k := fun k => by rw [hR]; rfl
  refine TW.skip ?_
  refine TQ.thenN (hY19 _ _ ?_)
  refine TW.seq fun Y22 hY22 => ?_
  refine TW.seq fun Y23 hY23 => TW.region ?_
  refine TL.p (Pu.ld ty_sc52) ?_
  refine TL.p (Pu.ln Tryz.underlying52) ?_
  refine TL.p Pu.mv ?_
  refine TL.nil (TQ.thenN (hY23 _ _ ?_))
  refine TW.block ?_
  refine TW.loop5 (fun (k : Nat) (ia : Nat → Option Addr) (ic : Nat → Nat) (ln : Nat → Nat) (rr : Nat → Nat → List Value) => [(57, .int .i64 (k : Int)), (56, .int .i64 (nl : Int)), (55, .slice (some ⟨b5, 0, none⟩) nl nl), (13, .pointer (some ⟨b6, 0, none⟩)), (8, .pointer (some ⟨b3, 0, none⟩))]) (fun k ia ic ln rr => [.own (some ⟨b5, 0, none⟩) nl nl 28 1 (fun q => [.slice (ia q) (ln q) (ic q)]), tied (ownsE 3 1 ia ln ic rr nl), .blk b6 52 [.slice (some ⟨b5, 0, none⟩) nl nl]]) (fun k ia ic ln rr => k ≤ nl ∧ ∀ q, q < nl → (ln q = if q < k then (nmL H nl L nc dm yg q).length else R.length) ∧ rr q = if q < k then iL (nmL H nl L nc dm yg q) else nL (colR R q)) (fun k ia ic ln rr => nl - k) 0 ia ic (fun _ => R.length) (fun q => nL (colR R q)) fs9 ?_ ?_ ?_
  exact kt9
  exact ⟨Nat.zero_le _, fun q _ => ⟨rfl, rfl⟩⟩
  rintro k ia ic ln rr ⟨hkl, hlm⟩ Z0 hZ0
  replace hlm := hid1 hlm
  refine TW.seq fun Y24 hY24 => TW.region ?_
  refine TL.p Pu.lt ?_
  refine TL.nil (TQ.thenN (hY24 _ _ ?_))
  refine TW.seq fun Y25 hY25 => ?_
  refine TW.cond rfl (fun hc4 => ?_) (fun hc4 => ?_)
  try simp only [zcb9] at hc4
  have hkn : k < nl := by omega
  obtain ⟨hl1, hl2⟩ := hlm.out k hkn
  rw [if_neg (by omega)] at hl1 hl2
  refine TW.skip ?_
  refine TQ.thenN (hY25 _ _ ?_)
  refine TW.seq fun Y26 hY26 => ?_
  refine TW.block ?_
  refine TW.seq fun Y27 hY27 => TW.region ?_
  refine TL.p Pu.mv ?_
  refine TL.p (Pu.el ty_et52) ?_
  refine TL.p (Pu.ld ty_sc28) ?_
  refine TL.p Pu.as ?_
  refine TL.p Pu.as ?_
  refine TL.nil (TQ.thenN (hY27 _ _ ?_))
  refine TW.dw 6 ?_
  refine RK.tk (Pu.ld ty_sc52) ?_
  refine RK.tk Pu.mv ?_
  refine RK.tk (Pu.ldo ty_sc96) ?_
  refine RK.tk Pu.mv ?_
  refine RK.keep ?_
  refine RK.keep ?_
  refine RK.ch [false, true] ?_ trivial
  refine WK.call rfl (enters Tryz.func62 rfl rfl) rfl (fun w hw => by
    have q1 : RdR w 1 (ia k) (ln k) (rr k) := OwnR.rdr (bun_get hw (K1 := ownsE 3 1 ia ln ic rr nl) (Pick.mem pk9) (ownsE_mem hkn))
    rw [hl2] at q1
    have q2 := ids_any (x := xo) (cn := ic k) (X := colR R k) (by rw [hl1, List.length_map]) (by omega) (hI1.ext (Chg.ext hw.chg)) (hW.ext (Chg.ext hw.chg)) q1 (hcb k hkn)
    rw [hid9] at q2
    exact q2) ?_
  rintro ⟨A6, c6⟩
  refine WK.p (Pu.el ty_et52) ?_
  refine WK.n ?_
  refine TL.ownTake k hkn pk9 ?_
  refine TL.ownPut (A9 := A6) (l9 := (nmL H nl L nc dm yg k).length) (c9 := c6) (r9 := iL (nmL H nl L nc dm yg k)) (A2 := updA ia k A6) (l2 := updA ln k (nmL H nl L nc dm yg k).length) (c2 := updA ic k c6) (r2 := updA rr k (iL (nmL H nl L nc dm yg k))) pk9 pk9 hkn (if_pos rfl) (if_pos rfl) (if_pos rfl) (fun q hq => by rw [show updA rr k (iL (nmL H nl L nc dm yg k)) k = iL (nmL H nl L nc dm yg k) from if_pos rfl]) (fun q hq hne => ⟨(if_neg hne).symm, (if_neg hne).symm, (if_neg hne).symm, (if_neg hne).symm⟩) ?_
  refine TL.se ty_sz28 ?_
  refine TL.nil ?_
  refine TQ.blkN ?_
  refine TQ.thenN (hY26 _ _ ?_)
  refine TW.region ?_
  refine TL.p Pu.ad ?_
  refine TL.p Pu.mv ?_
  refine TL.nil ?_
  refine TQ.thenN (hZ0 (k + 1) (updA ia k A6) (updA ic k c6) (updA ln k (nmL H nl L nc dm yg k).length) (updA rr k (iL (nmL H nl L nc dm yg k))) _ _ ?_ ?_ fs9 ?_)
  refine ⟨by omega, fun q hq => ?_⟩
  obtain ⟨q1, q2⟩ := hlm.out q hq
  by_cases e : q = k
  subst e
  rw [if_pos (by omega), if_pos (by omega)]
  exact ⟨if_pos rfl, if_pos rfl⟩
  rw [show updA ln k (nmL H nl L nc dm yg k).length q = ln q from if_neg e, show updA rr k (iL (nmL H nl L nc dm yg k)) q = rr q from if_neg e, q1, q2]
  by_cases h9 : q < k
  rw [if_pos h9, if_pos h9, if_pos (by omega), if_pos (by omega)]; exact ⟨rfl, rfl⟩
  rw [if_neg h9, if_neg h9, if_neg (by omega), if_neg (by omega)]; exact ⟨rfl, rfl⟩
  exact zom9
  exact KSub.own pk9 (fun q _ => by unfold updR updA; by_cases h9 : q = k <;> simp [h9]) (KSub.cons pk9 (KSub.cons pk9 KSub.nil))
  try simp only [zcb9] at hc4
  obtain rfl : k = nl := by omega
  refine TW.exit ?_
  refine TQ.thenX ?_
  refine TQ.thenX ?_
  refine TQ.blkX ?_
  refine TQ.thenN (hY22 _ _ ?_)
  refine TW.seq fun Y28 hY28 => TW.region ?_
  refine TL.p (Pu.ld ty_sc52) ?_
  refine TL.p Pu.as ?_
  refine TL.p Pu.as ?_
  refine TL.nil (TQ.thenN (hY28 _ _ ?_))
  refine TW.ret ?_
  refine TQ.ret Tryz.results20 rfl ((.tmp rfl (.tmp rfl .nil))) ?_
  refine fun w hw => ⟨((some ⟨b5, 0, none⟩, k), ia, ic), by unfold nmV; rw [hN, hf]; rfl, ?_⟩
  have hln : ∀ q, q < k → ln q = (nmL H k L nc dm yg q).length ∧ rr q = iL (nmL H k L nc dm yg q) := fun q hq => by
   obtain ⟨q1, q2⟩ := hlm.out q hq
   rw [if_pos hq] at q1 q2
   exact ⟨q1, q2⟩
  have ho : ownsE 3 1 ia ln ic rr k = ownsE 3 1 ia (fun q => (nmL H k L nc dm yg q).length) ic (fun q => iL (nmL H k L nc dm yg q)) k := ownsE_congr2 fun q hq => ⟨rfl, (hln q hq).1, rfl, (hln q hq).2⟩
  rw [ho] at hw
  unfold nmF
  rw [hN]
  exact (hw.from hw1.chg (fun _ hb => .inl hb)).sub (KSub.own pk9 (fun q hq => by rw [(hln q hq).1]) (KSub.cons pk9 KSub.nil))
  refine TW.region ?_
  refine TL.p (Pu.ld ty_sc37) ?_
  refine TL.cr rfl (enters Tryz.func49 rfl rfl) (fun w hw => by
    exact hasLook_any (fs := []) (cs := []) (v := fun k => (L k, la k, lc k)) (p := fun k => !lkB (L k)) (enters Tryz.func50 rfl rfl) (by omega) ((hL.ext (Chg.ext hw.chg)).hR) fun k hk w' hb => nseen_any (((hL.hL k hk).ext (Chg.ext hw.chg)).ext hb)) ?_
  refine TL.p Pu.mv ?_
  refine TL.guard (t := 39) rfl (fun hg1 => ?_) (fun hg1 => ?_)
  refine TL.gs ?_
  refine TL.gs ?_
  refine TL.gs ?_
  refine TL.p Pu.kt ?_
  refine TL.nil ?_
  exact TQ.sub (by repeat (first | exact trivial | refine ⟨rfl, ?_⟩ | refine ⟨trivial, ?_⟩ | refine ⟨(by show some (Value.bool _) = some (Value.bool _); first | (simp [hg1]; done) | (refine congrArg (fun z => some (Value.bool z)) (Bool.eq_iff_iff.2 ?_); simp [hg1]; omega)), ?_⟩)) kt9 hJ2
  refine TL.gd (Pu.ld ty_sc38) ?_
  refine TL.gd Pu.mv ?_
  refine TL.cr rfl (enters Tryz.func52 rfl rfl) (fun w hw => by
    have q1 := OldB.of_blk (hw.holds (.blk b1 37 [.slice B nl cb]) (Pick.mem pk9))
    exact hasCalf_any (fs := []) (cs := [.pointer (some ⟨b1, 0, none⟩)]) (v := fun k => (dm k, yg k)) (p := fun k => !cv1 nl dm yg k) (enters Tryz.func47 rfl rfl) (by omega) ((hC.ext (Chg.ext hw.chg)).hR) fun k hk w' hb => wrong_any hnl (q1.ext hb)) ?_
  refine TL.p Pu.kf ?_
  refine TL.nil ?_
  exact TQ.sub (by repeat (first | exact trivial | refine ⟨rfl, ?_⟩ | refine ⟨trivial, ?_⟩ | refine ⟨(by show some (Value.bool _) = some (Value.bool _); first | (simp [hg1]; done) | (refine congrArg (fun z => some (Value.bool z)) (Bool.eq_iff_iff.2 ?_); simp [hg1]; omega)), ?_⟩)) kt9 hJ2
  refine TW.region ?_
  refine TL.p (Pu.ld ty_sc37) ?_
  refine TL.p (Pu.ln Tryz.underlying37) ?_
  refine TL.p Pu.gt ?_
  refine TL.p Pu.mv ?_
  refine TL.guard (t := 31) rfl (fun hg2 => ?_) (fun hg2 => ?_)
  refine TL.gs ?_
  refine TL.gs ?_
  refine TL.gs ?_
  refine TL.p Pu.kt ?_
  refine TL.nil ?_
  exact TQ.sub (by repeat (first | exact trivial | refine ⟨rfl, ?_⟩ | refine ⟨trivial, ?_⟩ | refine ⟨(by show some (Value.bool _) = some (Value.bool _); first | (simp [hg2]; done) | (refine congrArg (fun z => some (Value.bool z)) (Bool.eq_iff_iff.2 ?_); simp [hg2]; omega)), ?_⟩)) kt9 hJ1
  refine TL.gd (Pu.ld ty_sc38) ?_
  refine TL.gd (Pu.ln Tryz.underlying38) ?_
  refine TL.gd Pu.gt ?_
  refine TL.p Pu.kf ?_
  refine TL.nil ?_
  exact TQ.sub (by repeat (first | exact trivial | refine ⟨rfl, ?_⟩ | refine ⟨trivial, ?_⟩ | refine ⟨(by show some (Value.bool _) = some (Value.bool _); first | (simp [hg2]; done) | (refine congrArg (fun z => some (Value.bool z)) (Bool.eq_iff_iff.2 ?_); simp [hg2]; omega)), ?_⟩)) kt9 hJ1
end Go.Proofs.YtbenhafhklfhmaaGreat
namespace Go.Proofs.YtbenhafhklfhmaaGreat
set_option linter.all false
set_option linter.unusedVariables false
set_option linter.unusedSimpArgs false
theorem Pu.bv {c : Cx} {F : Fr} {K : List Fact} {o : Oper} {b b' : Bool} (h : Pu c F K o (.bool b)) (e : b = b') : Pu c F K o (.bool b') := e ▸ h
end Go.Proofs.YtbenhafhklfhmaaGreat
namespace Go.Proofs.YtbenhafhklfhmaaGreat
set_option linter.all false
set_option linter.unusedVariables false
set_option linter.unusedSimpArgs false
open Go.RowKit
set_option maxRecDepth 100000 in
theorem rSameL_any {w : World} {A B : Option Addr} {n c1 c2 : Nat} {a b : Nat → Option Addr} {c d : Nat → Nat} {L : Nat → List Int} (hn : n ≤ 1000000) (hL : ∀ k, k < n → (L k).length ≤ 1000000) (hA : RdR w 1 A n (fun k => [.slice (a k) (L k).length (c k)])) (hB : RdR w 1 B n (fun k => [.slice (b k) (L k).length (d k)])) (hAe : ∀ k, k < n → RdR w 1 (a k) (L k).length (iL (L k))) (hBe : ∀ k, k < n → RdR w 1 (b k) (L k).length (iL (L k))) :
  Calls Tryz.prog 42 #[.slice A n c1, .slice B n c2] w (Ret w (.bool true)) := by
 refine K_enter (S := []) (K := []) Tryz.func42 rfl Tryz.ntmps42 rfl (Sat.start _) ?_
 refine TW.seq fun Y1 hY1 => TW.region ?_
 refine TL.p Pu.as ?_
 refine TL.nil (TQ.thenN (hY1 _ _ ?_))
 refine TW.seq fun Y2 hY2 => ?_
 refine TW.seq fun Y3 hY3 => TW.region ?_
 refine TL.p Pu.mv ?_
 refine TL.p (Pu.ln Tryz.underlying52) ?_
 refine TL.p Pu.mv ?_
 refine TL.p (Pu.ln Tryz.underlying52) ?_
 refine TL.p Pu.ne ?_
 refine TL.nil (TQ.thenN (hY3 _ _ ?_))
 refine TW.condF rfl ((by simp)) ?_
 refine TW.skip ?_
 refine TQ.thenN (hY2 _ _ ?_)
 refine TW.seq fun Y4 hY4 => ?_
 refine TW.seq fun Y5 hY5 => TW.region ?_
 refine TL.p Pu.as ?_
 refine TL.nil (TQ.thenN (hY5 _ _ ?_))
 refine TW.block ?_
 refine TW.loop1 (fun (k : Nat) => [(5, .int .i64 (k : Int)), (0, .slice A n c1), (1, .slice B n c2)]) (fun k => []) (fun k => k ≤ n) (fun k => n - k) 0 fs9 ?_ ?_ ?_
 exact ks9
 exact (by omega)
 rintro k hk Z0 hZ0
 refine TW.seq fun Y6 hY6 => ?_
 refine TW.seq fun Y7 hY7 => TW.region ?_
 refine TL.p Pu.mv ?_
 refine TL.p Pu.mv ?_
 refine TL.p (Pu.ln Tryz.underlying52) ?_
 refine TL.p Pu.lt ?_
 refine TL.nil (TQ.thenN (hY7 _ _ ?_))
 refine TW.cond rfl (fun hc1 => ?_) (fun hc1 => ?_)
 try simp only [zcb9] at hc1
 have hkn : k < n := by omega
 refine TW.skip ?_
 refine TQ.thenN (hY6 _ _ ?_)
 refine TW.seq fun Y8 hY8 => ?_
 refine TW.block ?_
 refine TW.seq fun Y9 hY9 => ?_
 refine TW.dw 10 ?_
 refine RK.tk Pu.mv ?_
 refine RK.tk Pu.mv ?_
 refine RK.tk (Pu.el ty_et52) ?_
 refine RK.tk (Pu.ld ty_sc28) ?_
 refine RK.tk Pu.mv ?_
 refine RK.tk Pu.mv ?_
 refine RK.tk (Pu.el ty_et52) ?_
 refine RK.tk (Pu.ld ty_sc28) ?_
 refine RK.keep ?_
 refine RK.keep ?_
 refine RK.ch [false, true] ?_ trivial
 refine WK.cr rfl (enters Tryz.func37 rfl rfl) (fun w hw => by
   exact bSameInts_any (v := fun j => (L k).getD j 0) (hL k hkn) ((hAe k hkn).sat hw Apart.nil) ((hBe k hkn).sat hw Apart.nil)) ?_
 refine WK.p Pu.no ?_
 refine WK.n ?_
 refine TL.nil (TQ.thenN (hY9 _ _ ?_))
 refine TW.condF rfl (rfl) ?_
 refine TW.skip ?_
 refine TQ.blkN ?_
 refine TQ.thenN (hY8 _ _ ?_)
 refine TW.region ?_
 refine TL.p Pu.mv ?_
 refine TL.p Pu.ad ?_
 refine TL.p Pu.as ?_
 refine TL.nil ?_
 refine TQ.thenN (hZ0 (k + 1) _ _ ?_ ?_ fs9 ?_)
 exact (by omega)
 exact zom9
 exact ks9
 try simp only [zcb9] at hc1
 refine TW.exit ?_
 refine TQ.thenX ?_
 refine TQ.thenX ?_
 refine TQ.blkX ?_
 refine TQ.thenN (hY4 _ _ ?_)
 refine TW.seq fun Y10 hY10 => TW.region ?_
 refine TL.p Pu.as ?_
 refine TL.nil (TQ.thenN (hY10 _ _ ?_))
 refine TW.ret ?_
 refine TQ.ret Tryz.results42 rfl ((.tmp rfl .nil)) ?_
 exact fun w hw => Ret.of hw
end Go.Proofs.YtbenhafhklfhmaaGreat
namespace Go.Proofs.YtbenhafhklfhmaaGreat
set_option linter.all false
set_option linter.unusedVariables false
set_option linter.unusedSimpArgs false
open Go.RowKit
set_option maxRecDepth 100000 in
set_option maxHeartbeats 4000000 in
theorem bFits_any {w : World} {A Al : Option Addr} {cp cl : Nat} {H : Hd} {a : Nat → Option Addr} {c : Nat → Nat} {l : Lk} (hI : HIn w A H a c) (hL : LkIn w l Al) :
  CallsK Tryz.prog 21 #[.slice A H.n cp, .agg (lkL l Al cl).toArray] [] w (Option Addr × Nat) (fun y => .tuple #[.slice y.1 (fitL H l).length y.2, .int .i64 (fitC H l)]) (fun y => [.own y.1 (fitL H l).length y.2 3 1 (iL (fitL H l))]) := by
 have hbad : ¬ fitC H l = 0 → fitL H l = [] := fun h => if_neg h
 unfold lkL
 by_cases hc : livC H = 0
 case neg =>
  have hf : fitC H l = livC H := if_pos hc
  have hf0 := hbad (by rw [hf]; exact hc)
  refine K_enter (S := []) (K := []) Tryz.func21 rfl Tryz.ntmps21 rfl (Sat.start _) ?_
  refine TW.seq fun Y1 hY1 => TW.region ?_
  refine TL.m Mk.bx ?_
  intro b1
  refine TL.p Pu.as ?_
  refine TL.p Pu.as ?_
  refine TL.nil (TQ.thenN (hY1 _ _ ?_))
  refine TW.seq fun Y2 hY2 => TW.region ?_
  refine TL.p Pu.mv ?_
  refine TL.call (M := []) rfl (enters Tryz.func46 rfl rfl) (List.Perm.refl _) rfl (fun w hw => by
    have h9 := lived_any (cp := cp) (hI.sat hw)
    simp only [if_neg hc] at h9
    exact h9) ?_
  rintro ⟨xo, A3, c3⟩
  refine TL.p Pu.mv ?_
  refine TL.p Pu.ex ?_
  refine TL.p Pu.ex ?_
  refine TL.p Pu.ex ?_
  refine TL.p Pu.as ?_
  refine TL.p Pu.as ?_
  refine TL.p Pu.as ?_
  refine TL.nil (TQ.thenN (hY2 _ _ ?_))
  refine TW.seq fun Y3 hY3 => ?_
  refine TW.seq fun Y4 hY4 => TW.region ?_
  refine TL.p Pu.mv ?_
  refine TL.p Pu.ne ?_
  refine TL.nil (TQ.thenN (hY4 _ _ ?_))
  refine TW.condT rfl ((by simpa using hc)) ?_
  refine TW.seq fun Y5 hY5 => TW.region ?_
  refine TL.p Pu.mv ?_
  refine TL.p Pu.as ?_
  refine TL.p Pu.as ?_
  refine TL.nil (TQ.thenN (hY5 _ _ ?_))
  refine TW.ret ?_
  refine TQ.thenR ?_
  refine TQ.ret Tryz.results21 rfl ((.tmp rfl (.tmp rfl .nil))) ?_
  exact fun w hw => ⟨(none, 0), by rw [hf0, hf]; rfl, by rw [hf0]; exact hw.sub (KSub.nilOwn KSub.nil)⟩
 case pos =>
  have hh : herdB H = true := by
   cases hh : herdB H with
   | true => rfl
   | false => unfold livC at hc; rw [hh] at hc; cases hc
  have hk := herdB_ok.1 hh
  have h16 := hk.n16
  have hf9 : fitC H l = if lkB l = true then 0 else 22 := if_neg (fun h => h hc)
  have fS := fun (w' : World) (h1 : LkIn w' l Al) => seen_any (c := cl) h1
  have fA := fun (w' : World) (i : Nat) (h1 : lkB l = true) => age_any (a := (livB H i).1) (b := (livB H i).2) (A := Al) (c := cl) (w := w') h1
  have fB := fun (w' : World) (i : Nat) (hi : i < H.n) (h1 : LkIn w' l Al) (h2 : l.ns = 8) => bears_any (c := cl) hk hi h1 h2
  unfold lkL at fS fA fB
  refine K_enter (S := []) (K := []) Tryz.func21 rfl Tryz.ntmps21 rfl (Sat.start _) ?_
  refine TW.seq fun Y1 hY1 => TW.region ?_
  refine TL.m Mk.bx ?_
  intro b1
  refine TL.p Pu.as ?_
  refine TL.p Pu.as ?_
  refine TL.nil (TQ.thenN (hY1 _ _ ?_))
  refine TW.seq fun Y2 hY2 => TW.region ?_
  refine TL.p Pu.mv ?_
  refine TL.call (M := []) rfl (enters Tryz.func46 rfl rfl) (List.Perm.refl _) rfl (fun w hw => by
    have h9 := lived_any (cp := cp) (hI.sat hw)
    simp only [if_pos hc] at h9
    exact h9) ?_
  rintro ⟨xo, A3, c3⟩
  simp only [opK, List.cons_append, List.nil_append]
  refine TL.p Pu.mv ?_
  refine TL.p Pu.ex ?_
  refine TL.p Pu.ex ?_
  refine TL.p Pu.ex ?_
  refine TL.p Pu.as ?_
  refine TL.p Pu.as ?_
  refine TL.p Pu.as ?_
  refine TL.nil (TQ.thenN (hY2 _ _ ?_))
  refine TW.seq fun Y3 hY3 => ?_
  refine TW.seq fun Y4 hY4 => TW.region ?_
  refine TL.p Pu.mv ?_
  refine TL.p Pu.ne ?_
  refine TL.nil (TQ.thenN (hY4 _ _ ?_))
  refine TW.condF rfl (rfl) ?_
  refine TW.skip ?_
  refine TQ.thenN (hY3 _ _ ?_)
  refine TW.seq fun Y5 hY5 => ?_
  refine TW.seq fun Y6 hY6 => TW.region ?_
  refine TL.p (Pu.lds ty_ag42) ?_
  refine TL.cr rfl (enters Tryz.func51 rfl rfl) (fun w hw => by
    exact fS _ (hL.sat hw)) ?_
  refine TL.p Pu.no ?_
  refine TL.nil (TQ.thenN (hY6 _ _ ?_))
  refine TW.cond rfl (fun hc1 => ?_) (fun hc1 => ?_)
  try simp only [zcb9] at hc1
  have hf : fitC H l = 22 := by rw [hf9, hc1]; rfl
  have hf0 := hbad (by rw [hf]; decide)
  refine TW.seq fun Y7 hY7 => TW.region ?_
  refine TL.p Pu.as ?_
  refine TL.p Pu.as ?_
  refine TL.nil (TQ.thenN (hY7 _ _ ?_))
  refine TW.ret ?_
  refine TQ.thenR ?_
  refine TQ.ret Tryz.results21 rfl ((.tmp rfl (.tmp rfl .nil))) ?_
  exact fun w hw => ⟨(none, 0), by rw [hf0, hf]; rfl, by rw [hf0]; exact hw.sub (KSub.nilOwn KSub.nil)⟩
  try simp only [zcb9] at hc1
  have hlk : lkB l = true := by simpa using hc1
  have hf : fitC H l = 0 := by rw [hf9, hlk]; rfl
  have h8 : l.ns = 8 := by
   unfold lkB at hlk
   simp only [Bool.and_eq_true, decide_eq_true_eq] at hlk
   exact hlk.1.1.1
  have hf0 : fitL H l = idsL H (fitP H l H.n) := if_pos hf
  refine TW.skip ?_
  refine TQ.thenN (hY5 _ _ ?_)
  refine TW.seq fun Y8 hY8 => TW.region ?_
  refine TL.p Pu.as ?_
  refine TL.nil (TQ.thenN (hY8 _ _ ?_))
  refine TW.seq fun Y9 hY9 => ?_
  refine TW.seq fun Y10 hY10 => TW.region ?_
  refine TL.p Pu.mv ?_
  refine TL.p (by first | exact Pu.nn | exact Pu.nc) ?_
  refine TL.p (by first | exact Pu.fb ty_fa106_3 | exact Pu.fe ty_fa106_3) ?_
  refine TL.p (Pu.ld ty_sc104) ?_
  refine TL.p (Pu.ln Tryz.underlying104) ?_
  refine TL.p Pu.mv ?_
  refine TL.nil (TQ.thenN (hY10 _ _ ?_))
  refine TW.block ?_
  refine TW.loop5 (fun (k : Nat) (A9 : Option Addr) (c9 : Nat) (M : List Nat) (m : Nat) => [(30, .int .i64 (k : Int)), (29, .int .i64 (H.n : Int)), (28, .slice xo.2.2.1 H.n xo.2.2.2), (9, .slice A9 m c9), (7, .slice A3 H.n c3), (6, .pointer (some ⟨xo.1.1, 0, none⟩)), (3, .pointer (some ⟨b1, 0, none⟩))]) (fun k A9 c9 M m => [.own A9 m c9 3 1 (nL M), .blk b1 42 [.slice Al l.ns cl, .int .i64 l.day, .int .i64 l.alo, .int .i64 l.ahi], .own A3 H.n c3 36 2 (fun j => spL (livB H j).1 (livB H j).2), .blk xo.1.1 106 [.slice A H.n cp, .map (some xo.1.2), .slice xo.2.1.1 H.n xo.2.1.2, .slice xo.2.2.1 H.n xo.2.2.2], .obj xo.1.2 (mapO .i64 (plM H H.n)), .own xo.2.1.1 H.n xo.2.1.2 3 1 (fun j => [.int .i64 (moH H j)]), .own xo.2.2.1 H.n xo.2.2.2 111 8 (fun j => octL (sgH H j))]) (fun k A9 c9 M m => k ≤ H.n ∧ M = fitP H l k ∧ m = M.length) (fun k A9 c9 M m => H.n - k) 0 none 0 [] 0 fs9 ?_ ?_ ?_
  exact KSub.nilOwn ks9
  exact ⟨Nat.zero_le _, rfl, rfl⟩
  rintro k A9 c9 M m ⟨hkn, hM, hm⟩ Z0 hZ0
  have hm9 : m ≤ 16 := by have := fitP_len (H := H) (l := l) (k := k); rw [hm, hM]; omega
  refine TW.seq fun Y11 hY11 => TW.region ?_
  refine TL.p Pu.lt ?_
  refine TL.nil (TQ.thenN (hY11 _ _ ?_))
  refine TW.seq fun Y12 hY12 => ?_
  refine TW.cond rfl (fun hc2 => ?_) (fun hc2 => ?_)
  try simp only [zcb9] at hc2
  have hki : k < H.n := by omega
  refine TW.skip ?_
  refine TQ.thenN (hY12 _ _ ?_)
  refine TW.seq fun Y13 hY13 => ?_
  refine TW.block ?_
  refine TW.seq fun Y14 hY14 => TW.region ?_
  refine TL.p Pu.mv ?_
  refine TL.p (Pu.el ty_et104) ?_
  refine TL.p (Pu.lds ty_ag111) ?_
  refine TL.m (Mk.al ty_zr111) ?_
  intro b2
  refine TL.p Pu.as ?_
  first | refine TL.st ty_sz111 ?_ | refine TL.se ty_sz111 ?_
  refine TL.nil (TQ.thenN (hY14 _ _ ?_))
  refine TW.seq fun Y15 hY15 => ?_
  refine TW.dw 7 ?_
  refine RK.tk Pu.mv ?_
  refine RK.tk Pu.mv ?_
  refine RK.tk (Pu.el ty_et31) ?_
  refine RK.tk (Pu.lds ty_ag36) ?_
  refine RK.tk (Pu.lds ty_ag42) ?_
  refine RK.keep ?_
  refine RK.float [.int .i64 0, .int .i64 0] ?_
  refine RK.ch [false] ?_ ⟨ty_zr36, trivial⟩
  refine WK.cr rfl (enters Tryz.func60 rfl rfl) (fun w hw => by
    exact fA _ k hlk) ?_
  refine WK.n ?_
  intro b3
  first | refine TL.st ty_sz36 ?_ | refine TL.se ty_sz36 ?_
  refine TL.nil (TQ.thenN (hY15 _ _ ?_))
  refine TW.seq fun Y16 hY16 => ?_
  refine TW.join [(50, .bool (maB H l k && decide ((agd ((livB H k).1, (livB H k).2) l).1 ≤ (agd ((livB H k).1, (livB H k).2) l).2)))] ?_ (fun hJ1 => ?_)
  refine TQ.thenN (hY16 _ _ ?_)
  refine TW.cond rfl (fun hc3 => ?_) (fun hc3 => ?_)
  try simp only [zcb9] at hc3
  have hft : fitB H l k = true := by
   show (maB H l k && decide ((agd ((livB H k).1, (livB H k).2) l).1 ≤ (agd ((livB H k).1, (livB H k).2) l).2)) = true
   simp only [Bool.and_eq_true, decide_eq_true_eq]
   exact hc3
  have hPs : fitP H l (k + 1) = M ++ [k] := by rw [hM]; exact if_pos hft
  have hl9 : m + 1 = (fitP H l (k + 1)).length := by rw [hPs, List.length_append, ← hm]; rfl
  refine TW.region ?_
  refine TL.p Pu.mv ?_
  refine TL.p Pu.mv ?_
  refine TL.m Mk.bl ?_
  intro b4
  first | refine TL.a0 ty_et28 ?_ | refine TL.ap ty_et28 ?_
  intro A5 c5
  refine TL.p Pu.as ?_
  refine TL.nil ?_
  refine TQ.blkN ?_
  refine TQ.thenN (hY13 _ _ ?_)
  refine TW.region ?_
  refine TL.p Pu.ad ?_
  refine TL.p Pu.mv ?_
  refine TL.nil ?_
  refine TQ.thenN (hZ0 (k + 1) _ _ (fitP H l (k + 1)) _ _ _ ?_ ?_ fs9 ?_)
  exact ⟨by omega, rfl, hl9⟩
  exact zom9
  first
   | exact KSub.own Pick.hd (nL_app hm hPs rfl) ks9
   | exact KSub.own pk9 (fun i _ => by rw [hPs]) ks9
  try simp only [zcb9] at hc3
  have hft : fitB H l k = false := by
   show (maB H l k && decide ((agd ((livB H k).1, (livB H k).2) l).1 ≤ (agd ((livB H k).1, (livB H k).2) l).2)) = false
   simp only [Bool.and_eq_false_iff, decide_eq_false_iff_not, Int.not_le]
   exact hc3
  have hPs : fitP H l (k + 1) = M := by rw [hM]; exact if_neg (by rw [hft]; decide)
  have hl9 : m = (fitP H l (k + 1)).length := by rw [hPs, ← hm]
  refine TW.skip ?_
  refine TQ.blkN ?_
  refine TQ.thenN (hY13 _ _ ?_)
  refine TW.region ?_
  refine TL.p Pu.ad ?_
  refine TL.p Pu.mv ?_
  refine TL.nil ?_
  refine TQ.thenN (hZ0 (k + 1) _ _ (fitP H l (k + 1)) _ _ _ ?_ ?_ fs9 ?_)
  exact ⟨by omega, rfl, hl9⟩
  exact zom9
  first
   | exact KSub.own Pick.hd (nL_app hm hPs rfl) ks9
   | exact KSub.own pk9 (fun i _ => by rw [hPs]) ks9
  refine TW.region ?_
  refine TL.p (Pu.lds ty_ag111) ?_
  refine TL.p (Pu.lds ty_ag42) ?_
  refine TL.cr rfl (enters Tryz.func56 rfl rfl) (fun w hw => by
    exact fB _ k hki (hL.sat hw) h8) ?_
  refine TL.p Pu.mv ?_
  refine TL.guard (t := 44) rfl (fun hg1 => ?_) (fun hg1 => ?_)
  refine TL.gd (by first | exact Pu.fb ty_fa36_0 | exact Pu.fe ty_fa36_0) ?_
  refine TL.gd (Pu.ld ty_sc3) ?_
  refine TL.gd (by first | exact Pu.fb ty_fa36_1 | exact Pu.fe ty_fa36_1) ?_
  refine TL.gd (Pu.ld ty_sc3) ?_
  refine TL.gd Pu.le ?_
  refine TL.p Pu.kt ?_
  refine TL.nil ?_
  exact TQ.sub (by repeat (first | exact trivial | refine ⟨rfl, ?_⟩ | refine ⟨trivial, ?_⟩ | refine ⟨(by show some (Value.bool _) = some (Value.bool _); first | (simp [hg1]; done) | (refine congrArg (fun z => some (Value.bool z)) (Bool.eq_iff_iff.2 ?_); simp [hg1]; omega)), ?_⟩)) kt9 hJ1
  refine TL.gs ?_
  refine TL.gs ?_
  refine TL.gs ?_
  refine TL.gs ?_
  refine TL.gs ?_
  refine TL.p Pu.kf ?_
  refine TL.nil ?_
  exact TQ.sub (by repeat (first | exact trivial | refine ⟨rfl, ?_⟩ | refine ⟨trivial, ?_⟩ | refine ⟨(by show some (Value.bool _) = some (Value.bool _); first | (simp [hg1]; done) | (refine congrArg (fun z => some (Value.bool z)) (Bool.eq_iff_iff.2 ?_); simp [hg1]; omega)), ?_⟩)) kt9 hJ1
  try simp only [zcb9] at hc2
  obtain rfl : k = H.n := by omega
  refine TW.exit ?_
  refine TQ.thenX ?_
  refine TQ.thenX ?_
  refine TQ.blkX ?_
  refine TQ.thenN (hY9 _ _ ?_)
  refine TW.seq fun Y17 hY17 => TW.region ?_
  refine TL.p Pu.mv ?_
  refine TL.p Pu.mv ?_
  refine TL.call (M := []) rfl (enters Tryz.func62 rfl rfl) (List.Perm.refl _) rfl (fun w hw => by
    exact ids_any (x := xo) (X := M) hm (by omega) (hI.sat hw) (opK_in (A := A) (cp := cp) (x := xo) hw (by intro φ h; first | exact h | (simp only [opK, List.mem_cons] at h ⊢; simp at h ⊢; first | exact h | exact .inr h | exact .inr (.inr h) | exact .inr (.inr (.inr h)) | exact .inr (.inr (.inr (.inr h)))))) (OwnR.rdr (hw.holds _ (List.mem_cons_self ..))) fun i hi => (mem_fitP.1 (hM ▸ hi)).1) ?_
  rintro ⟨A7, c7⟩
  refine TL.p Pu.as ?_
  refine TL.p Pu.as ?_
  refine TL.nil (TQ.thenN (hY17 _ _ ?_))
  refine TW.ret ?_
  refine TQ.ret Tryz.results21 rfl ((.tmp rfl (.tmp rfl .nil))) ?_
  exact fun w hw => ⟨(A7, c7), by rw [hf0, hf, ← hM]; rfl, by rw [hf0, ← hM]; exact hw.sub (KSub.cons Pick.hd KSub.nil)⟩
end Go.Proofs.YtbenhafhklfhmaaGreat
