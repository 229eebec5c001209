/-
  Part 13 of the proof of tollHires_holds: declarations of several texts, in build order. No condition on a program.
-/
import Derived.Test.YtfaenhhgkhcghaaGreatDoorHs12
import Derived.Test.YtfaenhhgkhcghaaGreatDoorHs10
namespace Go.Proofs.YtfaenhhgkhcghaaGreatDoor
set_option linter.all false
set_option linter.unusedVariables false
set_option linter.unusedSimpArgs false
open Go.RowKit
theorem indexFee_any {g : FuncId} {fs cs : List Value} {A : Option Addr} {n cp : Nat} {v : Nat → Int × Int} {p : Nat → Bool} {M : Nat → List Fact} {w : World} (hen : Enters Tryz.prog g) (hn : n ≤ 9223372036854775807)
  (hR : RdR w 2 A n (fun k => [.int .i64 (v k).1, .int .i64 (v k).2])) (hA : 0 < n → Apart (feet (M 0)) A) (hM : Sat (feet (M 0)) w (M 0) w) (hfe : ∀ k, feet (M k) = feet (M 0))
  (hg : ∀ k, k < n → (∀ j, j < k → p j = false) → ∀ w', Sat (feet (M 0)) w (M k) w' → CallsK Tryz.prog g (fs ++ [Value.agg #[.int .i64 (v k).1, .int .i64 (v k).2]] ++ cs).toArray (M k) w' Unit (fun _ => .bool (p k)) (fun _ => M (k + 1))) :
  CallsK Tryz.prog 140 #[.slice A n cp, .func (.func g) fs.toArray cs.toArray] (M 0) w (Fst p n) (fun x => .int .i64 (if x.1 < n then (x.1 : Int) else -1)) (fun x => M (aft n x.1)) := by
 refine K_enter (S := feet (M 0)) (K := M 0) Tryz.func140 rfl Tryz.ntmps140 rfl hM ?_
 refine TW.seq fun Y1 hY1 => TW.region ?_
 refine TL.p Pu.as ?_
 refine TL.nil (TQ.thenN (hY1 _ _ ?_))
 refine TW.seq fun Y2 hY2 => ?_
 refine TW.seq fun Y3 hY3 => TW.region ?_
 refine TL.p Pu.mv ?_
 refine TL.p (Pu.ln Tryz.underlying34) ?_
 refine TL.p Pu.mv ?_
 refine TL.nil (TQ.thenN (hY3 _ _ ?_))
 refine TW.block ?_
 refine TW.loop1 (fun (k : Nat) => [(8, .int .i64 (k : Int)), (7, .int .i64 (n : Int)), (0, .slice A n cp), (1, .func (.func g) fs.toArray cs.toArray)]) (fun k => M k) (fun k => k ≤ n ∧ ∀ j, j < k → p j = false) (fun k => n - k) 0 fs9 ?_ ?_ ?_
 exact KSub.refl _
 exact ⟨by omega, fun j hj => by omega⟩
 rintro k ⟨hk, hall⟩ Z0 hZ0
 refine TW.seq fun Y4 hY4 => TW.region ?_
 refine TL.p Pu.lt ?_
 refine TL.nil (TQ.thenN (hY4 _ _ ?_))
 refine TW.seq fun Y5 hY5 => ?_
 refine TW.cond rfl (fun hc0 => ?_) (fun hc0 => ?_)
 try simp only [zcb9] at hc0
 have hkn : k < n := by omega
 have hA := hA (by omega)
 refine TW.skip ?_
 refine TQ.thenN (hY5 _ _ ?_)
 refine TW.seq fun Y6 hY6 => ?_
 refine TW.block ?_
 refine TW.seq fun Y7 hY7 => TW.region ?_
 refine TL.p Pu.mv ?_
 refine TL.p Pu.as ?_
 refine TL.nil (TQ.thenN (hY7 _ _ ?_))
 refine TW.seq fun Y8 hY8 => TW.region ?_
 refine TL.p Pu.mv ?_
 refine TL.p Pu.mv ?_
 refine TL.p Pu.mv ?_
 refine TL.p (Pu.el ty_et34) ?_
 refine TL.p (Pu.lds ty_ag50) ?_
 refine TL.cvk rfl rfl hen (by rw [List.append_nil]) (fun w hw => by
   exact hg k (by omega) hall w hw) ?_
 intro _
 refine TL.nil (TQ.thenN (hY8 _ _ ?_))
 refine TW.cond rfl (fun hc1 => ?_) (fun hc1 => ?_)
 try simp only [zcb9] at hc1
 refine TW.seq fun Y9 hY9 => TW.region ?_
 refine TL.p Pu.mv ?_
 refine TL.p Pu.as ?_
 refine TL.nil (TQ.thenN (hY9 _ _ ?_))
 refine TW.ret ?_
 refine TQ.blkR ?_
 refine TQ.thenR ?_
 refine TQ.thenR ?_
 refine TQ.blkR ?_
 refine TQ.thenR ?_
 refine TQ.ret Tryz.results140 rfl ((.tmp rfl .nil)) ?_
 exact fun w hw => ⟨⟨k, by omega, hall, fun _ => hc1⟩, by simp [hkn]; rfl, by simpa [aft, hkn] using hw⟩
 try simp only [zcb9] at hc1
 refine TW.skip ?_
 refine TQ.blkN ?_
 refine TQ.thenN (hY6 _ _ ?_)
 refine TW.region ?_
 refine TL.p Pu.ad ?_
 refine TL.p Pu.mv ?_
 refine TL.nil ?_
 refine TQ.thenN (hZ0 (k + 1) _ _ ?_ ?_ fs9 ?_)
 refine ⟨by omega, fun j hj => ?_⟩
 by_cases h : j = k
 subst h; exact hc1
 exact hall j (by omega)
 exact zom9
 rw [List.append_nil]; exact KSub.refl _
 try simp only [zcb9] at hc0
 have hkn : k = n := by omega
 refine TW.exit ?_
 refine TQ.thenX ?_
 refine TQ.thenX ?_
 refine TQ.blkX ?_
 refine TQ.thenN (hY2 _ _ ?_)
 refine TW.seq fun Y10 hY10 => TW.region ?_
 refine TL.p Pu.as ?_
 refine TL.nil (TQ.thenN (hY10 _ _ ?_))
 refine TW.ret ?_
 refine TQ.ret Tryz.results140 rfl ((.tmp rfl .nil)) ?_
 exact fun w hw => ⟨⟨k, by omega, hall, fun h => by omega⟩, by simp [hkn]; rfl, by simpa [aft, hkn] using hw⟩
theorem hasFee_st {g : FuncId} {fs cs : List Value} {A : Option Addr} {n cp : Nat} {v : Nat → Int × Int} {p : Nat → Bool} {M : Nat → List Fact} {w : World} (hen : Enters Tryz.prog g) (hn : n ≤ 9223372036854775807)
  (hR : RdR w 2 A n (fun k => [.int .i64 (v k).1, .int .i64 (v k).2])) (hA : 0 < n → Apart (feet (M 0)) A) (hM : Sat (feet (M 0)) w (M 0) w) (hfe : ∀ k, feet (M k) = feet (M 0))
  (hg : ∀ k, k < n → (∀ j, j < k → p j = false) → ∀ w', Sat (feet (M 0)) w (M k) w' → CallsK Tryz.prog g (fs ++ [Value.agg #[.int .i64 (v k).1, .int .i64 (v k).2]] ++ cs).toArray (M k) w' Unit (fun _ => .bool (p k)) (fun _ => M (k + 1))) :
  CallsK Tryz.prog 100 #[.slice A n cp, .func (.func g) fs.toArray cs.toArray] (M 0) w (Fst p n) (fun x => .bool (decide (x.1 < n))) (fun x => M (aft n x.1)) := by
 refine K_enter (S := feet (M 0)) (K := M 0) Tryz.func100 rfl Tryz.ntmps100 rfl hM ?_
 refine TW.seq fun Y1 hY1 => TW.region ?_
 refine TL.p Pu.as ?_
 refine TL.nil (TQ.thenN (hY1 _ _ ?_))
 refine TW.seq fun Y2 hY2 => TW.region ?_
 refine TL.p Pu.mv ?_
 refine TL.p Pu.mv ?_
 refine TL.call rfl (enters Tryz.func140 rfl rfl) (by rw [List.append_nil]) rfl (fun w hw => by
   exact indexFee_any hen hn (hR.sat0 hw hA) hA hw.self hfe (fun k hk hp w' hw' => hg k hk hp w' (hw'.from hw.chg fun _ hb => .inl hb))) ?_
 intro x
 refine TL.p Pu.ge ?_
 refine TL.p Pu.as ?_
 refine TL.nil (TQ.thenN (hY2 _ _ ?_))
 refine TW.ret ?_
 refine TQ.ret Tryz.results100 rfl ((.tmp rfl .nil)) ?_
 exact fun w hw => ⟨x, by by_cases h : x.1 < n <;> simp [retV, h], by simpa using hw⟩
theorem Chg.trans' {S : List Nat} {a b c : World} (h : Chg S b c) (k : Chg S a b) : Chg S a c := k.trans h
theorem everyFee1_any {g : FuncId} {fs cs : List Value} {b : Nat} {u : Int × Int} {p : Bool} {M L : List Fact} {w : World} (hen : Enters Tryz.prog g) (hb : OldB w b [.func (.func g) fs.toArray cs.toArray]) (hbM : b ∉ feet M) (hM : Sat (feet M) w M w)
  (hg : ∀ w', Sat (feet M) w M w' → CallsK Tryz.prog g (fs ++ [Value.agg #[.int .i64 u.1, .int .i64 u.2]] ++ cs).toArray M w' Unit (fun _ => .bool p) (fun _ => L)) :
  CallsK Tryz.prog 101 #[Value.agg #[.int .i64 u.1, .int .i64 u.2], .pointer (some ⟨b, 0, none⟩)] M w Unit (fun _ => .bool (!p)) (fun _ => L) := by
 have hAp : Apart (feet M) (some ⟨b, 0, none⟩) := fun q hq => by cases hq; exact hbM
 refine K_enter (args := [Value.agg #[.int .i64 u.1, .int .i64 u.2], .pointer (some ⟨b, 0, none⟩)]) (S := feet M) (K := M) Tryz.func101 rfl Tryz.ntmps101 rfl hM ?_
 refine TW.seq fun Y1 hY1 => TW.region ?_
 refine TL.m Mk.bx ?_
 intro b1
 refine TL.p Pu.as ?_
 refine TL.nil (TQ.thenN (hY1 _ _ ?_))
 refine TW.seq fun Y2 hY2 => TW.region ?_
 refine TL.p (by first | exact (Pu.ld ty_sc125) | exact (Pu.ldo ty_sc125)) ?_
 refine TL.p (by first | exact (Pu.lds ty_ag50) | exact (Pu.ldso ty_ag50)) ?_
 refine TL.cvk rfl rfl hen (List.perm_append_comm (l₁ := [_])) (fun w hw => by
   exact hg w (Has.sat ⟨[_], List.perm_append_comm (l₁ := [_])⟩ hw)) ?_
 intro _
 refine TL.p Pu.no ?_
 refine TL.p Pu.as ?_
 refine TL.nil (TQ.thenN (hY2 _ _ ?_))
 refine TW.ret ?_
 refine TQ.ret Tryz.results101 rfl ((.tmp rfl .nil)) ?_
 exact fun w hw => ⟨(), rfl, Has.sat ⟨[_], List.Perm.refl _⟩ hw⟩
theorem everyFee_st {g : FuncId} {fs cs : List Value} {A : Option Addr} {n cp : Nat} {v : Nat → Int × Int} {p : Nat → Bool} {M : Nat → List Fact} {w : World} (hen : Enters Tryz.prog g) (hn : n ≤ 9223372036854775807)
  (hR : RdR w 2 A n (fun k => [.int .i64 (v k).1, .int .i64 (v k).2])) (hA : 0 < n → Apart (feet (M 0)) A) (hM : Sat (feet (M 0)) w (M 0) w) (hfe : ∀ k, feet (M k) = feet (M 0))
  (hg : ∀ k, k < n → (∀ j, j < k → p j = true) → ∀ w', Sat (feet (M 0)) w (M k) w' → CallsK Tryz.prog g (fs ++ [Value.agg #[.int .i64 (v k).1, .int .i64 (v k).2]] ++ cs).toArray (M k) w' Unit (fun _ => .bool (p k)) (fun _ => M (k + 1))) :
  CallsK Tryz.prog 55 #[.slice A n cp, .func (.func g) fs.toArray cs.toArray] (M 0) w (Fst (fun k => !p k) n) (fun x => .bool (!decide (x.1 < n))) (fun x => M (aft n x.1)) := by
 refine K_enter (S := feet (M 0)) (K := M 0) Tryz.func55 rfl Tryz.ntmps55 rfl hM ?_
 refine TW.seq fun Y1 hY1 => TW.region ?_
 refine TL.m Mk.bx ?_
 intro b1
 refine TL.p Pu.as ?_
 refine TL.nil (TQ.thenN (hY1 _ _ ?_))
 refine TW.seq fun Y2 hY2 => TW.region ?_
 refine TL.p Pu.mv ?_
 refine TL.p Pu.fn ?_
 refine TL.call rfl (enters Tryz.func100 rfl rfl) (List.perm_append_comm (l₁ := [_])) rfl (fun w hw => by
   have hB : Blk w b1 _ #[.func (.func g) fs.toArray cs.toArray] := hw.holds _ (List.mem_cons_self ..)
   have hbM : b1 ∉ feet (M 0) := fun hm => (List.nodup_cons.1 (show (b1 :: feet (M 0)).Nodup from hw.nd)).1 hm
   have hw2 : Sat (feet (M 0)) _ (M 0) w := Has.sat ⟨[_], List.perm_append_comm (l₁ := [_])⟩ hw
   refine hasFee_st (p := fun k => !p k) (fs := []) (cs := [.pointer (some ⟨b1, 0, none⟩)]) (enters Tryz.func101 rfl rfl) hn (hR.sat0 hw hA) hA hw2.self hfe (fun k hk hp w' hw' => ?_)
   have h1 : OldB w' b1 [.func (.func g) fs.toArray cs.toArray] := (OldB.of_blk (cs := [_]) hB).sat hw' hbM
   have h2 : Sat (feet (M k)) w' (M k) w' := hw'.self
   refine everyFee1_any (p := p k) (u := v k) hen h1 (by rw [hfe]; exact hbM) h2 fun w3 hw3 => hg k hk (fun j hj => by simpa using hp j hj) w3 ?_
   exact hw3.from (hw'.chg.trans' hw.chg) (fun q hq => .inl (by rw [← hfe k]; exact hq))) ?_
 intro x
 refine TL.p Pu.no ?_
 refine TL.p Pu.as ?_
 refine TL.nil (TQ.thenN (hY2 _ _ ?_))
 refine TW.ret ?_
 refine TQ.ret Tryz.results55 rfl ((.tmp rfl .nil)) ?_
 exact fun w hw => ⟨x, rfl, Has.sat ⟨[_], List.Perm.refl _⟩ hw⟩
def lastT (E : Fes) : Nat → Int
 | 0 => -1
 | k + 1 => E.t k
def prcK (E : Fes) (k : Nat) : Bool := decide (lastT E k < E.t k) && inB5 0 7 (E.t k) && inB5 0 1000000000000 (E.r k)
theorem prc_fee {E : Fes} {k : Nat} : prcK E k = feeK E k := by
 unfold prcK feeK inB5
 rw [Bool.eq_iff_iff]
 cases k with
 | zero =>
  have e : lastT E 0 = -1 := rfl
  rw [e]
  simp only [Bool.and_eq_true, Bool.or_eq_true, decide_eq_true_eq]
  exact ⟨fun h => ⟨⟨h.1.2, h.2⟩, .inl trivial⟩, fun h => ⟨⟨by omega, h.1.1⟩, h.1.2⟩⟩
 | succ k =>
  have e : lastT E (k + 1) = E.t k := rfl
  have e2 : k + 1 - 1 = k := rfl
  rw [e, e2]
  simp only [Bool.and_eq_true, Bool.or_eq_true, decide_eq_true_eq]
  exact ⟨fun h => ⟨⟨h.1.2, h.2⟩, .inr h.1.1⟩, fun h => ⟨⟨h.2.resolve_left (by omega), h.1.1⟩, h.1.2⟩⟩
theorem prc_all {E : Fes} : allB E.nf (prcK E) = fesOk E := by
 unfold fesOk
 congr 1
 exact funext fun k => prc_fee
theorem priced1_any (x last r : Int) (bl : Nat) (w : World) (hM : Sat [bl] w [.blk bl 3 [.int .i64 last]] w) :
  CallsK Tryz.prog 56 #[.agg #[.int .i64 x, .int .i64 r], .pointer (some ⟨bl, 0, none⟩)] [.blk bl 3 [.int .i64 last]] w Unit (fun _ => .bool (decide (last < x) && inB5 0 7 x && inB5 0 1000000000000 r)) (fun _ => [.blk bl 3 [.int .i64 x]]) := by
 refine K_enter (args := [.agg #[.int .i64 x, .int .i64 r], .pointer (some ⟨bl, 0, none⟩)]) (S := [bl]) (K := [.blk bl 3 [.int .i64 last]]) Tryz.func56 rfl Tryz.ntmps56 rfl hM ?_
 refine TW.seq fun Y1 hY1 => TW.region ?_
 refine TL.m Mk.bx ?_
 intro b1
 refine TL.p Pu.as ?_
 refine TL.nil (TQ.thenN (hY1 _ _ ?_))
 refine TW.seq fun Y2 hY2 => ?_
 refine TW.join [(4, .bool (decide (last < x) && inB5 0 7 x && inB5 0 1000000000000 r))] ?_ (fun hJ1 => ?_)
 refine TQ.thenN (hY2 _ _ ?_)
 refine TW.seq fun Y3 hY3 => TW.region ?_
 refine TL.p (by first | exact Pu.fb ty_fa50_0 | exact Pu.fe ty_fa50_0) ?_
 refine TL.p (by first | exact (Pu.ld ty_sc3) | exact (Pu.ldo ty_sc3)) ?_
 first | refine TL.st ty_sz3 ?_ | refine TL.se ty_sz3 ?_
 refine TL.nil (TQ.thenN (hY3 _ _ ?_))
 refine TW.seq fun Y4 hY4 => TW.region ?_
 refine TL.p Pu.mv ?_
 refine TL.p Pu.as ?_
 refine TL.nil (TQ.thenN (hY4 _ _ ?_))
 refine TW.ret ?_
 refine TQ.ret Tryz.results56 rfl ((.tmp rfl .nil)) ?_
 exact fun w hw => ⟨(), rfl, hw.sub (KSub.cons pk9 KSub.nil)⟩
 refine TW.region ?_
 refine TL.p (by first | exact Pu.fb ty_fa50_0 | exact Pu.fe ty_fa50_0) ?_
 refine TL.p (by first | exact (Pu.ld ty_sc3) | exact (Pu.ldo ty_sc3)) ?_
 refine TL.p (by first | exact (Pu.ld ty_sc3) | exact (Pu.ldo ty_sc3)) ?_
 refine TL.p Pu.gt ?_
 refine TL.p Pu.mv ?_
 refine TL.guard (t := 9) rfl (fun hg1 => ?_) (fun hg1 => ?_)
 refine TL.gd (by first | exact Pu.fb ty_fa50_0 | exact Pu.fe ty_fa50_0) ?_
 refine TL.gd (by first | exact (Pu.ld ty_sc3) | exact (Pu.ldo ty_sc3)) ?_
 refine TL.cr rfl (enters Tryz.func48 rfl rfl) (fun w hw => by
   exact tribe_any _ _) ?_
 refine TL.p Pu.kt ?_
 refine TL.p Pu.mv ?_
 refine TL.guard (t := 14) rfl (fun hg2 => ?_) (fun hg2 => ?_)
 refine TL.gd (by first | exact Pu.fb ty_fa50_1 | exact Pu.fe ty_fa50_1) ?_
 refine TL.gd (by first | exact (Pu.ld ty_sc3) | exact (Pu.ldo ty_sc3)) ?_
 refine TL.cr rfl (enters Tryz.func41 rfl rfl) (fun w hw => by
   exact in_any _ _ _ _) ?_
 refine TL.p Pu.kt ?_
 refine TL.p Pu.as ?_
 refine TL.nil ?_
 exact TQ.sub (by repeat (first | exact trivial | refine ⟨rfl, ?_⟩ | refine ⟨trivial, ?_⟩ | refine ⟨(by show some (Value.bool _) = some (Value.bool _); first | (simp [hg1, hg2]; done) | (refine congrArg (fun z => some (Value.bool z)) (Bool.eq_iff_iff.2 ?_); simp [hg1, hg2]; omega)), ?_⟩)) ks9 hJ1
 refine TL.gs ?_
 refine TL.gs ?_
 refine TL.gs ?_
 refine TL.p Pu.kf ?_
 refine TL.p Pu.as ?_
 refine TL.nil ?_
 exact TQ.sub (by repeat (first | exact trivial | refine ⟨rfl, ?_⟩ | refine ⟨trivial, ?_⟩ | refine ⟨(by show some (Value.bool _) = some (Value.bool _); first | (simp [hg1, hg2]; done) | (refine congrArg (fun z => some (Value.bool z)) (Bool.eq_iff_iff.2 ?_); simp [hg1, hg2]; omega)), ?_⟩)) ks9 hJ1
 refine TL.gs ?_
 refine TL.gs ?_
 refine TL.gs ?_
 refine TL.p Pu.kf ?_
 refine TL.p Pu.mv ?_
 refine TL.gs ?_
 refine TL.gs ?_
 refine TL.gs ?_
 refine TL.p Pu.kf ?_
 refine TL.p Pu.as ?_
 refine TL.nil ?_
 exact TQ.sub (by repeat (first | exact trivial | refine ⟨rfl, ?_⟩ | refine ⟨trivial, ?_⟩ | refine ⟨(by show some (Value.bool _) = some (Value.bool _); first | (simp [hg1]; done) | (refine congrArg (fun z => some (Value.bool z)) (Bool.eq_iff_iff.2 ?_); simp [hg1]; omega)), ?_⟩)) ks9 hJ1
set_option maxRecDepth 100000 in
theorem cPriced_any {A : Option Addr} {ca : Nat} {E : Fes} {w : World} (hn : E.nf ≤ 1000000) (hR : RdR w 2 A E.nf (feeL E)) :
  Calls Tryz.prog 26 #[.slice A E.nf ca] w (Ret w (.bool (fesOk E))) := by
 unfold feeL at hR
 refine K_enter (S := []) (K := []) Tryz.func26 rfl Tryz.ntmps26 rfl (Sat.start _) ?_
 refine TW.seq fun Y1 hY1 => TW.region ?_
 refine TL.p Pu.as ?_
 refine TL.nil (TQ.thenN (hY1 _ _ ?_))
 refine TW.seq fun Y2 hY2 => TW.region ?_
 refine TL.m (Mk.al ty_zr3) ?_
 intro b1
 first | refine TL.st ty_sz3 ?_ | refine TL.se ty_sz3 ?_
 refine TL.nil (TQ.thenN (hY2 _ _ ?_))
 refine TW.seq fun Y3 hY3 => TW.region ?_
 refine TL.p Pu.mv ?_
 refine TL.p Pu.fn ?_
 refine TL.call rfl (enters Tryz.func55 rfl rfl) (List.Perm.refl _) rfl (fun w hw => by
   have hw2 : Sat [] _ [.blk b1 3 [.int .i64 (-1)]] w := hw.sub (KSub.cons Pick.hd KSub.nil)
   refine everyFee_st (v := fun k => (E.t k, E.r k)) (p := prcK E) (M := fun k => [.blk b1 3 [.int .i64 (lastT E k)]]) (fs := []) (cs := [.pointer (some ⟨b1, 0, none⟩)]) (enters Tryz.func56 rfl rfl) (by omega) (hR.sat hw Apart.nil) (hR.apart fun q hq => (hw2.ge q hq).resolve_left (by simp)) hw2.self (fun _ => rfl) (fun k hk hp w' hw' => ?_)
   exact priced1_any _ _ _ b1 w' hw'.self) ?_
 intro x
 refine TL.p Pu.as ?_
 refine TL.nil (TQ.thenN (hY3 _ _ ?_))
 refine TW.ret ?_
 refine TQ.ret Tryz.results26 rfl ((.tmp rfl .nil)) ?_
 exact fun w hw => ⟨ret_bool (by rw [← prc_all, x.any]; show allB E.nf (prcK E) = !anyB E.nf _; rw [not_anyB]; simp), Chg.ext hw.chg⟩
theorem compareI_any {w : World} {A B : Option Addr} {n m cp cq : Nat} {L M : List Int} (hn : n = L.length) (hm : m = M.length) (h1 : n ≤ 1000000) (h2 : m ≤ 1000000) (hR : RdR w 1 A n (iL L)) (hS : RdR w 1 B m (iL M)) :
  Calls Tryz.prog 58 #[.slice A n cp, .slice B m cq] w (Ret w (.int .i64 (cmpI L M))) := by
 subst hn hm
 refine K_enter (S := []) (K := []) Tryz.func58 rfl Tryz.ntmps58 rfl (Sat.start _) ?_
 refine TW.seq fun Y1 hY1 => TW.region ?_
 refine TL.p Pu.as ?_
 refine TL.nil (TQ.thenN (hY1 _ _ ?_))
 refine TW.seq fun Y2 hY2 => ?_
 refine TW.seq fun Y3 hY3 => TW.region ?_
 refine TL.p Pu.mv ?_
 refine TL.p (Pu.ln Tryz.underlying31) ?_
 refine TL.p Pu.mv ?_
 refine TL.nil (TQ.thenN (hY3 _ _ ?_))
 refine TW.block ?_
 refine TW.loop1 (fun (k : Nat) => [(11, .int .i64 (k : Int)), (10, .int .i64 (L.length : Int)), (9, .slice A L.length cp), (0, .slice A L.length cp), (1, .slice B M.length cq)]) (fun k => []) (fun k => k ≤ L.length ∧ k ≤ M.length ∧ cmpI L M = cmpI (L.drop k) (M.drop k)) (fun k => L.length - k) 0 fs9 ?_ ?_ ?_
 exact ks9
 exact ⟨Nat.zero_le _, Nat.zero_le _, rfl⟩
 rintro k ⟨hk, hkm, he⟩ Z0 hZ0
 refine TW.seq fun Y4 hY4 => TW.region ?_
 refine TL.p Pu.lt ?_
 refine TL.nil (TQ.thenN (hY4 _ _ ?_))
 refine TW.seq fun Y5 hY5 => ?_
 refine TW.cond rfl (fun hc0 => ?_) (fun hc0 => ?_)
 try simp only [zcb9] at hc0
 have hkn : k < L.length := by omega
 have dL := drop_get hkn
 refine TW.skip ?_
 refine TQ.thenN (hY5 _ _ ?_)
 refine TW.seq fun Y6 hY6 => ?_
 refine TW.block ?_
 refine TW.seq fun Y7 hY7 => TW.region ?_
 refine TL.p Pu.mv ?_
 refine TL.p (Pu.el ty_et31) ?_
 refine TL.p (Pu.ld ty_sc3) ?_
 refine TL.p Pu.as ?_
 refine TL.p Pu.as ?_
 refine TL.nil (TQ.thenN (hY7 _ _ ?_))
 refine TW.seq fun Y8 hY8 => ?_
 refine TW.seq fun Y9 hY9 => TW.region ?_
 refine TL.p Pu.mv ?_
 refine TL.p Pu.mv ?_
 refine TL.p (Pu.ln Tryz.underlying31) ?_
 refine TL.p Pu.ge ?_
 refine TL.nil (TQ.thenN (hY9 _ _ ?_))
 refine TW.cond rfl (fun hc1 => ?_) (fun hc1 => ?_)
 try simp only [zcb9] at hc1
 have dM : M.drop k = [] := List.drop_eq_nil_of_le (by omega)
 refine TW.seq fun Y10 hY10 => TW.region ?_
 refine TL.p Pu.as ?_
 refine TL.nil (TQ.thenN (hY10 _ _ ?_))
 refine TW.ret ?_
 refine TQ.thenR ?_
 refine TQ.blkR ?_
 refine TQ.thenR ?_
 refine TQ.thenR ?_
 refine TQ.blkR ?_
 refine TQ.thenR ?_
 refine TQ.ret Tryz.results58 rfl ((.tmp rfl .nil)) ?_
 exact fun w hw => ⟨ret_int (by rw [he, dL, dM]; rfl), Chg.ext hw.chg⟩
 try simp only [zcb9] at hc1
 have hkm2 : k < M.length := by omega
 have dM := drop_get hkm2
 refine TW.skip ?_
 refine TQ.thenN (hY8 _ _ ?_)
 refine TW.seq fun Y11 hY11 => TW.region ?_
 refine TL.p Pu.mv ?_
 refine TL.p Pu.mv ?_
 refine TL.p (Pu.el ty_et31) ?_
 refine TL.p (Pu.ld ty_sc3) ?_
 refine TL.p Pu.as ?_
 refine TL.nil (TQ.thenN (hY11 _ _ ?_))
 refine TW.seq fun Y12 hY12 => TW.region ?_
 refine TL.p Pu.mv ?_
 refine TL.p Pu.mv ?_
 refine TL.cr rfl (enters Tryz.func83 rfl rfl) (fun w hw => by
   exact compare_any _ _ _) ?_
 refine TL.p Pu.as ?_
 refine TL.nil (TQ.thenN (hY12 _ _ ?_))
 refine TW.seq fun Y13 hY13 => TW.region ?_
 refine TL.p Pu.mv ?_
 refine TL.p Pu.ne ?_
 refine TL.nil (TQ.thenN (hY13 _ _ ?_))
 refine TW.cond rfl (fun hc2 => ?_) (fun hc2 => ?_)
 try simp only [zcb9] at hc2
 have hv : cmpV (L.getD k 0) (M.getD k 0) ≠ 0 := by simpa using hc2
 refine TW.seq fun Y14 hY14 => TW.region ?_
 refine TL.p Pu.mv ?_
 refine TL.p Pu.as ?_
 refine TL.nil (TQ.thenN (hY14 _ _ ?_))
 refine TW.ret ?_
 refine TQ.blkR ?_
 refine TQ.thenR ?_
 refine TQ.thenR ?_
 refine TQ.blkR ?_
 refine TQ.thenR ?_
 refine TQ.ret Tryz.results58 rfl ((.tmp rfl .nil)) ?_
 exact fun w hw => ⟨ret_int (by rw [he, dL, dM]; simp only [cmpI, if_neg hv]), Chg.ext hw.chg⟩
 try simp only [zcb9] at hc2
 have hv : cmpV (L.getD k 0) (M.getD k 0) = 0 := by simpa using hc2
 refine TW.skip ?_
 refine TQ.blkN ?_
 refine TQ.thenN (hY6 _ _ ?_)
 refine TW.region ?_
 refine TL.p Pu.ad ?_
 refine TL.p Pu.mv ?_
 refine TL.nil ?_
 refine TQ.thenN (hZ0 (k + 1) _ _ ?_ ?_ fs9 ?_)
 exact ⟨by omega, by omega, by rw [he, dL, dM]; simp only [cmpI, if_pos hv]⟩
 exact zom9
 exact ks9
 try simp only [zcb9] at hc0
 have hkn : k = L.length := by omega
 refine TW.exit ?_
 refine TQ.thenX ?_
 refine TQ.thenX ?_
 refine TQ.blkX ?_
 refine TQ.thenN (hY2 _ _ ?_)
 refine TW.seq fun Y15 hY15 => ?_
 refine TW.seq fun Y16 hY16 => TW.region ?_
 refine TL.p Pu.mv ?_
 refine TL.p (Pu.ln Tryz.underlying31) ?_
 refine TL.p Pu.mv ?_
 refine TL.p (Pu.ln Tryz.underlying31) ?_
 refine TL.p Pu.lt ?_
 refine TL.nil (TQ.thenN (hY16 _ _ ?_))
 refine TW.cond rfl (fun hc3 => ?_) (fun hc3 => ?_)
 try simp only [zcb9] at hc3
 have hlt : L.length < M.length := by omega
 refine TW.seq fun Y17 hY17 => TW.region ?_
 refine TL.p Pu.as ?_
 refine TL.nil (TQ.thenN (hY17 _ _ ?_))
 refine TW.ret ?_
 refine TQ.thenR ?_
 refine TQ.ret Tryz.results58 rfl ((.tmp rfl .nil)) ?_
 exact fun w hw => ⟨ret_int (by rw [he, List.drop_eq_nil_of_le (by omega : L.length ≤ k), drop_get (L := M) (by omega)]; rfl), Chg.ext hw.chg⟩
 try simp only [zcb9] at hc3
 have hlt : ¬ L.length < M.length := by omega
 refine TW.skip ?_
 refine TQ.thenN (hY15 _ _ ?_)
 refine TW.seq fun Y18 hY18 => TW.region ?_
 refine TL.p Pu.as ?_
 refine TL.nil (TQ.thenN (hY18 _ _ ?_))
 refine TW.ret ?_
 refine TQ.ret Tryz.results58 rfl ((.tmp rfl .nil)) ?_
 exact fun w hw => ⟨ret_int (by rw [he, List.drop_eq_nil_of_le (by omega : L.length ≤ k), List.drop_eq_nil_of_le (by omega : M.length ≤ k)]; rfl), Chg.ext hw.chg⟩
theorem concat2_any {w : World} {bs E9 : Nat} {A B : Option Addr} {n m c1 c2 : Nat} {u v : Nat → Int} (h : n + m ≤ 1000000) (hb : Blk w bs E9 #[.slice A n c1, .slice B m c2]) (hA : RdR w 1 A n (fun k => [.int .i64 (u k)])) (hB : RdR w 1 B m (fun k => [.int .i64 (v k)])) :
  CallsK Tryz.prog 59 #[.slice (some ⟨bs, 0, none⟩) 2 2] [] w (Option Addr × Nat) (fun x => .slice x.1 (n + m) x.2) (fun x => [.own x.1 (n + m) x.2 3 1 (fun k => [.int .i64 (if k < n then u k else v (k - n))])]) := by
 have hb2 := RdR.blk (cs := [.slice A n c1, .slice B m c2]) (n := 2) (sz := 1) (r := fun i => [.slice (sl3 A n c1 B m c2 none 0 0 i).1 (sl3 A n c1 B m c2 none 0 0 i).2.1 (sl3 A n c1 B m c2 none 0 0 i).2.2]) hb rfl (fun _ _ => rfl)
 have h9 := concatI_any (cp := 2) (m := 2) (a := fun i => (sl3 A n c1 B m c2 none 0 0 i).1) (l := fun i => (sl3 A n c1 B m c2 none 0 0 i).2.1) (c := fun i => (sl3 A n c1 B m c2 none 0 0 i).2.2) (v := fun i => if i = 0 then u else v) (by omega) (by show totT _ 1 + m ≤ _; simp only [totT, sl3]; omega) hb2 (fun i hi => by
  have : i = 0 ∨ i = 1 := by omega
  rcases this with rfl | rfl
  · exact hA
  · exact hB)
 have et : totT (fun i => (sl3 A n c1 B m c2 none 0 0 i).2.1) 2 = n + m := by simp only [totT, sl3]; omega
 rw [et] at h9
 refine Calls.mono h9 ?_
 rintro e w' ⟨x, rfl, hs⟩
 refine ⟨x, rfl, hs.sub (KSub.own Pick.hd (fun i hi => ?_) KSub.nil)⟩
 simp only [catT, catR, totT, sl3, Nat.zero_add, Nat.not_lt_zero, if_false, Nat.sub_zero, if_true, Nat.one_ne_zero]
 split <;> rfl
end Go.Proofs.YtfaenhhgkhcghaaGreatDoor
namespace Go.Proofs.YtfaenhhgkhcghaaGreatDoor
set_option linter.all false
set_option linter.unusedVariables false
set_option linter.unusedSimpArgs false
open Go.RowKit
theorem rowsT_cat {M N L : List TlX} {m : Nat} (hm : m = M.length) (hL : L = M ++ N) : ∀ i, i < m + N.length → catR m (rowsT M) (rowsT N) i = rowsT L i := fun i hi => by
 subst hL hm
 simp only [catR, rowsT]
 by_cases h : i < M.length
 · rw [if_pos h, List.getD_eq_getElem?_getD, List.getD_eq_getElem?_getD, List.getElem?_append_left (by omega)]
 · rw [if_neg h, List.getD_eq_getElem?_getD, List.getD_eq_getElem?_getD, List.getElem?_append_right (by omega)]
section
variable {Z : Cus} {T : Trp} {Y : Wy} {W A L C D B O U V S : Option Addr} {cw cl cn cc cd cb co cu cv n cs bt : Nat} {st : Nat → Nat → Int} {w : World}
set_option maxRecDepth 100000 in
set_option maxHeartbeats 1000000 in
theorem cTolls_any (hok : CusOk Z) (htr : trpOk T = true) (h : CustIn w C Z.nc D Z.nd B Z.nb Z.c Z.d Z.b) (t : TrpIn w T O U V) (s : StpIn w n st S) (ht : OldB w bt (trkL T O co U cu V cv Z C cc D cd B cb S n cs)) :
  CallsK Tryz.prog 35 #[.pointer (some ⟨bt, 0, none⟩)] [] w (Option Addr × Nat) (fun y => .tuple #[.slice y.1 (tolA Z T st n).length y.2, .agg #[.int .i64 (allLo Z T st n), .int .i64 (allHi Z T st n)]]) (fun y => [.own y.1 (tolA Z T st n).length y.2 98 4 (rowsT (tolA Z T st n))]) := by
 have ht9 := ht
 have hRS := s.hR
 have hn := s.hn
 unfold trkL at ht
 refine K_enter (S := []) (K := []) Tryz.func35 rfl Tryz.ntmps35 rfl (Sat.start _) ?_
 refine TW.seq fun Y1 hY1 => TW.region ?_
 refine TL.p Pu.as ?_
 refine TL.m (Mk.al ty_zr36) ?_
 intro b1
 refine TL.nil (TQ.thenN (hY1 _ _ ?_))
 refine TW.seq fun Y2 hY2 => ?_
 refine TW.seq fun Y3 hY3 => TW.region ?_
 refine TL.p Pu.mv ?_
 refine TL.p (by first | exact Pu.nn | exact Pu.nc) ?_
 refine TL.p (by first | exact Pu.fb ty_fa129_2 | exact Pu.fe ty_fa129_2) ?_
 refine TL.p (Pu.ldo ty_sc83) ?_
 refine TL.p (Pu.ln Tryz.underlying83) ?_
 refine TL.p Pu.mv ?_
 refine TL.nil (TQ.thenN (hY3 _ _ ?_))
 refine TW.block ?_
 refine TW.loop5 (fun (i : Nat) (E : Option Addr) (ce : Nat) (M : List TlX) (m : Nat) => [(12, .int .i64 (i : Int)), (11, .int .i64 (n : Int)), (2, .slice E m ce), (3, .pointer (some ⟨b1, 0, none⟩)), (0, .pointer (some ⟨bt, 0, none⟩))]) (fun i E ce M m => [.own E m ce 98 4 (rowsT M), .blk b1 36 [.int .i64 (allLo Z T st i), .int .i64 (allHi Z T st i)]]) (fun i E ce M m => i ≤ n ∧ M = tolA Z T st i ∧ m = M.length) (fun i E ce M m => n - i) 0 none 0 [] 0 fs9 ?_ ?_ ?_
 exact KSub.nilOwn ks9
 exact ⟨Nat.zero_le _, rfl, rfl⟩
 rintro i E ce M m ⟨hi, hM, hm⟩ Z0 hZ0
 have hM9 := hidT hM
 have hm9 : m ≤ 8000 := by rw [hm, hM]; exact Nat.le_trans (tolA_len i) (by omega)
 clear hM
 refine TW.seq fun Y4 hY4 => TW.region ?_
 refine TL.p Pu.lt ?_
 refine TL.nil (TQ.thenN (hY4 _ _ ?_))
 refine TW.seq fun Y5 hY5 => ?_
 refine TW.cond rfl (fun hc0 => ?_) (fun hc0 => ?_)
 try simp only [zcb9] at hc0
 have hin : i < n := by omega
 have hab := all_bd (st := st) hok htr i
 have hsb := sum_bd (s := st i) hok htr
 have htl := tolI_len (i := (i : Int)) (lo := trbLo Z T (st i)) (hi := trbHi Z T (st i)) 8
 refine TW.skip ?_
 refine TQ.thenN (hY5 _ _ ?_)
 refine TW.seq fun Y6 hY6 => ?_
 refine TW.block ?_
 refine TW.seq fun Y7 hY7 => TW.region ?_
 refine TL.p Pu.mv ?_
 refine TL.p Pu.as ?_
 refine TL.nil (TQ.thenN (hY7 _ _ ?_))
 refine TW.seq fun Y8 hY8 => TW.region ?_
 refine TL.p Pu.mv ?_
 refine TL.p Pu.mv ?_
 refine TL.call (M := []) rfl (enters Tryz.func75 rfl rfl) (List.Perm.refl _) rfl (fun w hw => by
   exact cDue_any i hin hok htr (h.ext (Chg.ext hw.chg)) (t.ext (Chg.ext hw.chg)) (s.ext (Chg.ext hw.chg)) (ht9.ext (Chg.ext hw.chg))) ?_
 rintro ⟨Ad, ca⟩
 refine TL.p Pu.mv ?_
 refine TL.p Pu.ex ?_
 refine TL.p Pu.ex ?_
 refine TL.m (Mk.al ty_zr36) ?_
 intro b2
 refine TL.p Pu.as ?_
 first | refine TL.st ty_sz36 ?_ | refine TL.se ty_sz36 ?_
 refine TL.nil (TQ.thenN (hY8 _ _ ?_))
 refine TW.seq fun Y9 hY9 => TW.region ?_
 refine TL.p Pu.mv ?_
 refine TL.p Pu.mv ?_
 first | refine TL.a0 ty_et65 ?_ | refine TL.ap ty_et65 ?_
 intro A3 c3
 refine TL.p Pu.as ?_
 refine TL.nil (TQ.thenN (hY9 _ _ ?_))
 refine TW.region ?_
 refine TL.p (by first | exact Pu.fb ty_fa36_0 | exact Pu.fe ty_fa36_0) ?_
 refine TL.p (Pu.ld ty_sc3) ?_
 refine TL.p (by first | exact Pu.fb ty_fa36_0 | exact Pu.fe ty_fa36_0) ?_
 refine TL.p (Pu.ld ty_sc3) ?_
 refine TL.p Pu.ad ?_
 refine TL.p (by first | exact Pu.fb ty_fa36_1 | exact Pu.fe ty_fa36_1) ?_
 refine TL.p (Pu.ld ty_sc3) ?_
 refine TL.p (by first | exact Pu.fb ty_fa36_1 | exact Pu.fe ty_fa36_1) ?_
 refine TL.p (Pu.ld ty_sc3) ?_
 refine TL.p Pu.ad ?_
 refine TL.p Pu.bd ?_
 first | refine TL.st ty_sz36 ?_ | refine TL.se ty_sz36 ?_
 refine TL.nil ?_
 refine TQ.blkN ?_
 refine TQ.thenN (hY6 _ _ ?_)
 refine TW.region ?_
 refine TL.p Pu.ad ?_
 refine TL.p Pu.mv ?_
 refine TL.nil ?_
 refine TQ.thenN (hZ0 (i + 1) _ _ (tolA Z T st (i + 1)) _ _ _ ?_ ?_ fs9 ?_)
 exact ⟨by omega, rfl, by simp only [tolA, List.length_append]; rw [hm, hM9.out]⟩
 exact zom9
 exact KSub.own pk9 (rowsT_cat hm (by simp only [tolA]; rw [hM9.out])) (KSub.blkE pk9 (by rfl) KSub.nil)
 try simp only [zcb9] at hc0
 obtain rfl : i = n := by omega
 refine TW.exit ?_
 refine TQ.thenX ?_
 refine TQ.thenX ?_
 refine TQ.blkX ?_
 refine TQ.thenN (hY2 _ _ ?_)
 refine TW.seq fun Y10 hY10 => ?_
 refine TW.dw 3 ?_
 refine RK.tk Pu.mv ?_
 refine RK.tk (Pu.lds ty_ag36) ?_
 refine RK.tk Pu.as ?_
 refine RK.ch [] ?_ trivial
 refine WK.n ?_
 first | refine TL.st ty_sz36 ?_ | refine TL.se ty_sz36 ?_
 refine TL.nil (TQ.thenN (hY10 _ _ ?_))
 refine TW.ret ?_
 refine TQ.ret Tryz.results35 rfl ((.tmp rfl (RV.cs ty_ag36 .nil))) ?_
 have hM := hM9.out
 subst hM
 subst hm
 exact fun w hw => ⟨(E, ce), rfl, hw.sub (KSub.cons pk9 KSub.nil)⟩
end
end Go.Proofs.YtfaenhhgkhcghaaGreatDoor
namespace Go.Proofs.YtfaenhhgkhcghaaGreatDoor
set_option linter.all false
set_option linter.unusedVariables false
set_option linter.unusedSimpArgs false
open Go.RowKit
theorem cmp_ge {l m : List Int} (h : l.length = m.length) : (0 ≤ cmpI l m) ↔ ltL l m = false := cmp_lt h
theorem hir_not {free : List Int → Bool} {E : Fes} {q : Nat} {X : List Int × Int × Bool} {M : List Int} (hX : X = hirK free E q) (hM : M = selT E q E.nf) (h : (X.2.2 && !betC (selR E q E.nf) M X.2.1 X.1) = true) : hirK free E (q + 1) = hirK free E q := by
 refine hir_no2 ?_
 subst hX hM
 cases h1 : (hirK free E q).2.2 <;> simp_all
theorem hir_may {free : List Int → Bool} {E : Fes} {q : Nat} {X : List Int × Int × Bool} {M : List Int} (hX : X = hirK free E q) (hM : M = selT E q E.nf) (h : (X.2.2 && !betC (selR E q E.nf) M X.2.1 X.1) = false) : (!(hirK free E q).2.2 || betC (selR E q E.nf) (selT E q E.nf) (hirK free E q).2.1 (hirK free E q).1) = true := by
 subst hX hM
 cases h1 : (hirK free E q).2.2 <;> simp_all
section
variable {Z : Cus} {T : Trp} {Y : Wy} {W A L C D B O U V S : Option Addr} {cw cl cn cc cd cb co cu cv n cs bt : Nat} {st : Nat → Nat → Int} {w : World}
set_option maxRecDepth 100000 in
set_option maxHeartbeats 4000000 in
theorem cHire_any {A : Option Addr} {ca : Nat} {E : Fes} (hok : CusOk Z) (hE : fesOk E = true) (h : CustIn w C Z.nc D Z.nd B Z.nb Z.c Z.d Z.b) (t : TrpIn w T O U V) (s : StpIn w n st S) (ht : OldB w bt (trkL T O co U cu V cv Z C cc D cd B cb S n cs)) (hG : OldB w 0 barsL) (hnu : T.nu ≤ 900) (hA : RdR w 2 A E.nf (feeL E)) :
  CallsK Tryz.prog 28 #[.pointer (some ⟨bt, 0, none⟩), .slice A E.nf ca] [] w (Option Addr × Nat) (hirR (hirV Z T n st E)) (fun y => [.own y.1 (hirV Z T n st E).1.length y.2 3 1 (iL (hirV Z T n st E).1)]) := by
 have hnf := fes_len hE
 have hp2 := pow_nf hE
 have hRU := t.hU
 unfold feeL at hA
 have fB := fun (w' : World) (h3 : CustIn w' C Z.nc D Z.nd B Z.nb Z.c Z.d Z.b) (s' : StpIn w' n st S) (l : List Int) (b9 : Nat) (Ag : Option Addr) (cg : Nat) (h4 : TrpIn w' (tgu T l) O Ag V) (h5 : OldB w' b9 (trkL (tgu T l) O co Ag cg V cv Z C cc D cd B cb S n cs)) (hG' : OldB w' 0 barsL) => cFirst_any (T := tgu T l) (U := Ag) (cu := cg) (bt := b9) hok h3 h4 s' h5 hG'
 unfold trkL at ht
 refine K_enter (S := []) (K := []) Tryz.func28 rfl Tryz.ntmps28 rfl (Sat.start _) ?_
 refine TW.seq fun Y1 hY1 => TW.region ?_
 refine TL.p Pu.as ?_
 refine TL.p Pu.as ?_
 refine TL.p Pu.as ?_
 refine TL.nil (TQ.thenN (hY1 _ _ ?_))
 refine TW.seq fun Y2 hY2 => ?_
 refine TW.seq fun Y3 hY3 => TW.region ?_
 refine TL.p Pu.mv ?_
 refine TL.p (Pu.ln Tryz.underlying34) ?_
 refine TL.p (Pu.sl1 (j := E.nf)) ?_
 refine TL.p Pu.mv ?_
 refine TL.nil (TQ.thenN (hY3 _ _ ?_))
 refine TW.block ?_
 refine TW.loop4 (fun (q : Nat) (Ab : Option Addr) (cb9 : Nat) (X : List Int × Int × Bool) => [(18, .int .i64 (q : Int)), (17, .int .i64 ((2 ^ E.nf : Nat) : Int)), (4, .slice Ab X.1.length cb9), (5, .int .i64 X.2.1), (6, .bool X.2.2), (1, .slice A E.nf ca), (0, .pointer (some ⟨bt, 0, none⟩))]) (fun q Ab cb9 X => [.own Ab X.1.length cb9 3 1 (iL X.1)]) (fun q Ab cb9 X => q ≤ 2 ^ E.nf ∧ X = hirK (freeB Z T n st) E q) (fun q Ab cb9 X => 2 ^ E.nf - q) 0 none 0 ([], 0, false) fs9 ?_ ?_ ?_
 exact KSub.nilOwn ks9
 exact ⟨Nat.zero_le _, rfl⟩
 rintro q Ab cb9 X ⟨hq, hX⟩ Z0 hZ0
 have hX9 := hidT hX
 have hXl : X.1.length ≤ 8 := by rw [hX]; exact Nat.le_trans (hirK_len q) hnf
 have hXb : 0 ≤ X.2.1 ∧ X.2.1 ≤ 8000000000000 := by rw [hX]; exact hirK_bd hE q
 clear hX
 refine TW.seq fun Y4 hY4 => TW.region ?_
 refine TL.p Pu.lt ?_
 refine TL.nil (TQ.thenN (hY4 _ _ ?_))
 refine TW.seq fun Y5 hY5 => ?_
 refine TW.cond rfl (fun hc0 => ?_) (fun hc0 => ?_)
 try simp only [zcb9] at hc0
 have hq2 : q < 2 ^ E.nf := Int.ofNat_lt.1 hc0
 clear hc0
 refine TW.skip ?_
 refine TQ.thenN (hY5 _ _ ?_)
 refine TW.seq fun Y6 hY6 => ?_
 refine TW.block ?_
 refine TW.seq fun Y7 hY7 => TW.region ?_
 refine TL.p Pu.mv ?_
 refine TL.p Pu.as ?_
 refine TL.nil (TQ.thenN (hY7 _ _ ?_))
 refine TW.seq fun Y8 hY8 => TW.region ?_
 refine TL.p Pu.as ?_
 refine TL.nil (TQ.thenN (hY8 _ _ ?_))
 refine TW.seq fun Y9 hY9 => TW.region ?_
 refine TL.p Pu.as ?_
 refine TL.nil (TQ.thenN (hY9 _ _ ?_))
 refine TW.seq fun Y10 hY10 => ?_
 refine TW.seq fun Y11 hY11 => TW.region ?_
 refine TL.p Pu.mv ?_
 refine TL.p (Pu.ln Tryz.underlying34) ?_
 refine TL.p Pu.mv ?_
 refine TL.nil (TQ.thenN (hY11 _ _ ?_))
 refine TW.block ?_
 refine TW.loop5 (fun (k : Nat) (Al : Option Addr) (cl : Nat) (M : List Int) (m : Nat) => [(23, .int .i64 (k : Int)), (22, .int .i64 (E.nf : Int)), (21, .slice A E.nf ca), (7, .int .i64 (q : Int)), (8, .slice Al m cl), (9, .int .i64 (selR E q k)), (18, .int .i64 (q : Int)), (17, .int .i64 ((2 ^ E.nf : Nat) : Int)), (4, .slice Ab X.1.length cb9), (5, .int .i64 X.2.1), (6, .bool X.2.2), (1, .slice A E.nf ca), (0, .pointer (some ⟨bt, 0, none⟩))]) (fun k Al cl M m => [.own Al m cl 3 1 (iL M), .own Ab X.1.length cb9 3 1 (iL X.1)]) (fun k Al cl M m => k ≤ E.nf ∧ M = selT E q k ∧ m = M.length) (fun k Al cl M m => E.nf - k) 0 none 0 [] 0 fs9 ?_ ?_ ?_
 exact KSub.nilOwn ks9
 exact ⟨Nat.zero_le _, rfl, rfl⟩
 rintro k Al cl M m ⟨hk, hM, hm⟩ Z1 hZ1
 have hM9 := hidT hM
 have hm9 : m ≤ 8 := by rw [hm, hM]; exact Nat.le_trans (selT_len k) (by omega)
 have hrb := selR_bd hE (q := q) k hk
 clear hM
 refine TW.seq fun Y12 hY12 => TW.region ?_
 refine TL.p Pu.lt ?_
 refine TL.nil (TQ.thenN (hY12 _ _ ?_))
 refine TW.seq fun Y13 hY13 => ?_
 refine TW.cond rfl (fun hc1 => ?_) (fun hc1 => ?_)
 try simp only [zcb9] at hc1
 have hkn : k < E.nf := by omega
 have hfe := fes_at hE hkn
 have hqd := Nat.div_le_self q (2 ^ k)
 refine TW.skip ?_
 refine TQ.thenN (hY13 _ _ ?_)
 refine TW.seq fun Y14 hY14 => ?_
 refine TW.block ?_
 refine TW.seq fun Y15 hY15 => TW.region ?_
 refine TL.p Pu.mv ?_
 refine TL.p (Pu.el ty_et34) ?_
 refine TL.p (Pu.lds ty_ag50) ?_
 refine TL.m (Mk.al ty_zr50) ?_
 intro b1
 refine TL.p Pu.as ?_
 first | refine TL.st ty_sz50 ?_ | refine TL.se ty_sz50 ?_
 refine TL.nil (TQ.thenN (hY15 _ _ ?_))
 refine TW.seq fun Y16 hY16 => TW.region ?_
 refine TL.p Pu.mv ?_
 refine TL.p Pu.mv ?_
 refine TL.p (Pu.srN (b := q) (i := k)) ?_
 refine TL.p (Pu.an1 (m := q / 2 ^ k)) ?_
 refine TL.p Pu.eq ?_
 refine TL.nil (TQ.thenN (hY16 _ _ ?_))
 refine TW.cond rfl (fun hc2 => ?_) (fun hc2 => ?_)
 try simp only [zcb9] at hc2
 have hbit : q / 2 ^ k % 2 = 1 := by generalize q / 2 ^ k % 2 = z at hc2; omega
 have hst : selT E q (k + 1) = M ++ [E.t k] := by rw [hM9.out]; simp only [selT]; rw [if_pos hbit]
 have hsr := hidT (show selR E q (k + 1) = selR E q k + E.r k by simp only [selR]; rw [if_pos hbit])
 have hlen9 : m + 1 = (selT E q (k + 1)).length := by rw [hst, List.length_append, ← hm]; rfl
 refine TW.ex0k [.blk b1 50 [.int .i64 (E.t k), .int .i64 (E.r k)]] ?_
 refine RG.tk 0 rfl Pu.mv ?_
 refine RG.tk 1 rfl (by first | exact Pu.fb ty_fa50_0 | exact Pu.fe ty_fa50_0) ?_
 refine RG.tk 2 rfl (Pu.ld ty_sc3) ?_
 refine RG.tk 5 rfl Pu.mv ?_
 refine RG.tk 6 rfl (by first | exact Pu.fb ty_fa50_1 | exact Pu.fe ty_fa50_1) ?_
 refine RG.tk 7 rfl (Pu.ld ty_sc3) ?_
 refine RG.tk 8 rfl Pu.ad ?_
 refine RG.a1 3 rfl (fun X3 hX3 => ?_)
 refine TL.m Mk.bl ?_
 intro b2
 refine TL.nil ?_
 refine TQ.nxt (hX3 _ _ hl9 ?_)
 refine RG.a1 4 rfl (fun X4 hX4 => ?_)
 first | refine TL.a0 ty_et31 ?_ | refine TL.ap ty_et31 ?_
 intro A3 c3
 refine TL.nil ?_
 refine TQ.nxt (hX4 _ _ hl9 ?_)
 refine RG.tk 9 rfl Pu.as ?_
 refine RG.tk 10 rfl Pu.as ?_
 refine RG.nil ?_ (by kernel_rfl)
 refine TQ.blkN ?_
 refine TQ.thenN (hY14 _ _ ?_)
 refine TW.region ?_
 refine TL.p Pu.ad ?_
 refine TL.p Pu.mv ?_
 refine TL.nil ?_
 refine TQ.thenN (hZ1 (k + 1) _ _ (selT E q (k + 1)) _ _ _ ?_ ?_ (by refine ⟨rfl, rfl, rfl, rfl, rfl, (congrArg (fun z => some (Value.int .i64 z)) hsr.out.symm), ?_⟩; (repeat (first | exact trivial | refine ⟨rfl, ?_⟩ | refine ⟨trivial, ?_⟩))) ?_)
 exact ⟨by omega, rfl, hlen9⟩
 exact zom9
 first
  | exact KSub.own Pick.hd (iL_app hm hst rfl) ks9
  | exact KSub.own pk9 (fun i _ => by rw [hst]) ks9
 try simp only [zcb9] at hc2
 have hbit : ¬ q / 2 ^ k % 2 = 1 := by generalize q / 2 ^ k % 2 = z at hc2 ⊢; omega
 have hst : selT E q (k + 1) = M := by rw [hM9.out]; simp only [selT]; rw [if_neg hbit]
 have hsr := hidT (show selR E q (k + 1) = selR E q k by simp only [selR]; rw [if_neg hbit])
 have hlen9 : m = (selT E q (k + 1)).length := by rw [hst, ← hm]
 refine TW.skip ?_
 refine TQ.blkN ?_
 refine TQ.thenN (hY14 _ _ ?_)
 refine TW.region ?_
 refine TL.p Pu.ad ?_
 refine TL.p Pu.mv ?_
 refine TL.nil ?_
 refine TQ.thenN (hZ1 (k + 1) _ _ (selT E q (k + 1)) _ _ _ ?_ ?_ (by refine ⟨rfl, rfl, rfl, rfl, rfl, (congrArg (fun z => some (Value.int .i64 z)) hsr.out.symm), ?_⟩; (repeat (first | exact trivial | refine ⟨rfl, ?_⟩ | refine ⟨trivial, ?_⟩))) ?_)
 exact ⟨by omega, rfl, hlen9⟩
 exact zom9
 first
  | exact KSub.own Pick.hd (iL_app hm hst rfl) ks9
  | exact KSub.own pk9 (fun i _ => by rw [hst]) ks9
 try simp only [zcb9] at hc1
 obtain rfl : k = E.nf := by omega
 subst hm
 refine TW.exit ?_
 refine TQ.thenX ?_
 refine TQ.thenX ?_
 refine TQ.blkX ?_
 refine TQ.thenN (hY10 _ _ ?_)
 refine TW.seq fun Y17 hY17 => ?_
 refine TW.seq fun Y18 hY18 => ?_
 refine TW.join [(73, .bool (X.2.2 && !betC (selR E q E.nf) M X.2.1 X.1))] ?_ (fun hJ1 => ?_)
 refine TQ.thenN (hY18 _ _ ?_)
 refine TW.cond rfl (fun hc3 => ?_) (fun hc3 => ?_)
 try simp only [zcb9] at hc3
 have hNo := hir_not hX9.out hM9.out (by simpa using hc3)
 refine TW.exit ?_
 refine TQ.thenX ?_
 refine TQ.blkX ?_
 refine TQ.thenN (hY6 _ _ ?_)
 refine TW.region ?_
 refine TL.p Pu.ad ?_
 refine TL.p Pu.mv ?_
 refine TL.nil ?_
 refine TQ.thenN (hZ0 (q + 1) _ _ (by first | exact (fun _ => (M, selR E q E.nf, true)) hYes | exact X) _ _ ?_ ?_ fs9 ?_)
 first | exact ⟨by omega, hM8⟩ | exact ⟨by omega, hX9.out.trans hNo.symm⟩ | exact ⟨by omega, hX9.out.trans (hir_no1 hfr).symm⟩
 exact zom9
 exact ks9
 try simp only [zcb9] at hc3
 have hMay := hir_may hX9.out hM9.out (by rcases hc3 with h9 | h9 <;> simp [h9])
 refine TW.skip ?_
 refine TQ.thenN (hY17 _ _ ?_)
 refine TW.seq fun Y19 hY19 => TW.region ?_
 refine TL.p Pu.mv ?_
 refine TL.p (by first | exact Pu.nn | exact Pu.nc) ?_
 refine TL.p (Pu.ldso ty_ag129) ?_
 refine TL.m (Mk.al ty_zr129) ?_
 intro b4
 first | refine TL.st ty_sz129 ?_ | refine TL.se ty_sz129 ?_
 refine TL.nil (TQ.thenN (hY19 _ _ ?_))
 refine TW.seq fun Y20 hY20 => TW.region ?_
 refine TL.p Pu.mv ?_
 refine TL.p (by first | exact Pu.nn | exact Pu.nc) ?_
 refine TL.p (by first | exact Pu.fb ty_fa129_0 | exact Pu.fe ty_fa129_0) ?_
 refine TL.p (by first | exact Pu.fb ty_fa33_3 | exact Pu.fe ty_fa33_3) ?_
 refine TL.p (Pu.ldo ty_sc31) ?_
 refine TL.p Pu.mv ?_
 refine TL.m Mk.bl ?_
 intro b5
 refine TL.call (M := []) rfl (enters Tryz.func59 rfl rfl) (List.Perm.refl _) rfl (fun w hw => by
   exact concat2_any (u := T.u) (v := fun k => M.getD k 0) (by omega) (hw.holds _ (List.mem_cons_self ..)) (hRU.sat hw Apart.nil) (OwnR.rdr (hw.holds (.own Al M.length cl 3 1 (iL M)) (by simp)))) ?_
 rintro ⟨Ag, cg⟩
 refine TL.p (by first | exact Pu.fb ty_fa129_0 | exact Pu.fe ty_fa129_0) ?_
 refine TL.p (by first | exact Pu.fb ty_fa33_3 | exact Pu.fe ty_fa33_3) ?_
 first | refine TL.st ty_sz31 ?_ | refine TL.se ty_sz31 ?_
 refine TL.nil (TQ.thenN (hY20 _ _ ?_))
 refine TW.seq fun Y21 hY21 => TW.region ?_
 refine TL.cr rfl (enters Tryz.func43 rfl rfl) (fun w hw => by
   have t2 := t.ext (Chg.ext hw.chg)
   have q9 := OwnR.rdr (hw.holds (.own Ag (T.nu + M.length) cg 3 1 (fun k => [.int .i64 (if k < T.nu then T.u k else M.getD (k - T.nu) 0)])) (by simp))
   have q8 := OldB.of_blk (hw.holds (.blk b4 129 (trkL (tgu T M) O co Ag cg V cv Z C cc D cd B cb S n cs)) (by simp [trkL, tgu]))
   exact fB _ (h.ext (Chg.ext hw.chg)) (s.ext (Chg.ext hw.chg)) M b4 Ag cg ⟨t2.hno, by show T.nu + M.length ≤ 1000; omega, t2.hnv, t2.hO, q9, t2.hV⟩ q8 (hG.ext (Chg.ext hw.chg))) ?_
 refine TL.p Pu.mv ?_
 refine TL.p Pu.ex ?_
 refine TL.p Pu.ex ?_
 refine TL.p Pu.as ?_
 refine TL.p Pu.as ?_
 refine TL.nil (TQ.thenN (hY21 _ _ ?_))
 refine TW.seq fun Y22 hY22 => TW.region ?_
 refine TL.p Pu.mv ?_
 refine TL.p Pu.eq ?_
 refine TL.nil (TQ.thenN (hY22 _ _ ?_))
 refine TW.cond rfl (fun hc4 => ?_) (fun hc4 => ?_)
 try simp only [zcb9] at hc4
 have hfr : freeB Z T n st (selT E q E.nf) = true := by
  unfold freeB
  rw [← hM9.out]
  exact decide_eq_true hc4
 have hYes := hir_yes hMay hfr
 have hM8 : (M, selR E q E.nf, true) = hirK (freeB Z T n st) E (q + 1) := by rw [hYes]; exact congrArg (fun z => (z, selR E q E.nf, true)) hM9.out
 refine TW.region ?_
 refine TL.p Pu.mv ?_
 refine TL.p Pu.mv ?_
 refine TL.p Pu.as ?_
 refine TL.p Pu.as ?_
 refine TL.p Pu.as ?_
 refine TL.nil ?_
 refine TQ.blkN ?_
 refine TQ.thenN (hY6 _ _ ?_)
 refine TW.region ?_
 refine TL.p Pu.ad ?_
 refine TL.p Pu.mv ?_
 refine TL.nil ?_
 refine TQ.thenN (hZ0 (q + 1) _ _ (by first | exact (fun _ => (M, selR E q E.nf, true)) hYes | exact X) _ _ ?_ ?_ fs9 ?_)
 first | exact ⟨by omega, hM8⟩ | exact ⟨by omega, hX9.out.trans hNo.symm⟩ | exact ⟨by omega, hX9.out.trans (hir_no1 hfr).symm⟩
 exact zom9
 exact ks9
 try simp only [zcb9] at hc4
 have hfr : freeB Z T n st (selT E q E.nf) = false := by
  unfold freeB
  rw [← hM9.out]
  exact decide_eq_false hc4
 refine TW.skip ?_
 refine TQ.blkN ?_
 refine TQ.thenN (hY6 _ _ ?_)
 refine TW.region ?_
 refine TL.p Pu.ad ?_
 refine TL.p Pu.mv ?_
 refine TL.nil ?_
 refine TQ.thenN (hZ0 (q + 1) _ _ (by first | exact (fun _ => (M, selR E q E.nf, true)) hYes | exact X) _ _ ?_ ?_ fs9 ?_)
 first | exact ⟨by omega, hM8⟩ | exact ⟨by omega, hX9.out.trans hNo.symm⟩ | exact ⟨by omega, hX9.out.trans (hir_no1 hfr).symm⟩
 exact zom9
 exact ks9
 refine TW.region ?_
 refine TL.p Pu.mv ?_
 refine TL.p Pu.mv ?_
 refine TL.guard (t := 44) rfl (fun hg1 => ?_) (fun hg1 => ?_)
 try simp only [zgn9] at hg1
 refine TL.gd Pu.mv ?_
 refine TL.gd Pu.mv ?_
 refine TL.gd Pu.gt ?_
 refine TL.gd Pu.mv ?_
 refine TL.guard (t := 48) rfl (fun hg2 => ?_) (fun hg2 => ?_)
 try simp only [zgn9] at hg2
 refine TL.gs ?_
 refine TL.gs ?_
 refine TL.gs ?_
 refine TL.gs ?_
 refine TL.gs ?_
 refine TL.gs ?_
 refine TL.gs ?_
 refine TL.gs ?_
 refine TL.gs ?_
 refine TL.gs ?_
 refine TL.gs ?_
 refine TL.gs ?_
 refine TL.gs ?_
 refine TL.gs ?_
 refine TL.gs ?_
 refine TL.gs ?_
 refine TL.gs ?_
 refine TL.gs ?_
 refine TL.gs ?_
 refine TL.gs ?_
 refine TL.gs ?_
 refine TL.gs ?_
 refine TL.gs ?_
 refine TL.gd Pu.kt ?_
 refine TL.p Pu.kt ?_
 refine TL.nil ?_
 exact TQ.sub (by repeat (first | exact trivial | refine ⟨rfl, ?_⟩ | refine ⟨trivial, ?_⟩ | refine ⟨(by show some (Value.bool _) = some (Value.bool _); first | (simp [hg1, hg2, betC, cmp_ge]; done) | (refine congrArg (fun z => some (Value.bool z)) (Bool.eq_iff_iff.2 ?_); simp [hg1, hg2, betC, cmp_ge]; omega)), ?_⟩)) ks9 hJ1
 try simp only [zgn9] at hg2
 refine TL.gd Pu.mv ?_
 refine TL.gd Pu.mv ?_
 refine TL.gd Pu.eq ?_
 refine TL.gd Pu.mv ?_
 refine TL.guard (t := 52) rfl (fun hg3 => ?_) (fun hg3 => ?_)
 try simp only [zgn9] at hg3
 refine TL.gd Pu.mv ?_
 refine TL.gd (Pu.ln Tryz.underlying31) ?_
 refine TL.gd Pu.mv ?_
 refine TL.gd (Pu.ln Tryz.underlying31) ?_
 refine TL.gd Pu.gt ?_
 refine TL.gd Pu.mv ?_
 refine TL.guard (t := 58) rfl (fun hg4 => ?_) (fun hg4 => ?_)
 try simp only [zgn9] at hg4
 refine TL.gs ?_
 refine TL.gs ?_
 refine TL.gs ?_
 refine TL.gs ?_
 refine TL.gs ?_
 refine TL.gs ?_
 refine TL.gs ?_
 refine TL.gs ?_
 refine TL.gs ?_
 refine TL.gs ?_
 refine TL.gs ?_
 refine TL.gd Pu.kt ?_
 refine TL.gd Pu.kt ?_
 refine TL.gd Pu.kf ?_
 refine TL.p Pu.kt ?_
 refine TL.nil ?_
 exact TQ.sub (by repeat (first | exact trivial | refine ⟨rfl, ?_⟩ | refine ⟨trivial, ?_⟩ | refine ⟨(by show some (Value.bool _) = some (Value.bool _); first | (simp [hg1, hg2, hg3, hg4, betC, cmp_ge]; done) | (refine congrArg (fun z => some (Value.bool z)) (Bool.eq_iff_iff.2 ?_); simp [hg1, hg2, hg3, hg4, betC, cmp_ge]; omega)), ?_⟩)) ks9 hJ1
 try simp only [zgn9] at hg4
 refine TL.gd Pu.mv ?_
 refine TL.gd (Pu.ln Tryz.underlying31) ?_
 refine TL.gd Pu.mv ?_
 refine TL.gd (Pu.ln Tryz.underlying31) ?_
 refine TL.gd Pu.eq ?_
 refine TL.gd Pu.mv ?_
 refine TL.guard (t := 64) rfl (fun hg5 => ?_) (fun hg5 => ?_)
 try simp only [zgn9] at hg5
 refine TL.gd Pu.mv ?_
 refine TL.gd Pu.mv ?_
 refine TL.cr rfl (enters Tryz.func58 rfl rfl) (fun w hw => by
   exact compareI_any rfl rfl (by omega) (by omega) (OwnR.rdr (hw.holds (.own Al M.length cl 3 1 (iL M)) (by simp))) (OwnR.rdr (hw.holds (.own Ab X.1.length cb9 3 1 (iL X.1)) (by simp)))) ?_
 refine TL.gd Pu.ge ?_
 refine TL.gd Pu.kt ?_
 refine TL.gd Pu.kf ?_
 refine TL.gd Pu.kt ?_
 refine TL.gd Pu.kf ?_
 refine TL.p Pu.kt ?_
 refine TL.nil ?_
 exact TQ.sub (by repeat (first | exact trivial | refine ⟨rfl, ?_⟩ | refine ⟨trivial, ?_⟩ | refine ⟨(by show some (Value.bool _) = some (Value.bool _); first | (simp [hg1, hg2, hg3, hg4, hg5, betC, cmp_ge]; done) | (refine congrArg (fun z => some (Value.bool z)) (Bool.eq_iff_iff.2 ?_); simp [hg1, hg2, hg3, hg4, hg5, betC, cmp_ge]; omega)), ?_⟩)) ks9 hJ1
 try simp only [zgn9] at hg5
 refine TL.gs ?_
 refine TL.gs ?_
 refine TL.gs ?_
 refine TL.gs ?_
 refine TL.gd Pu.kf ?_
 refine TL.gd Pu.kf ?_
 refine TL.gd Pu.kt ?_
 refine TL.gd Pu.kf ?_
 refine TL.p Pu.kt ?_
 refine TL.nil ?_
 exact TQ.sub (by repeat (first | exact trivial | refine ⟨rfl, ?_⟩ | refine ⟨trivial, ?_⟩ | refine ⟨(by show some (Value.bool _) = some (Value.bool _); first | (simp [hg1, hg2, hg3, hg4, hg5, betC, cmp_ge]; done) | (refine congrArg (fun z => some (Value.bool z)) (Bool.eq_iff_iff.2 ?_); simp [hg1, hg2, hg3, hg4, hg5, betC, cmp_ge]; omega)), ?_⟩)) ks9 hJ1
 try simp only [zgn9] at hg3
 refine TL.gs ?_
 refine TL.gs ?_
 refine TL.gs ?_
 refine TL.gs ?_
 refine TL.gs ?_
 refine TL.gs ?_
 refine TL.gs ?_
 refine TL.gs ?_
 refine TL.gs ?_
 refine TL.gs ?_
 refine TL.gs ?_
 refine TL.gs ?_
 refine TL.gs ?_
 refine TL.gs ?_
 refine TL.gs ?_
 refine TL.gs ?_
 refine TL.gs ?_
 refine TL.gs ?_
 refine TL.gd Pu.kf ?_
 refine TL.gd Pu.kf ?_
 refine TL.p Pu.kt ?_
 refine TL.nil ?_
 exact TQ.sub (by repeat (first | exact trivial | refine ⟨rfl, ?_⟩ | refine ⟨trivial, ?_⟩ | refine ⟨(by show some (Value.bool _) = some (Value.bool _); first | (simp [hg1, hg2, hg3, betC, cmp_ge]; done) | (refine congrArg (fun z => some (Value.bool z)) (Bool.eq_iff_iff.2 ?_); simp [hg1, hg2, hg3, betC, cmp_ge]; omega)), ?_⟩)) ks9 hJ1
 try simp only [zgn9] at hg1
 refine TL.gs ?_
 refine TL.gs ?_
 refine TL.gs ?_
 refine TL.gs ?_
 refine TL.gs ?_
 refine TL.gs ?_
 refine TL.gs ?_
 refine TL.gs ?_
 refine TL.gs ?_
 refine TL.gs ?_
 refine TL.gs ?_
 refine TL.gs ?_
 refine TL.gs ?_
 refine TL.gs ?_
 refine TL.gs ?_
 refine TL.gs ?_
 refine TL.gs ?_
 refine TL.gs ?_
 refine TL.gs ?_
 refine TL.gs ?_
 refine TL.gs ?_
 refine TL.gs ?_
 refine TL.gs ?_
 refine TL.gs ?_
 refine TL.gs ?_
 refine TL.gs ?_
 refine TL.gs ?_
 refine TL.gs ?_
 refine TL.p Pu.kf ?_
 refine TL.nil ?_
 exact TQ.sub (by repeat (first | exact trivial | refine ⟨rfl, ?_⟩ | refine ⟨trivial, ?_⟩ | refine ⟨(by show some (Value.bool _) = some (Value.bool _); first | (simp [hg1, betC, cmp_ge]; done) | (refine congrArg (fun z => some (Value.bool z)) (Bool.eq_iff_iff.2 ?_); simp [hg1, betC, cmp_ge]; omega)), ?_⟩)) ks9 hJ1
 try simp only [zcb9] at hc0
 have hq2 : q = 2 ^ E.nf := by have := Int.ofNat_le.1 hc0; omega
 clear hc0
 refine TW.exit ?_
 refine TQ.thenX ?_
 refine TQ.thenX ?_
 refine TQ.blkX ?_
 refine TQ.thenN (hY2 _ _ ?_)
 refine TW.seq fun Y23 hY23 => TW.region ?_
 refine TL.p Pu.mv ?_
 refine TL.p Pu.mv ?_
 refine TL.p Pu.mv ?_
 refine TL.p Pu.as ?_
 refine TL.p Pu.as ?_
 refine TL.p Pu.as ?_
 refine TL.nil (TQ.thenN (hY23 _ _ ?_))
 refine TW.ret ?_
 refine TQ.ret Tryz.results28 rfl ((.tmp rfl (.tmp rfl (.tmp rfl .nil)))) ?_
 have hX := hX9.out
 rw [hq2] at hX
 exact fun w hw => ⟨(Ab, cb9), by unfold hirR hirV; rw [← hX]; rfl, by unfold hirV; rw [← hX]; exact hw.sub (KSub.cons pk9 KSub.nil)⟩
end
end Go.Proofs.YtfaenhhgkhcghaaGreatDoor
namespace Go.Proofs.YtfaenhhgkhcghaaGreatDoor
set_option linter.all false
set_option linter.unusedVariables false
set_option linter.unusedSimpArgs false
open Go.RowKit
theorem tri_up {v : Nat → Int} {n : Nat} (h : triOk v n = true) : ∀ i : Nat, i < n → (i : Int) ≤ v i ∧ v i ≤ 7
 | 0, hi => by
  have := allB_iff.1 h 0 hi
  unfold inB5 at this
  simp only [Bool.and_eq_true, decide_eq_true_eq] at this
  omega
 | i + 1, hi => by
  have h1 := tri_up h i (by omega)
  have := allB_iff.1 h (i + 1) hi
  unfold inB5 at this
  simp only [Bool.and_eq_true, Bool.or_eq_true, decide_eq_true_eq, Nat.add_sub_cancel] at this
  have h2 := this.2.resolve_left (by omega)
  omega
theorem tri_len {v : Nat → Int} {n : Nat} (h : triOk v n = true) : n ≤ 8 := by
  by_cases h0 : n = 0
  · omega
  · have h1 := tri_up h (n - 1) (by omega)
    omega
theorem trp_lens {T : Trp} (h : trpOk T = true) : T.no ≤ 8 ∧ T.nu ≤ 8 ∧ T.nv ≤ 8 := by
 unfold trpOk at h
 simp only [Bool.and_eq_true] at h
 exact ⟨tri_len h.1.1.2, tri_len h.1.2, tri_len h.2⟩
def hirW (Y : Wy) (Z : Cus) (T : Trp) (E : Fes) : List Int × Int × Bool := hirV Z T Y.n (stY Y) E
def hirC (Y : Wy) (Z : Cus) (T : Trp) (E : Fes) : Int := if rdyC Y Z T ≠ 0 then rdyC Y Z T else if fesOk E = false then 74 else if wkC Y ≠ 0 then wkC Y else if (hirW Y Z T E).2.2 = true then 0 else 75
def hirL (Y : Wy) (Z : Cus) (T : Trp) (E : Fes) : List Int := if hirC Y Z T E = 0 then (hirW Y Z T E).1 else []
def hirN (Y : Wy) (Z : Cus) (T : Trp) (E : Fes) : Int := if hirC Y Z T E = 0 then (hirW Y Z T E).2.1 else 0
def hirA (Y : Wy) (Z : Cus) (T : Trp) (E : Fes) (y : Option Addr × Nat) : Value := .tuple #[.slice y.1 (hirL Y Z T E).length y.2, .int .i64 (hirN Y Z T E), .int .i64 (hirC Y Z T E)]
def hirF (Y : Wy) (Z : Cus) (T : Trp) (E : Fes) (y : Option Addr × Nat) : List Fact := [.own y.1 (hirL Y Z T E).length y.2 3 1 (iL (hirL Y Z T E))]
section
variable {Y : Wy} {Z : Cus} {T : Trp} {E : Fes}
theorem hirC_rdy (h : rdyC Y Z T ≠ 0) : hirC Y Z T E = rdyC Y Z T := if_pos h
theorem hirC_fee (h : rdyC Y Z T = 0) (hE : fesOk E = false) : hirC Y Z T E = 74 := by unfold hirC; rw [if_neg (by omega), if_pos hE]
theorem hirC_wk (h : rdyC Y Z T = 0) (hE : fesOk E = true) (hw : wkC Y ≠ 0) : hirC Y Z T E = wkC Y := by unfold hirC; rw [if_neg (by omega), if_neg (by rw [hE]; simp), if_pos hw]
theorem hirC_no (h : rdyC Y Z T = 0) (hE : fesOk E = true) (hw : wkC Y = 0) (hf : (hirW Y Z T E).2.2 = false) : hirC Y Z T E = 75 := by unfold hirC; rw [if_neg (by omega), if_neg (by rw [hE]; simp), if_neg (by omega), if_neg (by rw [hf]; simp)]
theorem hirC_ok (h : rdyC Y Z T = 0) (hE : fesOk E = true) (hw : wkC Y = 0) (hf : (hirW Y Z T E).2.2 = true) : hirC Y Z T E = 0 := by unfold hirC; rw [if_neg (by omega), if_neg (by rw [hE]; simp), if_neg (by omega), if_pos hf]
theorem hir_bad {w w' : World} {K : List Fact} {e : Int} (hw : Sat [] w K w') (he : hirC Y Z T E = e) (h0 : e ≠ 0) : ∃ y, Ending.returned (retV [.slice none 0 0, .int .i64 0, .int .i64 e]) = .returned (hirA Y Z T E y) ∧ Sat [] w (hirF Y Z T E y) w' := by
 have h9 : hirC Y Z T E ≠ 0 := by rw [he]; exact h0
 have e1 : hirL Y Z T E = [] := if_neg h9
 have e2 : hirN Y Z T E = 0 := if_neg h9
 refine ⟨(none, 0), ?_, ?_⟩
 · unfold hirA
   rw [e1, e2, he]
   rfl
 · unfold hirF
   rw [e1]
   exact hw.sub (KSub.nilOwn KSub.nil)
theorem hir_good {w w' : World} {K : List Fact} {y0 : Option Addr × Nat} (hw : Sat [] w (.own y0.1 (hirW Y Z T E).1.length y0.2 3 1 (iL (hirW Y Z T E).1) :: K) w') (he : hirC Y Z T E = 0) : ∃ y, Ending.returned (retV [.slice y0.1 (hirW Y Z T E).1.length y0.2, .int .i64 (hirW Y Z T E).2.1, .int .i64 0]) = .returned (hirA Y Z T E y) ∧ Sat [] w (hirF Y Z T E y) w' := by
 have e1 : hirL Y Z T E = (hirW Y Z T E).1 := if_pos he
 have e2 : hirN Y Z T E = (hirW Y Z T E).2.1 := if_pos he
 refine ⟨y0, ?_, ?_⟩
 · unfold hirA
   rw [e1, e2, he]
   rfl
 · unfold hirF
   rw [e1]
   exact hw.sub (KSub.cons pk9 KSub.nil)
end
section
variable {Z : Cus} {T : Trp} {Y : Wy} {W A L C D B O U V G : Option Addr} {cw cl cn cc cd cb co cu cv cg : Nat} {E : Fes} {w : World}
set_option maxRecDepth 100000 in
set_option maxHeartbeats 1000000 in
theorem refHire_any (hL : LandIn w W Y.nw A Y.nl Y.f Y.x Y.g) (hn : Y.n ≤ 1000) (hR : RdR w 1 L Y.n (fun k => [.int .i64 (Y.ls k)])) (h : CustIn w C Z.nc D Z.nd B Z.nb Z.c Z.d Z.b) (t : TrpIn w T O U V) (hnf : E.nf ≤ 1000) (hE : RdR w 2 G E.nf (feeL E)) :
  CallsK Tryz.prog 8 #[.agg (landL W Y.nw cw A Y.nl cl).toArray, .agg (custL C Z.nc cc D Z.nd cd B Z.nb cb).toArray, .agg (troopL T.hd T.wo O T.no co U T.nu cu V T.nv cv).toArray, .slice G E.nf cg, .int .i64 Y.start, .int .i64 Y.day, .agg #[.int .i64 Y.p0, .int .i64 Y.p1], .slice L Y.n cn] [] w (Option Addr × Nat) (hirA Y Z T E) (hirF Y Z T E) := by
 have fW := fun (w' : World) (h1 : LandIn w' W Y.nw A Y.nl Y.f Y.x Y.g) (h2 : RdR w' 1 L Y.n (fun k => [.int .i64 (Y.ls k)])) (h3 : CustIn w' C Z.nc D Z.nd B Z.nb Z.c Z.d Z.b) (h4 : TrpIn w' T O U V) => rwalk_any (cw := cw) (cl := cl) (cc := cc) (cd := cd) (cb := cb) (co := co) (cu := cu) (cv := cv) (cn := cn) h1 hn h2 h3 h4
 have fB := fun (w' : World) (hok : CusOk Z) (htr : trpOk T = true) (hE' : fesOk E = true) (h3 : CustIn w' C Z.nc D Z.nd B Z.nb Z.c Z.d Z.b) (h4 : TrpIn w' T O U V) (As : Option Addr) (cs : Nat) (s : StpIn w' (tolN Y Z T) (stY Y) As) (h5 : RdR w' 2 G E.nf (feeL E)) => rhire_any (cc := cc) (cd := cd) (cb := cb) (co := co) (cu := cu) (cv := cv) (cs := cs) (ca := cg) hok htr hE' h3 h4 s h5
 unfold landL custL troopL at fW ⊢
 unfold custL troopL at fB
 refine K_enter (S := []) (K := []) Tryz.func8 rfl Tryz.ntmps8 rfl (Sat.start _) ?_
 refine TW.seq fun Y1 hY1 => TW.region ?_
 refine TL.m Mk.bx ?_
 intro b1
 refine TL.m Mk.bx ?_
 intro b2
 refine TL.m Mk.bx ?_
 intro b3
 refine TL.m Mk.bx ?_
 intro b4
 refine TL.p Pu.as ?_
 refine TL.p Pu.as ?_
 refine TL.p Pu.as ?_
 refine TL.nil (TQ.thenN (hY1 _ _ ?_))
 refine TW.seq fun Y2 hY2 => ?_
 refine TW.seq fun Y3 hY3 => TW.region ?_
 refine TL.p (Pu.lds ty_ag25) ?_
 refine TL.p (Pu.lds ty_ag30) ?_
 refine TL.cr rfl (enters Tryz.func29 rfl rfl) (fun w hw => by
   exact refCheck_any (hL.ext (Chg.ext hw.chg)) (h.ext (Chg.ext hw.chg))) ?_
 refine TL.p Pu.as ?_
 refine TL.nil (TQ.thenN (hY3 _ _ ?_))
 refine TW.seq fun Y4 hY4 => TW.region ?_
 refine TL.p Pu.mv ?_
 refine TL.p Pu.ne ?_
 refine TL.nil (TQ.thenN (hY4 _ _ ?_))
 refine TW.cond rfl (fun hc0 => ?_) (fun hc0 => ?_)
 try simp only [zcb9] at hc0
 have hne : chkY Y Z ≠ 0 := hc0
 refine TW.seq fun Y5 hY5 => TW.region ?_
 refine TL.p Pu.mv ?_
 refine TL.p Pu.as ?_
 refine TL.p Pu.as ?_
 refine TL.p Pu.as ?_
 refine TL.nil (TQ.thenN (hY5 _ _ ?_))
 refine TW.ret ?_
 refine TQ.thenR ?_
 refine TQ.ret Tryz.results8 rfl ((.tmp rfl (.tmp rfl (.tmp rfl .nil)))) ?_
 exact fun w hw => hir_bad hw (by rw [hirC_rdy (by rw [rdy_chk hne]; exact hne), rdy_chk hne]; rfl) hne
 try simp only [zcb9] at hc0
 have hz : chkY Y Z = 0 := by show checkC _ _ _ _ _ _ _ _ _ _ _ = 0; simpa using hc0
 refine TW.skip ?_
 refine TQ.thenN (hY2 _ _ ?_)
 refine TW.seq fun Y6 hY6 => ?_
 refine TW.seq fun Y7 hY7 => TW.region ?_
 refine TL.p (Pu.lds ty_ag33) ?_
 refine TL.cr rfl (enters Tryz.func30 rfl rfl) (fun w hw => by
   exact rTroop_any (t.ext (Chg.ext hw.chg))) ?_
 refine TL.p Pu.no ?_
 refine TL.nil (TQ.thenN (hY7 _ _ ?_))
 refine TW.cond rfl (fun hc1 => ?_) (fun hc1 => ?_)
 try simp only [zcb9] at hc1
 have h1 : trpOk T = false := by simpa using hc1
 refine TW.seq fun Y8 hY8 => TW.region ?_
 refine TL.p Pu.as ?_
 refine TL.p Pu.as ?_
 refine TL.p Pu.as ?_
 refine TL.nil (TQ.thenN (hY8 _ _ ?_))
 refine TW.ret ?_
 refine TQ.thenR ?_
 refine TQ.ret Tryz.results8 rfl ((.tmp rfl (.tmp rfl (.tmp rfl .nil)))) ?_
 exact fun w hw => hir_bad hw (by rw [hirC_rdy (by rw [rdy_trp hz h1]; decide), rdy_trp hz h1]) (by decide)
 try simp only [zcb9] at hc1
 have h1 : trpOk T = true := by simpa using hc1
 have hr := rdy_ok hz h1
 refine TW.skip ?_
 refine TQ.thenN (hY6 _ _ ?_)
 refine TW.seq fun Y9 hY9 => ?_
 refine TW.seq fun Y10 hY10 => TW.region ?_
 refine TL.p Pu.mv ?_
 refine TL.cr rfl (enters Tryz.func31 rfl rfl) (fun w hw => by
   exact rFees_any (by omega) (hE.sat hw Apart.nil)) ?_
 refine TL.p Pu.no ?_
 refine TL.nil (TQ.thenN (hY10 _ _ ?_))
 refine TW.cond rfl (fun hc2 => ?_) (fun hc2 => ?_)
 try simp only [zcb9] at hc2
 have h2 : fesOk E = false := by simpa using hc2
 refine TW.seq fun Y11 hY11 => TW.region ?_
 refine TL.p Pu.as ?_
 refine TL.p Pu.as ?_
 refine TL.p Pu.as ?_
 refine TL.nil (TQ.thenN (hY11 _ _ ?_))
 refine TW.ret ?_
 refine TQ.thenR ?_
 refine TQ.ret Tryz.results8 rfl ((.tmp rfl (.tmp rfl (.tmp rfl .nil)))) ?_
 exact fun w hw => hir_bad hw (hirC_fee hr h2) (by decide)
 try simp only [zcb9] at hc2
 have h2 : fesOk E = true := by simpa using hc2
 refine TW.skip ?_
 refine TQ.thenN (hY9 _ _ ?_)
 refine TW.seq fun Y12 hY12 => TW.region ?_
 refine TL.p (Pu.lds ty_ag25) ?_
 refine TL.p (Pu.lds ty_ag30) ?_
 refine TL.p (Pu.lds ty_ag33) ?_
 refine TL.p Pu.mv ?_
 refine TL.p Pu.mv ?_
 refine TL.p (Pu.lds ty_ag36) ?_
 refine TL.p Pu.mv ?_
 refine TL.call (M := []) rfl (enters Tryz.func32 rfl rfl) (List.Perm.refl _) rfl (fun w hw => by
   exact fW _ (hL.ext (Chg.ext hw.chg)) (hR.sat hw Apart.nil) (h.ext (Chg.ext hw.chg)) (t.ext (Chg.ext hw.chg))) ?_
 rintro ⟨As, cs⟩
 refine TL.p Pu.mv ?_
 refine TL.p Pu.ex ?_
 refine TL.p Pu.ex ?_
 refine TL.p Pu.as ?_
 refine TL.p Pu.as ?_
 refine TL.nil (TQ.thenN (hY12 _ _ ?_))
 refine TW.seq fun Y13 hY13 => ?_
 refine TW.seq fun Y14 hY14 => TW.region ?_
 refine TL.p Pu.mv ?_
 refine TL.p Pu.ne ?_
 refine TL.nil (TQ.thenN (hY14 _ _ ?_))
 refine TW.cond rfl (fun hc3 => ?_) (fun hc3 => ?_)
 try simp only [zcb9] at hc3
 have hne : tolC Y Z T ≠ 0 := hc3
 refine TW.seq fun Y15 hY15 => TW.region ?_
 refine TL.p Pu.mv ?_
 refine TL.p Pu.as ?_
 refine TL.p Pu.as ?_
 refine TL.p Pu.as ?_
 refine TL.nil (TQ.thenN (hY15 _ _ ?_))
 refine TW.ret ?_
 refine TQ.thenR ?_
 refine TQ.ret Tryz.results8 rfl ((.tmp rfl (.tmp rfl (.tmp rfl .nil)))) ?_
 exact fun w hw => hir_bad hw (by rw [tol_wk hr] at hne ⊢; exact hirC_wk hr h2 hne) hne
 try simp only [zcb9] at hc3
 have hz4 : tolC Y Z T = 0 := by simpa using hc3
 have hwk : wkC Y = 0 := by rw [← tol_wk hr]; exact hz4
 have hok := chk_ok hz
 have hnn := tolN_n hz4
 have hWe : hirV Z T (tolN Y Z T) (stY Y) E = hirW Y Z T E := by unfold hirW; rw [hnn]
 refine TW.skip ?_
 refine TQ.thenN (hY13 _ _ ?_)
 refine TW.seq fun Y16 hY16 => TW.region ?_
 refine TL.p (Pu.lds ty_ag30) ?_
 refine TL.p (Pu.lds ty_ag33) ?_
 refine TL.p Pu.mv ?_
 refine TL.p Pu.mv ?_
 refine TL.call (M := []) rfl (enters Tryz.func33 rfl rfl) (List.Perm.refl _) rfl (fun w hw => by
   exact fB _ hok h1 h2 (h.ext (Chg.ext hw.chg)) (t.ext (Chg.ext hw.chg)) As cs (tol_stp hn hw (c9 := cs) (by simp) hz4 hr) (hE.sat hw Apart.nil)) ?_
 rintro ⟨Ag, cg9⟩
 simp only [hWe, hirR]
 refine TL.p Pu.mv ?_
 refine TL.p Pu.ex ?_
 refine TL.p Pu.ex ?_
 refine TL.p Pu.ex ?_
 refine TL.p Pu.as ?_
 refine TL.p Pu.as ?_
 refine TL.p Pu.as ?_
 refine TL.nil (TQ.thenN (hY16 _ _ ?_))
 refine TW.seq fun Y17 hY17 => ?_
 refine TW.seq fun Y18 hY18 => TW.region ?_
 refine TL.p Pu.mv ?_
 refine TL.p Pu.no ?_
 refine TL.nil (TQ.thenN (hY18 _ _ ?_))
 refine TW.cond rfl (fun hc4 => ?_) (fun hc4 => ?_)
 try simp only [zcb9] at hc4
 have hf : (hirW Y Z T E).2.2 = false := by simpa using hc4
 refine TW.seq fun Y19 hY19 => TW.region ?_
 refine TL.p Pu.as ?_
 refine TL.p Pu.as ?_
 refine TL.p Pu.as ?_
 refine TL.nil (TQ.thenN (hY19 _ _ ?_))
 refine TW.ret ?_
 refine TQ.thenR ?_
 refine TQ.ret Tryz.results8 rfl ((.tmp rfl (.tmp rfl (.tmp rfl .nil)))) ?_
 exact fun w hw => hir_bad hw (hirC_no hr h2 hwk hf) (by decide)
 try simp only [zcb9] at hc4
 have hf : (hirW Y Z T E).2.2 = true := by simpa using hc4
 refine TW.skip ?_
 refine TQ.thenN (hY17 _ _ ?_)
 refine TW.seq fun Y20 hY20 => TW.region ?_
 refine TL.p Pu.mv ?_
 refine TL.p Pu.mv ?_
 refine TL.p Pu.as ?_
 refine TL.p Pu.as ?_
 refine TL.p Pu.as ?_
 refine TL.nil (TQ.thenN (hY20 _ _ ?_))
 refine TW.ret ?_
 refine TQ.ret Tryz.results8 rfl ((.tmp rfl (.tmp rfl (.tmp rfl .nil)))) ?_
 exact fun w hw => by
  have q9 := hir_good (Y := Y) (Z := Z) (T := T) (E := E) (y0 := (Ag, cg9)) (K := []) (hw.sub (KSub.cons pk9 KSub.nil)) (hirC_ok hr h2 hwk hf)
  exact q9
set_option maxRecDepth 100000 in
set_option maxHeartbeats 1000000 in
theorem tollHire_any (hL : LandIn w W Y.nw A Y.nl Y.f Y.x Y.g) (hn : Y.n ≤ 1000) (hR : RdR w 1 L Y.n (fun k => [.int .i64 (Y.ls k)])) (h : CustIn w C Z.nc D Z.nd B Z.nb Z.c Z.d Z.b) (t : TrpIn w T O U V) (hG : OldB w 0 barsL) (hnf : E.nf ≤ 1000) (hE : RdR w 2 G E.nf (feeL E)) :
  CallsK Tryz.prog 7 #[.agg (landL W Y.nw cw A Y.nl cl).toArray, .agg (custL C Z.nc cc D Z.nd cd B Z.nb cb).toArray, .agg (troopL T.hd T.wo O T.no co U T.nu cu V T.nv cv).toArray, .slice G E.nf cg, .int .i64 Y.start, .int .i64 Y.day, .agg #[.int .i64 Y.p0, .int .i64 Y.p1], .slice L Y.n cn] [] w (Option Addr × Nat) (hirA Y Z T E) (hirF Y Z T E) := by
 have fR := fun (w' : World) (h1 : LandIn w' W Y.nw A Y.nl Y.f Y.x Y.g) (h2 : CustIn w' C Z.nc D Z.nd B Z.nb Z.c Z.d Z.b) (h3 : TrpIn w' T O U V) => cReady_any (cw := cw) (cl := cl) (cc := cc) (cd := cd) (cb := cb) (co := co) (cu := cu) (cv := cv) h1 h2 h3
 have fW := fun (w' : World) (h1 : LandIn w' W Y.nw A Y.nl Y.f Y.x Y.g) (h2 : RdR w' 1 L Y.n (fun k => [.int .i64 (Y.ls k)])) => cWalked_any (Z := Z) (T := T) (C := C) (D := D) (B := B) (O := O) (U := U) (V := V) (cw := cw) (cl := cl) (cc := cc) (cd := cd) (cb := cb) (co := co) (cu := cu) (cv := cv) (cn := cn) h1 hn h2
 unfold landL custL troopL at fR fW ⊢
 refine K_enter (S := []) (K := []) Tryz.func7 rfl Tryz.ntmps7 rfl (Sat.start _) ?_
 refine TW.seq fun Y1 hY1 => TW.region ?_
 refine TL.m Mk.bx ?_
 intro b1
 refine TL.m Mk.bx ?_
 intro b2
 refine TL.m Mk.bx ?_
 intro b3
 refine TL.m Mk.bx ?_
 intro b4
 refine TL.p Pu.as ?_
 refine TL.p Pu.as ?_
 refine TL.p Pu.as ?_
 refine TL.nil (TQ.thenN (hY1 _ _ ?_))
 refine TW.seq fun Y2 hY2 => ?_
 refine TW.seq fun Y3 hY3 => TW.region ?_
 refine TL.p (Pu.lds ty_ag25) ?_
 refine TL.p (Pu.lds ty_ag30) ?_
 refine TL.p (Pu.lds ty_ag33) ?_
 refine TL.cr rfl (enters Tryz.func25 rfl rfl) (fun w hw => by
   exact fR _ (hL.ext (Chg.ext hw.chg)) (h.ext (Chg.ext hw.chg)) (t.ext (Chg.ext hw.chg))) ?_
 refine TL.p Pu.as ?_
 refine TL.nil (TQ.thenN (hY3 _ _ ?_))
 refine TW.seq fun Y4 hY4 => TW.region ?_
 refine TL.p Pu.mv ?_
 refine TL.p Pu.ne ?_
 refine TL.nil (TQ.thenN (hY4 _ _ ?_))
 refine TW.cond rfl (fun hc0 => ?_) (fun hc0 => ?_)
 try simp only [zcb9] at hc0
 have hne : rdyC Y Z T ≠ 0 := hc0
 refine TW.seq fun Y5 hY5 => TW.region ?_
 refine TL.p Pu.mv ?_
 refine TL.p Pu.as ?_
 refine TL.p Pu.as ?_
 refine TL.p Pu.as ?_
 refine TL.nil (TQ.thenN (hY5 _ _ ?_))
 refine TW.ret ?_
 refine TQ.thenR ?_
 refine TQ.ret Tryz.results7 rfl ((.tmp rfl (.tmp rfl (.tmp rfl .nil)))) ?_
 exact fun w hw => hir_bad hw (hirC_rdy hne) hne
 try simp only [zcb9] at hc0
 have hz : rdyC Y Z T = 0 := by simpa using hc0
 obtain ⟨hz1, hz2⟩ := rdy_split hz
 have hok := chk_ok hz1
 refine TW.skip ?_
 refine TQ.thenN (hY2 _ _ ?_)
 refine TW.seq fun Y6 hY6 => ?_
 refine TW.seq fun Y7 hY7 => TW.region ?_
 refine TL.p Pu.mv ?_
 refine TL.cr rfl (enters Tryz.func26 rfl rfl) (fun w hw => by
   exact cPriced_any (by omega) (hE.sat hw Apart.nil)) ?_
 refine TL.p Pu.no ?_
 refine TL.nil (TQ.thenN (hY7 _ _ ?_))
 refine TW.cond rfl (fun hc1 => ?_) (fun hc1 => ?_)
 try simp only [zcb9] at hc1
 have h2 : fesOk E = false := by simpa using hc1
 refine TW.seq fun Y8 hY8 => TW.region ?_
 refine TL.p Pu.as ?_
 refine TL.p Pu.as ?_
 refine TL.p Pu.as ?_
 refine TL.nil (TQ.thenN (hY8 _ _ ?_))
 refine TW.ret ?_
 refine TQ.thenR ?_
 refine TQ.ret Tryz.results7 rfl ((.tmp rfl (.tmp rfl (.tmp rfl .nil)))) ?_
 exact fun w hw => hir_bad hw (hirC_fee hz h2) (by decide)
 try simp only [zcb9] at hc1
 have h2 : fesOk E = true := by simpa using hc1
 refine TW.skip ?_
 refine TQ.thenN (hY6 _ _ ?_)
 refine TW.seq fun Y9 hY9 => TW.region ?_
 refine TL.p (Pu.lds ty_ag25) ?_
 refine TL.p (Pu.lds ty_ag30) ?_
 refine TL.p (Pu.lds ty_ag33) ?_
 refine TL.p Pu.mv ?_
 refine TL.p Pu.mv ?_
 refine TL.p (Pu.lds ty_ag36) ?_
 refine TL.p Pu.mv ?_
 refine TL.call (M := []) rfl (enters Tryz.func27 rfl rfl) (List.Perm.refl _) rfl (fun w hw => by
   exact fW _ (hL.ext (Chg.ext hw.chg)) (hR.sat hw Apart.nil)) ?_
 rintro ⟨⟨As, cs⟩, bt⟩
 refine TL.p Pu.mv ?_
 refine TL.p Pu.ex ?_
 refine TL.p Pu.ex ?_
 refine TL.p Pu.as ?_
 refine TL.p Pu.as ?_
 refine TL.nil (TQ.thenN (hY9 _ _ ?_))
 refine TW.seq fun Y10 hY10 => ?_
 refine TW.seq fun Y11 hY11 => TW.region ?_
 refine TL.p Pu.mv ?_
 refine TL.p Pu.ne ?_
 refine TL.nil (TQ.thenN (hY11 _ _ ?_))
 refine TW.cond rfl (fun hc2 => ?_) (fun hc2 => ?_)
 try simp only [zcb9] at hc2
 have hne : wkC Y ≠ 0 := hc2
 refine TW.seq fun Y12 hY12 => TW.region ?_
 refine TL.p Pu.mv ?_
 refine TL.p Pu.as ?_
 refine TL.p Pu.as ?_
 refine TL.p Pu.as ?_
 refine TL.nil (TQ.thenN (hY12 _ _ ?_))
 refine TW.ret ?_
 refine TQ.thenR ?_
 refine TQ.ret Tryz.results7 rfl ((.tmp rfl (.tmp rfl (.tmp rfl .nil)))) ?_
 exact fun w hw => hir_bad hw (hirC_wk hz h2 hne) hne
 try simp only [zcb9] at hc2
 have hwz : wkC Y = 0 := by simpa using hc2
 have hwn := wkN_n hwz
 have hwb := stY_bd hwz
 have hWe : hirV Z T (wkN Y) (stY Y) E = hirW Y Z T E := by unfold hirW; rw [hwn]
 refine TW.skip ?_
 refine TQ.thenN (hY10 _ _ ?_)
 refine TW.seq fun Y13 hY13 => TW.region ?_
 refine TL.p Pu.mv ?_
 refine TL.p Pu.mv ?_
 refine TL.call (M := []) rfl (enters Tryz.func28 rfl rfl) (List.Perm.refl _) rfl (fun w hw => by
   have q1 := OldB.of_blk (hw.holds (.blk bt 129 (trkL T O co U cu V cv Z C cc D cd B cb As (wkN Y) cs)) (by simp))
   have q2 := OwnR.rdr (hw.holds (.own As (wkN Y) cs 160 6 (fun k => stopL (stY Y k))) (by simp))
   exact cHire_any hok h2 (h.ext (Chg.ext hw.chg)) (t.ext (Chg.ext hw.chg)) ⟨by rw [hwn]; exact hn, q2, fun k hk => hwb k (by rw [← hwn]; exact hk)⟩ q1 (hG.ext (Chg.ext hw.chg)) (by have := trp_lens hz2; omega) (hE.sat hw Apart.nil)) ?_
 rintro ⟨Ag, cg9⟩
 simp only [hWe, hirR]
 refine TL.p Pu.mv ?_
 refine TL.p Pu.ex ?_
 refine TL.p Pu.ex ?_
 refine TL.p Pu.ex ?_
 refine TL.p Pu.as ?_
 refine TL.p Pu.as ?_
 refine TL.p Pu.as ?_
 refine TL.nil (TQ.thenN (hY13 _ _ ?_))
 refine TW.seq fun Y14 hY14 => ?_
 refine TW.seq fun Y15 hY15 => TW.region ?_
 refine TL.p Pu.mv ?_
 refine TL.p Pu.no ?_
 refine TL.nil (TQ.thenN (hY15 _ _ ?_))
 refine TW.cond rfl (fun hc3 => ?_) (fun hc3 => ?_)
 try simp only [zcb9] at hc3
 have hf : (hirW Y Z T E).2.2 = false := by simpa using hc3
 refine TW.seq fun Y16 hY16 => TW.region ?_
 refine TL.p Pu.as ?_
 refine TL.p Pu.as ?_
 refine TL.p Pu.as ?_
 refine TL.nil (TQ.thenN (hY16 _ _ ?_))
 refine TW.ret ?_
 refine TQ.thenR ?_
 refine TQ.ret Tryz.results7 rfl ((.tmp rfl (.tmp rfl (.tmp rfl .nil)))) ?_
 exact fun w hw => hir_bad hw (hirC_no hz h2 hwz hf) (by decide)
 try simp only [zcb9] at hc3
 have hf : (hirW Y Z T E).2.2 = true := by simpa using hc3
 refine TW.skip ?_
 refine TQ.thenN (hY14 _ _ ?_)
 refine TW.seq fun Y17 hY17 => TW.region ?_
 refine TL.p Pu.mv ?_
 refine TL.p Pu.mv ?_
 refine TL.p Pu.as ?_
 refine TL.p Pu.as ?_
 refine TL.p Pu.as ?_
 refine TL.nil (TQ.thenN (hY17 _ _ ?_))
 refine TW.ret ?_
 refine TQ.ret Tryz.results7 rfl ((.tmp rfl (.tmp rfl (.tmp rfl .nil)))) ?_
 exact fun w hw => by
  have q9 := hir_good (Y := Y) (Z := Z) (T := T) (E := E) (y0 := (Ag, cg9)) (K := []) (hw.sub (KSub.cons pk9 KSub.nil)) (hirC_ok hz h2 hwz hf)
  exact q9
end
end Go.Proofs.YtfaenhhgkhcghaaGreatDoor
namespace Go.Proofs.YtfaenhhgkhcghaaGreatDoor
set_option linter.all false
set_option linter.unusedVariables false
set_option linter.unusedSimpArgs false
open Go.RowKit
def wcN (Y : Wy) (Z : Cus) (T : Trp) (E : Fes) (v : List Int) : Int := (hirW (wsV Y v) Z T E).2.1 + allHi Z T (stY (wsV Y v)) v.length
abbrev ChS : Type := Nat × List Int × Int × Bool
def chpK (Y : Wy) (Z : Cus) (T : Trp) (E : Fes) (L : List (List Int)) : Nat → ChS
 | 0 => (0, [], 0, false)
 | k + 1 => if ((hirW (wsV Y (L.getD k [])) Z T E).2.2 && (!(chpK Y Z T E L k).2.2.2 || decide (wcN Y Z T E (L.getD k []) < (chpK Y Z T E L k).2.2.1))) = true then (k, (hirW (wsV Y (L.getD k [])) Z T E).1, wcN Y Z T E (L.getD k []), true) else chpK Y Z T E L k
def chpS (Y : Wy) (Z : Cus) (T : Trp) (E : Fes) (to un : Int) : ChS := chpK Y Z T E (wsL Y to un) (wsL Y to un).length
def chpC (Y : Wy) (Z : Cus) (T : Trp) (E : Fes) (to un : Int) : Int := if rdyC Y Z T ≠ 0 then rdyC Y Z T else if fesOk E = false then 74 else if wsC Y to un ≠ 0 then wsC Y to un else if (chpS Y Z T E to un).2.2.2 = true then 0 else 75
def chpL (Y : Wy) (Z : Cus) (T : Trp) (E : Fes) (to un : Int) : List Int := if chpC Y Z T E to un = 0 then (wsL Y to un).getD (chpS Y Z T E to un).1 [] else []
def chpG (Y : Wy) (Z : Cus) (T : Trp) (E : Fes) (to un : Int) : List Int := if chpC Y Z T E to un = 0 then (chpS Y Z T E to un).2.1 else []
def chpN (Y : Wy) (Z : Cus) (T : Trp) (E : Fes) (to un : Int) : Int := if chpC Y Z T E to un = 0 then (chpS Y Z T E to un).2.2.1 else 0
abbrev CX : Type := (Option Addr × Nat) × (Option Addr × Nat)
def chpV (Y : Wy) (Z : Cus) (T : Trp) (E : Fes) (to un : Int) (y : CX) : Value := .tuple #[.slice y.1.1 (chpL Y Z T E to un).length y.1.2, .slice y.2.1 (chpG Y Z T E to un).length y.2.2, .int .i64 (chpN Y Z T E to un), .int .i64 (chpC Y Z T E to un)]
def chpF (Y : Wy) (Z : Cus) (T : Trp) (E : Fes) (to un : Int) (y : CX) : List Fact := [.own y.1.1 (chpL Y Z T E to un).length y.1.2 3 1 (iL (chpL Y Z T E to un)), .own y.2.1 (chpG Y Z T E to un).length y.2.2 3 1 (iL (chpG Y Z T E to un))]
theorem foot_sub {φ : Fact} : ∀ {L : List Fact}, φ ∈ L → φ.foot.Sublist (feet L)
 | ψ :: L, h => by
  show φ.foot.Sublist (ψ.foot ++ feet L)
  rcases List.mem_cons.1 h with rfl | h
  · exact List.sublist_append_left _ _
  · exact (foot_sub h).trans (List.sublist_append_right _ _)
theorem sat_bunM {S : List Nat} {w0 w : World} {φ : Fact} {L K : List Fact} (h : Sat S w0 (bun L :: K) w) (hm : φ ∈ L) : Sat S w0 (φ :: K) w := by
 have hsub : (feet (φ :: K)).Sublist (feet (bun L :: K)) := by
   show (φ.foot ++ feet K).Sublist (feet L ++ feet K)
   exact List.Sublist.append (foot_sub hm) (List.Sublist.refl _)
 refine ⟨h.chg, h.nd.sublist hsub, fun b hb => h.ge b (hsub.subset hb), fun ψ hψ => ?_⟩
 rcases List.mem_cons.1 hψ with rfl | hψ
 · exact (h.holds (bun L) (List.mem_cons_self ..)).now _ hm
 · exact h.holds ψ (List.mem_cons_of_mem _ hψ)
theorem lks_mem {L : List (List Int)} {ia : Nat → Option Addr} {ic : Nat → Nat} {k : Nat} (h : k < L.length) : Fact.own (ia k) (L.getD k []).length (ic k) 3 1 (iL (L.getD k [])) ∈ lksK L ia ic := ownsE_mem h
section
variable {Y : Wy} {Z : Cus} {T : Trp} {E : Fes} {to un : Int}
theorem chp_bad {w0 w : World} {K : List Fact} {e : Int} (h : Sat [] w0 K w) (he : chpC Y Z T E to un = e) (h0 : e ≠ 0) : ∃ y : CX, Ending.returned (retV [.slice none 0 0, .slice none 0 0, .int .i64 0, .int .i64 e]) = .returned (chpV Y Z T E to un y) ∧ Sat [] w0 (chpF Y Z T E to un y) w := by
 have h9 : chpC Y Z T E to un ≠ 0 := by rw [he]; exact h0
 refine ⟨((none, 0), none, 0), ?_, ?_⟩
 · unfold chpV chpL chpG chpN
   rw [if_neg h9, if_neg h9, if_neg h9, he]
   rfl
 · unfold chpF chpL chpG
   rw [if_neg h9, if_neg h9]
   exact h.sub (KSub.nilOwn (KSub.nilOwn KSub.nil))
theorem chpK_at {L : List (List Int)} : ∀ k, (chpK Y Z T E L k).2.2.2 = true → (chpK Y Z T E L k).1 < k
 | 0, h => by simp [chpK] at h
 | k + 1, h => by
  simp only [chpK] at h ⊢
  split
  · simp only; omega
  · next e =>
    rw [if_neg e] at h
    have := chpK_at k h
    omega
theorem hirW_bd {Y : Wy} (hE : fesOk E = true) : 0 ≤ (hirW Y Z T E).2.1 ∧ (hirW Y Z T E).2.1 ≤ 8000000000000 := hirK_bd hE _
theorem chpK_bd {L : List (List Int)} (hok : CusOk Z) (ht : trpOk T = true) (hE : fesOk E = true) (hL : ∀ v, v ∈ L → v.length ≤ 1000) : ∀ k, k ≤ L.length → 0 ≤ (chpK Y Z T E L k).2.2.1 ∧ (chpK Y Z T E L k).2.2.1 ≤ 3000000000000000
 | 0, _ => by simp [chpK]
 | k + 1, hk => by
  simp only [chpK]
  split
  · have h1 := hirW_bd (Z := Z) (T := T) (Y := wsV Y (L.getD k [])) hE
    have h2 := all_bd (st := stY (wsV Y (L.getD k []))) hok ht (L.getD k []).length
    have h3 : (L.getD k []).length ≤ 1000 := hL _ (by rw [List.getD_eq_getElem?_getD, List.getElem?_eq_getElem (show k < L.length by omega)]; exact List.getElem_mem _)
    simp only [wcN]
    omega
  · exact chpK_bd hok ht hE hL k (by omega)
end
section
variable {Y : Wy} {Z : Cus} {T : Trp} {E : Fes} {to un : Int} {W A C D B O U V G : Option Addr} {cw cl cc cd cb co cu cv cg : Nat} {w : World}
set_option maxRecDepth 100000 in
set_option maxHeartbeats 8000000 in
theorem tollCheapest_any (hL : LandIn w W Y.nw A Y.nl Y.f Y.x Y.g) (h : CustIn w C Z.nc D Z.nd B Z.nb Z.c Z.d Z.b) (t : TrpIn w T O U V) (hG : OldB w 0 barsL) (hnf : E.nf ≤ 1000) (hE : RdR w 2 G E.nf (feeL E)) :
  CallsK Tryz.prog 9 #[.agg (landL W Y.nw cw A Y.nl cl).toArray, .agg (custL C Z.nc cc D Z.nd cd B Z.nb cb).toArray, .agg (troopL T.hd T.wo O T.no co U T.nu cu V T.nv cv).toArray, .slice G E.nf cg, .int .i64 Y.start, .int .i64 to, .int .i64 Y.day, .int .i64 un, .agg #[.int .i64 Y.p0, .int .i64 Y.p1]] [] w CX (chpV Y Z T E to un) (chpF Y Z T E to un) := by
 have fR := fun (w' : World) (h1 : LandIn w' W Y.nw A Y.nl Y.f Y.x Y.g) (h2 : CustIn w' C Z.nc D Z.nd B Z.nb Z.c Z.d Z.b) (h3 : TrpIn w' T O U V) => cReady_any (cw := cw) (cl := cl) (cc := cc) (cd := cd) (cb := cb) (co := co) (cu := cu) (cv := cv) h1 h2 h3
 have fW := fun (w' : World) (v : List Int) (L : Option Addr) (cn : Nat) (hn : v.length ≤ 1000) (h1 : LandIn w' W Y.nw A Y.nl Y.f Y.x Y.g) (h2 : RdR w' 1 L v.length (iL v)) => cWalked_any (Y := wsV Y v) (L := L) (Z := Z) (T := T) (C := C) (D := D) (B := B) (O := O) (U := U) (V := V) (cw := cw) (cl := cl) (cc := cc) (cd := cd) (cb := cb) (co := co) (cu := cu) (cv := cv) (cn := cn) h1 hn h2
 have fY := fun (w' : World) (h1 : LandIn w' W Y.nw A Y.nl Y.f Y.x Y.g) => cWays_any (to := to) (un := un) (cw := cw) (cl := cl) h1
 unfold landL custL troopL at fR fW
 unfold landL at fY
 unfold landL custL troopL
 refine K_enter (S := []) (K := []) Tryz.func9 rfl Tryz.ntmps9 rfl (Sat.start _) ?_
 refine TW.seq fun Y1 hY1 => TW.region ?_
 refine TL.m Mk.bx ?_
 intro b1
 refine TL.m Mk.bx ?_
 intro b2
 refine TL.m Mk.bx ?_
 intro b3
 refine TL.m Mk.bx ?_
 intro b4
 refine TL.p Pu.as ?_
 refine TL.p Pu.as ?_
 refine TL.p Pu.as ?_
 refine TL.p Pu.as ?_
 refine TL.nil (TQ.thenN (hY1 _ _ ?_))
 refine TW.seq fun Y2 hY2 => ?_
 refine TW.seq fun Y3 hY3 => TW.region ?_
 refine TL.p (Pu.lds ty_ag25) ?_
 refine TL.p (Pu.lds ty_ag30) ?_
 refine TL.p (Pu.lds ty_ag33) ?_
 refine TL.cr rfl (enters Tryz.func25 rfl rfl) (fun w hw => by
   exact fR _ (hL.ext (Chg.ext hw.chg)) (h.ext (Chg.ext hw.chg)) (t.ext (Chg.ext hw.chg))) ?_
 refine TL.p Pu.as ?_
 refine TL.nil (TQ.thenN (hY3 _ _ ?_))
 refine TW.seq fun Y4 hY4 => TW.region ?_
 refine TL.p Pu.mv ?_
 refine TL.p Pu.ne ?_
 refine TL.nil (TQ.thenN (hY4 _ _ ?_))
 refine TW.cond rfl (fun hc0 => ?_) (fun hc0 => ?_)
 try simp only [zcb9] at hc0
 have hne : rdyC Y Z T ≠ 0 := hc0
 refine TW.seq fun Y5 hY5 => TW.region ?_
 refine TL.p Pu.mv ?_
 refine TL.p Pu.as ?_
 refine TL.p Pu.as ?_
 refine TL.p Pu.as ?_
 refine TL.p Pu.as ?_
 refine TL.nil (TQ.thenN (hY5 _ _ ?_))
 refine TW.ret ?_
 refine TQ.thenR ?_
 refine TQ.ret Tryz.results9 rfl ((.tmp rfl (.tmp rfl (.tmp rfl (.tmp rfl .nil))))) ?_
 exact fun w hw => chp_bad hw (if_pos hne) hne
 try simp only [zcb9] at hc0
 have hz : rdyC Y Z T = 0 := by simpa using hc0
 obtain ⟨hz1, hz2⟩ := rdy_split hz
 have hok := chk_ok hz1
 refine TW.skip ?_
 refine TQ.thenN (hY2 _ _ ?_)
 refine TW.seq fun Y6 hY6 => ?_
 refine TW.seq fun Y7 hY7 => TW.region ?_
 refine TL.p Pu.mv ?_
 refine TL.cr rfl (enters Tryz.func26 rfl rfl) (fun w hw => by
   exact cPriced_any (by omega) (hE.sat hw Apart.nil)) ?_
 refine TL.p Pu.no ?_
 refine TL.nil (TQ.thenN (hY7 _ _ ?_))
 refine TW.cond rfl (fun hc1 => ?_) (fun hc1 => ?_)
 try simp only [zcb9] at hc1
 have h2 : fesOk E = false := by simpa using hc1
 refine TW.seq fun Y8 hY8 => TW.region ?_
 refine TL.p Pu.as ?_
 refine TL.p Pu.as ?_
 refine TL.p Pu.as ?_
 refine TL.p Pu.as ?_
 refine TL.nil (TQ.thenN (hY8 _ _ ?_))
 refine TW.ret ?_
 refine TQ.thenR ?_
 refine TQ.ret Tryz.results9 rfl ((.tmp rfl (.tmp rfl (.tmp rfl (.tmp rfl .nil))))) ?_
 exact fun w hw => chp_bad hw (by unfold chpC; rw [if_neg (by omega), if_pos h2]) (by decide)
 try simp only [zcb9] at hc1
 have h2 : fesOk E = true := by simpa using hc1
 refine TW.skip ?_
 refine TQ.thenN (hY6 _ _ ?_)
 refine TW.seq fun Y9 hY9 => TW.region ?_
 refine TL.p (Pu.lds ty_ag25) ?_
 refine TL.p Pu.mv ?_
 refine TL.p Pu.mv ?_
 refine TL.p Pu.mv ?_
 refine TL.p Pu.mv ?_
 refine TL.p (Pu.lds ty_ag36) ?_
 refine TL.call (M := []) rfl (enters Tryz.func34 rfl rfl) (List.Perm.refl _) rfl (fun w hw => by
   exact fY _ (hL.ext (Chg.ext hw.chg))) ?_
 rintro ⟨⟨A9, c9⟩, ia, ic⟩
 simp only [wsK, lksR, List.cons_append, List.nil_append]
 refine TL.p Pu.mv ?_
 refine TL.p Pu.ex ?_
 refine TL.p Pu.ex ?_
 refine TL.p Pu.as ?_
 refine TL.p Pu.as ?_
 refine TL.nil (TQ.thenN (hY9 _ _ ?_))
 refine TW.seq fun Y10 hY10 => ?_
 refine TW.seq fun Y11 hY11 => TW.region ?_
 refine TL.p Pu.mv ?_
 refine TL.p Pu.ne ?_
 refine TL.nil (TQ.thenN (hY11 _ _ ?_))
 refine TW.cond rfl (fun hc2 => ?_) (fun hc2 => ?_)
 try simp only [zcb9] at hc2
 have hne : wsC Y to un ≠ 0 := hc2
 refine TW.seq fun Y12 hY12 => TW.region ?_
 refine TL.p Pu.mv ?_
 refine TL.p Pu.as ?_
 refine TL.p Pu.as ?_
 refine TL.p Pu.as ?_
 refine TL.p Pu.as ?_
 refine TL.nil (TQ.thenN (hY12 _ _ ?_))
 refine TW.ret ?_
 refine TQ.thenR ?_
 refine TQ.ret Tryz.results9 rfl ((.tmp rfl (.tmp rfl (.tmp rfl (.tmp rfl .nil))))) ?_
 exact fun w hw => chp_bad hw (by unfold chpC; rw [if_neg (by omega), if_neg (by rw [h2]; simp), if_pos hne]) hne
 try simp only [zcb9] at hc2
 have hwz : wsC Y to un = 0 := by simpa using hc2
 have hwv := fun v (hv : v ∈ wsL Y to un) => wsL_wk hwz hv
 have hcc : chpC Y Z T E to un = if (chpS Y Z T E to un).2.2.2 = true then 0 else 75 := by unfold chpC; rw [if_neg (by omega), if_neg (by rw [h2]; simp), if_neg (by omega)]
 replace hcc := hidT hcc
 have hl2 : (wsL Y to un).length ≤ 200   := wsL_len hwz
 have hln : ∀ v, v ∈ wsL Y to un → v.length ≤ 24 := fun v hv => wsL_n hwz hv
 refine TW.skip ?_
 refine TQ.thenN (hY10 _ _ ?_)
 refine TW.seq fun Y13 hY13 => TW.region ?_
 refine TL.p Pu.as ?_
 refine TL.nil (TQ.thenN (hY13 _ _ ?_))
 refine TW.seq fun Y14 hY14 => ?_
 refine TW.seq fun Y15 hY15 => TW.region ?_
 refine TL.p Pu.mv ?_
 refine TL.p (Pu.ln Tryz.underlying87) ?_
 refine TL.p Pu.mv ?_
 refine TL.nil (TQ.thenN (hY15 _ _ ?_))
 refine TW.block ?_
 refine TW.loop5 (fun (k : Nat) (s : ChS) (z : Option Addr × Nat × Nat) (Ag : Option Addr) (ag : Nat) => [(59, .int .i64 (k : Int)), (58, .int .i64 ((wsL Y to un).length : Int)), (57, .slice A9 (wsL Y to un).length c9), (18, .slice z.1 z.2.2 z.2.1), (19, .slice Ag s.2.1.length ag), (20, .int .i64 s.2.2.1), (24, .bool s.2.2.2), (3, .slice G E.nf cg), (4, .int .i64 Y.start), (6, .int .i64 Y.day), (9, .pointer (some ⟨b1, 0, none⟩)), (10, .pointer (some ⟨b2, 0, none⟩)), (11, .pointer (some ⟨b3, 0, none⟩)), (17, .pointer (some ⟨b4, 0, none⟩))]) (fun k s z Ag ag => [.own Ag s.2.1.length ag 3 1 (iL s.2.1), .own A9 (wsL Y to un).length c9 31 1 (fun k => [.slice (ia k) ((wsL Y to un).getD k []).length (ic k)]), bun (lksK (wsL Y to un) ia ic), .blk b1 25 [.slice W Y.nw cw, .slice A Y.nl cl], .blk b2 30 [.slice C Z.nc cc, .slice D Z.nd cd, .slice B Z.nb cb], .blk b3 33 [.int .i64 T.hd, .int .i64 T.wo, .slice O T.no co, .slice U T.nu cu, .slice V T.nv cv], .blk b4 36 [.int .i64 Y.p0, .int .i64 Y.p1]]) (fun k s z Ag ag => k ≤ (wsL Y to un).length ∧ s = chpK Y Z T E (wsL Y to un) k ∧ (s.2.2.2 = true → z.1 = ia s.1 ∧ z.2.1 = ic s.1 ∧ z.2.2 = ((wsL Y to un).getD s.1 []).length)) (fun k s z Ag ag => (wsL Y to un).length - k) 0 (0, [], 0, false) (none, 0, 0) none 0 fs9 ?_ ?_ ?_
 exact KSub.nilOwn ks9
 exact ⟨Nat.zero_le _, rfl, fun h9 => by cases h9⟩
 rintro k s z Ag ag ⟨hk, hs, hsl⟩ Z0 hZ0
 have hsb := chpK_bd (Y := Y) hok hz2 h2 (fun v hv => Nat.le_trans (hln v hv) (by decide)) k hk
 rw [← hs] at hsb
 replace hs := hidT hs
 replace hsl := hidT hsl
 refine TW.seq fun Y16 hY16 => TW.region ?_
 refine TL.p Pu.lt ?_
 refine TL.nil (TQ.thenN (hY16 _ _ ?_))
 refine TW.seq fun Y17 hY17 => ?_
 refine TW.cond rfl (fun hc3 => ?_) (fun hc3 => ?_)
 try simp only [zcb9] at hc3
 have hkn : k < (wsL Y to un).length := by omega
 have hvm : ((wsL Y to un).getD k []) ∈ wsL Y to un := by rw [List.getD_eq_getElem?_getD, List.getElem?_eq_getElem hkn]; exact List.getElem_mem _
 have hvw := hwv _ hvm
 have hvn := hln _ hvm
 have hvk : wkN (wsV Y ((wsL Y to un).getD k [])) = ((wsL Y to un).getD k []).length := wkN_n hvw
 have hwb := stY_bd hvw
 have hib := hirW_bd (Y := wsV Y ((wsL Y to un).getD k [])) (Z := Z) (T := T) h2
 have hab := all_bd (st := stY (wsV Y ((wsL Y to un).getD k []))) hok hz2 ((wsL Y to un).getD k []).length
 obtain ⟨hh, hhe⟩ : ∃ hh, hh = hirW (wsV Y ((wsL Y to un).getD k [])) Z T E := ⟨_, rfl⟩
 obtain ⟨hi9, hie⟩ : ∃ hi9, hi9 = allHi Z T (stY (wsV Y ((wsL Y to un).getD k []))) ((wsL Y to un).getD k []).length := ⟨_, rfl⟩
 obtain ⟨lo9, hlo⟩ : ∃ lo9, lo9 = allLo Z T (stY (wsV Y ((wsL Y to un).getD k []))) ((wsL Y to un).getD k []).length := ⟨_, rfl⟩
 rw [← hhe] at hib
 rw [← hie, ← hlo] at hab
 have hst1 : chpK Y Z T E (wsL Y to un) (k + 1) = if (hh.2.2 && (!s.2.2.2 || decide (hh.2.1 + hi9 < s.2.2.1))) = true then (k, hh.1, hh.2.1 + hi9, true) else s := by rw [hs.out, hhe, hie]; rfl
 replace hhe := hidT hhe
 replace hie := hidT hie
 replace hlo := hidT hlo
 replace hvk := hidT hvk
 replace hvw := hidT hvw
 refine TW.skip ?_
 refine TQ.thenN (hY17 _ _ ?_)
 refine TW.seq fun Y18 hY18 => ?_
 refine TW.block ?_
 refine TW.seq fun Y19 hY19 => TW.region ?_
 refine TL.p (Pu.el ty_et87) ?_
 refine TL.p (Pu.ld ty_sc31) ?_
 refine TL.p Pu.as ?_
 refine TL.nil (TQ.thenN (hY19 _ _ ?_))
 refine TW.seq fun Y20 hY20 => TW.region ?_
 refine TL.p (Pu.lds ty_ag25) ?_
 refine TL.p (Pu.lds ty_ag30) ?_
 refine TL.p (Pu.lds ty_ag33) ?_
 refine TL.p Pu.mv ?_
 refine TL.p Pu.mv ?_
 refine TL.p (Pu.lds ty_ag36) ?_
 refine TL.p Pu.mv ?_
 refine TL.call (M := []) rfl (enters Tryz.func27 rfl rfl) (List.Perm.refl _) rfl (fun w hw => by
   have q0 := bun_get hw (K1 := lksK (wsL Y to un) ia ic) (Pick.mem pk9) (lks_mem hkn)
   have h9 := fW _ ((wsL Y to un).getD k []) (ia k) (ic k) (by omega) (hL.ext (Chg.ext hw.chg)) (OwnR.rdr q0)
   rw [hvw.out, hvk.out] at h9
   exact h9) ?_
 rintro ⟨⟨As, cs⟩, bt⟩
 refine TL.p Pu.mv ?_
 refine TL.p Pu.ex ?_
 refine TL.p Pu.ex ?_
 refine TL.p Pu.as ?_
 refine TL.p Pu.as ?_
 refine TL.nil (TQ.thenN (hY20 _ _ ?_))
 refine TW.seq fun Y21 hY21 => ?_
 refine TW.seq fun Y22 hY22 => TW.region ?_
 refine TL.p Pu.mv ?_
 refine TL.p Pu.ne ?_
 refine TL.nil (TQ.thenN (hY22 _ _ ?_))
 refine TW.condF rfl (rfl) ?_
 refine TW.skip ?_
 refine TQ.thenN (hY21 _ _ ?_)
 refine TW.seq fun Y23 hY23 => TW.region ?_
 refine TL.p Pu.mv ?_
 refine TL.p Pu.mv ?_
 refine TL.call (M := []) rfl (enters Tryz.func28 rfl rfl) (List.Perm.refl _) rfl (fun w hw => by
   have q1 := OldB.of_blk (hw.holds (.blk bt 129 (trkL T O co U cu V cv Z C cc D cd B cb As ((wsL Y to un).getD k []).length cs)) (Pick.mem pk9))
   have q2 := OwnR.rdr (hw.holds (.own As ((wsL Y to un).getD k []).length cs 160 6 (fun j => stopL (stY (wsV Y ((wsL Y to un).getD k [])) j))) (Pick.mem pk9))
   have h9 := cHire_any (ca := cg) (n := ((wsL Y to un).getD k []).length) (st := stY (wsV Y ((wsL Y to un).getD k []))) hok h2 (h.ext (Chg.ext hw.chg)) (t.ext (Chg.ext hw.chg)) ⟨by omega, q2, hwb⟩ q1 (hG.ext (Chg.ext hw.chg)) (by have := trp_lens hz2; omega) (hE.sat hw Apart.nil)
   rw [show hirV Z T ((wsL Y to un).getD k []).length (stY (wsV Y ((wsL Y to un).getD k []))) E = hirW (wsV Y ((wsL Y to un).getD k [])) Z T E from rfl, ← hhe.out] at h9
   exact h9) ?_
 rintro ⟨Ah, ah⟩
 simp only [hirR]
 refine TL.p Pu.mv ?_
 refine TL.p Pu.ex ?_
 refine TL.p Pu.ex ?_
 refine TL.p Pu.ex ?_
 refine TL.p Pu.as ?_
 refine TL.p Pu.as ?_
 refine TL.p Pu.as ?_
 refine TL.nil (TQ.thenN (hY23 _ _ ?_))
 refine TW.seq fun Y24 hY24 => TW.region ?_
 refine TL.p Pu.mv ?_
 refine TL.call (M := []) rfl (enters Tryz.func35 rfl rfl) (List.Perm.refl _) rfl (fun w hw => by
   have q1 := OldB.of_blk (hw.holds (.blk bt 129 (trkL T O co U cu V cv Z C cc D cd B cb As ((wsL Y to un).getD k []).length cs)) (Pick.mem pk9))
   have q2 := OwnR.rdr (hw.holds (.own As ((wsL Y to un).getD k []).length cs 160 6 (fun j => stopL (stY (wsV Y ((wsL Y to un).getD k [])) j))) (Pick.mem pk9))
   have h9 := cTolls_any (n := ((wsL Y to un).getD k []).length) (st := stY (wsV Y ((wsL Y to un).getD k []))) hok hz2 (h.ext (Chg.ext hw.chg)) (t.ext (Chg.ext hw.chg)) ⟨by omega, q2, hwb⟩ q1
   rw [← hie.out, ← hlo.out] at h9
   exact h9) ?_
 rintro ⟨At, at9⟩
 refine TL.p Pu.mv ?_
 refine TL.p Pu.ex ?_
 refine TL.p Pu.ex ?_
 refine TL.m (Mk.al ty_zr36) ?_
 intro b5
 refine TL.p Pu.as ?_
 first | refine TL.st ty_sz36 ?_ | refine TL.se ty_sz36 ?_
 refine TL.nil (TQ.thenN (hY24 _ _ ?_))
 refine TW.seq fun Y25 hY25 => ?_
 refine TW.join [(101, .bool (hh.2.2 && (!s.2.2.2 || decide (hh.2.1 + hi9 < s.2.2.1))))] ?_ (fun hJ1 => ?_)
 refine TQ.thenN (hY25 _ _ ?_)
 refine TW.cond rfl (fun hc5 => ?_) (fun hc5 => ?_)
 try simp only [zcb9] at hc5
 have hyes : (hh.2.2 && (!s.2.2.2 || decide (hh.2.1 + hi9 < s.2.2.1))) = true := by simpa using hc5
 rw [if_pos hyes] at hst1
 have hT : hh.2.2 = true := (Bool.and_eq_true_iff.1 hyes).1
 replace hst1 := hidT hst1
 refine TW.dw 10 ?_
 refine RK.tk Pu.mv ?_
 refine RK.tk Pu.mv ?_
 refine RK.tk Pu.mv ?_
 refine RK.tk (by first | exact Pu.fb ty_fa36_1 | exact Pu.fe ty_fa36_1) ?_
 refine RK.tk (Pu.ld ty_sc3) ?_
 refine RK.tk Pu.ad ?_
 refine RK.tk Pu.as ?_
 refine RK.tk Pu.as ?_
 refine RK.tk Pu.as ?_
 refine RK.tk Pu.as ?_
 refine RK.ch [] ?_ trivial
 refine WK.n ?_
 refine TL.nil ?_
 refine TQ.blkN ?_
 refine TQ.thenN (hY18 _ _ ?_)
 refine TW.region ?_
 refine TL.p Pu.ad ?_
 refine TL.p Pu.mv ?_
 refine TL.nil ?_
 refine TQ.thenN (hZ0 (k + 1) (by first | exact (fun (_ : hh.2.2 = true) => ((k, hh.1, hh.2.1 + hi9, true) : ChS)) hT | exact s) (by first | exact (fun (_ : hh.2.2 = true) => ((ia k, ic k, ((wsL Y to un).getD k []).length) : Option Addr × Nat × Nat)) hT | exact z) (by first | exact (fun (_ : hh.2.2 = true) => Ah) hT | exact Ag) (by first | exact (fun (_ : hh.2.2 = true) => ah) hT | exact ag) _ _ ?_ ?_ fs9 ?_)
 exact ⟨by omega, hst1.out.symm, by first | exact hsl.out | exact fun _ => ⟨rfl, rfl, rfl⟩⟩
 exact zom9
 exact ks9
 try simp only [zcb9] at hc5
 have hno : ¬ (hh.2.2 && (!s.2.2.2 || decide (hh.2.1 + hi9 < s.2.2.1))) = true := by intro h9; rw [Bool.and_eq_true, Bool.or_eq_true, Bool.not_eq_true', decide_eq_true_eq] at h9; simp_all; omega
 rw [if_neg hno] at hst1
 replace hst1 := hidT hst1
 refine TW.skip ?_
 refine TQ.blkN ?_
 refine TQ.thenN (hY18 _ _ ?_)
 refine TW.region ?_
 refine TL.p Pu.ad ?_
 refine TL.p Pu.mv ?_
 refine TL.nil ?_
 refine TQ.thenN (hZ0 (k + 1) (by first | exact (fun (_ : hh.2.2 = true) => ((k, hh.1, hh.2.1 + hi9, true) : ChS)) hT | exact s) (by first | exact (fun (_ : hh.2.2 = true) => ((ia k, ic k, ((wsL Y to un).getD k []).length) : Option Addr × Nat × Nat)) hT | exact z) (by first | exact (fun (_ : hh.2.2 = true) => Ah) hT | exact Ag) (by first | exact (fun (_ : hh.2.2 = true) => ah) hT | exact ag) _ _ ?_ ?_ fs9 ?_)
 exact ⟨by omega, hst1.out.symm, by first | exact hsl.out | exact fun _ => ⟨rfl, rfl, rfl⟩⟩
 exact zom9
 exact ks9
 refine TW.region ?_
 refine TL.p Pu.mv ?_
 refine TL.p Pu.mv ?_
 refine TL.guard (t := 90) rfl (fun hg1 => ?_) (fun hg1 => ?_)
 refine TL.gd Pu.mv ?_
 refine TL.gd Pu.no ?_
 refine TL.gd Pu.mv ?_
 refine TL.guard (t := 93) rfl (fun hg2 => ?_) (fun hg2 => ?_)
 refine TL.gs ?_
 refine TL.gs ?_
 refine TL.gs ?_
 refine TL.gs ?_
 refine TL.gs ?_
 refine TL.gs ?_
 refine TL.gd Pu.kt ?_
 refine TL.p Pu.kt ?_
 refine TL.nil ?_
 exact TQ.sub (by repeat (first | exact trivial | refine ⟨rfl, ?_⟩ | refine ⟨trivial, ?_⟩ | refine ⟨(by show some (Value.bool _) = some (Value.bool _); first | (simp [hg1, hg2]; done) | (refine congrArg (fun z => some (Value.bool z)) (Bool.eq_iff_iff.2 ?_); simp [hg1, hg2]; omega)), ?_⟩)) ks9 hJ1
 refine TL.gd Pu.mv ?_
 refine TL.gd (by first | exact Pu.fb ty_fa36_1 | exact Pu.fe ty_fa36_1) ?_
 refine TL.gd (Pu.ld ty_sc3) ?_
 refine TL.gd Pu.ad ?_
 refine TL.gd Pu.mv ?_
 refine TL.gd Pu.lt ?_
 refine TL.gd Pu.kf ?_
 refine TL.p Pu.kt ?_
 refine TL.nil ?_
 exact TQ.sub (by repeat (first | exact trivial | refine ⟨rfl, ?_⟩ | refine ⟨trivial, ?_⟩ | refine ⟨(by show some (Value.bool _) = some (Value.bool _); first | (simp [hg1, hg2]; done) | (refine congrArg (fun z => some (Value.bool z)) (Bool.eq_iff_iff.2 ?_); simp [hg1, hg2]; omega)), ?_⟩)) ks9 hJ1
 refine TL.gs ?_
 refine TL.gs ?_
 refine TL.gs ?_
 refine TL.gs ?_
 refine TL.gs ?_
 refine TL.gs ?_
 refine TL.gs ?_
 refine TL.gs ?_
 refine TL.gs ?_
 refine TL.gs ?_
 refine TL.p Pu.kf ?_
 refine TL.nil ?_
 exact TQ.sub (by repeat (first | exact trivial | refine ⟨rfl, ?_⟩ | refine ⟨trivial, ?_⟩ | refine ⟨(by show some (Value.bool _) = some (Value.bool _); first | (simp [hg1]; done) | (refine congrArg (fun z => some (Value.bool z)) (Bool.eq_iff_iff.2 ?_); simp [hg1]; omega)), ?_⟩)) ks9 hJ1
 try simp only [zcb9] at hc3
 obtain rfl : k = (wsL Y to un).length := by omega
 refine TW.exit ?_
 refine TQ.thenX ?_
 refine TQ.thenX ?_
 refine TQ.blkX ?_
 refine TQ.thenN (hY14 _ _ ?_)
 refine TW.seq fun Y26 hY26 => ?_
 refine TW.seq fun Y27 hY27 => TW.region ?_
 refine TL.p Pu.mv ?_
 refine TL.p Pu.no ?_
 refine TL.nil (TQ.thenN (hY27 _ _ ?_))
 refine TW.cond rfl (fun hc6 => ?_) (fun hc6 => ?_)
 try simp only [zcb9] at hc6
 have hfd : s.2.2.2 = false := by simpa using hc6
 refine TW.seq fun Y28 hY28 => TW.region ?_
 refine TL.p Pu.as ?_
 refine TL.p Pu.as ?_
 refine TL.p Pu.as ?_
 refine TL.p Pu.as ?_
 refine TL.nil (TQ.thenN (hY28 _ _ ?_))
 refine TW.ret ?_
 refine TQ.thenR ?_
 refine TQ.ret Tryz.results9 rfl ((.tmp rfl (.tmp rfl (.tmp rfl (.tmp rfl .nil))))) ?_
 exact fun w hw => chp_bad hw (by rw [hcc.out, show chpS Y Z T E to un = s from hs.out.symm, hfd]; rfl) (by decide)
 try simp only [zcb9] at hc6
 have hfd : s.2.2.2 = true := by simpa using hc6
 obtain ⟨e1, e2, e3⟩ := hsl.out hfd
 have hS : chpS Y Z T E to un = s := hs.out.symm
 have hlt : s.1 < (wsL Y to un).length := by have h9 := chpK_at (Y := Y) (Z := Z) (T := T) (E := E) (L := wsL Y to un) _ (by rw [← hs.out]; exact hfd); rw [← hs.out] at h9; exact h9
 have hC0 : chpC Y Z T E to un = 0 := by rw [hcc.out, hS, if_pos hfd]
 have hL0 : chpL Y Z T E to un = (wsL Y to un).getD s.1 [] := by unfold chpL; rw [if_pos hC0, hS]
 have hG0 : chpG Y Z T E to un = s.2.1 := by unfold chpG; rw [if_pos hC0, hS]
 have hN0 : chpN Y Z T E to un = s.2.2.1 := by unfold chpN; rw [if_pos hC0, hS]
 refine TW.skip ?_
 refine TQ.thenN (hY26 _ _ ?_)
 refine TW.seq fun Y29 hY29 => TW.region ?_
 refine TL.p Pu.mv ?_
 refine TL.p Pu.mv ?_
 refine TL.p Pu.mv ?_
 refine TL.p Pu.as ?_
 refine TL.p Pu.as ?_
 refine TL.p Pu.as ?_
 refine TL.p Pu.as ?_
 refine TL.nil (TQ.thenN (hY29 _ _ ?_))
 refine TW.ret ?_
 refine TQ.ret Tryz.results9 rfl ((.tmp rfl (.tmp rfl (.tmp rfl (.tmp rfl .nil))))) ?_
 exact fun w hw => ⟨((z.1, z.2.1), Ag, ag), by unfold chpV; rw [hL0, hG0, hN0, hC0, ← e3]; rfl, by unfold chpF; rw [hL0, hG0, e1, e2]; exact sat_bunM (hw.sub (KSub.cons pk9 (KSub.cons pk9 KSub.nil))) (lks_mem hlt)⟩
end
end Go.Proofs.YtfaenhhgkhcghaaGreatDoor
