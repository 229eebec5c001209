/-
  Part 7 of the proof of alive_any,ready2_any,has2_any,choose2_any,inside2_any,place2_any,lw_names,lw_fits,lw_has,open_herd,open_looksB,open_calves,open_u8b,open_u32sB,open_u32b,law_post,TW.meet,TL.unb,TW.ocap,rLooks2_any,bBirths_any,rSign_any,lks_in: declarations of several texts, in build order. No condition on a program.
-/
import Derived.Test.YtbenhafhklfhmaaGreatAl04
import Derived.Test.YtbenhafhklfhmaaGreatAl03
import Derived.Test.YtbenhafhklfhmaaGreatAl06
import Derived.Shelf.Small.Bits
import Derived.Shelf.Strconv.Itoa0
import Derived.Ground.SlsfProg
import Derived.Shelf.SlSortCmp.Insertion
import Derived.Ground.SlgmProg
import Derived.Shelf.SortM.Plain
import Derived.Shelf.SortM.SortNone
import Derived.Shelf.SlSortCmp.SiftDown1
import Derived.Shelf.SlSortCmp.HeapSort1
import Derived.Shelf.SlSortCmp.Insertion1
import Derived.Shelf.SlSortCmp.Median1
import Derived.Shelf.SlSortCmp.Pivot1
import Derived.Shelf.SlSortCmp.ReverseRange1
import Derived.Shelf.SlSortCmp.PartialInsertion1
import Derived.Shelf.SlSortCmp.PartitionEqual1
import Derived.Shelf.SlSortCmp.Partition1
import Derived.Shelf.SlSortCmp.Pdq1
import Derived.Shelf.SlSortCmp.Whole1
import Derived.Shelf.SlSortCmp.NoneTotal
import Derived.Test.YtbenhafhklfhmaaGreatProg
namespace Go.Proofs.YtbenhafhklfhmaaGreat
set_option linter.all false
set_option linter.unusedVariables false
set_option linter.unusedSimpArgs false
open Go.RowKit
theorem indexInt_any {g : FuncId} {fs cs : List Value} {A : Option Addr} {n cp : Nat} {v : Nat → Int} {p : Nat → Bool} {M : Nat → List Fact} {w : World} (hen : Enters Tryz.prog g) (hn : n ≤ 9223372036854775807)
  (hR : RdR w 1 A n (fun k => [.int .i64 (v k)])) (hA : 0 < n → Apart (feet (M 0)) A) (hM : Sat (feet (M 0)) w (M 0) w) (hfe : ∀ k, feet (M k) = feet (M 0))
  (hg : ∀ k, k < n → (∀ j, j < k → p j = false) → ∀ w', Sat (feet (M 0)) w (M k) w' → CallsK Tryz.prog g (fs ++ [Value.int .i64 (v k)] ++ cs).toArray (M k) w' Unit (fun _ => .bool (p k)) (fun _ => M (k + 1))) :
  CallsK Tryz.prog 108 #[.slice A n cp, .func (.func g) fs.toArray cs.toArray] (M 0) w (Fst p n) (fun x => .int .i64 (if x.1 < n then (x.1 : Int) else -1)) (fun x => M (aft n x.1)) := by
 refine K_enter (S := feet (M 0)) (K := M 0) Tryz.func108 rfl Tryz.ntmps108 rfl hM ?_
 refine TW.seq fun Y1 hY1 => TW.region ?_
 refine TL.p Pu.as ?_
 refine TL.nil (TQ.thenN (hY1 _ _ ?_))
 refine TW.seq fun Y2 hY2 => ?_
 refine TW.seq fun Y3 hY3 => TW.region ?_
 refine TL.p Pu.mv ?_
 refine TL.p (Pu.ln Tryz.underlying28) ?_
 refine TL.p Pu.mv ?_
 refine TL.nil (TQ.thenN (hY3 _ _ ?_))
 refine TW.block ?_
 refine TW.loop1 (fun (k : Nat) => [(8, .int .i64 (k : Int)), (7, .int .i64 (n : Int)), (0, .slice A n cp), (1, .func (.func g) fs.toArray cs.toArray)]) (fun k => M k) (fun k => k ≤ n ∧ ∀ j, j < k → p j = false) (fun k => n - k) 0 fs9 ?_ ?_ ?_
 exact KSub.refl _
 exact ⟨by omega, fun j hj => by omega⟩
 rintro k ⟨hk, hall⟩ Z0 hZ0
 refine TW.seq fun Y4 hY4 => TW.region ?_
 refine TL.p Pu.lt ?_
 refine TL.nil (TQ.thenN (hY4 _ _ ?_))
 refine TW.seq fun Y5 hY5 => ?_
 refine TW.cond rfl (fun hc0 => ?_) (fun hc0 => ?_)
 try simp only [zcb9] at hc0
 have hkn : k < n := by omega
 have hA := hA (by omega)
 refine TW.skip ?_
 refine TQ.thenN (hY5 _ _ ?_)
 refine TW.seq fun Y6 hY6 => ?_
 refine TW.block ?_
 refine TW.seq fun Y7 hY7 => TW.region ?_
 refine TL.p Pu.mv ?_
 refine TL.p Pu.as ?_
 refine TL.nil (TQ.thenN (hY7 _ _ ?_))
 refine TW.seq fun Y8 hY8 => TW.region ?_
 refine TL.p Pu.mv ?_
 refine TL.p Pu.mv ?_
 refine TL.p Pu.mv ?_
 refine TL.p (Pu.el ty_et28) ?_
 refine TL.p (Pu.ld ty_sc3) ?_
 refine TL.cvk rfl rfl hen (by rw [List.append_nil]) (fun w hw => by
   exact hg k (by omega) hall w hw) ?_
 intro _
 refine TL.nil (TQ.thenN (hY8 _ _ ?_))
 refine TW.cond rfl (fun hc1 => ?_) (fun hc1 => ?_)
 try simp only [zcb9] at hc1
 refine TW.seq fun Y9 hY9 => TW.region ?_
 refine TL.p Pu.mv ?_
 refine TL.p Pu.as ?_
 refine TL.nil (TQ.thenN (hY9 _ _ ?_))
 refine TW.ret ?_
 refine TQ.blkR ?_
 refine TQ.thenR ?_
 refine TQ.thenR ?_
 refine TQ.blkR ?_
 refine TQ.thenR ?_
 refine TQ.ret Tryz.results108 rfl ((.tmp rfl .nil)) ?_
 exact fun w hw => ⟨⟨k, by omega, hall, fun _ => hc1⟩, by simp [hkn]; rfl, by simpa [aft, hkn] using hw⟩
 try simp only [zcb9] at hc1
 refine TW.skip ?_
 refine TQ.blkN ?_
 refine TQ.thenN (hY6 _ _ ?_)
 refine TW.region ?_
 refine TL.p Pu.ad ?_
 refine TL.p Pu.mv ?_
 refine TL.nil ?_
 refine TQ.thenN (hZ0 (k + 1) _ _ ?_ ?_ fs9 ?_)
 refine ⟨by omega, fun j hj => ?_⟩
 by_cases h : j = k
 subst h; exact hc1
 exact hall j (by omega)
 exact zom9
 rw [List.append_nil]; exact KSub.refl _
 try simp only [zcb9] at hc0
 have hkn : k = n := by omega
 refine TW.exit ?_
 refine TQ.thenX ?_
 refine TQ.thenX ?_
 refine TQ.blkX ?_
 refine TQ.thenN (hY2 _ _ ?_)
 refine TW.seq fun Y10 hY10 => TW.region ?_
 refine TL.p Pu.as ?_
 refine TL.nil (TQ.thenN (hY10 _ _ ?_))
 refine TW.ret ?_
 refine TQ.ret Tryz.results108 rfl ((.tmp rfl .nil)) ?_
 exact fun w hw => ⟨⟨k, by omega, hall, fun h => by omega⟩, by simp [hkn]; rfl, by simpa [aft, hkn] using hw⟩
theorem hasInt_st {g : FuncId} {fs cs : List Value} {A : Option Addr} {n cp : Nat} {v : Nat → Int} {p : Nat → Bool} {M : Nat → List Fact} {w : World} (hen : Enters Tryz.prog g) (hn : n ≤ 9223372036854775807)
  (hR : RdR w 1 A n (fun k => [.int .i64 (v k)])) (hA : 0 < n → Apart (feet (M 0)) A) (hM : Sat (feet (M 0)) w (M 0) w) (hfe : ∀ k, feet (M k) = feet (M 0))
  (hg : ∀ k, k < n → (∀ j, j < k → p j = false) → ∀ w', Sat (feet (M 0)) w (M k) w' → CallsK Tryz.prog g (fs ++ [Value.int .i64 (v k)] ++ cs).toArray (M k) w' Unit (fun _ => .bool (p k)) (fun _ => M (k + 1))) :
  CallsK Tryz.prog 85 #[.slice A n cp, .func (.func g) fs.toArray cs.toArray] (M 0) w (Fst p n) (fun x => .bool (decide (x.1 < n))) (fun x => M (aft n x.1)) := by
 refine K_enter (S := feet (M 0)) (K := M 0) Tryz.func85 rfl Tryz.ntmps85 rfl hM ?_
 refine TW.seq fun Y1 hY1 => TW.region ?_
 refine TL.p Pu.as ?_
 refine TL.nil (TQ.thenN (hY1 _ _ ?_))
 refine TW.seq fun Y2 hY2 => TW.region ?_
 refine TL.p Pu.mv ?_
 refine TL.p Pu.mv ?_
 refine TL.call rfl (enters Tryz.func108 rfl rfl) (by rw [List.append_nil]) rfl (fun w hw => by
   exact indexInt_any hen hn (hR.sat0 hw hA) hA hw.self hfe (fun k hk hp w' hw' => hg k hk hp w' (hw'.from hw.chg fun _ hb => .inl hb))) ?_
 intro x
 refine TL.p Pu.ge ?_
 refine TL.p Pu.as ?_
 refine TL.nil (TQ.thenN (hY2 _ _ ?_))
 refine TW.ret ?_
 refine TQ.ret Tryz.results85 rfl ((.tmp rfl .nil)) ?_
 exact fun w hw => ⟨x, by by_cases h : x.1 < n <;> simp [retV, h], by simpa using hw⟩
theorem hasInt_any {g : FuncId} {fs cs : List Value} {A : Option Addr} {n cp : Nat} {v : Nat → Int} {p : Nat → Bool} {w : World} (hen : Enters Tryz.prog g) (hn : n ≤ 9223372036854775807)
  (hR : RdR w 1 A n (fun k => [.int .i64 (v k)])) (hg : ∀ k, k < n → ∀ w', Below w.heap.size w w' → Calls Tryz.prog g (fs ++ [Value.int .i64 (v k)] ++ cs).toArray w' (Ret w' (.bool (p k)))) :
  Calls Tryz.prog 85 #[.slice A n cp, .func (.func g) fs.toArray cs.toArray] w (Ret w (.bool (anyB n p))) :=
 CallsK.retOf (hasInt_st (M := fun _ => []) hen hn hR (fun _ => Apart.nil) (Sat.start w) (fun _ => rfl) fun k hk _ w' hw' => CallsK.ret (hg k hk w' (Chg.ext hw'.chg))) fun x => by rw [x.any]; rfl
theorem indexSpan_any {g : FuncId} {fs cs : List Value} {A : Option Addr} {n cp : Nat} {v : Nat → Nat → Int} {p : Nat → Bool} {M : Nat → List Fact} {w : World} (hen : Enters Tryz.prog g) (hn : n ≤ 9223372036854775807)
  (hR : RdR w 2 A n (fun k => spL (v k 0) (v k 1))) (hA : 0 < n → Apart (feet (M 0)) A) (hM : Sat (feet (M 0)) w (M 0) w) (hfe : ∀ k, feet (M k) = feet (M 0))
  (hg : ∀ k, k < n → (∀ j, j < k → p j = false) → ∀ w', Sat (feet (M 0)) w (M k) w' → CallsK Tryz.prog g (fs ++ [Value.agg (spL (v k 0) (v k 1)).toArray] ++ cs).toArray (M k) w' Unit (fun _ => .bool (p k)) (fun _ => M (k + 1))) :
  CallsK Tryz.prog 114 #[.slice A n cp, .func (.func g) fs.toArray cs.toArray] (M 0) w (Fst p n) (fun x => .int .i64 (if x.1 < n then (x.1 : Int) else -1)) (fun x => M (aft n x.1)) := by
 refine K_enter (S := feet (M 0)) (K := M 0) Tryz.func114 rfl Tryz.ntmps114 rfl hM ?_
 refine TW.seq fun Y1 hY1 => TW.region ?_
 refine TL.p Pu.as ?_
 refine TL.nil (TQ.thenN (hY1 _ _ ?_))
 refine TW.seq fun Y2 hY2 => ?_
 refine TW.seq fun Y3 hY3 => TW.region ?_
 refine TL.p Pu.mv ?_
 refine TL.p (Pu.ln Tryz.underlying31) ?_
 refine TL.p Pu.mv ?_
 refine TL.nil (TQ.thenN (hY3 _ _ ?_))
 refine TW.block ?_
 refine TW.loop1 (fun (k : Nat) => [(8, .int .i64 (k : Int)), (7, .int .i64 (n : Int)), (0, .slice A n cp), (1, .func (.func g) fs.toArray cs.toArray)]) (fun k => M k) (fun k => k ≤ n ∧ ∀ j, j < k → p j = false) (fun k => n - k) 0 fs9 ?_ ?_ ?_
 exact KSub.refl _
 exact ⟨by omega, fun j hj => by omega⟩
 rintro k ⟨hk, hall⟩ Z0 hZ0
 refine TW.seq fun Y4 hY4 => TW.region ?_
 refine TL.p Pu.lt ?_
 refine TL.nil (TQ.thenN (hY4 _ _ ?_))
 refine TW.seq fun Y5 hY5 => ?_
 refine TW.cond rfl (fun hc0 => ?_) (fun hc0 => ?_)
 try simp only [zcb9] at hc0
 have hkn : k < n := by omega
 have hA := hA (by omega)
 refine TW.skip ?_
 refine TQ.thenN (hY5 _ _ ?_)
 refine TW.seq fun Y6 hY6 => ?_
 refine TW.block ?_
 refine TW.seq fun Y7 hY7 => TW.region ?_
 refine TL.p Pu.mv ?_
 refine TL.p Pu.as ?_
 refine TL.nil (TQ.thenN (hY7 _ _ ?_))
 refine TW.seq fun Y8 hY8 => TW.region ?_
 refine TL.p Pu.mv ?_
 refine TL.p Pu.mv ?_
 refine TL.p Pu.mv ?_
 refine TL.p (Pu.el ty_et31) ?_
 refine TL.p (Pu.lds ty_ag36) ?_
 refine TL.cvk rfl rfl hen (by rw [List.append_nil]) (fun w hw => by
   exact hg k (by omega) hall w hw) ?_
 intro _
 refine TL.nil (TQ.thenN (hY8 _ _ ?_))
 refine TW.cond rfl (fun hc1 => ?_) (fun hc1 => ?_)
 try simp only [zcb9] at hc1
 refine TW.seq fun Y9 hY9 => TW.region ?_
 refine TL.p Pu.mv ?_
 refine TL.p Pu.as ?_
 refine TL.nil (TQ.thenN (hY9 _ _ ?_))
 refine TW.ret ?_
 refine TQ.blkR ?_
 refine TQ.thenR ?_
 refine TQ.thenR ?_
 refine TQ.blkR ?_
 refine TQ.thenR ?_
 refine TQ.ret Tryz.results114 rfl ((.tmp rfl .nil)) ?_
 exact fun w hw => ⟨⟨k, by omega, hall, fun _ => hc1⟩, by simp [hkn]; rfl, by simpa [aft, hkn] using hw⟩
 try simp only [zcb9] at hc1
 refine TW.skip ?_
 refine TQ.blkN ?_
 refine TQ.thenN (hY6 _ _ ?_)
 refine TW.region ?_
 refine TL.p Pu.ad ?_
 refine TL.p Pu.mv ?_
 refine TL.nil ?_
 refine TQ.thenN (hZ0 (k + 1) _ _ ?_ ?_ fs9 ?_)
 refine ⟨by omega, fun j hj => ?_⟩
 by_cases h : j = k
 subst h; exact hc1
 exact hall j (by omega)
 exact zom9
 rw [List.append_nil]; exact KSub.refl _
 try simp only [zcb9] at hc0
 have hkn : k = n := by omega
 refine TW.exit ?_
 refine TQ.thenX ?_
 refine TQ.thenX ?_
 refine TQ.blkX ?_
 refine TQ.thenN (hY2 _ _ ?_)
 refine TW.seq fun Y10 hY10 => TW.region ?_
 refine TL.p Pu.as ?_
 refine TL.nil (TQ.thenN (hY10 _ _ ?_))
 refine TW.ret ?_
 refine TQ.ret Tryz.results114 rfl ((.tmp rfl .nil)) ?_
 exact fun w hw => ⟨⟨k, by omega, hall, fun h => by omega⟩, by simp [hkn]; rfl, by simpa [aft, hkn] using hw⟩
theorem hasSpan_st {g : FuncId} {fs cs : List Value} {A : Option Addr} {n cp : Nat} {v : Nat → Nat → Int} {p : Nat → Bool} {M : Nat → List Fact} {w : World} (hen : Enters Tryz.prog g) (hn : n ≤ 9223372036854775807)
  (hR : RdR w 2 A n (fun k => spL (v k 0) (v k 1))) (hA : 0 < n → Apart (feet (M 0)) A) (hM : Sat (feet (M 0)) w (M 0) w) (hfe : ∀ k, feet (M k) = feet (M 0))
  (hg : ∀ k, k < n → (∀ j, j < k → p j = false) → ∀ w', Sat (feet (M 0)) w (M k) w' → CallsK Tryz.prog g (fs ++ [Value.agg (spL (v k 0) (v k 1)).toArray] ++ cs).toArray (M k) w' Unit (fun _ => .bool (p k)) (fun _ => M (k + 1))) :
  CallsK Tryz.prog 96 #[.slice A n cp, .func (.func g) fs.toArray cs.toArray] (M 0) w (Fst p n) (fun x => .bool (decide (x.1 < n))) (fun x => M (aft n x.1)) := by
 refine K_enter (S := feet (M 0)) (K := M 0) Tryz.func96 rfl Tryz.ntmps96 rfl hM ?_
 refine TW.seq fun Y1 hY1 => TW.region ?_
 refine TL.p Pu.as ?_
 refine TL.nil (TQ.thenN (hY1 _ _ ?_))
 refine TW.seq fun Y2 hY2 => TW.region ?_
 refine TL.p Pu.mv ?_
 refine TL.p Pu.mv ?_
 refine TL.call rfl (enters Tryz.func114 rfl rfl) (by rw [List.append_nil]) rfl (fun w hw => by
   exact indexSpan_any hen hn (hR.sat0 hw hA) hA hw.self hfe (fun k hk hp w' hw' => hg k hk hp w' (hw'.from hw.chg fun _ hb => .inl hb))) ?_
 intro x
 refine TL.p Pu.ge ?_
 refine TL.p Pu.as ?_
 refine TL.nil (TQ.thenN (hY2 _ _ ?_))
 refine TW.ret ?_
 refine TQ.ret Tryz.results96 rfl ((.tmp rfl .nil)) ?_
 exact fun w hw => ⟨x, by by_cases h : x.1 < n <;> simp [retV, h], by simpa using hw⟩
theorem hasSpan_any {g : FuncId} {fs cs : List Value} {A : Option Addr} {n cp : Nat} {v : Nat → Nat → Int} {p : Nat → Bool} {w : World} (hen : Enters Tryz.prog g) (hn : n ≤ 9223372036854775807)
  (hR : RdR w 2 A n (fun k => spL (v k 0) (v k 1))) (hg : ∀ k, k < n → ∀ w', Below w.heap.size w w' → Calls Tryz.prog g (fs ++ [Value.agg (spL (v k 0) (v k 1)).toArray] ++ cs).toArray w' (Ret w' (.bool (p k)))) :
  Calls Tryz.prog 96 #[.slice A n cp, .func (.func g) fs.toArray cs.toArray] w (Ret w (.bool (anyB n p))) :=
 CallsK.retOf (hasSpan_st (M := fun _ => []) hen hn hR (fun _ => Apart.nil) (Sat.start w) (fun _ => rfl) fun k hk _ w' hw' => CallsK.ret (hg k hk w' (Chg.ext hw'.chg))) fun x => by rw [x.any]; rfl
end Go.Proofs.YtbenhafhklfhmaaGreat
namespace Go.Proofs.YtbenhafhklfhmaaGreat
set_option linter.all false
set_option linter.unusedVariables false
set_option linter.unusedSimpArgs false
open Go.RowKit
section
variable {l : Nat} {c : Cx} {Q : Exit → Act → World → Prop} {F F' : Fr} {K K' K0 : List Fact}
def IterR (P : Program) (gf : FuncId) (lb : List Value) (M : List Fact) (G : Type) (enc : Nat → G → List Value) (Y Y' : Nat → G → List Fact) (N : Nat) (L : List Fact) (S : List Nat) (w0 : World) (R : Type) (J : Nat → R → List Fact) : Prop :=
 ∀ (l : Nat) (Rx : Type) (Jx : Rx → List Fact) (r0 : R) (w : World), Sat S w0 (M ++ J 0 r0) w →
  (∀ q g r w', q < N → Sat S w0 (Y q g ++ J q r) w' → YieldAt Fence.wide 0 P l (enc q g).toArray w' fun e w'' => (e = .returned (.bool true) ∧ ∃ r', Sat S w0 (Y' q g ++ J (q + 1) r') w'') ∨ (e = .returned (.bool false) ∧ ∃ x, Sat S w0 (Y' q g ++ Jx x) w'')) →
  Calls P gf (.func (.yield l) #[] #[] :: lb).toArray w fun e w' => (∃ v, e = .returned v) ∧ ((∃ r, Sat S w0 (L ++ J N r) w') ∨ ∃ x, Sat S w0 (Jx x) w')
theorem IterK.at {P : Program} {gf : FuncId} {lb : List Value} {M L : List Fact} {G : Type} {enc : Nat → G → List Value} {Y Y' : Nat → G → List Fact} {N : Nat} {S : List Nat} {w0 : World} (h : IterK P gf lb M G enc Y Y' N L S w0) {R : Type} {J : Nat → R → List Fact} : IterR P gf lb M G enc Y Y' N L S w0 R J := fun l Rx Jx r0 w => h l R Rx J Jx r0 w
theorem TW.rangeR {g : Operand} {ps : List Tmp} {assign body : Code} {gf : Nat} {lb : List Value} {M L : List Fact} {G R Rx : Type} {enc : Nat → G → List Value} {Y Y' : Nat → G → List Fact} {N : Nat} (J : Nat → R → List Fact) (jx : Rx → Code) (Jx : Rx → List Fact) (r0 : R)
    (it : ∀ x y : Fact, IterR c.P gf lb M G enc Y Y' N L c.S c.w0 R fun q r => x :: y :: J q r) (hKs : KSub K (M ++ J 0 r0))
    (round : ∀ (l D : Nat) (o1 o1' o2 : Obj) (q : Nat) (g : G) (r : R), q < N → ∀ Z : Act → World → Prop,
      (∀ F2 K1 K2, Pick K1 (.obj l o1) K2 → TWi l { c with D := [] } body (RB { c with D := [] } (fun r' => .obj l o1' :: .obj D o2 :: (Y' q g ++ J (q + 1) r')) jx (fun x => .obj l o1' :: .obj D o2 :: (Y' q g ++ Jx x))) F2 (.obj l o1' :: K2) → TQ { c with D := [] } (fun _ => Z) .normal F2 K1) →
      TWi l { c with D := [] } assign (Exit.then Z (fun _ _ _ => False)) (putF ps (enc q g) F) (.obj l o1 :: .obj D o2 :: (Y q g ++ J q r)))
    (done : ∀ (D : Nat) (r : R), TQ { c with D := { target := .collected D, args := #[] } :: c.D } Q .normal F (.obj D (.deferred (some [])) :: (L ++ J N r)))
    (stop : ∀ (D : Nat) (x : Rx), TW { c with D := { target := .collected D, args := #[] } :: c.D } (jx x) Q F (.obj D (.deferred (some [])) :: Jx x))
    (hg : ev F g = some (.func (.func gf) #[] lb.toArray) := by rfl) (eg : Enters c.P gf) (hps : ∀ q g, (enc q g).length = ps.length := by (intro _ _; rfl)) (hpn : (ps.all fun p => Nat.blt p c.n) = true := by rfl) :
    TW c (.rangeFunc g ps.toArray assign body) Q F K := fun a w hF hK => by
  refine (wpIn_wide (n := 2)).1 (wpIn_rangeFunc fun fn _ => ?_)
  obtain ⟨rc, hrc⟩ : ∃ rc : LoopState → Option Code → Loop, rc = fun st pe => { state := st, pending := pe, fn, tmps := a.tmps, params := ps.toArray, assign, body, defers := w.heap.size } := ⟨_, rfl⟩
  obtain ⟨W1, hW1⟩ : ∃ W1, (w.alloc (.deferred (some []))).alloc (.loop (rc .ready none)) = W1 := ⟨_, rfl⟩
  have hs := ((hK.sub hKs).newO (.deferred (some [])) rfl).newO (.loop (rc .ready none)) rfl
  rw [World.size_alloc, hW1] at hs
  have hFr : FS c.n ({ target := .collected w.heap.size, args := #[] } :: c.D) F { a with defers := [{ target := .collected w.heap.size, args := #[] }] ++ a.defers } := ⟨hF.size, by rw [hF.dfs]; rfl, hF.get⟩
  refine ⟨w.heap.size + 1, [{ target := .collected w.heap.size, args := #[] }], W1, { target := .fn (.func gf) lb.toArray, args := #[.func (.yield (w.heap.size + 1)) #[] #[]] }, W1, gf, (.func (.yield (w.heap.size + 1)) #[] #[] :: lb).toArray, W1, ?_, ?_, fun _ _ => trivial, ?_, fun _ => by decide, ?_⟩
  · rw [← hW1, hrc]; exact run_enterLoop_outer _ _ _ _ _
  · have := hF.evl hg
    simp only [resolve, this]
    simp [go_sem]
  · have := eg (.func (.yield (w.heap.size + 1)) #[] #[] :: lb).toArray W1
    have e : #[Value.func (.yield (w.heap.size + 1)) #[] #[]] ++ lb.toArray = (.func (.yield (w.heap.size + 1)) #[] #[] :: lb).toArray := by simp
    simp only [invoke, e]
    exact this
  · refine callsIn_wide.2 (Calls.mono (it (.obj (w.heap.size + 1) (.loop (rc .ready none))) (.obj w.heap.size (.deferred (some []))) (w.heap.size + 1) Rx (fun x => .obj (w.heap.size + 1) (.loop (rc .done (some (jx x)))) :: .obj w.heap.size (.deferred (some [])) :: Jx x) r0 W1 (hs.perm (perm_objs M _ _ _).symm) ?_) ?_)
    · intro q g r w' hq hw'
      replace hw' := hw'.perm (perm_objs _ _ _ _)
      have hl : w'.heap[w.heap.size + 1]? = some (.loop (rc .ready none)) := (hw'.holds (.obj _ _) (by simp)).1
      have hy := run_yield (P := c.P) (args := (enc q g).toArray) hl (by rw [hrc]; simp [hps q g])
      rw [hrc] at hy
      refine ⟨fn, _, assign, body, hy, roundIn_of_wpIn trivial ?_⟩
      have hF0 : FS c.n [] F { tmps := a.tmps, defers := [] } := ⟨hF.size, rfl, hF.get⟩
      have hF1 := hF0.putF (vs := enc q g) hpn
      simp only [List.zip_toArray, List.foldl_toArray]
      refine round (w.heap.size + 1) w.heap.size (.loop (rc .ready none)) (.loop { rc .ready none with state := .busy }) (.deferred (some [])) q g r hq _ ?_ _ w' hF1 hw'
      intro F2 K1 K2 hp hb a1 w1 hF2 hK1
      have h1 := hK1.pick hp
      have hl1 : w1.heap[w.heap.size + 1]? = some (.loop (rc .ready none)) := (h1.holds (.obj _ _) (by simp)).1
      refine ⟨_, run_beginRound hl1 (by rw [hrc]), wpIn_mono (hb a1 _ hF2 (h1.putO rfl)) ?_⟩
      have fin : ∀ (jump : Option Code) (w3 : World), w3.heap[w.heap.size + 1]? = some (.loop { rc .ready none with state := .busy }) → (Instr.endRound (w.heap.size + 1) jump).run c.P w3 = .ok (.bool jump.isNone) (w3.putObj (w.heap.size + 1) (.loop (rc (if jump.isNone then .ready else .done) jump))) := fun jump w3 h3 => by
        have := run_endRound (P := c.P) jump h3
        rw [hrc] at this ⊢
        exact this
      rintro e a3 w3 he
      cases e with
      | normal =>
        obtain ⟨r', h3⟩ := he
        exact ⟨_, _, fin none w3 (h3.holds (.obj _ _) (by simp)).1, .inl ⟨rfl, r', (h3.putO rfl).perm (perm_objs _ _ _ _).symm⟩⟩
      | ret =>
        obtain ⟨x, hx, h3⟩ := he
        exact ⟨_, _, fin (some .ret) w3 (h3.holds (.obj _ _) (by simp)).1, .inr ⟨rfl, x, by rw [hx]; exact (h3.putO rfl).perm (perm_objs _ _ _ _).symm⟩⟩
      | exit i =>
        obtain ⟨x, hx, h3⟩ := he
        exact ⟨_, _, fin (some (.exit i)) w3 (h3.holds (.obj _ _) (by simp)).1, .inr ⟨rfl, x, by rw [hx]; exact (h3.putO rfl).perm (perm_objs _ _ _ _).symm⟩⟩
      | goto t => exact he.elim
      | panic ch => exact he.elim
      | outgrown => exact he.elim
    · rintro e w2 ⟨⟨v, rfl⟩, ⟨r, h2⟩ | ⟨x, h2⟩⟩
      · replace h2 := h2.perm (perm_objs _ _ _ _)
        have hl : w2.heap[w.heap.size + 1]? = some (.loop (rc .ready none)) := (h2.holds (.obj _ _) (by simp)).1
        refine ⟨none, _, by have := run_endLoop (P := c.P) hl (by rw [hrc]; simp); rw [hrc] at this; exact this, ?_⟩
        exact done w.heap.size r _ _ hFr ((h2.putO rfl).sub (KSub.drop (KSub.refl _)))
      · have hl : w2.heap[w.heap.size + 1]? = some (.loop (rc .done (some (jx x)))) := (h2.holds (.obj _ _) (by simp)).1
        refine ⟨some (jx x), _, by have := run_endLoop (P := c.P) hl (by rw [hrc]; simp); rw [hrc] at this; exact this, ?_⟩
        exact (wpIn_wide (n := 2)).2 (stop w.heap.size x _ _ hFr ((h2.putO rfl).sub (KSub.drop (KSub.refl _))))
end
end Go.Proofs.YtbenhafhklfhmaaGreat
namespace Go.Proofs.YtbenhafhklfhmaaGreat
set_option linter.all false
set_option linter.unusedVariables false
set_option linter.unusedSimpArgs false
open Go.RowKit
theorem OwnR.blk {w : World} {b n : Nat} {E : TypeId} {sz : Nat} {r : Nat → List Value} (h : OwnR w (some ⟨b, 0, none⟩) n n E sz r) : Blk w b E (flatR n r).toArray := by
 rw [flatR_spec h.len]
 rcases h.own.2 with ⟨e, _⟩ | ⟨g, cap, cur, e, _, hh, _, _, hcs, ht⟩
 · cases e
 · simp only [Value.slice.injEq, Option.some.injEq, Addr.mk.injEq, and_true, true_and] at e
   obtain ⟨rfl, rfl⟩ := e
   have e2 : cur.toList = flat sz n (rowF r) := by
    rw [← ht, List.take_of_length_le]
    rw [Array.length_toList, hcs]
    exact Nat.le_refl _
   show w.heap[b]? = _
   rw [hh, ← e2]
theorem KSub.valI {K K' L : List Fact} {b : Nat} {E : TypeId} {k : IntKind} {i j : Int} (hp : Pick K (.blk b E [.int k i]) K') (e : i = j) (h : KSub K' L) : KSub K (.blk b E [.int k j] :: L) := by
 subst e; exact .cons hp h
structure ArrT (P : Program) (t E : TypeId) (n sz : Nat) : Prop where
 ht : P.underlying t = some (.array n E)
 hs : ∀ w, (sizeOf E).run P w = .ok sz w
theorem Pu.ea {c : Cx} {F : Fr} {K : List Fact} {d : Option Tmp} {t E ty : TypeId} {pos : String} {af : Array Edge} {g : Option (Nat × Bool)} {x y : Operand} {b n sz q : Nat} {kk : IntKind} {i : Int} (hT : ArrT c.P t E n sz) (hx : ev F x = some (.pointer (some ⟨b, 0, none⟩)) := by rfl) (hy : ev F y = some (.int kk i) := by rfl) (hk : i.toNat = q := by first | exact Int.toNat_natCast _ | rfl) (h0 : 0 ≤ i := by omega) (h1 : i < n := by omega) :
    Pu c F K ⟨d, .indexAddr t x y, ty, pos, af, g⟩ (.pointer (elA (some ⟨b, 0, none⟩) q sz 0)) := fun a w hF _ => by
  simp [execOp, hF.evl hx, hF.evl hy, Instr.indexAt, asIntOf, run_underlying hT.ht, Instr.sureAddr, h0, h1, hT.hs, elA, hk]
section
variable {c : Cx} {Q : Exit → Act → World → Prop} {F : Fr} {K K' : List Fact} {ops : Array Oper} {rest : List Oper}
theorem Sat.bo {S : List Nat} {w0 w : World} {b n : Nat} {E : TypeId} {sz : Nat} {r : Nat → List Value} {cs : List Value} (h : Sat S w0 (.own (some ⟨b, 0, none⟩) n n E sz r :: K) w) (hc : flatR n r = cs) : Sat S w0 (.blk b E cs :: K) w := by
 have hb := OwnR.blk (h.holds (.own (some ⟨b, 0, none⟩) n n E sz r) (by simp))
 subst hc
 exact ⟨h.chg, h.nd, h.ge, fun φ hφ => by
  rcases List.mem_cons.1 hφ with rfl | hφ
  · exact hb
  · exact h.holds φ (by simp [hφ])⟩
theorem TL.bo {b n : Nat} {E : TypeId} {sz : Nat} {r : Nat → List Value} {cs : List Value} (hp : Pick K (.own (some ⟨b, 0, none⟩) n n E sz r) K') (hc : flatR n r = cs) (h : TL c ops Q rest F (.blk b E cs :: K')) : TL c ops Q rest F K := fun a w hF hK => h a w hF ((hK.pick hp).bo hc)
end
end Go.Proofs.YtbenhafhklfhmaaGreat
namespace Go.Proofs.YtbenhafhklfhmaaGreat
set_option linter.all false
set_option linter.unusedVariables false
set_option linter.unusedSimpArgs false
open Go.RowKit Go.MapKept
section
variable {c : Cx} {Q : Exit → Act → World → Prop} {F : Fr} {K K' : List Fact} {d : Option Tmp} {ty : TypeId} {pos : String} {af : Array Edge} {g : Option (Nat × Bool)}
theorem TW.rebase {x : Code} (h : ∀ w1, Sat c.S c.w0 K w1 → TW ⟨c.P, c.n, c.D, [], w1⟩ x Q F []) : TW c x Q F K := fun a w hF hK => h w hK a w hF (Sat.start w)
theorem Pu.lkV {x y : Operand} {T kt et : TypeId} {kk : IntKind} {b : Nat} {i : Int} {z : Value} (v : Value) (is : Bool) {l : List (Int × Value)} (hT : MapT c.P T kt et kk) (hz : ∀ w, (zeroValue et).run c.P w = .ok z w) (hv : (mlook i l).getD z = v) (hi : (mlook i l).isSome = is) (hx : ev F x = some (.map (some b)) := by rfl) (hy : ev F y = some (.int kk i) := by rfl)
    (hp : Pick K (.obj b (mapO kk l)) K' := by repeat (first | exact Pick.hd | apply Pick.tl)) : Pu c F K ⟨d, .lookup T x y true, ty, pos, af, g⟩ (.tuple #[v, .bool is]) := by
  have h := Pu.lk (c := c) (F := F) (d := d) (ty := ty) (pos := pos) (af := af) (g := g) hT hz hx hy hp
  rw [hv, hi] at h
  exact h
end
end Go.Proofs.YtbenhafhklfhmaaGreat
namespace Go.Proofs.YtbenhafhklfhmaaGreat
set_option linter.all false
set_option linter.unusedVariables false
set_option linter.unusedSimpArgs false
open Go.RowKit
theorem bIn1_any (x lo hi : Int) (b1 b2 : Nat) (w : World) (h1 : OldB w b1 [.int .i64 lo]) (h2 : OldB w b2 [.int .i64 hi]) :
  Calls Tryz.prog 86 #[.int .i64 x, .pointer (some ⟨b1, 0, none⟩), .pointer (some ⟨b2, 0, none⟩)] w (Ret w (.bool (!inB5 lo hi x))) := by
 refine K_enter (S := []) (K := []) Tryz.func86 rfl Tryz.ntmps86 rfl (Sat.start _) ?_
 refine TW.seq fun Y1 hY1 => TW.region ?_
 refine TL.p Pu.as ?_
 refine TL.nil (TQ.thenN (hY1 _ _ ?_))
 refine TW.seq fun Y2 hY2 => ?_
 refine TW.join [(4, .bool (decide (x < lo) || decide (hi < x)))] ?_ (fun hJ1 => ?_)
 refine TQ.thenN (hY2 _ _ ?_)
 refine TW.ret ?_
 refine TQ.ret Tryz.results86 rfl ((.tmp rfl .nil)) ?_
 exact fun w hw => ⟨ret_bool (by unfold inB5; rw [Bool.eq_iff_iff]; simp only [Bool.not_eq_true', Bool.and_eq_false_iff, Bool.or_eq_true, decide_eq_true_eq, decide_eq_false_iff_not]; omega), Chg.ext hw.chg⟩
 refine TW.region ?_
 refine TL.p Pu.mv ?_
 refine TL.p (by first | exact (Pu.ld ty_sc3) | exact (Pu.ldo ty_sc3)) ?_
 refine TL.p Pu.lt ?_
 refine TL.p Pu.mv ?_
 refine TL.guard (t := 8) rfl (fun hg1 => ?_) (fun hg1 => ?_)
 refine TL.gs ?_
 refine TL.gs ?_
 refine TL.gs ?_
 refine TL.p Pu.kt ?_
 refine TL.p Pu.as ?_
 refine TL.nil ?_
 exact TQ.sub (by repeat (first | exact trivial | refine ⟨rfl, ?_⟩ | refine ⟨trivial, ?_⟩ | refine ⟨(by show some (Value.bool _) = some (Value.bool _); first | (simp [hg1]; done) | (refine congrArg (fun z => some (Value.bool z)) (Bool.eq_iff_iff.2 ?_); simp [hg1]; omega)), ?_⟩)) ks9 hJ1
 refine TL.gd Pu.mv ?_
 refine TL.gd (by first | exact (Pu.ld ty_sc3) | exact (Pu.ldo ty_sc3)) ?_
 refine TL.gd Pu.gt ?_
 refine TL.p Pu.kf ?_
 refine TL.p Pu.as ?_
 refine TL.nil ?_
 exact TQ.sub (by repeat (first | exact trivial | refine ⟨rfl, ?_⟩ | refine ⟨trivial, ?_⟩ | refine ⟨(by show some (Value.bool _) = some (Value.bool _); first | (simp [hg1]; done) | (refine congrArg (fun z => some (Value.bool z)) (Bool.eq_iff_iff.2 ?_); simp [hg1]; omega)), ?_⟩)) ks9 hJ1
theorem bIn_any (lo hi : Int) {A : Option Addr} {n cp : Nat} {v : Nat → Int} {w : World} (hn : n ≤ 9223372036854775807) (hR : RdR w 1 A n (fun k => [.int .i64 (v k)])) :
  Calls Tryz.prog 48 #[.int .i64 lo, .int .i64 hi, .slice A n cp] w (Ret w (.bool (allB n fun k => inB5 lo hi (v k)))) := by
 refine K_enter (S := []) (K := []) Tryz.func48 rfl Tryz.ntmps48 rfl (Sat.start _) ?_
 refine TW.seq fun Y1 hY1 => TW.region ?_
 refine TL.m Mk.bx ?_
 intro b1
 refine TL.m Mk.bx ?_
 intro b2
 refine TL.p Pu.as ?_
 refine TL.nil (TQ.thenN (hY1 _ _ ?_))
 refine TW.seq fun Y2 hY2 => TW.region ?_
 refine TL.p Pu.mv ?_
 refine TL.p Pu.fn ?_
 refine TL.cr rfl (enters Tryz.func85 rfl rfl) (fun w hw => by
   have h1 := OldB.of_blk (hw.holds (.blk b1 3 [.int .i64 lo]) (by simp))
   have h2 := OldB.of_blk (hw.holds (.blk b2 3 [.int .i64 hi]) (by simp))
   exact hasInt_any (fs := []) (p := fun k => !inB5 lo hi (v k)) (enters Tryz.func86 rfl rfl) hn (hR.sat hw Apart.nil) fun k hk w' hb => bIn1_any _ _ _ b1 b2 w' (h1.ext hb) (h2.ext hb)) ?_
 refine TL.p Pu.no ?_
 refine TL.p Pu.as ?_
 refine TL.nil (TQ.thenN (hY2 _ _ ?_))
 refine TW.ret ?_
 refine TQ.ret Tryz.results48 rfl ((.tmp rfl .nil)) ?_
 exact fun w hw => ⟨ret_bool (by rw [not_anyB]; simp), Chg.ext hw.chg⟩
theorem bInOne_any (lo hi x : Int) {b E : Nat} {w : World} (h : Blk w b E #[.int .i64 x]) :
  Calls Tryz.prog 48 #[.int .i64 lo, .int .i64 hi, .slice (some ⟨b, 0, none⟩) 1 1] w (Ret w (.bool (inB5 lo hi x))) := by
 have := bIn_any lo hi (n := 1) (cp := 1) (v := fun _ => x) (by decide) (RdR.blk (cs := [.int .i64 x]) h rfl (fun _ _ => rfl))
 simpa [allB] using this
theorem bInTwo_any (lo hi x y : Int) {b E : Nat} {w : World} (h : Blk w b E #[.int .i64 x, .int .i64 y]) :
  Calls Tryz.prog 48 #[.int .i64 lo, .int .i64 hi, .slice (some ⟨b, 0, none⟩) 2 2] w (Ret w (.bool (inB5 lo hi x && inB5 lo hi y))) := by
 have := bIn_any lo hi (n := 2) (cp := 2) (v := fun k => if k = 0 then x else y) (by decide) (RdR.blk (cs := [.int .i64 x, .int .i64 y]) h rfl (fun _ _ => rfl))
 simpa [allB, List.range_succ] using this
theorem bProper1_any (x y lo hi : Int) (b1 b2 : Nat) (w : World) (h1 : OldB w b1 [.int .i64 lo]) (h2 : OldB w b2 [.int .i64 hi]) :
  Calls Tryz.prog 104 #[.agg (spL x y).toArray, .pointer (some ⟨b1, 0, none⟩), .pointer (some ⟨b2, 0, none⟩)] w (Ret w (.bool (!ordB5 lo hi x y))) := by
 refine K_enter (S := []) (K := []) Tryz.func104 rfl Tryz.ntmps104 rfl (Sat.start _) ?_
 refine TW.seq fun Y1 hY1 => TW.region ?_
 refine TL.m Mk.bx ?_
 intro b1
 refine TL.p Pu.as ?_
 refine TL.nil (TQ.thenN (hY1 _ _ ?_))
 refine TW.seq fun Y2 hY2 => ?_
 refine TW.join [(4, .bool (decide (y < x) || !(inB5 lo hi x && inB5 lo hi y)))] ?_ (fun hJ1 => ?_)
 refine TQ.thenN (hY2 _ _ ?_)
 refine TW.ret ?_
 refine TQ.ret Tryz.results104 rfl ((.tmp rfl .nil)) ?_
 exact fun w hw => ⟨ret_bool (by unfold ordB5 inB5; rw [Bool.eq_iff_iff]; simp only [Bool.not_eq_true', Bool.and_eq_false_iff, Bool.or_eq_true, decide_eq_true_eq, decide_eq_false_iff_not]; omega), Chg.ext hw.chg⟩
 refine TW.region ?_
 refine TL.p (by first | exact Pu.fb ty_fa36_0 | exact Pu.fe ty_fa36_0) ?_
 refine TL.p (by first | exact (Pu.ld ty_sc3) | exact (Pu.ldo ty_sc3)) ?_
 refine TL.p (by first | exact Pu.fb ty_fa36_1 | exact Pu.fe ty_fa36_1) ?_
 refine TL.p (by first | exact (Pu.ld ty_sc3) | exact (Pu.ldo ty_sc3)) ?_
 refine TL.p Pu.gt ?_
 refine TL.p Pu.mv ?_
 refine TL.guard (t := 10) rfl (fun hg1 => ?_) (fun hg1 => ?_)
 refine TL.gs ?_
 refine TL.gs ?_
 refine TL.gs ?_
 refine TL.gs ?_
 refine TL.gs ?_
 refine TL.gs ?_
 refine TL.gs ?_
 refine TL.gs ?_
 refine TL.gs ?_
 refine TL.p Pu.kt ?_
 refine TL.p Pu.as ?_
 refine TL.nil ?_
 exact TQ.sub (by repeat (first | exact trivial | refine ⟨rfl, ?_⟩ | refine ⟨trivial, ?_⟩ | refine ⟨(by show some (Value.bool _) = some (Value.bool _); first | (simp [hg1]; done) | (refine congrArg (fun z => some (Value.bool z)) (Bool.eq_iff_iff.2 ?_); simp [hg1]; omega)), ?_⟩)) ks9 hJ1
 refine TL.gd (by first | exact (Pu.ld ty_sc3) | exact (Pu.ldo ty_sc3)) ?_
 refine TL.gd (by first | exact (Pu.ld ty_sc3) | exact (Pu.ldo ty_sc3)) ?_
 refine TL.gd (by first | exact Pu.fb ty_fa36_0 | exact Pu.fe ty_fa36_0) ?_
 refine TL.gd (by first | exact (Pu.ld ty_sc3) | exact (Pu.ldo ty_sc3)) ?_
 refine TL.gd (by first | exact Pu.fb ty_fa36_1 | exact Pu.fe ty_fa36_1) ?_
 refine TL.gd (by first | exact (Pu.ld ty_sc3) | exact (Pu.ldo ty_sc3)) ?_
 refine TL.gm Mk.bl ?_
 intro b2
 refine TL.cr rfl (enters Tryz.func48 rfl rfl) (fun w hw => by
   exact bInTwo_any _ _ _ _ (hw.holds _ (List.mem_cons_self ..))) ?_
 refine TL.gd Pu.no ?_
 refine TL.p Pu.kf ?_
 refine TL.p Pu.as ?_
 refine TL.nil ?_
 exact TQ.sub (by repeat (first | exact trivial | refine ⟨rfl, ?_⟩ | refine ⟨trivial, ?_⟩ | refine ⟨(by show some (Value.bool _) = some (Value.bool _); first | (simp [hg1]; done) | (refine congrArg (fun z => some (Value.bool z)) (Bool.eq_iff_iff.2 ?_); simp [hg1]; omega)), ?_⟩)) ks9 hJ1
theorem bProper_any (lo hi : Int) {A : Option Addr} {n cp : Nat} {v : Nat → Nat → Int} {w : World} (hn : n ≤ 9223372036854775807) (hR : RdR w 2 A n (fun k => spL (v k 0) (v k 1))) :
  Calls Tryz.prog 72 #[.int .i64 lo, .int .i64 hi, .slice A n cp] w (Ret w (.bool (allB n fun k => ordB5 lo hi (v k 0) (v k 1)))) := by
 refine K_enter (S := []) (K := []) Tryz.func72 rfl Tryz.ntmps72 rfl (Sat.start _) ?_
 refine TW.seq fun Y1 hY1 => TW.region ?_
 refine TL.m Mk.bx ?_
 intro b1
 refine TL.m Mk.bx ?_
 intro b2
 refine TL.p Pu.as ?_
 refine TL.nil (TQ.thenN (hY1 _ _ ?_))
 refine TW.seq fun Y2 hY2 => TW.region ?_
 refine TL.p Pu.mv ?_
 refine TL.p Pu.fn ?_
 refine TL.cr rfl (enters Tryz.func96 rfl rfl) (fun w hw => by
   have h1 := OldB.of_blk (hw.holds (.blk b1 3 [.int .i64 lo]) (by simp))
   have h2 := OldB.of_blk (hw.holds (.blk b2 3 [.int .i64 hi]) (by simp))
   exact hasSpan_any (fs := []) (v := v) (p := fun k => !ordB5 lo hi (v k 0) (v k 1)) (enters Tryz.func104 rfl rfl) hn (hR.sat hw Apart.nil) fun k hk w' hb => bProper1_any _ _ _ _ b1 b2 w' (h1.ext hb) (h2.ext hb)) ?_
 refine TL.p Pu.no ?_
 refine TL.p Pu.as ?_
 refine TL.nil (TQ.thenN (hY2 _ _ ?_))
 refine TW.ret ?_
 refine TQ.ret Tryz.results72 rfl ((.tmp rfl .nil)) ?_
 exact fun w hw => ⟨ret_bool (by rw [not_anyB]; simp), Chg.ext hw.chg⟩
theorem bProperOne_any (lo hi x y : Int) {b E : Nat} {w : World} (h : Blk w b E #[.int .i64 x, .int .i64 y]) :
  Calls Tryz.prog 72 #[.int .i64 lo, .int .i64 hi, .slice (some ⟨b, 0, none⟩) 1 1] w (Ret w (.bool (ordB5 lo hi x y))) := by
 have := bProper_any lo hi (n := 1) (cp := 1) (v := fun _ j => if j = 0 then x else y) (by decide) (RdR.blk (cs := [.int .i64 x, .int .i64 y]) h rfl (fun _ _ => rfl))
 simpa [allB] using this
theorem bCommon_any (a b c d : Int) (w : World) : Calls Tryz.prog 73 #[.agg #[.int .i64 a, .int .i64 b], .agg #[.int .i64 c, .int .i64 d]] w (Ret w (.agg #[.int .i64 (max a c), .int .i64 (min b d)])) := by
 refine K_enter (S := []) (K := []) Tryz.func73 rfl Tryz.ntmps73 rfl (Sat.start _) ?_
 refine TW.seq fun Y1 hY1 => TW.region ?_
 refine TL.m Mk.bx ?_
 intro b1
 refine TL.m Mk.bx ?_
 intro b2
 refine TL.m (Mk.al ty_zr36) ?_
 intro b3
 refine TL.nil (TQ.thenN (hY1 _ _ ?_))
 refine TW.seq fun Y2 hY2 => TW.region ?_
 refine TL.p (by first | exact Pu.fb ty_fa36_0 | exact Pu.fe ty_fa36_0) ?_
 refine TL.p (Pu.ld ty_sc3) ?_
 refine TL.p (by first | exact Pu.fb ty_fa36_0 | exact Pu.fe ty_fa36_0) ?_
 refine TL.p (Pu.ld ty_sc3) ?_
 refine TL.p Pu.mx ?_
 refine TL.p (by first | exact Pu.fb ty_fa36_1 | exact Pu.fe ty_fa36_1) ?_
 refine TL.p (Pu.ld ty_sc3) ?_
 refine TL.p (by first | exact Pu.fb ty_fa36_1 | exact Pu.fe ty_fa36_1) ?_
 refine TL.p (Pu.ld ty_sc3) ?_
 refine TL.p Pu.mn ?_
 refine TL.p Pu.bd ?_
 first | refine TL.st ty_sz36 ?_ | refine TL.se ty_sz36 ?_
 refine TL.nil (TQ.thenN (hY2 _ _ ?_))
 refine TW.ret ?_
 refine TQ.ret Tryz.results73 rfl ((RV.cs ty_ag36 .nil)) ?_
 exact fun w hw => Ret.of hw
theorem bShifted_any (a b x y : Int) (w : World) (h : (-1000000000000000000 ≤ a ∧ a ≤ 1000000000000000000) ∧ (-1000000000000000000 ≤ b ∧ b ≤ 1000000000000000000) ∧ (-1000000000000000000 ≤ x ∧ x ≤ 1000000000000000000) ∧ (-1000000000000000000 ≤ y ∧ y ≤ 1000000000000000000)) :
  Calls Tryz.prog 94 #[.agg #[.int .i64 a, .int .i64 b], .int .i64 x, .int .i64 y] w (Ret w (.agg #[.int .i64 (a + x), .int .i64 (b + y)])) := by
 refine K_enter (S := []) (K := []) Tryz.func94 rfl Tryz.ntmps94 rfl (Sat.start _) ?_
 refine TW.seq fun Y1 hY1 => TW.region ?_
 refine TL.m Mk.bx ?_
 intro b1
 refine TL.m (Mk.al ty_zr36) ?_
 intro b2
 refine TL.nil (TQ.thenN (hY1 _ _ ?_))
 refine TW.seq fun Y2 hY2 => TW.region ?_
 refine TL.p (by first | exact Pu.fb ty_fa36_0 | exact Pu.fe ty_fa36_0) ?_
 refine TL.p (Pu.ld ty_sc3) ?_
 refine TL.p Pu.mv ?_
 refine TL.p Pu.ad ?_
 refine TL.p (by first | exact Pu.fb ty_fa36_1 | exact Pu.fe ty_fa36_1) ?_
 refine TL.p (Pu.ld ty_sc3) ?_
 refine TL.p Pu.mv ?_
 refine TL.p Pu.ad ?_
 refine TL.p Pu.bd ?_
 first | refine TL.st ty_sz36 ?_ | refine TL.se ty_sz36 ?_
 refine TL.nil (TQ.thenN (hY2 _ _ ?_))
 refine TW.ret ?_
 refine TQ.ret Tryz.results94 rfl ((RV.cs ty_ag36 .nil)) ?_
 exact fun w hw => Ret.of hw
def anL (H : Hd) (a : Nat → Option Addr) (c : Nat → Nat) (i : Nat) : List Value := [.int .i64 (H.id i), .int .i64 (H.mo i), .int .i64 (H.lo i), .int .i64 (H.hi i), .slice (a i) (H.ml i) (c i)]
def octL (g : Nat → Int) : List Value := [.int .i64 (g 0), .int .i64 (g 1), .int .i64 (g 2), .int .i64 (g 3), .int .i64 (g 4), .int .i64 (g 5), .int .i64 (g 6), .int .i64 (g 7)]
theorem oct8 : ArrT Tryz.prog 111 3 8 1 := ⟨Tryz.underlying111, fun w => by kernel_rfl⟩
def SgX (H : Hd) (i : Nat) := { g : Nat → Int // marksB H i = true → ∀ s, s < 8 → g s = sgH H i s }
set_option maxRecDepth 100000 in
set_option maxHeartbeats 1000000 in
theorem signed_any {H : Hd} {a : Nat → Option Addr} {c : Nat → Nat} {i : Nat} {w : World} (hl : H.ml i ≤ 1000) (hR : RdR w 2 (a i) (H.ml i) (fun k => spL (H.sp i k) (H.sg i k))) :
  CallsK Tryz.prog 102 #[.agg (anL H a c i).toArray] [] w (SgX H i) (fun g => .tuple #[.agg (octL g.1).toArray, .bool (marksB H i)]) (fun _ => []) := by
 unfold anL
 refine K_enter (S := []) (K := []) Tryz.func102 rfl Tryz.ntmps102 rfl (Sat.start _) ?_
 refine TW.seq fun Y1 hY1 => TW.region ?_
 refine TL.m Mk.bx ?_
 intro b1
 refine TL.m (Mk.al ty_zr111) ?_
 intro b2
 refine TL.p Pu.as ?_
 refine TL.nil (TQ.thenN (hY1 _ _ ?_))
 refine TW.seq fun Y2 hY2 => TW.region ?_
 refine TL.m (Mk.al ty_zr111) ?_
 intro b3
 refine TL.nil (TQ.thenN (hY2 _ _ ?_))
 refine TW.seq fun Y3 hY3 => ?_
 refine TW.seq fun Y4 hY4 => TW.region ?_
 refine TL.p (by first | exact Pu.fb ty_fa46_3 | exact Pu.fe ty_fa46_3) ?_
 refine TL.p (Pu.ld ty_sc44) ?_
 refine TL.p (Pu.ln Tryz.underlying44) ?_
 refine TL.p Pu.mv ?_
 refine TL.nil (TQ.thenN (hY4 _ _ ?_))
 refine TW.block ?_
 refine TW.loop1 (fun (k : Nat) => [(10, .int .i64 (k : Int)), (9, .int .i64 (H.ml i : Int)), (8, .slice (a i) (H.ml i) (c i)), (4, .pointer (some ⟨b3, 0, none⟩)), (2, .pointer (some ⟨b2, 0, none⟩))]) (fun k => [.own (some ⟨b3, 0, none⟩) 8 8 111 1 (fun s => [.int .i64 (sgK H i k s)]), .blk b2 111 (octL fun _ => 0)]) (fun k => k ≤ H.ml i ∧ ∀ j, j < k → markB H i j = true) (fun k => H.ml i - k) 0 fs9 ?_ ?_ ?_
 exact KSub.ofBlk pk9 rfl (fun i hi => rfl) rfl rfl (KSub.cons pk9 KSub.nil)
 exact ⟨Nat.zero_le _, fun j hj => by omega⟩
 rintro k ⟨hk, hm⟩ Z0 hZ0
 refine TW.seq fun Y5 hY5 => TW.region ?_
 refine TL.p Pu.lt ?_
 refine TL.nil (TQ.thenN (hY5 _ _ ?_))
 refine TW.seq fun Y6 hY6 => ?_
 refine TW.cond rfl (fun hc0 => ?_) (fun hc0 => ?_)
 try simp only [zcb9] at hc0
 have hkl : k < H.ml i := by omega
 refine TW.skip ?_
 refine TQ.thenN (hY6 _ _ ?_)
 refine TW.seq fun Y7 hY7 => ?_
 refine TW.block ?_
 refine TW.seq fun Y8 hY8 => TW.region ?_
 refine TL.p (Pu.el ty_et44) ?_
 refine TL.p (Pu.lds ty_ag87) ?_
 refine TL.m (Mk.al ty_zr87) ?_
 intro b4
 first | refine TL.st ty_sz87 ?_ | refine TL.se ty_sz87 ?_
 refine TL.nil (TQ.thenN (hY8 _ _ ?_))
 refine TW.seq fun Y9 hY9 => ?_
 refine TW.seq fun Y10 hY10 => TW.region ?_
 refine TL.p (by first | exact Pu.fb ty_fa87_0 | exact Pu.fe ty_fa87_0) ?_
 refine TL.p (Pu.ld ty_sc3) ?_
 refine TL.m Mk.bl ?_
 intro b5
 refine TL.cr rfl (enters Tryz.func48 rfl rfl) (fun w hw => by
   exact bInOne_any _ _ _ (hw.holds _ (List.mem_cons_self ..))) ?_
 refine TL.p Pu.no ?_
 refine TL.p Pu.mv ?_
 refine TL.guard (t := 19) rfl (fun hg1 => ?_) (fun hg1 => ?_)
 try simp only [zgb9] at hg1
 refine TL.gs ?_
 refine TL.gs ?_
 refine TL.gs ?_
 refine TL.gs ?_
 refine TL.gs ?_
 refine TL.p Pu.kt ?_
 refine TL.p Pu.mv ?_
 refine TL.gs ?_
 refine TL.gs ?_
 refine TL.gs ?_
 refine TL.gs ?_
 refine TL.gs ?_
 refine TL.p Pu.kt ?_
 refine TL.nil (TQ.thenN (hY10 _ _ ?_))
 refine TW.condT rfl rfl ?_
 refine TW.seq fun Y11 hY11 => TW.region ?_
 refine TL.bo (b := b3) (cs := octL (sgK H i k)) pk9 rfl ?_
 refine TL.p (Pu.lds ty_ag111) ?_
 first | refine TL.st ty_sz111 ?_ | refine TL.se ty_sz111 ?_
 refine TL.p Pu.as ?_
 refine TL.nil (TQ.thenN (hY11 _ _ ?_))
 refine TW.ret ?_
 refine TQ.thenR ?_
 refine TQ.blkR ?_
 refine TQ.thenR ?_
 refine TQ.thenR ?_
 refine TQ.blkR ?_
 refine TQ.thenR ?_
 refine TQ.ret Tryz.results102 rfl ((RV.cs ty_ag111 (.tmp rfl .nil))) ?_
 have hno := marks_no hkl (by first | exact hbad | (unfold markB; rw [hg1]; rfl) | (unfold markB; rw [hg1, hg2]; rfl))
 exact fun w hw => ⟨⟨sgK H i k, fun h => by rw [hno] at h; cases h⟩, by show _ = Ending.returned (Value.tuple #[Value.agg (octL (sgK H i k)).toArray, Value.bool (marksB H i)]); rw [hno]; rfl, hw.sub KSub.nil⟩
 try simp only [zgb9] at hg1
 refine TL.gd (by first | exact Pu.fb ty_fa87_1 | exact Pu.fe ty_fa87_1) ?_
 refine TL.gd (Pu.ld ty_sc3) ?_
 refine TL.gm Mk.bl ?_
 intro b6
 refine TL.cr rfl (enters Tryz.func48 rfl rfl) (fun w hw => by
   exact bInOne_any _ _ _ (hw.holds _ (List.mem_cons_self ..))) ?_
 refine TL.gd Pu.no ?_
 refine TL.p Pu.kf ?_
 refine TL.p Pu.mv ?_
 refine TL.guard (t := 26) rfl (fun hg2 => ?_) (fun hg2 => ?_)
 try simp only [zgb9] at hg2
 refine TL.gs ?_
 refine TL.gs ?_
 refine TL.gs ?_
 refine TL.gs ?_
 refine TL.gs ?_
 refine TL.p Pu.kt ?_
 refine TL.nil (TQ.thenN (hY10 _ _ ?_))
 refine TW.condT rfl rfl ?_
 refine TW.seq fun Y12 hY12 => TW.region ?_
 refine TL.bo (b := b3) (cs := octL (sgK H i k)) pk9 rfl ?_
 refine TL.p (Pu.lds ty_ag111) ?_
 first | refine TL.st ty_sz111 ?_ | refine TL.se ty_sz111 ?_
 refine TL.p Pu.as ?_
 refine TL.nil (TQ.thenN (hY12 _ _ ?_))
 refine TW.ret ?_
 refine TQ.thenR ?_
 refine TQ.blkR ?_
 refine TQ.thenR ?_
 refine TQ.thenR ?_
 refine TQ.blkR ?_
 refine TQ.thenR ?_
 refine TQ.ret Tryz.results102 rfl ((RV.cs ty_ag111 (.tmp rfl .nil))) ?_
 have hno := marks_no hkl (by first | exact hbad | (unfold markB; rw [hg1]; rfl) | (unfold markB; rw [hg1, hg2]; rfl))
 exact fun w hw => ⟨⟨sgK H i k, fun h => by rw [hno] at h; cases h⟩, by show _ = Ending.returned (Value.tuple #[Value.agg (octL (sgK H i k)).toArray, Value.bool (marksB H i)]); rw [hno]; rfl, hw.sub KSub.nil⟩
 try simp only [zgb9] at hg2
 have h7 : 0 ≤ H.sp i k ∧ H.sp i k ≤ 7 := by simpa [inB5] using hg1
 refine TL.gd (by first | exact Pu.fb ty_fa87_0 | exact Pu.fe ty_fa87_0) ?_
 refine TL.gd (Pu.ld ty_sc3) ?_
 refine TL.gd (Pu.ea (q := (H.sp i k).toNat) oct8 (hk := rfl)) ?_
 refine TL.gd (Pu.ld ty_sc3) ?_
 refine TL.gd Pu.ne ?_
 refine TL.p Pu.kf ?_
 refine TL.nil (TQ.thenN (hY10 _ _ ?_))
 refine TW.cond rfl (fun hc1 => ?_) (fun hc1 => ?_)
 try simp only [zcb9] at hc1
 have hbad : markB H i k = false := by
  cases h : markB H i k with
  | false => rfl
  | true => exact absurd ((mark_step hm hg1 hg2).2 h) hc1
 refine TW.seq fun Y13 hY13 => TW.region ?_
 refine TL.bo (b := b3) (cs := octL (sgK H i k)) pk9 rfl ?_
 refine TL.p (Pu.lds ty_ag111) ?_
 first | refine TL.st ty_sz111 ?_ | refine TL.se ty_sz111 ?_
 refine TL.p Pu.as ?_
 refine TL.nil (TQ.thenN (hY13 _ _ ?_))
 refine TW.ret ?_
 refine TQ.thenR ?_
 refine TQ.blkR ?_
 refine TQ.thenR ?_
 refine TQ.thenR ?_
 refine TQ.blkR ?_
 refine TQ.thenR ?_
 refine TQ.ret Tryz.results102 rfl ((RV.cs ty_ag111 (.tmp rfl .nil))) ?_
 have hno := marks_no hkl (by first | exact hbad | (unfold markB; rw [hg1]; rfl) | (unfold markB; rw [hg1, hg2]; rfl))
 exact fun w hw => ⟨⟨sgK H i k, fun h => by rw [hno] at h; cases h⟩, by show _ = Ending.returned (Value.tuple #[Value.agg (octL (sgK H i k)).toArray, Value.bool (marksB H i)]); rw [hno]; rfl, hw.sub KSub.nil⟩
 try simp only [zcb9] at hc1
 have hgood : markB H i k = true := (mark_step hm hg1 hg2).1 (by simpa using hc1)
 refine TW.skip ?_
 refine TQ.thenN (hY9 _ _ ?_)
 refine TW.region ?_
 refine TL.p (by first | exact Pu.fb ty_fa87_0 | exact Pu.fe ty_fa87_0) ?_
 refine TL.p (Pu.ld ty_sc3) ?_
 refine TL.p (by first | exact Pu.fb ty_fa87_1 | exact Pu.fe ty_fa87_1) ?_
 refine TL.p (Pu.ld ty_sc3) ?_
 refine TL.p (Pu.ea (q := (H.sp i k).toNat) oct8 (hk := rfl)) ?_
 first | refine TL.st ty_sz3 ?_ | refine TL.se ty_sz3 ?_
 refine TL.nil ?_
 refine TQ.blkN ?_
 refine TQ.thenN (hY7 _ _ ?_)
 refine TW.region ?_
 refine TL.p Pu.ad ?_
 refine TL.p Pu.mv ?_
 refine TL.nil ?_
 refine TQ.thenN (hZ0 (k + 1) _ _ ?_ ?_ fs9 ?_)
 refine ⟨by omega, fun j hj => ?_⟩
 by_cases e : j = k
 subst e; exact hgood
 exact hm j (by omega)
 exact zom9
 refine KSub.own pk9 (fun s _ => ?_) (KSub.cons pk9 KSub.nil)
 unfold updR
 simp only [sgK]
 split <;> rfl
 try simp only [zcb9] at hc0
 obtain rfl : k = H.ml i := by omega
 refine TW.exit ?_
 refine TQ.thenX ?_
 refine TQ.thenX ?_
 refine TQ.blkX ?_
 refine TQ.thenN (hY3 _ _ ?_)
 refine TW.seq fun Y14 hY14 => TW.region ?_
 refine TL.bo (b := b3) (cs := octL (sgH H i)) pk9 rfl ?_
 refine TL.p (Pu.lds ty_ag111) ?_
 first | refine TL.st ty_sz111 ?_ | refine TL.se ty_sz111 ?_
 refine TL.p Pu.as ?_
 refine TL.nil (TQ.thenN (hY14 _ _ ?_))
 refine TW.ret ?_
 refine TQ.ret Tryz.results102 rfl ((RV.cs ty_ag111 (.tmp rfl .nil))) ?_
 have hgood : marksB H i = true := allB_iff.2 hm
 exact fun w hw => ⟨⟨sgH H i, fun _ _ _ => rfl⟩, by show _ = Ending.returned (Value.tuple #[Value.agg (octL (sgH H i)).toArray, Value.bool (marksB H i)]); rw [hgood]; rfl, hw.sub KSub.nil⟩
end Go.Proofs.YtbenhafhklfhmaaGreat
namespace Go.Proofs.YtbenhafhklfhmaaGreat
set_option linter.all false
set_option linter.unusedVariables false
set_option linter.unusedSimpArgs false
open Go.RowKit
section
variable {c : Cx} {F : Fr} {K K' : List Fact}
theorem TW.seqD {Q : Exit → Act → World → Prop} {x y : Code} (h : ∀ Y : Act → World → Prop, (∀ (c2 : Cx) (F : Fr) (K : List Fact), TW c2 y Q F K → (hP : c2.P = c.P := by rfl) → TQ c2 (fun _ => Y) .normal F K) → TW c x (Exit.then Y Q) F K) : TW c (.seq x y) Q F K := fun a w hF hK =>
 wp_seq (h (y.wp c.P Q) (fun c2 F K h hP a w h1 h2 => hP ▸ h a w h1 h2) a w hF hK)
end
end Go.Proofs.YtbenhafhklfhmaaGreat
namespace Go.Proofs.YtbenhafhklfhmaaGreat
set_option linter.all false
set_option linter.unusedVariables false
set_option linter.unusedSimpArgs false
open Go.RowKit
theorem line_any {w : World} {bh : Nat} {i : Int} : CallsK Tryz.prog 82 #[.pointer (some ⟨bh, 0, none⟩), .int .i64 i] [] w (Nat × Nat) (fun x => .func (.func 107) #[] #[.pointer (some ⟨x.1, 0, none⟩), .pointer (some ⟨x.2, 0, none⟩)]) (fun x => [.blk x.1 3 [.int .i64 i], .blk x.2 96 [.pointer (some ⟨bh, 0, none⟩)]]) := by
 refine K_enter (S := []) (K := []) Tryz.func82 rfl Tryz.ntmps82 rfl (Sat.start _) ?_
 refine TW.seq fun Y1 hY1 => TW.region ?_
 refine TL.m Mk.bx ?_
 intro b1
 refine TL.m Mk.bx ?_
 intro b2
 refine TL.p Pu.as ?_
 refine TL.nil (TQ.thenN (hY1 _ _ ?_))
 refine TW.seq fun Y2 hY2 => TW.region ?_
 refine TL.p Pu.fn ?_
 refine TL.p Pu.as ?_
 refine TL.nil (TQ.thenN (hY2 _ _ ?_))
 refine TW.ret ?_
 refine TQ.ret Tryz.results82 rfl ((.tmp rfl .nil)) ?_
 exact fun w hw => ⟨(b2, b1), rfl, hw.sub ks9⟩
def linM (bi bp bh : Nat) (i : Int) : List Fact := [.blk bi 3 [.int .i64 i], .blk bp 96 [.pointer (some ⟨bh, 0, none⟩)]]
set_option maxRecDepth 100000 in
set_option maxHeartbeats 1000000 in
theorem line1_iter {f : Nat → Int} {n i N bi bp bh cm : Nat} {Am : Option Addr} {va vm vk : Value} {S : List Nat} {W0 : World} {R : Type} {J : Nat → R → List Fact} (hoB : OldB W0 bh [va, vm, .slice Am n cm, vk]) (hSb : Apart S (some ⟨bh, 0, none⟩)) (hoM : RdR W0 1 Am n (fun j => [.int .i64 (f j)])) (hA : Apart S Am) (hf : Mo f n) (hi : i < n)
  (hN : (N = depH f n i ∧ upH f i n < 0) ∨ (0 ≤ upH f i n ∧ ∀ X r w, ¬ Sat S W0 (X ++ J N r) w)) :
  IterR Tryz.prog 107 [.pointer (some ⟨bi, 0, none⟩), .pointer (some ⟨bp, 0, none⟩)] (linM bi bp bh i) Unit (fun q _ => [.int .i64 (upH f i q)]) (fun q _ => linM bi bp bh (upH f i q)) (fun q _ => linM bi bp bh (upH f i q)) N [] S W0 R J := by
 intro lY Rx Jx r0 W hS hround
 have hbd := upH_bd hf hi
 refine K_enterW (S := S) (K := .blk bi 3 [.int .i64 (i : Int)] :: .blk bp 96 [.pointer (some ⟨bh, 0, none⟩)] :: J 0 r0) Tryz.func107 rfl Tryz.ntmps107 rfl hS ?_
 refine TW.block ?_
 refine TW.loop2 (fun (q : Nat) (r : R) => [(0, .func (.yield lY) #[] #[]), (1, .pointer (some ⟨bi, 0, none⟩)), (2, .pointer (some ⟨bp, 0, none⟩))]) (fun q r => .blk bi 3 [.int .i64 (upH f i q)] :: .blk bp 96 [.pointer (some ⟨bh, 0, none⟩)] :: J q r) (fun q r => q ≤ N ∧ ∀ t, t < q → 0 ≤ upH f i t) (fun q r => N - q) 0 r0 fs9 ?_ ?_ ?_
 exact kt9
 exact ⟨Nat.zero_le _, fun t ht => by omega⟩
 rintro q r ⟨hq, hup⟩ Z0 hZ0
 have hbq := hbd q
 by_cases hqN : q = N ∧ 0 ≤ upH f i n
 rcases hN with ⟨_, h9⟩ | ⟨_, h9⟩
 have := hqN.2; omega
 obtain ⟨rfl, _⟩ := hqN
 exact fun a w hF hK => absurd hK (h9 [.blk bi 3 [.int .i64 (upH f i q)], .blk bp 96 [.pointer (some ⟨bh, 0, none⟩)]] r w)
 refine TW.seq fun Y1 hY1 => ?_
 refine TW.seq fun Y2 hY2 => TW.region ?_
 refine TL.p (by first | exact (Pu.ld ty_sc3) | exact (Pu.ldo ty_sc3)) ?_
 refine TL.p Pu.ge ?_
 refine TL.nil (TQ.thenN (hY2 _ _ ?_))
 refine TW.cond rfl (fun hc0 => ?_) (fun hc0 => ?_)
 try simp only [zcb9] at hc0
 have hlt : q < N := by
  rcases hN with ⟨h8, h9⟩ | ⟨h8, _⟩
  have h7 := dep_end h9
  rw [← h8] at h7
  by_cases e : q = N
  subst e; omega
  omega
  by_cases e : q = N
  exact absurd ⟨e, h8⟩ hqN
  omega
 have hnx : upH f i (q + 1) = f (upH f i q).toNat := if_neg (by omega)
 refine TW.skip ?_
 refine TQ.thenN (hY1 _ _ ?_)
 refine TW.seq fun Y3 hY3 => ?_
 refine TW.block ?_
 refine TW.seq fun Y4 hY4 => ?_
 refine TW.regionI ?_
 refine TLi.op (fun U1 hU1 => ?_) (by rintro ⟨_, _, h⟩; first | exact h | (obtain ⟨⟨_, h⟩, _⟩ := h; cases h) | cases h)
 refine TL.p Pu.mv ?_
 refine TL.nil ?_
 refine TQ.nxt (hU1 _ _ ?_)
 refine TLi.op (fun U2 hU2 => ?_) (by rintro ⟨_, _, h⟩; first | exact h | (obtain ⟨⟨_, h⟩, _⟩ := h; cases h) | cases h)
 refine TL.p (by first | exact (Pu.ld ty_sc3) | exact (Pu.ldo ty_sc3)) ?_
 refine TL.nil ?_
 refine TQ.nxt (hU2 _ _ ?_)
 refine TLi.yi rfl rfl (fun w hw => by
   exact hround q () r w hlt hw) ?_ ?_
 intro r'
 refine TLi.op (fun U3 hU3 => ?_) (by rintro ⟨_, _, h⟩; first | exact h | (obtain ⟨⟨_, h⟩, _⟩ := h; cases h) | cases h)
 refine TL.p Pu.no ?_
 refine TL.nil ?_
 refine TQ.nxt (hU3 _ _ ?_)
 refine TLi.nil ?_
 refine TQ.thenN (hY4 _ _ ?_)
 refine TW.condF rfl rfl ?_
 refine TW.skip ?_
 refine TQ.blkN ?_
 refine TQ.thenN (hY3 _ _ ?_)
 refine TW.dw 7 ?_
 refine RK.tk (by first | exact (Pu.ld ty_sc96) | exact (Pu.ldo ty_sc96)) ?_
 refine RK.tk (by first | exact Pu.nn | exact Pu.nc) ?_
 refine RK.tk (by first | exact Pu.fb ty_fa106_2 | exact Pu.fe ty_fa106_2) ?_
 refine RK.tk (by first | exact (Pu.ld ty_sc28) | exact (Pu.ldo ty_sc28)) ?_
 refine RK.tk (by first | exact (Pu.ld ty_sc3) | exact (Pu.ldo ty_sc3)) ?_
 refine RK.tk (Pu.el (q := (upH f i q).toNat) ty_et28 (hk := rfl)) ?_
 refine RK.tk (by first | exact (Pu.ld ty_sc3) | exact (Pu.ldo ty_sc3)) ?_
 refine RK.ch [] ?_ trivial
 refine WK.n ?_
 first | refine TL.st ty_sz3 ?_ | refine TL.se ty_sz3 ?_
 refine TL.nil ?_
 refine TQ.thenN (hZ0 (q + 1) r' _ _ ?_ ?_ fs9 ?_)
 refine ⟨by omega, fun t ht => ?_⟩
 by_cases e : t = q
 subst e; omega
 exact hup t (by omega)
 exact zom9
 rw [hnx]; exact KSub.refl _
 intro x
 refine TLi.op (fun U4 hU4 => ?_) (by rintro ⟨_, _, h⟩; first | exact h | (obtain ⟨⟨_, h⟩, _⟩ := h; cases h) | cases h)
 refine TL.p Pu.no ?_
 refine TL.nil ?_
 refine TQ.nxt (hU4 _ _ ?_)
 refine TLi.nil ?_
 refine TQ.thenN (hY4 _ _ ?_)
 refine TW.condT rfl rfl ?_
 refine TW.ret ?_
 refine TQ.blkR ?_
 refine TQ.thenR ?_
 refine TQ.thenR ?_
 refine TQ.blkR ?_
 refine TQ.ret Tryz.results107 rfl (.nil) ?_
 exact fun w hw => ⟨⟨_, rfl⟩, .inr ⟨x, hw.sub (KSub.dropL _ (KSub.refl _))⟩⟩
 try simp only [zcb9] at hc0
 have hqe : q = N := by
  rcases hN with ⟨h8, h9⟩ | ⟨h8, _⟩
  by_cases e : q = N
  exact e
  have := dep_in (f := f) (n := n) (i := i) (s := q) (by omega)
  omega
  have := upH_cycle hf hi h8 q
  omega
 subst hqe
 refine TW.exit ?_
 refine TQ.thenX ?_
 refine TQ.thenX ?_
 refine TQ.blkX ?_
 refine TQ.end Tryz.results107 rfl (.nil) ?_
 exact fun w hw => ⟨⟨_, rfl⟩, .inl ⟨r, hw.sub (KSub.drop (KSub.drop (KSub.refl _)))⟩⟩
end Go.Proofs.YtbenhafhklfhmaaGreat
namespace Go.Proofs.YtbenhafhklfhmaaGreat
set_option linter.all false
set_option linter.unusedVariables false
set_option linter.unusedSimpArgs false
open Go.RowKit
def colD (Ds : List Nat) : List Deferred := Ds.map fun D => { target := .collected D, args := #[] }
def defK (Ds : List Nat) : List Fact := Ds.map fun D => .obj D (.deferred (some []))
section
variable {c : Cx} {Q : Exit → Act → World → Prop} {F F' : Fr} {K K' : List Fact}
theorem leaves {P : Program} {fn : Func} {R : Ending → World → Prop} {t : Array Value} {v : Value} {S : List Nat} {w0 : World} {K : List Fact} (hr : ∀ w, Sat S w0 K w → (results fn t).run P w = .ok v w) (hR : ∀ w, Sat S w0 K w → R (.returned v) w) : ∀ (Ds : List Nat) (w : World), Sat S w0 (defK Ds ++ K) w → LeavesInM Fence.wide 2 P fn t R (colD Ds) .returning w
 | [], w, h => ⟨v, hr w h, hR w h⟩
 | D :: Ds, w, h => by
  have hd : w.heap[D]? = some (.deferred (some [])) := (h.holds (.obj D (.deferred (some []))) (by simp [defK])).1
  have h2 : Sat S w0 (defK Ds ++ K) (w.putObj D (.deferred none)) := (Sat.putO (o' := .deferred none) (K := defK Ds ++ K) h rfl).sub (KSub.drop (KSub.refl _))
  exact ⟨by simp, .inl ⟨D, _, rfl, run_takeDeferred hd, leaves hr hR Ds _ h2⟩⟩
theorem TQ.retMs {fn : Func} {R : Ending → World → Prop} {rs : List ResultVar} {vs : List Value} (Ds : List Nat) (K1 : List Fact) (hr : fn.results = rs.toArray) (hK : KSub K (K1 ++ defK Ds)) (hv : RV c F K1 rs vs) (h : ∀ w, Sat c.S c.w0 K1 w → R (.returned (retV vs)) w) (hD : c.D = colD Ds := by rfl) : TQ c (bodyPostM Fence.wide 2 c.P fn R) .ret F K := fun a w hF hs => by
 obtain ⟨t, ds⟩ := a
 have e : ds = colD Ds := hF.dfs.trans hD
 subst e
 exact leaves (fun w hw => hv.results hr hF hw) h Ds w ((hs.sub hK).perm List.perm_append_comm)
theorem TW.loopM {ι : Type} {x : Code} (FI : ι → Fr) (KI : ι → List Nat → List Fact) (p : ι → Prop) (μ : ι → Nat) (i0 : ι) (Ds0 : List Nat) (hF : fsub F (FI i0)) (hK : KSub K (KI i0 Ds0)) (hp : p i0)
  (round : ∀ i, p i → ∀ Ds, ∀ Y : Act → World → Prop, (∀ j Ds' F K, p j → μ j < μ i → fsub F (FI j) → KSub K (KI j Ds') → TQ { c with D := colD Ds' } (fun _ => Y) .normal F K) → TW { c with D := colD Ds } x (Exit.then Y Q) (FI i) (KI i Ds)) (hD : c.D = colD Ds0 := by rfl) : TW c (.loop x) Q F K := fun a w hf hk => by
 refine wp_loop_ghost (fun k a w => ∃ i Ds, μ i = k ∧ p i ∧ FS c.n (colD Ds) (FI i) a ∧ Sat c.S c.w0 (KI i Ds) w) (μ i0) ⟨i0, Ds0, rfl, hp, hD ▸ hf.sub (fsub_spec hF), hk.sub hK⟩ ?_
 rintro k a w ⟨i, Ds, rfl, hpi, hf, hk⟩
 refine round i hpi Ds _ (fun j Ds' F K hpj hj hF hK a w h1 h2 => ?_) a w hf hk
 exact ⟨μ j, hj, j, Ds', rfl, hpj, h1.sub (fsub_spec hF), h2.sub hK⟩
theorem TW.loopM1 {ι1 : Type} {x : Code} (FI : ι1 → Fr) (KI : ι1 → List Nat → List Fact) (p : ι1 → Prop) (μ : ι1 → Nat) (i1 : ι1) (Ds0 : List Nat) (hF : fsub F (FI i1)) (hK : KSub K (KI i1 Ds0)) (hp : p i1)
  (round : ∀ i1, p i1 → ∀ Ds, ∀ Y : Act → World → Prop, (∀ j1 Ds' F K, p j1 → μ j1 < μ i1 → fsub F (FI j1) → KSub K (KI j1 Ds') → TQ { c with D := colD Ds' } (fun _ => Y) .normal F K) → TW { c with D := colD Ds } x (Exit.then Y Q) (FI i1) (KI i1 Ds)) (hD : c.D = colD Ds0 := by rfl) : TW c (.loop x) Q F K :=
 TW.loopM FI KI p μ i1 Ds0 hF hK hp round hD
theorem TW.loopM3 {ι1 ι2 ι3 : Type} {x : Code} (FI : ι1 → ι2 → ι3 → Fr) (KI : ι1 → ι2 → ι3 → List Nat → List Fact) (p : ι1 → ι2 → ι3 → Prop) (μ : ι1 → ι2 → ι3 → Nat) (i1 : ι1) (i2 : ι2) (i3 : ι3) (Ds0 : List Nat) (hF : fsub F (FI i1 i2 i3)) (hK : KSub K (KI i1 i2 i3 Ds0)) (hp : p i1 i2 i3)
  (round : ∀ i1 i2 i3, p i1 i2 i3 → ∀ Ds, ∀ Y : Act → World → Prop, (∀ j1 j2 j3 Ds' F K, p j1 j2 j3 → μ j1 j2 j3 < μ i1 i2 i3 → fsub F (FI j1 j2 j3) → KSub K (KI j1 j2 j3 Ds') → TQ { c with D := colD Ds' } (fun _ => Y) .normal F K) → TW { c with D := colD Ds } x (Exit.then Y Q) (FI i1 i2 i3) (KI i1 i2 i3 Ds)) (hD : c.D = colD Ds0 := by rfl) : TW c (.loop x) Q F K :=
 TW.loopM (ι := ι1 × ι2 × ι3) (fun t => FI t.1 t.2.1 t.2.2) (fun t => KI t.1 t.2.1 t.2.2) (fun t => p t.1 t.2.1 t.2.2) (fun t => μ t.1 t.2.1 t.2.2) (i1, i2, i3) Ds0 hF hK hp (fun t hp Ds Y hY => round t.1 t.2.1 t.2.2 hp Ds Y fun j1 j2 j3 => hY (j1, j2, j3)) hD
theorem TW.np {x : Code} (h : TW c x (NP Q) F K) : TW c x Q F K := fun a w hF hK => wp_mono (h a w hF hK) fun e a w he => by
 cases e with
 | panic ch => exact he.elim
 | _ => exact he
theorem TQ.npN (h : TQ c Q .normal F K) : TQ c (NP Q) .normal F K := h
theorem TW.rebaseK {x : Code} (K1 K2 : List Fact) (hp : KSub K (K1 ++ K2)) (h : ∀ w1, Sat c.S c.w0 (K1 ++ K2) w1 → TW ⟨c.P, c.n, c.D, feet K1, w1⟩ x Q F K1) : TW c x Q F K := fun a w hF hK => by
 have hs := hK.sub hp
 exact h w hs a w hF (Has.sat ⟨K2, List.Perm.refl _⟩ hs).self
end
theorem Sat.apartO {S : List Nat} {w0 w : World} {K1 K2 : List Fact} {A : Option Addr} {n c : Nat} {E : TypeId} {sz : Nat} {r : Nat → List Value} (h : Sat S w0 (K1 ++ K2) w) (hm : .own A n c E sz r ∈ K2) : Apart (feet K1) A := fun b hb hm1 => by
 have hnd := List.nodup_append.1 (feet_append K1 K2 ▸ h.nd)
 cases A with
 | none => cases hb
 | some a =>
  have e : a.block = b := by simpa using hb
  exact hnd.2.2 b hm1 b (List.mem_flatMap.2 ⟨_, hm, by simp [Fact.foot, e]⟩) rfl
theorem Sat.apartB {S : List Nat} {w0 w : World} {K1 K2 : List Fact} {b : Nat} {t : TypeId} {cs : List Value} (h : Sat S w0 (K1 ++ K2) w) (hm : .blk b t cs ∈ K2) : Apart (feet K1) (some ⟨b, 0, none⟩) := fun b' hb hm1 => by
 have hnd := List.nodup_append.1 (feet_append K1 K2 ▸ h.nd)
 have e : b = b' := by simpa using hb
 subst e
 exact hnd.2.2 b hm1 b (List.mem_flatMap.2 ⟨_, hm, by simp [Fact.foot]⟩) rfl
end Go.Proofs.YtbenhafhklfhmaaGreat
namespace Go.Proofs.YtbenhafhklfhmaaGreat
set_option linter.all false
set_option linter.unusedVariables false
set_option linter.unusedSimpArgs false
open Go.RowKit
section
variable {x : Int} {u v : Value} {k : Int} {l : List (Int × Value)}
theorem mlook_app : ∀ {l : List (Int × Value)}, mlook x (l ++ [(k, u)]) = (mlook x l).or (if x = k then some u else none)
 | [] => by simp [mlook]
 | (k', u') :: l => by
  have ih := mlook_app (l := l)
  by_cases h : x = k'
  · simp [mlook, h]
  · simp [mlook, h, ih]
theorem mput_new : ∀ {l : List (Int × Value)}, mlook x l = none → mput x v l = l ++ [(x, v)]
  | [], _ => rfl
  | (k', u') :: l, h => by
    by_cases e : x = k'
    · simp [mlook, e] at h
    · have h' : mlook x l = none := by simpa [mlook, e] using h
      simp [mput, e, mput_new h']
end
def plM (H : Hd) (i : Nat) : List (Int × Value) := (List.range i).map fun j => (H.id j, .int .i64 (j : Int))
section
variable {H : Hd} {i : Nat} {x : Int}
theorem plM_succ : plM H (i + 1) = plM H i ++ [(H.id i, .int .i64 (i : Int))] := by simp [plM, List.range_succ]
theorem mlook_pl : ∀ {i}, mlook x (plM H i) = if fst1 (fun j => decide (H.id j = x)) i < i then some (.int .i64 ((fst1 (fun j => decide (H.id j = x)) i : Nat) : Int)) else none
  | 0 => rfl
  | i + 1 => by
    have hl := fst1_le (p := fun j => decide (H.id j = x)) (n := i)
    rw [plM_succ, mlook_app, mlook_pl (i := i)]
    by_cases h : fst1 (fun j => decide (H.id j = x)) i < i
    · have e : fst1 (fun j => decide (H.id j = x)) (i + 1) = fst1 (fun j => decide (H.id j = x)) i := by simp only [fst1]; rw [if_pos h]
      rw [e, if_pos h, if_pos (show fst1 (fun j => decide (H.id j = x)) i < i + 1 by omega)]; rfl
    · rw [if_neg h]
      by_cases e : H.id i = x
      · have e2 : fst1 (fun j => decide (H.id j = x)) (i + 1) = i := by simp only [fst1]; rw [if_neg h, if_pos (decide_eq_true e)]
        rw [e2, if_pos e.symm, if_pos (show i < i + 1 by omega)]; rfl
      · have e2 : fst1 (fun j => decide (H.id j = x)) (i + 1) = i + 1 := by simp only [fst1]; rw [if_neg h, if_neg (by simpa using e)]
        rw [e2, if_neg (fun e3 => e e3.symm), if_neg (show ¬ i + 1 < i + 1 by omega)]; rfl
theorem pl_look : mlook x (plM H H.n) = if 0 ≤ atH H x then some (.int .i64 (atH H x)) else none := by
 rw [mlook_pl]
 unfold atH atI
 split
 · rw [if_pos (by omega)]
 · rw [if_neg (by omega)]
theorem pl_twice (hi : i < H.n) : (mlook (H.id i) (plM H i)).isSome = !decide (atH H (H.id i) = (i : Int)) := by
 rw [mlook_pl]
 have h1 := at_first (H := H) hi
 have h2 := fst1_lt (p := fun j => decide (H.id j = H.id i)) (n := i)
 by_cases h : atH H (H.id i) = (i : Int)
 · rw [if_neg]
   · simp [h]
   · intro h3
     obtain ⟨j, hj, e⟩ := h2.1 h3
     exact h1.1 h j hj (by simpa using e)
 · rw [if_pos]
   · simp [h]
   · refine h2.2 ?_
     have h3 : ¬ ∀ j, j < i → H.id j ≠ H.id i := fun h3 => h (h1.2 h3)
     simp only [Classical.not_forall] at h3
     obtain ⟨j, hj, e⟩ := h3
     exact ⟨j, hj, by simpa using e⟩
theorem pl_next (h : (mlook (H.id i) (plM H i)).isSome = false) : mput (H.id i) (.int .i64 (i : Int)) (plM H i) = plM H (i + 1) := by
 rw [plM_succ]
 exact mput_new (by simpa using h)
theorem herd_no1 (hi : i < H.n) (h : an1B H i = false) : herdB H = false := by
 cases h2 : herdB H with
 | false => rfl
 | true =>
  unfold herdB at h2
  simp only [Bool.and_eq_true] at h2
  rw [allB_iff.1 h2.1.1.2 i hi] at h; cases h
theorem herd_no2 (hi : i < H.n) (h : an2B H i = false) : herdB H = false := by
 cases h2 : herdB H with
 | false => rfl
 | true =>
  unfold herdB at h2
  simp only [Bool.and_eq_true] at h2
  rw [allB_iff.1 h2.1.2 i hi] at h; cases h
theorem herd_no3 (hi : i < H.n) (h : endB H i = false) : herdB H = false := by
 cases h2 : herdB H with
 | false => rfl
 | true =>
  unfold herdB at h2
  simp only [Bool.and_eq_true] at h2
  rw [allB_iff.1 h2.2 i hi] at h; cases h
theorem herd_no0 (h : (16 : Int) < (H.n : Int)) : herdB H = false := by
 unfold herdB
 rw [decide_eq_false (by omega)]
 rfl
theorem herd_yes (h0 : (H.n : Int) ≤ 16) (h1 : ∀ i, i < H.n → an1B H i = true) (h2 : ∀ i, i < H.n → an2B H i = true) (h3 : ∀ i, i < H.n → endB H i = true) : herdB H = true := by
 unfold herdB
 simp only [Bool.and_eq_true, decide_eq_true_eq, allB_iff]
 exact ⟨⟨⟨h0, h1⟩, h2⟩, h3⟩
end
structure HIn (w : World) (A : Option Addr) (H : Hd) (a : Nat → Option Addr) (c : Nat → Nat) : Prop where
 hn : H.n ≤ 1000
 hR : RdR w 5 A H.n (fun i => anL H a c i)
 hM : ∀ i, i < H.n → RdR w 2 (a i) (H.ml i) (fun k => spL (H.sp i k) (H.sg i k))
 hl : ∀ i, i < H.n → H.ml i ≤ 1000
theorem HIn.sat {w w' : World} {A : Option Addr} {H : Hd} {a : Nat → Option Addr} {c : Nat → Nat} {K : List Fact} (h : HIn w A H a c) (hs : Sat [] w K w') : HIn w' A H a c :=
 ⟨h.hn, h.hR.sat hs Apart.nil, fun i hi => (h.hM i hi).sat hs Apart.nil, h.hl⟩
abbrev OpX := (Nat × Nat) × (Option Addr × Nat) × (Option Addr × Nat)
def opK (H : Hd) (A : Option Addr) (cp : Nat) (x : OpX) : List Fact := [.blk x.1.1 106 [.slice A H.n cp, .map (some x.1.2), .slice x.2.1.1 H.n x.2.1.2, .slice x.2.2.1 H.n x.2.2.2], .obj x.1.2 (mapO .i64 (plM H H.n)), .own x.2.1.1 H.n x.2.1.2 3 1 (fun j => [.int .i64 (moH H j)]), .own x.2.2.1 H.n x.2.2.2 111 8 (fun j => octL (sgH H j))]
theorem octL_congr {g h : Nat → Int} (e : ∀ s, s < 8 → g s = h s) : octL g = octL h := by
 unfold octL
 rw [e 0 (by omega), e 1 (by omega), e 2 (by omega), e 3 (by omega), e 4 (by omega), e 5 (by omega), e 6 (by omega), e 7 (by omega)]
def badF : Fact := .obj 0 (.cells #[] 0 (0, 0))
theorem no_bad {S : List Nat} {w0 w : World} {K : List Fact} (h : Sat S w0 K w) (hm : badF ∈ K) : False := by
 have := (h.holds _ hm).2
 cases this
theorem cat_rows {i j : Nat} {r : Nat → List Value} {v : List Value} (h : v = r i) (hj : j < i + 1) : catR i r (fun _ => v) j = r j := by
 unfold catR
 split
 · rfl
 · rw [h, show j = i by omega]
set_option maxRecDepth 100000 in
set_option maxHeartbeats 4000000 in
theorem open_any {w : World} {A : Option Addr} {cp : Nat} {H : Hd} {a : Nat → Option Addr} {c : Nat → Nat} (hI : HIn w A H a c) :
  CallsK Tryz.prog 69 #[.slice A H.n cp] [] w OpX (fun x => if herdB H then .tuple #[.pointer (some ⟨x.1.1, 0, none⟩), .int .i64 0] else .tuple #[.pointer none, .int .i64 20]) (fun x => if herdB H then opK H A cp x else []) := by
 have hn := hI.hn
 have hR := hI.hR
 refine K_enterM (S := []) (K := []) Tryz.func69 rfl Tryz.ntmps69 rfl (Sat.start _) ?_
 refine TW.seqD fun Y1 hY1 => ?_
 refine TW.region ?_
 refine TL.m Mk.bx ?_
 intro b1
 refine TL.m (Mk.al ty_zr96) ?_
 intro b2
 refine TL.m (Mk.al ty_zr32) ?_
 intro b3
 refine TL.nil ?_
 refine TQ.thenN (hY1 _ _ _ ?_)
 refine TW.seqD fun Y2 hY2 => ?_
 refine TW.region ?_
 refine TL.p (Pu.ld ty_sc22) ?_
 refine TL.mm (kk := .i64) ?_
 intro b4
 refine TL.p Pu.bd ?_
 refine TL.m Mk.bx ?_
 intro b5
 refine TL.p Pu.as ?_
 refine TL.nil ?_
 refine TQ.thenN (hY2 _ _ _ ?_)
 refine TW.seqD fun Y3 hY3 => ?_
 refine TW.seqD fun Y4 hY4 => ?_
 refine TW.region ?_
 refine TL.p (Pu.ld ty_sc22) ?_
 refine TL.p (Pu.ln Tryz.underlying22) ?_
 refine TL.p Pu.gt ?_
 refine TL.nil ?_
 refine TQ.thenN (hY4 _ _ _ ?_)
 refine TW.cond rfl (fun hc0 => ?_) (fun hc0 => ?_)
 try simp only [zcb9] at hc0
 refine TW.seqD fun Y5 hY5 => ?_
 refine TW.region ?_
 first | refine TL.st ty_sz96 ?_ | refine TL.se ty_sz96 ?_
 first | refine TL.st ty_sz32 ?_ | refine TL.se ty_sz32 ?_
 refine TL.nil ?_
 refine TQ.thenN (hY5 _ _ _ ?_)
 refine TW.ret ?_
 refine TQ.thenR ?_
 refine TQ.retM0 Tryz.results69 ((RV.c1 ty_sc96 (RV.c1 ty_sc32 .nil))) ?_
 have hno := herd_no0 (H := H) hc0
 exact fun w hw => ⟨((0, 0), (none, 0), (none, 0)), by show Ending.returned _ = Ending.returned (if herdB H = true then _ else _); rw [hno]; rfl, by show Sat _ _ (if herdB H = true then _ else _) _; rw [hno]; exact hw.sub KSub.nil⟩
 try simp only [zcb9] at hc0
 have h16 : ¬ (16 : Int) < (H.n : Int) := by omega
 refine TW.skip ?_
 refine TQ.thenN (hY3 _ _ _ ?_)
 refine TW.seqD fun Y6 hY6 => ?_
 refine TW.seqD fun Y7 hY7 => ?_
 refine TW.region ?_
 refine TL.p (Pu.ld ty_sc22) ?_
 refine TL.p (Pu.ln Tryz.underlying22) ?_
 refine TL.p Pu.mv ?_
 refine TL.nil ?_
 refine TQ.thenN (hY7 _ _ _ ?_)
 refine TW.block ?_
 refine TW.loop3 (fun (i : Nat) (Ak : Option Addr) (ck : Nat) => [(26, .int .i64 (i : Int)), (25, .int .i64 (H.n : Int)), (24, .slice A H.n cp), (4, .pointer (some ⟨b5, 0, none⟩)), (1, .pointer (some ⟨b1, 0, none⟩)), (2, .pointer (some ⟨b2, 0, none⟩)), (3, .pointer (some ⟨b3, 0, none⟩))]) (fun i Ak ck => .blk b5 106 [.slice A H.n cp, .map (some b4), .slice none 0 0, .slice Ak i ck] :: .obj b4 (mapO .i64 (plM H i)) :: .own Ak i ck 111 8 (fun j => octL (sgH H j)) :: .blk b1 22 [.slice A H.n cp] :: .blk b2 96 [.pointer none] :: .blk b3 32 [.int .i64 0] :: []) (fun i Ak ck => i ≤ H.n ∧ ∀ j, j < i → an1B H j = true) (fun i Ak ck => H.n - i) 0 none 0 fs9 ?_ ?_ ?_
 exact KSub.cons pk9 (KSub.cons pk9 (KSub.nilOwn (KSub.cons pk9 (KSub.cons pk9 (KSub.cons pk9 KSub.nil)))))
 exact ⟨Nat.zero_le _, fun j hj => by omega⟩
 rintro i Ak ck ⟨hi, h1⟩ Z0 hZ0
 refine TW.seqD fun Y8 hY8 => ?_
 refine TW.region ?_
 refine TL.p Pu.lt ?_
 refine TL.nil ?_
 refine TQ.thenN (hY8 _ _ _ ?_)
 refine TW.seqD fun Y9 hY9 => ?_
 refine TW.cond rfl (fun hc1 => ?_) (fun hc1 => ?_)
 try simp only [zcb9] at hc1
 have hin : i < H.n := by omega
 refine TW.skip ?_
 refine TQ.thenN (hY9 _ _ _ ?_)
 refine TW.seqD fun Y10 hY10 => ?_
 refine TW.block ?_
 refine TW.seqD fun Y11 hY11 => ?_
 refine TW.region ?_
 refine TL.p Pu.mv ?_
 refine TL.p (Pu.el ty_et22) ?_
 refine TL.p (Pu.lds ty_ag46) ?_
 refine TL.m (Mk.al ty_zr46) ?_
 intro b6
 refine TL.p Pu.as ?_
 first | refine TL.st ty_sz46 ?_ | refine TL.se ty_sz46 ?_
 refine TL.nil ?_
 refine TQ.thenN (hY11 _ _ _ ?_)
 refine TW.seqD fun Y12 hY12 => ?_
 refine TW.region ?_
 refine TL.p (Pu.lds ty_ag46) ?_
 refine TL.call (M := []) rfl (enters Tryz.func102 rfl rfl) (List.Perm.refl _) rfl (fun w hw => by
   exact signed_any (H := H) (i := i) (hI.hl i hin) ((hI.hM i hin).sat hw Apart.nil)) ?_
 rintro ⟨gs, hgs⟩
 refine TL.p Pu.mv ?_
 refine TL.p Pu.ex ?_
 refine TL.p Pu.ex ?_
 refine TL.m (Mk.al ty_zr111) ?_
 intro b7
 first | refine TL.st ty_sz111 ?_ | refine TL.se ty_sz111 ?_
 refine TL.p Pu.as ?_
 refine TL.nil ?_
 refine TQ.thenN (hY12 _ _ _ ?_)
 refine TW.seqD fun Y13 hY13 => ?_
 refine TW.seqD fun Y14 hY14 => ?_
 refine TW.np ?_
 refine TW.dw 12 ?_
 refine RK.tk Pu.mv ?_
 refine RK.tk (by first | exact Pu.nn | exact Pu.nc) ?_
 refine RK.tk (by first | exact Pu.fb ty_fa106_1 | exact Pu.fe ty_fa106_1) ?_
 refine RK.tk (Pu.ld ty_sc39) ?_
 refine RK.tk (by first | exact Pu.fb ty_fa46_0 | exact Pu.fe ty_fa46_0) ?_
 refine RK.tk (Pu.ld ty_sc3) ?_
 refine RK.tk (Pu.lkV (mlook (H.id i) (plM H i) |>.getD (.int .i64 0)) (!decide (atH H (H.id i) = (i : Int))) ty_mp39 ty_zv3 rfl (pl_twice hin)) ?_
 refine RK.tk Pu.mv ?_
 refine RK.tk Pu.ex ?_
 refine RK.tk Pu.ex ?_
 refine RK.tk Pu.as ?_
 refine RK.tk Pu.as ?_
 refine RK.ch [] ?_ trivial
 refine WK.n ?_
 refine TL.nil ?_
 refine TQ.npN ?_
 refine TQ.thenN (hY14 _ _ _ ?_)
 refine TW.seqD fun Y15 hY15 => ?_
 refine TW.join [(64, .bool (!an1B H i))] ?_ (fun hJ1 => ?_)
 refine TQ.thenN (hY15 _ _ _ ?_)
 refine TW.cond rfl (fun hc2 => ?_) (fun hc2 => ?_)
 try simp only [zcb9] at hc2
 have hno := herd_no1 hin hc2
 refine TW.seqD fun Y16 hY16 => ?_
 refine TW.region ?_
 first | refine TL.st ty_sz96 ?_ | refine TL.se ty_sz96 ?_
 first | refine TL.st ty_sz32 ?_ | refine TL.se ty_sz32 ?_
 refine TL.nil ?_
 refine TQ.thenN (hY16 _ _ _ ?_)
 refine TW.ret ?_
 refine TQ.thenR ?_
 refine TQ.blkR ?_
 refine TQ.thenR ?_
 refine TQ.thenR ?_
 refine TQ.blkR ?_
 refine TQ.thenR ?_
 refine TQ.retM0 Tryz.results69 ((RV.c1 ty_sc96 (RV.c1 ty_sc32 .nil))) ?_
 exact fun w hw => ⟨((0, 0), (none, 0), (none, 0)), by show Ending.returned _ = Ending.returned (if herdB H = true then _ else _); rw [hno]; rfl, by show Sat _ _ (if herdB H = true then _ else _) _; rw [hno]; exact hw.sub KSub.nil⟩
 try simp only [zcb9] at hc2
 have hgood : an1B H i = true := hc2
 have hparts := hgood
 unfold an1B at hparts
 simp only [Bool.and_eq_true, decide_eq_true_eq] at hparts
 have htw : (mlook (H.id i) (plM H i)).isSome = false := by rw [pl_twice hin, hparts.1.1.2]; simp
 have hge : octL gs = octL (sgH H i) := octL_congr (hgs hparts.2)
 refine TW.skip ?_
 refine TQ.thenN (hY13 _ _ _ ?_)
 refine TW.seqD fun Y17 hY17 => ?_
 refine TW.np ?_
 refine TW.dw 7 ?_
 refine RK.tk Pu.mv ?_
 refine RK.tk (by first | exact Pu.nn | exact Pu.nc) ?_
 refine RK.tk (by first | exact Pu.fb ty_fa106_1 | exact Pu.fe ty_fa106_1) ?_
 refine RK.tk (Pu.ld ty_sc39) ?_
 refine RK.tk (by first | exact Pu.fb ty_fa46_0 | exact Pu.fe ty_fa46_0) ?_
 refine RK.tk (Pu.ld ty_sc3) ?_
 refine RK.tk Pu.mv ?_
 refine RK.ch [] ?_ trivial
 refine WK.n ?_
 refine TL.mu ty_mp39 ?_
 refine TL.nil ?_
 refine TQ.npN ?_
 refine TQ.thenN (hY17 _ _ _ ?_)
 refine TW.np ?_
 refine TW.ex0k [.blk b7 111 (octL gs)] ?_
 refine RG.tk 0 rfl Pu.mv ?_
 refine RG.tk 1 rfl Pu.mv ?_
 refine RG.tk 5 rfl (Pu.lds ty_ag111) ?_
 refine RG.a2 2 6 rfl rfl (fun X2 hX2 => ?_) (fun X6 hX6 => ?_)
 refine TL.p (by first | exact Pu.nn | exact Pu.nc) ?_
 refine TL.nil ?_
 refine TQ.nxt (hX2 _ _ hl9 ?_)
 refine RG.tk 3 rfl (by first | exact Pu.fb ty_fa106_3 | exact Pu.fe ty_fa106_3) ?_
 refine RG.a2 4 6 rfl rfl (fun X4 hX4 => ?_) (fun X6 hX6 => ?_)
 refine TL.p (Pu.ld ty_sc104) ?_
 refine TL.nil ?_
 refine TQ.nxt (hX4 _ _ hl9 ?_)
 refine RG.a1 6 rfl (fun X6 hX6 => ?_)
 refine TL.m Mk.bl ?_
 intro b8
 refine TL.nil ?_
 refine TQ.nxt (hX6 _ _ hl9 ?_)
 refine RG.a1 7 rfl (fun X7 hX7 => ?_)
 first | refine TL.a0 ty_et104 ?_ | refine TL.ap ty_et104 ?_
 intro A9 c9
 refine TL.nil ?_
 refine TQ.nxt (hX7 _ _ hl9 ?_)
 refine RG.a1 8 rfl (fun X8 hX8 => ?_)
 refine TL.p (by first | exact Pu.nn | exact Pu.nc) ?_
 refine TL.nil ?_
 refine TQ.nxt (hX8 _ _ hl9 ?_)
 refine RG.tk 9 rfl (by first | exact Pu.fb ty_fa106_3 | exact Pu.fe ty_fa106_3) ?_
 refine RG.a1 10 rfl (fun X10 hX10 => ?_)
 first | refine TL.st ty_sz104 ?_ | refine TL.se ty_sz104 ?_
 refine TL.nil ?_
 refine TQ.nxt (hX10 _ _ hl9 ?_)
 refine RG.nil ?_ (by kernel_rfl)
 refine TQ.npN ?_
 refine TQ.blkN ?_
 refine TQ.thenN (hY10 _ _ _ ?_)
 refine TW.region ?_
 first
  | (generalize A9 = AN; generalize c9 = cN)
  | (generalize A11 = AN; generalize c11 = cN)
  | (generalize A13 = AN; generalize c13 = cN)
 refine TL.p Pu.ad ?_
 refine TL.p Pu.mv ?_
 refine TL.nil ?_
 refine TQ.thenN (hZ0 (i + 1) AN cN _ _ ?_ ?_ fs9 ?_)
 refine ⟨by omega, fun j hj => ?_⟩
 by_cases e : j = i
 subst e; exact hgood
 exact h1 j (by omega)
 exact zom9
 rw [pl_next htw]
 exact KSub.cons pk9 (KSub.cons pk9 (KSub.own pk9 (fun j hj => by first | exact cat_rows (r := fun j => octL (sgH H j)) hge hj | exact cat_rows (r := fun j => octL (sgH H j)) rfl hj) (KSub.cons pk9 (KSub.cons pk9 (KSub.cons pk9 KSub.nil)))))
 refine TL.m Mk.bl ?_
 intro b10
 refine TL.nil ?_
 refine TQ.nxt (hX6 _ _ hl9 ?_)
 refine RG.a1 4 rfl (fun X4 hX4 => ?_)
 refine TL.p (Pu.ld ty_sc104) ?_
 refine TL.nil ?_
 refine TQ.nxt (hX4 _ _ hl9 ?_)
 refine RG.a1 7 rfl (fun X7 hX7 => ?_)
 first | refine TL.a0 ty_et104 ?_ | refine TL.ap ty_et104 ?_
 intro A11 c11
 refine TL.nil ?_
 refine TQ.nxt (hX7 _ _ hl9 ?_)
 refine RG.a1 8 rfl (fun X8 hX8 => ?_)
 refine TL.p (by first | exact Pu.nn | exact Pu.nc) ?_
 refine TL.nil ?_
 refine TQ.nxt (hX8 _ _ hl9 ?_)
 refine RG.tk 9 rfl (by first | exact Pu.fb ty_fa106_3 | exact Pu.fe ty_fa106_3) ?_
 refine RG.a1 10 rfl (fun X10 hX10 => ?_)
 first | refine TL.st ty_sz104 ?_ | refine TL.se ty_sz104 ?_
 refine TL.nil ?_
 refine TQ.nxt (hX10 _ _ hl9 ?_)
 refine RG.nil ?_ (by kernel_rfl)
 refine TQ.npN ?_
 refine TQ.blkN ?_
 refine TQ.thenN (hY10 _ _ _ ?_)
 refine TW.region ?_
 first
  | (generalize A9 = AN; generalize c9 = cN)
  | (generalize A11 = AN; generalize c11 = cN)
  | (generalize A13 = AN; generalize c13 = cN)
 refine TL.p Pu.ad ?_
 refine TL.p Pu.mv ?_
 refine TL.nil ?_
 refine TQ.thenN (hZ0 (i + 1) AN cN _ _ ?_ ?_ fs9 ?_)
 refine ⟨by omega, fun j hj => ?_⟩
 by_cases e : j = i
 subst e; exact hgood
 exact h1 j (by omega)
 exact zom9
 rw [pl_next htw]
 exact KSub.cons pk9 (KSub.cons pk9 (KSub.own pk9 (fun j hj => by first | exact cat_rows (r := fun j => octL (sgH H j)) hge hj | exact cat_rows (r := fun j => octL (sgH H j)) rfl hj) (KSub.cons pk9 (KSub.cons pk9 (KSub.cons pk9 KSub.nil)))))
 refine TL.m Mk.bl ?_
 intro b12
 refine TL.nil ?_
 refine TQ.nxt (hX6 _ _ hl9 ?_)
 refine RG.a1 2 rfl (fun X2 hX2 => ?_)
 refine TL.p (by first | exact Pu.nn | exact Pu.nc) ?_
 refine TL.nil ?_
 refine TQ.nxt (hX2 _ _ hl9 ?_)
 refine RG.tk 3 rfl (by first | exact Pu.fb ty_fa106_3 | exact Pu.fe ty_fa106_3) ?_
 refine RG.a1 4 rfl (fun X4 hX4 => ?_)
 refine TL.p (Pu.ld ty_sc104) ?_
 refine TL.nil ?_
 refine TQ.nxt (hX4 _ _ hl9 ?_)
 refine RG.a1 7 rfl (fun X7 hX7 => ?_)
 first | refine TL.a0 ty_et104 ?_ | refine TL.ap ty_et104 ?_
 intro A13 c13
 refine TL.nil ?_
 refine TQ.nxt (hX7 _ _ hl9 ?_)
 refine RG.a1 8 rfl (fun X8 hX8 => ?_)
 refine TL.p (by first | exact Pu.nn | exact Pu.nc) ?_
 refine TL.nil ?_
 refine TQ.nxt (hX8 _ _ hl9 ?_)
 refine RG.tk 9 rfl (by first | exact Pu.fb ty_fa106_3 | exact Pu.fe ty_fa106_3) ?_
 refine RG.a1 10 rfl (fun X10 hX10 => ?_)
 first | refine TL.st ty_sz104 ?_ | refine TL.se ty_sz104 ?_
 refine TL.nil ?_
 refine TQ.nxt (hX10 _ _ hl9 ?_)
 refine RG.nil ?_ (by kernel_rfl)
 refine TQ.npN ?_
 refine TQ.blkN ?_
 refine TQ.thenN (hY10 _ _ _ ?_)
 refine TW.region ?_
 first
  | (generalize A9 = AN; generalize c9 = cN)
  | (generalize A11 = AN; generalize c11 = cN)
  | (generalize A13 = AN; generalize c13 = cN)
 refine TL.p Pu.ad ?_
 refine TL.p Pu.mv ?_
 refine TL.nil ?_
 refine TQ.thenN (hZ0 (i + 1) AN cN _ _ ?_ ?_ fs9 ?_)
 refine ⟨by omega, fun j hj => ?_⟩
 by_cases e : j = i
 subst e; exact hgood
 exact h1 j (by omega)
 exact zom9
 rw [pl_next htw]
 exact KSub.cons pk9 (KSub.cons pk9 (KSub.own pk9 (fun j hj => by first | exact cat_rows (r := fun j => octL (sgH H j)) hge hj | exact cat_rows (r := fun j => octL (sgH H j)) rfl hj) (KSub.cons pk9 (KSub.cons pk9 (KSub.cons pk9 KSub.nil)))))
 refine TW.region ?_
 refine TL.p Pu.mv ?_
 refine TL.p Pu.mv ?_
 refine TL.guard (t := 47) rfl (fun hg1 => ?_) (fun hg1 => ?_)
 try simp only [zgb9] at hg1
 refine TL.gs ?_
 refine TL.gs ?_
 refine TL.p Pu.kt ?_
 refine TL.p Pu.mv ?_
 refine TL.gs ?_
 refine TL.gs ?_
 refine TL.gs ?_
 refine TL.gs ?_
 refine TL.gs ?_
 refine TL.p Pu.kt ?_
 refine TL.p Pu.mv ?_
 refine TL.gs ?_
 refine TL.gs ?_
 refine TL.gs ?_
 refine TL.gs ?_
 refine TL.gs ?_
 refine TL.p Pu.kt ?_
 refine TL.nil ?_
 exact TQ.sub (by repeat (first | exact trivial | refine ⟨rfl, ?_⟩ | refine ⟨trivial, ?_⟩ | refine ⟨(by show some (Value.bool _) = some (Value.bool _); first | (simp [hg1, an1B]; done) | (refine congrArg (fun z => some (Value.bool z)) (Bool.eq_iff_iff.2 ?_); simp [hg1, an1B]; omega)), ?_⟩)) kt9 hJ1
 try simp only [zgb9] at hg1
 refine TL.gd Pu.mv ?_
 refine TL.gd Pu.no ?_
 refine TL.p Pu.kf ?_
 refine TL.p Pu.mv ?_
 refine TL.guard (t := 51) rfl (fun hg2 => ?_) (fun hg2 => ?_)
 try simp only [zgb9] at hg2
 refine TL.gs ?_
 refine TL.gs ?_
 refine TL.gs ?_
 refine TL.gs ?_
 refine TL.gs ?_
 refine TL.p Pu.kt ?_
 refine TL.p Pu.mv ?_
 refine TL.gs ?_
 refine TL.gs ?_
 refine TL.gs ?_
 refine TL.gs ?_
 refine TL.gs ?_
 refine TL.p Pu.kt ?_
 refine TL.nil ?_
 exact TQ.sub (by repeat (first | exact trivial | refine ⟨rfl, ?_⟩ | refine ⟨trivial, ?_⟩ | refine ⟨(by show some (Value.bool _) = some (Value.bool _); first | (simp [hg1, hg2, an1B]; done) | (refine congrArg (fun z => some (Value.bool z)) (Bool.eq_iff_iff.2 ?_); simp [hg1, hg2, an1B]; omega)), ?_⟩)) kt9 hJ1
 try simp only [zgb9] at hg2
 refine TL.gd (by first | exact Pu.fb ty_fa46_0 | exact Pu.fe ty_fa46_0) ?_
 refine TL.gd (Pu.ld ty_sc3) ?_
 refine TL.gm Mk.bl ?_
 intro b14
 refine TL.cr rfl (enters Tryz.func48 rfl rfl) (fun w hw => by
   exact bInOne_any _ _ _ (hw.holds _ (List.mem_cons_self ..))) ?_
 refine TL.gd Pu.no ?_
 refine TL.p Pu.kf ?_
 refine TL.p Pu.mv ?_
 refine TL.guard (t := 58) rfl (fun hg3 => ?_) (fun hg3 => ?_)
 try simp only [zgb9] at hg3
 refine TL.gs ?_
 refine TL.gs ?_
 refine TL.gs ?_
 refine TL.gs ?_
 refine TL.gs ?_
 refine TL.p Pu.kt ?_
 refine TL.nil ?_
 exact TQ.sub (by repeat (first | exact trivial | refine ⟨rfl, ?_⟩ | refine ⟨trivial, ?_⟩ | refine ⟨(by show some (Value.bool _) = some (Value.bool _); first | (simp [hg1, hg2, hg3, an1B]; done) | (refine congrArg (fun z => some (Value.bool z)) (Bool.eq_iff_iff.2 ?_); simp [hg1, hg2, hg3, an1B]; omega)), ?_⟩)) kt9 hJ1
 try simp only [zgb9] at hg3
 refine TL.gd (by first | exact Pu.fb ty_fa46_2 | exact Pu.fe ty_fa46_2) ?_
 refine TL.gd (Pu.lds ty_ag36) ?_
 refine TL.gm Mk.bl ?_
 intro b15
 refine TL.cr rfl (enters Tryz.func72 rfl rfl) (fun w hw => by
   exact bProperOne_any _ _ _ _ (hw.holds _ (List.mem_cons_self ..))) ?_
 refine TL.gd Pu.no ?_
 refine TL.p Pu.kf ?_
 refine TL.nil ?_
 exact TQ.sub (by repeat (first | exact trivial | refine ⟨rfl, ?_⟩ | refine ⟨trivial, ?_⟩ | refine ⟨(by show some (Value.bool _) = some (Value.bool _); first | (simp [hg1, hg2, hg3, an1B]; done) | (refine congrArg (fun z => some (Value.bool z)) (Bool.eq_iff_iff.2 ?_); simp [hg1, hg2, hg3, an1B]; omega)), ?_⟩)) kt9 hJ1
 try simp only [zcb9] at hc1
 obtain rfl : i = H.n := by omega
 refine TW.exit ?_
 refine TQ.thenX ?_
 refine TQ.thenX ?_
 refine TQ.blkX ?_
 refine TQ.thenN (hY6 _ _ _ ?_)
 refine TW.seqD fun Y18 hY18 => ?_
 refine TW.seqD fun Y19 hY19 => ?_
 refine TW.region ?_
 refine TL.p (Pu.ld ty_sc22) ?_
 refine TL.p (Pu.ln Tryz.underlying22) ?_
 refine TL.p Pu.mv ?_
 refine TL.nil ?_
 refine TQ.thenN (hY19 _ _ _ ?_)
 refine TW.block ?_
 refine TW.loop3 (fun (i : Nat) (Am : Option Addr) (cm : Nat) => [(85, .int .i64 (i : Int)), (84, .int .i64 (H.n : Int)), (83, .slice A H.n cp), (4, .pointer (some ⟨b5, 0, none⟩)), (1, .pointer (some ⟨b1, 0, none⟩)), (2, .pointer (some ⟨b2, 0, none⟩)), (3, .pointer (some ⟨b3, 0, none⟩))]) (fun i Am cm => .blk b5 106 [.slice A H.n cp, .map (some b4), .slice Am i cm, .slice Ak H.n ck] :: .obj b4 (mapO .i64 (plM H H.n)) :: .own Am i cm 3 1 (fun j => [.int .i64 (moH H j)]) :: .own Ak H.n ck 111 8 (fun j => octL (sgH H j)) :: .blk b1 22 [.slice A H.n cp] :: .blk b2 96 [.pointer none] :: .blk b3 32 [.int .i64 0] :: []) (fun i Am cm => i ≤ H.n ∧ ∀ j, j < i → an2B H j = true) (fun i Am cm => H.n - i) 0 none 0 fs9 ?_ ?_ ?_
 exact KSub.cons pk9 (KSub.cons pk9 (KSub.nilOwn (KSub.cons pk9 (KSub.cons pk9 (KSub.cons pk9 (KSub.cons pk9 KSub.nil))))))
 exact ⟨Nat.zero_le _, fun j hj => by omega⟩
 rintro i Am cm ⟨hi, h2⟩ Z1 hZ1
 refine TW.seqD fun Y20 hY20 => ?_
 refine TW.region ?_
 refine TL.p Pu.lt ?_
 refine TL.nil ?_
 refine TQ.thenN (hY20 _ _ _ ?_)
 refine TW.seqD fun Y21 hY21 => ?_
 refine TW.cond rfl (fun hc3 => ?_) (fun hc3 => ?_)
 try simp only [zcb9] at hc3
 have hin : i < H.n := by omega
 have hlk := pl_look (H := H) (x := H.mo i)
 have hv : (mlook (H.mo i) (plM H H.n)).getD (.int .i64 0) = .int .i64 (if 0 ≤ atH H (H.mo i) then atH H (H.mo i) else 0) := by
  rw [hlk]
  by_cases h : 0 ≤ atH H (H.mo i)
  rw [if_pos h, if_pos h]; rfl
  rw [if_neg h, if_neg h]; rfl
 have hs : (mlook (H.mo i) (plM H H.n)).isSome = decide (0 ≤ atH H (H.mo i)) := by
  rw [hlk]
  by_cases h : 0 ≤ atH H (H.mo i)
  rw [if_pos h, decide_eq_true h]; rfl
  rw [if_neg h, decide_eq_false h]; rfl
 refine TW.skip ?_
 refine TQ.thenN (hY21 _ _ _ ?_)
 refine TW.seqD fun Y22 hY22 => ?_
 refine TW.block ?_
 refine TW.seqD fun Y23 hY23 => ?_
 refine TW.region ?_
 refine TL.p (Pu.el ty_et22) ?_
 refine TL.p (Pu.lds ty_ag46) ?_
 refine TL.m (Mk.al ty_zr46) ?_
 intro b16
 first | refine TL.st ty_sz46 ?_ | refine TL.se ty_sz46 ?_
 refine TL.nil ?_
 refine TQ.thenN (hY23 _ _ _ ?_)
 refine TW.seqD fun Y24 hY24 => ?_
 refine TW.np ?_
 refine TW.dw 12 ?_
 refine RK.tk Pu.mv ?_
 refine RK.tk (by first | exact Pu.nn | exact Pu.nc) ?_
 refine RK.tk (by first | exact Pu.fb ty_fa106_1 | exact Pu.fe ty_fa106_1) ?_
 refine RK.tk (Pu.ld ty_sc39) ?_
 refine RK.tk (by first | exact Pu.fb ty_fa46_1 | exact Pu.fe ty_fa46_1) ?_
 refine RK.tk (Pu.ld ty_sc3) ?_
 refine RK.tk (Pu.lkV (.int .i64 (if 0 ≤ atH H (H.mo i) then atH H (H.mo i) else 0)) (decide (0 ≤ atH H (H.mo i))) ty_mp39 ty_zv3 hv hs) ?_
 refine RK.tk Pu.mv ?_
 refine RK.tk Pu.ex ?_
 refine RK.tk Pu.ex ?_
 refine RK.tk Pu.as ?_
 refine RK.tk Pu.as ?_
 refine RK.ch [] ?_ trivial
 refine WK.n ?_
 refine TL.nil ?_
 refine TQ.npN ?_
 refine TQ.thenN (hY24 _ _ _ ?_)
 refine TW.seqD fun Y25 hY25 => ?_
 refine TW.seqD fun Y26 hY26 => ?_
 refine TW.region ?_
 refine TL.p (by first | exact Pu.fb ty_fa46_1 | exact Pu.fe ty_fa46_1) ?_
 refine TL.p (Pu.ld ty_sc3) ?_
 refine TL.p Pu.eq ?_
 refine TL.nil ?_
 refine TQ.thenN (hY26 _ _ _ ?_)
 refine TW.cond rfl (fun hc4 => ?_) (fun hc4 => ?_)
 try simp only [zcb9] at hc4
 have hm1 : H.mo i = -1 := hc4
 have hmo : moH H i = -1 := if_pos hm1
 have hg2 : an2B H i = true := by unfold an2B; rw [decide_eq_true hm1]; rfl
 refine TW.region ?_
 refine TL.p Pu.as ?_
 refine TL.p Pu.as ?_
 refine TL.nil ?_
 refine TQ.thenN (hY25 _ _ _ ?_)
 refine TW.seqD fun Y27 hY27 => ?_
 refine TW.seqD fun Y28 hY28 => ?_
 refine TW.region ?_
 refine TL.p Pu.mv ?_
 refine TL.p Pu.no ?_
 refine TL.nil ?_
 refine TQ.thenN (hY28 _ _ _ ?_)
 refine TW.condF rfl rfl ?_
 refine TW.skip ?_
 refine TQ.thenN (hY27 _ _ _ ?_)
 refine TW.region ?_
 refine TL.p Pu.mv ?_
 refine TL.p Pu.mv ?_
 refine TL.p (by first | exact Pu.nn | exact Pu.nc) ?_
 refine TL.p (by first | exact Pu.fb ty_fa106_2 | exact Pu.fe ty_fa106_2) ?_
 refine TL.p (Pu.ld ty_sc28) ?_
 refine TL.p Pu.mv ?_
 refine TL.m Mk.bl ?_
 intro b17
 first | refine TL.a0 ty_et28 ?_ | refine TL.ap ty_et28 ?_
 intro A18 c18
 refine TL.p (by first | exact Pu.nn | exact Pu.nc) ?_
 refine TL.p (by first | exact Pu.fb ty_fa106_2 | exact Pu.fe ty_fa106_2) ?_
 first | refine TL.st ty_sz28 ?_ | refine TL.se ty_sz28 ?_
 refine TL.nil ?_
 refine TQ.blkN ?_
 refine TQ.thenN (hY22 _ _ _ ?_)
 refine TW.region ?_
 first
  | (generalize A18 = AN; generalize c18 = cN)
  | (generalize A20 = AN; generalize c20 = cN)
 refine TL.p Pu.ad ?_
 refine TL.p Pu.mv ?_
 refine TL.nil ?_
 refine TQ.thenN (hZ1 (i + 1) AN cN _ _ ?_ ?_ fs9 ?_)
 refine ⟨by omega, fun j hj => ?_⟩
 by_cases e : j = i
 subst e; exact hg2
 exact h2 j (by omega)
 exact zom9
 exact KSub.cons pk9 (KSub.cons pk9 (KSub.own pk9 (fun j hj => cat_rows (r := fun j => [Value.int .i64 (moH H j)]) (by first | (rw [hmo]; done) | (rw [hmo]; rfl) | rw [hmo, if_pos hc5]) hj) (KSub.cons pk9 (KSub.cons pk9 (KSub.cons pk9 (KSub.cons pk9 KSub.nil))))))
 try simp only [zcb9] at hc4
 have hm1 : H.mo i ≠ -1 := hc4
 refine TW.skip ?_
 refine TQ.thenN (hY25 _ _ _ ?_)
 refine TW.seqD fun Y29 hY29 => ?_
 refine TW.seqD fun Y30 hY30 => ?_
 refine TW.region ?_
 refine TL.p Pu.mv ?_
 refine TL.p Pu.no ?_
 refine TL.nil ?_
 refine TQ.thenN (hY30 _ _ _ ?_)
 refine TW.cond rfl (fun hc5 => ?_) (fun hc5 => ?_)
 try simp only [zcb9] at hc5
 have hno : herdB H = false := herd_no2 hin (by unfold an2B; rw [decide_eq_false hm1, decide_eq_false (show ¬ 0 ≤ atH H (H.mo i) by omega)]; rfl)
 refine TW.seqD fun Y31 hY31 => ?_
 refine TW.region ?_
 first | refine TL.st ty_sz96 ?_ | refine TL.se ty_sz96 ?_
 first | refine TL.st ty_sz32 ?_ | refine TL.se ty_sz32 ?_
 refine TL.nil ?_
 refine TQ.thenN (hY31 _ _ _ ?_)
 refine TW.ret ?_
 refine TQ.thenR ?_
 refine TQ.blkR ?_
 refine TQ.thenR ?_
 refine TQ.thenR ?_
 refine TQ.blkR ?_
 refine TQ.thenR ?_
 refine TQ.retM0 Tryz.results69 ((RV.c1 ty_sc96 (RV.c1 ty_sc32 .nil))) ?_
 exact fun w hw => ⟨((0, 0), (none, 0), (none, 0)), by show Ending.returned _ = Ending.returned (if herdB H = true then _ else _); rw [hno]; rfl, by show Sat _ _ (if herdB H = true then _ else _) _; rw [hno]; exact hw.sub KSub.nil⟩
 try simp only [zcb9] at hc5
 have hmo : moH H i = (if 0 ≤ atH H (H.mo i) then atH H (H.mo i) else 0) := by unfold moH; rw [if_neg hm1, if_pos hc5]
 have hg2 : an2B H i = true := by unfold an2B; rw [decide_eq_true hc5, Bool.or_true]
 refine TW.skip ?_
 refine TQ.thenN (hY29 _ _ _ ?_)
 refine TW.region ?_
 refine TL.p Pu.mv ?_
 refine TL.p Pu.mv ?_
 refine TL.p (by first | exact Pu.nn | exact Pu.nc) ?_
 refine TL.p (by first | exact Pu.fb ty_fa106_2 | exact Pu.fe ty_fa106_2) ?_
 refine TL.p (Pu.ld ty_sc28) ?_
 refine TL.p Pu.mv ?_
 refine TL.m Mk.bl ?_
 intro b19
 first | refine TL.a0 ty_et28 ?_ | refine TL.ap ty_et28 ?_
 intro A20 c20
 refine TL.p (by first | exact Pu.nn | exact Pu.nc) ?_
 refine TL.p (by first | exact Pu.fb ty_fa106_2 | exact Pu.fe ty_fa106_2) ?_
 first | refine TL.st ty_sz28 ?_ | refine TL.se ty_sz28 ?_
 refine TL.nil ?_
 refine TQ.blkN ?_
 refine TQ.thenN (hY22 _ _ _ ?_)
 refine TW.region ?_
 first
  | (generalize A18 = AN; generalize c18 = cN)
  | (generalize A20 = AN; generalize c20 = cN)
 refine TL.p Pu.ad ?_
 refine TL.p Pu.mv ?_
 refine TL.nil ?_
 refine TQ.thenN (hZ1 (i + 1) AN cN _ _ ?_ ?_ fs9 ?_)
 refine ⟨by omega, fun j hj => ?_⟩
 by_cases e : j = i
 subst e; exact hg2
 exact h2 j (by omega)
 exact zom9
 exact KSub.cons pk9 (KSub.cons pk9 (KSub.own pk9 (fun j hj => cat_rows (r := fun j => [Value.int .i64 (moH H j)]) (by first | (rw [hmo]; done) | (rw [hmo]; rfl) | rw [hmo, if_pos hc5]) hj) (KSub.cons pk9 (KSub.cons pk9 (KSub.cons pk9 (KSub.cons pk9 KSub.nil))))))
 try simp only [zcb9] at hc3
 obtain rfl : i = H.n := by omega
 refine TW.exit ?_
 refine TQ.thenX ?_
 refine TQ.thenX ?_
 refine TQ.blkX ?_
 refine TQ.thenN (hY18 _ _ _ ?_)
 refine TW.seqD fun Y32 hY32 => ?_
 refine TW.rebaseK [.blk b1 22 [.slice A H.n cp], .blk b2 96 [.pointer none], .blk b3 32 [.int .i64 0]] (opK H A cp ((b5, b4), (Am, cm), (Ak, ck))) (by unfold opK; (repeat (first | exact KSub.nil | refine KSub.cons pk9 ?_))) fun w1 hw1 => ?_
 have hoB : OldB w1 b5 [.slice A H.n cp, .map (some b4), .slice Am H.n cm, .slice Ak H.n ck] := OldB.of_blk (hw1.holds (.blk b5 106 [.slice A H.n cp, .map (some b4), .slice Am H.n cm, .slice Ak H.n ck]) (by simp [opK]))
 have hSb := hw1.apartB (b := b5) (t := 106) (cs := [.slice A H.n cp, .map (some b4), .slice Am H.n cm, .slice Ak H.n ck]) (by simp [opK])
 have hoM : RdR w1 1 Am H.n (fun j => [.int .i64 (moH H j)]) := OwnR.rdr (hw1.holds (.own Am H.n cm 3 1 (fun j => [.int .i64 (moH H j)])) (by simp [opK]))
 have hSm := hw1.apartO (A := Am) (n := H.n) (c := cm) (E := 3) (sz := 1) (r := fun j => [.int .i64 (moH H j)]) (by simp [opK])
 refine TW.seqD fun Y33 hY33 => ?_
 refine TW.region ?_
 refine TL.p (Pu.ld ty_sc22) ?_
 refine TL.p (Pu.ln Tryz.underlying22) ?_
 refine TL.p Pu.mv ?_
 refine TL.nil ?_
 refine TQ.thenN (hY33 _ _ _ ?_)
 refine TW.block ?_
 refine TW.loopM1 (fun (i : Nat) => [(117, .int .i64 (i : Int)), (116, .int .i64 (H.n : Int)), (4, .pointer (some ⟨b5, 0, none⟩)), (1, .pointer (some ⟨b1, 0, none⟩)), (2, .pointer (some ⟨b2, 0, none⟩)), (3, .pointer (some ⟨b3, 0, none⟩))]) (fun i Ds => .blk b1 22 [.slice A H.n cp] :: .blk b2 96 [.pointer none] :: .blk b3 32 [.int .i64 0] :: defK Ds) (fun i => i ≤ H.n ∧ ∀ j, j < i → endB H j = true) (fun i => H.n - i) 0 ([]) fs9 ?_ ?_ ?_
 exact KSub.refl _
 exact ⟨Nat.zero_le _, fun j hj => by omega⟩
 rintro i ⟨hi, h3⟩ Ds Z2 hZ2
 refine TW.seqD fun Y34 hY34 => ?_
 refine TW.region ?_
 refine TL.p Pu.lt ?_
 refine TL.nil ?_
 refine TQ.thenN (hY34 _ _ _ ?_)
 refine TW.seqD fun Y35 hY35 => ?_
 refine TW.cond rfl (fun hc6 => ?_) (fun hc6 => ?_)
 try simp only [zcb9] at hc6
 have hin : i < H.n := by omega
 obtain ⟨N, hN⟩ : ∃ N, N = if endB H i = true then depH (moH H) H.n i else H.n + 1 := ⟨_, rfl⟩
 have hNl : N ≤ H.n + 1 := by
  rw [hN]
  split
  exact Nat.le_succ_of_le dep_le
  exact Nat.le_refl _
 refine TW.skip ?_
 refine TQ.thenN (hY35 _ _ _ ?_)
 refine TW.seqD fun Y36 hY36 => ?_
 refine TW.block ?_
 refine TW.seqD fun Y37 hY37 => ?_
 refine TW.region ?_
 refine TL.p Pu.mv ?_
 refine TL.p Pu.as ?_
 refine TL.nil ?_
 refine TQ.thenN (hY37 _ _ _ ?_)
 refine TW.seqD fun Y38 hY38 => ?_
 refine TW.region ?_
 refine TL.m (Mk.al ty_zr3) ?_
 intro b21
 first | refine TL.st ty_sz3 ?_ | refine TL.se ty_sz3 ?_
 refine TL.nil ?_
 refine TQ.thenN (hY38 _ _ _ ?_)
 refine TW.seqD fun Y39 hY39 => ?_
 refine TW.region ?_
 refine TL.p Pu.mv ?_
 refine TL.p Pu.mv ?_
 refine TL.call (M := []) rfl (enters Tryz.func82 rfl rfl) (List.Perm.refl _) rfl (fun w hw => by
   exact line_any) ?_
 rintro ⟨bi, bp⟩
 refine TL.nil ?_
 refine TQ.thenN (hY39 _ _ _ ?_)
 refine TW.block ?_
 have hNN : (N = depH (moH H) H.n i ∧ upH (moH H) i H.n < 0) ∨ (0 ≤ upH (moH H) i H.n ∧ ∀ (G : List Fact) (S : List Nat) (W : World) (X : List Fact) (x y : Fact) (w : World), ¬ Sat S W (X ++ (x :: y :: (if N ≤ H.n then G else [badF]))) w) := by
  by_cases hE : endB H i = true
  rw [if_pos hE] at hN
  unfold endB at hE
  exact .inl ⟨hN, of_decide_eq_true hE⟩
  rw [if_neg hE] at hN
  unfold endB at hE
  refine .inr ⟨by simpa using hE, fun G S W X x y w hs => no_bad hs ?_⟩
  rw [hN, if_neg (by omega)]
  simp
 refine TW.rangeR (fun (q : Nat) (_ : Unit) => if q ≤ H.n then .blk b21 3 [.int .i64 (q : Int)] :: .blk b1 22 [.slice A H.n cp] :: .blk b2 96 [.pointer none] :: .blk b3 32 [.int .i64 0] :: defK Ds else [badF]) (fun _ : { _u : Unit // endB H i = false } => Code.ret) (fun _ => .blk b2 96 [.pointer none] :: .blk b3 32 [.int .i64 20] :: defK Ds) (()) (fun x y => line1_iter (N := N) (bi := bi) (bp := bp) (i := i) hoB hSb hoM hSm moH_Mo hin (hNN.imp_right fun h => ⟨h.1, fun X r w => h.2 _ _ _ _ _ _ _⟩)) ?_ ?_ ?_ ?_ (eg := enters Tryz.func107 rfl rfl)
 show KSub _ (linM bi bp b5 i ++ (if (0 : Nat) ≤ H.n then _ else _))
 rw [if_pos (Nat.zero_le _)]
 exact KSub.cons pk9 (KSub.cons pk9 (KSub.cons pk9 (KSub.cons pk9 (KSub.cons pk9 (KSub.cons pk9 (KSub.refl _))))))
 rintro lR DR oR oR1 oR2 q g r hq ZR0 hZR0
 have hqn : q ≤ H.n := by omega
 simp only [if_pos hqn, linM, List.cons_append, List.nil_append]
 refine TWi.skip ?_
 refine TQ.thenN (hZR0 _ _ _ Pick.hd ?_)
 refine TWi.block ?_
 refine TWi.seq fun Y40 hY40 => ?_
 refine TWi.region ?_
 refine TL.p (Pu.ld ty_sc3) ?_
 refine TL.p Pu.ad ?_
 first | refine TL.st ty_sz3 ?_ | refine TL.se ty_sz3 ?_
 refine TL.nil (TQ.thenN (hY40 _ _ ?_))
 refine TWi.seq fun Y41 hY41 => ?_
 refine TWi.region ?_
 refine TL.p (Pu.ld ty_sc3) ?_
 refine TL.p (Pu.ld ty_sc22) ?_
 refine TL.p (Pu.ln Tryz.underlying22) ?_
 refine TL.p Pu.gt ?_
 refine TL.nil (TQ.thenN (hY41 _ _ ?_))
 refine TWi.cond rfl (fun hc7 => ?_) (fun hc7 => ?_)
 try simp only [zcb9] at hc7
 have hE : endB H i = false := by
  cases h : endB H i with
  | false => rfl
  | true =>
   rw [if_pos h] at hN
   have := dep_le (f := moH H) (n := H.n) (i := i)
   omega
 refine TWi.seq fun Y42 hY42 => ?_
 refine TWi.region ?_
 first | refine TL.st ty_sz96 ?_ | refine TL.se ty_sz96 ?_
 first | refine TL.st ty_sz32 ?_ | refine TL.se ty_sz32 ?_
 refine TL.nil (TQ.thenN (hY42 _ _ ?_))
 refine TWi.ret ?_
 refine TQ.blkR ?_
 refine TQ.rbR (⟨(), hE⟩) rfl ?_
 simp only [linM, List.cons_append, List.nil_append]
 exact KSub.cons pk9 (KSub.cons pk9 (KSub.cons pk9 (KSub.cons pk9 (KSub.cons pk9 (KSub.cons pk9 (KSub.drop (KSub.drop (KSub.refl _))))))))
 try simp only [zcb9] at hc7
 have hqn1 : q + 1 ≤ H.n := by omega
 refine TWi.skip ?_
 refine TQ.blkN ?_
 refine TQ.rbN (()) ?_
 simp only [if_pos hqn1, linM, List.cons_append, List.nil_append]
 exact KSub.cons pk9 (KSub.cons pk9 (KSub.cons pk9 (KSub.cons pk9 (KSub.valI pk9 (by omega) (KSub.cons pk9 (KSub.cons pk9 (KSub.cons pk9 (KSub.refl _))))))))
 rintro DR r
 by_cases hE : endB H i = true
 case neg => exact fun a w hF hK => (no_bad hK (by rw [hN, if_neg hE, if_neg (by omega)]; simp)).elim
 have hNd : N ≤ H.n := by rw [hN, if_pos hE]; exact dep_le
 simp only [if_pos hNd, List.nil_append]
 refine TQ.blkN ?_
 refine TQ.blkN ?_
 refine TQ.thenN (hY36 _ _ _ ?_)
 refine TW.region ?_
 refine TL.p Pu.ad ?_
 refine TL.p Pu.mv ?_
 refine TL.nil ?_
 refine TQ.thenN (hZ2 (i + 1) (DR :: Ds) _ _ ?_ ?_ fs9 ?_)
 refine ⟨by omega, fun j hj => ?_⟩
 by_cases e : j = i
 subst e; exact hE
 exact h3 j (by omega)
 exact zom9
 exact KSub.cons pk9 (KSub.cons pk9 (KSub.cons pk9 (KSub.cons pk9 (KSub.drop (KSub.refl _)))))
 rintro DR ⟨_, hE⟩
 have hno := herd_no3 hin hE
 refine TW.ret ?_
 refine TQ.blkR ?_
 refine TQ.blkR ?_
 refine TQ.thenR ?_
 refine TQ.thenR ?_
 refine TQ.blkR ?_
 refine TQ.thenR ?_
 refine TQ.retMs (DR :: Ds) ([.blk b2 96 [.pointer none], .blk b3 32 [.int .i64 20]]) Tryz.results69 ?_ ((RV.c1 ty_sc96 (RV.c1 ty_sc32 .nil))) ?_
 simp only [defK, List.map_nil, List.map_cons, List.nil_append, List.cons_append]
 exact kt9
 exact fun w hw => ⟨((0, 0), (none, 0), (none, 0)), by show Ending.returned _ = Ending.returned (if herdB H = true then _ else _); rw [hno]; rfl, by show Sat _ _ (if herdB H = true then _ else _) _; rw [hno]; exact Sat.nil (hw1.step hw).chg⟩
 try simp only [zcb9] at hc6
 obtain rfl : i = H.n := by omega
 refine TW.exit ?_
 refine TQ.thenX ?_
 refine TQ.thenX ?_
 refine TQ.blkX ?_
 refine TQ.thenN (hY32 _ _ _ ?_)
 refine TW.seqD fun Y43 hY43 => ?_
 refine TW.region ?_
 refine TL.p Pu.mv ?_
 first | refine TL.st ty_sz96 ?_ | refine TL.se ty_sz96 ?_
 first | refine TL.st ty_sz32 ?_ | refine TL.se ty_sz32 ?_
 refine TL.nil ?_
 refine TQ.thenN (hY43 _ _ _ ?_)
 refine TW.ret ?_
 refine TQ.retMs (Ds) ([.blk b2 96 [.pointer (some ⟨b5, 0, none⟩)], .blk b3 32 [.int .i64 0]]) Tryz.results69 ?_ ((RV.c1 ty_sc96 (RV.c1 ty_sc32 .nil))) ?_
 simp only [defK, List.map_nil, List.map_cons, List.nil_append, List.cons_append]
 exact kt9
 have hyes := herd_yes (by omega) h1 h2 h3
 exact fun w hw => ⟨((b5, b4), (Am, cm), (Ak, ck)), by show Ending.returned _ = Ending.returned (if herdB H = true then _ else _); rw [hyes]; rfl, by show Sat _ _ (if herdB H = true then _ else _) _; rw [hyes]; exact (hw1.step hw).sub (KSub.drop (KSub.drop (KSub.refl _)))⟩
end Go.Proofs.YtbenhafhklfhmaaGreat
namespace Go.Proofs
open Go.Shelf
def Tryz.laysSlM5_f115_ren : Go.Shelf.Ren := ⟨fun | 5 => 115 | 8 => 111 | 7 => 127 | 19 => 125 | 20 => 126 | 10 => 133 | 11 => 134 | 12 => 135 | 13 => 136 | 14 => 137 | 15 => 138 | 16 => 139 | 17 => 140 | 18 => 141 | 30 => 143 | 31 => 129 | 32 => 130 | 33 => 144 | 34 => 145 | 35 => 112 | 40 => 146 | n => n, fun | 23 => 28 | 25 => 3 | 3 => 3 | 32 => 145 | 22 => 28 | 0 => 0 | 44 => 25 | 46 => 179 | 4 => 4 | 36 => 172 | 35 => 171 | 41 => 40 | 5 => 5 | 9 => 9 | 53 => 181 | 57 => 185 | 63 => 192 | 64 => 193 | n => n, fun | n => n⟩
theorem Tryz.laysSlM5_f115 : Go.Proofs.SlLaysM.n5 Tryz.prog Tryz.laysSlM5_f115_ren := {
 mixed := by kernel_rfl
 f5 := ⟨Tryz.f115.name, by decide, Tryz.func115.trans (congrArg some (by kernel_rfl))⟩
 f7 := ⟨Tryz.f127.name, by decide, Tryz.func127.trans (congrArg some (by kernel_rfl))⟩
 f8 := Tryz.func111.trans (congrArg some (by kernel_rfl))
 f10 := ⟨Tryz.f133.name, by decide, Tryz.func133.trans (congrArg some (by kernel_rfl))⟩
 f11 := ⟨Tryz.f134.name, by decide, Tryz.func134.trans (congrArg some (by kernel_rfl))⟩
 f12 := ⟨Tryz.f135.name, by decide, Tryz.func135.trans (congrArg some (by kernel_rfl))⟩
 f13 := ⟨Tryz.f136.name, by decide, Tryz.func136.trans (congrArg some (by kernel_rfl))⟩
 f14 := ⟨Tryz.f137.name, by decide, Tryz.func137.trans (congrArg some (by kernel_rfl))⟩
 f15 := ⟨Tryz.f138.name, by decide, Tryz.func138.trans (congrArg some (by kernel_rfl))⟩
 f16 := ⟨Tryz.f139.name, by decide, Tryz.func139.trans (congrArg some (by kernel_rfl))⟩
 f17 := ⟨Tryz.f140.name, by decide, Tryz.func140.trans (congrArg some (by kernel_rfl))⟩
 f18 := ⟨Tryz.f141.name, by decide, Tryz.func141.trans (congrArg some (by kernel_rfl))⟩
 f19 := Tryz.func125.trans (congrArg some (by kernel_rfl))
 f20 := Tryz.func126.trans (congrArg some (by kernel_rfl))
 f30 := ⟨Tryz.f143.name, by decide, Tryz.func143.trans (congrArg some (by kernel_rfl))⟩
 f31 := Tryz.func129.trans (congrArg some (by kernel_rfl))
 f32 := Tryz.func130.trans (congrArg some (by kernel_rfl))
 f33 := ⟨Tryz.f144.name, by decide, Tryz.func144.trans (congrArg some (by kernel_rfl))⟩
 f34 := ⟨Tryz.f145.name, by decide, Tryz.func145.trans (congrArg some (by kernel_rfl))⟩
 f35 := ⟨Tryz.f112.name, by decide, Tryz.func112.trans (congrArg some (by kernel_rfl))⟩
 f40 := ⟨Tryz.f146.name, by decide, Tryz.func146.trans (congrArg some (by kernel_rfl))⟩
 t0 := Tryz.underlying0
 a0 := Tryz.isAgg0
 z0 := Tryz.sizeOf0
 v0 := Tryz.zeroValue0
 t3 := Tryz.underlying3
 a3 := Tryz.isAgg3
 z3 := Tryz.sizeOf3
 v3 := Tryz.zeroValue3
 t4 := Tryz.underlying4
 a4 := Tryz.isAgg4
 z4 := Tryz.sizeOf4
 v4 := Tryz.zeroValue4
 t5 := Tryz.underlying5
 a5 := Tryz.isAgg5
 z5 := Tryz.sizeOf5
 v5 := Tryz.zeroValue5
 t9 := Tryz.underlying9
 a9 := Tryz.isAgg9
 z9 := Tryz.sizeOf9
 v9 := Tryz.zeroValue9
 t22 := Tryz.underlying28
 a22 := Tryz.isAgg28
 z22 := Tryz.sizeOf28
 v22 := Tryz.zeroValue28
 t23 := Tryz.underlying28
 a23 := Tryz.isAgg28
 z23 := Tryz.sizeOf28
 v23 := Tryz.zeroValue28
 t25 := Tryz.underlying3
 a25 := Tryz.isAgg3
 z25 := Tryz.sizeOf3
 v25 := Tryz.zeroValue3
 t32 := Tryz.underlying145
 a32 := Tryz.isAgg145
 z32 := Tryz.sizeOf145
 v32 := Tryz.zeroValue145
 t35 := Tryz.underlying171
 a35 := Tryz.isAgg171
 z35 := Tryz.sizeOf171
 v35 := Tryz.zeroValue171
 t36 := Tryz.underlying172
 a36 := Tryz.isAgg172
 z36 := Tryz.sizeOf172
 v36 := Tryz.zeroValue172
 t41 := Tryz.underlying40
 a41 := Tryz.isAgg40
 z41 := Tryz.sizeOf40
 v41 := Tryz.zeroValue40
 t44 := Tryz.underlying25
 a44 := Tryz.isAgg25
 z44 := Tryz.sizeOf25
 v44 := Tryz.zeroValue25
 t46 := Tryz.underlying179
 a46 := Tryz.isAgg179
 z46 := Tryz.sizeOf179
 v46 := Tryz.zeroValue179
 t53 := Tryz.underlying181
 a53 := Tryz.isAgg181
 z53 := Tryz.sizeOf181
 v53 := Tryz.zeroValue181
 t57 := Tryz.underlying185
 a57 := Tryz.isAgg185
 z57 := Tryz.sizeOf185
 v57 := Tryz.zeroValue185
 t63 := Tryz.underlying192
 a63 := Tryz.isAgg192
 z63 := Tryz.sizeOf192
 v63 := Tryz.zeroValue192
 t64 := Tryz.underlying193
 a64 := Tryz.isAgg193
 z64 := Tryz.sizeOf193
 v64 := Tryz.zeroValue193 }
open Go.Sort Go.RowKit in
theorem Tryz.slices_Sort_int (blk off cap : Nat) (zs : List Int) (w : World) (hH : Holds (Value.int .i64) w blk off zs.toArray) (hblk : blk < w.heap.size) (hsz : zs.length < 4611686018427387904) :
 Calls Tryz.prog 115 #[.slice (some ⟨blk, off, none⟩) zs.length cap] w fun e w' =>
  e = .returned (.tuple #[]) ∧ ∃ n os, w' = grow (putRow (Value.int .i64) (Sort.ahead w n) blk off (zs.mergeSort fun x y => decide (x ≤ y)).toArray) os := AnyM.slices_Sort_int Tryz.laysSlM5_f115 blk off cap zs w hH hblk hsz
open Go.RowKit Go.Sort in
theorem Tryz.slices_Sort_int_none (p : Option Addr) (cap : Nat) (w : World) :
 Calls Tryz.prog 115 #[.slice p 0 cap] w fun e w' => e = .returned (.tuple #[]) ∧ w' = w := AnyM.slices_Sort_int_none Tryz.laysSlM5_f115 p cap w
def Tryz.laysSlF6_f91_ren : Go.Shelf.Ren := ⟨fun | 6 => 91 | 15 => 111 | 14 => 110 | 28 => 125 | 29 => 126 | 20 => 117 | 21 => 118 | 22 => 119 | 23 => 120 | 24 => 121 | 25 => 122 | 26 => 123 | 27 => 124 | 46 => 128 | 47 => 129 | 48 => 130 | 49 => 131 | 50 => 132 | 57 => 142 | n => n, fun | 22 => 28 | 24 => 3 | 25 => 150 | 3 => 3 | 39 => 145 | 0 => 0 | 53 => 25 | 55 => 179 | 4 => 4 | 46 => 172 | 45 => 171 | 50 => 40 | 5 => 5 | 9 => 9 | 66 => 181 | 70 => 185 | 76 => 192 | 77 => 193 | n => n, fun | n => n⟩
theorem Tryz.laysSlF6_f91 : Go.Proofs.SlLaysF.n6 Tryz.prog Tryz.laysSlF6_f91_ren := {
 mixed := by kernel_rfl
 f6 := ⟨Tryz.f91.name, by decide, Tryz.func91.trans (congrArg some (by kernel_rfl))⟩
 f14 := ⟨Tryz.f110.name, by decide, Tryz.func110.trans (congrArg some (by kernel_rfl))⟩
 f15 := Tryz.func111.trans (congrArg some (by kernel_rfl))
 f20 := ⟨Tryz.f117.name, by decide, Tryz.func117.trans (congrArg some (by kernel_rfl))⟩
 f21 := ⟨Tryz.f118.name, by decide, Tryz.func118.trans (congrArg some (by kernel_rfl))⟩
 f22 := ⟨Tryz.f119.name, by decide, Tryz.func119.trans (congrArg some (by kernel_rfl))⟩
 f23 := ⟨Tryz.f120.name, by decide, Tryz.func120.trans (congrArg some (by kernel_rfl))⟩
 f24 := ⟨Tryz.f121.name, by decide, Tryz.func121.trans (congrArg some (by kernel_rfl))⟩
 f25 := ⟨Tryz.f122.name, by decide, Tryz.func122.trans (congrArg some (by kernel_rfl))⟩
 f26 := ⟨Tryz.f123.name, by decide, Tryz.func123.trans (congrArg some (by kernel_rfl))⟩
 f27 := ⟨Tryz.f124.name, by decide, Tryz.func124.trans (congrArg some (by kernel_rfl))⟩
 f28 := Tryz.func125.trans (congrArg some (by kernel_rfl))
 f29 := Tryz.func126.trans (congrArg some (by kernel_rfl))
 f46 := ⟨Tryz.f128.name, by decide, Tryz.func128.trans (congrArg some (by kernel_rfl))⟩
 f47 := Tryz.func129.trans (congrArg some (by kernel_rfl))
 f48 := Tryz.func130.trans (congrArg some (by kernel_rfl))
 f49 := ⟨Tryz.f131.name, by decide, Tryz.func131.trans (congrArg some (by kernel_rfl))⟩
 f50 := ⟨Tryz.f132.name, by decide, Tryz.func132.trans (congrArg some (by kernel_rfl))⟩
 f57 := ⟨Tryz.f142.name, by decide, Tryz.func142.trans (congrArg some (by kernel_rfl))⟩
 t0 := Tryz.underlying0
 a0 := Tryz.isAgg0
 z0 := Tryz.sizeOf0
 v0 := Tryz.zeroValue0
 t3 := Tryz.underlying3
 a3 := Tryz.isAgg3
 z3 := Tryz.sizeOf3
 v3 := Tryz.zeroValue3
 t4 := Tryz.underlying4
 a4 := Tryz.isAgg4
 z4 := Tryz.sizeOf4
 v4 := Tryz.zeroValue4
 t5 := Tryz.underlying5
 a5 := Tryz.isAgg5
 z5 := Tryz.sizeOf5
 v5 := Tryz.zeroValue5
 t9 := Tryz.underlying9
 a9 := Tryz.isAgg9
 z9 := Tryz.sizeOf9
 v9 := Tryz.zeroValue9
 t22 := Tryz.underlying28
 a22 := Tryz.isAgg28
 z22 := Tryz.sizeOf28
 v22 := Tryz.zeroValue28
 a24 := Tryz.isAgg3
 z24 := Tryz.sizeOf3
 t25 := Tryz.underlying150
 a25 := Tryz.isAgg150
 z25 := Tryz.sizeOf150
 v25 := Tryz.zeroValue150
 t39 := Tryz.underlying145
 a39 := Tryz.isAgg145
 z39 := Tryz.sizeOf145
 v39 := Tryz.zeroValue145
 t45 := Tryz.underlying171
 a45 := Tryz.isAgg171
 z45 := Tryz.sizeOf171
 v45 := Tryz.zeroValue171
 t46 := Tryz.underlying172
 a46 := Tryz.isAgg172
 z46 := Tryz.sizeOf172
 v46 := Tryz.zeroValue172
 t50 := Tryz.underlying40
 a50 := Tryz.isAgg40
 z50 := Tryz.sizeOf40
 v50 := Tryz.zeroValue40
 t53 := Tryz.underlying25
 a53 := Tryz.isAgg25
 z53 := Tryz.sizeOf25
 v53 := Tryz.zeroValue25
 t55 := Tryz.underlying179
 a55 := Tryz.isAgg179
 z55 := Tryz.sizeOf179
 v55 := Tryz.zeroValue179
 t66 := Tryz.underlying181
 a66 := Tryz.isAgg181
 z66 := Tryz.sizeOf181
 v66 := Tryz.zeroValue181
 t70 := Tryz.underlying185
 a70 := Tryz.isAgg185
 z70 := Tryz.sizeOf185
 v70 := Tryz.zeroValue185
 t76 := Tryz.underlying192
 a76 := Tryz.isAgg192
 z76 := Tryz.sizeOf192
 v76 := Tryz.zeroValue192
 t77 := Tryz.underlying193
 a77 := Tryz.isAgg193
 z77 := Tryz.sizeOf193
 v77 := Tryz.zeroValue193 }
open Go.RowKit Go.Lib Go.Sort in
theorem Tryz.slices_SortFunc {α : Type} [Inhabited α] (enc : α → Value) (h1 : OneCell enc) (cf : α → α → Int) (hO : SWO (ltOf cf)) (g : Nat) (cb : Array Value) (blk off cap : Nat) (d : Array α) (w : World) (eg : ∀ args w, (callFunc g args).run Tryz.prog w = .ok (.enter g args) w) (hcmp : CmpLays1 Tryz.prog g cb enc cf blk off d.size w) (hH : Holds enc w blk off d) (hblk : blk < w.heap.size) (hsz : d.size < 4611686018427387904) :
 Calls Tryz.prog 91 #[.slice (some ⟨blk, off, none⟩) d.size cap, .func (.func g) #[] cb] w fun e w' =>
  e = .returned (.tuple #[]) ∧ ∃ d' n os, PermIn 0 d.size d d' ∧ SortedIn (ltOf cf) 0 d.size d' ∧ w' = sortWorld enc w blk off n d' os := Any.slices_SortFunc Tryz.laysSlF6_f91 enc h1 cf hO g cb blk off cap d w eg hcmp hH hblk hsz
def Tryz.laysSlF06_f91_ren : Go.Shelf.Ren := ⟨fun | 6 => 91 | 15 => 111 | 14 => 110 | 28 => 125 | 29 => 126 | 20 => 117 | 21 => 118 | 22 => 119 | 23 => 120 | 24 => 121 | 25 => 122 | 26 => 123 | 27 => 124 | 46 => 128 | 47 => 129 | 48 => 130 | 49 => 131 | 50 => 132 | 57 => 142 | n => n, fun | 22 => 28 | 24 => 3 | 25 => 150 | 3 => 3 | 39 => 145 | 0 => 0 | 53 => 25 | 55 => 179 | 4 => 4 | 46 => 172 | 45 => 171 | 50 => 40 | 5 => 5 | 9 => 9 | 66 => 181 | 70 => 185 | 76 => 192 | 77 => 193 | n => n, fun | n => n⟩
theorem Tryz.laysSlF06_f91 : Go.Proofs.SlLaysF0.n6 Tryz.prog Tryz.laysSlF06_f91_ren := {
 mixed := by kernel_rfl
 f6 := ⟨Tryz.f91.name, by decide, Tryz.func91.trans (congrArg some (by kernel_rfl))⟩
 f14 := ⟨Tryz.f110.name, by decide, Tryz.func110.trans (congrArg some (by kernel_rfl))⟩
 f15 := Tryz.func111.trans (congrArg some (by kernel_rfl))
 f20 := ⟨Tryz.f117.name, by decide, Tryz.func117.trans (congrArg some (by kernel_rfl))⟩
 f21 := ⟨Tryz.f118.name, by decide, Tryz.func118.trans (congrArg some (by kernel_rfl))⟩
 f22 := ⟨Tryz.f119.name, by decide, Tryz.func119.trans (congrArg some (by kernel_rfl))⟩
 f23 := ⟨Tryz.f120.name, by decide, Tryz.func120.trans (congrArg some (by kernel_rfl))⟩
 f24 := ⟨Tryz.f121.name, by decide, Tryz.func121.trans (congrArg some (by kernel_rfl))⟩
 f25 := ⟨Tryz.f122.name, by decide, Tryz.func122.trans (congrArg some (by kernel_rfl))⟩
 f26 := ⟨Tryz.f123.name, by decide, Tryz.func123.trans (congrArg some (by kernel_rfl))⟩
 f27 := ⟨Tryz.f124.name, by decide, Tryz.func124.trans (congrArg some (by kernel_rfl))⟩
 f28 := Tryz.func125.trans (congrArg some (by kernel_rfl))
 f29 := Tryz.func126.trans (congrArg some (by kernel_rfl))
 f46 := ⟨Tryz.f128.name, by decide, Tryz.func128.trans (congrArg some (by kernel_rfl))⟩
 f47 := Tryz.func129.trans (congrArg some (by kernel_rfl))
 f48 := Tryz.func130.trans (congrArg some (by kernel_rfl))
 f49 := ⟨Tryz.f131.name, by decide, Tryz.func131.trans (congrArg some (by kernel_rfl))⟩
 f50 := ⟨Tryz.f132.name, by decide, Tryz.func132.trans (congrArg some (by kernel_rfl))⟩
 f57 := ⟨Tryz.f142.name, by decide, Tryz.func142.trans (congrArg some (by kernel_rfl))⟩
 t0 := Tryz.underlying0
 a0 := Tryz.isAgg0
 z0 := Tryz.sizeOf0
 v0 := Tryz.zeroValue0
 t3 := Tryz.underlying3
 a3 := Tryz.isAgg3
 z3 := Tryz.sizeOf3
 v3 := Tryz.zeroValue3
 t4 := Tryz.underlying4
 a4 := Tryz.isAgg4
 z4 := Tryz.sizeOf4
 v4 := Tryz.zeroValue4
 t5 := Tryz.underlying5
 a5 := Tryz.isAgg5
 z5 := Tryz.sizeOf5
 v5 := Tryz.zeroValue5
 t9 := Tryz.underlying9
 a9 := Tryz.isAgg9
 z9 := Tryz.sizeOf9
 v9 := Tryz.zeroValue9
 t22 := Tryz.underlying28
 a22 := Tryz.isAgg28
 z22 := Tryz.sizeOf28
 v22 := Tryz.zeroValue28
 t25 := Tryz.underlying150
 a25 := Tryz.isAgg150
 z25 := Tryz.sizeOf150
 v25 := Tryz.zeroValue150
 t39 := Tryz.underlying145
 a39 := Tryz.isAgg145
 z39 := Tryz.sizeOf145
 v39 := Tryz.zeroValue145
 t45 := Tryz.underlying171
 a45 := Tryz.isAgg171
 z45 := Tryz.sizeOf171
 v45 := Tryz.zeroValue171
 t46 := Tryz.underlying172
 a46 := Tryz.isAgg172
 z46 := Tryz.sizeOf172
 v46 := Tryz.zeroValue172
 t50 := Tryz.underlying40
 a50 := Tryz.isAgg40
 z50 := Tryz.sizeOf40
 v50 := Tryz.zeroValue40
 t53 := Tryz.underlying25
 a53 := Tryz.isAgg25
 z53 := Tryz.sizeOf25
 v53 := Tryz.zeroValue25
 t55 := Tryz.underlying179
 a55 := Tryz.isAgg179
 z55 := Tryz.sizeOf179
 v55 := Tryz.zeroValue179
 t66 := Tryz.underlying181
 a66 := Tryz.isAgg181
 z66 := Tryz.sizeOf181
 v66 := Tryz.zeroValue181
 t70 := Tryz.underlying185
 a70 := Tryz.isAgg185
 z70 := Tryz.sizeOf185
 v70 := Tryz.zeroValue185
 t76 := Tryz.underlying192
 a76 := Tryz.isAgg192
 z76 := Tryz.sizeOf192
 v76 := Tryz.zeroValue192
 t77 := Tryz.underlying193
 a77 := Tryz.isAgg193
 z77 := Tryz.sizeOf193
 v77 := Tryz.zeroValue193 }
open Go.RowKit Go.Lib Go.Sort in
theorem Tryz.slices_SortFunc_none {α : Type} [Inhabited α] (p : Option Addr) (cap : Nat) (fv : Value) (w : World) :
 Calls Tryz.prog 91 #[.slice p 0 cap, fv] w fun e w' => e = .returned (.tuple #[]) ∧ w' = w := AnyF.slices_SortFunc_none Tryz.laysSlF06_f91 p cap fv w
end Go.Proofs
