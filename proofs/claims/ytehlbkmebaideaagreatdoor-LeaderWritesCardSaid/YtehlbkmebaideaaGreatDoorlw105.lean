/-
  The statement LeaderWritesCardSaid: for every input the law LeaderWrites returns true, and its arguments read afterwards as before; the tables of the library that are listed read as the program's text lays them, by the tie that is given. No other condition.
-/
import Derived.Test.YtehlbkmebaideaaGreatDoorlw104
import Derived.Test.YtehlbkmebaideaaGreatDoorlw102
import Derived.Test.YtehlbkmebaideaaGreatDoorRows
import Derived.OpenShut
import Derived.LaidMore
import Derived.Stop.Joined
import Derived.JoinedOf
import Derived.Test.YtehlbkmebaideaaGreatDoorCards
import Derived.Test.YtehlbkmebaideaaGreatDoorlw101
import Derived.SevenTiedAt
import Derived.Test.YtehlbkmebaideaaGreatDoorTie
import Derived.Lib.LaidTab
import Derived.Stop.LaidErr
namespace Go.Proofs.YtehlbkmebaideaaGreatDoor
set_option linter.all false
set_option linter.unusedVariables false
set_option linter.unusedSimpArgs false
open Go.RowKit Go.Lib
structure LogIn (w : World) (A : Option Addr) (n : Nat) (e : Nat → Ent) (EA : Nat → Option Addr) (EC : Nat → Nat) : Prop where
 rd : RdR w 3 A n (fun i => enL (e i) (EA i) (EC i))
 args : ∀ i, i < n → RdR w 1 (EA i) (e i).args.length (iL (e i).args)
def lgE (e : Nat → Ent) (k : Nat) : List Ent := (List.range k).map e
theorem lgE_succ {e : Nat → Ent} {k : Nat} : lgE e (k + 1) = lgE e k ++ [e k] := by unfold lgE; rw [List.range_succ, List.map_append]; rfl
theorem lgE_len {e : Nat → Ent} {k : Nat} : (lgE e k).length = k := by simp [lgE]
def lgT (e : Nat → Ent) (k : Nat) : List (List UInt8) := (lgE e k).map entT
theorem lgT_succ {e : Nat → Ent} {k : Nat} : lgT e (k + 1) = lgT e k ++ [entT (e k)] := by unfold lgT; rw [lgE_succ, List.map_append]; rfl
theorem lgT_len {e : Nat → Ent} {k : Nat} : (lgT e k).length = k := by unfold lgT; rw [List.length_map, lgE_len]
section
variable {A : Option Addr} {n cp : Nat} {e : Nat → Ent} {EA : Nat → Option Addr} {EC : Nat → Nat} {w : World}
theorem LogIn.sat {w' : World} {K : List Fact} (h : LogIn w A n e EA EC) (hs : Sat [] w K w') : LogIn w' A n e EA EC := ⟨h.rd.sat hs Apart.nil, fun i hi => (h.args i hi).sat hs Apart.nil⟩
theorem lgT_lens {k : Nat} (hs : ∀ i, i < n → (e i).word.length ≤ 40 ∧ (e i).args.length ≤ 20) (hk : k ≤ n) (h : (lgE e k).all entOk = true) : ∀ x, x ∈ lgT e k → x.length ≤ 1000 := by
 intro x hx
 obtain ⟨y, hy, rfl⟩ := List.mem_map.1 hx
 have h1 := List.all_eq_true.1 h y hy
 obtain ⟨i, hi, rfl⟩ := List.mem_map.1 hy
 have h2 := hs i (by have := List.mem_range.1 hi; omega)
 exact ent_len h1 h2.1 h2.2
theorem lgTw_len {k : Nat} (hs : ∀ i, i < n → (e i).word.length ≤ 40 ∧ (e i).args.length ≤ 20) (hk : k ≤ n) (h2 : k ≤ 200) (h : (lgE e k).all entOk = true) : (twL [] (lgT e k)).length ≤ 204600 := by
 have h1 := tw_len (t := []) (lgT_lens hs hk h)
 rw [lgT_len] at h1
 have h3 : k * (1000 + 23) ≤ 200 * (1000 + 23) := Nat.mul_le_mul_right _ h2
 simp only [List.length_nil] at h1
 omega
theorem ent_w1 {x : Ent} : (phr [68] [x.day] ++ [32]) ++ x.word = phr [68] [x.day] ++ 32 :: x.word := by simp
theorem ent_l1 {x : Ent} (h : wrB x.day = true) : (phr [68] [x.day]).length ≤ 30 := by
 have h2 := phr_wr (w := [68]) (l := [x.day]) (by simp [h])
 simp only [List.length_cons, List.length_nil] at h2
 omega
theorem ent_l2 {x : Ent} (h : wrB x.day = true) (hw : x.word.length ≤ 40) : (phr [68] [x.day] ++ 32 :: x.word).length ≤ 80 := by
 have := ent_l1 h
 rw [List.length_append, List.length_cons]
 omega
theorem withinW_any {m : Int} (w : World) : Calls Tryz.prog 29 #[.int .i64 m, .int .i64 (-1000000000000), .int .i64 1000000000000] w (Ret w (.bool (wrB m))) := within_any w
theorem writtenOne_any {m : Int} {b E : Nat} {w : World} (h : Blk w b E #[.int .i64 m]) : Calls Tryz.prog 28 #[.slice (some ⟨b, 0, none⟩) 1 1] w (Ret w (.bool (wrB m))) := by
 have h9 := written_any (l := [m]) (cp := 1) (by simp) (RdR.blk (cs := [.int .i64 m]) h rfl (fun i hi => rfl))
 rw [show [m].all wrB = wrB m by simp] at h9
 exact h9
set_option maxRecDepth 100000 in
set_option maxHeartbeats 2000000 in
theorem refLogW_any (hn : n ≤ 1000) (hI : LogIn w A n e EA EC) (hs : ∀ i, i < n → (e i).word.length ≤ 40 ∧ (e i).args.length ≤ 20) :
  Calls Tryz.prog 10 #[.slice A n cp] w (Ret w (.tuple #[sv (lgW e n).1, .int .i64 (lgW e n).2])) := by
 have hR := hI.rd
 refine K_enter (S := []) (K := []) Tryz.func10 rfl Tryz.ntmps10 rfl (Sat.start _) ?_
 refine TW.seq fun Y1 hY1 => TW.region ?_
 refine TL.p Pu.as ?_
 refine TL.p Pu.as ?_
 refine TL.nil (TQ.thenN (hY1 _ _ ?_))
 refine TW.seq fun Y2 hY2 => ?_
 refine TW.seq fun Y3 hY3 => TW.region ?_
 refine TL.p Pu.mv ?_
 refine TL.p (Pu.ln Tryz.underlying26) ?_
 refine TL.p Pu.gt ?_
 refine TL.nil (TQ.thenN (hY3 _ _ ?_))
 refine TW.cond rfl (fun hc0 => ?_) (fun hc0 => ?_)
 try simp only [zcb9] at hc0
 refine TW.seq fun Y4 hY4 => TW.region ?_
 refine TL.p Pu.as ?_
 refine TL.p Pu.as ?_
 refine TL.nil (TQ.thenN (hY4 _ _ ?_))
 refine TW.ret ?_
 refine TQ.thenR ?_
 refine TQ.ret Tryz.results10 rfl ((.tmp rfl (.tmp rfl .nil))) ?_
 refine fun w hw => ⟨?_, Chg.ext hw.chg⟩
 unfold lgW
 rw [if_neg (by simp; omega)]
 rfl
 try simp only [zcb9] at hc0
 have hn2 : n ≤ 200 := by omega
 refine TW.skip ?_
 refine TQ.thenN (hY2 _ _ ?_)
 refine TW.seq fun Y5 hY5 => TW.region ?_
 refine TL.p Pu.as ?_
 refine TL.nil (TQ.thenN (hY5 _ _ ?_))
 refine TW.seq fun Y6 hY6 => ?_
 refine TW.seq fun Y7 hY7 => TW.region ?_
 refine TL.p Pu.as ?_
 refine TL.nil (TQ.thenN (hY7 _ _ ?_))
 refine TW.block ?_
 refine TW.loop1 (fun (k : Nat) => [(5, .int .i64 (k : Int)), (4, sv (twL [] (lgT e k))), (0, .slice A n cp)]) (fun k => []) (fun k => k ≤ n ∧ (lgE e k).all entOk = true) (fun k => n - k) 0 fs9 ?_ ?_ ?_
 exact ks9
 exact ⟨Nat.zero_le _, rfl⟩
 rintro k ⟨hk, hall⟩ Z0 hZ0
 refine TW.seq fun Y8 hY8 => ?_
 refine TW.seq fun Y9 hY9 => TW.region ?_
 refine TL.p Pu.mv ?_
 refine TL.p Pu.mv ?_
 refine TL.p (Pu.ln Tryz.underlying26) ?_
 refine TL.p Pu.lt ?_
 refine TL.nil (TQ.thenN (hY9 _ _ ?_))
 refine TW.cond rfl (fun hc1 => ?_) (fun hc1 => ?_)
 try simp only [zcb9] at hc1
 have hkl : k < n := by omega
 have hl1 := lgTw_len hs hk (by omega) hall
 have hs1 := hs k hkl
 have hAk := hI.args k hkl
 refine TW.skip ?_
 refine TQ.thenN (hY8 _ _ ?_)
 refine TW.seq fun Y10 hY10 => ?_
 refine TW.block ?_
 refine TW.seq fun Y11 hY11 => TW.region ?_
 refine TL.p Pu.mv ?_
 refine TL.p Pu.mv ?_
 refine TL.p (Pu.el ty_et26) ?_
 refine TL.p (Pu.lds ty_ag50) ?_
 refine TL.m (Mk.al ty_zr50) ?_
 intro b1
 first | refine TL.st ty_sz50 ?_ | refine TL.se ty_sz50 ?_
 refine TL.nil (TQ.thenN (hY11 _ _ ?_))
 refine TW.seq fun Y12 hY12 => ?_
 refine TW.seq fun Y13 hY13 => ?_
 refine TW.join [(37, .bool (!wrB (e k).day || !cmB (e k).word (e k).args.length || !(e k).args.all wrB))] ?_ (fun hJ1 => ?_)
 refine TQ.thenN (hY13 _ _ ?_)
 refine TW.cond rfl (fun hc2 => ?_) (fun hc2 => ?_)
 try simp only [zcb9] at hc2
 have hbad : entOk (e k) = false := by
  unfold entOk
  rw [Bool.and_eq_false_iff, Bool.and_eq_false_iff]
  rcases hc2 with (h | h) | h
  exact .inl (.inr h)
  exact .inl (.inl h)
  exact .inr h
 refine TW.seq fun Y14 hY14 => TW.region ?_
 refine TL.p Pu.as ?_
 refine TL.p Pu.as ?_
 refine TL.nil (TQ.thenN (hY14 _ _ ?_))
 refine TW.ret ?_
 refine TQ.thenR ?_
 refine TQ.blkR ?_
 refine TQ.thenR ?_
 refine TQ.thenR ?_
 refine TQ.blkR ?_
 refine TQ.thenR ?_
 refine TQ.ret Tryz.results10 rfl ((.tmp rfl (.tmp rfl .nil))) ?_
 refine fun w hw => ⟨?_, Chg.ext hw.chg⟩
 unfold lgW
 rw [if_neg (by
  rw [Bool.and_eq_true, List.all_eq_true]
  intro h9
  have := h9.2 (e k) (List.mem_map.2 ⟨k, List.mem_range.2 hkl, rfl⟩)
  rw [hbad] at this
  cases this)]
 rfl
 try simp only [zcb9] at hc2
 have hok : entOk (e k) = true := by
  unfold entOk
  rw [Bool.and_eq_true, Bool.and_eq_true]
  exact ⟨⟨hc2.1.2, hc2.1.1⟩, hc2.2⟩
 have hok2 := hok
 unfold entOk at hok2
 rw [Bool.and_eq_true, Bool.and_eq_true] at hok2
 obtain ⟨⟨_, hd⟩, ha⟩ := hok2
 have hel := ent_len hok hs1.1 hs1.2
 have he1 := ent_l1 hd
 have he2 := ent_l2 hd hs1.1
 refine TW.skip ?_
 refine TQ.thenN (hY12 _ _ ?_)
 refine TW.dw 14 ?_
 refine RK.tk Pu.mv ?_
 refine RK.tk (by first | exact Pu.fb ty_fa50_0 | exact Pu.fe ty_fa50_0) ?_
 refine RK.tk (Pu.ld ty_sc3) ?_
 refine RK.keep ?_
 refine RK.keep ?_
 refine RK.keep ?_
 refine RK.tk (by first | exact Pu.fb ty_fa50_1 | exact Pu.fe ty_fa50_1) ?_
 refine RK.tk (Pu.ld ty_sc9) ?_
 refine RK.keep ?_
 refine RK.tk (by first | exact Pu.fb ty_fa50_2 | exact Pu.fe ty_fa50_2) ?_
 refine RK.tk (Pu.ld ty_sc48) ?_
 refine RK.keep ?_
 refine RK.keep ?_
 refine RK.keep ?_
 refine RK.ch [false, false, true, true, false, false, true] ?_ trivial
 refine WK.m Mk.bl ?_
 intro b2
 refine WK.cr rfl (enters Tryz.func23 rfl rfl) (fun w hw => by
   exact line_any (wd := [68]) (l := [(e k).day]) (by decide) (by simp) (by simp [hd]) (RdR.blk (hw.holds (.blk _ 3 [.int .i64 (e k).day]) (Pick.mem pk9)) rfl (fun i hi => rfl))) ?_
 refine WK.p (Pu.sad rfl rfl (by show _ + 1 ≤ _; omega)) ?_
 refine WK.p (Pu.sw (Pu.sad rfl rfl (by rw [List.length_append]; show _ + 1 + _ ≤ _; omega)) ent_w1) ?_
 refine WK.cr rfl (enters Tryz.func23 rfl rfl) (fun w hw => by
   exact line_any (by omega) (by omega) ha (hAk.sat hw Apart.nil)) ?_
 refine WK.cr rfl (enters Tryz.func22 rfl rfl) (fun w hw => by
   exact tied_any (x := entT (e k)) (by omega)) ?_
 refine WK.p Pu.as ?_
 refine WK.n ?_
 refine TL.nil ?_
 refine TQ.blkN ?_
 refine TQ.thenN (hY10 _ _ ?_)
 refine TW.region ?_
 refine TL.p Pu.mv ?_
 refine TL.p Pu.ad ?_
 refine TL.p Pu.as ?_
 refine TL.nil ?_
 refine TQ.thenN (hZ0 (k + 1) _ _ ?_ ?_ (by rw [lgT_succ, tw_snoc]; repeat (first | exact trivial | refine ⟨rfl, ?_⟩ | refine ⟨trivial, ?_⟩)) ?_)
 exact ⟨by omega, by rw [lgE_succ, List.all_append, hall, List.all_cons, hok]; rfl⟩
 exact zom9
 exact ks9
 refine TW.region ?_
 refine TL.p (by first | exact Pu.fb ty_fa50_0 | exact Pu.fe ty_fa50_0) ?_
 refine TL.p (Pu.ld ty_sc3) ?_
 refine TL.cr rfl (enters Tryz.func29 rfl rfl) (fun w hw => by
   exact withinW_any _) ?_
 refine TL.p Pu.no ?_
 refine TL.p Pu.mv ?_
 refine TL.guard (t := 24) rfl (fun hg1 => ?_) (fun hg1 => ?_)
 refine TL.gs ?_
 refine TL.gs ?_
 refine TL.gs ?_
 refine TL.gs ?_
 refine TL.gs ?_
 refine TL.gs ?_
 refine TL.p Pu.kt ?_
 refine TL.p Pu.mv ?_
 refine TL.gs ?_
 refine TL.gs ?_
 refine TL.gs ?_
 refine TL.gs ?_
 refine TL.p Pu.kt ?_
 refine TL.nil ?_
 exact TQ.sub (by repeat (first | exact trivial | refine ⟨rfl, ?_⟩ | refine ⟨trivial, ?_⟩ | refine ⟨(by show some (Value.bool _) = some (Value.bool _); first | (simp [hg1]; done) | (refine congrArg (fun z => some (Value.bool z)) (Bool.eq_iff_iff.2 ?_); simp [hg1]; omega)), ?_⟩)) ks9 hJ1
 refine TL.gd (by first | exact Pu.fb ty_fa50_1 | exact Pu.fe ty_fa50_1) ?_
 refine TL.gd (Pu.ld ty_sc9) ?_
 refine TL.gd (by first | exact Pu.fb ty_fa50_2 | exact Pu.fe ty_fa50_2) ?_
 refine TL.gd (Pu.ld ty_sc48) ?_
 refine TL.cr rfl (enters Tryz.func30 rfl rfl) (fun w hw => by
   exact command_any (by omega)) ?_
 refine TL.gd Pu.no ?_
 refine TL.p Pu.kf ?_
 refine TL.p Pu.mv ?_
 refine TL.guard (t := 32) rfl (fun hg2 => ?_) (fun hg2 => ?_)
 refine TL.gs ?_
 refine TL.gs ?_
 refine TL.gs ?_
 refine TL.gs ?_
 refine TL.p Pu.kt ?_
 refine TL.nil ?_
 exact TQ.sub (by repeat (first | exact trivial | refine ⟨rfl, ?_⟩ | refine ⟨trivial, ?_⟩ | refine ⟨(by show some (Value.bool _) = some (Value.bool _); first | (simp [hg1, hg2]; done) | (refine congrArg (fun z => some (Value.bool z)) (Bool.eq_iff_iff.2 ?_); simp [hg1, hg2]; omega)), ?_⟩)) ks9 hJ1
 refine TL.gd (by first | exact Pu.fb ty_fa50_2 | exact Pu.fe ty_fa50_2) ?_
 refine TL.gd (Pu.ld ty_sc48) ?_
 refine TL.cr rfl (enters Tryz.func31 rfl rfl) (fun w hw => by
   exact said_any (by omega) (hAk.sat hw Apart.nil)) ?_
 refine TL.gd Pu.no ?_
 refine TL.p Pu.kf ?_
 refine TL.nil ?_
 exact TQ.sub (by repeat (first | exact trivial | refine ⟨rfl, ?_⟩ | refine ⟨trivial, ?_⟩ | refine ⟨(by show some (Value.bool _) = some (Value.bool _); first | (simp [hg1, hg2]; done) | (refine congrArg (fun z => some (Value.bool z)) (Bool.eq_iff_iff.2 ?_); simp [hg1, hg2]; omega)), ?_⟩)) ks9 hJ1
 try simp only [zcb9] at hc1
 obtain rfl : n = k := by omega
 have hl1 := lgTw_len hs hk (by omega) hall
 refine TW.exit ?_
 refine TQ.thenX ?_
 refine TQ.thenX ?_
 refine TQ.blkX ?_
 refine TQ.thenN (hY6 _ _ ?_)
 refine TW.seq fun Y15 hY15 => TW.region ?_
 refine TL.p Pu.mv ?_
 refine TL.p Pu.mv ?_
 refine TL.p (Pu.ln Tryz.underlying26) ?_
 refine TL.cr rfl (enters Tryz.func26 rfl rfl) (fun w hw => by
   exact ended_any (n := n) (by omega) (by omega)) ?_
 refine TL.p Pu.ex ?_
 refine TL.p Pu.ex ?_
 refine TL.p Pu.as ?_
 refine TL.p Pu.as ?_
 refine TL.nil (TQ.thenN (hY15 _ _ ?_))
 refine TW.ret ?_
 refine TQ.ret Tryz.results10 rfl ((.tmp rfl (.tmp rfl .nil))) ?_
 refine fun w hw => ⟨?_, Chg.ext hw.chg⟩
 unfold lgW
 rw [if_pos (by rw [Bool.and_eq_true, decide_eq_true_eq]; exact ⟨hn2, hall⟩), outL_eq, txt_eq]
 have e9 : ((((List.range n).map e).map entT).length : Int) = (n : Int) := by simp
 rw [e9]
 rfl
set_option maxRecDepth 100000 in
set_option maxHeartbeats 2000000 in
theorem logW_any (hP : Pow w) (hn : n ≤ 1000) (hI : LogIn w A n e EA EC) (hs : ∀ i, i < n → (e i).word.length ≤ 40 ∧ (e i).args.length ≤ 20) :
  Calls Tryz.prog 9 #[.slice A n cp] w (Ret w (.tuple #[sv (lgW e n).1, .int .i64 (lgW e n).2])) := by
 have hR := hI.rd
 refine K_enter (S := []) (K := []) Tryz.func9 rfl Tryz.ntmps9 rfl (Sat.start _) ?_
 refine TW.seq fun Y1 hY1 => TW.region ?_
 refine TL.p Pu.as ?_
 refine TL.p Pu.as ?_
 refine TL.nil (TQ.thenN (hY1 _ _ ?_))
 refine TW.seq fun Y2 hY2 => ?_
 refine TW.seq fun Y3 hY3 => TW.region ?_
 refine TL.p Pu.mv ?_
 refine TL.p (Pu.ln Tryz.underlying26) ?_
 refine TL.p Pu.gt ?_
 refine TL.nil (TQ.thenN (hY3 _ _ ?_))
 refine TW.cond rfl (fun hc0 => ?_) (fun hc0 => ?_)
 try simp only [zcb9] at hc0
 refine TW.seq fun Y4 hY4 => TW.region ?_
 refine TL.p Pu.as ?_
 refine TL.p Pu.as ?_
 refine TL.nil (TQ.thenN (hY4 _ _ ?_))
 refine TW.ret ?_
 refine TQ.thenR ?_
 refine TQ.ret Tryz.results9 rfl ((.tmp rfl (.tmp rfl .nil))) ?_
 refine fun w hw => ⟨?_, Chg.ext hw.chg⟩
 unfold lgW
 rw [if_neg (by simp; omega)]
 rfl
 try simp only [zcb9] at hc0
 have hn2 : n ≤ 200 := by omega
 refine TW.skip ?_
 refine TQ.thenN (hY2 _ _ ?_)
 refine TW.seq fun Y5 hY5 => TW.region ?_
 refine TL.p Pu.as ?_
 refine TL.nil (TQ.thenN (hY5 _ _ ?_))
 refine TW.seq fun Y6 hY6 => ?_
 refine TW.seq fun Y7 hY7 => TW.region ?_
 refine TL.p Pu.mv ?_
 refine TL.p (Pu.ln Tryz.underlying26) ?_
 refine TL.p Pu.mv ?_
 refine TL.nil (TQ.thenN (hY7 _ _ ?_))
 refine TW.block ?_
 refine TW.loop3 (fun (k : Nat) (B : Option Addr) (cb : Nat) => [(12, .int .i64 (k : Int)), (11, .int .i64 (n : Int)), (10, .slice A n cp), (4, .slice B k cb)]) (fun k B cb => [.own B k cb 9 1 (strL (lgT e k))]) (fun k B cb => k ≤ n ∧ (lgE e k).all entOk = true) (fun k B cb => n - k) 0 none 0 fs9 ?_ ?_ ?_
 exact KSub.nilOwn KSub.nil
 exact ⟨Nat.zero_le _, rfl⟩
 rintro k B cb ⟨hk, hall⟩ Z0 hZ0
 refine TW.seq fun Y8 hY8 => TW.region ?_
 refine TL.p Pu.lt ?_
 refine TL.nil (TQ.thenN (hY8 _ _ ?_))
 refine TW.seq fun Y9 hY9 => ?_
 refine TW.cond rfl (fun hc1 => ?_) (fun hc1 => ?_)
 try simp only [zcb9] at hc1
 have hkl : k < n := by omega
 have hs1 := hs k hkl
 have hAk := hI.args k hkl
 refine TW.skip ?_
 refine TQ.thenN (hY9 _ _ ?_)
 refine TW.seq fun Y10 hY10 => ?_
 refine TW.block ?_
 refine TW.seq fun Y11 hY11 => TW.region ?_
 refine TL.p (Pu.el ty_et26) ?_
 refine TL.p (Pu.lds ty_ag50) ?_
 refine TL.m (Mk.al ty_zr50) ?_
 intro b1
 first | refine TL.st ty_sz50 ?_ | refine TL.se ty_sz50 ?_
 refine TL.nil (TQ.thenN (hY11 _ _ ?_))
 refine TW.seq fun Y12 hY12 => ?_
 refine TW.seq fun Y13 hY13 => ?_
 refine TW.join [(34, .bool (!cmB (e k).word (e k).args.length || !wrB (e k).day || !(e k).args.all wrB))] ?_ (fun hJ1 => ?_)
 refine TQ.thenN (hY13 _ _ ?_)
 refine TW.cond rfl (fun hc2 => ?_) (fun hc2 => ?_)
 try simp only [zcb9] at hc2
 have hbad : entOk (e k) = false := by
  unfold entOk
  rw [Bool.and_eq_false_iff, Bool.and_eq_false_iff]
  rcases hc2 with (h | h) | h
  exact .inl (.inl h)
  exact .inl (.inr h)
  exact .inr h
 refine TW.seq fun Y14 hY14 => TW.region ?_
 refine TL.p Pu.as ?_
 refine TL.p Pu.as ?_
 refine TL.nil (TQ.thenN (hY14 _ _ ?_))
 refine TW.ret ?_
 refine TQ.thenR ?_
 refine TQ.blkR ?_
 refine TQ.thenR ?_
 refine TQ.thenR ?_
 refine TQ.blkR ?_
 refine TQ.thenR ?_
 refine TQ.ret Tryz.results9 rfl ((.tmp rfl (.tmp rfl .nil))) ?_
 refine fun w hw => ⟨?_, Chg.ext hw.chg⟩
 unfold lgW
 rw [if_neg (by
  rw [Bool.and_eq_true, List.all_eq_true]
  intro h9
  have := h9.2 (e k) (List.mem_map.2 ⟨k, List.mem_range.2 hkl, rfl⟩)
  rw [hbad] at this
  cases this)]
 rfl
 try simp only [zcb9] at hc2
 have hok : entOk (e k) = true := by
  unfold entOk
  rw [Bool.and_eq_true, Bool.and_eq_true]
  exact ⟨hc2.1, hc2.2⟩
 have hok2 := hok
 unfold entOk at hok2
 rw [Bool.and_eq_true, Bool.and_eq_true] at hok2
 obtain ⟨⟨_, hd⟩, ha⟩ := hok2
 have he1 := ent_l1 hd
 have he2 := ent_l2 hd hs1.1
 refine TW.skip ?_
 refine TQ.thenN (hY12 _ _ ?_)
 refine TW.dw 13 ?_
 refine RK.tk Pu.mv ?_
 refine RK.tk (by first | exact Pu.fb ty_fa50_0 | exact Pu.fe ty_fa50_0) ?_
 refine RK.tk (Pu.ld ty_sc3) ?_
 refine RK.keep ?_
 refine RK.keep ?_
 refine RK.keep ?_
 refine RK.tk (by first | exact Pu.fb ty_fa50_1 | exact Pu.fe ty_fa50_1) ?_
 refine RK.tk (Pu.ld ty_sc9) ?_
 refine RK.keep ?_
 refine RK.tk (by first | exact Pu.fb ty_fa50_2 | exact Pu.fe ty_fa50_2) ?_
 refine RK.tk (Pu.ld ty_sc48) ?_
 refine RK.keep ?_
 refine RK.keep ?_
 refine RK.ch [false, false, true, true, false, false] ?_ trivial
 refine WK.m Mk.bl ?_
 intro b2
 refine WK.cr rfl (enters Tryz.func19 rfl rfl) (fun w hw => by
   exact phrase_any (wd := [68]) (l := [(e k).day]) (hP.sat hw) (by decide) (by simp) (by simp [hd]) (RdR.blk (hw.holds (.blk _ 3 [.int .i64 (e k).day]) (Pick.mem pk9)) rfl (fun i hi => rfl))) ?_
 refine WK.p (Pu.sad rfl rfl (by show _ + 1 ≤ _; omega)) ?_
 refine WK.p (Pu.sw (Pu.sad rfl rfl (by rw [List.length_append]; show _ + 1 + _ ≤ _; omega)) ent_w1) ?_
 refine WK.cr rfl (enters Tryz.func19 rfl rfl) (fun w hw => by
   exact phrase_any (hP.sat hw) (by omega) (by omega) ha (hAk.sat hw Apart.nil)) ?_
 refine WK.m Mk.bl ?_
 intro b3
 refine WK.n ?_
 first | refine TL.a0 ty_et51 ?_ | refine TL.ap ty_et51 ?_
 intro A4 c4
 refine TL.p Pu.as ?_
 refine TL.nil ?_
 refine TQ.blkN ?_
 refine TQ.thenN (hY10 _ _ ?_)
 refine TW.region ?_
 refine TL.p Pu.ad ?_
 refine TL.p Pu.mv ?_
 refine TL.nil ?_
 refine TQ.thenN (hZ0 (k + 1) _ _ _ _ ?_ ?_ fs9 ?_)
 exact ⟨by omega, by rw [lgE_succ, List.all_append, hall, List.all_cons, hok]; rfl⟩
 exact zom9
 exact KSub.own pk9 (fun i hi => (strL_app (ls := lgT e k) (x := entT (e k)) lgT_len.symm i hi).trans (by rw [lgT_succ])) KSub.nil
 refine TW.region ?_
 refine TL.p (by first | exact Pu.fb ty_fa50_1 | exact Pu.fe ty_fa50_1) ?_
 refine TL.p (Pu.ld ty_sc9) ?_
 refine TL.p (by first | exact Pu.fb ty_fa50_2 | exact Pu.fe ty_fa50_2) ?_
 refine TL.p (Pu.ld ty_sc48) ?_
 refine TL.cr rfl (enters Tryz.func27 rfl rfl) (fun w hw => by
   exact known_any (by omega)) ?_
 refine TL.p Pu.no ?_
 refine TL.p Pu.mv ?_
 refine TL.guard (t := 22) rfl (fun hg1 => ?_) (fun hg1 => ?_)
 refine TL.gs ?_
 refine TL.gs ?_
 refine TL.gs ?_
 refine TL.gs ?_
 refine TL.gs ?_
 refine TL.p Pu.kt ?_
 refine TL.p Pu.mv ?_
 refine TL.gs ?_
 refine TL.gs ?_
 refine TL.gs ?_
 refine TL.gs ?_
 refine TL.p Pu.kt ?_
 refine TL.nil ?_
 exact TQ.sub (by repeat (first | exact trivial | refine ⟨rfl, ?_⟩ | refine ⟨trivial, ?_⟩ | refine ⟨(by show some (Value.bool _) = some (Value.bool _); first | (simp [hg1]; done) | (refine congrArg (fun z => some (Value.bool z)) (Bool.eq_iff_iff.2 ?_); simp [hg1]; omega)), ?_⟩)) ks9 hJ1
 refine TL.gd (by first | exact Pu.fb ty_fa50_0 | exact Pu.fe ty_fa50_0) ?_
 refine TL.gd (Pu.ld ty_sc3) ?_
 refine TL.gm Mk.bl ?_
 intro b5
 refine TL.cr rfl (enters Tryz.func28 rfl rfl) (fun w hw => by
   exact writtenOne_any (hw.holds (.blk _ 3 [.int .i64 (e k).day]) (Pick.mem pk9))) ?_
 refine TL.gd Pu.no ?_
 refine TL.p Pu.kf ?_
 refine TL.p Pu.mv ?_
 refine TL.guard (t := 29) rfl (fun hg2 => ?_) (fun hg2 => ?_)
 refine TL.gs ?_
 refine TL.gs ?_
 refine TL.gs ?_
 refine TL.gs ?_
 refine TL.p Pu.kt ?_
 refine TL.nil ?_
 exact TQ.sub (by repeat (first | exact trivial | refine ⟨rfl, ?_⟩ | refine ⟨trivial, ?_⟩ | refine ⟨(by show some (Value.bool _) = some (Value.bool _); first | (simp [hg1, hg2]; done) | (refine congrArg (fun z => some (Value.bool z)) (Bool.eq_iff_iff.2 ?_); simp [hg1, hg2]; omega)), ?_⟩)) ks9 hJ1
 refine TL.gd (by first | exact Pu.fb ty_fa50_2 | exact Pu.fe ty_fa50_2) ?_
 refine TL.gd (Pu.ld ty_sc48) ?_
 refine TL.cr rfl (enters Tryz.func28 rfl rfl) (fun w hw => by
   exact written_any (by omega) (hAk.sat hw Apart.nil)) ?_
 refine TL.gd Pu.no ?_
 refine TL.p Pu.kf ?_
 refine TL.nil ?_
 exact TQ.sub (by repeat (first | exact trivial | refine ⟨rfl, ?_⟩ | refine ⟨trivial, ?_⟩ | refine ⟨(by show some (Value.bool _) = some (Value.bool _); first | (simp [hg1, hg2]; done) | (refine congrArg (fun z => some (Value.bool z)) (Bool.eq_iff_iff.2 ?_); simp [hg1, hg2]; omega)), ?_⟩)) ks9 hJ1
 try simp only [zcb9] at hc1
 obtain rfl : n = k := by omega
 refine TW.exit ?_
 refine TQ.thenX ?_
 refine TQ.thenX ?_
 refine TQ.blkX ?_
 refine TQ.thenN (hY6 _ _ ?_)
 refine TW.seq fun Y15 hY15 => TW.region ?_
 refine TL.p Pu.mv ?_
 refine TL.cr rfl (enters Tryz.func20 rfl rfl) (fun w hw => by
   have h9 := twist_any (ls := lgT e n) (A := B) (cp := cb) (hP.sat hw) (by rw [lgT_len]; omega) (lgT_lens hs hk hall) (by rw [lgT_len]; exact OwnR.rdr (hw.own pk9))
   rw [lgT_len] at h9
   exact h9) ?_
 refine TL.p Pu.ex ?_
 refine TL.p Pu.ex ?_
 refine TL.p Pu.as ?_
 refine TL.p Pu.as ?_
 refine TL.nil (TQ.thenN (hY15 _ _ ?_))
 refine TW.ret ?_
 refine TQ.ret Tryz.results9 rfl ((.tmp rfl (.tmp rfl .nil))) ?_
 refine fun w hw => ⟨?_, Chg.ext hw.chg⟩
 unfold lgW
 rw [if_pos (by rw [Bool.and_eq_true, decide_eq_true_eq]; exact ⟨hn2, hall⟩)]
 rfl
end
end Go.Proofs.YtehlbkmebaideaaGreatDoor
namespace Go.Proofs.YtehlbkmebaideaaGreatDoor
set_option linter.all false
set_option linter.unusedVariables false
set_option linter.unusedSimpArgs false
open Go.RowKit Go.Lib
section
variable {R L A : Option Addr} {nr cr nl cl n cp : Nat} {f : Nat → Nat → Int} {g : Nat → Ltr} {e : Nat → Ent} {EA : Nat → Option Addr} {EC : Nat → Nat} {w : World}
theorem greatBook_any (h1 : nr ≤ 4611686018427387903) (h2 : nl ≤ 4611686018427387903) : Calls Tryz.prog 5 #[.agg #[.slice R nr cr, .slice L nl cl]] w (Ret w (.bool (decide (400 < nr + nl)))) := by
 refine K_enter (S := []) (K := []) Tryz.func5 rfl Tryz.ntmps5 rfl (Sat.start _) ?_
 refine TW.seq fun Y1 hY1 => TW.region ?_
 refine TL.m Mk.bx ?_
 intro b1
 refine TL.p Pu.as ?_
 refine TL.nil (TQ.thenN (hY1 _ _ ?_))
 refine TW.seq fun Y2 hY2 => TW.region ?_
 refine TL.p (by first | exact Pu.fb ty_fa25_0 | exact Pu.fe ty_fa25_0) ?_
 refine TL.p (Pu.ld ty_sc22) ?_
 refine TL.p (Pu.ln Tryz.underlying22) ?_
 refine TL.p (by first | exact Pu.fb ty_fa25_1 | exact Pu.fe ty_fa25_1) ?_
 refine TL.p (Pu.ld ty_sc23) ?_
 refine TL.p (Pu.ln Tryz.underlying23) ?_
 refine TL.p Pu.ad ?_
 refine TL.p Pu.gt ?_
 refine TL.p Pu.as ?_
 refine TL.nil (TQ.thenN (hY2 _ _ ?_))
 refine TW.ret ?_
 refine TQ.ret Tryz.results5 rfl ((.tmp rfl .nil)) ?_
 exact fun w hw => ⟨ret_bool (by rw [Bool.eq_iff_iff, decide_eq_true_eq, decide_eq_true_eq]; omega), Chg.ext hw.chg⟩
def bigE (x : Ent) : Bool := decide (20 < x.args.length) || decide (40 < x.word.length)
def bigL (e : Nat → Ent) (n : Nat) : Bool := decide (250 < n) || anyB n fun i => bigE (e i)
set_option maxRecDepth 100000 in
theorem greatLog_any (hI : LogIn w A n e EA EC) (hn : n ≤ 9223372036854775807) (hl : ∀ i, i < n → (e i).word.length ≤ 9223372036854775807 ∧ (e i).args.length ≤ 9223372036854775807) : Calls Tryz.prog 6 #[.slice A n cp] w (Ret w (.bool (bigL e n))) := by
 have hR := hI.rd
 refine K_enter (S := []) (K := []) Tryz.func6 rfl Tryz.ntmps6 rfl (Sat.start _) ?_
 refine TW.seq fun Y1 hY1 => TW.region ?_
 refine TL.p Pu.as ?_
 refine TL.nil (TQ.thenN (hY1 _ _ ?_))
 refine TW.seq fun Y2 hY2 => ?_
 refine TW.seq fun Y3 hY3 => TW.region ?_
 refine TL.p Pu.mv ?_
 refine TL.p (Pu.ln Tryz.underlying26) ?_
 refine TL.p Pu.gt ?_
 refine TL.nil (TQ.thenN (hY3 _ _ ?_))
 refine TW.cond rfl (fun hc0 => ?_) (fun hc0 => ?_)
 try simp only [zcb9] at hc0
 refine TW.seq fun Y4 hY4 => TW.region ?_
 refine TL.p Pu.as ?_
 refine TL.nil (TQ.thenN (hY4 _ _ ?_))
 refine TW.ret ?_
 refine TQ.thenR ?_
 refine TQ.ret Tryz.results6 rfl ((.tmp rfl .nil)) ?_
 exact fun w hw => ⟨ret_bool (by unfold bigL; rw [decide_eq_true (show 250 < n by omega)]; rfl), Chg.ext hw.chg⟩
 try simp only [zcb9] at hc0
 have hn2 : ¬ 250 < n := by omega
 refine TW.skip ?_
 refine TQ.thenN (hY2 _ _ ?_)
 refine TW.seq fun Y5 hY5 => ?_
 refine TW.seq fun Y6 hY6 => TW.region ?_
 refine TL.p Pu.as ?_
 refine TL.nil (TQ.thenN (hY6 _ _ ?_))
 refine TW.block ?_
 refine TW.loop1 (fun (k : Nat) => [(3, .int .i64 (k : Int)), (0, .slice A n cp)]) (fun k => []) (fun k => k ≤ n ∧ anyB k (fun i => bigE (e i)) = false) (fun k => n - k) 0 fs9 ?_ ?_ ?_
 exact ks9
 exact ⟨Nat.zero_le _, anyB_zero⟩
 rintro k ⟨hk, hall⟩ Z0 hZ0
 refine TW.seq fun Y7 hY7 => ?_
 refine TW.seq fun Y8 hY8 => TW.region ?_
 refine TL.p Pu.mv ?_
 refine TL.p Pu.mv ?_
 refine TL.p (Pu.ln Tryz.underlying26) ?_
 refine TL.p Pu.lt ?_
 refine TL.nil (TQ.thenN (hY8 _ _ ?_))
 refine TW.cond rfl (fun hc1 => ?_) (fun hc1 => ?_)
 try simp only [zcb9] at hc1
 have hkl : k < n := by omega
 have hb := hl k hkl
 refine TW.skip ?_
 refine TQ.thenN (hY7 _ _ ?_)
 refine TW.seq fun Y9 hY9 => ?_
 refine TW.block ?_
 refine TW.seq fun Y10 hY10 => ?_
 refine TW.join [(28, .bool (bigE (e k)))] ?_ (fun hJ1 => ?_)
 refine TQ.thenN (hY10 _ _ ?_)
 refine TW.cond rfl (fun hc2 => ?_) (fun hc2 => ?_)
 try simp only [zcb9] at hc2
 refine TW.seq fun Y11 hY11 => TW.region ?_
 refine TL.p Pu.as ?_
 refine TL.nil (TQ.thenN (hY11 _ _ ?_))
 refine TW.ret ?_
 refine TQ.blkR ?_
 refine TQ.thenR ?_
 refine TQ.thenR ?_
 refine TQ.blkR ?_
 refine TQ.thenR ?_
 refine TQ.ret Tryz.results6 rfl ((.tmp rfl .nil)) ?_
 refine fun w hw => ⟨ret_bool ?_, Chg.ext hw.chg⟩
 unfold bigL
 rw [decide_eq_false hn2, show anyB n (fun i => bigE (e i)) = true from List.any_eq_true.2 ⟨k, List.mem_range.2 hkl, hc2⟩]
 rfl
 try simp only [zcb9] at hc2
 refine TW.skip ?_
 refine TQ.blkN ?_
 refine TQ.thenN (hY9 _ _ ?_)
 refine TW.region ?_
 refine TL.p Pu.mv ?_
 refine TL.p Pu.ad ?_
 refine TL.p Pu.as ?_
 refine TL.nil ?_
 refine TQ.thenN (hZ0 (k + 1) _ _ ?_ ?_ fs9 ?_)
 exact ⟨by omega, by rw [anyB_succ, hall, hc2]; rfl⟩
 exact zom9
 exact ks9
 refine TW.region ?_
 refine TL.p Pu.mv ?_
 refine TL.p Pu.mv ?_
 refine TL.p (Pu.el ty_et26) ?_
 refine TL.p (by first | exact Pu.fb ty_fa50_2 | exact Pu.fe ty_fa50_2) ?_
 refine TL.p (Pu.ld ty_sc48) ?_
 refine TL.p (Pu.ln Tryz.underlying48) ?_
 refine TL.p (Pu.bv (b' := decide (20 < (e k).args.length)) Pu.gt (by rw [Bool.eq_iff_iff, decide_eq_true_eq, decide_eq_true_eq]; omega)) ?_
 refine TL.p Pu.mv ?_
 refine TL.guard (t := 20) rfl (fun hg1 => ?_) (fun hg1 => ?_)
 refine TL.gs ?_
 refine TL.gs ?_
 refine TL.gs ?_
 refine TL.gs ?_
 refine TL.gs ?_
 refine TL.gs ?_
 refine TL.gs ?_
 refine TL.p Pu.kt ?_
 refine TL.nil ?_
 exact TQ.sub (by repeat (first | exact trivial | refine ⟨rfl, ?_⟩ | refine ⟨trivial, ?_⟩ | refine ⟨(by show some (Value.bool _) = some (Value.bool _); first | (simp [hg1, bigE]; done) | (refine congrArg (fun z => some (Value.bool z)) (Bool.eq_iff_iff.2 ?_); simp [hg1, bigE]; omega)), ?_⟩)) ks9 hJ1
 refine TL.gd Pu.mv ?_
 refine TL.gd Pu.mv ?_
 refine TL.gd (Pu.el ty_et26) ?_
 refine TL.gd (by first | exact Pu.fb ty_fa50_1 | exact Pu.fe ty_fa50_1) ?_
 refine TL.gd (Pu.ld ty_sc9) ?_
 refine TL.gd (Pu.sln Tryz.underlying9) ?_
 refine TL.gd (Pu.bv (b' := decide (40 < (e k).word.length)) Pu.gt (by rw [Bool.eq_iff_iff, decide_eq_true_eq, decide_eq_true_eq]; omega)) ?_
 refine TL.p Pu.kf ?_
 refine TL.nil ?_
 exact TQ.sub (by repeat (first | exact trivial | refine ⟨rfl, ?_⟩ | refine ⟨trivial, ?_⟩ | refine ⟨(by show some (Value.bool _) = some (Value.bool _); first | (simp [hg1, bigE]; done) | (refine congrArg (fun z => some (Value.bool z)) (Bool.eq_iff_iff.2 ?_); simp [hg1, bigE]; omega)), ?_⟩)) ks9 hJ1
 try simp only [zcb9] at hc1
 obtain rfl : n = k := by omega
 refine TW.exit ?_
 refine TQ.thenX ?_
 refine TQ.thenX ?_
 refine TQ.blkX ?_
 refine TQ.thenN (hY5 _ _ ?_)
 refine TW.seq fun Y12 hY12 => TW.region ?_
 refine TL.p Pu.as ?_
 refine TL.nil (TQ.thenN (hY12 _ _ ?_))
 refine TW.ret ?_
 refine TQ.ret Tryz.results6 rfl ((.tmp rfl .nil)) ?_
 refine fun w hw => ⟨ret_bool ?_, Chg.ext hw.chg⟩
 unfold bigL
 rw [decide_eq_false hn2, hall]
 rfl
theorem bigL_no (h : bigL e n = false) : n ≤ 250 ∧ ∀ i, i < n → (e i).word.length ≤ 40 ∧ (e i).args.length ≤ 20 := by
 unfold bigL at h
 rw [Bool.or_eq_false_iff, decide_eq_false_iff_not] at h
 refine ⟨by omega, fun i hi => ?_⟩
 have h1 := List.any_eq_false.1 h.2 i (List.mem_range.2 hi)
 unfold bigE at h1
 rw [Bool.not_eq_true, Bool.or_eq_false_iff, decide_eq_false_iff_not, decide_eq_false_iff_not] at h1
 omega
set_option maxRecDepth 100000 in
set_option maxHeartbeats 2000000 in
theorem lawWrites_any (hP : Pow w) (hR : RdR w 14 R nr (fun i => rwL (f i))) (hL : RdR w 8 L nl (fun i => ltL (g i))) (hk : ∀ i, i < nl → 0 ≤ (g i).kind ∧ (g i).kind ≤ 255) (hr1 : nr ≤ 4611686018427387903) (hr2 : nl ≤ 4611686018427387903)
  (hI : LogIn w A n e EA EC) (hn : n ≤ 9223372036854775807) (hl : ∀ i, i < n → (e i).word.length ≤ 9223372036854775807 ∧ (e i).args.length ≤ 9223372036854775807) :
  Calls Tryz.prog 3 #[.agg #[.slice R nr cr, .slice L nl cl], .slice A n cp] w (Ret w (.bool true)) := by
 refine K_enter (S := []) (K := []) Tryz.func3 rfl Tryz.ntmps3 rfl (Sat.start _) ?_
 refine TW.seq fun Y1 hY1 => TW.region ?_
 refine TL.m Mk.bx ?_
 intro b1
 refine TL.p Pu.as ?_
 refine TL.nil (TQ.thenN (hY1 _ _ ?_))
 refine TW.seq fun Y2 hY2 => ?_
 refine TW.seq fun Y3 hY3 => TW.region ?_
 refine TL.p (Pu.lds ty_ag25) ?_
 refine TL.cr rfl (enters Tryz.func5 rfl rfl) (fun w hw => by
   exact greatBook_any hr1 hr2) ?_
 refine TL.p Pu.mv ?_
 refine TL.guard (t := 15) rfl (fun hg1 => ?_) (fun hg1 => ?_)
 refine TL.gs ?_
 refine TL.gs ?_
 refine TL.p Pu.kt ?_
 refine TL.nil (TQ.thenN (hY3 _ _ ?_))
 refine TW.condT rfl rfl ?_
 refine TW.seq fun Y4 hY4 => TW.region ?_
 refine TL.p Pu.as ?_
 refine TL.nil (TQ.thenN (hY4 _ _ ?_))
 refine TW.ret ?_
 refine TQ.thenR ?_
 refine TQ.ret Tryz.results3 rfl ((.tmp rfl .nil)) ?_
 exact fun w hw => Ret.of hw
 refine TL.gd Pu.mv ?_
 refine TL.cr rfl (enters Tryz.func6 rfl rfl) (fun w hw => by
   exact greatLog_any (hI.sat hw) hn hl) ?_
 refine TL.p Pu.kf ?_
 refine TL.nil (TQ.thenN (hY3 _ _ ?_))
 refine TW.cond rfl (fun hc0 => ?_) (fun hc0 => ?_)
 try simp only [zcb9] at hc0
 refine TW.seq fun Y5 hY5 => TW.region ?_
 refine TL.p Pu.as ?_
 refine TL.nil (TQ.thenN (hY5 _ _ ?_))
 refine TW.ret ?_
 refine TQ.thenR ?_
 refine TQ.ret Tryz.results3 rfl ((.tmp rfl .nil)) ?_
 exact fun w hw => Ret.of hw
 try simp only [zcb9] at hc0
 have hb : nr + nl ≤ 1000 := by have h9 := hg1; rw [decide_eq_false_iff_not] at h9; omega
 obtain ⟨hn2, hs⟩ := bigL_no hc0
 refine TW.skip ?_
 refine TQ.thenN (hY2 _ _ ?_)
 refine TW.seq fun Y6 hY6 => TW.region ?_
 refine TL.p (Pu.lds ty_ag25) ?_
 refine TL.cr rfl (enters Tryz.func7 rfl rfl) (fun w hw => by
   exact bookW_any (hP.sat hw) hb (hR.sat hw Apart.nil) (hL.sat hw Apart.nil) hk) ?_
 refine TL.p Pu.mv ?_
 refine TL.p Pu.ex ?_
 refine TL.p Pu.ex ?_
 refine TL.p Pu.as ?_
 refine TL.p Pu.as ?_
 refine TL.nil (TQ.thenN (hY6 _ _ ?_))
 refine TW.seq fun Y7 hY7 => TW.region ?_
 refine TL.p (Pu.lds ty_ag25) ?_
 refine TL.cr rfl (enters Tryz.func8 rfl rfl) (fun w hw => by
   exact refBookW_any hb (hR.sat hw Apart.nil) (hL.sat hw Apart.nil) hk) ?_
 refine TL.p Pu.mv ?_
 refine TL.p Pu.ex ?_
 refine TL.p Pu.ex ?_
 refine TL.p Pu.as ?_
 refine TL.p Pu.as ?_
 refine TL.nil (TQ.thenN (hY7 _ _ ?_))
 refine TW.seq fun Y8 hY8 => TW.region ?_
 refine TL.p Pu.mv ?_
 refine TL.cr rfl (enters Tryz.func9 rfl rfl) (fun w hw => by
   exact logW_any (hP.sat hw) (by omega) (hI.sat hw) hs) ?_
 refine TL.p Pu.mv ?_
 refine TL.p Pu.ex ?_
 refine TL.p Pu.ex ?_
 refine TL.p Pu.as ?_
 refine TL.p Pu.as ?_
 refine TL.nil (TQ.thenN (hY8 _ _ ?_))
 refine TW.seq fun Y9 hY9 => TW.region ?_
 refine TL.p Pu.mv ?_
 refine TL.cr rfl (enters Tryz.func10 rfl rfl) (fun w hw => by
   exact refLogW_any (by omega) (hI.sat hw) hs) ?_
 refine TL.p Pu.mv ?_
 refine TL.p Pu.ex ?_
 refine TL.p Pu.ex ?_
 refine TL.p Pu.as ?_
 refine TL.p Pu.as ?_
 refine TL.nil (TQ.thenN (hY9 _ _ ?_))
 refine TW.seq fun Y10 hY10 => TW.region ?_
 refine TL.p Pu.mv ?_
 refine TL.p Pu.mv ?_
 refine TL.p Pu.seq_ ?_
 refine TL.lit (t := 41) (b' := true) rfl ((decide_eq_true rfl)) ?_
 refine TL.p Pu.mv ?_
 refine TL.gd Pu.mv ?_
 refine TL.gd Pu.mv ?_
 refine TL.gd Pu.eq ?_
 refine TL.lit (t := 45) (b' := true) rfl ((decide_eq_true rfl)) ?_
 refine TL.p Pu.kt ?_
 refine TL.p Pu.mv ?_
 refine TL.gd Pu.mv ?_
 refine TL.gd Pu.mv ?_
 refine TL.gd Pu.seq_ ?_
 refine TL.lit (t := 50) (b' := true) rfl ((decide_eq_true rfl)) ?_
 refine TL.p Pu.kt ?_
 refine TL.p Pu.mv ?_
 refine TL.gd Pu.mv ?_
 refine TL.gd Pu.mv ?_
 refine TL.gd Pu.eq ?_
 refine TL.lit (t := 55) (b' := true) rfl ((decide_eq_true rfl)) ?_
 refine TL.p Pu.kt ?_
 refine TL.p Pu.as ?_
 refine TL.nil (TQ.thenN (hY10 _ _ ?_))
 refine TW.ret ?_
 refine TQ.ret Tryz.results3 rfl ((.tmp rfl .nil)) ?_
 exact fun w hw => Ret.of hw
end
end Go.Proofs.YtehlbkmebaideaaGreatDoor
namespace Go.Proofs.YtehlbkmebaideaaGreatDoor
set_option linter.all false
set_option linter.unusedVariables false
set_option linter.unusedSimpArgs false
open Go.ChangeShapes Go.WideShapes Go.RowKit Go.Deep
section
variable {H : Type} {enc : TypeId × Value → H} {P : Program} {w : World} {base : Nat} {spare : Nat → Bool} {held : Bool}
theorem open_slice_any {t e : TypeId} {fuel : Nat} {cs : List Value} {x : DataW H × List MemPlace} {sz : Nat} (ht : P.underlying t = some (.slice e)) (hC : P.cellsOf e = sz) (h0 : Nat.blt 0 sz = true) (h : DataW.trod enc P w base spare held fuel t cs = some x) :
    ∃ (A : Option Addr) (len cap : Nat) (G : Nat → List Value), cs = [.slice A len cap] ∧ RdR w sz A len G ∧ (∀ i, i < len → ∃ n y, DataW.trod enc P w base spare held n e (G i) = some y) ∧ (A = none → len = 0 ∧ cap = 0) ∧ len ≤ cap ∧ cap ≤ maxLen := by
  have h0 : 0 < sz := Nat.le_of_ble_eq_true h0
  rcases open_slice ht h with ⟨rfl, rfl⟩ | ⟨a, len, cap, m, n, D, Pl, rfl, hb, hl, hm, hmm, _, hi⟩
  · exact ⟨none, 0, 0, fun _ => [], rfl, ⟨Rd.nil, fun i hi => by omega⟩, fun i hi => by omega, fun _ => ⟨rfl, rfl⟩, Nat.le_refl _, Nat.zero_le _⟩
  · have hlm : len ≤ m := by rw [hmm]; split <;> omega
    have key : ∀ i, i < len → ∃ cs' : List Value, cs'.length = sz ∧ (∀ j, j < sz → w.cell? (a.add (i * sz + j)) = cs'[j]?) ∧ ∃ n y, DataW.trod enc P w base spare held n e cs' = some y := fun i hil => by
      obtain ⟨cs', hc, hx⟩ := hi i (by omega)
      obtain ⟨_, hcl, hat⟩ := World.cells?_some hc
      refine ⟨cs', by rw [hcl, hC], fun j hj => ?_, n, _, hx⟩
      have := hat j (by rw [hC]; exact hj)
      rw [hC] at this
      rw [← this, ← add_add]
    refine ⟨some a, len, cap, fun i => if hi : i < len then (key i hi).choose else [], rfl, ⟨fun hn => ?_, fun i hi => ?_⟩, fun i hi => ?_, fun h => (by cases h), hl, hm⟩
    · have h1 := (key 0 hn).choose_spec.2.1 0 h0
      have hsome : ((key 0 hn).choose)[0]? = some ((key 0 hn).choose[0]'(by rw [(key 0 hn).choose_spec.1]; exact h0)) := List.getElem?_eq_getElem _
      rw [hsome] at h1
      have hadd : a.add (0 * sz + 0) = a := by simp [Addr.add]
      rw [hadd] at h1
      have hsp : a.spot = none := by
        unfold World.cell? at h1
        split at h1
        · cases hs : a.spot with
          | none => rfl
          | some s => simp [hs] at h1
        · cases h1
      have hlt : a.block < w.heap.size := World.block_lt_of_cell? w a h1
      obtain ⟨b, o, s⟩ := a
      simp only at hsp
      subst hsp
      refine ⟨b, o, rfl, hlt, fun i j hi hj => ?_⟩
      have h2 := (key i hi).choose_spec.2.1 j hj
      rw [add_plain] at h2
      rw [show o + i * sz + j = o + (i * sz + j) by omega, h2]
      simp only [rowF, hi, dite_true]
      have hl2 : j < (key i hi).choose.length := by rw [(key i hi).choose_spec.1]; exact hj
      rw [List.getD_eq_getElem?_getD, List.getElem?_eq_getElem hl2]
      rfl
    · simp only [hi, dite_true]
      exact (key i hi).choose_spec.1
    · simp only [hi, dite_true]
      exact (key i hi).choose_spec.2.2
theorem trod_fields {t : TypeId} {fs : Array Field} {fuel : Nat} {cs : List Value} {x : DataW H × List MemPlace} (ht : P.underlying t = some (.struct fs)) (h : DataW.trod enc P w base spare held fuel t cs = some x) :
  cs.length = P.cellsOf t ∧ ∀ (i : Nat) (f : Field), fs[i]? = some f → ∃ n y, DataW.trod enc P w base spare held n f.type ((cs.drop f.offset).take (P.cellsOf f.type)) = some y := by
 obtain ⟨xs, n, _, _, hlen, hxl, hf⟩ := DataW.trod_struct ht h
 refine ⟨hlen, fun i f hi => ?_⟩
 have h1 := hf i f hi
 have hi' : i < fs.size := (Array.getElem?_eq_some_iff.1 hi).1
 rw [List.getElem?_eq_getElem (by omega)] at h1
 exact ⟨n, _, h1⟩
theorem open_ints_in {t e : TypeId} {k : IntKind} {fuel : Nat} {cs : List Value} {x : DataW H × List MemPlace} (ht : P.underlying t = some (.slice e)) (he : P.underlying e = some (.int k)) (hC : P.cellsOf e = 1) (h : DataW.trod enc P w base spare held fuel t cs = some x) :
  ∃ (A : Option Addr) (len cap : Nat) (v : Nat → Int), cs = [.slice A len cap] ∧ RdR w 1 A len (fun q => [.int k (v q)]) ∧ (A = none → len = 0 ∧ cap = 0) ∧ len ≤ cap ∧ cap ≤ maxLen := by
 obtain ⟨A, len, cap, g, rfl, hg, hR, h1, h2, h3⟩ := open_flat_slice (ks := [k]) 1 ht (by simp only [kindsF, he]) hC rfl h
 refine ⟨A, len, cap, fun q => gi (g q) 0, rfl, ⟨hR.rd.congr fun i j hi hj => ?_, fun i hi => rfl⟩, h1, h2, h3⟩
 show (ints [k] (g i)).getD j undef = _
 rw [ints_rowK [k] (g i) (hg i hi)]
 rfl
end
end Go.Proofs.YtehlbkmebaideaaGreatDoor
namespace Go.Proofs.YtehlbkmebaideaaGreatDoor
set_option linter.all false
set_option linter.unusedVariables false
set_option linter.unusedSimpArgs false
open Go.ChangeShapes Go.WideShapes Go.ChangeAt Go.RowKit Go.Deep
theorem Tryz.own : ownKnob Tryz.prog.godebug = none := by kernel_rfl
theorem Tryz.laidOut : laidOutB Tryz.prog = true := by kernel_rfl
theorem wf_inE {k : IntKind} {n : Int} (h : (Lit.int k n).wf = true) : k.min ≤ n ∧ n ≤ k.max := by simpa [Lit.wf] using h
theorem u8_inE {n : Int} (h : (Lit.int .u8 n).wf = true) : 0 ≤ n ∧ n ≤ 255 := wf_inE h
section
variable {H : Type} {enc : TypeId × Value → H} {w : World} {base : Nat} {spare : Nat → Bool} {held : Bool}
theorem rows_chooseE {α : Type} {n sz : Nat} {A : Option Addr} {G : Nat → List Value} {F : α → List Value} {q : Nat → α → Prop} (d : α) (hR : RdR w sz A n G) (h : ∀ i, i < n → ∃ x, G i = F x ∧ q i x) : ∃ r : Nat → α, RdR w sz A n (fun i => F (r i)) ∧ ∀ i, i < n → q i (r i) := by
 have hch : ∀ i, ∃ x, i < n → G i = F x ∧ q i x := fun i => by
  by_cases hi : i < n
  · obtain ⟨x, hx⟩ := h i hi
    exact ⟨x, fun _ => hx⟩
  · exact ⟨d, fun h => absurd h hi⟩
 obtain ⟨r, hr⟩ := Classical.axiomOfChoice hch
 exact ⟨r, ⟨hR.rd.congr fun i j hi hj => by simp only [rowF, (hr i hi).1], fun i hi => by rw [← (hr i hi).1]; exact hR.len i hi⟩, fun i hi => (hr i hi).2⟩
theorem slice_reach {P : Program} {t e : TypeId} {fuel : Nat} {x : DataW H × List MemPlace} {A : Option Addr} {len cap : Nat} (ht : P.underlying t = some (.slice e)) (h : DataW.trod enc P w base spare held fuel t [.slice A len cap] = some x) (hz : ∀ n, n ∈ x.1.weights P t → n ≤ reachBytes) (hb : Nat.ble 1 (P.bytesOf e) = true) : len ≤ reachBytes := by
 have hb := Nat.le_of_ble_eq_true hb
 rcases open_slice ht h with ⟨e0, _⟩ | ⟨a, len', cap', m, n, D, Pl, e0, _, hl, hm, hmm, ex, _⟩
 · simp only [List.cons.injEq, Value.slice.injEq, and_true] at e0
   rw [e0.2.1]
   exact Nat.zero_le _
 · simp only [List.cons.injEq, Value.slice.injEq, and_true] at e0
   obtain ⟨_, rfl, _⟩ := e0
   have h1 := hz ((len + (m - len)) * P.bytesOf e) (by rw [ex]; simp [DataW.weights, ht])
   have h2 : len * 1 ≤ (len + (m - len)) * P.bytesOf e := Nat.mul_le_mul (by omega) hb
   omega
set_option maxRecDepth 100000 in
theorem letter_of_trod {fuel : Nat} {G : List Value} {y : DataW H × List MemPlace} (hl : G.length = 8) (hy : DataW.trod enc Tryz.prog w base spare held fuel 66 G = some y) : ∃ x : Ltr, G = ltL x ∧ 0 ≤ x.kind ∧ x.kind ≤ 255 := by
  obtain ⟨_, hf⟩ := trod_fields Tryz.underlying66 hy
  obtain ⟨n0, y0, h0⟩ := hf 0 _ rfl
  obtain ⟨n1, y1, h1⟩ := hf 1 _ rfl
  obtain ⟨n2, y2, h2⟩ := hf 2 _ rfl
  obtain ⟨n3, y3, h3⟩ := hf 3 _ rfl
  obtain ⟨n4, y4, h4⟩ := hf 4 _ rfl
  obtain ⟨n5, y5, h5⟩ := hf 5 _ rfl
  obtain ⟨n6, y6, h6⟩ := hf 6 _ rfl
  obtain ⟨n7, y7, h7⟩ := hf 7 _ rfl
  obtain ⟨k0, e0, _, _⟩ := DataW.trod_int Tryz.underlying3 h0
  obtain ⟨k1, e1, _, _⟩ := DataW.trod_int Tryz.underlying3 h1
  obtain ⟨k2, e2, _, wf⟩ := DataW.trod_int Tryz.underlying5 h2
  obtain ⟨k3, e3, _, _⟩ := DataW.trod_int Tryz.underlying3 h3
  obtain ⟨k4, e4, _, _⟩ := DataW.trod_int Tryz.underlying3 h4
  obtain ⟨k5, e5, _, _⟩ := DataW.trod_int Tryz.underlying3 h5
  obtain ⟨k6, e6, _, _⟩ := DataW.trod_int Tryz.underlying3 h6
  obtain ⟨m, e7, _⟩ := DataW.trod_bool Tryz.underlying4 h7
  have hc1 : Tryz.prog.cellsOf 3 = 1 := by kernel_rfl
  have hc2 : Tryz.prog.cellsOf 4 = 1 := by kernel_rfl
  have hc3 : Tryz.prog.cellsOf 5 = 1 := by kernel_rfl
  match G, hl with
  | [x0, x1, x2, x3, x4, x5, x6, x7], _ =>
    have e0 : [x0] = [.int .i64 k0] := by simpa [hc1] using e0
    have e1 : [x1] = [.int .i64 k1] := by simpa [hc1] using e1
    have e2 : [x2] = [.int .u8 k2] := by simpa [hc3] using e2
    have e3 : [x3] = [.int .i64 k3] := by simpa [hc1] using e3
    have e4 : [x4] = [.int .i64 k4] := by simpa [hc1] using e4
    have e5 : [x5] = [.int .i64 k5] := by simpa [hc1] using e5
    have e6 : [x6] = [.int .i64 k6] := by simpa [hc1] using e6
    have e7 : [x7] = [.bool m] := by simpa [hc2] using e7
    cases e0; cases e1; cases e2; cases e3; cases e4; cases e5; cases e6; cases e7
    exact ⟨⟨k0, k1, k2, k3, k4, k5, k6, m⟩, rfl, u8_inE wf⟩
theorem sv_bytes {s : ByteArray} : Value.string s = sv s.data.toList := by
 cases s
 simp [sv]
set_option maxRecDepth 100000 in
theorem entry_of_trod {fuel : Nat} {G : List Value} {y : DataW H × List MemPlace} (hl : G.length = 3) (hy : DataW.trod enc Tryz.prog w base spare held fuel 50 G = some y) : ∃ x : Ent × Option Addr × Nat, G = enL x.1 x.2.1 x.2.2 ∧ RdR w 1 x.2.1 x.1.args.length (iL x.1.args) ∧ x.1.word.length ≤ 9223372036854775807 ∧ x.1.args.length ≤ 9223372036854775807 := by
  obtain ⟨_, hf⟩ := trod_fields Tryz.underlying50 hy
  obtain ⟨n0, y0, h0⟩ := hf 0 _ rfl
  obtain ⟨n1, y1, h1⟩ := hf 1 _ rfl
  obtain ⟨n2, y2, h2⟩ := hf 2 _ rfl
  obtain ⟨k0, e0, _, _⟩ := DataW.trod_int Tryz.underlying3 h0
  obtain ⟨s, e1, _, hs⟩ := DataW.trod_string Tryz.underlying9 h1
  obtain ⟨a, l, c, v, e2, hR, _, hlc, hcm⟩ := open_ints_in Tryz.underlying48 Tryz.underlying3 (by kernel_rfl) h2
  have hc1 : Tryz.prog.cellsOf 3 = 1 := by kernel_rfl
  have hc2 : Tryz.prog.cellsOf 9 = 1 := by kernel_rfl
  have hc3 : Tryz.prog.cellsOf 48 = 1 := by kernel_rfl
  match G, hl with
  | [x0, x1, x2], _ =>
    have e0 : [x0] = [.int .i64 k0] := by simpa [hc1] using e0
    have e1 : [x1] = [.string s] := by simpa [hc2] using e1
    have e2 : [x2] = [.slice a l c] := by simpa [hc3] using e2
    cases e0; cases e1; cases e2
    refine ⟨(⟨k0, s.data.toList, toI v l⟩, a, c), ?_, hR.toI, ?_, ?_⟩
    · show [Value.int .i64 k0, .string s, .slice a l c] = [.int .i64 k0, sv s.data.toList, .slice a (toI v l).length c]
      rw [← sv_bytes, toI_len]
    · show s.data.toList.length ≤ _
      have h9 : s.data.toList.length = s.size := by rw [Array.length_toList]; rfl
      rw [h9]
      unfold maxLen at hs
      omega
    · show (toI v l).length ≤ _
      rw [toI_len]
      unfold maxLen at hcm
      omega
set_option maxRecDepth 100000 in
theorem open_book {r : Reach} {b0 : Nat} {v : Value} {dd : DataW H} {p : List MemPlace} (hv : Value.okWide Tryz.prog w r b0 25 v) (h : DataW.Trod enc Tryz.prog w base spare held 25 v dd p) (hz : ∀ n, n ∈ dd.weights Tryz.prog 25 → n ≤ reachBytes) :
    ∃ (R : Option Addr) (nr cr : Nat) (f : Nat → Nat → Int) (L : Option Addr) (nl cl : Nat) (g : Nat → Ltr), v = .agg #[.slice R nr cr, .slice L nl cl] ∧ RdR w 14 R nr (fun i => rwL (f i)) ∧ RdR w 8 L nl (fun i => ltL (g i)) ∧ (∀ i, i < nl → 0 ≤ (g i).kind ∧ (g i).kind ≤ 255) ∧ nr ≤ reachBytes ∧ nl ≤ reachBytes := by
  obtain ⟨cs, rfl, hlen⟩ := okWide_struct Tryz.underlying25 hv
  obtain ⟨fuel, hf⟩ := h
  obtain ⟨xs, n, _, hx, hl, hxl, hfs⟩ := DataW.trod_struct Tryz.underlying25 hf
  have h0 := hfs 0 _ rfl
  have h1 := hfs 1 _ rfl
  match xs, hxl with
  | [y0, y1], _ =>
    have hx := congrArg Prod.fst hx
    have hx : dd = .agg [y0.1, y1.1] := hx
    subst hx
    have hc : Tryz.prog.cellsOf 22 = 1 := by kernel_rfl
    have hc2 : Tryz.prog.cellsOf 23 = 1 := by kernel_rfl
    have hcb : Tryz.prog.cellsOf 25 = 2 := by kernel_rfl
    rw [hcb] at hl
    obtain ⟨cl0⟩ := cs
    match cl0, hl with
    | [c0, c1], _ =>
      have h0 : DataW.trod enc Tryz.prog w base spare held n 22 [c0] = some y0 := by simpa [hc, Value.cells] using h0
      have h1 : DataW.trod enc Tryz.prog w base spare held n 23 [c1] = some y1 := by simpa [hc2, Value.cells] using h1
      have z0 : ∀ k, k ∈ y0.1.weights Tryz.prog 22 → k ≤ reachBytes := fun k hk => hz k (by
        simp only [DataW.weights, Tryz.underlying25]
        exact DataW.weights_mem_each (j := 0) rfl rfl k hk)
      have z1 : ∀ k, k ∈ y1.1.weights Tryz.prog 23 → k ≤ reachBytes := fun k hk => hz k (by
        simp only [DataW.weights, Tryz.underlying25]
        exact DataW.weights_mem_each (j := 1) rfl rfl k hk)
      obtain ⟨R, nr, cr, gg, e0, hg, hR0, _⟩ := open_flat_slice (ks := List.replicate 14 .i64) 3 Tryz.underlying22 (by kernel_rfl) (by kernel_rfl) rfl h0
      obtain ⟨L, nl, cl, G, e1, hR1, hel, _⟩ := open_slice_any (sz := 8) Tryz.underlying23 (by kernel_rfl) rfl h1
      obtain ⟨x, hx, hq⟩ := rows_chooseE (F := ltL) (q := fun _ x => 0 ≤ x.kind ∧ x.kind ≤ 255) ⟨0, 0, 0, 0, 0, 0, 0, false⟩ hR1 (fun i hi => by
        obtain ⟨n, y, hy⟩ := hel i hi
        exact letter_of_trod (hR1.len i hi) hy)
      cases e0; cases e1
      exact ⟨R, nr, cr, fun i => gi (gg i), L, nl, cl, x, rfl, hR0.rowK hg, hx, hq, slice_reach Tryz.underlying22 h0 z0 (by kernel_rfl), slice_reach Tryz.underlying23 h1 z1 (by kernel_rfl)⟩
set_option maxRecDepth 100000 in
theorem open_log {r : Reach} {b0 : Nat} {v : Value} {dd : DataW H} {p : List MemPlace} (hv : Value.okWide Tryz.prog w r b0 26 v) (h : DataW.Trod enc Tryz.prog w base spare held 26 v dd p) :
  ∃ (A : Option Addr) (n cp : Nat) (e : Nat → Ent) (EA : Nat → Option Addr) (EC : Nat → Nat), v = .slice A n cp ∧ LogIn w A n e EA EC ∧ n ≤ 9223372036854775807 ∧ ∀ i, i < n → (e i).word.length ≤ 9223372036854775807 ∧ (e i).args.length ≤ 9223372036854775807 := by
 obtain ⟨A0, n0, c0, rfl⟩ := okWide_slice Tryz.underlying26 hv
 obtain ⟨fuel, h⟩ := h
 obtain ⟨A, m, cp, G, e, hR, hel, _, hc, hcm⟩ := open_slice_any (sz := 3) Tryz.underlying26 (by kernel_rfl) rfl h
 simp only [Value.cells, List.cons.injEq, Value.slice.injEq, and_true] at e
 obtain ⟨rfl, rfl, rfl⟩ := e
 obtain ⟨x, hx, hq⟩ := rows_chooseE (F := fun x : Ent × Option Addr × Nat => enL x.1 x.2.1 x.2.2) (q := fun _ x => RdR w 1 x.2.1 x.1.args.length (iL x.1.args) ∧ x.1.word.length ≤ 9223372036854775807 ∧ x.1.args.length ≤ 9223372036854775807) (⟨0, [], []⟩, none, 0) hR (fun i hi => by
  obtain ⟨n, y, hy⟩ := hel i hi
  exact entry_of_trod (hR.len i hi) hy)
 refine ⟨A0, n0, c0, fun i => (x i).1, fun i => (x i).2.1, fun i => (x i).2.2, rfl, ⟨hx, fun i hi => (hq i hi).1⟩, ?_, fun i hi => (hq i hi).2⟩
 unfold maxLen at hcm
 omega
end
end Go.Proofs.YtehlbkmebaideaaGreatDoor
namespace Go.Proofs.YtehlbkmebaideaaGreatDoor
set_option linter.all false
set_option linter.unusedVariables false
set_option linter.unusedSimpArgs false
open Go.RowKit
set_option maxRecDepth 100000
theorem leaderWrites_f2 : mapsRowed Tryz.prog = true := by kernel_rfl
theorem leaderWrites_f9 : (Rows.leaderWritesRow.inPlace == Tryz.prog.inPlace 3) = true := by kernel_rfl
theorem leaderWrites_f10 : (Rows.leaderWritesRow.unfollowed == Tryz.prog.unfollowed 3) = true := by kernel_rfl
theorem leaderWrites_f11 : (Rows.leaderWritesRow.recurses == Tryz.prog.recurses 3) = true := by kernel_rfl
theorem leaderWrites_f12 : (Rows.leaderWritesRow.named == Tryz.prog.varsNamed 3) = true := by kernel_rfl
theorem leaderWrites_f22 : (Rows.leaderWritesRow.plainKeys == Tryz.prog.plainKeys) = true := by kernel_rfl
theorem leaderWrites_f24 : Tryz.prog.stopsHeard = true := by kernel_rfl
theorem leaderWrites_f25 : Tryz.prog.mayEnter = true := by kernel_rfl
theorem leaderWrites_closed : joinedFacts Tryz.prog 3 Tryz.f3 Rows.leaderWritesSpec Rows.leaderWritesRow = true := by
 unfold joinedFacts
 simp only [Bool.and_eq_true]
 refine ⟨⟨⟨⟨⟨⟨⟨⟨⟨⟨⟨⟨⟨⟨⟨⟨⟨⟨⟨⟨⟨⟨⟨⟨⟨⟨⟨⟨⟨⟨⟨?_, ?_⟩, ?_⟩, ?_⟩, ?_⟩, ?_⟩, ?_⟩, ?_⟩, ?_⟩, ?_⟩, ?_⟩, ?_⟩, ?_⟩, ?_⟩, ?_⟩, ?_⟩, ?_⟩, ?_⟩, ?_⟩, ?_⟩, ?_⟩, ?_⟩, ?_⟩, ?_⟩, ?_⟩, ?_⟩, ?_⟩, ?_⟩, ?_⟩, ?_⟩, ?_⟩, ?_⟩
 · kernel_rfl
 · exact Tryz.laidOut
 · exact leaderWrites_f2
 · kernel_rfl
 · kernel_rfl
 · kernel_rfl
 · kernel_rfl
 · kernel_rfl
 · kernel_rfl
 · exact leaderWrites_f9
 · exact leaderWrites_f10
 · exact leaderWrites_f11
 · exact leaderWrites_f12
 · kernel_rfl
 · kernel_rfl
 · kernel_rfl
 · kernel_rfl
 · kernel_rfl
 · kernel_rfl
 · kernel_rfl
 · kernel_rfl
 · kernel_rfl
 · exact leaderWrites_f22
 · kernel_rfl
 · exact leaderWrites_f24
 · exact leaderWrites_f25
 · kernel_rfl
 · kernel_rfl
 · kernel_rfl
 · kernel_rfl
 · kernel_rfl
 · kernel_rfl
end Go.Proofs.YtehlbkmebaideaaGreatDoor
namespace Go.Proofs.YtehlbkmebaideaaGreatDoor
set_option linter.all false
set_option linter.unusedVariables false
set_option linter.unusedSimpArgs false
open Go.RowKit
set_option maxRecDepth 100000
theorem leaderWrites_wft : OpenClaim.wfByText (OpenSpec.ofChange Rows.leaderWritesSpec) Rows.leaderWritesRow = true := by kernel_rfl
theorem leaderWrites_lks : true = Tryz.prog.looks [] := by kernel_rfl
theorem leaderWrites_gby : false = OpenClaim.goesBy Rows.leaderWritesRow Tryz.prog := by kernel_rfl
end Go.Proofs.YtehlbkmebaideaaGreatDoor
namespace Go.Proofs.YtehlbkmebaideaaGreatDoor
set_option linter.all false
set_option linter.unusedVariables false
set_option linter.unusedSimpArgs false
open Go.ChangeShapes Go.WideShapes Go.ChangeAt Go.RowKit Go.Deep
set_option maxRecDepth 100000 in
theorem powW_of_laid {W : World} (h : laidMetH Tryz.prog Rows.leaderWritesRow.laid W) : Pow W := by
 rw [MakeChecks.laidMetH_plain _ _ _ (by kernel_rfl)] at h
 have h1 := laidMet.tail (laidMet.tail h)
 exact Lib.tabIs_of_head (g := 3) (t := 298) (e := 218) (n := 20) (by kernel_rfl) (by kernel_rfl) Tryz.underlying298 Tryz.underlying218 (by kernel_rfl) (by kernel_rfl) h1
set_option maxRecDepth 100000 in
theorem leaderWrites_door (os : Os) (args : Array Value) : laidMetH Tryz.prog Rows.leaderWritesRow.laid ((World.doorLaid Tryz.prog 14 os).forCall (fun _ _ => 0) ⟨#[], args, []⟩).memory :=
 laidMetH_of_parts3 (fuel := 8) (laidMet_of_run' 8 (by kernel_rfl) (by kernel_rfl)) (by kernel_rfl) (by kernel_rfl)
set_option maxRecDepth 100000 in
theorem leaderWrites_lifted (os : Os) (started : os.Started) (H : Type) (enc : TypeId × Value → H) :
    ReturnsInHanded {} Tryz.checked os 3 .any (fun w args => (Rows.leaderWritesSpec.pre enc Tryz.prog Tryz.f3 [] false w args ∧ laidMetH Tryz.prog Rows.leaderWritesRow.laid w) ∧ sizedMet enc Tryz.prog Tryz.f3 (OpenSpec.ofChange Rows.leaderWritesSpec) false w args) (Rows.leaderWritesSpec.post enc Tryz.prog Tryz.f3 false true false false) := by
  refine returnsInHanded_of_change_and (C := Tryz.checked) (X := fun w _ => laidMetH Tryz.prog Rows.leaderWritesRow.laid w) (fun _ _ _ hh h => h.of_heap hh) Tryz.own started (by kernel_rfl) Tryz.func3
    (ChangeSpec.witness_shaped (enc := enc) (C := Tryz.checked) (os := os) (X := fun w _ => laidMetH Tryz.prog Rows.leaderWritesRow.laid w) false (World.doorLaid Tryz.prog 14 os) #[.agg #[.slice none 0 0, .slice none 0 0], .slice none 0 0] 8 rfl (World.shaped_of_RefB (by kernel_rfl) (by kernel_rfl)) (by kernel_rfl) (by kernel_rfl) (by kernel_rfl) (leaderWrites_door os _)) ?_
  intro W base args ds gs before hval0 hW _ hsz hLd _
  have hval : ∀ (j : Nat) t v, Tryz.f3.params[j]? = some t → args[j]? = some v → Value.okWide Tryz.prog W .any base t v := hval0
  have hW' := hW
  obtain ⟨p, q, hA0, hV, rfl, hfz, hnd⟩ := hW
  have hA : DataW.TrodAll enc Tryz.prog W 0 (fun _ => true) true Tryz.f3.params.toList args.toList ds p := hA0
  have hA1 := hA
  rw [Tryz.params3] at hA hval
  obtain ⟨v0, v1, d0, d1, p0, p1, rfl, rfl, rfl, h0, h1⟩ := trodAll_two hA
  obtain ⟨rfl, rfl⟩ := trodVars_none hV
  have hP : Pow W := powW_of_laid hLd
  have hz : ∀ n, n ∈ d0.weights Tryz.prog 25 → n ≤ reachBytes := fun n hn => of_decide_eq_true (List.all_eq_true.1 hsz n (DataW.weights_mem_each (j := 0) (t := 25) (d := d0) (by kernel_rfl) rfl n hn))
  obtain ⟨R, nr, cr, f, L, nl, cl, g, rfl, hR, hL, hk, hr1, hr2⟩ := open_book (hval 0 25 v0 rfl rfl) h0 hz
  obtain ⟨A, n, cp, e, EA, EC, rfl, hI, hn, hl⟩ := open_log (hval 1 26 v1 rfl rfl) h1
  have hrb := reachBytes_lt
  clear hA0 hval0
  simp only [List.append_nil] at hW'
  refine (lawWrites_any hP hR hL hk (by omega) (by omega) hI hn hl).mono ?_
  rintro e W' ⟨rfl, hb⟩
  exact ⟨_, rfl, law_post Tryz.laidOut rfl hW' hA1 (by kernel_rfl) (by kernel_rfl) Tryz.underlying4 rfl hb⟩
theorem leaderWrites_row : Rows.LeaderWritesSaid :=
  OpenClaim.holds_of_wide 3 Tryz.f3 rfl rfl rfl rfl rfl rfl rfl ⟨rfl, rfl, rfl, rfl, rfl⟩ rfl rfl rfl rfl rfl (by kernel_rfl) Tryz.func3 leaderWrites_closed
    (of_decide_eq_true (by kernel_rfl)) (by unfold Func.isWrapper; first | (rw [if_pos (by decide +kernel)]; kernel_rfl) | (rw [if_neg (by decide +kernel)]; exact ⟨rfl, rfl⟩))
    (fun os started H enc _ => leaderWrites_lifted os started H enc)
theorem leaderWrites_holds : Rows.LeaderWritesCardSaid :=
  Claim7.holds_tied_plain_at .later [] [.data, .data, .data, .data] true _ true
    leaderWrites_row (fun _ h => by cases h) leaderWrites_wft (fun _ h => by cases h) leaderWrites_row_tie rfl ⟨rfl, rfl⟩ (by kernel_rfl) rfl
    (fun f fn hf hfn => by
      obtain rfl : f = 3 := Option.some.inj ((show Tryz.prog.funcNamed "azalai/azalailaw10.LeaderWrites" = some 3 by kernel_rfl).symm.trans hf) |>.symm
      obtain rfl : fn = Tryz.f3 := (Option.some.inj (Tryz.func3.symm.trans hfn)).symm
      exact ⟨leaderWrites_lks, fun j t ht => by
        have hall : (Tryz.f3.params.toList.all fun u => !Tryz.prog.wantsStandIn u) = true := by kernel_rfl
        have hm : t ∈ Tryz.f3.params.toList := by simpa using Array.mem_of_getElem? ht
        exact (show Tryz.prog.wantsStandIn t = false by simpa using List.all_eq_true.1 hall t hm)⟩)
    leaderWrites_gby
end Go.Proofs.YtehlbkmebaideaaGreatDoor
