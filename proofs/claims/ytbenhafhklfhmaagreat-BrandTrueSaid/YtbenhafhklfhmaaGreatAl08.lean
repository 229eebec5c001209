/-
  Part 8 of the proof of alive_any,ready2_any,has2_any,choose2_any,inside2_any,place2_any,lw_names,lw_fits,lw_has,open_herd,open_looksB,open_calves,open_u8b,open_u32sB,open_u32b,law_post,TW.meet,TL.unb,TW.ocap,rLooks2_any,bBirths_any,rSign_any,lks_in: declarations of several texts, in build order. No condition on a program.
-/
import Derived.Test.YtbenhafhklfhmaaGreatAl07
import Derived.Test.YtbenhafhklfhmaaGreatAl06
import Derived.IntWalk
import Derived.Test.YtbenhafhklfhmaaGreatAl04
namespace Go.Proofs.YtbenhafhklfhmaaGreat
set_option linter.all false
set_option linter.unusedVariables false
set_option linter.unusedSimpArgs false
open Go.RowKit Go.Lib Go.Sort
def cmpN (x y : Int) : Int := if x < y then -1 else if y < x then 1 else 0
set_option maxHeartbeats 1000000 in
theorem nan_exact (x : Int) (w : World) : Calls Tryz.prog 112 #[.int .i64 x] w fun e w' => e = .returned (.bool false) ∧ w' = w := by
 go_enter Tryz.func112, Tryz.ntmps112
 go_wp2
 go_ret
 exact ⟨rfl, rfl⟩
set_option maxHeartbeats 1000000 in
theorem cmp_exact (x y : Int) (w : World) : Calls Tryz.prog 93 #[.int .i64 x, .int .i64 y] w fun e w' => e = .returned (.int .i64 (cmpN x y)) ∧ w' = w := by
 go_enter Tryz.func93, Tryz.ntmps93
 go_wp2_with (go_at_call 112; refine (nan_exact _ _).mono ?_; rintro e w' ⟨rfl, rfl⟩)
 all_goals (go_ret; refine ⟨congrArg (fun z => Ending.returned (Value.int .i64 z)) ?_, rfl⟩; unfold cmpN; (repeat' split) <;> omega)
set_option maxHeartbeats 1000000 in
theorem dep_exact {W : World} {bd g o n cd x y : Nat} {dx dy : Int} (hn : n ≤ 1000000) (hx : x < n) (hy : y < n) (h0 : W.cell? ⟨bd, 0, none⟩ = some (.slice (some ⟨g, o, none⟩) n cd)) (h1 : W.cell? ⟨g, o + x, none⟩ = some (.int .i64 dx)) (h2 : W.cell? ⟨g, o + y, none⟩ = some (.int .i64 dy)) :
  Calls Tryz.prog 92 #[.int .i64 (x : Int), .int .i64 (y : Int), .pointer (some ⟨bd, 0, none⟩)] W fun e w' => e = .returned (.int .i64 (cmpN dy dx)) ∧ ∃ q, w' = W.drewN q := by
 go_enter Tryz.func92, Tryz.ntmps92
 go_wp2
 go_quiet (first | (go_at_call 93; refine Calls.quiet_of_same (cmp_exact _ _ _)))
 go_wp2
 go_ret
 exact ⟨rfl, nq, rfl⟩
def depF {k : Nat} (dep : Nat → Nat) (x y : Fin (k + 1)) : Int := cmpN (dep y.1) (dep x.1)
theorem depF_lt {k : Nat} {dep : Nat → Nat} {x y : Fin (k + 1)} : ltOf (depF dep) x y = decide (dep y.1 < dep x.1) := by
 unfold ltOf depF cmpN
 by_cases h : (dep y.1 : Int) < (dep x.1 : Int)
 · rw [if_pos h]
   simp only [decide_eq_decide]
   omega
 · rw [if_neg h]
   split
   · simp only [decide_eq_decide]; omega
   · simp only [decide_eq_decide]; omega
theorem depF_swo {k : Nat} {dep : Nat → Nat} : Sort.SWO (ltOf (depF (k := k) dep)) := by
 refine ⟨fun x => ?_, fun x y z h1 h2 => ?_, fun x y z h1 h2 => ?_⟩
 · rw [depF_lt]; simp
 · rw [depF_lt] at *
   simp only [decide_eq_true_eq] at *
   omega
 · rw [depF_lt] at *
   simp only [decide_eq_false_iff_not] at *
   omega
theorem putCells_fin {k : Nat} {d : Array (Fin (k + 1))} {M : List Int} (hM : M = d.toList.map fun x => (x.1 : Int)) (c : Array Value) : Sort.putCells (fun x : Fin (k + 1) => Value.int .i64 (x.1 : Int)) 0 d c = Sort.putCells (Value.int .i64) 0 M.toArray c := by
 unfold Sort.putCells
 congr 1
 funext q x
 have hs : M.toArray.size = d.size := by rw [hM]; simp
 rw [hs]
 by_cases h : 0 ≤ q ∧ q < 0 + d.size
 · rw [if_pos h, if_pos h]
   have hq : q - 0 < d.size := by omega
   have hq2 : q - 0 < M.toArray.size := by omega
   rw [getElem!_pos d _ hq, getElem!_pos M.toArray _ hq2]
   simp [hM]
 · rw [if_neg h, if_neg h]
abbrev DpX (dep : Nat → Nat) (n : Nat) := { L : List Nat // L.Perm (List.range n) ∧ L.Pairwise fun a b => dep b ≤ dep a }
set_option maxHeartbeats 1000000 in
theorem sortDep_any {w : World} {A Ad : Option Addr} {n cp bd cd : Nat} {dep : Nat → Nat} (hn : n ≤ 1000) (h : OwnR w A n cp 3 1 (fun j => [.int .i64 (j : Int)])) (hB : OldB w bd [.slice Ad n cd]) (hR : RdR w 1 Ad n (fun j => [.int .i64 (dep j : Int)])) (hA1 : Apart (feet [.own A n cp 3 1 (fun j => [.int .i64 (j : Int)])]) (some ⟨bd, 0, none⟩)) (hA2 : 0 < n → Apart (feet [.own A n cp 3 1 (fun j => [.int .i64 (j : Int)])]) Ad) :
  CallsK Tryz.prog 91 #[.slice A n cp, .func (.func 92) #[] #[.pointer (some ⟨bd, 0, none⟩)]] [.own A n cp 3 1 (fun j => [.int .i64 (j : Int)])] w (DpX dep n) (fun _ => .tuple #[]) (fun L => [.own A n cp 3 1 (fun j => [.int .i64 ((L.1.getD j 0 : Nat) : Int)])]) := by
 cases n with
 | zero =>
  refine (Tryz.slices_SortFunc_none (α := Int) A cp _ w).mono ?_
  rintro e' w' ⟨rfl, rfl⟩
  refine ⟨⟨[], List.Perm.refl _, List.Pairwise.nil⟩, rfl, ?_⟩
  exact Sat.sub (Sat.own1 h) (KSub.own Pick.hd (fun i hi => by omega) KSub.nil)
 | succ k =>
  rcases h.own.2 with ⟨e, h0⟩ | ⟨g, cap, cur, e, hg, hh, hnc, hcm, hcs, ht⟩
  · omega
  · simp only [Value.slice.injEq] at e
    obtain ⟨rfl, _, rfl⟩ := e
    have hlt := lt_of_get hh
    obtain ⟨d, hd⟩ : ∃ d : Array (Fin (k + 1)), d = Array.ofFn id := ⟨_, rfl⟩
    have hds : d.size = k + 1 := by rw [hd]; simp
    have hdj : ∀ j, j < k + 1 → (d[j]!).1 = j := fun j hj => by
      rw [getElem!_pos d j (by omega)]
      simp [hd]
    have hH : Sort.Holds (fun x : Fin (k + 1) => Value.int .i64 (x.1 : Int)) w g 0 d := fun j hj => by
      obtain ⟨g', c', e, _, _, _, hcell, hfr⟩ := h.own.form1 (by omega)
      cases e
      refine ⟨?_, hfr _⟩
      have := hcell j 0 (by omega) (by omega)
      rw [Nat.mul_one, Nat.add_zero] at this
      rw [Nat.zero_add, this]
      simp [rowF, hdj j (by omega)]
    obtain ⟨gd, od, rfl, hgd, hcd⟩ := hR.rd (by omega)
    have hbd : bd ≠ g := fun e => hA1 bd rfl (by simp [feet, Fact.foot, e])
    have hgd2 : gd ≠ g := fun e => hA2 (by omega) gd rfl (by simp [feet, Fact.foot, e])
    have hcmp : CmpLays1 Tryz.prog 92 #[.pointer (some ⟨bd, 0, none⟩)] (fun x : Fin (k + 1) => Value.int .i64 (x.1 : Int)) (depF dep) g 0 d.size w := by
      refine CmpReads.lays fun m os dk hs x y => ?_
      have hc : ∀ b o v, b < w.heap.size → b ≠ g → w.cell? ⟨b, o, none⟩ = some v → (sortWorld (fun x : Fin (k + 1) => Value.int .i64 (x.1 : Int)) w g 0 m dk os).cell? ⟨b, o, none⟩ = some v := fun b o v h1 h2 h3 => by
        rw [← h3]
        refine World.cell?_of_block ?_
        show (w.heap.modify g _ ++ os)[b]? = w.heap[b]?
        rw [Array.getElem?_append_left (by simpa using h1), Array.getElem?_modify, if_neg (fun e => h2 e.symm)]
      exact dep_exact (W := sortWorld (fun x : Fin (k + 1) => Value.int .i64 (x.1 : Int)) w g 0 m dk os) (o := od) (by omega) x.2 y.2 (hc _ _ _ hB.1 hbd (hB.2 0 _ rfl)) (hc _ _ _ hgd hgd2 (by have := hcd x.1 0 x.2 (by omega); simpa [rowF] using this)) (hc _ _ _ hgd hgd2 (by have := hcd y.1 0 y.2 (by omega); simpa [rowF] using this))
    have hs := Tryz.slices_SortFunc (fun x : Fin (k + 1) => Value.int .i64 (x.1 : Int)) (fun _ => rfl) (depF dep) depF_swo 92 #[.pointer (some ⟨bd, 0, none⟩)] g 0 cp d w (enters Tryz.func92 rfl rfl) hcmp hH hlt (by omega)
    rw [hds] at hs
    refine hs.mono ?_
    rintro e' w' ⟨rfl, d', n, os, hp, hso, rfl⟩
    have hs' : d'.size = k + 1 := by rw [hp.1, hds]
    refine ⟨⟨d'.toList.map (·.1), ?_, ?_⟩, rfl, ?_⟩
    · have h1 := hp.2.2
      have e1 : d'.extract 0 (k + 1) = d' := (congrArg (fun z => d'.extract 0 z) hs'.symm).trans (by simp)
      have e2 : d.extract 0 (k + 1) = d := (congrArg (fun z => d.extract 0 z) hds.symm).trans (by simp)
      rw [e1, e2] at h1
      refine (h1.map (·.1)).trans (List.Perm.of_eq ?_)
      apply List.ext_getElem
      · rw [List.length_map, Array.length_toList, hds, List.length_range]
      · intro i h2 h3
        have hi : i < d.size := by rw [List.length_map, Array.length_toList] at h2; exact h2
        have h4 := hdj i (by omega)
        rw [getElem!_pos d i hi] at h4
        rw [List.getElem_map, Array.getElem_toList, List.getElem_range]
        exact h4
    · rw [List.pairwise_map, List.pairwise_iff_getElem]
      intro i j hi hj hij
      have h1 := hso i j (Nat.zero_le _) hij (by rw [Array.length_toList] at hj; omega)
      rw [depF_lt] at h1
      simp only [decide_eq_false_iff_not] at h1
      rw [Array.length_toList] at hi hj
      rw [getElem!_pos d' j hj, getElem!_pos d' i hi] at h1
      simp only [Array.getElem_toList]
      omega
    · obtain ⟨M, hM⟩ : ∃ M : List Int, M = d'.toList.map fun x => (x.1 : Int) := ⟨_, rfl⟩
      have hlen : (toI (fun j => (j : Int)) (k + 1)).length = k + 1 := toI_len
      have hMl : M.length = (toI (fun j => (j : Int)) (k + 1)).length := by rw [hM, hlen, List.length_map, Array.length_toList, hs']
      have h' : OwnR w (some ⟨g, 0, none⟩) (toI (fun j => (j : Int)) (k + 1)).length cp 3 1 (iL (toI (fun j => (j : Int)) (k + 1))) := by
        rw [hlen]
        have he : ∀ i, i < k + 1 → [Value.int .i64 (i : Int)] = iL (toI (fun j => (j : Int)) (k + 1)) i := fun i hi => by unfold iL; rw [toI_get hi]
        exact ⟨Own.congr h.own fun i j hi hj => by simp only [rowF, he i hi], fun i hi => rfl⟩
      have hw := own_putRow os n hMl h'
      have e : sortWorld (fun x : Fin (k + 1) => Value.int .i64 (x.1 : Int)) w g 0 n d' os = Sort.grow (Sort.putRow (Value.int .i64) (Sort.ahead w n) g 0 M.toArray) os := by
        unfold sortWorld Sort.putRow
        rw [show Sort.putCells (fun x : Fin (k + 1) => Value.int .i64 (x.1 : Int)) 0 d' = Sort.putCells (Value.int .i64) 0 M.toArray from funext (putCells_fin hM)]
      rw [e]
      rw [hlen] at hw
      refine Sat.sub hw (KSub.own Pick.hd (fun i hi => ?_) KSub.nil)
      unfold iL
      have hi2 : i < d'.toList.length := by rw [Array.length_toList, hs']; exact hi
      have hi3 : i < d'.size := by omega
      simp [hM, List.getD_eq_getElem?_getD, hi3]
end Go.Proofs.YtbenhafhklfhmaaGreat
namespace Go.Proofs.YtbenhafhklfhmaaGreat
set_option linter.all false
set_option linter.unusedVariables false
set_option linter.unusedSimpArgs false
open Go.RowKit
def fnL (l : List Int) (i : Nat) : Int := l.getD i 0
def exH : Hd := ⟨4, fnL [1, 2, 3, 4], fnL [-1, 1, 1, 2], fnL [0, 1300, 5000, 2900], fnL [100, 1600, 20000, 3100], fun i => [1, 2, 1, 1].getD i 0, fun i k => ([[0], [0, 1], [0], [1]].getD i []).getD k 0, fun i k => ([[3], [3, 5], [3], [5]].getD i []).getD k 0⟩
def exS (a b : Nat) (i : Nat) : Nat := [a, b, 2097151, 2097151, 2097151, 2097151, 2097151, 2097151].getD i 0
def exK (age : Int) : Lk := ⟨8, exS 8 2097151, 6000, 0, age⟩
def exC : Lk := ⟨8, exS 2097151 33, 6000, 0, 200000⟩
def exL (i : Nat) : Lk := if i = 0 then exK 4650 else exC
set_option maxRecDepth 100000 in
theorem eFit : fitC exH (exK 4650) = 0 ∧ fitL exH (exK 4650) = [2, 3] ∧ fitC exH (exK 3000) = 0 ∧ fitL exH (exK 3000) = [3] := by decide +kernel
set_option maxRecDepth 100000 in
theorem eNam : nmC exH 2 exL 1 (fun _ => 0) (fun _ => 1) = 0 ∧ nmL exH 2 exL 1 (fun _ => 0) (fun _ => 1) 0 = [2] ∧ nmL exH 2 exL 1 (fun _ => 0) (fun _ => 1) 1 = [4] := by decide +kernel
set_option maxRecDepth 100000 in
theorem eTel : telC exH 2 = 0 ∧ telL exH 2 = [0, 1] ∧ telC exH 1 = 6 ∧ telC exH 4 = 0 ∧ telL exH 4 = [0] := by decide +kernel
set_option maxRecDepth 100000 in
theorem eKin : kinC exH 4 3 = 0 ∧ kinR exH 4 3 = (2, 1) := by decide +kernel
end Go.Proofs.YtbenhafhklfhmaaGreat
namespace Go.Proofs.YtbenhafhklfhmaaGreat
set_option linter.all false
set_option linter.unusedVariables false
set_option linter.unusedSimpArgs false
open Go.RowKit
set_option maxRecDepth 100000 in
theorem cloneSpan_any {A : Option Addr} {n cp : Nat} {S : BSt} {w : World} (hn : n ≤ 1000000000) (hR : RdR w 2 A n (fun k => spL (S k).1 (S k).2)) :
  CallsK Tryz.prog 59 #[.slice A n cp] [] w (Option Addr × Nat) (fun x => .slice x.1 n x.2) (fun x => [.own x.1 n x.2 36 2 (fun k => spL (S k).1 (S k).2)]) := by
 cases A with
 | none =>
  have h0 : n = 0 := by
   rcases Nat.eq_zero_or_pos n with h | h
   exact h
   obtain ⟨b, o, e, _⟩ := hR.rd h
   cases e
  subst h0
  refine K_enter (S := []) (K := []) Tryz.func59 rfl Tryz.ntmps59 rfl (Sat.start _) ?_
  refine TW.seq fun Y1 hY1 => TW.region ?_
  refine TL.p Pu.as ?_
  refine TL.nil (TQ.thenN (hY1 _ _ ?_))
  refine TW.seq fun Y2 hY2 => ?_
  refine TW.seq fun Y3 hY3 => TW.region ?_
  refine TL.p Pu.mv ?_
  refine TL.p Pu.bn ?_
  refine TL.nil (TQ.thenN (hY3 _ _ ?_))
  refine TW.condT rfl (rfl) ?_
  refine TW.seq fun Y4 hY4 => TW.region ?_
  refine TL.p Pu.as ?_
  refine TL.nil (TQ.thenN (hY4 _ _ ?_))
  refine TW.ret ?_
  refine TQ.thenR ?_
  refine TQ.ret Tryz.results59 rfl ((.tmp rfl .nil)) ?_
  exact fun w hw => ⟨(none, 0), rfl, hw.sub (KSub.nilOwn KSub.nil)⟩
 | some p =>
  refine K_enter (S := []) (K := []) Tryz.func59 rfl Tryz.ntmps59 rfl (Sat.start _) ?_
  refine TW.seq fun Y1 hY1 => TW.region ?_
  refine TL.p Pu.as ?_
  refine TL.nil (TQ.thenN (hY1 _ _ ?_))
  refine TW.seq fun Y2 hY2 => ?_
  refine TW.seq fun Y3 hY3 => TW.region ?_
  refine TL.p Pu.mv ?_
  refine TL.p Pu.bn ?_
  refine TL.nil (TQ.thenN (hY3 _ _ ?_))
  refine TW.condF rfl (rfl) ?_
  refine TW.skip ?_
  refine TQ.thenN (hY2 _ _ ?_)
  refine TW.seq fun Y4 hY4 => TW.region ?_
  refine TL.m Mk.bl ?_
  intro b1
  refine TL.p Pu.mv ?_
  refine TL.subK (KSub.ofBlk (n := 0) (sz := 2) (r := fun _ => []) Pick.hd rfl (fun _ h => by omega) rfl rfl KSub.nil) ?_
  first | refine TL.a0 ty_et31 ?_ | refine TL.ap ty_et31 ?_
  intro A2 c2
  refine TL.p Pu.as ?_
  refine TL.nil (TQ.thenN (hY4 _ _ ?_))
  refine TW.ret ?_
  refine TQ.ret Tryz.results59 rfl ((.tmp rfl .nil)) ?_
  exact fun w hw => ⟨(A2, c2), rfl, hw⟩
theorem backI_any {w : World} {A : Option Addr} {n cp : Nat} : CallsK Tryz.prog 95 #[.slice A n cp] [] w Nat (fun b => .func (.func 113) #[] #[.pointer (some ⟨b, 0, none⟩)]) (fun b => [.blk b 28 [.slice A n cp]]) := by
 refine K_enter (S := []) (K := []) Tryz.func95 rfl Tryz.ntmps95 rfl (Sat.start _) ?_
 refine TW.seq fun Y1 hY1 => TW.region ?_
 refine TL.m Mk.bx ?_
 intro b1
 refine TL.p Pu.as ?_
 refine TL.nil (TQ.thenN (hY1 _ _ ?_))
 refine TW.seq fun Y2 hY2 => TW.region ?_
 refine TL.p Pu.fn ?_
 refine TL.p Pu.as ?_
 refine TL.nil (TQ.thenN (hY2 _ _ ?_))
 refine TW.ret ?_
 refine TQ.ret Tryz.results95 rfl ((.tmp rfl .nil)) ?_
 exact fun w hw => ⟨b1, rfl, hw.sub ks9⟩
def backM (A : Option Addr) (n cp b : Nat) (v : Nat → Int) : List Fact := [.blk b 28 [.slice A n cp], .own A n cp 3 1 (fun j => [.int .i64 (v j)])]
set_option maxRecDepth 100000 in
set_option maxHeartbeats 1000000 in
theorem backI1_iter {A : Option Addr} {n cp b : Nat} {v : Nat → Int} {S : List Nat} {W0 : World} (h1 : n ≤ 1000000) :
  IterK Tryz.prog 113 [.pointer (some ⟨b, 0, none⟩)] (backM A n cp b v) Unit (fun q _ => [.int .i64 ((n - 1 - q : Nat) : Int), .int .i64 (v (n - 1 - q))]) (fun _ _ => backM A n cp b v) (fun _ _ => backM A n cp b v) n [] S W0 := by
 intro lY R Rx J Jx r0 W hS hround
 refine K_enterW (S := S) (K := .blk b 28 [.slice A n cp] :: .own A n cp 3 1 (fun j => [.int .i64 (v j)]) :: J 0 r0) Tryz.func113 rfl Tryz.ntmps113 rfl hS ?_
 refine TW.seq fun Y1 hY1 => TW.region ?_
 refine TL.p (by first | exact (Pu.ld ty_sc28) | exact (Pu.ldo ty_sc28)) ?_
 refine TL.p (Pu.ln Tryz.underlying28) ?_
 refine TL.p Pu.sb ?_
 refine TL.p Pu.as ?_
 refine TL.nil (TQ.thenN (hY1 _ _ ?_))
 refine TW.block ?_
 refine TW.loop2 (fun (q : Nat) (r : R) => [(3, .int .i64 ((n : Int) - 1 - (q : Int))), (0, .func (.yield lY) #[] #[]), (1, .pointer (some ⟨b, 0, none⟩))]) (fun q r => .blk b 28 [.slice A n cp] :: .own A n cp 3 1 (fun j => [.int .i64 (v j)]) :: J q r) (fun q r => q ≤ n) (fun q r => n - q) 0 r0 ⟨(by show some (Value.int .i64 _) = some (Value.int .i64 _); congr 2; omega), rfl, rfl, trivial⟩ ?_ ?_ ?_
 exact kt9
 exact Nat.zero_le _
 rintro q r hq Z0 hZ0
 refine TW.seq fun Y2 hY2 => ?_
 refine TW.seq fun Y3 hY3 => TW.region ?_
 refine TL.p Pu.mv ?_
 refine TL.p Pu.ge ?_
 refine TL.nil (TQ.thenN (hY3 _ _ ?_))
 refine TW.cond rfl (fun hc0 => ?_) (fun hc0 => ?_)
 try simp only [zcb9] at hc0
 have hqn : q < n := by omega
 refine TW.skip ?_
 refine TQ.thenN (hY2 _ _ ?_)
 refine TW.seq fun Y4 hY4 => ?_
 refine TW.block ?_
 refine TW.seq fun Y5 hY5 => ?_
 refine TW.regionI ?_
 refine TLi.op (fun U1 hU1 => ?_) (by rintro ⟨_, _, h⟩; first | exact h | (obtain ⟨⟨_, h⟩, _⟩ := h; cases h) | cases h)
 refine TL.p Pu.mv ?_
 refine TL.nil ?_
 refine TQ.nxt (hU1 _ _ ?_)
 refine TLi.op (fun U2 hU2 => ?_) (by rintro ⟨_, _, h⟩; first | exact h | (obtain ⟨⟨_, h⟩, _⟩ := h; cases h) | cases h)
 refine TL.p Pu.mv ?_
 refine TL.nil ?_
 refine TQ.nxt (hU2 _ _ ?_)
 refine TLi.op (fun U3 hU3 => ?_) (by rintro ⟨_, _, h⟩; first | exact h | (obtain ⟨⟨_, h⟩, _⟩ := h; cases h) | cases h)
 refine TL.p (by first | exact (Pu.ld ty_sc28) | exact (Pu.ldo ty_sc28)) ?_
 refine TL.nil ?_
 refine TQ.nxt (hU3 _ _ ?_)
 refine TLi.op (fun U4 hU4 => ?_) (by rintro ⟨_, _, h⟩; first | exact h | (obtain ⟨⟨_, h⟩, _⟩ := h; cases h) | cases h)
 refine TL.p Pu.mv ?_
 refine TL.nil ?_
 refine TQ.nxt (hU4 _ _ ?_)
 refine TLi.op (fun U5 hU5 => ?_) (by rintro ⟨_, _, h⟩; first | exact h | (obtain ⟨⟨_, h⟩, _⟩ := h; cases h) | cases h)
 refine TL.p (Pu.el (q := n - 1 - q) ty_et28 (hk := by omega)) ?_
 refine TL.nil ?_
 refine TQ.nxt (hU5 _ _ ?_)
 refine TLi.op (fun U6 hU6 => ?_) (by rintro ⟨_, _, h⟩; first | exact h | (obtain ⟨⟨_, h⟩, _⟩ := h; cases h) | cases h)
 refine TL.p (by first | exact (Pu.ld ty_sc3) | exact (Pu.ldo ty_sc3)) ?_
 refine TL.nil ?_
 refine TQ.nxt (hU6 _ _ ?_)
 refine TLi.yi rfl rfl (fun w hw => by
   have h9 := hround q () r w hqn hw
   dsimp only at h9
   rw [show ((n - 1 - q : Nat) : Int) = (n : Int) - 1 - (q : Int) by omega] at h9
   exact h9) ?_ ?_
 intro r'
 refine TLi.op (fun U7 hU7 => ?_) (by rintro ⟨_, _, h⟩; first | exact h | (obtain ⟨⟨_, h⟩, _⟩ := h; cases h) | cases h)
 refine TL.p Pu.no ?_
 refine TL.nil ?_
 refine TQ.nxt (hU7 _ _ ?_)
 refine TLi.nil ?_
 refine TQ.thenN (hY5 _ _ ?_)
 refine TW.condF rfl rfl ?_
 refine TW.skip ?_
 refine TQ.blkN ?_
 refine TQ.thenN (hY4 _ _ ?_)
 refine TW.region ?_
 refine TL.p Pu.mv ?_
 refine TL.p Pu.sb ?_
 refine TL.p Pu.as ?_
 refine TL.nil ?_
 refine TQ.thenN (hZ0 (q + 1) r' _ _ ?_ ?_ ⟨(by show some (Value.int .i64 _) = some (Value.int .i64 _); congr 2; omega), rfl, rfl, trivial⟩ ?_)
 exact (by omega)
 exact zom9
 exact KSub.refl _
 intro x
 refine TLi.op (fun U8 hU8 => ?_) (by rintro ⟨_, _, h⟩; first | exact h | (obtain ⟨⟨_, h⟩, _⟩ := h; cases h) | cases h)
 refine TL.p Pu.no ?_
 refine TL.nil ?_
 refine TQ.nxt (hU8 _ _ ?_)
 refine TLi.nil ?_
 refine TQ.thenN (hY5 _ _ ?_)
 refine TW.condT rfl rfl ?_
 refine TW.ret ?_
 refine TQ.blkR ?_
 refine TQ.thenR ?_
 refine TQ.thenR ?_
 refine TQ.blkR ?_
 refine TQ.ret Tryz.results113 rfl (.nil) ?_
 exact fun w hw => ⟨⟨_, rfl⟩, .inr ⟨x, hw.sub (KSub.dropL _ (KSub.refl _))⟩⟩
 try simp only [zcb9] at hc0
 obtain rfl : q = n := by omega
 refine TW.exit ?_
 refine TQ.thenX ?_
 refine TQ.thenX ?_
 refine TQ.blkX ?_
 refine TQ.end Tryz.results113 rfl (.nil) ?_
 exact fun w hw => ⟨⟨_, rfl⟩, .inl ⟨r, hw.sub (KSub.drop (KSub.drop (KSub.refl _)))⟩⟩
theorem emptySpan_any (a b : Int) (w : World) : Calls Tryz.prog 97 #[.agg (spL a b).toArray] w (Ret w (.bool (decide (b < a)))) := by
 refine K_enter (S := []) (K := []) Tryz.func97 rfl Tryz.ntmps97 rfl (Sat.start _) ?_
 refine TW.seq fun Y1 hY1 => TW.region ?_
 refine TL.m Mk.bx ?_
 intro b1
 refine TL.p Pu.as ?_
 refine TL.nil (TQ.thenN (hY1 _ _ ?_))
 refine TW.seq fun Y2 hY2 => TW.region ?_
 refine TL.p (by first | exact Pu.fb ty_fa36_0 | exact Pu.fe ty_fa36_0) ?_
 refine TL.p (Pu.ld ty_sc3) ?_
 refine TL.p (by first | exact Pu.fb ty_fa36_1 | exact Pu.fe ty_fa36_1) ?_
 refine TL.p (Pu.ld ty_sc3) ?_
 refine TL.p Pu.gt ?_
 refine TL.p Pu.as ?_
 refine TL.nil (TQ.thenN (hY2 _ _ ?_))
 refine TW.ret ?_
 refine TQ.ret Tryz.results97 rfl ((.tmp rfl .nil)) ?_
 exact fun w hw => Ret.of hw
structure HwIn (w : World) (H : Hd) (A : Option Addr) (cp : Nat) (x : OpX) : Prop where
 oB : OldB w x.1.1 [.slice A H.n cp, .map (some x.1.2), .slice x.2.1.1 H.n x.2.1.2, .slice x.2.2.1 H.n x.2.2.2]
 oP : w.heap[x.1.2]? = some (mapO .i64 (plM H H.n))
 oM : RdR w 1 x.2.1.1 H.n (fun j => [.int .i64 (moH H j)])
 oK : RdR w 8 x.2.2.1 H.n (fun j => octL (sgH H j))
theorem bd_up {f : Nat → Int} {n K i : Nat} {S : BSt} (hf : Mo f n) (hi : i < n) (h : ∀ j, j < n → -(K : Int) ≤ (S j).1 ∧ (S j).1 ≤ K ∧ -(K : Int) ≤ (S j).2 ∧ (S j).2 ≤ K) : ∀ j, j < n → -((K + 10000 : Nat) : Int) ≤ (upS f S i j).1 ∧ (upS f S i j).1 ≤ ((K + 10000 : Nat) : Int) ∧ -((K + 10000 : Nat) : Int) ≤ (upS f S i j).2 ∧ (upS f S i j).2 ≤ ((K + 10000 : Nat) : Int) := fun j hj => by
 have h1 := h j hj
 have h2 := h i hi
 unfold upS
 split
 · by_cases e : j = (f i).toNat
   · subst e; rw [putS1_at]; unfold comm shf; dsimp only; omega
   · rw [putS1_ne e]; omega
 · omega
theorem bd_dn {f : Nat → Int} {n K i : Nat} {S : BSt} (hf : Mo f n) (hi : i < n) (h : ∀ j, j < n → -(K : Int) ≤ (S j).1 ∧ (S j).1 ≤ K ∧ -(K : Int) ≤ (S j).2 ∧ (S j).2 ≤ K) : ∀ j, j < n → -((K + 10000 : Nat) : Int) ≤ (dnS f S i j).1 ∧ (dnS f S i j).1 ≤ ((K + 10000 : Nat) : Int) ∧ -((K + 10000 : Nat) : Int) ≤ (dnS f S i j).2 ∧ (dnS f S i j).2 ≤ ((K + 10000 : Nat) : Int) := fun j hj => by
 have h1 := h j hj
 unfold dnS
 split
 · rename_i h0
   have h2 := h (f i).toNat (by have := hf i hi; omega)
   by_cases e : j = i
   · subst e; rw [putS1_at]; unfold comm shf; dsimp only; omega
   · rw [putS1_ne e]; omega
 · omega
def BdS (n K : Nat) (S : BSt) : Prop := ∀ j, j < n → -(K : Int) ≤ (S j).1 ∧ (S j).1 ≤ K ∧ -(K : Int) ≤ (S j).2 ∧ (S j).2 ≤ K
theorem take_at {L : List Nat} {p : Nat} (h : p < L.length) : L.take (p + 1) = L.take p ++ [L.getD p 0] := by
 rw [List.take_succ, List.getElem?_eq_getElem h]
 simp [List.getD_eq_getElem?_getD, h]
theorem upP_at {f : Nat → Int} {S : BSt} {L : List Nat} {p : Nat} (h : p < L.length) : upP f S (L.take (p + 1)) = upS f (upP f S (L.take p)) (L.getD p 0) := by
 rw [take_at h]; simp [upP]
theorem dnP_at {f : Nat → Int} {S : BSt} {L : List Nat} {p : Nat} (h : p < L.length) : dnP f S (L.take (p + 1)) = dnS f (dnP f S (L.take p)) (L.getD p 0) := by
 rw [take_at h]; simp [dnP]
theorem bd_upP {f : Nat → Int} {n K : Nat} {S : BSt} {L : List Nat} (hf : Mo f n) (hL : ∀ i ∈ L, i < n) (h : BdS n K S) : ∀ p, p ≤ L.length → BdS n (K + 10000 * p) (upP f S (L.take p))
 | 0, _ => by simpa [upP] using h
 | p + 1, hp => by
  rw [upP_at (by omega)]
  have h1 := bd_up hf (hL (L.getD p 0) (by rw [List.getD_eq_getElem?_getD, List.getElem?_eq_getElem (show p < L.length by omega)]; exact List.getElem_mem _)) (bd_upP hf hL h p (by omega))
  rw [show K + 10000 * (p + 1) = K + 10000 * p + 10000 by omega]
  exact h1
theorem bd_dnP {f : Nat → Int} {n K : Nat} {S : BSt} {L : List Nat} (hf : Mo f n) (hL : ∀ i ∈ L, i < n) (h : BdS n K S) : ∀ p, p ≤ L.length → BdS n (K + 10000 * p) (dnP f S (L.take p))
 | 0, _ => by simpa [dnP] using h
 | p + 1, hp => by
  rw [dnP_at (by omega)]
  have h1 := bd_dn hf (hL (L.getD p 0) (by rw [List.getD_eq_getElem?_getD, List.getElem?_eq_getElem (show p < L.length by omega)]; exact List.getElem_mem _)) (bd_dnP hf hL h p (by omega))
  rw [show K + 10000 * (p + 1) = K + 10000 * p + 10000 by omega]
  exact h1
theorem getD_memN {L : List Nat} {p : Nat} (h : p < L.length) : L.getD p 0 ∈ L := by
 rw [List.getD_eq_getElem?_getD, List.getElem?_eq_getElem h]
 exact List.getElem_mem _
theorem rev_getD {L : List Nat} {q : Nat} (h : q < L.length) : L.reverse.getD q 0 = L.getD (L.length - 1 - q) 0 := by
 rw [List.getD_eq_getElem?_getD, List.getD_eq_getElem?_getD, List.getElem?_reverse h]
theorem RdR.cg {w : World} {sz n : Nat} {A : Option Addr} {r s : Nat → List Value} (h : RdR w sz A n r) (e : ∀ j, j < n → r j = s j) : RdR w sz A n s := ⟨h.rd.congr fun j q hj _ => by simp only [rowF]; rw [e j hj], fun j hj => by rw [← e j hj]; exact h.len j hj⟩
theorem row_put {S T : BSt} {i j : Nat} {a b : Int} (h : T = putS1 S i (a, b)) : updR (fun j => spL (S j).1 (S j).2) i [.int .i64 a, .int .i64 b] j = spL (T j).1 (T j).2 := by
 subst h
 unfold updR putS1
 by_cases e : j = i
 · rw [if_pos e, if_pos e]; rfl
 · rw [if_neg e, if_neg e]
set_option maxRecDepth 100000 in
set_option maxHeartbeats 4000000 in
theorem births_any {w : World} {H : Hd} {A : Option Addr} {cp : Nat} {x : OpX} {Ao : Option Addr} {co B : Nat} {S : BSt} (hk : HOk H) (hW : HwIn w H A cp x) (hR : RdR w 2 Ao H.n (fun j => spL (S j).1 (S j).2)) (hS : BdS H.n B S) (hB : B ≤ 1000000) :
    CallsK Tryz.prog 55 #[.pointer (some ⟨x.1.1, 0, none⟩), .slice Ao H.n co] [] w (Option Addr × Nat) (fun y => .tuple #[.slice y.1 H.n y.2, .bool (bthOk (moH H) H.n S)]) (fun y => [.own y.1 H.n y.2 36 2 (fun j => spL (bth (moH H) H.n S j).1 (bth (moH H) H.n S j).2)]) := by
  have h16 := hk.n16
  have hoB := hW.oB
  have hoM := hW.oM
  refine K_enterM (S := []) (K := []) Tryz.func55 rfl Tryz.ntmps55 rfl (Sat.start _) ?_
  refine TW.seqD fun Y1 hY1 => ?_
  refine TW.region ?_
  refine TL.m Mk.bx ?_
  intro b1
  refine TL.p Pu.as ?_
  refine TL.p Pu.as ?_
  refine TL.nil ?_
  refine TQ.thenN (hY1 _ _ _ ?_)
  refine TW.seqD fun Y2 hY2 => ?_
  refine TW.region ?_
  refine TL.p Pu.mv ?_
  refine TL.call (M := []) rfl (enters Tryz.func59 rfl rfl) (List.Perm.refl _) rfl (fun w hw => by
      exact cloneSpan_any (S := S) (by omega) (hR.sat hw Apart.nil)) ?_
  rintro ⟨A2, c2⟩
  refine TL.m (Mk.al ty_zr31) ?_
  intro b2
  first | refine TL.st ty_sz31 ?_ | refine TL.se ty_sz31 ?_
  refine TL.nil ?_
  refine TQ.thenN (hY2 _ _ _ ?_)
  refine TW.seqD fun Y3 hY3 => ?_
  refine TW.region ?_
  refine TL.p Pu.as ?_
  refine TL.nil ?_
  refine TQ.thenN (hY3 _ _ _ ?_)
  refine TW.seqD fun Y4 hY4 => ?_
  refine TW.region ?_
  refine TL.p (Pu.ld ty_sc31) ?_
  refine TL.p (Pu.ln Tryz.underlying31) ?_
  refine TL.ms ty_et28 ty_zr3 ?_
  intro b3
  refine TL.m (Mk.al ty_zr28) ?_
  intro b4
  first | refine TL.st ty_sz28 ?_ | refine TL.se ty_sz28 ?_
  refine TL.nil ?_
  refine TQ.thenN (hY4 _ _ _ ?_)
  refine TW.seqD fun Y5 hY5 => ?_
  refine TW.seqD fun Y6 hY6 => ?_
  refine TW.region ?_
  refine TL.p (Pu.ld ty_sc31) ?_
  refine TL.p (Pu.ln Tryz.underlying31) ?_
  refine TL.p Pu.mv ?_
  refine TL.nil ?_
  refine TQ.thenN (hY6 _ _ _ ?_)
  refine TW.block ?_
  refine TW.loopM3 (fun (i : Nat) (Ar : Option Addr) (cr : Nat) => [(23, .int .i64 (i : Int)), (22, .int .i64 (H.n : Int)), (7, .slice Ar i cr), (2, .pointer (some ⟨b1, 0, none⟩)), (6, .pointer (some ⟨b2, 0, none⟩)), (8, .pointer (some ⟨b4, 0, none⟩))]) (fun i Ar cr Ds => .own Ar i cr 3 1 (fun j => [.int .i64 (j : Int)]) :: .own (some ⟨b3, 0, none⟩) H.n H.n 3 1 (fun j => [.int .i64 (if j < i then (depH (moH H) H.n j : Int) else 0)]) :: .blk b4 28 [.slice (some ⟨b3, 0, none⟩) H.n H.n] :: .own A2 H.n c2 36 2 (fun j => spL (S j).1 (S j).2) :: .blk b2 31 [.slice A2 H.n c2] :: .blk b1 96 [.pointer (some ⟨x.1.1, 0, none⟩)] :: defK Ds) (fun i Ar cr => i ≤ H.n) (fun i Ar cr => H.n - i) 0 none 0 ([]) fs9 ?_ ?_ ?_
  exact KSub.nilOwn (KSub.own pk9 (fun j hj => by rw [if_neg (Nat.not_lt_zero j)]) (KSub.cons pk9 (KSub.cons pk9 (KSub.cons pk9 (KSub.cons pk9 KSub.nil)))))
  exact Nat.zero_le _
  rintro i Ar cr hi Ds Z0 hZ0
  refine TW.seqD fun Y7 hY7 => ?_
  refine TW.region ?_
  refine TL.p Pu.lt ?_
  refine TL.nil ?_
  refine TQ.thenN (hY7 _ _ _ ?_)
  refine TW.seqD fun Y8 hY8 => ?_
  refine TW.cond rfl (fun hc0 => ?_) (fun hc0 => ?_)
  try simp only [zcb9] at hc0
  have hin : i < H.n := by omega
  refine TW.skip ?_
  refine TQ.thenN (hY8 _ _ _ ?_)
  refine TW.seqD fun Y9 hY9 => ?_
  refine TW.block ?_
  refine TW.seqD fun Y10 hY10 => ?_
  refine TW.region ?_
  refine TL.p Pu.mv ?_
  refine TL.m (Mk.al ty_zr3) ?_
  intro b5
  first | refine TL.st ty_sz3 ?_ | refine TL.se ty_sz3 ?_
  refine TL.nil ?_
  refine TQ.thenN (hY10 _ _ _ ?_)
  refine TW.seqD fun Y11 hY11 => ?_
  refine TW.seqD fun Y12 hY12 => ?_
  refine TW.region ?_
  refine TL.p (Pu.ld ty_sc96) ?_
  refine TL.p (Pu.ld ty_sc3) ?_
  refine TL.call (M := []) rfl (enters Tryz.func82 rfl rfl) (List.Perm.refl _) rfl (fun w hw => by
      exact line_any) ?_
  rintro ⟨bi, bp⟩
  refine TL.nil ?_
  refine TQ.thenN (hY12 _ _ _ ?_)
  refine TW.block ?_
  refine TW.rangeR (fun (q : Nat) (_ : Unit) => .own (some ⟨b3, 0, none⟩) H.n H.n 3 1 (fun j => [.int .i64 (if j = i then (q : Int) else if j < i then (depH (moH H) H.n j : Int) else 0)]) :: .blk b5 3 [.int .i64 (i : Int)] :: .own Ar i cr 3 1 (fun j => [.int .i64 (j : Int)]) :: .blk b4 28 [.slice (some ⟨b3, 0, none⟩) H.n H.n] :: .own A2 H.n c2 36 2 (fun j => spL (S j).1 (S j).2) :: .blk b2 31 [.slice A2 H.n c2] :: .blk b1 96 [.pointer (some ⟨x.1.1, 0, none⟩)] :: defK Ds) (fun x : Empty => x.elim) (fun x => x.elim) (()) (fun x y => line1_iter (N := depH (moH H) H.n i) (bi := bi) (bp := bp) (i := i) hoB Apart.nil hoM Apart.nil moH_Mo hin (.inl ⟨rfl, hk.ac i hin⟩)) ?_ ?_ ?_ ?_ (eg := enters Tryz.func107 rfl rfl)
  refine KSub.cons pk9 (KSub.cons pk9 (KSub.own pk9 (fun j hj => ?_) (KSub.cons pk9 (KSub.cons pk9 (KSub.cons pk9 (KSub.cons pk9 (KSub.cons pk9 (KSub.cons pk9 (KSub.refl _)))))))))
  by_cases e : j = i
  rw [if_neg (by omega), if_pos e]; rfl
  rw [if_neg e]
  rintro lR DR oR oR1 oR2 q g r hq ZR0 hZR0
  simp only [linM, List.cons_append, List.nil_append]
  have hdl := dep_le (f := moH H) (n := H.n) (i := i)
  refine TWi.skip ?_
  refine TQ.thenN (hZR0 _ _ _ Pick.hd ?_)
  refine TWi.block ?_
  refine TWi.region ?_
  refine TL.p (Pu.ld ty_sc28) ?_
  refine TL.p (Pu.ld ty_sc3) ?_
  refine TL.p (Pu.el ty_et28) ?_
  refine TL.p (Pu.ld (v := .int .i64 (q : Int)) ty_sc3 (hq := Cells.own (m := 1) pk9 (by omega) (by rw [if_pos rfl]; exact SubL.take SubL.nil))) ?_
  refine TL.p Pu.ad ?_
  refine TL.p (Pu.el ty_et28) ?_
  first | refine TL.st ty_sz3 ?_ | refine TL.se ty_sz3 ?_
  refine TL.nil ?_
  refine TQ.blkN ?_
  refine TQ.rbN (()) ?_
  refine KSub.cons pk9 (KSub.cons pk9 (KSub.cons pk9 (KSub.cons pk9 (KSub.own pk9 (fun j hj => ?_) (KSub.cons pk9 (KSub.cons pk9 (KSub.cons pk9 (KSub.cons pk9 (KSub.cons pk9 (KSub.cons pk9 (KSub.refl _)))))))))))
  unfold updR
  by_cases e : j = i
  rw [if_pos e, if_pos e]; rfl
  simp only [if_neg e]
  rintro DR r
  simp only [List.nil_append]
  refine TQ.blkN ?_
  refine TQ.thenN (hY11 _ _ _ ?_)
  refine TW.region ?_
  refine TL.p Pu.mv ?_
  refine TL.p (Pu.ld ty_sc3) ?_
  refine TL.m Mk.bl ?_
  intro b6
  first | refine TL.a0 ty_et28 ?_ | refine TL.ap ty_et28 ?_
  intro A7 c7
  refine TL.p Pu.as ?_
  refine TL.nil ?_
  refine TQ.blkN ?_
  refine TQ.thenN (hY9 _ _ _ ?_)
  refine TW.region ?_
  refine TL.p Pu.ad ?_
  refine TL.p Pu.mv ?_
  refine TL.nil ?_
  refine TQ.thenN (hZ0 (i + 1) A7 c7 (DR :: Ds) _ _ ?_ ?_ fs9 ?_)
  exact (by omega)
  exact zom9
  refine KSub.own pk9 (fun j hj => cat_rows (r := fun j => [Value.int .i64 (j : Int)]) rfl hj) (KSub.own pk9 (fun j hj => ?_) (KSub.cons pk9 (KSub.cons pk9 (KSub.cons pk9 (KSub.cons pk9 (KSub.cons pk9 (KSub.drop (KSub.drop (KSub.refl _)))))))))
  by_cases e : j = i
  subst e; rw [if_pos rfl, if_pos (by omega)]
  rw [if_neg e]
  by_cases e2 : j < i
  rw [if_pos e2, if_pos (by omega)]
  rw [if_neg e2, if_neg (by omega)]
  intro _ x; exact x.elim
  try simp only [zcb9] at hc0
  obtain rfl : i = H.n := by omega
  refine TW.exit ?_
  refine TQ.thenX ?_
  refine TQ.thenX ?_
  refine TQ.blkX ?_
  refine TQ.thenN (hY5 _ _ _ ?_)
  refine TW.seqD fun Y13 hY13 => ?_
  refine TW.region ?_
  refine TL.p Pu.mv ?_
  refine TL.p Pu.fn ?_
  refine TL.call rfl (enters Tryz.func91 rfl rfl) (M := [.own Ar H.n cr 3 1 (fun j => [.int .i64 (j : Int)])]) (Pick.perm pk9) rfl (fun w hw => by
      have hw2 := hw.perm (Pick.perm (φ := .own Ar H.n cr 3 1 (fun j => [.int .i64 (j : Int)])) pk9)
      exact sortDep_any (dep := depH (moH H) H.n) (by omega) (hw2.holds _ (List.mem_cons_self ..)) (OldB.of_blk (hw.holds (.blk b4 28 [.slice (some ⟨b3, 0, none⟩) H.n H.n]) (by simp))) ((OwnR.rdr (hw.holds (.own (some ⟨b3, 0, none⟩) H.n H.n 3 1 (fun j => [.int .i64 (if j < H.n then (depH (moH H) H.n j : Int) else 0)])) (by simp))).cg fun j hj => by rw [if_pos hj]) (Sat.apartB (K1 := [.own Ar H.n cr 3 1 (fun j => [.int .i64 (j : Int)])]) (t := 28) (cs := [.slice (some ⟨b3, 0, none⟩) H.n H.n]) hw2 (by simp)) (fun _ => Sat.apartO (K1 := [.own Ar H.n cr 3 1 (fun j => [.int .i64 (j : Int)])]) (n := H.n) (c := H.n) (E := 3) (sz := 1) (r := fun j => [.int .i64 (if j < H.n then (depH (moH H) H.n j : Int) else 0)]) hw2 (by simp))) ?_
  rintro ⟨L, hLp, hLw⟩
  have hO : Ordd (moH H) H.n L := ⟨fun i => hLp.mem_iff.trans List.mem_range, hLp.nodup_iff.2 List.nodup_range, hLw⟩
  have hLl : L.length = H.n := by rw [hLp.length_eq, List.length_range]
  have hLm : ∀ i ∈ L, i < H.n := fun i hi => (hO.mem i).1 hi
  refine TL.nil ?_
  refine TQ.thenN (hY13 _ _ _ ?_)
  refine TW.seqD fun Y14 hY14 => ?_
  refine TW.seqD fun Y15 hY15 => ?_
  refine TW.region ?_
  refine TL.p Pu.mv ?_
  refine TL.p (Pu.ln Tryz.underlying28) ?_
  refine TL.p Pu.mv ?_
  refine TL.nil ?_
  refine TQ.thenN (hY15 _ _ _ ?_)
  refine TW.block ?_
  refine TW.loop1 (fun (p : Nat) => [(46, .int .i64 (p : Int)), (45, .int .i64 (H.n : Int)), (44, .slice Ar H.n cr), (7, .slice Ar H.n cr), (2, .pointer (some ⟨b1, 0, none⟩)), (6, .pointer (some ⟨b2, 0, none⟩))]) (fun p => .own A2 H.n c2 36 2 (fun j => spL (upP (moH H) S (L.take p) j).1 (upP (moH H) S (L.take p) j).2) :: .own Ar H.n cr 3 1 (fun j => [.int .i64 ((L.getD j 0 : Nat) : Int)]) :: .blk b2 31 [.slice A2 H.n c2] :: .blk b1 96 [.pointer (some ⟨x.1.1, 0, none⟩)] :: defK Ds) (fun p => p ≤ H.n) (fun p => H.n - p) 0 fs9 ?_ ?_ ?_
  exact KSub.cons pk9 (KSub.cons pk9 (KSub.cons pk9 (KSub.cons pk9 (KSub.drop (KSub.drop (KSub.refl _))))))
  exact Nat.zero_le _
  rintro p hp Z1 hZ1
  refine TW.seqD fun Y16 hY16 => ?_
  refine TW.region ?_
  refine TL.p Pu.lt ?_
  refine TL.nil ?_
  refine TQ.thenN (hY16 _ _ _ ?_)
  refine TW.seqD fun Y17 hY17 => ?_
  refine TW.cond rfl (fun hc1 => ?_) (fun hc1 => ?_)
  try simp only [zcb9] at hc1
  have hpn : p < H.n := by omega
  have hiL := hLm _ (getD_memN (show p < L.length by omega))
  have hbd := bd_upP moH_Mo hLm hS p (by omega)
  have hat := upP_at (f := moH H) (S := S) (show p < L.length by omega)
  generalize upP (moH H) S (L.take p) = U at hbd hat ⊢
  generalize hi9 : L.getD p 0 = i at *
  have hmb := moH_Mo (H := H) i hiL
  refine TW.skip ?_
  refine TQ.thenN (hY17 _ _ _ ?_)
  refine TW.seqD fun Y18 hY18 => ?_
  refine TW.block ?_
  refine TW.seqD fun Y19 hY19 => ?_
  refine TW.region ?_
  refine TL.p (Pu.el ty_et28) ?_
  refine TL.p (Pu.ld (v := .int .i64 (i : Int)) ty_sc3 (hq := Cells.own (m := 1) pk9 (by omega) (by show SubL [Value.int .i64 ((L.getD p 0 : Nat) : Int)] _ _ _; rw [hi9]; exact SubL.take SubL.nil))) ?_
  refine TL.p Pu.as ?_
  refine TL.nil ?_
  refine TQ.thenN (hY19 _ _ _ ?_)
  refine TW.seqD fun Y20 hY20 => ?_
  refine TW.region ?_
  refine TL.p (Pu.ld ty_sc96) ?_
  refine TL.p (by first | exact Pu.nn | exact Pu.nc) ?_
  refine TL.p (by first | exact Pu.fb ty_fa106_2 | exact Pu.fe ty_fa106_2) ?_
  refine TL.p (Pu.ldo ty_sc28) ?_
  refine TL.p Pu.mv ?_
  refine TL.p (Pu.el (q := i) ty_et28) ?_
  refine TL.p (Pu.ld ty_sc3) ?_
  refine TL.p Pu.as ?_
  refine TL.nil ?_
  refine TQ.thenN (hY20 _ _ _ ?_)
  refine TW.seqD fun Y21 hY21 => ?_
  refine TW.region ?_
  refine TL.p Pu.mv ?_
  refine TL.p Pu.ge ?_
  refine TL.nil ?_
  refine TQ.thenN (hY21 _ _ _ ?_)
  refine TW.cond rfl (fun hc2 => ?_) (fun hc2 => ?_)
  try simp only [zcb9] at hc2
  have hm0 : 0 ≤ moH H i := hc2
  have bi2 := hbd i hiL
  have bm2 := hbd (moH H i).toNat (by omega)
  refine TW.np ?_
  refine TW.dw 13 ?_
  refine RK.tk (Pu.ld ty_sc31) ?_
  refine RK.tk Pu.mv ?_
  refine RK.tk (Pu.ld ty_sc31) ?_
  refine RK.tk Pu.mv ?_
  refine RK.tk (Pu.el (q := (moH H i).toNat) ty_et31 (hk := rfl)) ?_
  refine RK.tk (Pu.lds ty_ag36) ?_
  refine RK.tk (Pu.ld ty_sc31) ?_
  refine RK.tk Pu.mv ?_
  refine RK.tk (Pu.el (q := i) ty_et31) ?_
  refine RK.tk (Pu.lds ty_ag36) ?_
  refine RK.keep ?_
  refine RK.keep ?_
  refine RK.keep ?_
  refine RK.ch [false, false, true] ?_ trivial
  refine WK.cr rfl (enters Tryz.func94 rfl rfl) (fun w hw => by
      exact bShifted_any _ _ _ _ _ (by omega)) ?_
  refine WK.cr rfl (enters Tryz.func73 rfl rfl) (fun w hw => by
      exact bCommon_any _ _ _ _ _) ?_
  refine WK.p (Pu.el (q := (moH H i).toNat) ty_et31 (hk := rfl)) ?_
  refine WK.n ?_
  first | refine TL.st ty_sz36 ?_ | refine TL.se ty_sz36 ?_
  refine TL.nil ?_
  refine TQ.npN ?_
  refine TQ.blkN ?_
  refine TQ.thenN (hY18 _ _ _ ?_)
  refine TW.region ?_
  refine TL.p Pu.ad ?_
  refine TL.p Pu.mv ?_
  refine TL.nil ?_
  refine TQ.thenN (hZ1 (p + 1) _ _ ?_ ?_ fs9 ?_)
  exact (by omega)
  exact zom9
  first
    | (refine KSub.own pk9 (fun j hj => row_put ?_) (KSub.cons pk9 (KSub.cons pk9 (KSub.cons pk9 (KSub.refl _))))
       rw [hat]
       unfold upS
       rw [if_pos hm0]
       rfl)
    | (refine KSub.own pk9 (fun j hj => ?_) (KSub.cons pk9 (KSub.cons pk9 (KSub.cons pk9 (KSub.refl _))))
       rw [hat]
       unfold upS
       rw [if_neg hm0])
  try simp only [zcb9] at hc2
  have hm0 : ¬ 0 ≤ moH H i := by omega
  refine TW.skip ?_
  refine TQ.blkN ?_
  refine TQ.thenN (hY18 _ _ _ ?_)
  refine TW.region ?_
  refine TL.p Pu.ad ?_
  refine TL.p Pu.mv ?_
  refine TL.nil ?_
  refine TQ.thenN (hZ1 (p + 1) _ _ ?_ ?_ fs9 ?_)
  exact (by omega)
  exact zom9
  first
    | (refine KSub.own pk9 (fun j hj => row_put ?_) (KSub.cons pk9 (KSub.cons pk9 (KSub.cons pk9 (KSub.refl _))))
       rw [hat]
       unfold upS
       rw [if_pos hm0]
       rfl)
    | (refine KSub.own pk9 (fun j hj => ?_) (KSub.cons pk9 (KSub.cons pk9 (KSub.cons pk9 (KSub.refl _))))
       rw [hat]
       unfold upS
       rw [if_neg hm0])
  try simp only [zcb9] at hc1
  obtain rfl : p = H.n := by omega
  have hUe : upP (moH H) S (L.take H.n) = upP (moH H) S L := by rw [List.take_of_length_le (by omega)]
  rw [hUe]
  refine TW.exit ?_
  refine TQ.thenX ?_
  refine TQ.thenX ?_
  refine TQ.blkX ?_
  refine TQ.thenN (hY14 _ _ _ ?_)
  refine TW.seqD fun Y22 hY22 => ?_
  refine TW.seqD fun Y23 hY23 => ?_
  refine TW.region ?_
  refine TL.p Pu.mv ?_
  refine TL.call (M := []) rfl (enters Tryz.func95 rfl rfl) (List.Perm.refl _) rfl (fun w hw => by
      exact backI_any) ?_
  rintro bk
  refine TL.nil ?_
  refine TQ.thenN (hY23 _ _ _ ?_)
  refine TW.block ?_
  refine TW.rangeR (fun (q : Nat) (_ : Unit) => .own A2 H.n c2 36 2 (fun j => spL (dnP (moH H) (upP (moH H) S L) (L.reverse.take q) j).1 (dnP (moH H) (upP (moH H) S L) (L.reverse.take q) j).2) :: .blk b2 31 [.slice A2 H.n c2] :: .blk b1 96 [.pointer (some ⟨x.1.1, 0, none⟩)] :: defK Ds) (fun x : Empty => x.elim) (fun x => x.elim) (()) (fun x y => (backI1_iter (A := Ar) (n := H.n) (cp := cr) (b := bk) (v := fun j => ((L.getD j 0 : Nat) : Int)) (by omega)).at) ?_ ?_ ?_ ?_ (eg := enters Tryz.func113 rfl rfl)
  exact KSub.cons pk9 (KSub.cons pk9 (KSub.cons pk9 (KSub.cons pk9 (KSub.cons pk9 (KSub.refl _)))))
  rintro lR DR oR oR1 oR2 q g r hq ZR1 hZR1
  simp only [backM, List.cons_append, List.nil_append]
  have hql : q < L.reverse.length := by rw [List.length_reverse]; omega
  have hLr : ∀ i ∈ L.reverse, i < H.n := fun i hi => hLm i (List.mem_reverse.1 hi)
  have hU := bd_upP moH_Mo hLm hS H.n (by omega)
  rw [hUe] at hU
  have hbd := bd_dnP moH_Mo hLr hU q (by omega)
  have hat := dnP_at (f := moH H) (S := upP (moH H) S L) hql
  have hiL := hLr _ (getD_memN hql)
  rw [rev_getD (show q < L.length by omega), hLl] at hat hiL
  generalize dnP (moH H) (upP (moH H) S L) (L.reverse.take q) = U at hbd hat ⊢
  generalize hi9 : L.getD (H.n - 1 - q) 0 = i at *
  have hmb := moH_Mo (H := H) i hiL
  refine TWi.region ?_
  refine TL.p Pu.as ?_
  refine TL.nil ?_
  refine TQ.thenN (hZR1 _ _ _ Pick.hd ?_)
  refine TWi.block ?_
  refine TWi.seq fun Y24 hY24 => ?_
  refine TWi.region ?_
  refine TL.p (Pu.ld ty_sc96) ?_
  refine TL.p (by first | exact Pu.nn | exact Pu.nc) ?_
  refine TL.p (by first | exact Pu.fb ty_fa106_2 | exact Pu.fe ty_fa106_2) ?_
  refine TL.p (Pu.ldo ty_sc28) ?_
  refine TL.p Pu.mv ?_
  refine TL.p (Pu.el (q := i) ty_et28) ?_
  refine TL.p (Pu.ld ty_sc3) ?_
  refine TL.p Pu.as ?_
  refine TL.nil (TQ.thenN (hY24 _ _ ?_))
  refine TWi.seq fun Y25 hY25 => ?_
  refine TWi.region ?_
  refine TL.p Pu.mv ?_
  refine TL.p Pu.ge ?_
  refine TL.nil (TQ.thenN (hY25 _ _ ?_))
  refine TWi.cond rfl (fun hc3 => ?_) (fun hc3 => ?_)
  try simp only [zcb9] at hc3
  have hm0 : 0 ≤ moH H i := hc3
  have bi2 := hbd i hiL
  have bm2 := hbd (moH H i).toNat (by omega)
  refine TWi.dw 13 ?_
  refine RK.tk (Pu.ld ty_sc31) ?_
  refine RK.tk Pu.mv ?_
  refine RK.tk (Pu.ld ty_sc31) ?_
  refine RK.tk Pu.mv ?_
  refine RK.tk (Pu.el (q := i) ty_et31) ?_
  refine RK.tk (Pu.lds ty_ag36) ?_
  refine RK.tk (Pu.ld ty_sc31) ?_
  refine RK.tk Pu.mv ?_
  refine RK.tk (Pu.el (q := (moH H i).toNat) ty_et31 (hk := rfl)) ?_
  refine RK.tk (Pu.lds ty_ag36) ?_
  refine RK.keep ?_
  refine RK.keep ?_
  refine RK.keep ?_
  refine RK.ch [false, false, true] ?_ trivial
  refine WK.cr rfl (enters Tryz.func94 rfl rfl) (fun w hw => by
      exact bShifted_any _ _ _ _ _ (by omega)) ?_
  refine WK.cr rfl (enters Tryz.func73 rfl rfl) (fun w hw => by
      exact bCommon_any _ _ _ _ _) ?_
  refine WK.p (Pu.el (q := i) ty_et31) ?_
  refine WK.n ?_
  first | refine TL.st ty_sz36 ?_ | refine TL.se ty_sz36 ?_
  refine TL.nil ?_
  refine TQ.blkN ?_
  refine TQ.rbN (()) ?_
  simp only [backM, List.cons_append, List.nil_append]
  first
    | (refine KSub.cons pk9 (KSub.cons pk9 (KSub.cons pk9 (KSub.cons pk9 (KSub.own pk9 (fun j hj => row_put ?_) (KSub.cons pk9 (KSub.cons pk9 (KSub.refl _)))))))
       rw [hat]
       unfold dnS
       rw [if_pos hm0]
       rfl)
    | (refine KSub.cons pk9 (KSub.cons pk9 (KSub.cons pk9 (KSub.cons pk9 (KSub.own pk9 (fun j hj => ?_) (KSub.cons pk9 (KSub.cons pk9 (KSub.refl _)))))))
       rw [hat]
       unfold dnS
       rw [if_neg hm0])
  try simp only [zcb9] at hc3
  have hm0 : ¬ 0 ≤ moH H i := by omega
  refine TWi.skip ?_
  refine TQ.blkN ?_
  refine TQ.rbN (()) ?_
  simp only [backM, List.cons_append, List.nil_append]
  first
    | (refine KSub.cons pk9 (KSub.cons pk9 (KSub.cons pk9 (KSub.cons pk9 (KSub.own pk9 (fun j hj => row_put ?_) (KSub.cons pk9 (KSub.cons pk9 (KSub.refl _)))))))
       rw [hat]
       unfold dnS
       rw [if_pos hm0]
       rfl)
    | (refine KSub.cons pk9 (KSub.cons pk9 (KSub.cons pk9 (KSub.cons pk9 (KSub.own pk9 (fun j hj => ?_) (KSub.cons pk9 (KSub.cons pk9 (KSub.refl _)))))))
       rw [hat]
       unfold dnS
       rw [if_neg hm0])
  rintro DR r
  have hDe : dnP (moH H) (upP (moH H) S L) (L.reverse.take H.n) = bthP (moH H) S L := by rw [List.take_of_length_le (by rw [List.length_reverse]; omega)]; rfl
  simp only [List.nil_append, hDe]
  have hRe := bth_eq moH_Mo hk.ac (bth_wid (S := S) moH_Mo hk.ac hO)
  generalize bthP (moH H) S L = R9 at hRe ⊢
  refine TQ.blkN ?_
  refine TQ.thenN (hY22 _ _ _ ?_)
  refine TW.seqD fun Y26 hY26 => ?_
  refine TW.np ?_
  refine TW.dw 6 ?_
  refine RK.tk (Pu.ld ty_sc31) ?_
  refine RK.tk (Pu.ld ty_sc31) ?_
  refine RK.keep ?_
  refine RK.keep ?_
  refine RK.keep ?_
  refine RK.keep ?_
  refine RK.ch [false, true, true, true] ?_ trivial
  refine WK.cr rfl (enters Tryz.func96 rfl rfl) (fun w hw => by
      exact hasSpan_any (fs := []) (cs := []) (v := fun k j => if j = 0 then (R9 k).1 else (R9 k).2) (p := fun k => decide ((R9 k).2 < (R9 k).1)) (enters Tryz.func97 rfl rfl) (by omega) (OwnR.rdr (hw.holds (.own A2 H.n c2 36 2 (fun j => spL (R9 j).1 (R9 j).2)) (by simp))) fun k hk w' hb => emptySpan_any _ _ _) ?_
  refine WK.p Pu.no ?_
  refine WK.p Pu.as ?_
  refine WK.p Pu.as ?_
  refine WK.n ?_
  refine TL.nil ?_
  refine TQ.npN ?_
  refine TQ.thenN (hY26 _ _ _ ?_)
  refine TW.ret ?_
  refine TQ.retMs (DR :: Ds) ([.own A2 H.n c2 36 2 (fun j => spL (R9 j).1 (R9 j).2)]) Tryz.results55 ?_ ((.tmp rfl (.tmp rfl .nil))) ?_
  simp only [defK, List.map_nil, List.map_cons, List.nil_append, List.cons_append]
  exact kt9
  have hv : (!anyB H.n fun k => decide ((R9 k).2 < (R9 k).1)) = bthOk (moH H) H.n S := by
    rw [not_anyB]
    refine allB_congr fun i hi => ?_
    rw [hRe i hi, Bool.eq_iff_iff]
    simp
  exact fun w hw => ⟨(A2, c2), by show Ending.returned _ = Ending.returned (Value.tuple #[Value.slice A2 H.n c2, Value.bool (bthOk (moH H) H.n S)]); rw [← hv]; rfl, hw.sub (KSub.own Pick.hd (fun j hj => by rw [hRe j hj]) KSub.nil)⟩
  intro _ x; exact x.elim
end Go.Proofs.YtbenhafhklfhmaaGreat
namespace Go.Proofs.YtbenhafhklfhmaaGreat
set_option linter.all false
set_option linter.unusedVariables false
set_option linter.unusedSimpArgs false
open Go.RowKit
theorem opK_in {S : List Nat} {w0 w : World} {K : List Fact} {H : Hd} {A : Option Addr} {cp : Nat} {x : OpX} (h : Sat S w0 K w) (hm : ∀ φ ∈ opK H A cp x, φ ∈ K) : HwIn w H A cp x :=
  ⟨OldB.of_blk (h.holds (.blk x.1.1 106 [.slice A H.n cp, .map (some x.1.2), .slice x.2.1.1 H.n x.2.1.2, .slice x.2.2.1 H.n x.2.2.2]) (hm _ (by simp [opK]))),
    (h.holds (.obj x.1.2 (mapO .i64 (plM H H.n))) (hm _ (by simp [opK]))).1,
    OwnR.rdr (h.holds (.own x.2.1.1 H.n x.2.1.2 3 1 (fun j => [.int .i64 (moH H j)])) (hm _ (by simp [opK]))),
    OwnR.rdr (h.holds (.own x.2.2.1 H.n x.2.2.2 111 8 (fun j => octL (sgH H j))) (hm _ (by simp [opK])))⟩
set_option maxRecDepth 100000 in
set_option maxHeartbeats 1000000 in
theorem born_any {w : World} {H : Hd} {A : Option Addr} {cp : Nat} {x : OpX} {a : Nat → Option Addr} {c : Nat → Nat} (hI : HIn w A H a c) (hW : HwIn w H A cp x) :
  CallsK Tryz.prog 61 #[.pointer (some ⟨x.1.1, 0, none⟩)] [] w (Option Addr × Nat) (fun y => .slice y.1 H.n y.2) (fun y => [.own y.1 H.n y.2 36 2 (fun j => spL (bornH H j).1 (bornH H j).2)]) := by
 have hn := hI.hn
 have hR := hI.hR
 have hoB := hW.oB
 refine K_enter (S := []) (K := []) Tryz.func61 rfl Tryz.ntmps61 rfl (Sat.start _) ?_
 refine TW.seq fun Y1 hY1 => TW.region ?_
 refine TL.p Pu.as ?_
 refine TL.nil (TQ.thenN (hY1 _ _ ?_))
 refine TW.seq fun Y2 hY2 => TW.region ?_
 refine TL.p Pu.as ?_
 refine TL.nil (TQ.thenN (hY2 _ _ ?_))
 refine TW.seq fun Y3 hY3 => ?_
 refine TW.seq fun Y4 hY4 => TW.region ?_
 refine TL.p Pu.mv ?_
 refine TL.p (by first | exact Pu.nn | exact Pu.nc) ?_
 refine TL.p (by first | exact Pu.fb ty_fa106_0 | exact Pu.fe ty_fa106_0) ?_
 refine TL.p (Pu.ldo ty_sc22) ?_
 refine TL.p (Pu.ln Tryz.underlying22) ?_
 refine TL.p Pu.mv ?_
 refine TL.nil (TQ.thenN (hY4 _ _ ?_))
 refine TW.block ?_
 refine TW.loop3 (fun (i : Nat) (B : Option Addr) (cb : Nat) => [(11, .int .i64 (i : Int)), (10, .int .i64 (H.n : Int)), (9, .slice A H.n cp), (3, .slice B i cb)]) (fun i B cb => [.own B i cb 36 2 (fun j => spL (bornH H j).1 (bornH H j).2)]) (fun i B cb => i ≤ H.n) (fun i B cb => H.n - i) 0 none 0 fs9 ?_ ?_ ?_
 exact KSub.nilOwn KSub.nil
 exact Nat.zero_le _
 rintro i B cb hi Z0 hZ0
 refine TW.seq fun Y5 hY5 => TW.region ?_
 refine TL.p Pu.lt ?_
 refine TL.nil (TQ.thenN (hY5 _ _ ?_))
 refine TW.seq fun Y6 hY6 => ?_
 refine TW.cond rfl (fun hc0 => ?_) (fun hc0 => ?_)
 try simp only [zcb9] at hc0
 have hin : i < H.n := by omega
 refine TW.skip ?_
 refine TQ.thenN (hY6 _ _ ?_)
 refine TW.seq fun Y7 hY7 => ?_
 refine TW.block ?_
 refine TW.seq fun Y8 hY8 => TW.region ?_
 refine TL.p (Pu.el ty_et22) ?_
 refine TL.p (Pu.lds ty_ag46) ?_
 refine TL.m (Mk.al ty_zr46) ?_
 intro b1
 first | refine TL.st ty_sz46 ?_ | refine TL.se ty_sz46 ?_
 refine TL.nil (TQ.thenN (hY8 _ _ ?_))
 refine TW.region ?_
 refine TL.p Pu.mv ?_
 refine TL.p (by first | exact Pu.fb ty_fa46_2 | exact Pu.fe ty_fa46_2) ?_
 refine TL.p (Pu.lds ty_ag36) ?_
 refine TL.m Mk.bl ?_
 intro b2
 first | refine TL.a0 ty_et31 ?_ | refine TL.ap ty_et31 ?_
 intro A3 c3
 refine TL.p Pu.as ?_
 refine TL.nil ?_
 refine TQ.blkN ?_
 refine TQ.thenN (hY7 _ _ ?_)
 refine TW.region ?_
 refine TL.p Pu.ad ?_
 refine TL.p Pu.mv ?_
 refine TL.nil ?_
 refine TQ.thenN (hZ0 (i + 1) A3 c3 _ _ ?_ ?_ fs9 ?_)
 exact (by omega)
 exact zom9
 exact KSub.own pk9 (fun j hj => cat_rows (r := fun j => spL (bornH H j).1 (bornH H j).2) rfl hj) KSub.nil
 try simp only [zcb9] at hc0
 obtain rfl : i = H.n := by omega
 refine TW.exit ?_
 refine TQ.thenX ?_
 refine TQ.thenX ?_
 refine TQ.blkX ?_
 refine TQ.thenN (hY3 _ _ ?_)
 refine TW.seq fun Y9 hY9 => TW.region ?_
 refine TL.p Pu.mv ?_
 refine TL.p Pu.as ?_
 refine TL.nil (TQ.thenN (hY9 _ _ ?_))
 refine TW.ret ?_
 refine TQ.ret Tryz.results61 rfl ((.tmp rfl .nil)) ?_
 exact fun w hw => ⟨(B, cb), rfl, hw⟩
theorem born_bd {H : Hd} (h : HOk H) : BdS H.n 100000 (bornH H) := fun j hj => by
 have := h.bd j hj
 unfold bornH
 dsimp only
 omega
def livC (H : Hd) : Int := if herdB H then (if bthOk (moH H) H.n (bornH H) then 0 else 21) else 20
abbrev LvX := OpX × (Option Addr × Nat)
def livB (H : Hd) : BSt := bth (moH H) H.n (bornH H)
set_option maxRecDepth 100000 in
set_option maxHeartbeats 1000000 in
theorem lived_any {w : World} {A : Option Addr} {cp : Nat} {H : Hd} {a : Nat → Option Addr} {c : Nat → Nat} (hI : HIn w A H a c) :
  CallsK Tryz.prog 46 #[.slice A H.n cp] [] w LvX (fun x => if livC H = 0 then .tuple #[.pointer (some ⟨x.1.1.1, 0, none⟩), .slice x.2.1 H.n x.2.2, .int .i64 0] else .tuple #[.pointer none, .slice none 0 0, .int .i64 (livC H)])
   (fun x => if livC H = 0 then .own x.2.1 H.n x.2.2 36 2 (fun j => spL (livB H j).1 (livB H j).2) :: opK H A cp x.1 else []) := by
 cases hh : herdB H with
 | false =>
  have hc : livC H = 20 := by unfold livC; rw [hh]; rfl
  refine K_enter (S := []) (K := []) Tryz.func46 rfl Tryz.ntmps46 rfl (Sat.start _) ?_
  refine TW.seq fun Y1 hY1 => TW.region ?_
  refine TL.p Pu.as ?_
  refine TL.p Pu.as ?_
  refine TL.p Pu.as ?_
  refine TL.nil (TQ.thenN (hY1 _ _ ?_))
  refine TW.seq fun Y2 hY2 => TW.region ?_
  refine TL.p Pu.mv ?_
  refine TL.call (M := []) rfl (enters Tryz.func69 rfl rfl) (List.Perm.refl _) rfl (fun w hw => by
    have h9 := open_any (cp := cp) (hI.sat hw)
    rw [hh] at h9
    exact h9) ?_
  rintro xo
  refine TL.p Pu.mv ?_
  refine TL.p Pu.ex ?_
  refine TL.p Pu.ex ?_
  refine TL.p Pu.as ?_
  refine TL.p Pu.as ?_
  refine TL.nil (TQ.thenN (hY2 _ _ ?_))
  refine TW.seq fun Y3 hY3 => ?_
  refine TW.seq fun Y4 hY4 => TW.region ?_
  refine TL.p Pu.mv ?_
  refine TL.p Pu.ne ?_
  refine TL.nil (TQ.thenN (hY4 _ _ ?_))
  refine TW.condT rfl (rfl) ?_
  refine TW.seq fun Y5 hY5 => TW.region ?_
  refine TL.p Pu.mv ?_
  refine TL.p Pu.as ?_
  refine TL.p Pu.as ?_
  refine TL.p Pu.as ?_
  refine TL.nil (TQ.thenN (hY5 _ _ ?_))
  refine TW.ret ?_
  refine TQ.thenR ?_
  refine TQ.ret Tryz.results46 rfl ((.tmp rfl (.tmp rfl (.tmp rfl .nil)))) ?_
  exact fun w hw => ⟨(((0, 0), (none, 0), (none, 0)), (none, 0)), by show Ending.returned _ = Ending.returned (if livC H = 0 then _ else _); rw [hc]; rfl, by show Sat _ _ (if livC H = 0 then _ else _) _; rw [hc]; exact hw.sub KSub.nil⟩
 | true =>
  have hk := herdB_ok.1 hh
  refine K_enter (S := []) (K := []) Tryz.func46 rfl Tryz.ntmps46 rfl (Sat.start _) ?_
  refine TW.seq fun Y1 hY1 => TW.region ?_
  refine TL.p Pu.as ?_
  refine TL.p Pu.as ?_
  refine TL.p Pu.as ?_
  refine TL.nil (TQ.thenN (hY1 _ _ ?_))
  refine TW.seq fun Y2 hY2 => TW.region ?_
  refine TL.p Pu.mv ?_
  refine TL.call (M := []) rfl (enters Tryz.func69 rfl rfl) (List.Perm.refl _) rfl (fun w hw => by
    have h9 := open_any (cp := cp) (hI.sat hw)
    rw [hh] at h9
    exact h9) ?_
  rintro xo
  simp only [if_true]
  refine TL.p Pu.mv ?_
  refine TL.p Pu.ex ?_
  refine TL.p Pu.ex ?_
  refine TL.p Pu.as ?_
  refine TL.p Pu.as ?_
  refine TL.nil (TQ.thenN (hY2 _ _ ?_))
  refine TW.seq fun Y3 hY3 => ?_
  refine TW.seq fun Y4 hY4 => TW.region ?_
  refine TL.p Pu.mv ?_
  refine TL.p Pu.ne ?_
  refine TL.nil (TQ.thenN (hY4 _ _ ?_))
  refine TW.condF rfl (rfl) ?_
  refine TW.skip ?_
  refine TQ.thenN (hY3 _ _ ?_)
  refine TW.seq fun Y5 hY5 => TW.region ?_
  refine TL.p Pu.mv ?_
  refine TL.p Pu.mv ?_
  refine TL.call (M := []) rfl (enters Tryz.func61 rfl rfl) (List.Perm.refl _) rfl (fun w hw => by
    exact born_any (x := xo) (hI.sat hw) (opK_in (A := A) (cp := cp) (x := xo) hw (by intro φ h; first | exact h | (simp only [opK, List.mem_cons] at h ⊢; simp at h ⊢; first | exact h | exact .inr h | exact .inr (.inr h))))) ?_
  rintro ⟨A2, c2⟩
  refine TL.call (M := []) rfl (enters Tryz.func55 rfl rfl) (List.Perm.refl _) rfl (fun w hw => by
    exact births_any (x := xo) (S := bornH H) (B := 100000) hk (opK_in (A := A) (cp := cp) (x := xo) hw (by intro φ h; first | exact h | (simp only [opK, List.mem_cons] at h ⊢; simp at h ⊢; first | exact h | exact .inr h | exact .inr (.inr h)))) (OwnR.rdr (hw.holds (.own A2 H.n c2 36 2 (fun j => spL (bornH H j).1 (bornH H j).2)) (by simp))) (born_bd hk) (by omega)) ?_
  rintro ⟨A3, c3⟩
  refine TL.p Pu.mv ?_
  refine TL.p Pu.ex ?_
  refine TL.p Pu.ex ?_
  refine TL.p Pu.as ?_
  refine TL.p Pu.as ?_
  refine TL.nil (TQ.thenN (hY5 _ _ ?_))
  refine TW.seq fun Y6 hY6 => ?_
  refine TW.seq fun Y7 hY7 => TW.region ?_
  refine TL.p Pu.mv ?_
  refine TL.p Pu.no ?_
  refine TL.nil (TQ.thenN (hY7 _ _ ?_))
  refine TW.cond rfl (fun hc1 => ?_) (fun hc1 => ?_)
  try simp only [zcb9] at hc1
  have hc : livC H = 21 := by unfold livC; rw [hh, hc1]; rfl
  refine TW.seq fun Y8 hY8 => TW.region ?_
  refine TL.p Pu.as ?_
  refine TL.p Pu.as ?_
  refine TL.p Pu.as ?_
  refine TL.nil (TQ.thenN (hY8 _ _ ?_))
  refine TW.ret ?_
  refine TQ.thenR ?_
  refine TQ.ret Tryz.results46 rfl ((.tmp rfl (.tmp rfl (.tmp rfl .nil)))) ?_
  exact fun w hw => ⟨(((0, 0), (none, 0), (none, 0)), (none, 0)), by show Ending.returned _ = Ending.returned (if livC H = 0 then _ else _); rw [hc]; rfl, by show Sat _ _ (if livC H = 0 then _ else _) _; rw [hc]; exact hw.sub KSub.nil⟩
  try simp only [zcb9] at hc1
  have hc : livC H = 0 := by unfold livC; rw [hh, hc1]; rfl
  refine TW.skip ?_
  refine TQ.thenN (hY6 _ _ ?_)
  refine TW.seq fun Y9 hY9 => TW.region ?_
  refine TL.p Pu.mv ?_
  refine TL.p Pu.mv ?_
  refine TL.p Pu.as ?_
  refine TL.p Pu.as ?_
  refine TL.p Pu.as ?_
  refine TL.nil (TQ.thenN (hY9 _ _ ?_))
  refine TW.ret ?_
  refine TQ.ret Tryz.results46 rfl ((.tmp rfl (.tmp rfl (.tmp rfl .nil)))) ?_
  exact fun w hw => ⟨(xo, (A3, c3)), by show Ending.returned _ = Ending.returned (if livC H = 0 then _ else _); rw [hc]; rfl, by show Sat _ _ (if livC H = 0 then _ else _) _; rw [hc]; exact hw.sub (by unfold opK livB; (repeat (first | exact KSub.nil | refine KSub.cons pk9 ?_)))⟩
theorem bBirths_any {w : World} {A : Option Addr} {cp : Nat} {H : Hd} {a : Nat → Option Addr} {c : Nat → Nat} (hI : HIn w A H a c) :
  CallsK Tryz.prog 15 #[.slice A H.n cp] [] w (Option Addr × Nat) (fun x => .tuple #[.slice x.1 (if livC H = 0 then H.n else 0) x.2, .int .i64 (livC H)]) (fun x => [.own x.1 (if livC H = 0 then H.n else 0) x.2 36 2 (fun j => spL (livB H j).1 (livB H j).2)]) := by
 by_cases hc : livC H = 0
 case pos =>
  refine K_enter (S := []) (K := []) Tryz.func15 rfl Tryz.ntmps15 rfl (Sat.start _) ?_
  refine TW.seq fun Y1 hY1 => TW.region ?_
  refine TL.p Pu.as ?_
  refine TL.p Pu.as ?_
  refine TL.nil (TQ.thenN (hY1 _ _ ?_))
  refine TW.seq fun Y2 hY2 => TW.region ?_
  refine TL.p Pu.mv ?_
  refine TL.call (M := []) rfl (enters Tryz.func46 rfl rfl) (List.Perm.refl _) rfl (fun w hw => by
   have h9 := lived_any (cp := cp) (hI.sat hw)
   simp only [if_pos hc] at h9
   exact h9) ?_
  rintro ⟨xo, A3, c3⟩
  refine TL.p Pu.mv ?_
  refine TL.p Pu.ex ?_
  refine TL.p Pu.ex ?_
  refine TL.p Pu.ex ?_
  refine TL.p Pu.as ?_
  refine TL.p Pu.as ?_
  refine TL.p Pu.as ?_
  refine TL.nil (TQ.thenN (hY2 _ _ ?_))
  refine TW.seq fun Y3 hY3 => TW.region ?_
  refine TL.p Pu.mv ?_
  refine TL.p Pu.mv ?_
  refine TL.p Pu.as ?_
  refine TL.p Pu.as ?_
  refine TL.nil (TQ.thenN (hY3 _ _ ?_))
  refine TW.ret ?_
  refine TQ.ret Tryz.results15 rfl ((.tmp rfl (.tmp rfl .nil))) ?_
  exact fun w hw => ⟨(A3, c3), by simp only [hc]; rfl, by simp only [if_pos hc]; exact hw.sub (KSub.cons Pick.hd KSub.nil)⟩
 case neg =>
  refine K_enter (S := []) (K := []) Tryz.func15 rfl Tryz.ntmps15 rfl (Sat.start _) ?_
  refine TW.seq fun Y1 hY1 => TW.region ?_
  refine TL.p Pu.as ?_
  refine TL.p Pu.as ?_
  refine TL.nil (TQ.thenN (hY1 _ _ ?_))
  refine TW.seq fun Y2 hY2 => TW.region ?_
  refine TL.p Pu.mv ?_
  refine TL.call (M := []) rfl (enters Tryz.func46 rfl rfl) (List.Perm.refl _) rfl (fun w hw => by
   have h9 := lived_any (cp := cp) (hI.sat hw)
   simp only [if_neg hc] at h9
   exact h9) ?_
  rintro ⟨xo, A3, c3⟩
  refine TL.p Pu.mv ?_
  refine TL.p Pu.ex ?_
  refine TL.p Pu.ex ?_
  refine TL.p Pu.ex ?_
  refine TL.p Pu.as ?_
  refine TL.p Pu.as ?_
  refine TL.p Pu.as ?_
  refine TL.nil (TQ.thenN (hY2 _ _ ?_))
  refine TW.seq fun Y3 hY3 => TW.region ?_
  refine TL.p Pu.mv ?_
  refine TL.p Pu.mv ?_
  refine TL.p Pu.as ?_
  refine TL.p Pu.as ?_
  refine TL.nil (TQ.thenN (hY3 _ _ ?_))
  refine TW.ret ?_
  refine TQ.ret Tryz.results15 rfl ((.tmp rfl (.tmp rfl .nil))) ?_
  exact fun w hw => ⟨(none, 0), by simp only [if_neg hc]; rfl, by simp only [if_neg hc]; exact hw.sub (KSub.nilOwn KSub.nil)⟩
end Go.Proofs.YtbenhafhklfhmaaGreat
namespace Go.Proofs.YtbenhafhklfhmaaGreat
set_option linter.all false
set_option linter.unusedVariables false
set_option linter.unusedSimpArgs false
open Go.RowKit
theorem pl_v {H : Hd} {x : Int} : (mlook x (plM H H.n)).getD (.int .i64 0) = .int .i64 (if 0 ≤ atH H x then atH H x else 0) := by
 rw [pl_look]
 by_cases h : 0 ≤ atH H x
 · rw [if_pos h, if_pos h]; rfl
 · rw [if_neg h, if_neg h]; rfl
theorem pl_s {H : Hd} {x : Int} : (mlook x (plM H H.n)).isSome = decide (0 ≤ atH H x) := by
 rw [pl_look]
 by_cases h : 0 ≤ atH H x
 · rw [if_pos h, decide_eq_true h]; rfl
 · rw [if_neg h, decide_eq_false h]; rfl
theorem at_lt {H : Hd} {x : Int} (h : 0 ≤ atH H x) : (atH H x).toNat < H.n ∧ ((atH H x).toNat : Int) = atH H x := by
 have := atI_le (p := fun j => decide (H.id j = x)) (n := H.n) h
 exact ⟨this.1, this.2.2⟩
theorem pl_n {H : Hd} {x : Int} : (mlook x (plM H H.n)).getD (.int .i64 0) = .int .i64 ((atH H x).toNat : Int) := by
 rw [pl_v]
 by_cases h : 0 ≤ atH H x
 · rw [if_pos h, Int.toNat_of_nonneg h]
 · rw [if_neg h, Int.toNat_of_nonpos (by omega)]; rfl
end Go.Proofs.YtbenhafhklfhmaaGreat
namespace Go.Proofs.YtbenhafhklfhmaaGreat
set_option linter.all false
set_option linter.unusedVariables false
set_option linter.unusedSimpArgs false
open Go.RowKit
theorem ofI32 {m : Nat} (hm : m ≤ 4294967295) : (BitVec.ofInt 32 (m : Int)).toNat = m := by
 rw [BitVec.toNat_ofInt]
 omega
theorem bitsW_and {a b : Nat} (ha : a ≤ 4294967295) (hb : b ≤ 4294967295) : bits .and .u32 (a : Int) (b : Int) = ((a &&& b : Nat) : Int) := by
 have h2 : bits .and .u32 (a : Int) (b : Int) = IntKind.u32.wrap ((BitVec.ofInt 32 (a : Int) &&& BitVec.ofInt 32 (b : Int)).toNat : Int) := rfl
 rw [h2, BitVec.toNat_and, ofI32 ha, ofI32 hb]
 have : a &&& b ≤ a := Nat.and_le_left
 exact IntWalk.u32_in _ (by omega)
section
variable {c : Cx} {F : Fr} {K : List Fact} {d : Option Tmp} {ty xt yt : TypeId} {pos : String} {af : Array Edge} {g : Option (Nat × Bool)} {x y : Operand}
theorem Pu.srW {b i : Nat} (hx : ev F x = some (.int .u32 (b : Int)) := by rfl) (hy : ev F y = some (.int .i64 (i : Int)) := by rfl) (hj : i ≤ 32 := by omega) : Pu c F K ⟨d, .binOp .shr xt x y yt, ty, pos, af, g⟩ (.int .u32 ((b / 2 ^ i : Nat) : Int)) := Pu.bin hx hy fun w => by
 have h9 : Min.min i 32 = i := Nat.min_eq_left hj
 go_simp
theorem Pu.srW64 {b i : Nat} (hx : ev F x = some (.int .u32 (b : Int)) := by rfl) (hy : ev F y = some (.int .u64 (i : Int)) := by rfl) (hj : i ≤ 32 := by omega) : Pu c F K ⟨d, .binOp .shr xt x y yt, ty, pos, af, g⟩ (.int .u32 ((b / 2 ^ i : Nat) : Int)) := Pu.bin hx hy fun w => by
 have h9 : Min.min i 32 = i := Nat.min_eq_left hj
 go_simp
theorem Pu.anW {m : Nat} (hx : ev F x = some (.int .u32 (m : Int)) := by rfl) (hy : ev F y = some (.int .u32 1) := by rfl) (hm : m ≤ 4294967295 := by omega) : Pu c F K ⟨d, .binOp .and xt x y yt, ty, pos, af, g⟩ (.int .u32 ((m % 2 : Nat) : Int)) := Pu.bin hx hy fun w => by
 have h := bitsW_and (a := m) (b := 1) hm (by decide)
 rw [Nat.and_one_is_mod] at h
 have h : bits .and .u32 (m : Int) 1 = ((m % 2 : Nat) : Int) := h
 go_simp
end
end Go.Proofs.YtbenhafhklfhmaaGreat
namespace Go.Proofs.YtbenhafhklfhmaaGreat
set_option linter.all false
set_option linter.unusedVariables false
set_option linter.unusedSimpArgs false
open Go.RowKit
theorem sortI_any {w : World} {A : Option Addr} {n cp : Nat} {L : List Int} (hn : n = L.length) (h1 : n ≤ 1000000) (h : OwnR w A n cp 3 1 (iL L)) :
   CallsK Tryz.prog 115 #[.slice A n cp] [.own A n cp 3 1 (iL L)] w Unit (fun _ => .tuple #[]) (fun _ => [.own A n cp 3 1 (iL (srt L))]) := by
 subst hn
 rcases h.own.2 with ⟨e, h0⟩ | ⟨g, cap, cur, e, hg, hh, hnc, hcm, hcs, ht⟩
 · have hL : L = [] := List.length_eq_zero_iff.1 h0
   subst hL
   refine (Tryz.slices_Sort_int_none A cp w).mono ?_
   rintro e' w' ⟨rfl, rfl⟩
   refine ⟨(), rfl, ?_⟩
   rw [srt_nil]
   exact Sat.own1 h
 · simp only [Value.slice.injEq] at e
   obtain ⟨rfl, _, rfl⟩ := e
   have hlt := lt_of_get hh
   have hH : Sort.Holds (Value.int .i64) w g 0 L.toArray := fun j hj => by
    have hj' : j < L.length := by simpa using hj
    have hrd := h.own.form1 (by omega)
    obtain ⟨g', c', e, _, _, _, hcell, hfr⟩ := hrd
    cases e
    refine ⟨?_, hfr _⟩
    have := hcell j 0 hj' (by omega)
    rw [Nat.mul_one, Nat.add_zero] at this
    rw [Nat.zero_add, this]
    simp [rowF, iL, List.getD_eq_getElem?_getD, hj']
   refine (Tryz.slices_Sort_int g 0 cp L w hH hlt (by omega)).mono ?_
   rintro e' w' ⟨rfl, n, os, rfl⟩
   rw [ms_srt]
   exact ⟨(), rfl, own_putRow os n (srt_len L) h⟩
end Go.Proofs.YtbenhafhklfhmaaGreat
namespace Go.Proofs.YtbenhafhklfhmaaGreat
set_option linter.all false
set_option linter.unusedVariables false
set_option linter.unusedSimpArgs false
open Go.RowKit
theorem indexU32_any {g : FuncId} {fs cs : List Value} {A : Option Addr} {n cp : Nat} {v : Nat → Nat} {p : Nat → Bool} {M : Nat → List Fact} {w : World} (hen : Enters Tryz.prog g) (hn : n ≤ 9223372036854775807)
  (hR : RdR w 1 A n (fun k => [.int .u32 (v k : Int)])) (hA : 0 < n → Apart (feet (M 0)) A) (hM : Sat (feet (M 0)) w (M 0) w) (hfe : ∀ k, feet (M k) = feet (M 0))
  (hg : ∀ k, k < n → (∀ j, j < k → p j = false) → ∀ w', Sat (feet (M 0)) w (M k) w' → CallsK Tryz.prog g (fs ++ [Value.int .u32 (v k : Int)] ++ cs).toArray (M k) w' Unit (fun _ => .bool (p k)) (fun _ => M (k + 1))) :
  CallsK Tryz.prog 109 #[.slice A n cp, .func (.func g) fs.toArray cs.toArray] (M 0) w (Fst p n) (fun x => .int .i64 (if x.1 < n then (x.1 : Int) else -1)) (fun x => M (aft n x.1)) := by
 refine K_enter (S := feet (M 0)) (K := M 0) Tryz.func109 rfl Tryz.ntmps109 rfl hM ?_
 refine TW.seq fun Y1 hY1 => TW.region ?_
 refine TL.p Pu.as ?_
 refine TL.nil (TQ.thenN (hY1 _ _ ?_))
 refine TW.seq fun Y2 hY2 => ?_
 refine TW.seq fun Y3 hY3 => TW.region ?_
 refine TL.p Pu.mv ?_
 refine TL.p (Pu.ln Tryz.underlying24) ?_
 refine TL.p Pu.mv ?_
 refine TL.nil (TQ.thenN (hY3 _ _ ?_))
 refine TW.block ?_
 refine TW.loop1 (fun (k : Nat) => [(8, .int .i64 (k : Int)), (7, .int .i64 (n : Int)), (0, .slice A n cp), (1, .func (.func g) fs.toArray cs.toArray)]) (fun k => M k) (fun k => k ≤ n ∧ ∀ j, j < k → p j = false) (fun k => n - k) 0 fs9 ?_ ?_ ?_
 exact KSub.refl _
 exact ⟨by omega, fun j hj => by omega⟩
 rintro k ⟨hk, hall⟩ Z0 hZ0
 refine TW.seq fun Y4 hY4 => TW.region ?_
 refine TL.p Pu.lt ?_
 refine TL.nil (TQ.thenN (hY4 _ _ ?_))
 refine TW.seq fun Y5 hY5 => ?_
 refine TW.cond rfl (fun hc0 => ?_) (fun hc0 => ?_)
 try simp only [zcb9] at hc0
 have hkn : k < n := by omega
 have hA := hA (by omega)
 refine TW.skip ?_
 refine TQ.thenN (hY5 _ _ ?_)
 refine TW.seq fun Y6 hY6 => ?_
 refine TW.block ?_
 refine TW.seq fun Y7 hY7 => TW.region ?_
 refine TL.p Pu.mv ?_
 refine TL.p Pu.as ?_
 refine TL.nil (TQ.thenN (hY7 _ _ ?_))
 refine TW.seq fun Y8 hY8 => TW.region ?_
 refine TL.p Pu.mv ?_
 refine TL.p Pu.mv ?_
 refine TL.p Pu.mv ?_
 refine TL.p (Pu.el ty_et24) ?_
 refine TL.p (Pu.ld ty_sc25) ?_
 refine TL.cvk rfl rfl hen (by rw [List.append_nil]) (fun w hw => by
   exact hg k (by omega) hall w hw) ?_
 intro _
 refine TL.nil (TQ.thenN (hY8 _ _ ?_))
 refine TW.cond rfl (fun hc1 => ?_) (fun hc1 => ?_)
 try simp only [zcb9] at hc1
 refine TW.seq fun Y9 hY9 => TW.region ?_
 refine TL.p Pu.mv ?_
 refine TL.p Pu.as ?_
 refine TL.nil (TQ.thenN (hY9 _ _ ?_))
 refine TW.ret ?_
 refine TQ.blkR ?_
 refine TQ.thenR ?_
 refine TQ.thenR ?_
 refine TQ.blkR ?_
 refine TQ.thenR ?_
 refine TQ.ret Tryz.results109 rfl ((.tmp rfl .nil)) ?_
 exact fun w hw => ⟨⟨k, by omega, hall, fun _ => hc1⟩, by simp [hkn]; rfl, by simpa [aft, hkn] using hw⟩
 try simp only [zcb9] at hc1
 refine TW.skip ?_
 refine TQ.blkN ?_
 refine TQ.thenN (hY6 _ _ ?_)
 refine TW.region ?_
 refine TL.p Pu.ad ?_
 refine TL.p Pu.mv ?_
 refine TL.nil ?_
 refine TQ.thenN (hZ0 (k + 1) _ _ ?_ ?_ fs9 ?_)
 refine ⟨by omega, fun j hj => ?_⟩
 by_cases h : j = k
 subst h; exact hc1
 exact hall j (by omega)
 exact zom9
 rw [List.append_nil]; exact KSub.refl _
 try simp only [zcb9] at hc0
 have hkn : k = n := by omega
 refine TW.exit ?_
 refine TQ.thenX ?_
 refine TQ.thenX ?_
 refine TQ.blkX ?_
 refine TQ.thenN (hY2 _ _ ?_)
 refine TW.seq fun Y10 hY10 => TW.region ?_
 refine TL.p Pu.as ?_
 refine TL.nil (TQ.thenN (hY10 _ _ ?_))
 refine TW.ret ?_
 refine TQ.ret Tryz.results109 rfl ((.tmp rfl .nil)) ?_
 exact fun w hw => ⟨⟨k, by omega, hall, fun h => by omega⟩, by simp [hkn]; rfl, by simpa [aft, hkn] using hw⟩
theorem hasU32_st {g : FuncId} {fs cs : List Value} {A : Option Addr} {n cp : Nat} {v : Nat → Nat} {p : Nat → Bool} {M : Nat → List Fact} {w : World} (hen : Enters Tryz.prog g) (hn : n ≤ 9223372036854775807)
  (hR : RdR w 1 A n (fun k => [.int .u32 (v k : Int)])) (hA : 0 < n → Apart (feet (M 0)) A) (hM : Sat (feet (M 0)) w (M 0) w) (hfe : ∀ k, feet (M k) = feet (M 0))
  (hg : ∀ k, k < n → (∀ j, j < k → p j = false) → ∀ w', Sat (feet (M 0)) w (M k) w' → CallsK Tryz.prog g (fs ++ [Value.int .u32 (v k : Int)] ++ cs).toArray (M k) w' Unit (fun _ => .bool (p k)) (fun _ => M (k + 1))) :
  CallsK Tryz.prog 89 #[.slice A n cp, .func (.func g) fs.toArray cs.toArray] (M 0) w (Fst p n) (fun x => .bool (decide (x.1 < n))) (fun x => M (aft n x.1)) := by
 refine K_enter (S := feet (M 0)) (K := M 0) Tryz.func89 rfl Tryz.ntmps89 rfl hM ?_
 refine TW.seq fun Y1 hY1 => TW.region ?_
 refine TL.p Pu.as ?_
 refine TL.nil (TQ.thenN (hY1 _ _ ?_))
 refine TW.seq fun Y2 hY2 => TW.region ?_
 refine TL.p Pu.mv ?_
 refine TL.p Pu.mv ?_
 refine TL.call rfl (enters Tryz.func109 rfl rfl) (by rw [List.append_nil]) rfl (fun w hw => by
   exact indexU32_any hen hn (hR.sat0 hw hA) hA hw.self hfe (fun k hk hp w' hw' => hg k hk hp w' (hw'.from hw.chg fun _ hb => .inl hb))) ?_
 intro x
 refine TL.p Pu.ge ?_
 refine TL.p Pu.as ?_
 refine TL.nil (TQ.thenN (hY2 _ _ ?_))
 refine TW.ret ?_
 refine TQ.ret Tryz.results89 rfl ((.tmp rfl .nil)) ?_
 exact fun w hw => ⟨x, by by_cases h : x.1 < n <;> simp [retV, h], by simpa using hw⟩
theorem hasU32_any {g : FuncId} {fs cs : List Value} {A : Option Addr} {n cp : Nat} {v : Nat → Nat} {p : Nat → Bool} {w : World} (hen : Enters Tryz.prog g) (hn : n ≤ 9223372036854775807)
  (hR : RdR w 1 A n (fun k => [.int .u32 (v k : Int)])) (hg : ∀ k, k < n → ∀ w', Below w.heap.size w w' → Calls Tryz.prog g (fs ++ [Value.int .u32 (v k : Int)] ++ cs).toArray w' (Ret w' (.bool (p k)))) :
  Calls Tryz.prog 89 #[.slice A n cp, .func (.func g) fs.toArray cs.toArray] w (Ret w (.bool (anyB n p))) :=
 CallsK.retOf (hasU32_st (M := fun _ => []) hen hn hR (fun _ => Apart.nil) (Sat.start w) (fun _ => rfl) fun k hk _ w' hw' => CallsK.ret (hg k hk w' (Chg.ext hw'.chg))) fun x => by rw [x.any]; rfl
def lkL (l : Lk) (A : Option Addr) (c : Nat) : List Value := [.slice A l.ns c, .int .i64 l.day, .int .i64 l.alo, .int .i64 l.ahi]
structure LkIn (w : World) (l : Lk) (A : Option Addr) : Prop where
 hn : l.ns ≤ 1000
 hR : RdR w 1 A l.ns (fun k => [.int .u32 (l.sg k : Int)])
 hb : ∀ k, k < l.ns → l.sg k ≤ 4294967295
theorem LkIn.sat {w w' : World} {l : Lk} {A : Option Addr} {K : List Fact} (h : LkIn w l A) (hs : Sat [] w K w') : LkIn w' l A := ⟨h.hn, h.hR.sat hs Apart.nil, h.hb⟩
theorem LkIn.ext {w w' : World} {l : Lk} {A : Option Addr} (h : LkIn w l A) (hb : Below w.heap.size w w') : LkIn w' l A := ⟨h.hn, ⟨h.hR.rd.below hb, h.hR.len⟩, h.hb⟩
theorem large_any (v : Nat) (hv : v ≤ 4294967295) (w : World) : Calls Tryz.prog 88 #[.int .u32 (v : Int)] w (Ret w (.bool (decide (2097152 ≤ v)))) := by
 refine K_enter (S := []) (K := []) Tryz.func88 rfl Tryz.ntmps88 rfl (Sat.start _) ?_
 refine TW.seq fun Y1 hY1 => TW.region ?_
 refine TL.p Pu.as ?_
 refine TL.nil (TQ.thenN (hY1 _ _ ?_))
 refine TW.seq fun Y2 hY2 => TW.region ?_
 refine TL.p Pu.mv ?_
 refine TL.p (Pu.srW64 (b := v) (i := 21)) ?_
 refine TL.p Pu.gt ?_
 refine TL.p Pu.as ?_
 refine TL.nil (TQ.thenN (hY2 _ _ ?_))
 refine TW.ret ?_
 refine TQ.ret Tryz.results88 rfl ((.tmp rfl .nil)) ?_
 exact fun w hw => ⟨ret_bool (decide_eq_decide.2 ⟨fun h => by omega, fun h => by omega⟩), Chg.ext hw.chg⟩
theorem seen_eq (l : Lk) : (decide ((l.ns : Int) = 8) && !(anyB l.ns fun k => decide (2097152 ≤ l.sg k)) && inB5 0 100000 l.day && ordB5 0 200000 l.alo l.ahi) = lkB l := by
  unfold lkB
  by_cases h : l.ns = 8
  · rw [h, not_anyB]
    congr 3
    unfold allB
    congr 1
    funext k
    rw [Bool.eq_iff_iff]; simp
  · rw [decide_eq_false h, decide_eq_false (by omega)]
    rfl
set_option maxRecDepth 100000 in
theorem seen_any {l : Lk} {A : Option Addr} {c : Nat} {w : World} (h : LkIn w l A) : Calls Tryz.prog 51 #[.agg (lkL l A c).toArray] w (Ret w (.bool (lkB l))) := by
 have hn := h.hn
 unfold lkL
 refine K_enter (S := []) (K := []) Tryz.func51 rfl Tryz.ntmps51 rfl (Sat.start _) ?_
 refine TW.seq fun Y1 hY1 => TW.region ?_
 refine TL.m Mk.bx ?_
 intro b1
 refine TL.p Pu.as ?_
 refine TL.nil (TQ.thenN (hY1 _ _ ?_))
 refine TW.seq fun Y2 hY2 => TW.region ?_
 refine TL.p Pu.as ?_
 refine TL.nil (TQ.thenN (hY2 _ _ ?_))
 refine TW.seq fun Y3 hY3 => ?_
 refine TW.join [(2, .bool (decide ((l.ns : Int) = 8) && !(anyB l.ns fun k => decide (2097152 ≤ l.sg k)) && inB5 0 100000 l.day && ordB5 0 200000 l.alo l.ahi))] ?_ (fun hJ1 => ?_)
 refine TQ.thenN (hY3 _ _ ?_)
 refine TW.ret ?_
 refine TQ.ret Tryz.results51 rfl ((.tmp rfl .nil)) ?_
 exact fun w hw => ⟨ret_bool (seen_eq l).symm, Chg.ext hw.chg⟩
 refine TW.region ?_
 refine TL.p (by first | exact Pu.fb ty_fa42_0 | exact Pu.fe ty_fa42_0) ?_
 refine TL.p (Pu.ld ty_sc24) ?_
 refine TL.p (Pu.ln Tryz.underlying24) ?_
 refine TL.p Pu.eq ?_
 refine TL.p Pu.mv ?_
 refine TL.guard (t := 8) rfl (fun hg1 => ?_) (fun hg1 => ?_)
 refine TL.gd (by first | exact Pu.fb ty_fa42_0 | exact Pu.fe ty_fa42_0) ?_
 refine TL.gd (Pu.ld ty_sc24) ?_
 refine TL.gd Pu.mv ?_
 refine TL.cr rfl (enters Tryz.func89 rfl rfl) (fun w hw => by
  exact hasU32_any (fs := []) (cs := []) (v := l.sg) (p := fun k => decide (2097152 ≤ l.sg k)) (enters Tryz.func88 rfl rfl) (by omega) (h.hR.sat hw Apart.nil) fun k hk w' hb => large_any _ (h.hb k hk) _) ?_
 refine TL.gd Pu.no ?_
 refine TL.p Pu.kt ?_
 refine TL.p Pu.mv ?_
 refine TL.guard (t := 15) rfl (fun hg2 => ?_) (fun hg2 => ?_)
 refine TL.gd (by first | exact Pu.fb ty_fa42_1 | exact Pu.fe ty_fa42_1) ?_
 refine TL.gd (Pu.ld ty_sc3) ?_
 refine TL.gm Mk.bl ?_
 intro b2
 refine TL.cr rfl (enters Tryz.func48 rfl rfl) (fun w hw => by
  exact bInOne_any _ _ _ (hw.holds _ (List.mem_cons_self ..))) ?_
 refine TL.p Pu.kt ?_
 refine TL.p Pu.mv ?_
 refine TL.guard (t := 21) rfl (fun hg3 => ?_) (fun hg3 => ?_)
 refine TL.gd (by first | exact Pu.fb ty_fa42_2 | exact Pu.fe ty_fa42_2) ?_
 refine TL.gd (Pu.lds ty_ag36) ?_
 refine TL.gm Mk.bl ?_
 intro b3
 refine TL.cr rfl (enters Tryz.func72 rfl rfl) (fun w hw => by
  exact bProperOne_any _ _ _ _ (hw.holds _ (List.mem_cons_self ..))) ?_
 refine TL.p Pu.kt ?_
 refine TL.p Pu.as ?_
 refine TL.nil ?_
 exact TQ.sub (by repeat (first | exact trivial | refine ⟨rfl, ?_⟩ | refine ⟨trivial, ?_⟩ | refine ⟨(by show some (Value.bool _) = some (Value.bool _); first | (simp [hg1, hg2, hg3]; done) | (refine congrArg (fun z => some (Value.bool z)) (Bool.eq_iff_iff.2 ?_); simp [hg1, hg2, hg3]; omega)), ?_⟩)) ks9 hJ1
 refine TL.gs ?_
 refine TL.gs ?_
 refine TL.gs ?_
 refine TL.gs ?_
 refine TL.p Pu.kf ?_
 refine TL.p Pu.as ?_
 refine TL.nil ?_
 exact TQ.sub (by repeat (first | exact trivial | refine ⟨rfl, ?_⟩ | refine ⟨trivial, ?_⟩ | refine ⟨(by show some (Value.bool _) = some (Value.bool _); first | (simp [hg1, hg2, hg3]; done) | (refine congrArg (fun z => some (Value.bool z)) (Bool.eq_iff_iff.2 ?_); simp [hg1, hg2, hg3]; omega)), ?_⟩)) ks9 hJ1
 refine TL.gs ?_
 refine TL.gs ?_
 refine TL.gs ?_
 refine TL.gs ?_
 refine TL.p Pu.kf ?_
 refine TL.p Pu.mv ?_
 refine TL.gs ?_
 refine TL.gs ?_
 refine TL.gs ?_
 refine TL.gs ?_
 refine TL.p Pu.kf ?_
 refine TL.p Pu.as ?_
 refine TL.nil ?_
 exact TQ.sub (by repeat (first | exact trivial | refine ⟨rfl, ?_⟩ | refine ⟨trivial, ?_⟩ | refine ⟨(by show some (Value.bool _) = some (Value.bool _); first | (simp [hg1, hg2]; done) | (refine congrArg (fun z => some (Value.bool z)) (Bool.eq_iff_iff.2 ?_); simp [hg1, hg2]; omega)), ?_⟩)) ks9 hJ1
 refine TL.gs ?_
 refine TL.gs ?_
 refine TL.gs ?_
 refine TL.gs ?_
 refine TL.gs ?_
 refine TL.p Pu.kf ?_
 refine TL.p Pu.mv ?_
 refine TL.gs ?_
 refine TL.gs ?_
 refine TL.gs ?_
 refine TL.gs ?_
 refine TL.p Pu.kf ?_
 refine TL.p Pu.mv ?_
 refine TL.gs ?_
 refine TL.gs ?_
 refine TL.gs ?_
 refine TL.gs ?_
 refine TL.p Pu.kf ?_
 refine TL.p Pu.as ?_
 refine TL.nil ?_
 exact TQ.sub (by repeat (first | exact trivial | refine ⟨rfl, ?_⟩ | refine ⟨trivial, ?_⟩ | refine ⟨(by show some (Value.bool _) = some (Value.bool _); first | (simp [hg1]; done) | (refine congrArg (fun z => some (Value.bool z)) (Bool.eq_iff_iff.2 ?_); simp [hg1]; omega)), ?_⟩)) ks9 hJ1
theorem sg_bd {H : Hd} (hk : HOk H) {i s : Nat} (hi : i < H.n) : 0 ≤ sgH H i s ∧ sgH H i s ≤ 20 := by
 have h := allB_iff.1 (hk.mks i hi)
 have := sgK_pos (H := H) (i := i) (k := H.ml i) (s := s) fun j hj => by
  have := h j hj
  unfold markB at this
  simp only [Bool.and_eq_true] at this
  exact this.1
 exact ⟨this.1, this.2.1⟩
set_option maxRecDepth 100000 in
set_option maxHeartbeats 1000000 in
theorem bears_any {H : Hd} {i : Nat} {l : Lk} {A : Option Addr} {c : Nat} {w : World} (hk : HOk H) (hi : i < H.n) (h : LkIn w l A) (h8 : l.ns = 8) : Calls Tryz.prog 56 #[.agg (octL (sgH H i)).toArray, .agg (lkL l A c).toArray] w (Ret w (.bool (maB H l i))) := by
 have hs := fun s => sg_bd hk (s := s) hi
 have hR := h.hR
 have hb8 := h.hb
 unfold lkL
 rw [h8] at hR hb8 ⊢
 refine K_enter (S := []) (K := []) Tryz.func56 rfl Tryz.ntmps56 rfl (Sat.start _) ?_
 refine TW.seq fun Y1 hY1 => TW.region ?_
 refine TL.m Mk.bx ?_
 intro b1
 refine TL.m Mk.bx ?_
 intro b2
 refine TL.p Pu.as ?_
 refine TL.nil (TQ.thenN (hY1 _ _ ?_))
 refine TW.seq fun Y2 hY2 => ?_
 refine TW.seq fun Y3 hY3 => TW.region ?_
 refine TL.p (Pu.lds ty_ag111) ?_
 refine TL.p Pu.mv ?_
 refine TL.nil (TQ.thenN (hY3 _ _ ?_))
 refine TW.block ?_
 refine TW.loop1 (fun (k : Nat) => [(8, .int .i64 (k : Int)), (7, .agg (octL (sgH H i)).toArray), (3, .pointer (some ⟨b2, 0, none⟩))]) (fun k => [.blk b2 42 [.slice A 8 c, .int .i64 l.day, .int .i64 l.alo, .int .i64 l.ahi]]) (fun k => k ≤ 8 ∧ ∀ j, j < k → l.sg j / 2 ^ (sgH H i j).toNat % 2 = 1) (fun k => 8 - k) 0 fs9 ?_ ?_ ?_
 exact ks9
 exact ⟨by omega, fun j hj => by omega⟩
 rintro k ⟨hk8, hall⟩ Z0 hZ0
 refine TW.seq fun Y4 hY4 => TW.region ?_
 refine TL.p Pu.lt ?_
 refine TL.nil (TQ.thenN (hY4 _ _ ?_))
 refine TW.seq fun Y5 hY5 => ?_
 refine TW.cond rfl (fun hc0 => ?_) (fun hc0 => ?_)
 try simp only [zcb9] at hc0
 have hkn : k < 8 := by omega
 have hsk := hs k
 have hbk := hb8 k (by omega)
 have hdv : l.sg k / 2 ^ (sgH H i k).toNat ≤ 4294967295 := Nat.le_trans (Nat.div_le_self _ _) hbk
 refine TW.skip ?_
 refine TQ.thenN (hY5 _ _ ?_)
 refine TW.seq fun Y6 hY6 => ?_
 refine TW.block ?_
 refine TW.seq fun Y7 hY7 => TW.region ?_
 refine TL.p Pu.mv ?_
 refine TL.p (Pu.ix (v := .int .i64 (sgH H i k)) (hr := by intro w; rcases (by omega : k = 0 ∨ k = 1 ∨ k = 2 ∨ k = 3 ∨ k = 4 ∨ k = 5 ∨ k = 6 ∨ k = 7) with rfl | rfl | rfl | rfl | rfl | rfl | rfl | rfl <;> (unfold octL; go_simp; rfl))) ?_
 refine TL.p Pu.as ?_
 refine TL.p Pu.as ?_
 refine TL.nil (TQ.thenN (hY7 _ _ ?_))
 refine TW.seq fun Y8 hY8 => TW.region ?_
 refine TL.p (by first | exact Pu.fb ty_fa42_0 | exact Pu.fe ty_fa42_0) ?_
 refine TL.p (Pu.ld ty_sc24) ?_
 refine TL.p Pu.mv ?_
 refine TL.p (Pu.el ty_et24) ?_
 refine TL.p (Pu.ld ty_sc25) ?_
 refine TL.p Pu.mv ?_
 refine TL.p (Pu.srW (b := l.sg k) (i := (sgH H i k).toNat) (hy := congrArg (fun z => some (Value.int .i64 z)) (Int.toNat_of_nonneg hsk.1).symm)) ?_
 refine TL.p (Pu.anW (m := l.sg k / 2 ^ (sgH H i k).toNat)) ?_
 refine TL.p Pu.eq ?_
 refine TL.nil (TQ.thenN (hY8 _ _ ?_))
 refine TW.cond rfl (fun hc1 => ?_) (fun hc1 => ?_)
 try simp only [zcb9] at hc1
 have hno : ¬ l.sg k / 2 ^ (sgH H i k).toNat % 2 = 1 := by omega
 refine TW.seq fun Y9 hY9 => TW.region ?_
 refine TL.p Pu.as ?_
 refine TL.nil (TQ.thenN (hY9 _ _ ?_))
 refine TW.ret ?_
 refine TQ.blkR ?_
 refine TQ.thenR ?_
 refine TQ.thenR ?_
 refine TQ.blkR ?_
 refine TQ.thenR ?_
 refine TQ.ret Tryz.results56 rfl ((.tmp rfl .nil)) ?_
 exact fun w hw => ⟨ret_bool (by
  cases hm : maB H l i with
  | false => rfl
  | true => exact absurd (of_decide_eq_true (allB_iff.1 hm k hkn)) hno), Chg.ext hw.chg⟩
 try simp only [zcb9] at hc1
 have hyes : l.sg k / 2 ^ (sgH H i k).toNat % 2 = 1 := by omega
 refine TW.skip ?_
 refine TQ.blkN ?_
 refine TQ.thenN (hY6 _ _ ?_)
 refine TW.region ?_
 refine TL.p Pu.ad ?_
 refine TL.p Pu.mv ?_
 refine TL.nil ?_
 refine TQ.thenN (hZ0 (k + 1) _ _ ?_ ?_ fs9 ?_)
 refine ⟨by omega, fun j hj => ?_⟩
 by_cases e : j = k
 subst e; exact hyes
 exact hall j (by omega)
 exact zom9
 exact ks9
 try simp only [zcb9] at hc0
 refine TW.exit ?_
 refine TQ.thenX ?_
 refine TQ.thenX ?_
 refine TQ.blkX ?_
 refine TQ.thenN (hY2 _ _ ?_)
 refine TW.seq fun Y10 hY10 => TW.region ?_
 refine TL.p Pu.as ?_
 refine TL.nil (TQ.thenN (hY10 _ _ ?_))
 refine TW.ret ?_
 refine TQ.ret Tryz.results56 rfl ((.tmp rfl .nil)) ?_
 exact fun w hw => ⟨ret_bool (allB_iff.2 fun j hj => decide_eq_true (hall j (by omega))), Chg.ext hw.chg⟩
set_option maxRecDepth 100000 in
theorem age_any {a b : Int} {l : Lk} {A : Option Addr} {c : Nat} {w : World} (h : lkB l = true) : Calls Tryz.prog 60 #[.agg #[.int .i64 a, .int .i64 b], .agg (lkL l A c).toArray] w (Ret w (.agg #[.int .i64 (agd (a, b) l).1, .int .i64 (agd (a, b) l).2])) := by
 unfold lkB inB5 ordB5 at h
 simp only [Bool.and_eq_true, decide_eq_true_eq] at h
 obtain ⟨⟨⟨h1, h2⟩, h3⟩, h4⟩ := h
 unfold lkL
 refine K_enter (S := []) (K := []) Tryz.func60 rfl Tryz.ntmps60 rfl (Sat.start _) ?_
 refine TW.seq fun Y1 hY1 => TW.region ?_
 refine TL.m Mk.bx ?_
 intro b1
 refine TL.m Mk.bx ?_
 intro b2
 refine TL.m (Mk.al ty_zr36) ?_
 intro b3
 refine TL.nil (TQ.thenN (hY1 _ _ ?_))
 refine TW.seq fun Y2 hY2 => TW.region ?_
 refine TL.p (Pu.lds ty_ag36) ?_
 refine TL.p (by first | exact Pu.fb ty_fa42_1 | exact Pu.fe ty_fa42_1) ?_
 refine TL.p (Pu.ld ty_sc3) ?_
 refine TL.p (by first | exact Pu.fb ty_fa42_2 | exact Pu.fe ty_fa42_2) ?_
 refine TL.p (by first | exact Pu.fb ty_fa36_1 | exact Pu.fe ty_fa36_1) ?_
 refine TL.p (Pu.ld ty_sc3) ?_
 refine TL.p Pu.sb ?_
 refine TL.p (by first | exact Pu.fb ty_fa42_1 | exact Pu.fe ty_fa42_1) ?_
 refine TL.p (Pu.ld ty_sc3) ?_
 refine TL.p (by first | exact Pu.fb ty_fa42_2 | exact Pu.fe ty_fa42_2) ?_
 refine TL.p (by first | exact Pu.fb ty_fa36_0 | exact Pu.fe ty_fa36_0) ?_
 refine TL.p (Pu.ld ty_sc3) ?_
 refine TL.p Pu.sb ?_
 refine TL.p Pu.bd ?_
 refine TL.cr rfl (enters Tryz.func73 rfl rfl) (fun w hw => by
  exact bCommon_any _ _ _ _ _) ?_
 first | refine TL.st ty_sz36 ?_ | refine TL.se ty_sz36 ?_
 refine TL.nil (TQ.thenN (hY2 _ _ ?_))
 refine TW.ret ?_
 refine TQ.ret Tryz.results60 rfl ((RV.cs ty_ag36 .nil)) ?_
 exact fun w hw => Ret.of hw
theorem HIn.ext {w w' : World} {A : Option Addr} {H : Hd} {a : Nat → Option Addr} {c : Nat → Nat} (h : HIn w A H a c) (hb : Below w.heap.size w w') : HIn w' A H a c :=
 ⟨h.hn, ⟨h.hR.rd.below hb, h.hR.len⟩, fun i hi => ⟨(h.hM i hi).rd.below hb, (h.hM i hi).len⟩, h.hl⟩
theorem HwIn.ext {w w' : World} {H : Hd} {A : Option Addr} {cp : Nat} {x : OpX} (h : HwIn w H A cp x) (hb : Below w.heap.size w w') : HwIn w' H A cp x :=
 ⟨h.oB.ext hb, (by obtain ⟨_, _, _, _, hB⟩ := hb; exact (hB _ (lt_of_get h.oP)).trans h.oP), ⟨h.oM.rd.below hb, h.oM.len⟩, ⟨h.oK.rd.below hb, h.oK.len⟩⟩
theorem ids1_any {H : Hd} {A : Option Addr} {cp b i : Nat} {x : OpX} {a : Nat → Option Addr} {c : Nat → Nat} {w : World} (hI : HIn w A H a c) (hB : OldB w b [.pointer (some ⟨x.1.1, 0, none⟩)]) (hW : HwIn w H A cp x) (hi : i < H.n) : Calls Tryz.prog 99 #[.int .i64 (i : Int), .pointer (some ⟨b, 0, none⟩)] w (Ret w (.int .i64 (H.id i))) := by
 have hR := hI.hR
 have hoB := hW.oB
 unfold anL at hR
 refine K_enter (S := []) (K := []) Tryz.func99 rfl Tryz.ntmps99 rfl (Sat.start _) ?_
 refine TW.seq fun Y1 hY1 => TW.region ?_
 refine TL.p Pu.as ?_
 refine TL.nil (TQ.thenN (hY1 _ _ ?_))
 refine TW.seq fun Y2 hY2 => TW.region ?_
 refine TL.p (by first | exact (Pu.ld ty_sc96) | exact (Pu.ldo ty_sc96)) ?_
 refine TL.p (by first | exact Pu.nn | exact Pu.nc) ?_
 refine TL.p (by first | exact Pu.fb ty_fa106_0 | exact Pu.fe ty_fa106_0) ?_
 refine TL.p (by first | exact (Pu.ld ty_sc22) | exact (Pu.ldo ty_sc22)) ?_
 refine TL.p Pu.mv ?_
 refine TL.p (Pu.el ty_et22) ?_
 refine TL.p (by first | exact Pu.fb ty_fa46_0 | exact Pu.fe ty_fa46_0) ?_
 refine TL.p (by first | exact (Pu.ld ty_sc3) | exact (Pu.ldo ty_sc3)) ?_
 refine TL.p Pu.as ?_
 refine TL.nil (TQ.thenN (hY2 _ _ ?_))
 refine TW.ret ?_
 refine TQ.ret Tryz.results99 rfl ((.tmp rfl .nil)) ?_
 exact fun w hw => Ret.of hw
set_option maxRecDepth 100000 in
set_option maxHeartbeats 1000000 in
theorem ordered_any {g : FuncId} {cs : List Value} {A : Option Addr} {n cp : Nat} {v u : Nat → Int} {w : World} (hen : Enters Tryz.prog g) (hn : n ≤ 1000000) (hR : RdR w 1 A n (fun k => [.int .i64 (v k)])) (hg : ∀ k, k < n → ∀ w', Below w.heap.size w w' → Calls Tryz.prog g ([] ++ [Value.int .i64 (v k)] ++ cs).toArray w' (Ret w' (.int .i64 (u k)))) :
  CallsK Tryz.prog 98 #[.slice A n cp, .func (.func g) #[] cs.toArray] [] w (Option Addr × Nat) (fun y => .slice y.1 (ascL (toI u n)).length y.2) (fun y => [.own y.1 (ascL (toI u n)).length y.2 3 1 (iL (ascL (toI u n)))]) := by
 have hl : (toI u n).length = n := toI_len
 refine K_enter (S := []) (K := []) Tryz.func98 rfl Tryz.ntmps98 rfl (Sat.start _) ?_
 refine TW.seq fun Y1 hY1 => TW.region ?_
 refine TL.p Pu.as ?_
 refine TL.nil (TQ.thenN (hY1 _ _ ?_))
 refine TW.seq fun Y2 hY2 => TW.region ?_
 refine TL.p Pu.as ?_
 refine TL.nil (TQ.thenN (hY2 _ _ ?_))
 refine TW.seq fun Y3 hY3 => ?_
 refine TW.seq fun Y4 hY4 => TW.region ?_
 refine TL.p Pu.mv ?_
 refine TL.p (Pu.ln Tryz.underlying28) ?_
 refine TL.p Pu.mv ?_
 refine TL.nil (TQ.thenN (hY4 _ _ ?_))
 refine TW.block ?_
 refine TW.loop3 (fun (k : Nat) (A5 : Option Addr) (c5 : Nat) => [(10, .int .i64 (k : Int)), (9, .int .i64 (n : Int)), (8, .slice A n cp), (1, .func (.func g) #[] cs.toArray), (5, .slice A5 k c5)]) (fun k A5 c5 => [.own A5 k c5 3 1 (iL (toI u k))]) (fun k A5 c5 => k ≤ n) (fun k A5 c5 => n - k) 0 none 0 fs9 ?_ ?_ ?_
 exact KSub.nilOwn KSub.nil
 exact (by omega)
 rintro k A5 c5 hk Z0 hZ0
 refine TW.seq fun Y5 hY5 => TW.region ?_
 refine TL.p Pu.lt ?_
 refine TL.nil (TQ.thenN (hY5 _ _ ?_))
 refine TW.seq fun Y6 hY6 => ?_
 refine TW.cond rfl (fun hc0 => ?_) (fun hc0 => ?_)
 try simp only [zcb9] at hc0
 have hkn : k < n := by omega
 refine TW.skip ?_
 refine TQ.thenN (hY6 _ _ ?_)
 refine TW.seq fun Y7 hY7 => ?_
 refine TW.block ?_
 refine TW.seq fun Y8 hY8 => TW.region ?_
 refine TL.p (Pu.el ty_et28) ?_
 refine TL.p (Pu.ld ty_sc3) ?_
 refine TL.p Pu.as ?_
 refine TL.nil (TQ.thenN (hY8 _ _ ?_))
 refine TW.region ?_
 refine TL.p Pu.mv ?_
 refine TL.p Pu.mv ?_
 refine TL.p Pu.mv ?_
 refine TL.cv rfl rfl hen (fun w hw => by
   exact hg k hkn _ (Chg.ext hw.chg)) ?_
 refine TL.m Mk.bl ?_
 intro b1
 first | refine TL.a0 ty_et28 ?_ | refine TL.ap ty_et28 ?_
 intro A2 c2
 refine TL.p Pu.as ?_
 refine TL.nil ?_
 refine TQ.blkN ?_
 refine TQ.thenN (hY7 _ _ ?_)
 refine TW.region ?_
 refine TL.p Pu.ad ?_
 refine TL.p Pu.mv ?_
 refine TL.nil ?_
 refine TQ.thenN (hZ0 (k + 1) A2 c2 _ _ ?_ ?_ fs9 ?_)
 exact (by omega)
 exact zom9
 exact KSub.own Pick.hd (iL_app toI_len.symm toI_succ rfl) KSub.nil
 try simp only [zcb9] at hc0
 have hkn : k = n := by omega
 subst hkn
 refine TW.exit ?_
 refine TQ.thenX ?_
 refine TQ.thenX ?_
 refine TQ.blkX ?_
 refine TQ.thenN (hY3 _ _ ?_)
 refine TW.seq fun Y9 hY9 => TW.region ?_
 refine TL.p Pu.mv ?_
 refine TL.call rfl (enters Tryz.func115 rfl rfl) (List.Perm.refl _) rfl (fun w hw => by
   exact sortI_any (L := toI u k) toI_len.symm (by omega) (hw.holds _ (List.mem_cons_self ..))) ?_
 intro _
 refine TL.nil (TQ.thenN (hY9 _ _ ?_))
 refine TW.seq fun Y10 hY10 => TW.region ?_
 refine TL.p Pu.mv ?_
 refine TL.call rfl (enters Tryz.func116 rfl rfl) (List.Perm.refl _) rfl (fun w hw => by
   exact compact_any (L := srt (toI u k)) (by rw [srt_len, toI_len]) (by omega) (hw.holds _ (List.mem_cons_self ..))) ?_
 intro _
 refine TL.p Pu.as ?_
 refine TL.nil (TQ.thenN (hY10 _ _ ?_))
 refine TW.ret ?_
 refine TQ.ret Tryz.results98 rfl ((.tmp rfl .nil)) ?_
 exact fun w hw => ⟨(A5, c5), rfl, hw.sub (KSub.cons Pick.hd KSub.nil)⟩
theorem toI_map {H : Hd} {X : List Nat} : toI (fun k => H.id (X.getD k 0)) X.length = X.map H.id := by
 apply List.ext_getElem
 · simp [toI]
 · intro i h1 h2
   simp [toI, List.getD_eq_getElem?_getD, show i < X.length by simpa using h2]
def nL (X : List Nat) : Nat → List Value := fun k => [.int .i64 (X.getD k 0 : Int)]
theorem nL_app {X X' : List Nat} {m k : Nat} {s : Nat → List Value} (hm : m = X.length) (hX : X' = X ++ [k]) (hs : s 0 = [.int .i64 (k : Int)]) : ∀ i, i < m + 1 → catR m (nL X) s i = nL X' i := fun i hi => by
  subst hm hX
  simp only [catR, nL]
  by_cases h : i < X.length
  · rw [if_pos h, getD_appl h]
  · obtain rfl : i = X.length := by omega
    rw [if_neg h, Nat.sub_self, hs, getD_apps (b := [])]
set_option maxRecDepth 100000 in
theorem ids_any {H : Hd} {A P : Option Addr} {cp n cn : Nat} {x : OpX} {a : Nat → Option Addr} {c : Nat → Nat} {X : List Nat} {w : World} (hn : n = X.length) (hl : n ≤ 1000000) (hI : HIn w A H a c) (hW : HwIn w H A cp x) (hR : RdR w 1 P n (nL X)) (hX : ∀ i ∈ X, i < H.n) :
  CallsK Tryz.prog 62 #[.pointer (some ⟨x.1.1, 0, none⟩), .slice P n cn] [] w (Option Addr × Nat) (fun y => .slice y.1 (idsL H X).length y.2) (fun y => [.own y.1 (idsL H X).length y.2 3 1 (iL (idsL H X))]) := by
 subst hn
 have fO := fun (w' : World) (b : Nat) (h1 : OldB w' b [.pointer (some ⟨x.1.1, 0, none⟩)]) (h2 : HIn w' A H a c) (h3 : HwIn w' H A cp x) (h4 : RdR w' 1 P X.length (nL X)) => ordered_any (cp := cn) (cs := [.pointer (some ⟨b, 0, none⟩)]) (u := fun k => H.id (X.getD k 0)) (enters Tryz.func99 rfl rfl) hl h4 (fun k hk w2 hb => ids1_any (h2.ext hb) (h1.ext hb) (h3.ext hb) (hX _ (getD_memN hk)))
 rw [toI_map] at fO
 refine K_enter (S := []) (K := []) Tryz.func62 rfl Tryz.ntmps62 rfl (Sat.start _) ?_
 refine TW.seq fun Y1 hY1 => TW.region ?_
 refine TL.m Mk.bx ?_
 intro b1
 refine TL.p Pu.as ?_
 refine TL.nil (TQ.thenN (hY1 _ _ ?_))
 refine TW.seq fun Y2 hY2 => TW.region ?_
 refine TL.p Pu.mv ?_
 refine TL.p Pu.fn ?_
 refine TL.call (M := []) rfl (enters Tryz.func98 rfl rfl) (List.Perm.refl _) rfl (fun w hw => by
   exact fO _ b1 (OldB.of_blk (hw.holds _ (List.mem_cons_self ..))) (hI.sat hw) (hW.ext (Chg.ext hw.chg)) (hR.sat hw Apart.nil)) ?_
 rintro ⟨A7, c7⟩
 refine TL.p Pu.as ?_
 refine TL.nil (TQ.thenN (hY2 _ _ ?_))
 refine TW.ret ?_
 refine TQ.ret Tryz.results62 rfl ((.tmp rfl .nil)) ?_
 exact fun w hw => ⟨(A7, c7), rfl, hw.sub (KSub.cons Pick.hd KSub.nil)⟩
end Go.Proofs.YtbenhafhklfhmaaGreat
namespace Go.Proofs.YtbenhafhklfhmaaGreat
set_option linter.all false
set_option linter.unusedVariables false
set_option linter.unusedSimpArgs false
open Go.RowKit
theorem Fact.locB {φ : Fact} {w w' : World} (h : φ.holds w) (he : ∀ b ∈ φ.foot, w'.heap[b]? = w.heap[b]?) : φ.holds w' := by
  match φ, h, he with
  | .blk b t cs, h, he => exact (he b (by simp [Fact.foot])).trans h
  | .own A n c E sz f, h, he => exact ⟨own_of_block h.own fun b hb => he b (by rw [own_foot, hb]; simp), h.len⟩
  | .obj b o, h, he => exact ⟨(he b (by simp [Fact.foot])).trans h.1, h.2⟩
  | .pr l p, h, he =>
    refine ⟨h.loc w w' h.lt h.now he, fun b hb => ?_, h.loc⟩
    have h1 := h.lt b hb
    have h2 := he b hb
    rw [Array.getElem?_eq_getElem h1] at h2
    exact (Array.getElem?_eq_some_iff.1 h2).1
def bun (K : List Fact) : Fact := .pr (feet K) fun w => ∀ φ ∈ K, φ.holds w
theorem bun_holds {K : List Fact} {w : World} (h : ∀ φ ∈ K, φ.holds w) : (bun K).holds w :=
 ⟨h, fun b hb => by
  obtain ⟨φ, hφ, hb'⟩ := List.mem_flatMap.1 hb
  exact Fact.lt (h φ hφ) b hb', fun w w' _ hp he φ hφ => Fact.locB (hp φ hφ) fun b hb => he b (List.mem_flatMap.2 ⟨φ, hφ, hb⟩)⟩
theorem Sat.bun {S : List Nat} {w0 w : World} {K1 K : List Fact} (h : Sat S w0 (K1 ++ K) w) : Sat S w0 (bun K1 :: K) w := by
 have e : feet (Go.Proofs.YtbenhafhklfhmaaGreat.bun K1 :: K) = feet (K1 ++ K) := by rw [feet_append]; rfl
 refine ⟨h.chg, by rw [e]; exact h.nd, by rw [e]; exact h.ge, fun φ hφ => ?_⟩
 rcases List.mem_cons.1 hφ with rfl | hφ
 · exact bun_holds fun ψ hψ => h.holds ψ (List.mem_append_left _ hψ)
 · exact h.holds φ (List.mem_append_right _ hφ)
theorem bun_get {S : List Nat} {w0 w : World} {K1 K : List Fact} (hw : Sat S w0 K w) (hm : bun K1 ∈ K) {φ : Fact} (h : φ ∈ K1) : φ.holds w := (hw.holds _ hm).now φ h
end Go.Proofs.YtbenhafhklfhmaaGreat
namespace Go.Proofs.YtbenhafhklfhmaaGreat
set_option linter.all false
set_option linter.unusedVariables false
set_option linter.unusedSimpArgs false
open Go.RowKit
theorem span2_any (a b : Int) (w : World) : Calls Tryz.prog 18 #[.int .i64 a, .int .i64 b] w (Ret w (.agg #[.int .i64 a, .int .i64 b])) := by
 refine K_enter (S := []) (K := []) Tryz.func18 rfl Tryz.ntmps18 rfl (Sat.start _) ?_
 refine TW.seq fun Y1 hY1 => TW.region ?_
 refine TL.m (Mk.al ty_zr36) ?_
 intro b1
 refine TL.nil (TQ.thenN (hY1 _ _ ?_))
 refine TW.seq fun Y2 hY2 => TW.region ?_
 refine TL.p Pu.mv ?_
 refine TL.p Pu.mv ?_
 refine TL.p Pu.bd ?_
 first | refine TL.st ty_sz36 ?_ | refine TL.se ty_sz36 ?_
 refine TL.nil (TQ.thenN (hY2 _ _ ?_))
 refine TW.ret ?_
 refine TQ.ret Tryz.results18 rfl ((RV.cs ty_ag36 .nil)) ?_
 exact fun w hw => Ret.of hw
def exLk (l : Lk) (b : Nat) : List Fact := [.own (some ⟨b, 0, none⟩) 8 8 25 1 (fun k => [.int .u32 (l.sg k : Int)])]
set_option maxRecDepth 100000 in
theorem look2_any (age : Int) (w : World) : CallsK Tryz.prog 36 #[.int .i64 age] [] w Nat (fun b => .agg (lkL (exK age) (some ⟨b, 0, none⟩) 8).toArray) (fun b => exLk (exK age) b) := by
 unfold lkL
 refine K_enter (S := []) (K := []) Tryz.func36 rfl Tryz.ntmps36 rfl (Sat.start _) ?_
 refine TW.seq fun Y1 hY1 => TW.region ?_
 refine TL.m (Mk.al ty_zr42) ?_
 intro b1
 refine TL.nil (TQ.thenN (hY1 _ _ ?_))
 refine TW.seq fun Y2 hY2 => TW.region ?_
 refine TL.m Mk.bl ?_
 intro b2
 refine TL.p Pu.mv ?_
 refine TL.cr rfl (enters Tryz.func18 rfl rfl) (fun w hw => by
  exact span2_any _ _ _) ?_
 refine TL.p Pu.bd ?_
 first | refine TL.st ty_sz42 ?_ | refine TL.se ty_sz42 ?_
 refine TL.nil (TQ.thenN (hY2 _ _ ?_))
 refine TW.ret ?_
 refine TQ.ret Tryz.results36 rfl ((RV.cs ty_ag42 .nil)) ?_
 exact fun w hw => ⟨b2, rfl, hw.sub (KSub.ofBlk pk9 rfl (fun i hi => by rcases i with _ | _ | _ | _ | _ | _ | _ | _ | i <;> first | rfl | omega) rfl rfl KSub.nil)⟩
set_option maxRecDepth 100000 in
theorem calf2_any (w : World) : CallsK Tryz.prog 40 #[] [] w Nat (fun b => .agg (lkL exC (some ⟨b, 0, none⟩) 8).toArray) (fun b => exLk exC b) := by
 unfold lkL
 refine K_enter (S := []) (K := []) Tryz.func40 rfl Tryz.ntmps40 rfl (Sat.start _) ?_
 refine TW.seq fun Y1 hY1 => TW.region ?_
 refine TL.m (Mk.al ty_zr42) ?_
 intro b1
 refine TL.nil (TQ.thenN (hY1 _ _ ?_))
 refine TW.seq fun Y2 hY2 => TW.region ?_
 refine TL.m Mk.bl ?_
 intro b2
 refine TL.cr rfl (enters Tryz.func18 rfl rfl) (fun w hw => by
  exact span2_any _ _ _) ?_
 refine TL.p Pu.bd ?_
 first | refine TL.st ty_sz42 ?_ | refine TL.se ty_sz42 ?_
 refine TL.nil (TQ.thenN (hY2 _ _ ?_))
 refine TW.ret ?_
 refine TQ.ret Tryz.results40 rfl ((RV.cs ty_ag42 .nil)) ?_
 exact fun w hw => ⟨b2, rfl, hw.sub (KSub.ofBlk pk9 rfl (fun i hi => by rcases i with _ | _ | _ | _ | _ | _ | _ | _ | i <;> first | rfl | omega) rfl rfl KSub.nil)⟩
end Go.Proofs.YtbenhafhklfhmaaGreat
namespace Go.Proofs.YtbenhafhklfhmaaGreat
set_option linter.all false
set_option linter.unusedVariables false
set_option linter.unusedSimpArgs false
open Go.RowKit
abbrev EH := Nat × Nat × Nat × Nat × Nat
def exA (x : EH) (i : Nat) : Option Addr := some ⟨[x.2.1, x.2.2.1, x.2.2.2.1, x.2.2.2.2].getD i 0, 0, none⟩
def exHf (x : EH) : List Fact := [.own (some ⟨x.1, 0, none⟩) 4 4 46 5 (fun i => anL exH (exA x) exH.ml i), .own (some ⟨x.2.1, 0, none⟩) 1 1 87 2 (fun k => spL (exH.sp 0 k) (exH.sg 0 k)), .own (some ⟨x.2.2.1, 0, none⟩) 2 2 87 2 (fun k => spL (exH.sp 1 k) (exH.sg 1 k)), .own (some ⟨x.2.2.2.1, 0, none⟩) 1 1 87 2 (fun k => spL (exH.sp 2 k) (exH.sg 2 k)), .own (some ⟨x.2.2.2.2, 0, none⟩) 1 1 87 2 (fun k => spL (exH.sp 3 k) (exH.sg 3 k))]
theorem exH_in {w : World} {x : EH} (h : (bun (exHf x)).holds w) : HIn w (some ⟨x.1, 0, none⟩) exH (exA x) exH.ml := by
 have h1 : ∀ f, f ∈ exHf x → f.holds w := fun f hf => h.now f hf
 refine ⟨by decide, OwnR.rdr (h1 _ (List.mem_cons_self ..)), fun i hi => ?_, fun i hi => ?_⟩
 · have hi : i < 4 := hi
   rcases i with _ | _ | _ | _ | i
   · exact OwnR.rdr (h1 _ (List.mem_cons_of_mem _ (List.mem_cons_self ..)))
   · exact OwnR.rdr (h1 _ (List.mem_cons_of_mem _ (List.mem_cons_of_mem _ (List.mem_cons_self ..))))
   · exact OwnR.rdr (h1 _ (List.mem_cons_of_mem _ (List.mem_cons_of_mem _ (List.mem_cons_of_mem _ (List.mem_cons_self ..)))))
   · exact OwnR.rdr (h1 _ (List.mem_cons_of_mem _ (List.mem_cons_of_mem _ (List.mem_cons_of_mem _ (List.mem_cons_of_mem _ (List.mem_cons_self ..))))))
   · omega
 · have hi : i < 4 := hi
   rcases i with _ | _ | _ | _ | i
   · show (1 : Nat) ≤ 1000; decide
   · show (2 : Nat) ≤ 1000; decide
   · show (1 : Nat) ≤ 1000; decide
   · show (1 : Nat) ≤ 1000; decide
   · omega
set_option maxRecDepth 100000 in
theorem herd2_any (w : World) : CallsK Tryz.prog 35 #[] [] w EH (fun x => .slice (some ⟨x.1, 0, none⟩) 4 4) (fun x => [bun (exHf x)]) := by
 refine K_enter (S := []) (K := []) Tryz.func35 rfl Tryz.ntmps35 rfl (Sat.start _) ?_
 refine TW.seq fun Y1 hY1 => TW.region ?_
 refine TL.p Pu.as ?_
 refine TL.nil (TQ.thenN (hY1 _ _ ?_))
 refine TW.seq fun Y2 hY2 => TW.region ?_
 refine TL.cr rfl (enters Tryz.func18 rfl rfl) (fun w hw => by
  exact span2_any _ _ _) ?_
 refine TL.p Pu.bd ?_
 refine TL.m Mk.bl ?_
 intro b1
 refine TL.p Pu.bd ?_
 refine TL.cr rfl (enters Tryz.func18 rfl rfl) (fun w hw => by
  exact span2_any _ _ _) ?_
 refine TL.p Pu.bd ?_
 refine TL.p Pu.bd ?_
 refine TL.m Mk.bl ?_
 intro b2
 refine TL.p Pu.bd ?_
 refine TL.cr rfl (enters Tryz.func18 rfl rfl) (fun w hw => by
  exact span2_any _ _ _) ?_
 refine TL.p Pu.bd ?_
 refine TL.m Mk.bl ?_
 intro b3
 refine TL.p Pu.bd ?_
 refine TL.cr rfl (enters Tryz.func18 rfl rfl) (fun w hw => by
  exact span2_any _ _ _) ?_
 refine TL.p Pu.bd ?_
 refine TL.m Mk.bl ?_
 intro b4
 refine TL.p Pu.bd ?_
 refine TL.m Mk.bl ?_
 intro b5
 refine TL.p Pu.as ?_
 refine TL.nil (TQ.thenN (hY2 _ _ ?_))
 refine TW.ret ?_
 refine TQ.ret Tryz.results35 rfl ((.tmp rfl .nil)) ?_
 refine fun w hw => ⟨(b5, b1, b2, b3, b4), rfl, ?_⟩
 have h1 := hw.sub (L := exHf (b5, b1, b2, b3, b4)) (KSub.ofBlk pk9 rfl (fun i hi => by rcases i with _ | _ | _ | _ | i <;> first | rfl | omega) rfl rfl (KSub.ofBlk pk9 rfl (fun i hi => by rcases i with _ | i <;> first | rfl | omega) rfl rfl (KSub.ofBlk pk9 rfl (fun i hi => by rcases i with _ | _ | i <;> first | rfl | omega) rfl rfl (KSub.ofBlk pk9 rfl (fun i hi => by rcases i with _ | i <;> first | rfl | omega) rfl rfl (KSub.ofBlk pk9 rfl (fun i hi => by rcases i with _ | i <;> first | rfl | omega) rfl rfl KSub.nil)))))
 exact Sat.bun (K := []) (by rw [List.append_nil]; exact h1)
end Go.Proofs.YtbenhafhklfhmaaGreat
