/-
  Part 8 of the proof of tollOrder_holds: declarations of several texts, in build order. No condition on a program.
-/
import Derived.Test.YtmonkjnfjgidbaaGreatDoorOr07
import Derived.Test.YtmonkjnfjgidbaaGreatDoorOr03
import Derived.Lib.SliceRun
import Derived.Test.YtmonkjnfjgidbaaGreatDoorOr06
import Derived.Ground.SlgmProg
import Derived.Shelf.SortM.Plain
import Derived.Shelf.SortM.SortNone
import Derived.Test.YtmonkjnfjgidbaaGreatDoorProg
namespace Go.Proofs.YtmonkjnfjgidbaaGreatDoor
set_option linter.all false
set_option linter.unusedVariables false
set_option linter.unusedSimpArgs false
open Go.RowKit
def two (a b : Int) : Nat → Int
  | 0 => a
  | _ => b
def tri (a b c : Int) : Nat → Int
  | 0 => a
  | 1 => b
  | _ => c
theorem two_bd {a b lo hi : Int} (ha : lo ≤ a ∧ a ≤ hi) (hb : lo ≤ b ∧ b ≤ hi) (i : Nat) : lo ≤ two a b i ∧ two a b i ≤ hi := by
  cases i <;> assumption
theorem two_row {x y : Int} : ∀ i, i < 1 + 1 → catR 1 (fun _ => [Value.int .i64 x]) (fun _ => [Value.int .i64 y]) i = [Value.int .i64 (two x y i)] := fun i hi => by
  have : i = 0 ∨ i = 1 := by omega
  rcases this with rfl | rfl <;> rfl
theorem tri_row {x y z : Int} : ∀ i, i < 2 + 1 → catR 2 (fun i => [Value.int .i64 (two x y i)]) (fun _ => [Value.int .i64 z]) i = [Value.int .i64 (tri x y z i)] := fun i hi => by
  have : i = 0 ∨ i = 1 ∨ i = 2 := by omega
  rcases this with rfl | rfl | rfl <;> rfl
theorem self1 {S : List Nat} {w0 w : World} {K : List Fact} {φ : Fact} (h : Sat S w0 (φ :: K) w) : Sat (feet [φ]) w [φ] w := (h.sub (KSub.cons Pick.hd KSub.nil)).self
section
variable {w : World}
set_option maxRecDepth 100000 in
theorem first1_any {b : Nat} (x : Int) (hM : Sat (feet [.blk b 3 [.int .i64 x]]) w [.blk b 3 [.int .i64 x]] w) :
    CallsK Tryz.prog 132 #[.slice (some ⟨b, 0, none⟩) 1 1] [.blk b 3 [.int .i64 x]] w Unit (fun _ => .int .i64 (min x 100001)) (fun _ => []) := by
  refine K_enter (S := feet _) (K := [.blk b 3 [.int .i64 x]]) Tryz.func132 rfl Tryz.ntmps132 rfl hM ?_
  refine TW.seq fun Y1 hY1 => ?_
  refine TW.region ?_
  refine TL.p Pu.as ?_
  refine TL.nil ?_
  refine TQ.thenN (hY1 _ _ ?_)
  refine TW.seq fun Y2 hY2 => ?_
  refine TW.region ?_
  refine TL.p Pu.mv ?_
  refine TL.m Mk.bl ?_
  intro b1
  refine TL.obn (b := b) (n := 1) (sz := 1) (r := fun _ => [.int .i64 x]) pk9 rfl (fun _ _ => rfl) ?_
  first | refine TL.a0 ty_et31 ?_ | refine TL.ap ty_et31 ?_
  intro A2 c2
  refine TL.subK (KSub.own Pick.hd two_row KSub.nil) ?_
  refine TL.cr rfl (enters Tryz.func148 rfl rfl) (fun w hw => by
      exact slMin_any (n := 2) (v := two x 100001) (by omega) (by omega) (OwnR.rdr (hw.holds (.own A2 2 c2 3 1 (fun i => [.int .i64 (two x 100001 i)])) (by simp)))) ?_
  refine TL.p Pu.as ?_
  refine TL.nil ?_
  refine TQ.thenN (hY2 _ _ ?_)
  refine TW.ret ?_
  refine TQ.ret Tryz.results132 rfl ((.tmp rfl .nil)) ?_
  exact fun w hw => ⟨(), rfl, hw.sub KSub.nil⟩
set_option maxRecDepth 100000 in
theorem first2_any {b : Nat} (x y : Int) (hM : Sat (feet [.blk b 3 [.int .i64 x, .int .i64 y]]) w [.blk b 3 [.int .i64 x, .int .i64 y]] w) :
    CallsK Tryz.prog 132 #[.slice (some ⟨b, 0, none⟩) 2 2] [.blk b 3 [.int .i64 x, .int .i64 y]] w Unit (fun _ => .int .i64 (min (min x y) 100001)) (fun _ => []) := by
  refine K_enter (S := feet _) (K := [.blk b 3 [.int .i64 x, .int .i64 y]]) Tryz.func132 rfl Tryz.ntmps132 rfl hM ?_
  refine TW.seq fun Y1 hY1 => ?_
  refine TW.region ?_
  refine TL.p Pu.as ?_
  refine TL.nil ?_
  refine TQ.thenN (hY1 _ _ ?_)
  refine TW.seq fun Y2 hY2 => ?_
  refine TW.region ?_
  refine TL.p Pu.mv ?_
  refine TL.m Mk.bl ?_
  intro b1
  refine TL.obn (b := b) (n := 2) (sz := 1) (r := fun i => [.int .i64 (two x y i)]) pk9 rfl (fun _ _ => rfl) ?_
  first | refine TL.a0 ty_et31 ?_ | refine TL.ap ty_et31 ?_
  intro A2 c2
  refine TL.subK (KSub.own Pick.hd tri_row KSub.nil) ?_
  refine TL.cr rfl (enters Tryz.func148 rfl rfl) (fun w hw => by
      exact slMin_any (n := 3) (v := tri x y 100001) (by omega) (by omega) (OwnR.rdr (hw.holds (.own A2 3 c2 3 1 (fun i => [.int .i64 (tri x y 100001 i)])) (by simp)))) ?_
  refine TL.p Pu.as ?_
  refine TL.nil ?_
  refine TQ.thenN (hY2 _ _ ?_)
  refine TW.ret ?_
  refine TQ.ret Tryz.results132 rfl ((.tmp rfl .nil)) ?_
  exact fun w hw => ⟨(), rfl, hw.sub KSub.nil⟩
end
def dy2 (u : Nat → Int) (p0 p1 : Int) : Nat → Int := two (dyB u p1) (dyS u p0)
def lv2 (u : Nat → Int) (g : Nat → Nat → Int) (p0 p1 a b : Int) (k i : Nat) : Int := two (lvF g 0 3 a (dyB u p1) k) (lvF g 1 2 b (dyS u p0) k) i
theorem lv2_le {u : Nat → Int} {g : Nat → Nat → Int} {p0 p1 a b : Int} {k i : Nat} : lv2 u g p0 p1 a b k i ≤ 100001 := by
  unfold lv2
  cases i <;> exact lv_le _
theorem lv2_yes {u : Nat → Int} {g : Nat → Nat → Int} {p0 p1 a b : Int} {k i : Nat} (h : max (two a b i) (two (g k 0) (g k 1) i) + dy2 u p0 p1 i - 1 ≤ two (g k 3) (g k 2) i) : lv2 u g p0 p1 a b (k + 1) i = min (lv2 u g p0 p1 a b k i) (max (two a b i) (two (g k 0) (g k 1) i)) := by
  unfold lv2 dy2 at *
  cases i with
  | zero => simp only [two, lvF, thruB, decide_eq_true_eq] at h ⊢; exact if_pos h
  | succ i => simp only [two, lvF, thruB, decide_eq_true_eq] at h ⊢; exact if_pos h
theorem lv2_no {u : Nat → Int} {g : Nat → Nat → Int} {p0 p1 a b : Int} {k i : Nat} (h : ¬ max (two a b i) (two (g k 0) (g k 1) i) + dy2 u p0 p1 i - 1 ≤ two (g k 3) (g k 2) i) : lv2 u g p0 p1 a b (k + 1) i = lv2 u g p0 p1 a b k i := by
  unfold lv2 dy2 at *
  cases i with
  | zero => simp only [two, lvF, thruB, decide_eq_true_eq] at h ⊢; exact if_neg h
  | succ i => simp only [two, lvF, thruB, decide_eq_true_eq] at h ⊢; exact if_neg h
def mid2 (u : Nat → Int) (g : Nat → Nat → Int) (p0 p1 a b : Int) (k i : Nat) : Nat → Int := fun j => if j < i then lv2 u g p0 p1 a b (k + 1) j else lv2 u g p0 p1 a b k j
def rowV (v : Nat → Int) : Nat → List Value := fun i => [.int .i64 (v i)]
theorem mid_keep {u : Nat → Int} {g : Nat → Nat → Int} {p0 p1 a b : Int} {k i : Nat} (h : lv2 u g p0 p1 a b (k + 1) i = lv2 u g p0 p1 a b k i) : ∀ j, j < 2 → rowV (mid2 u g p0 p1 a b k i) j = rowV (mid2 u g p0 p1 a b k (i + 1)) j := fun j _ => by
  simp only [rowV, mid2]
  by_cases e : j = i
  · subst e; rw [if_neg (by omega), if_pos (by omega), h]
  · by_cases l : j < i
    · rw [if_pos l, if_pos (by omega)]
    · rw [if_neg l, if_neg (by omega)]
theorem mid_upd {u : Nat → Int} {g : Nat → Nat → Int} {p0 p1 a b d : Int} {k i : Nat} (h : lv2 u g p0 p1 a b (k + 1) i = min (lv2 u g p0 p1 a b k i) d) (hl : lv2 u g p0 p1 a b k i ≤ 100001) :
    ∀ j, j < 2 → updR (rowV (mid2 u g p0 p1 a b k i)) i [.int .i64 (min (min (mid2 u g p0 p1 a b k i i) d) 100001)] j = rowV (mid2 u g p0 p1 a b k (i + 1)) j := fun j _ => by
  simp only [rowV, mid2, updR]
  by_cases e : j = i
  · subst e
    rw [if_pos rfl, if_neg (by omega), if_pos (by omega), h]
    have : min (min (lv2 u g p0 p1 a b k j) d) 100001 = min (lv2 u g p0 p1 a b k j) d := by omega
    rw [this]
  · rw [if_neg e]
    by_cases l : j < i
    · rw [if_pos l, if_pos (by omega)]
    · rw [if_neg l, if_neg (by omega)]
section
variable {W A : Option Addr} {nw cw nl cl : Nat} {f : Nat → Nat → Int} {x : Nat → Leg} {g : Nat → Nat → Nat → Int} {p0 p1 : Int} {w : World}
set_option maxRecDepth 100000 in
set_option maxHeartbeats 4000000 in
theorem cLeave_any (k : Nat) (a b : Int) (hk : k < nl) (h : LandIn w W nw A nl f x g) (h0 : 1 ≤ p0) (h1 : p0 ≤ p1) (h2 : p1 ≤ 100000) (hL : LegIn (x k).u (x k).n (g k)) (ha : 0 ≤ a ∧ a ≤ 100001) (hb : 0 ≤ b ∧ b ≤ 100001) :
    Calls Tryz.prog 100 #[.agg (carL W nw cw A nl cl p0 p1).toArray, .int .i64 (k : Int), .agg #[.int .i64 a, .int .i64 b]] w (Ret w (.agg #[.int .i64 (lvF (g k) 0 3 a (dyB (x k).u p1) (x k).n), .int .i64 (lvF (g k) 1 2 b (dyS (x k).u p0) (x k).n)])) := by
  have hRA := h.hA
  have hnl := h.hnl
  have hng := h.hn k hk
  have hRG := h.hG k hk
  have hd := dy_bd h0 h1 hL.l0 hL.l1 hL.l2
  unfold carL
  refine K_enter (S := []) (K := []) Tryz.func100 rfl Tryz.ntmps100 rfl (Sat.start _) ?_
  refine TW.seq fun Y1 hY1 => ?_
  refine TW.region ?_
  refine TL.m Mk.bx ?_
  intro b1
  refine TL.m Mk.bx ?_
  intro b2
  refine TL.m (Mk.al ty_zr176) ?_
  intro b3
  refine TL.nil ?_
  refine TQ.thenN (hY1 _ _ ?_)
  refine TW.seq fun Y2 hY2 => ?_
  refine TW.region ?_
  refine TL.p (Pu.lds ty_ag164) ?_
  refine TL.p Pu.mv ?_
  refine TL.cr rfl (enters Tryz.func131 rfl rfl) (fun w hw => by
      exact cDays_any k hk hnl h0 h1 h2 hL.l0 hL.l1 hL.l2 (hRA.sat hw Apart.nil)) ?_
  refine TL.m (Mk.al ty_zr176) ?_
  intro b4
  first | refine TL.st ty_sz176 ?_ | refine TL.se ty_sz176 ?_
  refine TL.nil ?_
  refine TQ.thenN (hY2 _ _ ?_)
  refine TW.seq fun Y3 hY3 => ?_
  refine TW.region ?_
  refine TL.p Pu.bd ?_
  refine TL.m (Mk.al ty_zr176) ?_
  intro b5
  first | refine TL.st ty_sz176 ?_ | refine TL.se ty_sz176 ?_
  refine TL.nil ?_
  refine TQ.thenN (hY3 _ _ ?_)
  refine TW.seq fun Y4 hY4 => ?_
  refine TW.seq fun Y5 hY5 => ?_
  refine TW.region ?_
  refine TL.p (by first | exact Pu.fb ty_fa164_0 | exact Pu.fe ty_fa164_0) ?_
  refine TL.p (by first | exact Pu.fb ty_fa25_1 | exact Pu.fe ty_fa25_1) ?_
  refine TL.p (Pu.ld ty_sc23) ?_
  refine TL.p Pu.mv ?_
  refine TL.p (Pu.el ty_et23) ?_
  refine TL.p (by first | exact Pu.fb ty_fa122_3 | exact Pu.fe ty_fa122_3) ?_
  refine TL.p (Pu.ld ty_sc120) ?_
  refine TL.p (Pu.ln Tryz.underlying120) ?_
  refine TL.p Pu.mv ?_
  refine TL.nil ?_
  refine TQ.thenN (hY5 _ _ ?_)
  refine TW.block ?_
  refine TW.loop1 (fun (j : Nat) => [(27, .int .i64 (j : Int)), (26, .int .i64 ((x k).n : Int)), (25, .slice (x k).A (x k).n (x k).c), (8, .pointer (some ⟨b5, 0, none⟩)), (7, .pointer (some ⟨b4, 0, none⟩)), (6, .pointer (some ⟨b3, 0, none⟩)), (5, .pointer (some ⟨b2, 0, none⟩))]) (fun j => [.own (some ⟨b5, 0, none⟩) 2 2 176 1 (rowV (lv2 (x k).u (g k) p0 p1 a b j)), .own (some ⟨b4, 0, none⟩) 2 2 176 1 (rowV (dy2 (x k).u p0 p1)), .own (some ⟨b2, 0, none⟩) 2 2 176 1 (rowV (two a b)), .blk b3 176 [.int .i64 0, .int .i64 0]]) (fun j => j ≤ (x k).n) (fun j => (x k).n - j) 0 fs9 ?_ ?_ ?_
  exact KSub.ofBlk pk9 rfl (fun _ _ => rfl) rfl rfl (KSub.ofBlk pk9 rfl (fun _ _ => rfl) rfl rfl (KSub.ofBlk pk9 rfl (fun _ _ => rfl) rfl rfl ks9))
  exact Nat.zero_le _
  rintro j hj Z0 hZ0
  refine TW.seq fun Y6 hY6 => ?_
  refine TW.region ?_
  refine TL.p Pu.lt ?_
  refine TL.nil ?_
  refine TQ.thenN (hY6 _ _ ?_)
  refine TW.seq fun Y7 hY7 => ?_
  refine TW.cond rfl (fun hc0 => ?_) (fun hc0 => ?_)
  try simp only [decide_eq_true_eq, decide_eq_false_iff_not, Bool.not_eq_true', Bool.not_eq_false', Bool.and_eq_true, Bool.or_eq_true, Bool.and_eq_false_iff, Bool.or_eq_false_iff, Int.not_lt, Int.not_le] at hc0
  have hjn : j < (x k).n := by omega
  have hgi := gate_in hL.hg hjn
  refine TW.skip ?_
  refine TQ.thenN (hY7 _ _ ?_)
  refine TW.seq fun Y8 hY8 => ?_
  refine TW.block ?_
  refine TW.seq fun Y9 hY9 => ?_
  refine TW.region ?_
  refine TL.p (Pu.el ty_et120) ?_
  refine TL.p (Pu.lds ty_ag138) ?_
  refine TL.m (Mk.al ty_zr138) ?_
  intro b6
  first | refine TL.st ty_sz138 ?_ | refine TL.se ty_sz138 ?_
  refine TL.nil ?_
  refine TQ.thenN (hY9 _ _ ?_)
  refine TW.seq fun Y10 hY10 => ?_
  refine TW.expl (fun (⟨x14, x15⟩ : Nat × Nat) => ([(11, .pointer (some ⟨x14, 0, none⟩)), (12, .pointer (some ⟨x15, 0, none⟩)), (27, .int .i64 (j : Int)), (26, .int .i64 ((x k).n : Int)), (25, .slice (x k).A (x k).n (x k).c), (8, .pointer (some ⟨b5, 0, none⟩)), (7, .pointer (some ⟨b4, 0, none⟩)), (6, .pointer (some ⟨b3, 0, none⟩)), (5, .pointer (some ⟨b2, 0, none⟩))] : Fr)) (fun (⟨x14, x15⟩ : Nat × Nat) => [.blk x14 176 [.int .i64 (g k j 0), .int .i64 (g k j 1)], .blk x15 176 [.int .i64 (g k j 3), .int .i64 (g k j 2)], .own (some ⟨b5, 0, none⟩) 2 2 176 1 (rowV (lv2 (x k).u (g k) p0 p1 a b j)), .own (some ⟨b4, 0, none⟩) 2 2 176 1 (rowV (dy2 (x k).u p0 p1)), .own (some ⟨b2, 0, none⟩) 2 2 176 1 (rowV (two a b)), .blk b3 176 [.int .i64 0, .int .i64 0]]) Drop.done ?_ (fun hE => ?_)
  rintro ⟨x14, x15⟩
  refine TQ.thenN (hY10 _ _ ?_)
  refine TW.seq fun Y11 hY11 => ?_
  refine TW.region ?_
  refine TL.p Pu.mv ?_
  refine TL.nil ?_
  refine TQ.thenN (hY11 _ _ ?_)
  refine TW.block ?_
  refine TW.loop1 (fun (i : Nat) => [(45, .int .i64 (i : Int)), (11, .pointer (some ⟨x14, 0, none⟩)), (12, .pointer (some ⟨x15, 0, none⟩)), (27, .int .i64 (j : Int)), (26, .int .i64 ((x k).n : Int)), (25, .slice (x k).A (x k).n (x k).c), (8, .pointer (some ⟨b5, 0, none⟩)), (7, .pointer (some ⟨b4, 0, none⟩)), (6, .pointer (some ⟨b3, 0, none⟩)), (5, .pointer (some ⟨b2, 0, none⟩))]) (fun i => [.own (some ⟨b5, 0, none⟩) 2 2 176 1 (rowV (mid2 (x k).u (g k) p0 p1 a b j i)), .own (some ⟨x14, 0, none⟩) 2 2 176 1 (rowV (two (g k j 0) (g k j 1))), .own (some ⟨x15, 0, none⟩) 2 2 176 1 (rowV (two (g k j 3) (g k j 2))), .own (some ⟨b4, 0, none⟩) 2 2 176 1 (rowV (dy2 (x k).u p0 p1)), .own (some ⟨b2, 0, none⟩) 2 2 176 1 (rowV (two a b)), .blk b3 176 [.int .i64 0, .int .i64 0]]) (fun i => i ≤ 2) (fun i => 2 - i) 0 fs9 ?_ ?_ ?_
  exact KSub.own pk9 (fun q _ => by simp only [rowV, mid2]; rw [if_neg (by omega)]) (KSub.ofBlk pk9 rfl (fun _ _ => rfl) rfl rfl (KSub.ofBlk pk9 rfl (fun _ _ => rfl) rfl rfl ks9))
  exact Nat.zero_le _
  rintro i hi Z1 hZ1
  refine TW.seq fun Y12 hY12 => ?_
  refine TW.region ?_
  refine TL.p Pu.lt ?_
  refine TL.nil ?_
  refine TQ.thenN (hY12 _ _ ?_)
  refine TW.seq fun Y13 hY13 => ?_
  refine TW.cond rfl (fun hc1 => ?_) (fun hc1 => ?_)
  try simp only [decide_eq_true_eq, decide_eq_false_iff_not, Bool.not_eq_true', Bool.not_eq_false', Bool.and_eq_true, Bool.or_eq_true, Bool.and_eq_false_iff, Bool.or_eq_false_iff, Int.not_lt, Int.not_le] at hc1
  have hi2 : i < 2 := by omega
  have z1 := two_bd ha hb i
  have z2 := two_bd (a := g k j 0) (b := g k j 1) (lo := 0) (hi := 100000) (by omega) (by omega) i
  have z3 : 1 ≤ dy2 (x k).u p0 p1 i ∧ dy2 (x k).u p0 p1 i ≤ 1000000 := two_bd (by omega) (by omega) i
  have z4 := lv2_le (u := (x k).u) (g := g k) (p0 := p0) (p1 := p1) (a := a) (b := b) (k := j) (i := i)
  refine TW.skip ?_
  refine TQ.thenN (hY13 _ _ ?_)
  refine TW.seq fun Y14 hY14 => ?_
  refine TW.block ?_
  refine TW.seq fun Y15 hY15 => ?_
  refine TW.region ?_
  refine TL.p Pu.mv ?_
  refine TL.p Pu.as ?_
  refine TL.nil ?_
  refine TQ.thenN (hY15 _ _ ?_)
  refine TW.seq fun Y16 hY16 => ?_
  refine TW.dw 8 ?_
  refine RK.tk Pu.mv ?_
  refine RK.tk (Pu.ea ty_ar176) ?_
  refine RK.tk (Pu.ld ty_sc3) ?_
  refine RK.tk Pu.mv ?_
  refine RK.tk (Pu.ea ty_ar176) ?_
  refine RK.tk (Pu.ld ty_sc3) ?_
  refine RK.tk Pu.mx ?_
  refine RK.tk Pu.as ?_
  refine RK.ch [] ?_ trivial
  refine WK.n ?_
  refine TL.nil ?_
  refine TQ.thenN (hY16 _ _ ?_)
  refine TW.seq fun Y17 hY17 => ?_
  refine TW.dw 10 ?_
  refine RK.tk Pu.mv ?_
  refine RK.tk Pu.mv ?_
  refine RK.tk (Pu.ea ty_ar176) ?_
  refine RK.tk (Pu.ld ty_sc3) ?_
  refine RK.tk Pu.ad ?_
  refine RK.tk Pu.sb ?_
  refine RK.tk Pu.mv ?_
  refine RK.tk (Pu.ea ty_ar176) ?_
  refine RK.tk (Pu.ld ty_sc3) ?_
  refine RK.tk Pu.le ?_
  refine RK.ch [] ?_ trivial
  refine WK.n ?_
  refine TL.nil ?_
  refine TQ.thenN (hY17 _ _ ?_)
  refine TW.cond rfl (fun hc2 => ?_) (fun hc2 => ?_)
  try simp only [decide_eq_true_eq, decide_eq_false_iff_not, Bool.not_eq_true', Bool.not_eq_false', Bool.and_eq_true, Bool.or_eq_true, Bool.and_eq_false_iff, Bool.or_eq_false_iff, Int.not_lt, Int.not_le] at hc2
  have hs := hidT (lv2_yes hc2)
  refine TW.region ?_
  refine TL.p Pu.mv ?_
  refine TL.p Pu.mv ?_
  refine TL.p (Pu.ea ty_ar176) ?_
  refine TL.p (Pu.ld ty_sc3) ?_
  refine TL.p Pu.mv ?_
  refine TL.m Mk.bl ?_
  intro b7
  refine TL.call rfl (enters Tryz.func132 rfl rfl) (M := [.blk b7 3 _]) (List.Perm.refl _) rfl (fun w hw => by
      exact first2_any _ _ (self1 hw)) ?_
  rintro ⟨⟩
  refine TL.p (Pu.ea ty_ar176) ?_
  first | refine TL.st ty_sz3 ?_ | refine TL.se ty_sz3 ?_
  refine TL.nil ?_
  refine TQ.blkN ?_
  refine TQ.thenN (hY14 _ _ ?_)
  refine TW.region ?_
  refine TL.p Pu.ad ?_
  refine TL.p Pu.mv ?_
  refine TL.nil ?_
  refine TQ.thenN (hZ1 (i + 1) _ _ ?_ ?_ fs9 ?_)
  exact (by omega)
  exact (by first | omega | (simp only []; omega) | (simp; omega))
  first
    | exact KSub.own pk9 (mid_upd hs.out z4) ks9
    | exact KSub.own pk9 (mid_keep hs.out) ks9
  try simp only [decide_eq_true_eq, decide_eq_false_iff_not, Bool.not_eq_true', Bool.not_eq_false', Bool.and_eq_true, Bool.or_eq_true, Bool.and_eq_false_iff, Bool.or_eq_false_iff, Int.not_lt, Int.not_le] at hc2
  have hs := hidT (lv2_no (u := (x k).u) (g := g k) (p0 := p0) (p1 := p1) (a := a) (b := b) (k := j) (i := i) (by omega))
  refine TW.skip ?_
  refine TQ.blkN ?_
  refine TQ.thenN (hY14 _ _ ?_)
  refine TW.region ?_
  refine TL.p Pu.ad ?_
  refine TL.p Pu.mv ?_
  refine TL.nil ?_
  refine TQ.thenN (hZ1 (i + 1) _ _ ?_ ?_ fs9 ?_)
  exact (by omega)
  exact (by first | omega | (simp only []; omega) | (simp; omega))
  first
    | exact KSub.own pk9 (mid_upd hs.out z4) ks9
    | exact KSub.own pk9 (mid_keep hs.out) ks9
  try simp only [decide_eq_true_eq, decide_eq_false_iff_not, Bool.not_eq_true', Bool.not_eq_false', Bool.and_eq_true, Bool.or_eq_true, Bool.and_eq_false_iff, Bool.or_eq_false_iff, Int.not_lt, Int.not_le] at hc1
  obtain rfl : i = 2 := by omega
  refine TW.exit ?_
  refine TQ.thenX ?_
  refine TQ.thenX ?_
  refine TQ.blkX ?_
  refine TQ.blkN ?_
  refine TQ.thenN (hY8 _ _ ?_)
  refine TW.region ?_
  refine TL.p Pu.ad ?_
  refine TL.p Pu.mv ?_
  refine TL.nil ?_
  refine TQ.thenN (hZ0 (j + 1) _ _ ?_ ?_ fs9 ?_)
  exact (by omega)
  exact (by first | omega | (simp only []; omega) | (simp; omega))
  exact KSub.own pk9 (fun q hq => by simp only [rowV, mid2]; rw [if_pos hq]) ks9
  refine RG.tk 0 rfl (by first | exact Pu.fb ty_fa138_0 | exact Pu.fe ty_fa138_0) ?_
  refine RG.tk 1 rfl (by first | exact Pu.fb ty_fa35_0 | exact Pu.fe ty_fa35_0) ?_
  refine RG.tk 2 rfl (Pu.ld ty_sc3) ?_
  refine RG.tk 3 rfl (by first | exact Pu.fb ty_fa138_0 | exact Pu.fe ty_fa138_0) ?_
  refine RG.tk 4 rfl (by first | exact Pu.fb ty_fa35_1 | exact Pu.fe ty_fa35_1) ?_
  refine RG.tk 5 rfl (Pu.ld ty_sc3) ?_
  refine RG.tk 6 rfl Pu.bd ?_
  refine RG.tk 7 rfl (by first | exact Pu.fb ty_fa138_1 | exact Pu.fe ty_fa138_1) ?_
  refine RG.tk 8 rfl (by first | exact Pu.fb ty_fa35_1 | exact Pu.fe ty_fa35_1) ?_
  refine RG.tk 9 rfl (Pu.ld ty_sc3) ?_
  refine RG.tk 10 rfl (by first | exact Pu.fb ty_fa138_1 | exact Pu.fe ty_fa138_1) ?_
  refine RG.tk 11 rfl (by first | exact Pu.fb ty_fa35_0 | exact Pu.fe ty_fa35_0) ?_
  refine RG.tk 12 rfl (Pu.ld ty_sc3) ?_
  refine RG.tk 13 rfl Pu.bd ?_
  refine RG.a2 14 15 rfl rfl (fun X14 hX14 => ?_) (fun X15 hX15 => ?_)
  refine TL.m (Mk.al ty_zr176) ?_
  intro x14
  refine TL.nil ?_
  refine TQ.nxt (hX14 _ _ hl9 ?_)
  refine RG.a1 15 rfl (fun X15 hX15 => ?_)
  refine TL.m (Mk.al ty_zr176) ?_
  intro x15
  refine TL.nil ?_
  refine TQ.nxt (hX15 _ _ hl9 ?_)
  refine RG.a1 16 rfl (fun X16 hX16 => ?_)
  first | refine TL.st ty_sz176 ?_ | refine TL.se ty_sz176 ?_
  refine TL.nil ?_
  refine TQ.nxt (hX16 _ _ hl9 ?_)
  refine RG.a1 17 rfl (fun X17 hX17 => ?_)
  first | refine TL.st ty_sz176 ?_ | refine TL.se ty_sz176 ?_
  refine TL.nil ?_
  refine TQ.nxt (hX17 _ _ hl9 ?_)
  exact RG.nil (TQ.sub fs9 kt9 (hE ⟨x14, x15⟩)) (by kernel_rfl)
  refine TL.m (Mk.al ty_zr176) ?_
  intro x15
  refine TL.nil ?_
  refine TQ.nxt (hX15 _ _ hl9 ?_)
  refine RG.a1 14 rfl (fun X14 hX14 => ?_)
  refine TL.m (Mk.al ty_zr176) ?_
  intro x14
  refine TL.nil ?_
  refine TQ.nxt (hX14 _ _ hl9 ?_)
  refine RG.a1 16 rfl (fun X16 hX16 => ?_)
  first | refine TL.st ty_sz176 ?_ | refine TL.se ty_sz176 ?_
  refine TL.nil ?_
  refine TQ.nxt (hX16 _ _ hl9 ?_)
  refine RG.a1 17 rfl (fun X17 hX17 => ?_)
  first | refine TL.st ty_sz176 ?_ | refine TL.se ty_sz176 ?_
  refine TL.nil ?_
  refine TQ.nxt (hX17 _ _ hl9 ?_)
  exact RG.nil (TQ.sub fs9 kt9 (hE ⟨x14, x15⟩)) (by kernel_rfl)
  try simp only [decide_eq_true_eq, decide_eq_false_iff_not, Bool.not_eq_true', Bool.not_eq_false', Bool.and_eq_true, Bool.or_eq_true, Bool.and_eq_false_iff, Bool.or_eq_false_iff, Int.not_lt, Int.not_le] at hc0
  have hjn : j = (x k).n := by omega
  refine TW.exit ?_
  refine TQ.thenX ?_
  refine TQ.thenX ?_
  refine TQ.blkX ?_
  refine TQ.thenN (hY4 _ _ ?_)
  refine TW.seq fun Y18 hY18 => ?_
  refine TW.region ?_
  refine TL.bo (b := b5) (cs := [.int .i64 (lvF (g k) 0 3 a (dyB (x k).u p1) j), .int .i64 (lvF (g k) 1 2 b (dyS (x k).u p0) j)]) pk9 rfl ?_
  refine TL.p (Pu.lds ty_ag176) ?_
  first | refine TL.st ty_sz176 ?_ | refine TL.se ty_sz176 ?_
  refine TL.nil ?_
  refine TQ.thenN (hY18 _ _ ?_)
  refine TW.ret ?_
  refine TQ.ret Tryz.results100 rfl ((RV.cs ty_ag176 .nil)) ?_
  exact fun w hw => ⟨by rw [← hjn]; rfl, Chg.ext hw.chg⟩
end
end Go.Proofs.YtmonkjnfjgidbaaGreatDoor
namespace Go.Proofs.YtmonkjnfjgidbaaGreatDoor
set_option linter.all false
set_option linter.unusedVariables false
set_option linter.unusedSimpArgs false
open Go.RowKit
section
variable {c : Cx} {Q : Exit → Act → World → Prop} {F : Fr} {K K' : List Fact} {ops : Array Oper} {rest : List Oper} {d : Option Tmp} {ty : TypeId} {pos : String} {af : Array Edge} {g : Option (Nat × Bool)} {x y : Operand} {xt yt : TypeId}
theorem Pu.sl1 {j : Nat} (hx : ev F x = some (.int .i64 1) := by rfl) (hy : ev F y = some (.int .i64 (j : Int)) := by rfl) (hj : j ≤ 62 := by omega) : Pu c F K ⟨d, .binOp .shl xt x y yt, ty, pos, af, g⟩ (.int .i64 ((2 ^ j : Nat) : Int)) := Pu.bin hx hy fun w => by
  have h1 : (2 : Nat) ^ j ≤ 4611686018427387904 := Nat.le_trans (Nat.pow_le_pow_right (by omega) hj) (by decide)
  have h2 : ((2 ^ j : Nat) : Int) = 2 ^ j := by simp
  have h3 : Nat.min j 64 = j := by rw [show Nat.min j 64 = Min.min j 64 from rfl]; omega
  go_simp
  have h4 : (0 : Int) ≤ ((2 ^ j : Nat) : Int) := Int.natCast_nonneg _
  have h5 : ((2 ^ j : Nat) : Int) ≤ 4611686018427387904 := Int.ofNat_le.2 h1
  rw [← h2]
  generalize ((2 ^ j : Nat) : Int) = X at *
  exact IntWalk.i64_in _ (by omega)
theorem Pu.srN {b i : Nat} (hx : ev F x = some (.int .i64 (b : Int)) := by rfl) (hy : ev F y = some (.int .i64 (i : Int)) := by rfl) (hj : i ≤ 62 := by omega) : Pu c F K ⟨d, .binOp .shr xt x y yt, ty, pos, af, g⟩ (.int .i64 ((b / 2 ^ i : Nat) : Int)) := Pu.bin hx hy fun w => by
  go_simp
theorem bits_and1 {m : Nat} (hm : m ≤ 9223372036854775807) : bits .and .i64 (m : Int) 1 = ((m % 2 : Nat) : Int) := by
  have h1 : (BitVec.ofInt 64 (m : Int) &&& BitVec.ofInt 64 1).toNat = m % 2 := by
    rw [BitVec.toNat_and, BitVec.toNat_ofInt, BitVec.toNat_ofInt]
    have e1 : ((m : Int) % (2 ^ 64 : Nat)).toNat = m := by omega
    have e2 : ((1 : Int) % (2 ^ 64 : Nat)).toNat = 1 := by decide
    rw [e1, e2, Nat.and_one_is_mod]
  have h2 : bits .and .i64 (m : Int) 1 = IntKind.i64.wrap ((BitVec.ofInt 64 (m : Int) &&& BitVec.ofInt 64 1).toNat : Int) := rfl
  rw [h2, h1]
  exact IntWalk.i64_in _ (by omega)
theorem Pu.an1 {m : Nat} (hx : ev F x = some (.int .i64 (m : Int)) := by rfl) (hy : ev F y = some (.int .i64 1) := by rfl) (hm : m ≤ 9223372036854775807 := by omega) : Pu c F K ⟨d, .binOp .and xt x y yt, ty, pos, af, g⟩ (.int .i64 ((m % 2 : Nat) : Int)) := Pu.bin hx hy fun w => by
  have h := bits_and1 hm
  go_simp
theorem own_clear {z : Value} {E : TypeId} {G n cp : Nat} : ∀ (m q : Nat) (r : Nat → List Value) (w : World), q + m = n → OwnR w (some ⟨G, 0, none⟩) n cp E 1 r → OwnR (w.setCells G q (List.replicate m z)) (some ⟨G, 0, none⟩) n cp E 1 (fun k => if k < q then r k else [z]) ∧ Chg [G] w (w.setCells G q (List.replicate m z))
  | 0, q, r, w, hq, h => ⟨⟨h.own.congr fun i j hi hj => by simp only [rowF]; rw [if_pos (by omega)], fun i hi => by rw [if_pos (by omega)]; exact h.len i hi⟩, Chg.refl _ _⟩
  | m + 1, q, r, w, hq, h => by
    have hl := h.len q (by omega)
    have hset := h.own.set q 0 (by omega) (by omega) z
    rw [Nat.mul_one, Nat.add_zero] at hset
    have h2 : OwnR (w.setCell ⟨G, q, none⟩ z) (some ⟨G, 0, none⟩) n cp E 1 (updR r q [z]) := by
      refine ⟨hset.congr fun i j hi hj => ?_, fun i hi => ?_⟩
      · obtain rfl : j = 0 := by omega
        simp only [rowF, updR]
        by_cases h1 : i = q
        · subst h1; simp
        · simp [h1]
      · simp only [updR]; split
        · rfl
        · exact h.len i hi
    obtain ⟨h3, h4⟩ := own_clear m (q + 1) (updR r q [z]) _ (by omega) h2
    refine ⟨⟨h3.own.congr fun i j hi hj => ?_, fun i hi => ?_⟩, (Chg.setCell w ⟨G, q, none⟩ z).trans h4⟩
    · simp only [rowF, updR]
      by_cases h1 : i < q
      · rw [if_pos (by omega), if_neg (by omega), if_pos h1]
      · by_cases h5 : i = q
        · subst h5; rw [if_pos (by omega), if_pos rfl, if_neg h1]
        · rw [if_neg (by omega), if_neg h1]
    · have := h3.len i hi
      by_cases h1 : i < q
      · rw [if_pos h1]; exact h.len i hi
      · rw [if_neg h1]; rfl
theorem TL.clr {T E : TypeId} {A : Option Addr} {n cp q m cp2 : Nat} {r : Nat → List Value} {z : Value} {bytes : Nat} {dd : Option Tmp} (hT : ElemT c.P T E 1 bytes) (hz : ∀ w, (zeroValue E).run c.P w = .ok z w) (hzc : z.cells = #[z]) (h1 : z.oneCell' = true) (h : TL c ops Q rest (fput F dd (.tuple #[])) (.own A n cp E 1 (fun k => if k < q then r k else [z]) :: K'))
    (hx : ev F x = some (.slice (slA A cp 1 q) m cp2) := by rfl) (hp : Pick K (.own A n cp E 1 r) K' := by repeat (first | exact Pick.hd | apply Pick.tl)) (hq : q + m = n := by omega) (hd : dok dd c.n = true := by rfl) :
    TL c ops Q (⟨dd, .call { callee := .builtin .clear, args := #[x], argTypes := #[T] }, ty, pos, af, none⟩ :: rest) F K := fun a w hF hK => by
  have hs := hK.pick hp
  have hb : OwnR w A n cp E 1 r := hs.holds (.own A n cp E 1 r) (by simp)
  by_cases hm : m = 0
  · subst hm
    refine wpList_eff (v := .tuple #[]) rfl (w' := w) ?_ (h _ _ (hF.fput hd _) (hs.turn (Chg.refl _ _) (by cases A <;> simp [Fact.foot]) (fun b hb => .inl (by cases A <;> exact hb)) ?_))
    · simp only [execOp, resolve, invoke, List.map_toArray, List.map_cons, List.map_nil, hF.evl hx]
      cases slA A cp 1 q <;> simp [go_sem, Builtin.clear_, run_underlying hT.ht]
    · exact ⟨hb.own.congr fun i j hi hj => by simp only [rowF]; rw [if_pos (by omega)], fun i hi => by rw [if_pos (by omega)]; exact hb.len i hi⟩
  · obtain ⟨G, c', e, _, hg, hc, hcell, hfr⟩ := hb.own.form1 (by omega)
    injection e with e1 e2 e3
    subst e1 e3
    have eA : slA (some ⟨G, 0, none⟩) cp 1 q = some ⟨G, q, none⟩ := by
      unfold slA
      rw [if_neg (by omega), Option.map_some, add_plain, Nat.zero_add, Nat.mul_one]
    rw [eA] at hx
    obtain ⟨h3, h4⟩ := own_clear m q r w hq (z := z) hb
    refine wpList_eff (v := .tuple #[]) rfl (w' := w.setCells G q (List.replicate m z)) ?_ (h _ _ (hF.fput hd _) (hs.turn h4 (by simp [Fact.foot]) (fun b hb => .inl hb) h3))
    have hr := Lib.run_clear_slice (P := c.P) w T E ty z hT.ht hz hzc h1 G q m cp2 (by omega) (fun j hj => by have := hcell (q + j) 0 (by omega) (by omega); rw [Nat.mul_one, Nat.add_zero] at this; rw [this]; rfl) (fun j hj => hfr _)
    simp only [execOp, resolve, invoke, List.map_toArray, List.map_cons, List.map_nil, hF.evl hx]
    simp only [go_sem, builtin, Sem.run_bind, hr, Result.andThen_ok, Sem.run_pure]
end
end Go.Proofs.YtmonkjnfjgidbaaGreatDoor
namespace Go.Proofs.YtmonkjnfjgidbaaGreatDoor
set_option linter.all false
set_option linter.unusedVariables false
set_option linter.unusedSimpArgs false
open Go.RowKit
section
variable {c : Cx} {F : Fr} {K K' : List Fact}
theorem TW.seqD {Q : Exit → Act → World → Prop} {x y : Code} (h : ∀ Y : Act → World → Prop, (∀ (c2 : Cx) (F : Fr) (K : List Fact), TW c2 y Q F K → (hP : c2.P = c.P := by rfl) → TQ c2 (fun _ => Y) .normal F K) → TW c x (Exit.then Y Q) F K) : TW c (.seq x y) Q F K := fun a w hF hK =>
  wp_seq (h (y.wp c.P Q) (fun c2 F K h hP a w h1 h2 => hP ▸ h a w h1 h2) a w hF hK)
end
end Go.Proofs.YtmonkjnfjgidbaaGreatDoor
namespace Go.Proofs.YtmonkjnfjgidbaaGreatDoor
set_option linter.all false
set_option linter.unusedVariables false
set_option linter.unusedSimpArgs false
open Go.RowKit
section
variable {c : Cx} {Q : Exit → Act → World → Prop} {F F' : Fr} {K K' : List Fact}
theorem TW.np {x : Code} (h : TW c x (NP Q) F K) : TW c x Q F K := fun a w hF hK => wp_mono (h a w hF hK) fun e a w he => by
  cases e with
  | panic ch => exact he.elim
  | _ => exact he
theorem TQ.npN (h : TQ c Q .normal F K) : TQ c (NP Q) .normal F K := h
end
end Go.Proofs.YtmonkjnfjgidbaaGreatDoor
namespace Go.Proofs.YtmonkjnfjgidbaaGreatDoor
set_option linter.all false
set_option linter.unusedVariables false
set_option linter.unusedSimpArgs false
open Go.RowKit
section
variable {W A : Option Addr} {nw cw nl cl : Nat} {f : Nat → Nat → Int} {x : Nat → Leg} {g : Nat → Nat → Nat → Int} {p0 p1 : Int} {w : World}
def ar2 (a b m n : Int) (i : Nat) : Nat → Int := fun j => if j < i then two (arV a m) (arV b n) j else two a b j
set_option maxRecDepth 100000 in
set_option maxHeartbeats 4000000 in
theorem cArrive_any (k : Nat) (a b : Int) (hk : k < nl) (h : LandIn w W nw A nl f x g) (h0 : 1 ≤ p0) (h1 : p0 ≤ p1) (h2 : p1 ≤ 100000) (hL : LegIn (x k).u (x k).n (g k)) (ha : 0 ≤ a ∧ a ≤ 100001) (hb : 0 ≤ b ∧ b ≤ 100001) :
    Calls Tryz.prog 90 #[.agg (carL W nw cw A nl cl p0 p1).toArray, .int .i64 (k : Int), .agg #[.int .i64 a, .int .i64 b]] w (Ret w (.agg #[.int .i64 (arV (lvF (g k) 0 3 a (dyB (x k).u p1) (x k).n) (dyB (x k).u p1)), .int .i64 (arV (lvF (g k) 1 2 b (dyS (x k).u p0) (x k).n) (dyS (x k).u p0))])) := by
  have hRA := h.hA
  have hnl := h.hnl
  have hd := dy_bd h0 h1 hL.l0 hL.l1 hL.l2
  obtain ⟨u, hu⟩ : ∃ y, y = lvF (g k) 0 3 a (dyB (x k).u p1) (x k).n := ⟨_, rfl⟩
  obtain ⟨v, hv⟩ : ∃ y, y = lvF (g k) 1 2 b (dyS (x k).u p0) (x k).n := ⟨_, rfl⟩
  have hul : u ≤ 100001 := hu ▸ lv_le _
  have hvl : v ≤ 100001 := hv ▸ lv_le _
  have hu0 : a ≤ u := hu ▸ lv_ge ha.2 _
  have hv0 : b ≤ v := hv ▸ lv_ge hb.2 _
  have fL := cLeave_any (w := w) (cw := cw) (cl := cl) k a b hk h h0 h1 h2 hL ha hb
  rw [← hu, ← hv]
  have fL := fun (w' : World) (h' : LandIn w' W nw A nl f x g) => cLeave_any (w := w') (cw := cw) (cl := cl) k a b hk h' h0 h1 h2 hL ha hb
  rw [← hu, ← hv] at fL
  clear hu hv
  obtain ⟨m, hm⟩ : ∃ y, y = dyB (x k).u p1 := ⟨_, rfl⟩
  obtain ⟨n, hn⟩ : ∃ y, y = dyS (x k).u p0 := ⟨_, rfl⟩
  have fD := fun (w' : World) (h' : RdR w' 5 A nl (fun k => legL (x k))) => cDays_any (W := W) (nw := nw) (cw := cw) (cl := cl) k hk hnl h0 h1 h2 hL.l0 hL.l1 hL.l2 h'
  rw [← hm, ← hn] at fD hd ⊢
  clear hm hn
  unfold carL at fL fD ⊢
  refine K_enter (S := []) (K := []) Tryz.func90 rfl Tryz.ntmps90 rfl (Sat.start _) ?_
  refine TW.seq fun Y1 hY1 => ?_
  refine TW.region ?_
  refine TL.m Mk.bx ?_
  intro b1
  refine TL.m Mk.bx ?_
  intro b2
  refine TL.m (Mk.al ty_zr176) ?_
  intro b3
  refine TL.nil ?_
  refine TQ.thenN (hY1 _ _ ?_)
  refine TW.seq fun Y2 hY2 => ?_
  refine TW.dw 9 ?_
  refine RK.tk (Pu.lds ty_ag164) ?_
  refine RK.tk Pu.mv ?_
  refine RK.tk (Pu.lds ty_ag176) ?_
  refine RK.keep ?_
  refine RK.tk (Pu.lds ty_ag164) ?_
  refine RK.tk Pu.mv ?_
  refine RK.keep ?_
  refine RK.float [.int .i64 0, .int .i64 0] ?_
  refine RK.float [.int .i64 0, .int .i64 0] ?_
  refine RK.ch [false, false] ?_ ⟨ty_zr176, ty_zr176, trivial⟩
  refine WK.cr rfl (enters Tryz.func100 rfl rfl) (fun w hw => by
      exact fL _ (h.ext (Chg.ext hw.chg))) ?_
  refine WK.cr rfl (enters Tryz.func131 rfl rfl) (fun w hw => by
      exact fD _ (hRA.sat hw Apart.nil)) ?_
  refine WK.n ?_
  intro b4
  intro b5
  first | refine TL.st ty_sz176 ?_ | refine TL.se ty_sz176 ?_
  first | refine TL.st ty_sz176 ?_ | refine TL.se ty_sz176 ?_
  refine TL.nil ?_
  refine TQ.thenN (hY2 _ _ ?_)
  refine TW.seq fun Y3 hY3 => ?_
  refine TW.seq fun Y4 hY4 => ?_
  refine TW.region ?_
  refine TL.p Pu.mv ?_
  refine TL.nil ?_
  refine TQ.thenN (hY4 _ _ ?_)
  refine TW.block ?_
  refine TW.loop1 (fun (i : Nat) => [(17, .int .i64 (i : Int)), (7, .pointer (some ⟨b4, 0, none⟩)), (8, .pointer (some ⟨b5, 0, none⟩)), (6, .pointer (some ⟨b3, 0, none⟩))]) (fun i => [.own (some ⟨b4, 0, none⟩) 2 2 176 1 (rowV (ar2 u v m n i)), .own (some ⟨b5, 0, none⟩) 2 2 176 1 (rowV (two m n)), .blk b3 176 [.int .i64 0, .int .i64 0]]) (fun i => i ≤ 2) (fun i => 2 - i) 0 fs9 ?_ ?_ ?_
  exact KSub.ofBlk pk9 rfl (fun _ _ => rfl) rfl rfl (KSub.ofBlk pk9 rfl (fun _ _ => rfl) rfl rfl ks9)
  exact Nat.zero_le _
  rintro i hi Z0 hZ0
  refine TW.seq fun Y5 hY5 => ?_
  refine TW.region ?_
  refine TL.p Pu.lt ?_
  refine TL.nil ?_
  refine TQ.thenN (hY5 _ _ ?_)
  refine TW.seq fun Y6 hY6 => ?_
  refine TW.cond rfl (fun hc0 => ?_) (fun hc0 => ?_)
  try simp only [decide_eq_true_eq, decide_eq_false_iff_not, Bool.not_eq_true', Bool.not_eq_false', Bool.and_eq_true, Bool.or_eq_true, Bool.and_eq_false_iff, Bool.or_eq_false_iff, Int.not_lt, Int.not_le] at hc0
  have hi2 : i < 2 := by omega
  have z1 : ar2 u v m n i i = two u v i := if_neg (by omega)
  have z2 := two_bd (a := u) (b := v) (lo := 0) (hi := 100001) (by omega) (by omega) i
  have z3 := two_bd (a := m) (b := n) (lo := 0) (hi := 1000000) (by omega) (by omega) i
  rw [← z1] at z2
  replace z1 := hidT z1
  refine TW.skip ?_
  refine TQ.thenN (hY6 _ _ ?_)
  refine TW.seq fun Y7 hY7 => ?_
  refine TW.block ?_
  refine TW.seq fun Y8 hY8 => ?_
  refine TW.region ?_
  refine TL.p Pu.mv ?_
  refine TL.p Pu.as ?_
  refine TL.nil ?_
  refine TQ.thenN (hY8 _ _ ?_)
  refine TW.ex0k [.own (some ⟨b5, 0, none⟩) 2 2 176 1 (rowV (two m n)), .blk b3 176 [.int .i64 0, .int .i64 0]] ?_
  refine RG.tk 0 rfl Pu.mv ?_
  refine RG.tk 1 rfl Pu.mv ?_
  refine RG.tk 2 rfl (Pu.ea ty_ar176) ?_
  refine RG.tk 4 rfl Pu.mv ?_
  refine RG.tk 5 rfl (Pu.ea ty_ar176) ?_
  refine RG.tk 6 rfl (Pu.ld ty_sc3) ?_
  refine RG.a1 3 rfl (fun X3 hX3 => ?_)
  refine TL.p (Pu.ld ty_sc3) ?_
  refine TL.nil ?_
  refine TQ.nxt (hX3 _ _ hl9 ?_)
  refine RG.tk 7 rfl Pu.ad ?_
  refine RG.a1 8 rfl (fun X8 hX8 => ?_)
  refine TL.m Mk.bl ?_
  intro b6
  refine TL.nil ?_
  refine TQ.nxt (hX8 _ _ hl9 ?_)
  refine RG.a1 9 rfl (fun X9 hX9 => ?_)
  refine TL.call rfl (enters Tryz.func132 rfl rfl) (M := [.blk b6 3 _]) (List.Perm.refl _) rfl (fun w hw => by
      exact first1_any _ (self1 hw)) ?_
  rintro ⟨⟩
  refine TL.nil ?_
  refine TQ.nxt (hX9 _ _ hl9 ?_)
  refine RG.tk 10 rfl (Pu.ea ty_ar176) ?_
  refine RG.a1 11 rfl (fun X11 hX11 => ?_)
  first | refine TL.st ty_sz3 ?_ | refine TL.se ty_sz3 ?_
  refine TL.nil ?_
  refine TQ.nxt (hX11 _ _ hl9 ?_)
  refine RG.nil ?_ (by kernel_rfl)
  refine TQ.blkN ?_
  refine TQ.thenN (hY7 _ _ ?_)
  refine TW.region ?_
  refine TL.p Pu.ad ?_
  refine TL.p Pu.mv ?_
  refine TL.nil ?_
  refine TQ.thenN (hZ0 (i + 1) _ _ ?_ ?_ fs9 ?_)
  exact (by omega)
  exact (by first | omega | (simp only []; omega) | (simp; omega))
  refine KSub.own pk9 (fun j hj => ?_) ks9
  simp only [rowV, ar2, updR]
  by_cases e : j = i
  subst e
  rw [if_pos rfl, if_neg (by omega : ¬ j < j), if_pos (by omega : j < j + 1)]
  have hj2 : j = 0 ∨ j = 1 := by omega
  rcases hj2 with rfl | rfl <;> simp only [two, arV] <;> congr 2 <;> omega
  rw [if_neg e]
  by_cases l : j < i
  rw [if_pos l, if_pos (by omega)]
  rw [if_neg l, if_neg (by omega)]
  try simp only [decide_eq_true_eq, decide_eq_false_iff_not, Bool.not_eq_true', Bool.not_eq_false', Bool.and_eq_true, Bool.or_eq_true, Bool.and_eq_false_iff, Bool.or_eq_false_iff, Int.not_lt, Int.not_le] at hc0
  obtain rfl : i = 2 := by omega
  refine TW.exit ?_
  refine TQ.thenX ?_
  refine TQ.thenX ?_
  refine TQ.blkX ?_
  refine TQ.thenN (hY3 _ _ ?_)
  refine TW.seq fun Y9 hY9 => ?_
  refine TW.region ?_
  refine TL.bo (b := b4) (cs := [.int .i64 (arV u m), .int .i64 (arV v n)]) pk9 rfl ?_
  refine TL.p (Pu.lds ty_ag176) ?_
  first | refine TL.st ty_sz176 ?_ | refine TL.se ty_sz176 ?_
  refine TL.nil ?_
  refine TQ.thenN (hY9 _ _ ?_)
  refine TW.ret ?_
  refine TQ.ret Tryz.results90 rfl ((RV.cs ty_ag176 .nil)) ?_
  exact fun w hw => ⟨rfl, Chg.ext hw.chg⟩
end
def atW (u : Nat → Int) (well : Int) : Prop := u 0 = well ∨ u 1 = well
instance {u : Nat → Int} {well : Int} : Decidable (atW u well) := inferInstanceAs (Decidable (_ ∨ _))
def ldL (u : Nat → Nat → Int) (well : Int) : Nat → List (Int × Int)
  | 0 => []
  | k + 1 => if atW (u k) well then ldL u well k ++ [((k : Int), othV (u k) well)] else ldL u well k
theorem ld_yes {u : Nat → Nat → Int} {well : Int} {k : Nat} (h : atW (u k) well) : ldL u well (k + 1) = ldL u well k ++ [((k : Int), othV (u k) well)] := if_pos h
theorem ld_no {u : Nat → Nat → Int} {well : Int} {k : Nat} (h : ¬ atW (u k) well) : ldL u well (k + 1) = ldL u well k := if_neg h
theorem ld_pre {u : Nat → Nat → Int} {well : Int} {k : Nat} : ∀ n, k ≤ n → ∃ M, ldL u well n = ldL u well k ++ M
  | 0, h => ⟨[], by obtain rfl : k = 0 := by omega
                    simp⟩
  | n + 1, h => by
    by_cases e : k = n + 1
    · subst e; exact ⟨[], by simp⟩
    · obtain ⟨M, hM⟩ := ld_pre (u := u) (well := well) (k := k) n (by omega)
      by_cases a : atW (u n) well
      · rw [ld_yes a, hM]; exact ⟨M ++ [((n : Int), othV (u n) well)], by simp⟩
      · rw [ld_no a, hM]; exact ⟨M, rfl⟩
theorem ld_get {u : Nat → Nat → Int} {well : Int} {k n : Nat} (hk : k < n) (h : atW (u k) well) : (ldL u well k).length < (ldL u well n).length ∧ (ldL u well n).getD (ldL u well k).length (0, 0) = ((k : Int), othV (u k) well) := by
  obtain ⟨M, hM⟩ := ld_pre (u := u) (well := well) (k := k + 1) n hk
  rw [hM, ld_yes h]
  refine ⟨by simp, ?_⟩
  simp [List.getD_eq_getElem?_getD]
theorem ld_in {u : Nat → Nat → Int} {well : Int} {t : Int × Int} : ∀ n, t ∈ ldL u well n → ∃ k, k < n ∧ atW (u k) well ∧ t = ((k : Int), othV (u k) well)
  | 0, h => by cases h
  | n + 1, h => by
    by_cases a : atW (u n) well
    · rw [ld_yes a] at h
      rcases List.mem_append.1 h with h | h
      · obtain ⟨k, hk, h⟩ := ld_in n h
        exact ⟨k, by omega, h⟩
      · exact ⟨n, by omega, a, List.mem_singleton.1 h⟩
    · rw [ld_no a] at h
      obtain ⟨k, hk, h⟩ := ld_in n h
      exact ⟨k, by omega, h⟩
theorem getD_in {L : List (Int × Int)} {q : Nat} (h : q < L.length) : L.getD q (0, 0) ∈ L := by
  rw [List.getD_eq_getElem?_getD, List.getElem?_eq_getElem h]
  exact List.getElem_mem h
theorem end_hit {u : Nat → Nat → Int} {leg well : Int} {nl q : Nat} (hq : q < (ldL u well nl).length) (h : ((ldL u well nl).getD q (0, 0)).1 = leg) : endV nl u leg well = ((ldL u well nl).getD q (0, 0)).2 := by
  obtain ⟨k, hk, ha, e⟩ := ld_in nl (getD_in hq)
  rw [e] at h ⊢
  subst h
  unfold endV
  rw [if_pos ⟨by omega, by simp; omega⟩]
  simp
theorem end_none {u : Nat → Nat → Int} {leg well : Int} {nl : Nat} (h : ∀ q, q < (ldL u well nl).length → ((ldL u well nl).getD q (0, 0)).1 ≠ leg) : endV nl u leg well = -1 := by
  unfold endV
  split
  · next hl =>
    unfold othV
    by_cases a : atW (u leg.toNat) well
    · obtain ⟨h1, h2⟩ := ld_get (k := leg.toNat) (n := nl) (by omega) a
      exact absurd (by rw [h2]; simp; omega) (h _ h1)
    · unfold atW at a
      rw [if_neg (fun e => a (.inl e)), if_neg (fun e => a (.inr e))]
  · rfl
theorem oth_from {u : Nat → Int} {well : Int} (h : u 0 = well) : othV u well = u 1 := if_pos h
theorem oth_to {u : Nat → Int} {well : Int} (h : ¬ u 0 = well) (h2 : u 1 = well) : othV u well = u 0 := by unfold othV; rw [if_neg h, if_pos h2]
section
variable {W A : Option Addr} {nw cw nl cl : Nat} {x : Nat → Leg} {p0 p1 : Int} {w : World}
def ledM (W : Option Addr) (nw cw : Nat) (A : Option Addr) (nl cl : Nat) (p0 p1 well : Int) (bc bw : Nat) : List Fact := [.blk bc 164 (carL W nw cw A nl cl p0 p1), .blk bw 3 [.int .i64 well]]
theorem leads_any (well : Int) : CallsK Tryz.prog 89 #[.agg (carL W nw cw A nl cl p0 p1).toArray, .int .i64 well] [] w (Nat × Nat) (fun y => .func (.func 130) #[] #[.pointer (some ⟨y.1, 0, none⟩), .pointer (some ⟨y.2, 0, none⟩)]) (fun y => ledM W nw cw A nl cl p0 p1 well y.1 y.2) := by
  unfold ledM carL
  refine K_enter (S := []) (K := []) Tryz.func89 rfl Tryz.ntmps89 rfl (Sat.start _) ?_
  refine TW.seq fun Y1 hY1 => ?_
  refine TW.region ?_
  refine TL.m Mk.bx ?_
  intro b1
  refine TL.m Mk.bx ?_
  intro b2
  refine TL.p Pu.as ?_
  refine TL.nil ?_
  refine TQ.thenN (hY1 _ _ ?_)
  refine TW.seq fun Y2 hY2 => ?_
  refine TW.region ?_
  refine TL.p Pu.fn ?_
  refine TL.p Pu.as ?_
  refine TL.nil ?_
  refine TQ.thenN (hY2 _ _ ?_)
  refine TW.ret ?_
  refine TQ.ret Tryz.results89 rfl ((.tmp rfl .nil)) ?_
  exact fun w hw => ⟨(b1, b2), rfl, hw.sub ks9⟩
set_option maxRecDepth 100000 in
set_option maxHeartbeats 1000000 in
theorem leads1_iter {bc bw : Nat} {well : Int} {S : List Nat} {W0 : World} {R : Type} {J : Nat → R → List Fact} (hR : RdR W0 5 A nl (fun k => legL (x k))) (hA : Apart S A) (hnl : nl ≤ 1000) :
    IterR Tryz.prog 130 [.pointer (some ⟨bc, 0, none⟩), .pointer (some ⟨bw, 0, none⟩)] (ledM W nw cw A nl cl p0 p1 well bc bw) Unit (fun q _ => [.int .i64 ((ldL (fun k => (x k).u) well nl).getD q (0, 0)).1, .int .i64 ((ldL (fun k => (x k).u) well nl).getD q (0, 0)).2]) (fun _ _ => ledM W nw cw A nl cl p0 p1 well bc bw) (fun _ _ => ledM W nw cw A nl cl p0 p1 well bc bw) (ldL (fun k => (x k).u) well nl).length [] S W0 R J := by
  intro lY Rx Jx r0 w9 hS hround
  unfold ledM carL at hS hround
  refine K_enterW (S := S) (K := .blk bc 164 _ :: .blk bw 3 [.int .i64 well] :: J 0 r0) Tryz.func130 rfl Tryz.ntmps130 rfl hS ?_
  refine TW.seq fun Y1 hY1 => ?_
  refine TW.region ?_
  refine TL.p (by first | exact Pu.fb ty_fa164_0 | exact Pu.fe ty_fa164_0) ?_
  refine TL.p (by first | exact Pu.fb ty_fa25_1 | exact Pu.fe ty_fa25_1) ?_
  refine TL.p (by first | exact (Pu.ld ty_sc23) | exact (Pu.ldo ty_sc23)) ?_
  refine TL.p (Pu.ln Tryz.underlying23) ?_
  refine TL.p Pu.mv ?_
  refine TL.nil ?_
  refine TQ.thenN (hY1 _ _ ?_)
  refine TW.block ?_
  refine TW.loop2 (fun (k : Nat) (r : R) => [(10, .int .i64 (k : Int)), (9, .int .i64 (nl : Int)), (8, .slice A nl cl), (0, .func (.yield lY) #[] #[]), (2, .pointer (some ⟨bw, 0, none⟩))]) (fun k r => .blk bc 164 [.slice W nw cw, .slice A nl cl, .int .i64 p0, .int .i64 p1] :: .blk bw 3 [.int .i64 well] :: J (ldL (fun k => (x k).u) well k).length r) (fun k r => k ≤ nl) (fun k r => nl - k) 0 r0 fs9 ?_ ?_ ?_
  exact kt9
  exact Nat.zero_le _
  rintro k r hk Z0 hZ0
  refine TW.seq fun Y2 hY2 => ?_
  refine TW.region ?_
  refine TL.p Pu.lt ?_
  refine TL.nil ?_
  refine TQ.thenN (hY2 _ _ ?_)
  refine TW.seq fun Y3 hY3 => ?_
  refine TW.cond rfl (fun hc0 => ?_) (fun hc0 => ?_)
  try simp only [decide_eq_true_eq, decide_eq_false_iff_not, Bool.not_eq_true', Bool.not_eq_false', Bool.and_eq_true, Bool.or_eq_true, Bool.and_eq_false_iff, Bool.or_eq_false_iff, Int.not_lt, Int.not_le] at hc0
  have hkn : k < nl := by omega
  refine TW.skip ?_
  refine TQ.thenN (hY3 _ _ ?_)
  refine TW.seq fun Y4 hY4 => ?_
  refine TW.block ?_
  refine TW.seq fun Y5 hY5 => ?_
  refine TW.region ?_
  refine TL.p Pu.mv ?_
  refine TL.p (Pu.el ty_et23) ?_
  refine TL.p (by first | exact (Pu.lds ty_ag122) | exact (Pu.ldso ty_ag122)) ?_
  refine TL.m (Mk.al ty_zr122) ?_
  intro b1
  refine TL.p Pu.as ?_
  first | refine TL.st ty_sz122 ?_ | refine TL.se ty_sz122 ?_
  refine TL.nil ?_
  refine TQ.thenN (hY5 _ _ ?_)
  refine TW.seq fun Y6 hY6 => ?_
  refine TW.region ?_
  refine TL.p (by first | exact (Pu.ld ty_sc3) | exact (Pu.ldo ty_sc3)) ?_
  refine TL.nil ?_
  refine TQ.thenN (hY6 _ _ ?_)
  refine TW.block ?_
  refine TW.seq fun Y7 hY7 => ?_
  refine TW.region ?_
  refine TL.p (by first | exact Pu.fb ty_fa122_0 | exact Pu.fe ty_fa122_0) ?_
  refine TL.p (by first | exact (Pu.ld ty_sc3) | exact (Pu.ldo ty_sc3)) ?_
  refine TL.p Pu.eq ?_
  refine TL.p Pu.as ?_
  refine TL.nil ?_
  refine TQ.thenN (hY7 _ _ ?_)
  refine TW.cond rfl (fun hc1 => ?_) (fun hc1 => ?_)
  try simp only [decide_eq_true_eq, decide_eq_false_iff_not, Bool.not_eq_true', Bool.not_eq_false', Bool.and_eq_true, Bool.or_eq_true, Bool.and_eq_false_iff, Bool.or_eq_false_iff, Int.not_lt, Int.not_le] at hc1
  have ha : atW (x k).u well := .inl (by omega)
  obtain ⟨hg1, hg2⟩ := ld_get (u := fun k => (x k).u) hkn ha
  rw [oth_from (by omega)] at hg2
  have hs : (ldL (fun k => (x k).u) well (k + 1)).length = (ldL (fun k => (x k).u) well k).length + 1 := by rw [ld_yes ha]; simp
  replace hg2 := hidT hg2
  replace hs := hidT hs
  refine TW.seq fun Y8 hY8 => ?_
  refine TW.regionI ?_
  refine TLi.op (fun U1 hU1 => ?_) (by rintro ⟨_, _, h⟩; first | exact h | (obtain ⟨⟨_, h⟩, _⟩ := h; cases h) | cases h)
  refine TL.p Pu.mv ?_
  refine TL.nil ?_
  refine TQ.nxt (hU1 _ _ ?_)
  refine TLi.op (fun U2 hU2 => ?_) (by rintro ⟨_, _, h⟩; first | exact h | (obtain ⟨⟨_, h⟩, _⟩ := h; cases h) | cases h)
  refine TL.p Pu.mv ?_
  refine TL.nil ?_
  refine TQ.nxt (hU2 _ _ ?_)
  refine TLi.op (fun U3 hU3 => ?_) (by rintro ⟨_, _, h⟩; first | exact h | (obtain ⟨⟨_, h⟩, _⟩ := h; cases h) | cases h)
  refine TL.p (by first | exact Pu.fb ty_fa122_1 | exact Pu.fe ty_fa122_1) ?_
  refine TL.nil ?_
  refine TQ.nxt (hU3 _ _ ?_)
  refine TLi.op (fun U4 hU4 => ?_) (by rintro ⟨_, _, h⟩; first | exact h | (obtain ⟨⟨_, h⟩, _⟩ := h; cases h) | cases h)
  refine TL.p (by first | exact (Pu.ld ty_sc3) | exact (Pu.ldo ty_sc3)) ?_
  refine TL.nil ?_
  refine TQ.nxt (hU4 _ _ ?_)
  refine TLi.yi rfl rfl (fun w hw => by
      have h9 := hround (ldL (fun k => (x k).u) well k).length () r w hg1 (hw.sub (KSub.drop (KSub.refl _)))
      simp only [hg2.out] at h9
      exact h9) ?_ ?_
  intro r
  refine TLi.op (fun U5 hU5 => ?_) (by rintro ⟨_, _, h⟩; first | exact h | (obtain ⟨⟨_, h⟩, _⟩ := h; cases h) | cases h)
  refine TL.p Pu.no ?_
  refine TL.nil ?_
  refine TQ.nxt (hU5 _ _ ?_)
  refine TLi.nil ?_
  refine TQ.thenN (hY8 _ _ ?_)
  refine TW.condF rfl rfl ?_
  refine TW.skip ?_
  refine TQ.blkN ?_
  refine TQ.blkN ?_
  refine TQ.thenN (hY4 _ _ ?_)
  refine TW.region ?_
  refine TL.p Pu.ad ?_
  refine TL.p Pu.mv ?_
  refine TL.nil ?_
  refine TQ.thenN (hZ0 (k + 1) r _ _ ?_ ?_ fs9 ?_)
  exact (by omega)
  exact (by first | omega | (simp only []; omega) | (simp; omega))
  first
    | (rw [hs.out]; exact KSub.refl _)
    | (rw [hs.out]; exact KSub.drop (KSub.refl _))
  intro x'
  refine TLi.op (fun U6 hU6 => ?_) (by rintro ⟨_, _, h⟩; first | exact h | (obtain ⟨⟨_, h⟩, _⟩ := h; cases h) | cases h)
  refine TL.p Pu.no ?_
  refine TL.nil ?_
  refine TQ.nxt (hU6 _ _ ?_)
  refine TLi.nil ?_
  refine TQ.thenN (hY8 _ _ ?_)
  refine TW.condT rfl rfl ?_
  refine TW.ret ?_
  refine TQ.blkR ?_
  refine TQ.blkR ?_
  refine TQ.thenR ?_
  refine TQ.thenR ?_
  refine TQ.blkR ?_
  refine TQ.ret Tryz.results130 rfl (.nil) ?_
  exact fun w hw => ⟨⟨_, rfl⟩, .inr ⟨x', hw.sub (KSub.dropL _ (KSub.refl _))⟩⟩
  try simp only [decide_eq_true_eq, decide_eq_false_iff_not, Bool.not_eq_true', Bool.not_eq_false', Bool.and_eq_true, Bool.or_eq_true, Bool.and_eq_false_iff, Bool.or_eq_false_iff, Int.not_lt, Int.not_le] at hc1
  have hn0 : ¬ (x k).u 0 = well := by omega
  refine TW.seq fun Y9 hY9 => ?_
  refine TW.region ?_
  refine TL.p (by first | exact Pu.fb ty_fa122_1 | exact Pu.fe ty_fa122_1) ?_
  refine TL.p (by first | exact (Pu.ld ty_sc3) | exact (Pu.ldo ty_sc3)) ?_
  refine TL.p Pu.eq ?_
  refine TL.p Pu.as ?_
  refine TL.nil ?_
  refine TQ.thenN (hY9 _ _ ?_)
  refine TW.cond rfl (fun hc3 => ?_) (fun hc3 => ?_)
  try simp only [decide_eq_true_eq, decide_eq_false_iff_not, Bool.not_eq_true', Bool.not_eq_false', Bool.and_eq_true, Bool.or_eq_true, Bool.and_eq_false_iff, Bool.or_eq_false_iff, Int.not_lt, Int.not_le] at hc3
  have ha : atW (x k).u well := .inr (by omega)
  obtain ⟨hg1, hg2⟩ := ld_get (u := fun k => (x k).u) hkn ha
  rw [oth_to hn0 (by omega)] at hg2
  have hs : (ldL (fun k => (x k).u) well (k + 1)).length = (ldL (fun k => (x k).u) well k).length + 1 := by rw [ld_yes ha]; simp
  replace hg2 := hidT hg2
  replace hs := hidT hs
  refine TW.seq fun Y10 hY10 => ?_
  refine TW.regionI ?_
  refine TLi.op (fun U7 hU7 => ?_) (by rintro ⟨_, _, h⟩; first | exact h | (obtain ⟨⟨_, h⟩, _⟩ := h; cases h) | cases h)
  refine TL.p Pu.mv ?_
  refine TL.nil ?_
  refine TQ.nxt (hU7 _ _ ?_)
  refine TLi.op (fun U8 hU8 => ?_) (by rintro ⟨_, _, h⟩; first | exact h | (obtain ⟨⟨_, h⟩, _⟩ := h; cases h) | cases h)
  refine TL.p Pu.mv ?_
  refine TL.nil ?_
  refine TQ.nxt (hU8 _ _ ?_)
  refine TLi.op (fun U9 hU9 => ?_) (by rintro ⟨_, _, h⟩; first | exact h | (obtain ⟨⟨_, h⟩, _⟩ := h; cases h) | cases h)
  refine TL.p (by first | exact Pu.fb ty_fa122_0 | exact Pu.fe ty_fa122_0) ?_
  refine TL.nil ?_
  refine TQ.nxt (hU9 _ _ ?_)
  refine TLi.op (fun U10 hU10 => ?_) (by rintro ⟨_, _, h⟩; first | exact h | (obtain ⟨⟨_, h⟩, _⟩ := h; cases h) | cases h)
  refine TL.p (by first | exact (Pu.ld ty_sc3) | exact (Pu.ldo ty_sc3)) ?_
  refine TL.nil ?_
  refine TQ.nxt (hU10 _ _ ?_)
  refine TLi.yi rfl rfl (fun w hw => by
      have h9 := hround (ldL (fun k => (x k).u) well k).length () r w hg1 (hw.sub (KSub.drop (KSub.refl _)))
      simp only [hg2.out] at h9
      exact h9) ?_ ?_
  intro r
  refine TLi.op (fun U11 hU11 => ?_) (by rintro ⟨_, _, h⟩; first | exact h | (obtain ⟨⟨_, h⟩, _⟩ := h; cases h) | cases h)
  refine TL.p Pu.no ?_
  refine TL.nil ?_
  refine TQ.nxt (hU11 _ _ ?_)
  refine TLi.nil ?_
  refine TQ.thenN (hY10 _ _ ?_)
  refine TW.condF rfl rfl ?_
  refine TW.skip ?_
  refine TQ.blkN ?_
  refine TQ.blkN ?_
  refine TQ.thenN (hY4 _ _ ?_)
  refine TW.region ?_
  refine TL.p Pu.ad ?_
  refine TL.p Pu.mv ?_
  refine TL.nil ?_
  refine TQ.thenN (hZ0 (k + 1) r _ _ ?_ ?_ fs9 ?_)
  exact (by omega)
  exact (by first | omega | (simp only []; omega) | (simp; omega))
  first
    | (rw [hs.out]; exact KSub.refl _)
    | (rw [hs.out]; exact KSub.drop (KSub.refl _))
  intro x'
  refine TLi.op (fun U12 hU12 => ?_) (by rintro ⟨_, _, h⟩; first | exact h | (obtain ⟨⟨_, h⟩, _⟩ := h; cases h) | cases h)
  refine TL.p Pu.no ?_
  refine TL.nil ?_
  refine TQ.nxt (hU12 _ _ ?_)
  refine TLi.nil ?_
  refine TQ.thenN (hY10 _ _ ?_)
  refine TW.condT rfl rfl ?_
  refine TW.ret ?_
  refine TQ.blkR ?_
  refine TQ.blkR ?_
  refine TQ.thenR ?_
  refine TQ.thenR ?_
  refine TQ.blkR ?_
  refine TQ.ret Tryz.results130 rfl (.nil) ?_
  exact fun w hw => ⟨⟨_, rfl⟩, .inr ⟨x', hw.sub (KSub.dropL _ (KSub.refl _))⟩⟩
  try simp only [decide_eq_true_eq, decide_eq_false_iff_not, Bool.not_eq_true', Bool.not_eq_false', Bool.and_eq_true, Bool.or_eq_true, Bool.and_eq_false_iff, Bool.or_eq_false_iff, Int.not_lt, Int.not_le] at hc3
  have ha : ¬ atW (x k).u well := fun h => h.elim hn0 (by omega)
  have hs : (ldL (fun k => (x k).u) well (k + 1)).length = (ldL (fun k => (x k).u) well k).length := by rw [ld_no ha]
  replace hs := hidT hs
  refine TW.skip ?_
  refine TQ.blkN ?_
  refine TQ.blkN ?_
  refine TQ.thenN (hY4 _ _ ?_)
  refine TW.region ?_
  refine TL.p Pu.ad ?_
  refine TL.p Pu.mv ?_
  refine TL.nil ?_
  refine TQ.thenN (hZ0 (k + 1) r _ _ ?_ ?_ fs9 ?_)
  exact (by omega)
  exact (by first | omega | (simp only []; omega) | (simp; omega))
  first
    | (rw [hs.out]; exact KSub.refl _)
    | (rw [hs.out]; exact KSub.drop (KSub.refl _))
  try simp only [decide_eq_true_eq, decide_eq_false_iff_not, Bool.not_eq_true', Bool.not_eq_false', Bool.and_eq_true, Bool.or_eq_true, Bool.and_eq_false_iff, Bool.or_eq_false_iff, Int.not_lt, Int.not_le] at hc0
  obtain rfl : k = nl := by omega
  refine TW.exit ?_
  refine TQ.thenX ?_
  refine TQ.thenX ?_
  refine TQ.blkX ?_
  refine TQ.end Tryz.results130 rfl (.nil) ?_
  exact fun w hw => ⟨⟨_, rfl⟩, .inl ⟨r, hw.sub (KSub.drop (KSub.drop (KSub.refl _)))⟩⟩
end
end Go.Proofs.YtmonkjnfjgidbaaGreatDoor
namespace Go.Proofs.YtmonkjnfjgidbaaGreatDoor
set_option linter.all false
set_option linter.unusedVariables false
set_option linter.unusedSimpArgs false
open Go.RowKit
def badT : Fact := .obj 0 (.cells #[] 0 (0, 0))
theorem no_badT {S : List Nat} {w0 w : World} {K : List Fact} (h : Sat S w0 K w) (hm : badT ∈ K) : False := by
  have h1 := (h.holds badT hm).2
  cases h1
section
variable {W A : Option Addr} {nw cw nl cl : Nat} {x : Nat → Leg} {p0 p1 : Int} {w : World}
def notB (u : Nat → Nat → Int) (well : Int) (nl : Nat) (leg : Int) (q : Nat) : Bool := allB q fun j => !decide (((ldL u well nl).getD j (0, 0)).1 = leg)
theorem notB_iff {u : Nat → Nat → Int} {well leg : Int} {nl q : Nat} : notB u well nl leg q = true ↔ ∀ j, j < q → ((ldL u well nl).getD j (0, 0)).1 ≠ leg := by
  unfold notB
  rw [allB_iff]
  exact ⟨fun h j hj => by have := h j hj; simpa using this, fun h j hj => by have := h j hj; simpa using this⟩
set_option maxRecDepth 100000 in
set_option maxHeartbeats 1000000 in
theorem cEnd_any (leg well : Int) (hR : RdR w 5 A nl (fun k => legL (x k))) (hnl : nl ≤ 1000) :
    Calls Tryz.prog 99 #[.agg (carL W nw cw A nl cl p0 p1).toArray, .int .i64 leg, .int .i64 well] w (Ret w (.int .i64 (endV nl (fun k => (x k).u) leg well))) := by
  unfold carL
  refine K_enterM (S := []) (K := []) Tryz.func99 rfl Tryz.ntmps99 rfl (Sat.start _) ?_
  refine TW.seqD fun Y1 hY1 => ?_
  refine TW.region ?_
  refine TL.m Mk.bx ?_
  intro b1
  refine TL.m Mk.bx ?_
  intro b2
  refine TL.m (Mk.al ty_zr3) ?_
  intro b3
  refine TL.nil ?_
  refine TQ.thenN (hY1 _ _ _ ?_)
  refine TW.seqD fun Y2 hY2 => ?_
  refine TW.seqD fun Y3 hY3 => ?_
  refine TW.region ?_
  refine TL.p (Pu.lds ty_ag164) ?_
  refine TL.p Pu.mv ?_
  refine TL.call (M := []) rfl (enters Tryz.func89 rfl rfl) (List.Perm.refl _) rfl (fun w hw => by
      exact leads_any (W := W) (nw := nw) (cw := cw) (A := A) (nl := nl) (cl := cl) (p0 := p0) (p1 := p1) well) ?_
  rintro ⟨bc, bw⟩
  refine TL.nil ?_
  refine TQ.thenN (hY3 _ _ _ ?_)
  refine TW.block ?_
  refine TW.rangeR (fun (q : Nat) (_ : Unit) => if notB (fun k => (x k).u) well nl leg q = true then .blk b2 3 [.int .i64 leg] :: .blk b3 3 [.int .i64 0] :: [] else [badT]) (fun _ : { q : Nat // q < (ldL (fun k => (x k).u) well nl).length ∧ ((ldL (fun k => (x k).u) well nl).getD q (0, 0)).1 = leg } => Code.ret) (fun u => .blk b3 3 [.int .i64 ((ldL (fun k => (x k).u) well nl).getD u.1 (0, 0)).2] :: []) (()) (fun a b => leads1_iter (bc := bc) (bw := bw) (W := W) (nw := nw) (cw := cw) (cl := cl) (p0 := p0) (p1 := p1) (well := well) hR Apart.nil hnl) ?_ ?_ ?_ ?_ (eg := enters Tryz.func130 rfl rfl)
  rw [if_pos (notB_iff.2 fun j hj => by omega)]
  exact KSub.cons pk9 (KSub.cons pk9 ks9)
  rintro lR DR oR oR1 oR2 q g r hq ZR0 hZR0
  by_cases hno : notB (fun k => (x k).u) well nl leg q = true
  case neg => exact fun a w hF hK => (no_badT hK (by rw [if_neg hno]; simp)).elim
  simp only [if_pos hno, ledM, List.cons_append, List.nil_append]
  refine TWi.seq fun Y4 hY4 => ?_
  refine TWi.region ?_
  refine TL.p Pu.as ?_
  refine TL.nil ?_
  refine TQ.thenN (hY4 _ _ ?_)
  refine TWi.region ?_
  refine TL.p Pu.as ?_
  refine TL.nil ?_
  refine TQ.thenN (hZR0 _ _ _ Pick.hd ?_)
  refine TWi.block ?_
  refine TWi.seq fun Y5 hY5 => ?_
  refine TWi.region ?_
  refine TL.p Pu.mv ?_
  refine TL.p (Pu.ld ty_sc3) ?_
  refine TL.p Pu.eq ?_
  refine TL.nil ?_
  refine TQ.thenN (hY5 _ _ ?_)
  refine TWi.cond rfl (fun hc0 => ?_) (fun hc0 => ?_)
  try simp only [decide_eq_true_eq, decide_eq_false_iff_not, Bool.not_eq_true', Bool.not_eq_false', Bool.and_eq_true, Bool.or_eq_true, Bool.and_eq_false_iff, Bool.or_eq_false_iff, Int.not_lt, Int.not_le] at hc0
  have hyes : ((ldL (fun k => (x k).u) well nl).getD q (0, 0)).1 = leg := by omega
  refine TWi.seq fun Y6 hY6 => ?_
  refine TWi.region ?_
  refine TL.p Pu.mv ?_
  first | refine TL.st ty_sz3 ?_ | refine TL.se ty_sz3 ?_
  refine TL.nil ?_
  refine TQ.thenN (hY6 _ _ ?_)
  refine TWi.ret ?_
  refine TQ.blkR ?_
  refine TQ.rbR (⟨q, hq, hyes⟩) rfl ?_
  simp only [ledM, List.cons_append, List.nil_append]
  exact KSub.cons pk9 (KSub.cons pk9 (KSub.cons pk9 (KSub.cons pk9 (KSub.cons pk9 KSub.nil))))
  try simp only [decide_eq_true_eq, decide_eq_false_iff_not, Bool.not_eq_true', Bool.not_eq_false', Bool.and_eq_true, Bool.or_eq_true, Bool.and_eq_false_iff, Bool.or_eq_false_iff, Int.not_lt, Int.not_le] at hc0
  have hno1 : notB (fun k => (x k).u) well nl leg (q + 1) = true := notB_iff.2 fun j hj => (Nat.lt_succ_iff_lt_or_eq.1 hj).elim (notB_iff.1 hno j) (fun e => by subst e; omega)
  refine TWi.skip ?_
  refine TQ.blkN ?_
  refine TQ.rbN (()) ?_
  simp only [if_pos hno1, ledM, List.cons_append, List.nil_append]
  exact KSub.cons pk9 (KSub.cons pk9 (KSub.cons pk9 (KSub.cons pk9 (KSub.cons pk9 (KSub.cons pk9 KSub.nil)))))
  rintro DR r
  by_cases hno : notB (fun k => (x k).u) well nl leg (ldL (fun k => (x k).u) well nl).length = true
  case neg => exact fun a w hF hK => (no_badT hK (by rw [if_neg hno]; simp)).elim
  simp only [if_pos hno, List.nil_append]
  have he := end_none (notB_iff.1 hno)
  refine TQ.blkN ?_
  refine TQ.thenN (hY2 _ _ _ ?_)
  refine TW.seqD fun Y7 hY7 => ?_
  refine TW.region ?_
  first | refine TL.st ty_sz3 ?_ | refine TL.se ty_sz3 ?_
  refine TL.nil ?_
  refine TQ.thenN (hY7 _ _ _ ?_)
  refine TW.ret ?_
  refine TQ.retM Tryz.results99 pk9 ((RV.c1 ty_sc3 .nil)) ?_
  exact fun w hw => ⟨by rw [he]; rfl, Chg.ext hw.chg⟩
  rintro DR ⟨u, hu1, hu2⟩
  have he := end_hit hu1 hu2
  refine TW.ret ?_
  refine TQ.blkR ?_
  refine TQ.thenR ?_
  refine TQ.retM Tryz.results99 pk9 ((RV.c1 ty_sc3 .nil)) ?_
  exact fun w hw => ⟨by rw [he]; rfl, Chg.ext hw.chg⟩
end
section
variable {W A : Option Addr} {nw cw nl cl : Nat} {f : Nat → Nat → Int} {x : Nat → Leg} {g : Nat → Nat → Nat → Int} {p0 p1 : Int} {w : World}
set_option maxRecDepth 100000 in
theorem cOpen_ok (h : LandIn w W nw A nl f x g) (hk : askC nw nl f x g p0 p1 = 0) :
    Calls Tryz.prog 85 #[.agg (landL W nw cw A nl cl).toArray, .agg #[.int .i64 p0, .int .i64 p1]] w (Ret w (.tuple #[.agg (carL W nw cw A nl cl p0 p1).toArray, .int .i64 0])) := by
  have h1 : landOk nw nl f x g = true := by
    unfold askC at hk
    split at hk
    assumption
    cases hk
  have h2 : ordB5 1 100000 p0 p1 = true := by
    unfold askC at hk
    rw [if_pos h1] at hk
    split at hk
    assumption
    cases hk
  clear hk
  unfold landL carL
  refine K_enter (S := []) (K := []) Tryz.func85 rfl Tryz.ntmps85 rfl (Sat.start _) ?_
  refine TW.seq fun Y1 hY1 => ?_
  refine TW.region ?_
  refine TL.m Mk.bx ?_
  intro b1
  refine TL.m Mk.bx ?_
  intro b2
  refine TL.m (Mk.al ty_zr164) ?_
  intro b3
  refine TL.p Pu.as ?_
  refine TL.nil ?_
  refine TQ.thenN (hY1 _ _ ?_)
  refine TW.seq fun Y2 hY2 => ?_
  refine TW.seq fun Y3 hY3 => ?_
  refine TW.region ?_
  refine TL.p (Pu.lds ty_ag25) ?_
  refine TL.cr rfl (enters Tryz.func74 rfl rfl) (fun w hw => by
      have h9 := wayCheck_any (cw := cw) (cl := cl) (h.ext (Chg.ext hw.chg))
      rw [if_pos h1] at h9
      exact h9) ?_
  refine TL.p Pu.as ?_
  refine TL.nil ?_
  refine TQ.thenN (hY3 _ _ ?_)
  refine TW.seq fun Y4 hY4 => ?_
  refine TW.region ?_
  refine TL.p Pu.mv ?_
  refine TL.p Pu.ne ?_
  refine TL.nil ?_
  refine TQ.thenN (hY4 _ _ ?_)
  refine TW.condF rfl (rfl) ?_
  refine TW.skip ?_
  refine TQ.thenN (hY2 _ _ ?_)
  refine TW.seq fun Y5 hY5 => ?_
  refine TW.seq fun Y6 hY6 => ?_
  refine TW.region ?_
  refine TL.p (Pu.lds ty_ag35) ?_
  refine TL.m Mk.bl ?_
  intro b4
  refine TL.cr rfl (enters Tryz.func127 rfl rfl) (fun w hw => by
      have h9 := orderedOne_any 1 100000 p0 p1 (hw.holds _ (List.mem_cons_self ..))
      rw [h2] at h9
      exact h9) ?_
  refine TL.p Pu.no ?_
  refine TL.nil ?_
  refine TQ.thenN (hY6 _ _ ?_)
  refine TW.condF rfl (rfl) ?_
  refine TW.skip ?_
  refine TQ.thenN (hY5 _ _ ?_)
  refine TW.seq fun Y7 hY7 => ?_
  refine TW.region ?_
  refine TL.p (Pu.lds ty_ag25) ?_
  refine TL.p (Pu.lds ty_ag35) ?_
  refine TL.p Pu.bd ?_
  first | refine TL.st ty_sz164 ?_ | refine TL.se ty_sz164 ?_
  refine TL.p Pu.as ?_
  refine TL.nil ?_
  refine TQ.thenN (hY7 _ _ ?_)
  refine TW.ret ?_
  refine TQ.ret Tryz.results85 rfl ((RV.cs ty_ag164 (.tmp rfl .nil))) ?_
  exact fun w hw => ⟨rfl, Chg.ext hw.chg⟩
theorem cOpen_bad (h : LandIn w W nw A nl f x g) (hk : askC nw nl f x g p0 p1 ≠ 0) :
    Calls Tryz.prog 85 #[.agg (landL W nw cw A nl cl).toArray, .agg #[.int .i64 p0, .int .i64 p1]] w (Ret w (.tuple #[.agg #[.slice none 0 0, .slice none 0 0, .int .i64 0, .int .i64 0], .int .i64 (askC nw nl f x g p0 p1)])) := by
  unfold landL
  refine K_enter (S := []) (K := []) Tryz.func85 rfl Tryz.ntmps85 rfl (Sat.start _) ?_
  refine TW.seq fun Y1 hY1 => ?_
  refine TW.region ?_
  refine TL.m Mk.bx ?_
  intro b1
  refine TL.m Mk.bx ?_
  intro b2
  refine TL.m (Mk.al ty_zr164) ?_
  intro b3
  refine TL.p Pu.as ?_
  refine TL.nil ?_
  refine TQ.thenN (hY1 _ _ ?_)
  refine TW.seq fun Y2 hY2 => ?_
  refine TW.seq fun Y3 hY3 => ?_
  refine TW.region ?_
  refine TL.p (Pu.lds ty_ag25) ?_
  refine TL.cr rfl (enters Tryz.func74 rfl rfl) (fun w hw => by
      exact wayCheck_any (h.ext (Chg.ext hw.chg))) ?_
  refine TL.p Pu.as ?_
  refine TL.nil ?_
  refine TQ.thenN (hY3 _ _ ?_)
  refine TW.seq fun Y4 hY4 => ?_
  refine TW.region ?_
  refine TL.p Pu.mv ?_
  refine TL.p Pu.ne ?_
  refine TL.nil ?_
  refine TQ.thenN (hY4 _ _ ?_)
  refine TW.cond rfl (fun hc0 => ?_) (fun hc0 => ?_)
  try simp only [decide_eq_true_eq, decide_eq_false_iff_not, Bool.not_eq_true', Bool.not_eq_false', Bool.and_eq_true, Bool.or_eq_true, Bool.and_eq_false_iff, Bool.or_eq_false_iff, Int.not_lt, Int.not_le] at hc0
  have h1 : landOk nw nl f x g = false := by
    cases e : landOk nw nl f x g with
    | false => rfl
    | true => simp [e] at hc0
  refine TW.seq fun Y5 hY5 => ?_
  refine TW.region ?_
  refine TL.p Pu.bd ?_
  refine TL.p Pu.mv ?_
  first | refine TL.st ty_sz164 ?_ | refine TL.se ty_sz164 ?_
  refine TL.p Pu.as ?_
  refine TL.nil ?_
  refine TQ.thenN (hY5 _ _ ?_)
  refine TW.ret ?_
  refine TQ.thenR ?_
  refine TQ.ret Tryz.results85 rfl ((RV.cs ty_ag164 (.tmp rfl .nil))) ?_
  exact fun w hw => ⟨by unfold askC; rw [h1]; rfl, Chg.ext hw.chg⟩
  try simp only [decide_eq_true_eq, decide_eq_false_iff_not, Bool.not_eq_true', Bool.not_eq_false', Bool.and_eq_true, Bool.or_eq_true, Bool.and_eq_false_iff, Bool.or_eq_false_iff, Int.not_lt, Int.not_le] at hc0
  have h1 : landOk nw nl f x g = true := by
    cases e : landOk nw nl f x g with
    | true => rfl
    | false => simp [e] at hc0
  refine TW.skip ?_
  refine TQ.thenN (hY2 _ _ ?_)
  refine TW.seq fun Y6 hY6 => ?_
  refine TW.seq fun Y7 hY7 => ?_
  refine TW.region ?_
  refine TL.p (Pu.lds ty_ag35) ?_
  refine TL.m Mk.bl ?_
  intro b4
  refine TL.cr rfl (enters Tryz.func127 rfl rfl) (fun w hw => by
      exact orderedOne_any _ _ _ _ (hw.holds _ (List.mem_cons_self ..))) ?_
  refine TL.p Pu.no ?_
  refine TL.nil ?_
  refine TQ.thenN (hY7 _ _ ?_)
  refine TW.cond rfl (fun hc1 => ?_) (fun hc1 => ?_)
  try simp only [decide_eq_true_eq, decide_eq_false_iff_not, Bool.not_eq_true', Bool.not_eq_false', Bool.and_eq_true, Bool.or_eq_true, Bool.and_eq_false_iff, Bool.or_eq_false_iff, Int.not_lt, Int.not_le] at hc1
  have h2 : ordB5 1 100000 p0 p1 = false := by simpa using hc1
  refine TW.seq fun Y8 hY8 => ?_
  refine TW.region ?_
  refine TL.p Pu.bd ?_
  first | refine TL.st ty_sz164 ?_ | refine TL.se ty_sz164 ?_
  refine TL.p Pu.as ?_
  refine TL.nil ?_
  refine TQ.thenN (hY8 _ _ ?_)
  refine TW.ret ?_
  refine TQ.thenR ?_
  refine TQ.ret Tryz.results85 rfl ((RV.cs ty_ag164 (.tmp rfl .nil))) ?_
  exact fun w hw => ⟨by unfold askC; rw [h1, h2]; rfl, Chg.ext hw.chg⟩
  try simp only [decide_eq_true_eq, decide_eq_false_iff_not, Bool.not_eq_true', Bool.not_eq_false', Bool.and_eq_true, Bool.or_eq_true, Bool.and_eq_false_iff, Bool.or_eq_false_iff, Int.not_lt, Int.not_le] at hc1
  have h2 : ordB5 1 100000 p0 p1 = true := by simpa using hc1
  exact absurd (by unfold askC; rw [if_pos h1, if_pos h2]) hk
end
end Go.Proofs.YtmonkjnfjgidbaaGreatDoor
namespace Go.Proofs.YtmonkjnfjgidbaaGreatDoor
set_option linter.all false
set_option linter.unusedVariables false
set_option linter.unusedSimpArgs false
open Go.RowKit
section
variable {Y : Wy} {W A L : Option Addr} {cw cl cn : Nat} {w : World}
theorem cEndY_any (h : LandIn w W Y.nw A Y.nl Y.f Y.x Y.g) (k : Nat) :
    Calls Tryz.prog 99 #[.agg (carL W Y.nw cw A Y.nl cl Y.p0 Y.p1).toArray, .int .i64 (Y.ls k), .int .i64 (wlY Y k)] w (Ret w (.int .i64 (wlY Y (k + 1)))) := cEnd_any _ _ h.hA h.hnl
theorem cLeaveY_any (ho : WyOk Y) (h : LandIn w W Y.nw A Y.nl Y.f Y.x Y.g) (k : Nat) (hk : 0 ≤ Y.ls k ∧ Y.ls k < Y.nl) (hs : 0 ≤ atBY Y k ∧ atBY Y k ≤ atSY Y k ∧ atSY Y k ≤ 100001) :
    Calls Tryz.prog 100 #[.agg (carL W Y.nw cw A Y.nl cl Y.p0 Y.p1).toArray, .int .i64 (Y.ls k), .agg #[.int .i64 (atBY Y k), .int .i64 (atSY Y k)]] w (Ret w (.agg #[.int .i64 (lvBY Y k), .int .i64 (lvSY Y k)])) := by
  have := cLeave_any (cw := cw) (cl := cl) (Y.ls k).toNat (atBY Y k) (atSY Y k) (by omega) h ho.h0 ho.h1 ho.h2 (ho.leg _ (by omega)) (by omega) (by omega)
  rw [Int.toNat_of_nonneg hk.1] at this
  exact this
theorem cArriveY_any (ho : WyOk Y) (h : LandIn w W Y.nw A Y.nl Y.f Y.x Y.g) (k : Nat) (hk : 0 ≤ Y.ls k ∧ Y.ls k < Y.nl) (hs : 0 ≤ atBY Y k ∧ atBY Y k ≤ atSY Y k ∧ atSY Y k ≤ 100001) :
    Calls Tryz.prog 90 #[.agg (carL W Y.nw cw A Y.nl cl Y.p0 Y.p1).toArray, .int .i64 (Y.ls k), .agg #[.int .i64 (atBY Y k), .int .i64 (atSY Y k)]] w (Ret w (.agg #[.int .i64 (atBY Y (k + 1)), .int .i64 (atSY Y (k + 1))])) := by
  have := cArrive_any (cw := cw) (cl := cl) (Y.ls k).toNat (atBY Y k) (atSY Y k) (by omega) h ho.h0 ho.h1 ho.h2 (ho.leg _ (by omega)) (by omega) (by omega)
  rw [Int.toNat_of_nonneg hk.1] at this
  exact this
set_option maxRecDepth 100000 in
set_option maxHeartbeats 4000000 in
theorem cWalk_any (h : LandIn w W Y.nw A Y.nl Y.f Y.x Y.g) (hn : Y.n ≤ 1000) (hR : RdR w 1 L Y.n (fun k => [.int .i64 (Y.ls k)])) :
    CallsK Tryz.prog 63 #[.agg (landL W Y.nw cw A Y.nl cl).toArray, .int .i64 Y.start, .int .i64 Y.day, .agg #[.int .i64 Y.p0, .int .i64 Y.p1], .slice L Y.n cn] [] w ((Option Addr × Nat) × Int) (wkR Y) (wkL Y) := by
  have hnw := h.hnw
  have hnl := h.hnl
  by_cases hok : okY Y = 0
  case neg =>
    unfold landL
    refine K_enter (S := []) (K := []) Tryz.func63 rfl Tryz.ntmps63 rfl (Sat.start _) ?_
    refine TW.seq fun Y1 hY1 => ?_
    refine TW.region ?_
    refine TL.m Mk.bx ?_
    intro b1
    refine TL.m Mk.bx ?_
    intro b2
    refine TL.p Pu.as ?_
    refine TL.p Pu.as ?_
    refine TL.p Pu.as ?_
    refine TL.nil ?_
    refine TQ.thenN (hY1 _ _ ?_)
    refine TW.seq fun Y2 hY2 => ?_
    refine TW.region ?_
    refine TL.p (Pu.lds ty_ag25) ?_
    refine TL.p (Pu.lds ty_ag35) ?_
    refine TL.cr rfl (enters Tryz.func85 rfl rfl) (fun w hw => by
        exact cOpen_bad (h.ext (Chg.ext hw.chg)) hok) ?_
    refine TL.p Pu.mv ?_
    refine TL.p Pu.ex ?_
    refine TL.p Pu.ex ?_
    refine TL.m (Mk.al ty_zr164) ?_
    intro b3
    first | refine TL.st ty_sz164 ?_ | refine TL.se ty_sz164 ?_
    refine TL.p Pu.as ?_
    refine TL.nil ?_
    refine TQ.thenN (hY2 _ _ ?_)
    refine TW.seq fun Y3 hY3 => ?_
    refine TW.block ?_
    refine TW.seq fun Y4 hY4 => ?_
    refine TW.region ?_
    refine TL.p Pu.mv ?_
    refine TL.p Pu.ne ?_
    refine TL.p Pu.as ?_
    refine TL.nil ?_
    refine TQ.thenN (hY4 _ _ ?_)
    refine TW.condT rfl ((by show (!decide (okY Y = 0)) = true; simp [hok])) ?_
    refine TW.seq fun Y5 hY5 => ?_
    refine TW.region ?_
    refine TL.p Pu.mv ?_
    refine TL.p Pu.as ?_
    refine TL.p Pu.as ?_
    refine TL.p Pu.as ?_
    refine TL.nil ?_
    refine TQ.thenN (hY5 _ _ ?_)
    refine TW.ret ?_
    refine TQ.blkR ?_
    refine TQ.thenR ?_
    refine TQ.ret Tryz.results63 rfl ((.tmp rfl (.tmp rfl (.tmp rfl .nil)))) ?_
    exact fun w hw => wk_bad hw (wkC_ask hok) hok
  case pos =>
    have ho := wyOk_of hok
    unfold landL
    have fW := fun (w' : World) (h' : LandIn w' W Y.nw A Y.nl Y.f Y.x Y.g) (k : Nat) => cEndY_any (cw := cw) (cl := cl) h' k
    have fL := fun (w' : World) (h' : LandIn w' W Y.nw A Y.nl Y.f Y.x Y.g) (k : Nat) => cLeaveY_any (cw := cw) (cl := cl) ho h' k
    have fA := fun (w' : World) (h' : LandIn w' W Y.nw A Y.nl Y.f Y.x Y.g) (k : Nat) => cArriveY_any (cw := cw) (cl := cl) ho h' k
    unfold carL at fW fL fA
    refine K_enter (S := []) (K := []) Tryz.func63 rfl Tryz.ntmps63 rfl (Sat.start _) ?_
    refine TW.seq fun Y1 hY1 => ?_
    refine TW.region ?_
    refine TL.m Mk.bx ?_
    intro b1
    refine TL.m Mk.bx ?_
    intro b2
    refine TL.p Pu.as ?_
    refine TL.p Pu.as ?_
    refine TL.p Pu.as ?_
    refine TL.nil ?_
    refine TQ.thenN (hY1 _ _ ?_)
    refine TW.seq fun Y2 hY2 => ?_
    refine TW.region ?_
    refine TL.p (Pu.lds ty_ag25) ?_
    refine TL.p (Pu.lds ty_ag35) ?_
    refine TL.cr rfl (enters Tryz.func85 rfl rfl) (fun w hw => by
        exact cOpen_ok (h.ext (Chg.ext hw.chg)) hok) ?_
    refine TL.p Pu.mv ?_
    refine TL.p Pu.ex ?_
    refine TL.p Pu.ex ?_
    refine TL.m (Mk.al ty_zr164) ?_
    intro b3
    first | refine TL.st ty_sz164 ?_ | refine TL.se ty_sz164 ?_
    refine TL.p Pu.as ?_
    refine TL.nil ?_
    refine TQ.thenN (hY2 _ _ ?_)
    refine TW.seq fun Y3 hY3 => ?_
    refine TW.block ?_
    refine TW.seq fun Y4 hY4 => ?_
    refine TW.region ?_
    refine TL.p Pu.mv ?_
    refine TL.p Pu.ne ?_
    refine TL.p Pu.as ?_
    refine TL.nil ?_
    refine TQ.thenN (hY4 _ _ ?_)
    refine TW.condF rfl ((by simp)) ?_
    refine TW.seq fun Y5 hY5 => ?_
    refine TW.join [(32, .bool (!begY Y))] ?_ (fun hJ1 => ?_)
    refine TQ.thenN (hY5 _ _ ?_)
    refine TW.cond rfl (fun hc1 => ?_) (fun hc1 => ?_)
    try simp only [decide_eq_true_eq, decide_eq_false_iff_not, Bool.not_eq_true', Bool.not_eq_false', Bool.and_eq_true, Bool.or_eq_true, Bool.and_eq_false_iff, Bool.or_eq_false_iff, Int.not_lt, Int.not_le] at hc1
    have hb : begY Y = false := by simpa using hc1
    refine TW.seq fun Y6 hY6 => ?_
    refine TW.region ?_
    refine TL.p Pu.as ?_
    refine TL.p Pu.as ?_
    refine TL.p Pu.as ?_
    refine TL.nil ?_
    refine TQ.thenN (hY6 _ _ ?_)
    refine TW.ret ?_
    refine TQ.blkR ?_
    refine TQ.thenR ?_
    refine TQ.ret Tryz.results63 rfl ((.tmp rfl (.tmp rfl (.tmp rfl .nil)))) ?_
    exact fun w hw => wk_bad hw (wkC_beg hok hb) (by omega)
    try simp only [decide_eq_true_eq, decide_eq_false_iff_not, Bool.not_eq_true', Bool.not_eq_false', Bool.and_eq_true, Bool.or_eq_true, Bool.and_eq_false_iff, Bool.or_eq_false_iff, Int.not_lt, Int.not_le] at hc1
    have hb : begY Y = true := by simpa using hc1
    refine TW.seq fun Y7 hY7 => ?_
    refine TW.region ?_
    refine TL.p Pu.mv ?_
    refine TL.p (Pu.ln Tryz.underlying31) ?_
    refine TL.p Pu.gt ?_
    refine TL.p Pu.as ?_
    refine TL.nil ?_
    refine TQ.thenN (hY7 _ _ ?_)
    refine TW.cond rfl (fun hc2 => ?_) (fun hc2 => ?_)
    try simp only [decide_eq_true_eq, decide_eq_false_iff_not, Bool.not_eq_true', Bool.not_eq_false', Bool.and_eq_true, Bool.or_eq_true, Bool.and_eq_false_iff, Bool.or_eq_false_iff, Int.not_lt, Int.not_le] at hc2
    have h24 : 24 < Y.n := by omega
    refine TW.seq fun Y8 hY8 => ?_
    refine TW.region ?_
    refine TL.p Pu.as ?_
    refine TL.p Pu.as ?_
    refine TL.p Pu.as ?_
    refine TL.nil ?_
    refine TQ.thenN (hY8 _ _ ?_)
    refine TW.ret ?_
    refine TQ.blkR ?_
    refine TQ.thenR ?_
    refine TQ.ret Tryz.results63 rfl ((.tmp rfl (.tmp rfl (.tmp rfl .nil)))) ?_
    exact fun w hw => wk_bad hw (wkC_many hok hb h24) (by omega)
    try simp only [decide_eq_true_eq, decide_eq_false_iff_not, Bool.not_eq_true', Bool.not_eq_false', Bool.and_eq_true, Bool.or_eq_true, Bool.and_eq_false_iff, Bool.or_eq_false_iff, Int.not_lt, Int.not_le] at hc2
    have h24 : ¬ 24 < Y.n := by omega
    refine TW.skip ?_
    refine TQ.blkN ?_
    refine TQ.thenN (hY3 _ _ ?_)
    refine TW.seq fun Y9 hY9 => ?_
    refine TW.region ?_
    refine TL.p Pu.as ?_
    refine TL.nil ?_
    refine TQ.thenN (hY9 _ _ ?_)
    refine TW.seq fun Y10 hY10 => ?_
    refine TW.region ?_
    refine TL.p Pu.mv ?_
    refine TL.p Pu.as ?_
    refine TL.nil ?_
    refine TQ.thenN (hY10 _ _ ?_)
    refine TW.seq fun Y11 hY11 => ?_
    refine TW.seq fun Y12 hY12 => ?_
    refine TW.region ?_
    refine TL.p Pu.mv ?_
    refine TL.p (Pu.ln Tryz.underlying31) ?_
    refine TL.p Pu.mv ?_
    refine TL.nil ?_
    refine TQ.thenN (hY12 _ _ ?_)
    refine TW.block ?_
    refine TW.loop3 (fun (k : Nat) (E : Option Addr) (ce : Nat) => [(54, .int .i64 (k : Int)), (53, .int .i64 (Y.n : Int)), (52, .slice L Y.n cn), (15, .int .i64 (wlY Y k)), (14, .slice E k ce), (13, .pointer (some ⟨b3, 0, none⟩)), (10, .slice none 0 0), (2, .int .i64 Y.day), (4, .slice L Y.n cn)]) (fun k E ce => [.own E k ce 3 1 (rowV fun j => wlY Y (j + 1)), .blk b3 164 [.slice W Y.nw cw, .slice A Y.nl cl, .int .i64 Y.p0, .int .i64 Y.p1]]) (fun k E ce => k ≤ Y.n ∧ ∀ j, j < k → 0 ≤ wlY Y (j + 1)) (fun k E ce => Y.n - k) 0 none 0 fs9 ?_ ?_ ?_
    exact KSub.nilOwn ks9
    exact ⟨Nat.zero_le _, fun j hj => by omega⟩
    rintro k E ce ⟨hk, hall⟩ Z0 hZ0
    refine TW.seq fun Y13 hY13 => ?_
    refine TW.region ?_
    refine TL.p Pu.lt ?_
    refine TL.nil ?_
    refine TQ.thenN (hY13 _ _ ?_)
    refine TW.seq fun Y14 hY14 => ?_
    refine TW.cond rfl (fun hc3 => ?_) (fun hc3 => ?_)
    try simp only [decide_eq_true_eq, decide_eq_false_iff_not, Bool.not_eq_true', Bool.not_eq_false', Bool.and_eq_true, Bool.or_eq_true, Bool.and_eq_false_iff, Bool.or_eq_false_iff, Int.not_lt, Int.not_le] at hc3
    have hkn : k < Y.n := by omega
    refine TW.skip ?_
    refine TQ.thenN (hY14 _ _ ?_)
    refine TW.seq fun Y15 hY15 => ?_
    refine TW.block ?_
    refine TW.seq fun Y16 hY16 => ?_
    refine TW.region ?_
    refine TL.p Pu.mv ?_
    refine TL.p (Pu.el ty_et31) ?_
    refine TL.p (Pu.ld ty_sc3) ?_
    refine TL.p Pu.as ?_
    refine TL.p Pu.as ?_
    refine TL.nil ?_
    refine TQ.thenN (hY16 _ _ ?_)
    refine TW.seq fun Y17 hY17 => ?_
    refine TW.seq fun Y18 hY18 => ?_
    refine TW.region ?_
    refine TL.p (Pu.lds ty_ag164) ?_
    refine TL.p Pu.mv ?_
    refine TL.p Pu.mv ?_
    refine TL.cr rfl (enters Tryz.func99 rfl rfl) (fun w hw => by
        exact fW _ (h.ext (Chg.ext hw.chg)) k) ?_
    refine TL.p Pu.as ?_
    refine TL.nil ?_
    refine TQ.thenN (hY18 _ _ ?_)
    refine TW.seq fun Y19 hY19 => ?_
    refine TW.region ?_
    refine TL.p Pu.mv ?_
    refine TL.p Pu.lt ?_
    refine TL.nil ?_
    refine TQ.thenN (hY19 _ _ ?_)
    refine TW.cond rfl (fun hc4 => ?_) (fun hc4 => ?_)
    try simp only [decide_eq_true_eq, decide_eq_false_iff_not, Bool.not_eq_true', Bool.not_eq_false', Bool.and_eq_true, Bool.or_eq_true, Bool.and_eq_false_iff, Bool.or_eq_false_iff, Int.not_lt, Int.not_le] at hc4
    have hl9 : wlY Y (k + 1) < 0 := by omega
    refine TW.seq fun Y20 hY20 => ?_
    refine TW.region ?_
    refine TL.p Pu.mv ?_
    refine TL.p Pu.as ?_
    refine TL.p Pu.as ?_
    refine TL.p Pu.as ?_
    refine TL.nil ?_
    refine TQ.thenN (hY20 _ _ ?_)
    refine TW.ret ?_
    refine TQ.thenR ?_
    refine TQ.blkR ?_
    refine TQ.thenR ?_
    refine TQ.thenR ?_
    refine TQ.blkR ?_
    refine TQ.thenR ?_
    refine TQ.ret Tryz.results63 rfl ((.tmp rfl (.tmp rfl (.tmp rfl .nil)))) ?_
    exact fun w hw => wk_bad hw (wkC_lost hok hb h24 (lost_yes hkn hl9)) (by omega)
    try simp only [decide_eq_true_eq, decide_eq_false_iff_not, Bool.not_eq_true', Bool.not_eq_false', Bool.and_eq_true, Bool.or_eq_true, Bool.and_eq_false_iff, Bool.or_eq_false_iff, Int.not_lt, Int.not_le] at hc4
    have hl9 : 0 ≤ wlY Y (k + 1) := by omega
    refine TW.skip ?_
    refine TQ.thenN (hY17 _ _ ?_)
    refine TW.region ?_
    refine TL.p Pu.mv ?_
    refine TL.p Pu.mv ?_
    refine TL.m Mk.bl ?_
    intro b4
    first | refine TL.a0 ty_et31 ?_ | refine TL.ap ty_et31 ?_
    intro A5 c5
    refine TL.p Pu.as ?_
    refine TL.nil ?_
    refine TQ.blkN ?_
    refine TQ.thenN (hY15 _ _ ?_)
    refine TW.region ?_
    refine TL.p Pu.ad ?_
    refine TL.p Pu.mv ?_
    refine TL.nil ?_
    refine TQ.thenN (hZ0 (k + 1) _ _ _ _ ?_ ?_ fs9 ?_)
    exact ⟨by omega, fun j hj => (Nat.lt_succ_iff_lt_or_eq.1 hj).elim (hall j) (fun e => e ▸ hl9)⟩
    exact (by first | omega | (simp only []; omega) | (simp; omega))
    exact KSub.own pk9 (stp_row (r := rowV fun j => wlY Y (j + 1)) rfl) ks9
    try simp only [decide_eq_true_eq, decide_eq_false_iff_not, Bool.not_eq_true', Bool.not_eq_false', Bool.and_eq_true, Bool.or_eq_true, Bool.and_eq_false_iff, Bool.or_eq_false_iff, Int.not_lt, Int.not_le] at hc3
    obtain rfl : k = Y.n := by omega
    have hlost := lost_no hall
    refine TW.exit ?_
    refine TQ.thenX ?_
    refine TQ.thenX ?_
    refine TQ.blkX ?_
    refine TQ.thenN (hY11 _ _ ?_)
    refine TW.seq fun Y21 hY21 => ?_
    refine TW.region ?_
    refine TL.p Pu.mv ?_
    refine TL.p Pu.mv ?_
    refine TL.p Pu.bd ?_
    refine TL.m (Mk.al ty_zr176) ?_
    intro b6
    first | refine TL.st ty_sz176 ?_ | refine TL.se ty_sz176 ?_
    refine TL.nil ?_
    refine TQ.thenN (hY21 _ _ ?_)
    refine TW.seq fun Y22 hY22 => ?_
    refine TW.seq fun Y23 hY23 => ?_
    refine TW.region ?_
    refine TL.p Pu.mv ?_
    refine TL.p (Pu.ln Tryz.underlying31) ?_
    refine TL.p Pu.mv ?_
    refine TL.nil ?_
    refine TQ.thenN (hY23 _ _ ?_)
    refine TW.block ?_
    refine TW.loop3 (fun (k : Nat) (E2 : Option Addr) (ce2 : Nat) => [(76, .int .i64 (k : Int)), (75, .int .i64 (Y.n : Int)), (74, .slice L Y.n cn), (10, .slice E2 k ce2), (14, .slice E Y.n ce), (13, .pointer (some ⟨b3, 0, none⟩)), (18, .pointer (some ⟨b6, 0, none⟩))]) (fun k E2 ce2 => [.own E2 k ce2 62 6 (fun k => stopL (stY Y k)), .own E Y.n ce 3 1 (rowV fun j => wlY Y (j + 1)), .blk b6 176 [.int .i64 (atBY Y k), .int .i64 (atSY Y k)], .blk b3 164 [.slice W Y.nw cw, .slice A Y.nl cl, .int .i64 Y.p0, .int .i64 Y.p1]]) (fun k E2 ce2 => k ≤ Y.n ∧ ∀ j, j < k → atSY Y (j + 1) ≤ 100000) (fun k E2 ce2 => Y.n - k) 0 none 0 fs9 ?_ ?_ ?_
    exact KSub.nilOwn ks9
    exact ⟨Nat.zero_le _, fun j hj => by omega⟩
    rintro k E2 ce2 ⟨hk, hall2⟩ Z1 hZ1
    refine TW.seq fun Y24 hY24 => ?_
    refine TW.region ?_
    refine TL.p Pu.lt ?_
    refine TL.nil ?_
    refine TQ.thenN (hY24 _ _ ?_)
    refine TW.seq fun Y25 hY25 => ?_
    refine TW.cond rfl (fun hc5 => ?_) (fun hc5 => ?_)
    try simp only [decide_eq_true_eq, decide_eq_false_iff_not, Bool.not_eq_true', Bool.not_eq_false', Bool.and_eq_true, Bool.or_eq_true, Bool.and_eq_false_iff, Bool.or_eq_false_iff, Int.not_lt, Int.not_le] at hc5
    have hkn : k < Y.n := by omega
    have hin := ls_ok (hall k hkn)
    have hat := at_ok ho hb hall (k := k) (by omega)
    have hat1 := at_ok ho hb hall (k := k + 1) (by omega)
    refine TW.skip ?_
    refine TQ.thenN (hY25 _ _ ?_)
    refine TW.seq fun Y26 hY26 => ?_
    refine TW.block ?_
    refine TW.seq fun Y27 hY27 => ?_
    refine TW.region ?_
    refine TL.p Pu.mv ?_
    refine TL.p (Pu.el ty_et31) ?_
    refine TL.p (Pu.ld ty_sc3) ?_
    refine TL.p Pu.as ?_
    refine TL.p Pu.as ?_
    refine TL.nil ?_
    refine TQ.thenN (hY27 _ _ ?_)
    refine TW.seq fun Y28 hY28 => ?_
    refine TW.region ?_
    refine TL.p (Pu.lds ty_ag164) ?_
    refine TL.p Pu.mv ?_
    refine TL.p (Pu.lds ty_ag176) ?_
    refine TL.cr rfl (enters Tryz.func100 rfl rfl) (fun w hw => by
        exact fL _ (h.ext (Chg.ext hw.chg)) k hin hat) ?_
    refine TL.m (Mk.al ty_zr176) ?_
    intro b7
    first | refine TL.st ty_sz176 ?_ | refine TL.se ty_sz176 ?_
    refine TL.nil ?_
    refine TQ.thenN (hY28 _ _ ?_)
    refine TW.seq fun Y29 hY29 => ?_
    refine TW.seq fun Y30 hY30 => ?_
    refine TW.region ?_
    refine TL.p (Pu.lds ty_ag164) ?_
    refine TL.p Pu.mv ?_
    refine TL.p (Pu.lds ty_ag176) ?_
    refine TL.cr rfl (enters Tryz.func90 rfl rfl) (fun w hw => by
        exact fA _ (h.ext (Chg.ext hw.chg)) k hin hat) ?_
    first | refine TL.st ty_sz176 ?_ | refine TL.se ty_sz176 ?_
    refine TL.nil ?_
    refine TQ.thenN (hY30 _ _ ?_)
    refine TW.seq fun Y31 hY31 => ?_
    refine TW.region ?_
    refine TL.obn (b := b6) (n := 2) (sz := 1) (r := rowV (two (atBY Y (k + 1)) (atSY Y (k + 1)))) pk9 rfl (fun _ _ => rfl) ?_
    refine TL.p (Pu.ea (q := 1) ty_ar176 (hk := rfl)) ?_
    refine TL.p (Pu.ld ty_sc3) ?_
    refine TL.bo (b := b6) (cs := [.int .i64 (atBY Y (k + 1)), .int .i64 (atSY Y (k + 1))]) pk9 rfl ?_
    refine TL.p Pu.gt ?_
    refine TL.nil ?_
    refine TQ.thenN (hY31 _ _ ?_)
    refine TW.cond rfl (fun hc6 => ?_) (fun hc6 => ?_)
    try simp only [decide_eq_true_eq, decide_eq_false_iff_not, Bool.not_eq_true', Bool.not_eq_false', Bool.and_eq_true, Bool.or_eq_true, Bool.and_eq_false_iff, Bool.or_eq_false_iff, Int.not_lt, Int.not_le] at hc6
    have h9 : 100000 < atSY Y (k + 1) := by simpa [two] using hc6
    refine TW.seq fun Y32 hY32 => ?_
    refine TW.region ?_
    refine TL.p Pu.mv ?_
    refine TL.p Pu.as ?_
    refine TL.p Pu.as ?_
    refine TL.p Pu.as ?_
    refine TL.nil ?_
    refine TQ.thenN (hY32 _ _ ?_)
    refine TW.ret ?_
    refine TQ.thenR ?_
    refine TQ.blkR ?_
    refine TQ.thenR ?_
    refine TQ.thenR ?_
    refine TQ.blkR ?_
    refine TQ.thenR ?_
    refine TQ.ret Tryz.results63 rfl ((.tmp rfl (.tmp rfl (.tmp rfl .nil)))) ?_
    exact fun w hw => wk_bad hw (wkC_late hok hb h24 (lost_no hall) (late_yes hkn h9)) (by omega)
    try simp only [decide_eq_true_eq, decide_eq_false_iff_not, Bool.not_eq_true', Bool.not_eq_false', Bool.and_eq_true, Bool.or_eq_true, Bool.and_eq_false_iff, Bool.or_eq_false_iff, Int.not_lt, Int.not_le] at hc6
    have h9 : atSY Y (k + 1) ≤ 100000 := by simpa [two] using hc6
    refine TW.skip ?_
    refine TQ.thenN (hY29 _ _ ?_)
    refine TW.dw 12 ?_
    refine RK.tk Pu.mv ?_
    refine RK.tk Pu.mv ?_
    refine RK.tk Pu.mv ?_
    refine RK.tk Pu.mv ?_
    refine RK.tk (Pu.el ty_et31) ?_
    refine RK.tk (Pu.ld ty_sc3) ?_
    refine RK.tk (Pu.lds ty_ag176) ?_
    refine RK.keep ?_
    refine RK.tk (Pu.lds ty_ag176) ?_
    refine RK.keep ?_
    refine RK.keep ?_
    refine RK.keep ?_
    refine RK.ch [false, false, true, false] ?_ trivial
    refine WK.cr rfl (enters Tryz.func101 rfl rfl) (fun w hw => by
        exact wSpan_any _ _ _) ?_
    refine WK.cr rfl (enters Tryz.func101 rfl rfl) (fun w hw => by
        exact wSpan_any _ _ _) ?_
    refine WK.p Pu.bd ?_
    refine WK.m Mk.bl ?_
    intro b8
    refine WK.n ?_
    first | refine TL.a0 ty_et58 ?_ | refine TL.ap ty_et58 ?_
    intro A9 c9
    refine TL.p Pu.as ?_
    refine TL.nil ?_
    refine TQ.blkN ?_
    refine TQ.thenN (hY26 _ _ ?_)
    refine TW.region ?_
    refine TL.p Pu.ad ?_
    refine TL.p Pu.mv ?_
    refine TL.nil ?_
    refine TQ.thenN (hZ1 (k + 1) _ _ _ _ ?_ ?_ fs9 ?_)
    exact ⟨by omega, fun j hj => (Nat.lt_succ_iff_lt_or_eq.1 hj).elim (hall2 j) (fun e => e ▸ h9)⟩
    exact (by first | omega | (simp only []; omega) | (simp; omega))
    exact KSub.own pk9 (stp_row (r := fun k => stopL (stY Y k)) rfl) ks9
    try simp only [decide_eq_true_eq, decide_eq_false_iff_not, Bool.not_eq_true', Bool.not_eq_false', Bool.and_eq_true, Bool.or_eq_true, Bool.and_eq_false_iff, Bool.or_eq_false_iff, Int.not_lt, Int.not_le] at hc5
    obtain rfl : k = Y.n := by omega
    have hlate := late_no hall2
    refine TW.exit ?_
    refine TQ.thenX ?_
    refine TQ.thenX ?_
    refine TQ.blkX ?_
    refine TQ.thenN (hY22 _ _ ?_)
    refine TW.seq fun Y33 hY33 => ?_
    refine TW.region ?_
    refine TL.p Pu.mv ?_
    refine TL.p Pu.as ?_
    refine TL.p Pu.as ?_
    refine TL.p Pu.as ?_
    refine TL.nil ?_
    refine TQ.thenN (hY33 _ _ ?_)
    refine TW.ret ?_
    refine TQ.ret Tryz.results63 rfl ((.tmp rfl (.tmp rfl (.tmp rfl .nil)))) ?_
    have hc9 := wkC_ok hok hb h24 hlost hlate
    have hn9 := wkN_n hc9
    exact fun w hw => ⟨((E2, ce2), 0), by unfold wkR; rw [hn9, hc9]; rfl, by unfold wkL; rw [hn9]; exact hw.sub (KSub.cons pk9 KSub.nil)⟩
    refine TW.region ?_
    refine TL.p (by first | exact Pu.fb ty_fa25_0 | exact Pu.fe ty_fa25_0) ?_
    refine TL.p (Pu.ld ty_sc22) ?_
    refine TL.p (Pu.ln Tryz.underlying22) ?_
    refine TL.p Pu.sb ?_
    refine TL.p Pu.mv ?_
    refine TL.m Mk.bl ?_
    intro b10
    refine TL.cr rfl (enters Tryz.func86 rfl rfl) (fun w hw => by
        exact fromOne_any _ _ _ (hw.holds _ (List.mem_cons_self ..))) ?_
    refine TL.p Pu.no ?_
    refine TL.p Pu.mv ?_
    refine TL.guard (t := 41) rfl (fun hg1 => ?_) (fun hg1 => ?_)
    refine TL.gs ?_
    refine TL.gs ?_
    refine TL.gs ?_
    refine TL.gs ?_
    refine TL.p Pu.kt ?_
    refine TL.p Pu.as ?_
    refine TL.nil ?_
    exact TQ.sub (by repeat (first | exact trivial | refine ⟨rfl, ?_⟩ | refine ⟨trivial, ?_⟩ | refine ⟨(by show some (Value.bool _) = some (Value.bool _); first | (simp [hg1, begY]; done) | (refine congrArg (fun z => some (Value.bool z)) (Bool.eq_iff_iff.2 ?_); simp [hg1, begY]; omega)), ?_⟩)) ks9 hJ1
    refine TL.gd Pu.mv ?_
    refine TL.gm Mk.bl ?_
    intro b11
    refine TL.cr rfl (enters Tryz.func86 rfl rfl) (fun w hw => by
        exact fromOne_any _ _ _ (hw.holds _ (List.mem_cons_self ..))) ?_
    refine TL.gd Pu.no ?_
    refine TL.p Pu.kf ?_
    refine TL.p Pu.as ?_
    refine TL.nil ?_
    exact TQ.sub (by repeat (first | exact trivial | refine ⟨rfl, ?_⟩ | refine ⟨trivial, ?_⟩ | refine ⟨(by show some (Value.bool _) = some (Value.bool _); first | (simp [hg1, begY]; done) | (refine congrArg (fun z => some (Value.bool z)) (Bool.eq_iff_iff.2 ?_); simp [hg1, begY]; omega)), ?_⟩)) ks9 hJ1
end
end Go.Proofs.YtmonkjnfjgidbaaGreatDoor
namespace Go.Proofs.YtmonkjnfjgidbaaGreatDoor
set_option linter.all false
set_option linter.unusedVariables false
set_option linter.unusedSimpArgs false
open Go.RowKit
theorem cmpL_snoc {x y : Int} : ∀ P : List Int, P.getLast? = some y → cmpL (P ++ [x]) = if x = y then cmpL P else cmpL P ++ [x]
  | [], h => by cases h
  | [a], h => by
    have e : a = y := by simpa using h
    subst e
    show cmpL [a, x] = _
    rw [cmpL_cons]
    by_cases hx : x = a
    · rw [if_pos hx, if_pos hx.symm, hx]
    · rw [if_neg hx, if_neg (fun e => hx e.symm)]
      rfl
  | a :: b :: m, h => by
    have ih := cmpL_snoc (x := x) (y := y) (b :: m) (by simpa using h)
    show cmpL (a :: b :: (m ++ [x])) = _
    rw [cmpL_cons, cmpL_cons]
    have e : b :: (m ++ [x]) = (b :: m) ++ [x] := rfl
    rw [e, ih]
    by_cases hx : x = y
    · rw [if_pos hx, if_pos hx]
    · rw [if_neg hx, if_neg hx]
      split <;> rfl
theorem take_last {L : List Int} {k : Nat} (h : k < L.length) : (L.take (k + 1)).getLast? = some (L.getD k 0) := by
  rw [take_succ h, List.getLast?_append]
  simp
theorem cmp_take {L : List Int} {m : Nat} (h0 : 1 ≤ m) (h : m < L.length) : cmpL (L.take (m + 1)) = if L.getD m 0 = L.getD (m - 1) 0 then cmpL (L.take m) else cmpL (L.take m) ++ [L.getD m 0] := by
  rw [take_succ h]
  refine cmpL_snoc _ ?_
  have := take_last (L := L) (k := m - 1) (by omega)
  rwa [show m - 1 + 1 = m by omega] at this
theorem cmp_all {L : List Int} : ∀ m, m ≤ L.length → (∀ j, 1 ≤ j → j < m → L.getD j 0 ≠ L.getD (j - 1) 0) → cmpL (L.take m) = L.take m
  | 0, _, _ => by simp [cmpL]
  | 1, h, _ => by
    cases L with
    | nil => rfl
    | cons a l => rfl
  | m + 2, h, hn => by
    rw [cmp_take (by omega) (by omega), if_neg (hn (m + 1) (by omega) (by omega)), cmp_all (m + 1) (by omega) fun j h1 h2 => hn j h1 (by omega), ← take_succ (by omega)]
section
variable {c : Cx} {F : Fr} {K K' : List Fact} {d : Option Tmp} {ty : TypeId} {pos : String} {af : Array Edge} {g : Option (Nat × Bool)}
theorem Pu.elT {T E : TypeId} {sz bytes : Nat} {x y : Operand} {A : Option Addr} {n cp k q m cm : Nat} {r : Nat → List Value} {kk : IntKind} {i : Int} (hT : ElemT c.P T E sz bytes) (hkn : k + q < n) (hx : ev F x = some (.slice (slA A cp sz k) m cm) := by rfl) (hy : ev F y = some (.int kk i) := by rfl) (hk : i.toNat = q := by first | exact Int.toNat_natCast _ | rfl) (h0 : 0 ≤ i := by omega) (h1 : i < m := by omega)
    (hp : Pick K (.own A n cp E sz r) K' := by repeat (first | exact Pick.hd | apply Pick.tl)) : Pu c F K ⟨d, .indexAddr T x y, ty, pos, af, g⟩ (.pointer (elA A (k + q) sz 0)) := fun a w hF hK => by
  have ho : OwnR w A n cp E sz r := hK.holds _ hp.mem
  obtain ⟨b, cp', e0, hnc, _⟩ := ho.own.form1 (by omega)
  cases e0
  have e : elA (slA (some ⟨b, 0, none⟩) cp sz k) q sz 0 = elA (some ⟨b, 0, none⟩) (k + q) sz 0 := by
    unfold slA
    rw [if_neg (by omega)]
    simp only [elA, Option.map_some, add_plain]
    congr 2
    rw [Nat.add_mul]; omega
  rw [← e]
  have hc : Cells c K (elA (slA (some ⟨b, 0, none⟩) cp sz k) q sz 0) [] := by
    rw [e]
    exact Cells.own hp hkn SubL.nil
  exact Pu.elem hT hx hy hk h0 h1 hc a w hF hK
end
set_option maxRecDepth 100000 in
set_option maxHeartbeats 1000000 in
theorem compact_any {w : World} {A : Option Addr} {n cp : Nat} {L : List Int} (hn : n = L.length) (h1 : n ≤ 1000000) (h : OwnR w A n cp 3 1 (iL L)) :
    CallsK Tryz.prog 167 #[.slice A n cp] [.own A n cp 3 1 (iL L)] w Unit (fun _ => .slice A (cmpL L).length cp) (fun _ => [.own A (cmpL L).length cp 3 1 (iL (cmpL L))]) := by
  subst hn
  have hcp : L.length ≤ cp := by
    obtain ⟨A', c', e, h2, _⟩ := h.own.form
    cases e
    exact h2
  refine K_enter (S := feet [.own A L.length cp 3 1 (iL L)]) (K := [.own A L.length cp 3 1 (iL L)]) Tryz.func167 rfl Tryz.ntmps167 rfl (Sat.own1 h) ?_
  refine TW.seq fun Y1 hY1 => ?_
  refine TW.region ?_
  refine TL.p Pu.as ?_
  refine TL.nil ?_
  refine TQ.thenN (hY1 _ _ ?_)
  refine TW.seq fun Y2 hY2 => ?_
  refine TW.seq fun Y3 hY3 => ?_
  refine TW.region ?_
  refine TL.p Pu.mv ?_
  refine TL.p (Pu.ln Tryz.underlying31) ?_
  refine TL.p Pu.lt ?_
  refine TL.nil ?_
  refine TQ.thenN (hY3 _ _ ?_)
  refine TW.cond rfl (fun hc0 => ?_) (fun hc0 => ?_)
  try simp only [decide_eq_true_eq, decide_eq_false_iff_not, Bool.not_eq_true', Bool.not_eq_false', Bool.and_eq_true, Bool.or_eq_true, Bool.and_eq_false_iff, Bool.or_eq_false_iff, Int.not_lt, Int.not_le] at hc0
  have hc9 : cmpL L = L := by
    match L, hc0 with
    | [], _ => rfl
    | [a], _ => rfl
    | a :: b :: m, h9 => simp only [List.length_cons] at h9; omega
  refine TW.seq fun Y4 hY4 => ?_
  refine TW.region ?_
  refine TL.p Pu.mv ?_
  refine TL.p Pu.as ?_
  refine TL.nil ?_
  refine TQ.thenN (hY4 _ _ ?_)
  refine TW.ret ?_
  refine TQ.thenR ?_
  refine TQ.ret Tryz.results167 rfl ((.tmp rfl .nil)) ?_
  exact fun w hw => ⟨(), by rw [hc9]; rfl, by rw [hc9]; exact hw.sub ks9⟩
  try simp only [decide_eq_true_eq, decide_eq_false_iff_not, Bool.not_eq_true', Bool.not_eq_false', Bool.and_eq_true, Bool.or_eq_true, Bool.and_eq_false_iff, Bool.or_eq_false_iff, Int.not_lt, Int.not_le] at hc0
  have h2 : 2 ≤ L.length := by omega
  refine TW.skip ?_
  refine TQ.thenN (hY2 _ _ ?_)
  refine TW.seq fun Y5 hY5 => ?_
  refine TW.seq fun Y6 hY6 => ?_
  refine TW.region ?_
  refine TL.p Pu.as ?_
  refine TL.nil ?_
  refine TQ.thenN (hY6 _ _ ?_)
  refine TW.block ?_
  refine TW.loop1 (fun (k : Nat) => [(3, .int .i64 (k : Int)), (0, .slice A L.length cp)]) (fun k => [.own A L.length cp 3 1 (iL L)]) (fun k => 1 ≤ k ∧ k ≤ L.length ∧ ∀ j, 1 ≤ j → j < k → L.getD j 0 ≠ L.getD (j - 1) 0) (fun k => L.length - k) 1 fs9 ?_ ?_ ?_
  exact ks9
  exact ⟨Nat.le_refl _, by omega, fun j h1 h2 => by omega⟩
  rintro k ⟨hk1, hk, hno⟩ Z0 hZ0
  refine TW.seq fun Y7 hY7 => ?_
  refine TW.seq fun Y8 hY8 => ?_
  refine TW.region ?_
  refine TL.p Pu.mv ?_
  refine TL.p Pu.mv ?_
  refine TL.p (Pu.ln Tryz.underlying31) ?_
  refine TL.p Pu.lt ?_
  refine TL.nil ?_
  refine TQ.thenN (hY8 _ _ ?_)
  refine TW.cond rfl (fun hc1 => ?_) (fun hc1 => ?_)
  try simp only [decide_eq_true_eq, decide_eq_false_iff_not, Bool.not_eq_true', Bool.not_eq_false', Bool.and_eq_true, Bool.or_eq_true, Bool.and_eq_false_iff, Bool.or_eq_false_iff, Int.not_lt, Int.not_le] at hc1
  have hkn : k < L.length := by omega
  refine TW.skip ?_
  refine TQ.thenN (hY7 _ _ ?_)
  refine TW.seq fun Y9 hY9 => ?_
  refine TW.block ?_
  refine TW.seq fun Y10 hY10 => ?_
  refine TW.dw 10 ?_
  refine RK.tk Pu.mv ?_
  refine RK.tk Pu.mv ?_
  refine RK.tk (Pu.el ty_et31) ?_
  refine RK.tk (Pu.ld ty_sc3) ?_
  refine RK.tk Pu.mv ?_
  refine RK.tk Pu.mv ?_
  refine RK.tk Pu.sb ?_
  refine RK.tk (Pu.el (q := k - 1) ty_et31 (hk := by omega)) ?_
  refine RK.tk (Pu.ld ty_sc3) ?_
  refine RK.tk Pu.eq ?_
  refine RK.ch [] ?_ trivial
  refine WK.n ?_
  refine TL.nil ?_
  refine TQ.thenN (hY10 _ _ ?_)
  refine TW.cond rfl (fun hc2 => ?_) (fun hc2 => ?_)
  try simp only [decide_eq_true_eq, decide_eq_false_iff_not, Bool.not_eq_true', Bool.not_eq_false', Bool.and_eq_true, Bool.or_eq_true, Bool.and_eq_false_iff, Bool.or_eq_false_iff, Int.not_lt, Int.not_le] at hc2
  have hdup : L.getD k 0 = L.getD (k - 1) 0 := by omega
  have hpre : cmpL (L.take (k + 1)) = L.take k := by rw [cmp_take hk1 hkn, if_pos hdup, cmp_all k hk hno]
  refine TW.seq fun Y11 hY11 => ?_
  refine TW.region ?_
  refine TL.p Pu.mv ?_
  refine TL.p Pu.mv ?_
  refine TL.p (Pu.sf ty_et31) ?_
  refine TL.p Pu.as ?_
  refine TL.nil ?_
  refine TQ.thenN (hY11 _ _ ?_)
  refine TW.seq fun Y12 hY12 => ?_
  refine TW.seq fun Y13 hY13 => ?_
  refine TW.region ?_
  refine TL.p Pu.as ?_
  refine TL.nil ?_
  refine TQ.thenN (hY13 _ _ ?_)
  refine TW.block ?_
  refine TW.loop3 (fun (j : Nat) (i : Nat) (u : Nat → Int) => [(5, .int .i64 (j : Int)), (3, .int .i64 (i : Int)), (4, .slice (slA A cp 1 k) (L.length - k) (cp - k)), (0, .slice A L.length cp)]) (fun j i u => [.own A L.length cp 3 1 (fun q => [.int .i64 (u q)])]) (fun j i u => 1 ≤ j ∧ k + j ≤ L.length ∧ i < k + j ∧ i = (cmpL (L.take (k + j))).length ∧ (∀ q, q < i → u q = (cmpL (L.take (k + j))).getD q 0) ∧ ∀ q, k + j ≤ q + 1 → q < L.length → u q = L.getD q 0) (fun j i u => L.length - j) 1 k (fun q => L.getD q 0) fs9 ?_ ?_ ?_
  exact ks9
  exact ⟨Nat.le_refl _, hkn, by omega, by rw [hpre, List.length_take]; omega, fun q hq => by rw [hpre]; simp [List.getD_eq_getElem?_getD, hq], fun q _ _ => rfl⟩
  rintro j i u ⟨hj1, hj, hij, hi, hu1, hu2⟩ Z1 hZ1
  refine TW.seq fun Y14 hY14 => ?_
  refine TW.seq fun Y15 hY15 => ?_
  refine TW.region ?_
  refine TL.p Pu.mv ?_
  refine TL.p Pu.mv ?_
  refine TL.p (Pu.ln Tryz.underlying31) ?_
  refine TL.p Pu.lt ?_
  refine TL.nil ?_
  refine TQ.thenN (hY15 _ _ ?_)
  refine TW.cond rfl (fun hc3 => ?_) (fun hc3 => ?_)
  try simp only [decide_eq_true_eq, decide_eq_false_iff_not, Bool.not_eq_true', Bool.not_eq_false', Bool.and_eq_true, Bool.or_eq_true, Bool.and_eq_false_iff, Bool.or_eq_false_iff, Int.not_lt, Int.not_le] at hc3
  have hjn : k + j < L.length := by omega
  have hft := cmp_take (L := L) (m := k + j) (by omega) hjn
  have ha := hu2 (k + j) (by omega) hjn
  have hb := hu2 (k + (j - 1)) (by omega) (by omega)
  rw [← ha, show k + j - 1 = k + (j - 1) by omega, ← hb] at hft
  replace ha := hidT ha
  replace hb := hidT hb
  refine TW.skip ?_
  refine TQ.thenN (hY14 _ _ ?_)
  refine TW.seq fun Y16 hY16 => ?_
  refine TW.block ?_
  refine TW.seq fun Y17 hY17 => ?_
  refine TW.dw 10 ?_
  refine RK.tk Pu.mv ?_
  refine RK.tk Pu.mv ?_
  refine RK.tk (Pu.elT (n := L.length) (k := k) (q := j) ty_et31 hjn) ?_
  refine RK.tk (Pu.ld ty_sc3) ?_
  refine RK.tk Pu.mv ?_
  refine RK.tk Pu.mv ?_
  refine RK.tk Pu.sb ?_
  refine RK.tk (Pu.elT (n := L.length) (k := k) (q := j - 1) ty_et31 (by omega) (hk := by omega)) ?_
  refine RK.tk (Pu.ld ty_sc3) ?_
  refine RK.tk Pu.ne ?_
  refine RK.ch [] ?_ trivial
  refine WK.n ?_
  refine TL.nil ?_
  refine TQ.thenN (hY17 _ _ ?_)
  refine TW.cond rfl (fun hc4 => ?_) (fun hc4 => ?_)
  try simp only [decide_eq_true_eq, decide_eq_false_iff_not, Bool.not_eq_true', Bool.not_eq_false', Bool.and_eq_true, Bool.or_eq_true, Bool.and_eq_false_iff, Bool.or_eq_false_iff, Int.not_lt, Int.not_le] at hc4
  rw [if_neg hc4] at hft
  obtain ⟨i', hi'⟩ : ∃ y : Nat, y = i + 1 := ⟨_, rfl⟩
  obtain ⟨u', hu'⟩ : ∃ y : Nat → Int, y = fun q => if q = i then u (k + j) else u q := ⟨_, rfl⟩
  have s1 : i' = (cmpL (L.take (k + (j + 1)))).length := by rw [show k + (j + 1) = k + j + 1 by omega, hft, List.length_append, ← hi, hi']; rfl
  have s2 : ∀ q, q < i' → u' q = (cmpL (L.take (k + (j + 1)))).getD q 0 := fun q hq => by
    rw [show k + (j + 1) = k + j + 1 by omega, hft, getD_app, ← hi, hu']
    by_cases h9 : q = i
    subst h9; simp
    simp only [if_neg h9]; rw [if_pos (by omega)]; exact hu1 q (by omega)
  have s3 : ∀ q, k + (j + 1) ≤ q + 1 → q < L.length → u' q = L.getD q 0 := fun q h7 h8 => by
    rw [hu']; simp only []; rw [if_neg (by omega)]; exact hu2 q (by omega) h8
  refine TW.seq fun Y18 hY18 => ?_
  refine TW.region ?_
  refine TL.p Pu.mv ?_
  refine TL.p Pu.mv ?_
  refine TL.p Pu.mv ?_
  refine TL.p Pu.mv ?_
  refine TL.p (Pu.elT (n := L.length) (k := k) (q := j) ty_et31 hjn) ?_
  refine TL.p (Pu.ld ty_sc3) ?_
  refine TL.p (Pu.el ty_et31) ?_
  first | refine TL.st ty_sz3 ?_ | refine TL.se ty_sz3 ?_
  refine TL.nil ?_
  refine TQ.thenN (hY18 _ _ ?_)
  refine TW.region ?_
  refine TL.p Pu.mv ?_
  refine TL.p Pu.ad ?_
  refine TL.p Pu.as ?_
  refine TL.nil ?_
  refine TQ.blkN ?_
  refine TQ.thenN (hY16 _ _ ?_)
  refine TW.region ?_
  refine TL.p Pu.mv ?_
  refine TL.p Pu.ad ?_
  refine TL.p Pu.as ?_
  refine TL.nil ?_
  refine TQ.thenN (hZ1 (j + 1) i' u' _ _ ?_ ?_ (by refine ⟨rfl, ⟨congrArg (fun z => some (Value.int .i64 z)) (by omega), ?_⟩⟩; repeat (first | exact trivial | refine ⟨rfl, ?_⟩ | refine ⟨trivial, ?_⟩)) ?_)
  exact ⟨by omega, by omega, by omega, s1, s2, s3⟩
  exact (by first | omega | (simp only []; omega) | (simp; omega))
  refine KSub.own Pick.hd (fun q _ => ?_) KSub.nil
  subst hu'
  first
    | rfl
    | (simp only [updR]; by_cases h9 : q = i <;> simp [h9])
  try simp only [decide_eq_true_eq, decide_eq_false_iff_not, Bool.not_eq_true', Bool.not_eq_false', Bool.and_eq_true, Bool.or_eq_true, Bool.and_eq_false_iff, Bool.or_eq_false_iff, Int.not_lt, Int.not_le] at hc4
  rw [if_pos (Decidable.not_not.1 (by simpa using hc4))] at hft
  obtain ⟨i', hi'⟩ : ∃ y : Nat, y = i := ⟨_, rfl⟩
  obtain ⟨u', hu'⟩ : ∃ y : Nat → Int, y = u := ⟨_, rfl⟩
  have s1 : i' = (cmpL (L.take (k + (j + 1)))).length := by rw [show k + (j + 1) = k + j + 1 by omega, hft, ← hi, hi']
  have s2 : ∀ q, q < i' → u' q = (cmpL (L.take (k + (j + 1)))).getD q 0 := fun q hq => by rw [show k + (j + 1) = k + j + 1 by omega, hft, hu']; exact hu1 q (by omega)
  have s3 : ∀ q, k + (j + 1) ≤ q + 1 → q < L.length → u' q = L.getD q 0 := fun q h7 h8 => by rw [hu']; exact hu2 q (by omega) h8
  refine TW.skip ?_
  refine TQ.blkN ?_
  refine TQ.thenN (hY16 _ _ ?_)
  refine TW.region ?_
  refine TL.p Pu.mv ?_
  refine TL.p Pu.ad ?_
  refine TL.p Pu.as ?_
  refine TL.nil ?_
  refine TQ.thenN (hZ1 (j + 1) i' u' _ _ ?_ ?_ (by refine ⟨rfl, ⟨congrArg (fun z => some (Value.int .i64 z)) (by omega), ?_⟩⟩; repeat (first | exact trivial | refine ⟨rfl, ?_⟩ | refine ⟨trivial, ?_⟩)) ?_)
  exact ⟨by omega, by omega, by omega, s1, s2, s3⟩
  exact (by first | omega | (simp only []; omega) | (simp; omega))
  refine KSub.own Pick.hd (fun q _ => ?_) KSub.nil
  subst hu'
  first
    | rfl
    | (simp only [updR]; by_cases h9 : q = i <;> simp [h9])
  try simp only [decide_eq_true_eq, decide_eq_false_iff_not, Bool.not_eq_true', Bool.not_eq_false', Bool.and_eq_true, Bool.or_eq_true, Bool.and_eq_false_iff, Bool.or_eq_false_iff, Int.not_lt, Int.not_le] at hc3
  have hfin : k + j = L.length := by omega
  rw [hfin, List.take_length] at hi hu1
  refine TW.exit ?_
  refine TQ.thenX ?_
  refine TQ.thenX ?_
  refine TQ.blkX ?_
  refine TQ.thenN (hY12 _ _ ?_)
  refine TW.seq fun Y19 hY19 => ?_
  refine TW.region ?_
  refine TL.p Pu.mv ?_
  refine TL.p Pu.mv ?_
  refine TL.p (Pu.sf ty_et31) ?_
  refine TL.clr (q := i) (z := .int .i64 0) ty_et31 Tryz.zeroValue3 rfl rfl ?_
  refine TL.nil ?_
  refine TQ.thenN (hY19 _ _ ?_)
  refine TW.seq fun Y20 hY20 => ?_
  refine TW.region ?_
  refine TL.p Pu.mv ?_
  refine TL.p Pu.mv ?_
  refine TL.take (m := i) Pick.hd (by omega) ?_
  refine TL.p (Pu.sh ty_et31) ?_
  refine TL.p Pu.as ?_
  refine TL.nil ?_
  refine TQ.thenN (hY20 _ _ ?_)
  refine TW.ret ?_
  refine TQ.blkR ?_
  refine TQ.thenR ?_
  refine TQ.thenR ?_
  refine TQ.blkR ?_
  refine TQ.thenR ?_
  refine TQ.ret Tryz.results167 rfl ((.tmp rfl .nil)) ?_
  exact fun w hw => ⟨(), by rw [← hi]; rfl, by
    rw [← hi]
    exact hw.sub (KSub.own Pick.hd (fun q hq => by rw [if_pos hq, hu1 q hq]; rfl) KSub.nil)⟩
  try simp only [decide_eq_true_eq, decide_eq_false_iff_not, Bool.not_eq_true', Bool.not_eq_false', Bool.and_eq_true, Bool.or_eq_true, Bool.and_eq_false_iff, Bool.or_eq_false_iff, Int.not_lt, Int.not_le] at hc2
  have hdup : L.getD k 0 ≠ L.getD (k - 1) 0 := by omega
  refine TW.skip ?_
  refine TQ.blkN ?_
  refine TQ.thenN (hY9 _ _ ?_)
  refine TW.region ?_
  refine TL.p Pu.mv ?_
  refine TL.p Pu.ad ?_
  refine TL.p Pu.as ?_
  refine TL.nil ?_
  refine TQ.thenN (hZ0 (k + 1) _ _ ?_ ?_ fs9 ?_)
  exact ⟨by omega, by omega, fun j h1 h2 => (Nat.lt_succ_iff_lt_or_eq.1 h2).elim (hno j h1) (fun e => e ▸ hdup)⟩
  exact (by first | omega | (simp only []; omega) | (simp; omega))
  exact ks9
  try simp only [decide_eq_true_eq, decide_eq_false_iff_not, Bool.not_eq_true', Bool.not_eq_false', Bool.and_eq_true, Bool.or_eq_true, Bool.and_eq_false_iff, Bool.or_eq_false_iff, Int.not_lt, Int.not_le] at hc1
  have hc9 : cmpL L = L := by
    have := cmp_all (L := L) L.length (Nat.le_refl _) (fun j h1 h2 => hno j h1 (by omega))
    rwa [List.take_length] at this
  refine TW.exit ?_
  refine TQ.thenX ?_
  refine TQ.thenX ?_
  refine TQ.blkX ?_
  refine TQ.thenN (hY5 _ _ ?_)
  refine TW.seq fun Y21 hY21 => ?_
  refine TW.region ?_
  refine TL.p Pu.mv ?_
  refine TL.p Pu.as ?_
  refine TL.nil ?_
  refine TQ.thenN (hY21 _ _ ?_)
  refine TW.ret ?_
  refine TQ.ret Tryz.results167 rfl ((.tmp rfl .nil)) ?_
  exact fun w hw => ⟨(), by rw [hc9]; rfl, by rw [hc9]; exact hw.sub ks9⟩
end Go.Proofs.YtmonkjnfjgidbaaGreatDoor
namespace Go.Proofs
open Go.Shelf
def Tryz.laysSlM5_f169_ren : Go.Shelf.Ren := ⟨fun | 5 => 169 | 8 => 178 | 7 => 177 | 19 => 187 | 20 => 188 | 10 => 179 | 11 => 180 | 12 => 181 | 13 => 182 | 14 => 183 | 15 => 184 | 16 => 176 | 17 => 185 | 18 => 186 | 30 => 189 | 31 => 190 | 32 => 191 | 33 => 192 | 34 => 193 | 35 => 150 | 40 => 194 | n => n, fun | 23 => 31 | 25 => 3 | 3 => 3 | 32 => 245 | 22 => 31 | 0 => 0 | 44 => 64 | 46 => 255 | 4 => 4 | 36 => 248 | 35 => 247 | 41 => 117 | 5 => 5 | 9 => 9 | 53 => 256 | 57 => 260 | 63 => 262 | 64 => 187 | n => n, fun | n => n⟩
theorem Tryz.laysSlM5_f169 : Go.Proofs.SlLaysM.n5 Tryz.prog Tryz.laysSlM5_f169_ren := {
  mixed := by kernel_rfl
  f5 := ⟨Tryz.f169.name, by decide, Tryz.func169.trans (congrArg some (by kernel_rfl))⟩
  f7 := ⟨Tryz.f177.name, by decide, Tryz.func177.trans (congrArg some (by kernel_rfl))⟩
  f8 := Tryz.func178.trans (congrArg some (by kernel_rfl))
  f10 := ⟨Tryz.f179.name, by decide, Tryz.func179.trans (congrArg some (by kernel_rfl))⟩
  f11 := ⟨Tryz.f180.name, by decide, Tryz.func180.trans (congrArg some (by kernel_rfl))⟩
  f12 := ⟨Tryz.f181.name, by decide, Tryz.func181.trans (congrArg some (by kernel_rfl))⟩
  f13 := ⟨Tryz.f182.name, by decide, Tryz.func182.trans (congrArg some (by kernel_rfl))⟩
  f14 := ⟨Tryz.f183.name, by decide, Tryz.func183.trans (congrArg some (by kernel_rfl))⟩
  f15 := ⟨Tryz.f184.name, by decide, Tryz.func184.trans (congrArg some (by kernel_rfl))⟩
  f16 := ⟨Tryz.f176.name, by decide, Tryz.func176.trans (congrArg some (by kernel_rfl))⟩
  f17 := ⟨Tryz.f185.name, by decide, Tryz.func185.trans (congrArg some (by kernel_rfl))⟩
  f18 := ⟨Tryz.f186.name, by decide, Tryz.func186.trans (congrArg some (by kernel_rfl))⟩
  f19 := Tryz.func187.trans (congrArg some (by kernel_rfl))
  f20 := Tryz.func188.trans (congrArg some (by kernel_rfl))
  f30 := ⟨Tryz.f189.name, by decide, Tryz.func189.trans (congrArg some (by kernel_rfl))⟩
  f31 := Tryz.func190.trans (congrArg some (by kernel_rfl))
  f32 := Tryz.func191.trans (congrArg some (by kernel_rfl))
  f33 := ⟨Tryz.f192.name, by decide, Tryz.func192.trans (congrArg some (by kernel_rfl))⟩
  f34 := ⟨Tryz.f193.name, by decide, Tryz.func193.trans (congrArg some (by kernel_rfl))⟩
  f35 := ⟨Tryz.f150.name, by decide, Tryz.func150.trans (congrArg some (by kernel_rfl))⟩
  f40 := ⟨Tryz.f194.name, by decide, Tryz.func194.trans (congrArg some (by kernel_rfl))⟩
  t0 := Tryz.underlying0
  a0 := Tryz.isAgg0
  z0 := Tryz.sizeOf0
  v0 := Tryz.zeroValue0
  t3 := Tryz.underlying3
  a3 := Tryz.isAgg3
  z3 := Tryz.sizeOf3
  v3 := Tryz.zeroValue3
  t4 := Tryz.underlying4
  a4 := Tryz.isAgg4
  z4 := Tryz.sizeOf4
  v4 := Tryz.zeroValue4
  t5 := Tryz.underlying5
  a5 := Tryz.isAgg5
  z5 := Tryz.sizeOf5
  v5 := Tryz.zeroValue5
  t9 := Tryz.underlying9
  a9 := Tryz.isAgg9
  z9 := Tryz.sizeOf9
  v9 := Tryz.zeroValue9
  t22 := Tryz.underlying31
  a22 := Tryz.isAgg31
  z22 := Tryz.sizeOf31
  v22 := Tryz.zeroValue31
  t23 := Tryz.underlying31
  a23 := Tryz.isAgg31
  z23 := Tryz.sizeOf31
  v23 := Tryz.zeroValue31
  t25 := Tryz.underlying3
  a25 := Tryz.isAgg3
  z25 := Tryz.sizeOf3
  v25 := Tryz.zeroValue3
  t32 := Tryz.underlying245
  a32 := Tryz.isAgg245
  z32 := Tryz.sizeOf245
  v32 := Tryz.zeroValue245
  t35 := Tryz.underlying247
  a35 := Tryz.isAgg247
  z35 := Tryz.sizeOf247
  v35 := Tryz.zeroValue247
  t36 := Tryz.underlying248
  a36 := Tryz.isAgg248
  z36 := Tryz.sizeOf248
  v36 := Tryz.zeroValue248
  t41 := Tryz.underlying117
  a41 := Tryz.isAgg117
  z41 := Tryz.sizeOf117
  v41 := Tryz.zeroValue117
  t44 := Tryz.underlying64
  a44 := Tryz.isAgg64
  z44 := Tryz.sizeOf64
  v44 := Tryz.zeroValue64
  t46 := Tryz.underlying255
  a46 := Tryz.isAgg255
  z46 := Tryz.sizeOf255
  v46 := Tryz.zeroValue255
  t53 := Tryz.underlying256
  a53 := Tryz.isAgg256
  z53 := Tryz.sizeOf256
  v53 := Tryz.zeroValue256
  t57 := Tryz.underlying260
  a57 := Tryz.isAgg260
  z57 := Tryz.sizeOf260
  v57 := Tryz.zeroValue260
  t63 := Tryz.underlying262
  a63 := Tryz.isAgg262
  z63 := Tryz.sizeOf262
  v63 := Tryz.zeroValue262
  t64 := Tryz.underlying187
  a64 := Tryz.isAgg187
  z64 := Tryz.sizeOf187
  v64 := Tryz.zeroValue187 }
open Go.Sort Go.RowKit in
theorem Tryz.slices_Sort_int (blk off cap : Nat) (zs : List Int) (w : World) (hH : Holds (Value.int .i64) w blk off zs.toArray) (hblk : blk < w.heap.size) (hsz : zs.length < 4611686018427387904) :
    Calls Tryz.prog 169 #[.slice (some ⟨blk, off, none⟩) zs.length cap] w fun e w' =>
      e = .returned (.tuple #[]) ∧ ∃ n os, w' = grow (putRow (Value.int .i64) (Sort.ahead w n) blk off (zs.mergeSort fun x y => decide (x ≤ y)).toArray) os := AnyM.slices_Sort_int Tryz.laysSlM5_f169 blk off cap zs w hH hblk hsz
open Go.RowKit Go.Sort in
theorem Tryz.slices_Sort_int_none (p : Option Addr) (cap : Nat) (w : World) :
    Calls Tryz.prog 169 #[.slice p 0 cap] w fun e w' => e = .returned (.tuple #[]) ∧ w' = w := AnyM.slices_Sort_int_none Tryz.laysSlM5_f169 p cap w
end Go.Proofs
