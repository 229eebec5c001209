/-
  Part 15 of the proof of tollWays_holds: declarations of several texts, in build order. No condition on a program.
-/
import Derived.Test.YtmonkjnfjgidbaaGreatDoorWp14
namespace Go.Proofs.YtmonkjnfjgidbaaGreatDoor
set_option linter.all false
set_option linter.unusedVariables false
set_option linter.unusedSimpArgs false
open Go.RowKit
def Yt (Y : Wy) (a : Nat → Option Addr) (e : Nat → Nat) : Wy := { Y with x := fun k => lgA (Y.x k) (a k) (e k) }
section
variable {Y : Wy} {Z : Cus} {T : Trp} {a : Nat → Option Addr} {e : Nat → Nat}
end
section
variable {nw nl nc nd nb : Nat} {f : Nat → Nat → Int} {x : Nat → Leg} {g : Nat → Nat → Nat → Int} {c : Nat → (Nat → Int) × Bool} {d b : Nat → Nat → Int} {T : Trp} {w w0 : World} {S : List Nat} {K : List Fact}
theorem land_bun {t : TLx} (hs : Sat S w0 K w) (hm : bun (twL nw nl f x g t) ∈ K) (hw : nw ≤ 1000) (hl : nl ≤ 1000) (hn : ∀ k, k < nl → (x k).n ≤ 1000) : LandIn w t.1.1.1 nw t.1.2.1 nl f (fun k => lgA (x k) (t.2.1 k) (t.2.2 k)) g :=
  ⟨hw, hl, OwnR.rdr (bun_get hs hm (List.mem_cons_self ..)), OwnR.rdr (bun_get hs hm (List.mem_cons_of_mem _ (List.mem_cons_self ..))), hn, fun k hk => OwnR.rdr (bun_get hs hm (List.mem_cons_of_mem _ (List.mem_cons_of_mem _ (ownsE_mem hk))))⟩
theorem cust_bun {t : TCx} (hs : Sat S w0 K w) (hm : bun (twC nc nd nb c d b t) ∈ K) (h1 : nc ≤ 1000) (h2 : nd ≤ 1000) (h3 : nb ≤ 1000) : CustIn w t.1.1 nc t.2.1.1 nd t.2.2.1 nb c d b :=
  ⟨h1, h2, h3, OwnR.rdr (bun_get hs hm (List.mem_cons_self ..)), OwnR.rdr (bun_get hs hm (List.mem_cons_of_mem _ (List.mem_cons_self ..))), OwnR.rdr (bun_get hs hm (List.mem_cons_of_mem _ (List.mem_cons_of_mem _ (List.mem_cons_self ..))))⟩
theorem troop_bun {t : TTx} (hs : Sat S w0 K w) (hm : bun (twT T t) ∈ K) (h1 : T.no ≤ 1000) (h2 : T.nu ≤ 1000) (h3 : T.nv ≤ 1000) : TrpIn w T t.1.1 t.2.1.1 t.2.2.1 :=
  ⟨h1, h2, h3, OwnR.rdr (bun_get hs hm (List.mem_cons_self ..)), OwnR.rdr (bun_get hs hm (List.mem_cons_of_mem _ (List.mem_cons_self ..))), OwnR.rdr (bun_get hs hm (List.mem_cons_of_mem _ (List.mem_cons_of_mem _ (List.mem_cons_self ..))))⟩
end
section
variable {Y : Wy} {Z : Cus} {T : Trp} {W A L C D B O U V : Option Addr} {cw cl cn cc cd cb co cu cv : Nat} {w : World} {a : Nat → Option Addr} {e : Nat → Nat}
theorem tollBarred_tw (hL : LandIn w W Y.nw A Y.nl Y.f (fun k => lgA (Y.x k) (a k) (e k)) Y.g) (hn : Y.n ≤ 1000) (hR : RdR w 1 L Y.n (fun k => [.int .i64 (Y.ls k)])) (h : CustIn w C Z.nc D Z.nd B Z.nb Z.c Z.d Z.b) (t : TrpIn w T O U V) (hG : OldB w 0 barsL) :
    Calls Tryz.prog 18 #[.agg (landL W Y.nw cw A Y.nl cl).toArray, .agg (custL C Z.nc cc D Z.nd cd B Z.nb cb).toArray, .agg (troopL T.hd T.wo O T.no co U T.nu cu V T.nv cv).toArray, .int .i64 Y.start, .int .i64 Y.day, .agg #[.int .i64 Y.p0, .int .i64 Y.p1], .slice L Y.n cn] w (Ret w (.tuple #[.int .u8 (barA Y Z T).1, .int .i64 (barA Y Z T).2, .int .i64 (tolC Y Z T)])) :=
  tollBarred_any (Y := Yt Y a e) hL hn hR h t hG
theorem tollDue_tw (hL : LandIn w W Y.nw A Y.nl Y.f (fun k => lgA (Y.x k) (a k) (e k)) Y.g) (hn : Y.n ≤ 1000) (hR : RdR w 1 L Y.n (fun k => [.int .i64 (Y.ls k)])) (h : CustIn w C Z.nc D Z.nd B Z.nb Z.c Z.d Z.b) (t : TrpIn w T O U V) :
    CallsK Tryz.prog 20 #[.agg (landL W Y.nw cw A Y.nl cl).toArray, .agg (custL C Z.nc cc D Z.nd cd B Z.nb cb).toArray, .agg (troopL T.hd T.wo O T.no co U T.nu cu V T.nv cv).toArray, .int .i64 Y.start, .int .i64 Y.day, .agg #[.int .i64 Y.p0, .int .i64 Y.p1], .slice L Y.n cn] [] w (Option Addr × Nat) (dueV Y Z T) (dueK Y Z T) :=
  tollDue_any (Y := Yt Y a e) hL hn hR h t
theorem dueL_len (hn : Y.n ≤ 1000) : (dueL Y Z T).length ≤ 1000000 := by
  unfold dueL
  split
  · have := tolA_len (Z := Z) (T := T) (st := stY Y) Y.n; omega
  · simp
theorem great_all {no nu nv : Nat} {nc nd nb nw nl : Nat} {x : Nat → Leg} (h : great7 nw nl x nc nd nb no nu nv = false) : (nw ≤ 1000 ∧ nl ≤ 1000 ∧ ∀ k, k < nl → (x k).n ≤ 1000) ∧ (nc ≤ 1000 ∧ nd ≤ 1000 ∧ nb ≤ 1000) ∧ no ≤ 1000 ∧ nu ≤ 1000 ∧ nv ≤ 1000 := by
  obtain ⟨h1, h2, h3, h4, h5, h6, h7, h8, h9⟩ := great_small h
  exact ⟨⟨by omega, by omega, fun k hk => by have := h3 k hk; omega⟩, ⟨by omega, by omega, by omega⟩, by omega, by omega, by omega⟩
abbrev wyL (Y : Wy) (t : TLx) : Value := .agg (landL t.1.1.1 Y.nw t.1.1.2 t.1.2.1 Y.nl t.1.2.2).toArray
abbrev wyC (Z : Cus) (t : TCx) : Value := .agg (custL t.1.1 Z.nc t.1.2 t.2.1.1 Z.nd t.2.1.2 t.2.2.1 Z.nb t.2.2.2).toArray
abbrev wyT (T : Trp) (t : TTx) : Value := .agg (troopL T.hd T.wo t.1.1 T.no t.1.2 t.2.1.1 T.nu t.2.1.2 t.2.2.1 T.nv t.2.2.2).toArray
abbrev wyA (Y : Wy) (t : TLx) : List Fact := twL Y.nw Y.nl Y.f Y.x Y.g t
abbrev wyB (Z : Cus) (t : TCx) : List Fact := twC Z.nc Z.nd Z.nb Z.c Z.d Z.b t
abbrev wyF (Y : Wy) (Z : Cus) (T : Trp) (W A L C D B O U V : Option Addr) (cw cl cn cc cd cb co cu cv b1 b2 b3 b4 : Nat) : Fr := [(40, .agg #[.slice W Y.nw cw, .slice A Y.nl cl]), (42, .agg #[.slice C Z.nc cc, .slice D Z.nd cd, .slice B Z.nb cb]), (44, .agg #[.int .i64 T.hd, .int .i64 T.wo, .slice O T.no co, .slice U T.nu cu, .slice V T.nv cv]), (47, .slice L Y.n cn), (3, .int .i64 Y.start), (4, .int .i64 Y.day), (6, .slice L Y.n cn), (7, .pointer (some ⟨b1, 0, none⟩)), (8, .pointer (some ⟨b2, 0, none⟩)), (9, .pointer (some ⟨b3, 0, none⟩)), (12, .pointer (some ⟨b4, 0, none⟩))]
abbrev wyK (Y : Wy) (Z : Cus) (T : Trp) (W A C D B O U V : Option Addr) (cw cl cc cd cb co cu cv b1 b2 b3 b4 : Nat) : List Fact := [.blk b1 25 [.slice W Y.nw cw, .slice A Y.nl cl], .blk b2 30 [.slice C Z.nc cc, .slice D Z.nd cd, .slice B Z.nb cb], .blk b3 33 [.int .i64 T.hd, .int .i64 T.wo, .slice O T.no co, .slice U T.nu cu, .slice V T.nv cv], .blk b4 35 [.int .i64 Y.p0, .int .i64 Y.p1]]
set_option maxRecDepth 100000 in
set_option maxHeartbeats 8000000 in
theorem lawWays_any (hRW : RdR w 9 W Y.nw (fun k => wellL (Y.f k))) (hRA : RdR w 5 A Y.nl (fun k => legL (Y.x k))) (hRG : ∀ k, k < Y.nl → RdR w 4 (Y.x k).A (Y.x k).n (fun j => gateL (Y.g k j)))
    (hRC : RdR w 7 C Z.nc (fun k => claimL (Z.c k))) (hRD : RdR w 4 D Z.nd (fun k => feudL (Z.d k))) (hRB : RdR w 3 B Z.nb (fun k => borderL (Z.b k)))
    (hRO : RdR w 1 O T.no (fun k => [.int .i64 (T.o k)])) (hRU : RdR w 1 U T.nu (fun k => [.int .i64 (T.u k)])) (hRV : RdR w 1 V T.nv (fun k => [.int .i64 (T.v k)])) (hRL : RdR w 1 L Y.n (fun k => [.int .i64 (Y.ls k)])) (hG : OldB w 0 barsL) :
    Calls Tryz.prog 3 #[.agg (landL W Y.nw cw A Y.nl cl).toArray, .agg (custL C Z.nc cc D Z.nd cd B Z.nb cb).toArray, .agg (troopL T.hd T.wo O T.no co U T.nu cu V T.nv cv).toArray, .int .i64 Y.start, .int .i64 Y.day, .agg #[.int .i64 Y.p0, .int .i64 Y.p1], .slice L Y.n cn] w (Ret w (.bool true)) := by
  unfold landL custL troopL
  refine K_enter (S := []) (K := []) Tryz.func3 rfl Tryz.ntmps3 rfl (Sat.start _) ?_
  refine TW.seq fun Y1 hY1 => ?_
  refine TW.region ?_
  refine TL.m Mk.bx ?_
  intro b1
  refine TL.m Mk.bx ?_
  intro b2
  refine TL.m Mk.bx ?_
  intro b3
  refine TL.m Mk.bx ?_
  intro b4
  refine TL.p Pu.as ?_
  refine TL.nil ?_
  refine TQ.thenN (hY1 _ _ ?_)
  refine TW.seq fun Y2 hY2 => ?_
  refine TW.seq fun Y3 hY3 => ?_
  refine TW.join [(39, .bool (great7 Y.nw Y.nl Y.x Z.nc Z.nd Z.nb T.no T.nu T.nv || decide ((30 : Int) < (Y.n : Int))))] ?_ (fun hJ1 => ?_)
  refine TQ.thenN (hY3 _ _ ?_)
  refine TW.cond rfl (fun hc0 => ?_) (fun hc0 => ?_)
  try simp only [decide_eq_true_eq, decide_eq_false_iff_not, Bool.not_eq_true', Bool.not_eq_false', Bool.and_eq_true, Bool.or_eq_true, Bool.and_eq_false_iff, Bool.or_eq_false_iff, Int.not_lt, Int.not_le] at hc0
  refine TW.seq fun Y4 hY4 => ?_
  refine TW.region ?_
  refine TL.p Pu.as ?_
  refine TL.nil ?_
  refine TQ.thenN (hY4 _ _ ?_)
  refine TW.ret ?_
  refine TQ.thenR ?_
  refine TQ.ret Tryz.results3 rfl ((.tmp rfl .nil)) ?_
  exact fun w hw => Ret.of hw
  try simp only [decide_eq_true_eq, decide_eq_false_iff_not, Bool.not_eq_true', Bool.not_eq_false', Bool.and_eq_true, Bool.or_eq_true, Bool.and_eq_false_iff, Bool.or_eq_false_iff, Int.not_lt, Int.not_le] at hc0
  have hgr : great7 Y.nw Y.nl Y.x Z.nc Z.nd Z.nb T.no T.nu T.nv = false := by simpa using hc0.1
  have hnn : Y.n ≤ 1000 := by have := hc0.2; omega
  obtain ⟨⟨h1, h2, h3⟩, ⟨h4, h5, h6⟩, h7, h8, h9⟩ := great_all hgr
  have hL : LandIn w W Y.nw A Y.nl Y.f Y.x Y.g := ⟨h1, h2, hRW, hRA, h3, hRG⟩
  have hC : CustIn w C Z.nc D Z.nd B Z.nb Z.c Z.d Z.b := ⟨h4, h5, h6, hRC, hRD, hRB⟩
  have hT : TrpIn w T O U V := ⟨h7, h8, h9, hRO, hRU, hRV⟩
  refine TW.skip ?_
  refine TQ.thenN (hY2 _ _ ?_)
  refine TW.seq fun Y5 hY5 => ?_
  refine TW.expk [.blk b1 25 [.slice W Y.nw cw, .slice A Y.nl cl], .blk b2 30 [.slice C Z.nc cc, .slice D Z.nd cd, .slice B Z.nb cb], .blk b3 33 [.int .i64 T.hd, .int .i64 T.wo, .slice O T.no co, .slice U T.nu cu, .slice V T.nv cv]] (fun (⟨t1, t2, t3, A8, c8, x9, x10, x11⟩ : TLx × TCx × TTx × Option Addr × Nat × Nat × Nat × Nat) => ([(15, .pointer (some ⟨x9, 0, none⟩)), (16, .pointer (some ⟨x10, 0, none⟩)), (17, .pointer (some ⟨x11, 0, none⟩)), (18, .slice A8 Y.n c8), (3, .int .i64 Y.start), (4, .int .i64 Y.day), (6, .slice L Y.n cn), (7, .pointer (some ⟨b1, 0, none⟩)), (8, .pointer (some ⟨b2, 0, none⟩)), (9, .pointer (some ⟨b3, 0, none⟩)), (12, .pointer (some ⟨b4, 0, none⟩))] : Fr)) (fun (⟨t1, t2, t3, A8, c8, x9, x10, x11⟩ : TLx × TCx × TTx × Option Addr × Nat × Nat × Nat × Nat) => [.blk x9 25 (landL t1.1.1.1 Y.nw t1.1.1.2 t1.1.2.1 Y.nl t1.1.2.2), .blk x10 30 (custL t2.1.1 Z.nc t2.1.2 t2.2.1.1 Z.nd t2.2.1.2 t2.2.2.1 Z.nb t2.2.2.2), .blk x11 33 (troopL T.hd T.wo t3.1.1 T.no t3.1.2 t3.2.1.1 T.nu t3.2.1.2 t3.2.2.1 T.nv t3.2.2.2), .own A8 Y.n c8 3 1 (fun k => [.int .i64 (Y.ls k)]), bun (twL Y.nw Y.nl Y.f Y.x Y.g t1), bun (twC Z.nc Z.nd Z.nb Z.c Z.d Z.b t2), bun (twT T t3), .blk b1 25 [.slice W Y.nw cw, .slice A Y.nl cl], .blk b2 30 [.slice C Z.nc cc, .slice D Z.nd cd, .slice B Z.nb cb], .blk b3 33 [.int .i64 T.hd, .int .i64 T.wo, .slice O T.no co, .slice U T.nu cu, .slice V T.nv cv], .blk b4 35 [.int .i64 Y.p0, .int .i64 Y.p1]]) ?_ (fun hE => ?_)
  rintro ⟨t1, t2, t3, A8, c8, x9, x10, x11⟩
  refine TQ.thenN (hY5 _ _ ?_)
  refine TW.seq fun Y6 hY6 => ?_
  refine TW.region ?_
  refine TL.p (Pu.lds ty_ag25) ?_
  refine TL.p (Pu.lds ty_ag30) ?_
  refine TL.p (Pu.lds ty_ag33) ?_
  refine TL.p Pu.mv ?_
  refine TL.p Pu.mv ?_
  refine TL.p (Pu.lds ty_ag35) ?_
  refine TL.p Pu.mv ?_
  refine TL.cr rfl (enters Tryz.func18 rfl rfl) (fun w hw => by
      exact tollBarred_tw (land_bun (f := Y.f) (x := Y.x) (g := Y.g) (t := t1) hw (by simp) h1 h2 h3) hnn (OwnR.rdr (hw.holds (.own A8 Y.n c8 3 1 (fun k => [.int .i64 (Y.ls k)])) (by simp))) (cust_bun (t := t2) hw (by simp) h4 h5 h6) (troop_bun (t := t3) hw (by simp) h7 h8 h9) (hG.ext (Chg.ext hw.chg))) ?_
  refine TL.p Pu.mv ?_
  refine TL.p Pu.ex ?_
  refine TL.p Pu.ex ?_
  refine TL.p Pu.ex ?_
  refine TL.p Pu.as ?_
  refine TL.p Pu.as ?_
  refine TL.p Pu.as ?_
  refine TL.nil ?_
  refine TQ.thenN (hY6 _ _ ?_)
  refine TW.seq fun Y7 hY7 => ?_
  refine TW.region ?_
  refine TL.p (Pu.lds ty_ag25) ?_
  refine TL.p (Pu.lds ty_ag30) ?_
  refine TL.p (Pu.lds ty_ag33) ?_
  refine TL.p Pu.mv ?_
  refine TL.p Pu.mv ?_
  refine TL.p (Pu.lds ty_ag35) ?_
  refine TL.p Pu.mv ?_
  refine TL.cr rfl (enters Tryz.func19 rfl rfl) (fun w hw => by
      exact refBarred_any (hL.ext (Chg.ext hw.chg)) hnn (hRL.sat hw Apart.nil) (hC.ext (Chg.ext hw.chg)) (hT.ext (Chg.ext hw.chg))) ?_
  refine TL.p Pu.mv ?_
  refine TL.p Pu.ex ?_
  refine TL.p Pu.ex ?_
  refine TL.p Pu.ex ?_
  refine TL.p Pu.as ?_
  refine TL.p Pu.as ?_
  refine TL.p Pu.as ?_
  refine TL.nil ?_
  refine TQ.thenN (hY7 _ _ ?_)
  refine TW.seq fun Y8 hY8 => ?_
  refine TW.region ?_
  refine TL.p (Pu.lds ty_ag25) ?_
  refine TL.p (Pu.lds ty_ag30) ?_
  refine TL.p (Pu.lds ty_ag33) ?_
  refine TL.p Pu.mv ?_
  refine TL.p Pu.mv ?_
  refine TL.p (Pu.lds ty_ag35) ?_
  refine TL.p Pu.mv ?_
  refine TL.call (M := []) rfl (enters Tryz.func20 rfl rfl) (List.Perm.refl _) rfl (fun w hw => by
      exact tollDue_tw (land_bun (f := Y.f) (x := Y.x) (g := Y.g) (t := t1) hw (by simp) h1 h2 h3) hnn (OwnR.rdr (hw.holds (.own A8 Y.n c8 3 1 (fun k => [.int .i64 (Y.ls k)])) (by simp))) (cust_bun (t := t2) hw (by simp) h4 h5 h6) (troop_bun (t := t3) hw (by simp) h7 h8 h9)) ?_
  rintro ⟨P1, p1⟩
  simp only [dueV, dueK, List.cons_append, List.nil_append]
  refine TL.p Pu.mv ?_
  refine TL.p Pu.ex ?_
  refine TL.p Pu.ex ?_
  refine TL.p Pu.ex ?_
  refine TL.m (Mk.al ty_zr35) ?_
  intro b5
  refine TL.p Pu.as ?_
  first | refine TL.st ty_sz35 ?_ | refine TL.se ty_sz35 ?_
  refine TL.p Pu.as ?_
  refine TL.nil ?_
  refine TQ.thenN (hY8 _ _ ?_)
  refine TW.seq fun Y9 hY9 => ?_
  refine TW.region ?_
  refine TL.p (Pu.lds ty_ag25) ?_
  refine TL.p (Pu.lds ty_ag30) ?_
  refine TL.p (Pu.lds ty_ag33) ?_
  refine TL.p Pu.mv ?_
  refine TL.p Pu.mv ?_
  refine TL.p (Pu.lds ty_ag35) ?_
  refine TL.p Pu.mv ?_
  refine TL.call (M := []) rfl (enters Tryz.func21 rfl rfl) (List.Perm.refl _) rfl (fun w hw => by
      exact refDue_any (hL.ext (Chg.ext hw.chg)) hnn (hRL.sat hw Apart.nil) (hC.ext (Chg.ext hw.chg)) (hT.ext (Chg.ext hw.chg))) ?_
  rintro ⟨P2, p2⟩
  simp only [dueV, dueK, List.cons_append, List.nil_append]
  refine TL.p Pu.mv ?_
  refine TL.p Pu.ex ?_
  refine TL.p Pu.ex ?_
  refine TL.p Pu.ex ?_
  refine TL.m (Mk.al ty_zr35) ?_
  intro b6
  refine TL.p Pu.as ?_
  first | refine TL.st ty_sz35 ?_ | refine TL.se ty_sz35 ?_
  refine TL.p Pu.as ?_
  refine TL.nil ?_
  refine TQ.thenN (hY9 _ _ ?_)
  refine TW.seq fun Y10 hY10 => ?_
  refine TW.region ?_
  refine TL.p Pu.mv ?_
  refine TL.p Pu.mv ?_
  refine TL.p Pu.eq ?_
  refine TL.lit (t := 99) (b' := true) rfl ((by simp)) ?_
  refine TL.p Pu.mv ?_
  refine TL.gd Pu.mv ?_
  refine TL.gd Pu.mv ?_
  refine TL.gd Pu.eq ?_
  refine TL.lit (t := 103) (b' := true) rfl ((by simp)) ?_
  refine TL.p Pu.kt ?_
  refine TL.p Pu.mv ?_
  refine TL.gd Pu.mv ?_
  refine TL.gd Pu.mv ?_
  refine TL.gd Pu.eq ?_
  refine TL.lit (t := 108) (b' := true) rfl ((by simp)) ?_
  refine TL.p Pu.kt ?_
  refine TL.p Pu.mv ?_
  refine TL.gd Pu.mv ?_
  refine TL.gd Pu.mv ?_
  refine TL.cr rfl (enters Tryz.func22 rfl rfl) (fun w hw => by
      exact sameTolls_any (dueL_len hnn) (OwnR.rdr (hw.holds (.own P1 (dueL Y Z T).length p1 78 4 (rowsT (dueL Y Z T))) (by simp))) (OwnR.rdr (hw.holds (.own P2 (dueL Y Z T).length p2 78 4 (rowsT (dueL Y Z T))) (by simp)))) ?_
  refine TL.p Pu.kt ?_
  refine TL.p Pu.mv ?_
  refine TL.gd (Pu.lds ty_ag35) ?_
  refine TL.gd (Pu.lds ty_ag35) ?_
  refine TL.gd (Pu.q2 ty_q2_35) ?_
  refine TL.lit (t := 118) (b' := true) rfl ((by simp)) ?_
  refine TL.p Pu.kt ?_
  refine TL.p Pu.mv ?_
  refine TL.gd Pu.mv ?_
  refine TL.gd Pu.mv ?_
  refine TL.gd Pu.eq ?_
  refine TL.lit (t := 123) (b' := true) rfl ((by simp)) ?_
  refine TL.p Pu.kt ?_
  refine TL.p Pu.mv ?_
  refine TL.gd (Pu.lds ty_ag25) ?_
  refine TL.gd (Pu.lds ty_ag25) ?_
  refine TL.cr rfl (enters Tryz.func23 rfl rfl) (fun w hw => by
      exact same3_any (x := Y.x) (land_bun (f := Y.f) (x := Y.x) (g := Y.g) (t := t1) hw (by simp) h1 h2 h3) (hL.ext (Chg.ext hw.chg))) ?_
  refine TL.p Pu.kt ?_
  refine TL.p Pu.mv ?_
  refine TL.gd (Pu.lds ty_ag30) ?_
  refine TL.gd (Pu.lds ty_ag30) ?_
  refine TL.cr rfl (enters Tryz.func24 rfl rfl) (fun w hw => by
      exact sameCustom_any (cust_bun (t := t2) hw (by simp) h4 h5 h6) (hC.ext (Chg.ext hw.chg))) ?_
  refine TL.p Pu.kt ?_
  refine TL.p Pu.mv ?_
  refine TL.gd (Pu.lds ty_ag33) ?_
  refine TL.gd (Pu.lds ty_ag33) ?_
  refine TL.cr rfl (enters Tryz.func25 rfl rfl) (fun w hw => by
      exact sameTroop_any (troop_bun (t := t3) hw (by simp) h7 h8 h9) (hT.ext (Chg.ext hw.chg))) ?_
  refine TL.p Pu.kt ?_
  refine TL.p Pu.mv ?_
  refine TL.gd Pu.mv ?_
  refine TL.gd Pu.mv ?_
  refine TL.cr rfl (enters Tryz.func26 rfl rfl) (fun w hw => by
      exact same3_true (by omega) (OwnR.rdr (hw.holds (.own A8 Y.n c8 3 1 (fun k => [.int .i64 (Y.ls k)])) (by simp))) (hRL.sat hw Apart.nil)) ?_
  refine TL.p Pu.kt ?_
  refine TL.p Pu.as ?_
  refine TL.nil ?_
  refine TQ.thenN (hY10 _ _ ?_)
  refine TW.ret ?_
  refine TQ.ret Tryz.results3 rfl ((.tmp rfl .nil)) ?_
  exact fun w hw => Ret.of hw
  refine RG.tk 0 rfl (Pu.lds ty_ag25) ?_
  refine RG.tk 2 rfl (Pu.lds ty_ag30) ?_
  refine RG.tk 4 rfl (Pu.lds ty_ag33) ?_
  refine RG.tk 7 rfl Pu.mv ?_
  refine RG.later 16 [0, 1, 2, 3, 4, 5, 6, 7, 8, 9, 10, 11] 4 (fun (⟨t1, t2, t3, A8, c8, x9, x10, x11⟩ : (TLx) × (TCx) × (TTx) × (Option Addr) × (Nat) × (Nat) × (Nat) × (Nat)) => ((41, wyL Y t1) :: (43, wyC Z t2) :: (45, wyT T t3) :: (48, .slice A8 Y.n c8) :: (15, .pointer (some ⟨x9, 0, none⟩)) :: (16, .pointer (some ⟨x10, 0, none⟩)) :: (17, .pointer (some ⟨x11, 0, none⟩)) :: wyF Y Z T W A L C D B O U V cw cl cn cc cd cb co cu cv b1 b2 b3 b4 : Fr)) (fun (⟨t1, t2, t3, A8, c8, x9, x10, x11⟩ : (TLx) × (TCx) × (TTx) × (Option Addr) × (Nat) × (Nat) × (Nat) × (Nat)) => bun (wyA Y t1) :: bun (wyB Z t2) :: bun (twT T t3) :: .own A8 Y.n c8 3 1 (fun k => [.int .i64 (Y.ls k)]) :: .blk x9 25 [.slice none 0 0, .slice none 0 0] :: .blk x10 30 [.slice none 0 0, .slice none 0 0, .slice none 0 0] :: .blk x11 33 [.int .i64 0, .int .i64 0, .slice none 0 0, .slice none 0 0, .slice none 0 0] :: wyK Y Z T W A C D B O U V cw cl cc cd cb co cu cv b1 b2 b3 b4) ?_ (fun hS62 => ?_)
  rintro ⟨t1, t2, t3, A8, c8, x9, x10, x11⟩
  dsimp only
  refine RG.a1 12 rfl (fun X12 hX12 => ?_)
  first | refine TL.st ty_sz25 ?_ | refine TL.se ty_sz25 ?_
  refine TL.nil ?_
  refine TQ.nxt (hX12 _ _ hl9 ?_)
  refine RG.a1 13 rfl (fun X13 hX13 => ?_)
  first | refine TL.st ty_sz30 ?_ | refine TL.se ty_sz30 ?_
  refine TL.nil ?_
  refine TQ.nxt (hX13 _ _ hl9 ?_)
  refine RG.a1 14 rfl (fun X14 hX14 => ?_)
  first | refine TL.st ty_sz33 ?_ | refine TL.se ty_sz33 ?_
  refine TL.nil ?_
  refine TQ.nxt (hX14 _ _ hl9 ?_)
  refine RG.tk 15 rfl Pu.as ?_
  exact RG.nil (TQ.sub fs9 kt9 (hE ⟨t1, t2, t3, A8, c8, x9, x10, x11⟩)) (by kernel_rfl)
  refine RG.later 16 [0, 1, 2, 3, 4, 5, 6, 7, 9, 10, 11] 5 (fun (⟨t1, t2, t3, x6, x9, x10, x11⟩ : (TLx) × (TCx) × (TTx) × (Nat) × (Nat) × (Nat) × (Nat)) => ((41, wyL Y t1) :: (43, wyC Z t2) :: (45, wyT T t3) :: (46, .slice (some ⟨x6, 0, none⟩) 0 0) :: (15, .pointer (some ⟨x9, 0, none⟩)) :: (16, .pointer (some ⟨x10, 0, none⟩)) :: (17, .pointer (some ⟨x11, 0, none⟩)) :: wyF Y Z T W A L C D B O U V cw cl cn cc cd cb co cu cv b1 b2 b3 b4 : Fr)) (fun (⟨t1, t2, t3, x6, x9, x10, x11⟩ : (TLx) × (TCx) × (TTx) × (Nat) × (Nat) × (Nat) × (Nat)) => bun (wyA Y t1) :: bun (wyB Z t2) :: bun (twT T t3) :: .blk x6 3 [] :: .blk x9 25 [.slice none 0 0, .slice none 0 0] :: .blk x10 30 [.slice none 0 0, .slice none 0 0, .slice none 0 0] :: .blk x11 33 [.int .i64 0, .int .i64 0, .slice none 0 0, .slice none 0 0, .slice none 0 0] :: wyK Y Z T W A C D B O U V cw cl cc cd cb co cu cv b1 b2 b3 b4) ?_ (fun hS61 => ?_)
  rintro ⟨t1, t2, t3, x6, x9, x10, x11⟩
  dsimp only
  refine RG.a1 8 rfl (fun X8 hX8 => ?_)
  refine TL.ob (b := x6) (sz := 1) (r := fun _ => []) pk9 rfl ?_
  first | refine TL.a0 ty_et31 ?_ | refine TL.ap ty_et31 ?_
  intro A8 c8
  refine TL.nil ?_
  refine TQ.nxt (hX8 _ _ hl9 ?_)
  exact RG.meet (hS62 ⟨t1, t2, t3, A8, c8, x9, x10, x11⟩) fs9 kt9
  refine RG.later 16 [0, 1, 2, 3, 4, 5, 6, 7, 8, 10, 11] 5 (fun (⟨t1, t2, t3, A8, c8, x10, x11⟩ : (TLx) × (TCx) × (TTx) × (Option Addr) × (Nat) × (Nat) × (Nat)) => ((41, wyL Y t1) :: (43, wyC Z t2) :: (45, wyT T t3) :: (48, .slice A8 Y.n c8) :: (16, .pointer (some ⟨x10, 0, none⟩)) :: (17, .pointer (some ⟨x11, 0, none⟩)) :: wyF Y Z T W A L C D B O U V cw cl cn cc cd cb co cu cv b1 b2 b3 b4 : Fr)) (fun (⟨t1, t2, t3, A8, c8, x10, x11⟩ : (TLx) × (TCx) × (TTx) × (Option Addr) × (Nat) × (Nat) × (Nat)) => bun (wyA Y t1) :: bun (wyB Z t2) :: bun (twT T t3) :: .own A8 Y.n c8 3 1 (fun k => [.int .i64 (Y.ls k)]) :: .blk x10 30 [.slice none 0 0, .slice none 0 0, .slice none 0 0] :: .blk x11 33 [.int .i64 0, .int .i64 0, .slice none 0 0, .slice none 0 0, .slice none 0 0] :: wyK Y Z T W A C D B O U V cw cl cc cd cb co cu cv b1 b2 b3 b4) ?_ (fun hS60 => ?_)
  rintro ⟨t1, t2, t3, A8, c8, x10, x11⟩
  dsimp only
  refine RG.a1 9 rfl (fun X9 hX9 => ?_)
  refine TL.m (Mk.al ty_zr25) ?_
  intro x9
  refine TL.nil ?_
  refine TQ.nxt (hX9 _ _ hl9 ?_)
  exact RG.meet (hS62 ⟨t1, t2, t3, A8, c8, x9, x10, x11⟩) fs9 kt9
  refine RG.later 16 [0, 1, 2, 3, 4, 5, 6, 7, 8, 9, 11] 5 (fun (⟨t1, t2, t3, A8, c8, x9, x11⟩ : (TLx) × (TCx) × (TTx) × (Option Addr) × (Nat) × (Nat) × (Nat)) => ((41, wyL Y t1) :: (43, wyC Z t2) :: (45, wyT T t3) :: (48, .slice A8 Y.n c8) :: (15, .pointer (some ⟨x9, 0, none⟩)) :: (17, .pointer (some ⟨x11, 0, none⟩)) :: wyF Y Z T W A L C D B O U V cw cl cn cc cd cb co cu cv b1 b2 b3 b4 : Fr)) (fun (⟨t1, t2, t3, A8, c8, x9, x11⟩ : (TLx) × (TCx) × (TTx) × (Option Addr) × (Nat) × (Nat) × (Nat)) => bun (wyA Y t1) :: bun (wyB Z t2) :: bun (twT T t3) :: .own A8 Y.n c8 3 1 (fun k => [.int .i64 (Y.ls k)]) :: .blk x9 25 [.slice none 0 0, .slice none 0 0] :: .blk x11 33 [.int .i64 0, .int .i64 0, .slice none 0 0, .slice none 0 0, .slice none 0 0] :: wyK Y Z T W A C D B O U V cw cl cc cd cb co cu cv b1 b2 b3 b4) ?_ (fun hS59 => ?_)
  rintro ⟨t1, t2, t3, A8, c8, x9, x11⟩
  dsimp only
  refine RG.a1 10 rfl (fun X10 hX10 => ?_)
  refine TL.m (Mk.al ty_zr30) ?_
  intro x10
  refine TL.nil ?_
  refine TQ.nxt (hX10 _ _ hl9 ?_)
  exact RG.meet (hS62 ⟨t1, t2, t3, A8, c8, x9, x10, x11⟩) fs9 kt9
  refine RG.later 16 [0, 1, 2, 3, 4, 5, 6, 7, 8, 9, 10] 5 (fun (⟨t1, t2, t3, A8, c8, x9, x10⟩ : (TLx) × (TCx) × (TTx) × (Option Addr) × (Nat) × (Nat) × (Nat)) => ((41, wyL Y t1) :: (43, wyC Z t2) :: (45, wyT T t3) :: (48, .slice A8 Y.n c8) :: (15, .pointer (some ⟨x9, 0, none⟩)) :: (16, .pointer (some ⟨x10, 0, none⟩)) :: wyF Y Z T W A L C D B O U V cw cl cn cc cd cb co cu cv b1 b2 b3 b4 : Fr)) (fun (⟨t1, t2, t3, A8, c8, x9, x10⟩ : (TLx) × (TCx) × (TTx) × (Option Addr) × (Nat) × (Nat) × (Nat)) => bun (wyA Y t1) :: bun (wyB Z t2) :: bun (twT T t3) :: .own A8 Y.n c8 3 1 (fun k => [.int .i64 (Y.ls k)]) :: .blk x9 25 [.slice none 0 0, .slice none 0 0] :: .blk x10 30 [.slice none 0 0, .slice none 0 0, .slice none 0 0] :: wyK Y Z T W A C D B O U V cw cl cc cd cb co cu cv b1 b2 b3 b4) ?_ (fun hS58 => ?_)
  rintro ⟨t1, t2, t3, A8, c8, x9, x10⟩
  dsimp only
  refine RG.a1 11 rfl (fun X11 hX11 => ?_)
  refine TL.m (Mk.al ty_zr33) ?_
  intro x11
  refine TL.nil ?_
  refine TQ.nxt (hX11 _ _ hl9 ?_)
  exact RG.meet (hS62 ⟨t1, t2, t3, A8, c8, x9, x10, x11⟩) fs9 kt9
  refine RG.later 16 [0, 1, 2, 3, 4, 6, 7, 9, 10, 11] 6 (fun (⟨t1, t2, x6, x9, x10, x11⟩ : (TLx) × (TCx) × (Nat) × (Nat) × (Nat) × (Nat)) => ((41, wyL Y t1) :: (43, wyC Z t2) :: (46, .slice (some ⟨x6, 0, none⟩) 0 0) :: (15, .pointer (some ⟨x9, 0, none⟩)) :: (16, .pointer (some ⟨x10, 0, none⟩)) :: (17, .pointer (some ⟨x11, 0, none⟩)) :: wyF Y Z T W A L C D B O U V cw cl cn cc cd cb co cu cv b1 b2 b3 b4 : Fr)) (fun (⟨t1, t2, x6, x9, x10, x11⟩ : (TLx) × (TCx) × (Nat) × (Nat) × (Nat) × (Nat)) => bun (wyA Y t1) :: bun (wyB Z t2) :: .blk x6 3 [] :: .blk x9 25 [.slice none 0 0, .slice none 0 0] :: .blk x10 30 [.slice none 0 0, .slice none 0 0, .slice none 0 0] :: .blk x11 33 [.int .i64 0, .int .i64 0, .slice none 0 0, .slice none 0 0, .slice none 0 0] :: wyK Y Z T W A C D B O U V cw cl cc cd cb co cu cv b1 b2 b3 b4) ?_ (fun hS57 => ?_)
  rintro ⟨t1, t2, x6, x9, x10, x11⟩
  dsimp only
  refine RG.a1 5 rfl (fun X5 hX5 => ?_)
  refine TL.call (M := []) rfl (enters Tryz.func17 rfl rfl) (List.Perm.refl _) rfl (fun w hw => by
      exact twinTroop_any (hT.ext (Chg.ext hw.chg))) ?_
  rintro t3
  refine TL.bun ?_
  refine TL.nil ?_
  refine TQ.nxt (hX5 _ _ hl9 ?_)
  exact RG.meet (hS61 ⟨t1, t2, t3, x6, x9, x10, x11⟩) fs9 kt9
  refine RG.later 16 [0, 1, 2, 3, 4, 5, 7, 9, 10, 11] 6 (fun (⟨t1, t2, t3, x9, x10, x11⟩ : (TLx) × (TCx) × (TTx) × (Nat) × (Nat) × (Nat)) => ((41, wyL Y t1) :: (43, wyC Z t2) :: (45, wyT T t3) :: (15, .pointer (some ⟨x9, 0, none⟩)) :: (16, .pointer (some ⟨x10, 0, none⟩)) :: (17, .pointer (some ⟨x11, 0, none⟩)) :: wyF Y Z T W A L C D B O U V cw cl cn cc cd cb co cu cv b1 b2 b3 b4 : Fr)) (fun (⟨t1, t2, t3, x9, x10, x11⟩ : (TLx) × (TCx) × (TTx) × (Nat) × (Nat) × (Nat)) => bun (wyA Y t1) :: bun (wyB Z t2) :: bun (twT T t3) :: .blk x9 25 [.slice none 0 0, .slice none 0 0] :: .blk x10 30 [.slice none 0 0, .slice none 0 0, .slice none 0 0] :: .blk x11 33 [.int .i64 0, .int .i64 0, .slice none 0 0, .slice none 0 0, .slice none 0 0] :: wyK Y Z T W A C D B O U V cw cl cc cd cb co cu cv b1 b2 b3 b4) ?_ (fun hS56 => ?_)
  rintro ⟨t1, t2, t3, x9, x10, x11⟩
  dsimp only
  refine RG.a1 6 rfl (fun X6 hX6 => ?_)
  refine TL.m Mk.bl ?_
  intro x6
  refine TL.nil ?_
  refine TQ.nxt (hX6 _ _ hl9 ?_)
  exact RG.meet (hS61 ⟨t1, t2, t3, x6, x9, x10, x11⟩) fs9 kt9
  refine RG.later 16 [0, 1, 2, 3, 4, 5, 6, 7, 10, 11] 6 (fun (⟨t1, t2, t3, x6, x10, x11⟩ : (TLx) × (TCx) × (TTx) × (Nat) × (Nat) × (Nat)) => ((41, wyL Y t1) :: (43, wyC Z t2) :: (45, wyT T t3) :: (46, .slice (some ⟨x6, 0, none⟩) 0 0) :: (16, .pointer (some ⟨x10, 0, none⟩)) :: (17, .pointer (some ⟨x11, 0, none⟩)) :: wyF Y Z T W A L C D B O U V cw cl cn cc cd cb co cu cv b1 b2 b3 b4 : Fr)) (fun (⟨t1, t2, t3, x6, x10, x11⟩ : (TLx) × (TCx) × (TTx) × (Nat) × (Nat) × (Nat)) => bun (wyA Y t1) :: bun (wyB Z t2) :: bun (twT T t3) :: .blk x6 3 [] :: .blk x10 30 [.slice none 0 0, .slice none 0 0, .slice none 0 0] :: .blk x11 33 [.int .i64 0, .int .i64 0, .slice none 0 0, .slice none 0 0, .slice none 0 0] :: wyK Y Z T W A C D B O U V cw cl cc cd cb co cu cv b1 b2 b3 b4) ?_ (fun hS55 => ?_)
  rintro ⟨t1, t2, t3, x6, x10, x11⟩
  dsimp only
  refine RG.a2 8 9 rfl rfl (fun X8 hX8 => ?_) (fun X9 hX9 => ?_)
  refine TL.ob (b := x6) (sz := 1) (r := fun _ => []) pk9 rfl ?_
  first | refine TL.a0 ty_et31 ?_ | refine TL.ap ty_et31 ?_
  intro A8 c8
  refine TL.nil ?_
  refine TQ.nxt (hX8 _ _ hl9 ?_)
  exact RG.meet (hS60 ⟨t1, t2, t3, A8, c8, x10, x11⟩) fs9 kt9
  refine TL.m (Mk.al ty_zr25) ?_
  intro x9
  refine TL.nil ?_
  refine TQ.nxt (hX9 _ _ hl9 ?_)
  exact RG.meet (hS61 ⟨t1, t2, t3, x6, x9, x10, x11⟩) fs9 kt9
  refine RG.later 16 [0, 1, 2, 3, 4, 5, 6, 7, 9, 11] 6 (fun (⟨t1, t2, t3, x6, x9, x11⟩ : (TLx) × (TCx) × (TTx) × (Nat) × (Nat) × (Nat)) => ((41, wyL Y t1) :: (43, wyC Z t2) :: (45, wyT T t3) :: (46, .slice (some ⟨x6, 0, none⟩) 0 0) :: (15, .pointer (some ⟨x9, 0, none⟩)) :: (17, .pointer (some ⟨x11, 0, none⟩)) :: wyF Y Z T W A L C D B O U V cw cl cn cc cd cb co cu cv b1 b2 b3 b4 : Fr)) (fun (⟨t1, t2, t3, x6, x9, x11⟩ : (TLx) × (TCx) × (TTx) × (Nat) × (Nat) × (Nat)) => bun (wyA Y t1) :: bun (wyB Z t2) :: bun (twT T t3) :: .blk x6 3 [] :: .blk x9 25 [.slice none 0 0, .slice none 0 0] :: .blk x11 33 [.int .i64 0, .int .i64 0, .slice none 0 0, .slice none 0 0, .slice none 0 0] :: wyK Y Z T W A C D B O U V cw cl cc cd cb co cu cv b1 b2 b3 b4) ?_ (fun hS54 => ?_)
  rintro ⟨t1, t2, t3, x6, x9, x11⟩
  dsimp only
  refine RG.a2 8 10 rfl rfl (fun X8 hX8 => ?_) (fun X10 hX10 => ?_)
  refine TL.ob (b := x6) (sz := 1) (r := fun _ => []) pk9 rfl ?_
  first | refine TL.a0 ty_et31 ?_ | refine TL.ap ty_et31 ?_
  intro A8 c8
  refine TL.nil ?_
  refine TQ.nxt (hX8 _ _ hl9 ?_)
  exact RG.meet (hS59 ⟨t1, t2, t3, A8, c8, x9, x11⟩) fs9 kt9
  refine TL.m (Mk.al ty_zr30) ?_
  intro x10
  refine TL.nil ?_
  refine TQ.nxt (hX10 _ _ hl9 ?_)
  exact RG.meet (hS61 ⟨t1, t2, t3, x6, x9, x10, x11⟩) fs9 kt9
  refine RG.later 16 [0, 1, 2, 3, 4, 5, 6, 7, 9, 10] 6 (fun (⟨t1, t2, t3, x6, x9, x10⟩ : (TLx) × (TCx) × (TTx) × (Nat) × (Nat) × (Nat)) => ((41, wyL Y t1) :: (43, wyC Z t2) :: (45, wyT T t3) :: (46, .slice (some ⟨x6, 0, none⟩) 0 0) :: (15, .pointer (some ⟨x9, 0, none⟩)) :: (16, .pointer (some ⟨x10, 0, none⟩)) :: wyF Y Z T W A L C D B O U V cw cl cn cc cd cb co cu cv b1 b2 b3 b4 : Fr)) (fun (⟨t1, t2, t3, x6, x9, x10⟩ : (TLx) × (TCx) × (TTx) × (Nat) × (Nat) × (Nat)) => bun (wyA Y t1) :: bun (wyB Z t2) :: bun (twT T t3) :: .blk x6 3 [] :: .blk x9 25 [.slice none 0 0, .slice none 0 0] :: .blk x10 30 [.slice none 0 0, .slice none 0 0, .slice none 0 0] :: wyK Y Z T W A C D B O U V cw cl cc cd cb co cu cv b1 b2 b3 b4) ?_ (fun hS53 => ?_)
  rintro ⟨t1, t2, t3, x6, x9, x10⟩
  dsimp only
  refine RG.a2 8 11 rfl rfl (fun X8 hX8 => ?_) (fun X11 hX11 => ?_)
  refine TL.ob (b := x6) (sz := 1) (r := fun _ => []) pk9 rfl ?_
  first | refine TL.a0 ty_et31 ?_ | refine TL.ap ty_et31 ?_
  intro A8 c8
  refine TL.nil ?_
  refine TQ.nxt (hX8 _ _ hl9 ?_)
  exact RG.meet (hS58 ⟨t1, t2, t3, A8, c8, x9, x10⟩) fs9 kt9
  refine TL.m (Mk.al ty_zr33) ?_
  intro x11
  refine TL.nil ?_
  refine TQ.nxt (hX11 _ _ hl9 ?_)
  exact RG.meet (hS61 ⟨t1, t2, t3, x6, x9, x10, x11⟩) fs9 kt9
  refine RG.later 16 [0, 1, 2, 3, 4, 5, 6, 7, 8, 11] 6 (fun (⟨t1, t2, t3, A8, c8, x11⟩ : (TLx) × (TCx) × (TTx) × (Option Addr) × (Nat) × (Nat)) => ((41, wyL Y t1) :: (43, wyC Z t2) :: (45, wyT T t3) :: (48, .slice A8 Y.n c8) :: (17, .pointer (some ⟨x11, 0, none⟩)) :: wyF Y Z T W A L C D B O U V cw cl cn cc cd cb co cu cv b1 b2 b3 b4 : Fr)) (fun (⟨t1, t2, t3, A8, c8, x11⟩ : (TLx) × (TCx) × (TTx) × (Option Addr) × (Nat) × (Nat)) => bun (wyA Y t1) :: bun (wyB Z t2) :: bun (twT T t3) :: .own A8 Y.n c8 3 1 (fun k => [.int .i64 (Y.ls k)]) :: .blk x11 33 [.int .i64 0, .int .i64 0, .slice none 0 0, .slice none 0 0, .slice none 0 0] :: wyK Y Z T W A C D B O U V cw cl cc cd cb co cu cv b1 b2 b3 b4) ?_ (fun hS52 => ?_)
  rintro ⟨t1, t2, t3, A8, c8, x11⟩
  dsimp only
  refine RG.a2 9 10 rfl rfl (fun X9 hX9 => ?_) (fun X10 hX10 => ?_)
  refine TL.m (Mk.al ty_zr25) ?_
  intro x9
  refine TL.nil ?_
  refine TQ.nxt (hX9 _ _ hl9 ?_)
  exact RG.meet (hS59 ⟨t1, t2, t3, A8, c8, x9, x11⟩) fs9 kt9
  refine TL.m (Mk.al ty_zr30) ?_
  intro x10
  refine TL.nil ?_
  refine TQ.nxt (hX10 _ _ hl9 ?_)
  exact RG.meet (hS60 ⟨t1, t2, t3, A8, c8, x10, x11⟩) fs9 kt9
  refine RG.later 16 [0, 1, 2, 3, 4, 5, 6, 7, 8, 10] 6 (fun (⟨t1, t2, t3, A8, c8, x10⟩ : (TLx) × (TCx) × (TTx) × (Option Addr) × (Nat) × (Nat)) => ((41, wyL Y t1) :: (43, wyC Z t2) :: (45, wyT T t3) :: (48, .slice A8 Y.n c8) :: (16, .pointer (some ⟨x10, 0, none⟩)) :: wyF Y Z T W A L C D B O U V cw cl cn cc cd cb co cu cv b1 b2 b3 b4 : Fr)) (fun (⟨t1, t2, t3, A8, c8, x10⟩ : (TLx) × (TCx) × (TTx) × (Option Addr) × (Nat) × (Nat)) => bun (wyA Y t1) :: bun (wyB Z t2) :: bun (twT T t3) :: .own A8 Y.n c8 3 1 (fun k => [.int .i64 (Y.ls k)]) :: .blk x10 30 [.slice none 0 0, .slice none 0 0, .slice none 0 0] :: wyK Y Z T W A C D B O U V cw cl cc cd cb co cu cv b1 b2 b3 b4) ?_ (fun hS51 => ?_)
  rintro ⟨t1, t2, t3, A8, c8, x10⟩
  dsimp only
  refine RG.a2 9 11 rfl rfl (fun X9 hX9 => ?_) (fun X11 hX11 => ?_)
  refine TL.m (Mk.al ty_zr25) ?_
  intro x9
  refine TL.nil ?_
  refine TQ.nxt (hX9 _ _ hl9 ?_)
  exact RG.meet (hS58 ⟨t1, t2, t3, A8, c8, x9, x10⟩) fs9 kt9
  refine TL.m (Mk.al ty_zr33) ?_
  intro x11
  refine TL.nil ?_
  refine TQ.nxt (hX11 _ _ hl9 ?_)
  exact RG.meet (hS60 ⟨t1, t2, t3, A8, c8, x10, x11⟩) fs9 kt9
  refine RG.later 16 [0, 1, 2, 3, 4, 5, 6, 7, 8, 9] 6 (fun (⟨t1, t2, t3, A8, c8, x9⟩ : (TLx) × (TCx) × (TTx) × (Option Addr) × (Nat) × (Nat)) => ((41, wyL Y t1) :: (43, wyC Z t2) :: (45, wyT T t3) :: (48, .slice A8 Y.n c8) :: (15, .pointer (some ⟨x9, 0, none⟩)) :: wyF Y Z T W A L C D B O U V cw cl cn cc cd cb co cu cv b1 b2 b3 b4 : Fr)) (fun (⟨t1, t2, t3, A8, c8, x9⟩ : (TLx) × (TCx) × (TTx) × (Option Addr) × (Nat) × (Nat)) => bun (wyA Y t1) :: bun (wyB Z t2) :: bun (twT T t3) :: .own A8 Y.n c8 3 1 (fun k => [.int .i64 (Y.ls k)]) :: .blk x9 25 [.slice none 0 0, .slice none 0 0] :: wyK Y Z T W A C D B O U V cw cl cc cd cb co cu cv b1 b2 b3 b4) ?_ (fun hS50 => ?_)
  rintro ⟨t1, t2, t3, A8, c8, x9⟩
  dsimp only
  refine RG.a2 10 11 rfl rfl (fun X10 hX10 => ?_) (fun X11 hX11 => ?_)
  refine TL.m (Mk.al ty_zr30) ?_
  intro x10
  refine TL.nil ?_
  refine TQ.nxt (hX10 _ _ hl9 ?_)
  exact RG.meet (hS58 ⟨t1, t2, t3, A8, c8, x9, x10⟩) fs9 kt9
  refine TL.m (Mk.al ty_zr33) ?_
  intro x11
  refine TL.nil ?_
  refine TQ.nxt (hX11 _ _ hl9 ?_)
  exact RG.meet (hS59 ⟨t1, t2, t3, A8, c8, x9, x11⟩) fs9 kt9
  refine RG.later 16 [0, 1, 2, 4, 6, 7, 9, 10, 11] 7 (fun (⟨t1, x6, x9, x10, x11⟩ : (TLx) × (Nat) × (Nat) × (Nat) × (Nat)) => ((41, wyL Y t1) :: (46, .slice (some ⟨x6, 0, none⟩) 0 0) :: (15, .pointer (some ⟨x9, 0, none⟩)) :: (16, .pointer (some ⟨x10, 0, none⟩)) :: (17, .pointer (some ⟨x11, 0, none⟩)) :: wyF Y Z T W A L C D B O U V cw cl cn cc cd cb co cu cv b1 b2 b3 b4 : Fr)) (fun (⟨t1, x6, x9, x10, x11⟩ : (TLx) × (Nat) × (Nat) × (Nat) × (Nat)) => bun (wyA Y t1) :: .blk x6 3 [] :: .blk x9 25 [.slice none 0 0, .slice none 0 0] :: .blk x10 30 [.slice none 0 0, .slice none 0 0, .slice none 0 0] :: .blk x11 33 [.int .i64 0, .int .i64 0, .slice none 0 0, .slice none 0 0, .slice none 0 0] :: wyK Y Z T W A C D B O U V cw cl cc cd cb co cu cv b1 b2 b3 b4) ?_ (fun hS49 => ?_)
  rintro ⟨t1, x6, x9, x10, x11⟩
  dsimp only
  refine RG.a1 3 rfl (fun X3 hX3 => ?_)
  refine TL.call (M := []) rfl (enters Tryz.func16 rfl rfl) (List.Perm.refl _) rfl (fun w hw => by
      exact twinCustom_tw (hC.ext (Chg.ext hw.chg))) ?_
  rintro t2
  refine TL.bun ?_
  refine TL.nil ?_
  refine TQ.nxt (hX3 _ _ hl9 ?_)
  exact RG.meet (hS57 ⟨t1, t2, x6, x9, x10, x11⟩) fs9 kt9
  refine RG.later 16 [0, 1, 2, 3, 4, 7, 9, 10, 11] 7 (fun (⟨t1, t2, x9, x10, x11⟩ : (TLx) × (TCx) × (Nat) × (Nat) × (Nat)) => ((41, wyL Y t1) :: (43, wyC Z t2) :: (15, .pointer (some ⟨x9, 0, none⟩)) :: (16, .pointer (some ⟨x10, 0, none⟩)) :: (17, .pointer (some ⟨x11, 0, none⟩)) :: wyF Y Z T W A L C D B O U V cw cl cn cc cd cb co cu cv b1 b2 b3 b4 : Fr)) (fun (⟨t1, t2, x9, x10, x11⟩ : (TLx) × (TCx) × (Nat) × (Nat) × (Nat)) => bun (wyA Y t1) :: bun (wyB Z t2) :: .blk x9 25 [.slice none 0 0, .slice none 0 0] :: .blk x10 30 [.slice none 0 0, .slice none 0 0, .slice none 0 0] :: .blk x11 33 [.int .i64 0, .int .i64 0, .slice none 0 0, .slice none 0 0, .slice none 0 0] :: wyK Y Z T W A C D B O U V cw cl cc cd cb co cu cv b1 b2 b3 b4) ?_ (fun hS48 => ?_)
  rintro ⟨t1, t2, x9, x10, x11⟩
  dsimp only
  refine RG.a2 5 6 rfl rfl (fun X5 hX5 => ?_) (fun X6 hX6 => ?_)
  refine TL.call (M := []) rfl (enters Tryz.func17 rfl rfl) (List.Perm.refl _) rfl (fun w hw => by
      exact twinTroop_any (hT.ext (Chg.ext hw.chg))) ?_
  rintro t3
  refine TL.bun ?_
  refine TL.nil ?_
  refine TQ.nxt (hX5 _ _ hl9 ?_)
  exact RG.meet (hS56 ⟨t1, t2, t3, x9, x10, x11⟩) fs9 kt9
  refine TL.m Mk.bl ?_
  intro x6
  refine TL.nil ?_
  refine TQ.nxt (hX6 _ _ hl9 ?_)
  exact RG.meet (hS57 ⟨t1, t2, x6, x9, x10, x11⟩) fs9 kt9
  refine RG.later 16 [0, 1, 2, 3, 4, 6, 7, 10, 11] 7 (fun (⟨t1, t2, x6, x10, x11⟩ : (TLx) × (TCx) × (Nat) × (Nat) × (Nat)) => ((41, wyL Y t1) :: (43, wyC Z t2) :: (46, .slice (some ⟨x6, 0, none⟩) 0 0) :: (16, .pointer (some ⟨x10, 0, none⟩)) :: (17, .pointer (some ⟨x11, 0, none⟩)) :: wyF Y Z T W A L C D B O U V cw cl cn cc cd cb co cu cv b1 b2 b3 b4 : Fr)) (fun (⟨t1, t2, x6, x10, x11⟩ : (TLx) × (TCx) × (Nat) × (Nat) × (Nat)) => bun (wyA Y t1) :: bun (wyB Z t2) :: .blk x6 3 [] :: .blk x10 30 [.slice none 0 0, .slice none 0 0, .slice none 0 0] :: .blk x11 33 [.int .i64 0, .int .i64 0, .slice none 0 0, .slice none 0 0, .slice none 0 0] :: wyK Y Z T W A C D B O U V cw cl cc cd cb co cu cv b1 b2 b3 b4) ?_ (fun hS47 => ?_)
  rintro ⟨t1, t2, x6, x10, x11⟩
  dsimp only
  refine RG.a2 5 9 rfl rfl (fun X5 hX5 => ?_) (fun X9 hX9 => ?_)
  refine TL.call (M := []) rfl (enters Tryz.func17 rfl rfl) (List.Perm.refl _) rfl (fun w hw => by
      exact twinTroop_any (hT.ext (Chg.ext hw.chg))) ?_
  rintro t3
  refine TL.bun ?_
  refine TL.nil ?_
  refine TQ.nxt (hX5 _ _ hl9 ?_)
  exact RG.meet (hS55 ⟨t1, t2, t3, x6, x10, x11⟩) fs9 kt9
  refine TL.m (Mk.al ty_zr25) ?_
  intro x9
  refine TL.nil ?_
  refine TQ.nxt (hX9 _ _ hl9 ?_)
  exact RG.meet (hS57 ⟨t1, t2, x6, x9, x10, x11⟩) fs9 kt9
  refine RG.later 16 [0, 1, 2, 3, 4, 6, 7, 9, 11] 7 (fun (⟨t1, t2, x6, x9, x11⟩ : (TLx) × (TCx) × (Nat) × (Nat) × (Nat)) => ((41, wyL Y t1) :: (43, wyC Z t2) :: (46, .slice (some ⟨x6, 0, none⟩) 0 0) :: (15, .pointer (some ⟨x9, 0, none⟩)) :: (17, .pointer (some ⟨x11, 0, none⟩)) :: wyF Y Z T W A L C D B O U V cw cl cn cc cd cb co cu cv b1 b2 b3 b4 : Fr)) (fun (⟨t1, t2, x6, x9, x11⟩ : (TLx) × (TCx) × (Nat) × (Nat) × (Nat)) => bun (wyA Y t1) :: bun (wyB Z t2) :: .blk x6 3 [] :: .blk x9 25 [.slice none 0 0, .slice none 0 0] :: .blk x11 33 [.int .i64 0, .int .i64 0, .slice none 0 0, .slice none 0 0, .slice none 0 0] :: wyK Y Z T W A C D B O U V cw cl cc cd cb co cu cv b1 b2 b3 b4) ?_ (fun hS46 => ?_)
  rintro ⟨t1, t2, x6, x9, x11⟩
  dsimp only
  refine RG.a2 5 10 rfl rfl (fun X5 hX5 => ?_) (fun X10 hX10 => ?_)
  refine TL.call (M := []) rfl (enters Tryz.func17 rfl rfl) (List.Perm.refl _) rfl (fun w hw => by
      exact twinTroop_any (hT.ext (Chg.ext hw.chg))) ?_
  rintro t3
  refine TL.bun ?_
  refine TL.nil ?_
  refine TQ.nxt (hX5 _ _ hl9 ?_)
  exact RG.meet (hS54 ⟨t1, t2, t3, x6, x9, x11⟩) fs9 kt9
  refine TL.m (Mk.al ty_zr30) ?_
  intro x10
  refine TL.nil ?_
  refine TQ.nxt (hX10 _ _ hl9 ?_)
  exact RG.meet (hS57 ⟨t1, t2, x6, x9, x10, x11⟩) fs9 kt9
  refine RG.later 16 [0, 1, 2, 3, 4, 6, 7, 9, 10] 7 (fun (⟨t1, t2, x6, x9, x10⟩ : (TLx) × (TCx) × (Nat) × (Nat) × (Nat)) => ((41, wyL Y t1) :: (43, wyC Z t2) :: (46, .slice (some ⟨x6, 0, none⟩) 0 0) :: (15, .pointer (some ⟨x9, 0, none⟩)) :: (16, .pointer (some ⟨x10, 0, none⟩)) :: wyF Y Z T W A L C D B O U V cw cl cn cc cd cb co cu cv b1 b2 b3 b4 : Fr)) (fun (⟨t1, t2, x6, x9, x10⟩ : (TLx) × (TCx) × (Nat) × (Nat) × (Nat)) => bun (wyA Y t1) :: bun (wyB Z t2) :: .blk x6 3 [] :: .blk x9 25 [.slice none 0 0, .slice none 0 0] :: .blk x10 30 [.slice none 0 0, .slice none 0 0, .slice none 0 0] :: wyK Y Z T W A C D B O U V cw cl cc cd cb co cu cv b1 b2 b3 b4) ?_ (fun hS45 => ?_)
  rintro ⟨t1, t2, x6, x9, x10⟩
  dsimp only
  refine RG.a2 5 11 rfl rfl (fun X5 hX5 => ?_) (fun X11 hX11 => ?_)
  refine TL.call (M := []) rfl (enters Tryz.func17 rfl rfl) (List.Perm.refl _) rfl (fun w hw => by
      exact twinTroop_any (hT.ext (Chg.ext hw.chg))) ?_
  rintro t3
  refine TL.bun ?_
  refine TL.nil ?_
  refine TQ.nxt (hX5 _ _ hl9 ?_)
  exact RG.meet (hS53 ⟨t1, t2, t3, x6, x9, x10⟩) fs9 kt9
  refine TL.m (Mk.al ty_zr33) ?_
  intro x11
  refine TL.nil ?_
  refine TQ.nxt (hX11 _ _ hl9 ?_)
  exact RG.meet (hS57 ⟨t1, t2, x6, x9, x10, x11⟩) fs9 kt9
  refine RG.later 16 [0, 1, 2, 3, 4, 5, 7, 10, 11] 7 (fun (⟨t1, t2, t3, x10, x11⟩ : (TLx) × (TCx) × (TTx) × (Nat) × (Nat)) => ((41, wyL Y t1) :: (43, wyC Z t2) :: (45, wyT T t3) :: (16, .pointer (some ⟨x10, 0, none⟩)) :: (17, .pointer (some ⟨x11, 0, none⟩)) :: wyF Y Z T W A L C D B O U V cw cl cn cc cd cb co cu cv b1 b2 b3 b4 : Fr)) (fun (⟨t1, t2, t3, x10, x11⟩ : (TLx) × (TCx) × (TTx) × (Nat) × (Nat)) => bun (wyA Y t1) :: bun (wyB Z t2) :: bun (twT T t3) :: .blk x10 30 [.slice none 0 0, .slice none 0 0, .slice none 0 0] :: .blk x11 33 [.int .i64 0, .int .i64 0, .slice none 0 0, .slice none 0 0, .slice none 0 0] :: wyK Y Z T W A C D B O U V cw cl cc cd cb co cu cv b1 b2 b3 b4) ?_ (fun hS44 => ?_)
  rintro ⟨t1, t2, t3, x10, x11⟩
  dsimp only
  refine RG.a2 6 9 rfl rfl (fun X6 hX6 => ?_) (fun X9 hX9 => ?_)
  refine TL.m Mk.bl ?_
  intro x6
  refine TL.nil ?_
  refine TQ.nxt (hX6 _ _ hl9 ?_)
  exact RG.meet (hS55 ⟨t1, t2, t3, x6, x10, x11⟩) fs9 kt9
  refine TL.m (Mk.al ty_zr25) ?_
  intro x9
  refine TL.nil ?_
  refine TQ.nxt (hX9 _ _ hl9 ?_)
  exact RG.meet (hS56 ⟨t1, t2, t3, x9, x10, x11⟩) fs9 kt9
  refine RG.later 16 [0, 1, 2, 3, 4, 5, 7, 9, 11] 7 (fun (⟨t1, t2, t3, x9, x11⟩ : (TLx) × (TCx) × (TTx) × (Nat) × (Nat)) => ((41, wyL Y t1) :: (43, wyC Z t2) :: (45, wyT T t3) :: (15, .pointer (some ⟨x9, 0, none⟩)) :: (17, .pointer (some ⟨x11, 0, none⟩)) :: wyF Y Z T W A L C D B O U V cw cl cn cc cd cb co cu cv b1 b2 b3 b4 : Fr)) (fun (⟨t1, t2, t3, x9, x11⟩ : (TLx) × (TCx) × (TTx) × (Nat) × (Nat)) => bun (wyA Y t1) :: bun (wyB Z t2) :: bun (twT T t3) :: .blk x9 25 [.slice none 0 0, .slice none 0 0] :: .blk x11 33 [.int .i64 0, .int .i64 0, .slice none 0 0, .slice none 0 0, .slice none 0 0] :: wyK Y Z T W A C D B O U V cw cl cc cd cb co cu cv b1 b2 b3 b4) ?_ (fun hS43 => ?_)
  rintro ⟨t1, t2, t3, x9, x11⟩
  dsimp only
  refine RG.a2 6 10 rfl rfl (fun X6 hX6 => ?_) (fun X10 hX10 => ?_)
  refine TL.m Mk.bl ?_
  intro x6
  refine TL.nil ?_
  refine TQ.nxt (hX6 _ _ hl9 ?_)
  exact RG.meet (hS54 ⟨t1, t2, t3, x6, x9, x11⟩) fs9 kt9
  refine TL.m (Mk.al ty_zr30) ?_
  intro x10
  refine TL.nil ?_
  refine TQ.nxt (hX10 _ _ hl9 ?_)
  exact RG.meet (hS56 ⟨t1, t2, t3, x9, x10, x11⟩) fs9 kt9
  refine RG.later 16 [0, 1, 2, 3, 4, 5, 7, 9, 10] 7 (fun (⟨t1, t2, t3, x9, x10⟩ : (TLx) × (TCx) × (TTx) × (Nat) × (Nat)) => ((41, wyL Y t1) :: (43, wyC Z t2) :: (45, wyT T t3) :: (15, .pointer (some ⟨x9, 0, none⟩)) :: (16, .pointer (some ⟨x10, 0, none⟩)) :: wyF Y Z T W A L C D B O U V cw cl cn cc cd cb co cu cv b1 b2 b3 b4 : Fr)) (fun (⟨t1, t2, t3, x9, x10⟩ : (TLx) × (TCx) × (TTx) × (Nat) × (Nat)) => bun (wyA Y t1) :: bun (wyB Z t2) :: bun (twT T t3) :: .blk x9 25 [.slice none 0 0, .slice none 0 0] :: .blk x10 30 [.slice none 0 0, .slice none 0 0, .slice none 0 0] :: wyK Y Z T W A C D B O U V cw cl cc cd cb co cu cv b1 b2 b3 b4) ?_ (fun hS42 => ?_)
  rintro ⟨t1, t2, t3, x9, x10⟩
  dsimp only
  refine RG.a2 6 11 rfl rfl (fun X6 hX6 => ?_) (fun X11 hX11 => ?_)
  refine TL.m Mk.bl ?_
  intro x6
  refine TL.nil ?_
  refine TQ.nxt (hX6 _ _ hl9 ?_)
  exact RG.meet (hS53 ⟨t1, t2, t3, x6, x9, x10⟩) fs9 kt9
  refine TL.m (Mk.al ty_zr33) ?_
  intro x11
  refine TL.nil ?_
  refine TQ.nxt (hX11 _ _ hl9 ?_)
  exact RG.meet (hS56 ⟨t1, t2, t3, x9, x10, x11⟩) fs9 kt9
  refine RG.later 16 [0, 1, 2, 3, 4, 5, 6, 7, 11] 7 (fun (⟨t1, t2, t3, x6, x11⟩ : (TLx) × (TCx) × (TTx) × (Nat) × (Nat)) => ((41, wyL Y t1) :: (43, wyC Z t2) :: (45, wyT T t3) :: (46, .slice (some ⟨x6, 0, none⟩) 0 0) :: (17, .pointer (some ⟨x11, 0, none⟩)) :: wyF Y Z T W A L C D B O U V cw cl cn cc cd cb co cu cv b1 b2 b3 b4 : Fr)) (fun (⟨t1, t2, t3, x6, x11⟩ : (TLx) × (TCx) × (TTx) × (Nat) × (Nat)) => bun (wyA Y t1) :: bun (wyB Z t2) :: bun (twT T t3) :: .blk x6 3 [] :: .blk x11 33 [.int .i64 0, .int .i64 0, .slice none 0 0, .slice none 0 0, .slice none 0 0] :: wyK Y Z T W A C D B O U V cw cl cc cd cb co cu cv b1 b2 b3 b4) ?_ (fun hS41 => ?_)
  rintro ⟨t1, t2, t3, x6, x11⟩
  dsimp only
  refine RG.a3 8 9 10 rfl rfl rfl (fun X8 hX8 => ?_) (fun X9 hX9 => ?_) (fun X10 hX10 => ?_)
  refine TL.ob (b := x6) (sz := 1) (r := fun _ => []) pk9 rfl ?_
  first | refine TL.a0 ty_et31 ?_ | refine TL.ap ty_et31 ?_
  intro A8 c8
  refine TL.nil ?_
  refine TQ.nxt (hX8 _ _ hl9 ?_)
  exact RG.meet (hS52 ⟨t1, t2, t3, A8, c8, x11⟩) fs9 kt9
  refine TL.m (Mk.al ty_zr25) ?_
  intro x9
  refine TL.nil ?_
  refine TQ.nxt (hX9 _ _ hl9 ?_)
  exact RG.meet (hS54 ⟨t1, t2, t3, x6, x9, x11⟩) fs9 kt9
  refine TL.m (Mk.al ty_zr30) ?_
  intro x10
  refine TL.nil ?_
  refine TQ.nxt (hX10 _ _ hl9 ?_)
  exact RG.meet (hS55 ⟨t1, t2, t3, x6, x10, x11⟩) fs9 kt9
  refine RG.later 16 [0, 1, 2, 3, 4, 5, 6, 7, 10] 7 (fun (⟨t1, t2, t3, x6, x10⟩ : (TLx) × (TCx) × (TTx) × (Nat) × (Nat)) => ((41, wyL Y t1) :: (43, wyC Z t2) :: (45, wyT T t3) :: (46, .slice (some ⟨x6, 0, none⟩) 0 0) :: (16, .pointer (some ⟨x10, 0, none⟩)) :: wyF Y Z T W A L C D B O U V cw cl cn cc cd cb co cu cv b1 b2 b3 b4 : Fr)) (fun (⟨t1, t2, t3, x6, x10⟩ : (TLx) × (TCx) × (TTx) × (Nat) × (Nat)) => bun (wyA Y t1) :: bun (wyB Z t2) :: bun (twT T t3) :: .blk x6 3 [] :: .blk x10 30 [.slice none 0 0, .slice none 0 0, .slice none 0 0] :: wyK Y Z T W A C D B O U V cw cl cc cd cb co cu cv b1 b2 b3 b4) ?_ (fun hS40 => ?_)
  rintro ⟨t1, t2, t3, x6, x10⟩
  dsimp only
  refine RG.a3 8 9 11 rfl rfl rfl (fun X8 hX8 => ?_) (fun X9 hX9 => ?_) (fun X11 hX11 => ?_)
  refine TL.ob (b := x6) (sz := 1) (r := fun _ => []) pk9 rfl ?_
  first | refine TL.a0 ty_et31 ?_ | refine TL.ap ty_et31 ?_
  intro A8 c8
  refine TL.nil ?_
  refine TQ.nxt (hX8 _ _ hl9 ?_)
  exact RG.meet (hS51 ⟨t1, t2, t3, A8, c8, x10⟩) fs9 kt9
  refine TL.m (Mk.al ty_zr25) ?_
  intro x9
  refine TL.nil ?_
  refine TQ.nxt (hX9 _ _ hl9 ?_)
  exact RG.meet (hS53 ⟨t1, t2, t3, x6, x9, x10⟩) fs9 kt9
  refine TL.m (Mk.al ty_zr33) ?_
  intro x11
  refine TL.nil ?_
  refine TQ.nxt (hX11 _ _ hl9 ?_)
  exact RG.meet (hS55 ⟨t1, t2, t3, x6, x10, x11⟩) fs9 kt9
  refine RG.later 16 [0, 1, 2, 3, 4, 5, 6, 7, 9] 7 (fun (⟨t1, t2, t3, x6, x9⟩ : (TLx) × (TCx) × (TTx) × (Nat) × (Nat)) => ((41, wyL Y t1) :: (43, wyC Z t2) :: (45, wyT T t3) :: (46, .slice (some ⟨x6, 0, none⟩) 0 0) :: (15, .pointer (some ⟨x9, 0, none⟩)) :: wyF Y Z T W A L C D B O U V cw cl cn cc cd cb co cu cv b1 b2 b3 b4 : Fr)) (fun (⟨t1, t2, t3, x6, x9⟩ : (TLx) × (TCx) × (TTx) × (Nat) × (Nat)) => bun (wyA Y t1) :: bun (wyB Z t2) :: bun (twT T t3) :: .blk x6 3 [] :: .blk x9 25 [.slice none 0 0, .slice none 0 0] :: wyK Y Z T W A C D B O U V cw cl cc cd cb co cu cv b1 b2 b3 b4) ?_ (fun hS39 => ?_)
  rintro ⟨t1, t2, t3, x6, x9⟩
  dsimp only
  refine RG.a3 8 10 11 rfl rfl rfl (fun X8 hX8 => ?_) (fun X10 hX10 => ?_) (fun X11 hX11 => ?_)
  refine TL.ob (b := x6) (sz := 1) (r := fun _ => []) pk9 rfl ?_
  first | refine TL.a0 ty_et31 ?_ | refine TL.ap ty_et31 ?_
  intro A8 c8
  refine TL.nil ?_
  refine TQ.nxt (hX8 _ _ hl9 ?_)
  exact RG.meet (hS50 ⟨t1, t2, t3, A8, c8, x9⟩) fs9 kt9
  refine TL.m (Mk.al ty_zr30) ?_
  intro x10
  refine TL.nil ?_
  refine TQ.nxt (hX10 _ _ hl9 ?_)
  exact RG.meet (hS53 ⟨t1, t2, t3, x6, x9, x10⟩) fs9 kt9
  refine TL.m (Mk.al ty_zr33) ?_
  intro x11
  refine TL.nil ?_
  refine TQ.nxt (hX11 _ _ hl9 ?_)
  exact RG.meet (hS54 ⟨t1, t2, t3, x6, x9, x11⟩) fs9 kt9
  refine RG.later 16 [0, 2, 4, 6, 7, 9, 10, 11] 8 (fun (⟨x6, x9, x10, x11⟩ : (Nat) × (Nat) × (Nat) × (Nat)) => ((46, .slice (some ⟨x6, 0, none⟩) 0 0) :: (15, .pointer (some ⟨x9, 0, none⟩)) :: (16, .pointer (some ⟨x10, 0, none⟩)) :: (17, .pointer (some ⟨x11, 0, none⟩)) :: wyF Y Z T W A L C D B O U V cw cl cn cc cd cb co cu cv b1 b2 b3 b4 : Fr)) (fun (⟨x6, x9, x10, x11⟩ : (Nat) × (Nat) × (Nat) × (Nat)) => .blk x6 3 [] :: .blk x9 25 [.slice none 0 0, .slice none 0 0] :: .blk x10 30 [.slice none 0 0, .slice none 0 0, .slice none 0 0] :: .blk x11 33 [.int .i64 0, .int .i64 0, .slice none 0 0, .slice none 0 0, .slice none 0 0] :: wyK Y Z T W A C D B O U V cw cl cc cd cb co cu cv b1 b2 b3 b4) ?_ (fun hS38 => ?_)
  rintro ⟨x6, x9, x10, x11⟩
  dsimp only
  refine RG.a1 1 rfl (fun X1 hX1 => ?_)
  refine TL.call (M := []) rfl (enters Tryz.func15 rfl rfl) (List.Perm.refl _) rfl (fun w hw => by
      exact twin3_any (hL.ext (Chg.ext hw.chg))) ?_
  rintro t1
  refine TL.bun ?_
  refine TL.nil ?_
  refine TQ.nxt (hX1 _ _ hl9 ?_)
  exact RG.meet (hS49 ⟨t1, x6, x9, x10, x11⟩) fs9 kt9
  refine RG.later 16 [0, 1, 2, 4, 7, 9, 10, 11] 8 (fun (⟨t1, x9, x10, x11⟩ : (TLx) × (Nat) × (Nat) × (Nat)) => ((41, wyL Y t1) :: (15, .pointer (some ⟨x9, 0, none⟩)) :: (16, .pointer (some ⟨x10, 0, none⟩)) :: (17, .pointer (some ⟨x11, 0, none⟩)) :: wyF Y Z T W A L C D B O U V cw cl cn cc cd cb co cu cv b1 b2 b3 b4 : Fr)) (fun (⟨t1, x9, x10, x11⟩ : (TLx) × (Nat) × (Nat) × (Nat)) => bun (wyA Y t1) :: .blk x9 25 [.slice none 0 0, .slice none 0 0] :: .blk x10 30 [.slice none 0 0, .slice none 0 0, .slice none 0 0] :: .blk x11 33 [.int .i64 0, .int .i64 0, .slice none 0 0, .slice none 0 0, .slice none 0 0] :: wyK Y Z T W A C D B O U V cw cl cc cd cb co cu cv b1 b2 b3 b4) ?_ (fun hS37 => ?_)
  rintro ⟨t1, x9, x10, x11⟩
  dsimp only
  refine RG.a2 3 6 rfl rfl (fun X3 hX3 => ?_) (fun X6 hX6 => ?_)
  refine TL.call (M := []) rfl (enters Tryz.func16 rfl rfl) (List.Perm.refl _) rfl (fun w hw => by
      exact twinCustom_tw (hC.ext (Chg.ext hw.chg))) ?_
  rintro t2
  refine TL.bun ?_
  refine TL.nil ?_
  refine TQ.nxt (hX3 _ _ hl9 ?_)
  exact RG.meet (hS48 ⟨t1, t2, x9, x10, x11⟩) fs9 kt9
  refine TL.m Mk.bl ?_
  intro x6
  refine TL.nil ?_
  refine TQ.nxt (hX6 _ _ hl9 ?_)
  exact RG.meet (hS49 ⟨t1, x6, x9, x10, x11⟩) fs9 kt9
  refine RG.later 16 [0, 1, 2, 4, 6, 7, 10, 11] 8 (fun (⟨t1, x6, x10, x11⟩ : (TLx) × (Nat) × (Nat) × (Nat)) => ((41, wyL Y t1) :: (46, .slice (some ⟨x6, 0, none⟩) 0 0) :: (16, .pointer (some ⟨x10, 0, none⟩)) :: (17, .pointer (some ⟨x11, 0, none⟩)) :: wyF Y Z T W A L C D B O U V cw cl cn cc cd cb co cu cv b1 b2 b3 b4 : Fr)) (fun (⟨t1, x6, x10, x11⟩ : (TLx) × (Nat) × (Nat) × (Nat)) => bun (wyA Y t1) :: .blk x6 3 [] :: .blk x10 30 [.slice none 0 0, .slice none 0 0, .slice none 0 0] :: .blk x11 33 [.int .i64 0, .int .i64 0, .slice none 0 0, .slice none 0 0, .slice none 0 0] :: wyK Y Z T W A C D B O U V cw cl cc cd cb co cu cv b1 b2 b3 b4) ?_ (fun hS36 => ?_)
  rintro ⟨t1, x6, x10, x11⟩
  dsimp only
  refine RG.a2 3 9 rfl rfl (fun X3 hX3 => ?_) (fun X9 hX9 => ?_)
  refine TL.call (M := []) rfl (enters Tryz.func16 rfl rfl) (List.Perm.refl _) rfl (fun w hw => by
      exact twinCustom_tw (hC.ext (Chg.ext hw.chg))) ?_
  rintro t2
  refine TL.bun ?_
  refine TL.nil ?_
  refine TQ.nxt (hX3 _ _ hl9 ?_)
  exact RG.meet (hS47 ⟨t1, t2, x6, x10, x11⟩) fs9 kt9
  refine TL.m (Mk.al ty_zr25) ?_
  intro x9
  refine TL.nil ?_
  refine TQ.nxt (hX9 _ _ hl9 ?_)
  exact RG.meet (hS49 ⟨t1, x6, x9, x10, x11⟩) fs9 kt9
  refine RG.later 16 [0, 1, 2, 4, 6, 7, 9, 11] 8 (fun (⟨t1, x6, x9, x11⟩ : (TLx) × (Nat) × (Nat) × (Nat)) => ((41, wyL Y t1) :: (46, .slice (some ⟨x6, 0, none⟩) 0 0) :: (15, .pointer (some ⟨x9, 0, none⟩)) :: (17, .pointer (some ⟨x11, 0, none⟩)) :: wyF Y Z T W A L C D B O U V cw cl cn cc cd cb co cu cv b1 b2 b3 b4 : Fr)) (fun (⟨t1, x6, x9, x11⟩ : (TLx) × (Nat) × (Nat) × (Nat)) => bun (wyA Y t1) :: .blk x6 3 [] :: .blk x9 25 [.slice none 0 0, .slice none 0 0] :: .blk x11 33 [.int .i64 0, .int .i64 0, .slice none 0 0, .slice none 0 0, .slice none 0 0] :: wyK Y Z T W A C D B O U V cw cl cc cd cb co cu cv b1 b2 b3 b4) ?_ (fun hS35 => ?_)
  rintro ⟨t1, x6, x9, x11⟩
  dsimp only
  refine RG.a2 3 10 rfl rfl (fun X3 hX3 => ?_) (fun X10 hX10 => ?_)
  refine TL.call (M := []) rfl (enters Tryz.func16 rfl rfl) (List.Perm.refl _) rfl (fun w hw => by
      exact twinCustom_tw (hC.ext (Chg.ext hw.chg))) ?_
  rintro t2
  refine TL.bun ?_
  refine TL.nil ?_
  refine TQ.nxt (hX3 _ _ hl9 ?_)
  exact RG.meet (hS46 ⟨t1, t2, x6, x9, x11⟩) fs9 kt9
  refine TL.m (Mk.al ty_zr30) ?_
  intro x10
  refine TL.nil ?_
  refine TQ.nxt (hX10 _ _ hl9 ?_)
  exact RG.meet (hS49 ⟨t1, x6, x9, x10, x11⟩) fs9 kt9
  refine RG.later 16 [0, 1, 2, 4, 6, 7, 9, 10] 8 (fun (⟨t1, x6, x9, x10⟩ : (TLx) × (Nat) × (Nat) × (Nat)) => ((41, wyL Y t1) :: (46, .slice (some ⟨x6, 0, none⟩) 0 0) :: (15, .pointer (some ⟨x9, 0, none⟩)) :: (16, .pointer (some ⟨x10, 0, none⟩)) :: wyF Y Z T W A L C D B O U V cw cl cn cc cd cb co cu cv b1 b2 b3 b4 : Fr)) (fun (⟨t1, x6, x9, x10⟩ : (TLx) × (Nat) × (Nat) × (Nat)) => bun (wyA Y t1) :: .blk x6 3 [] :: .blk x9 25 [.slice none 0 0, .slice none 0 0] :: .blk x10 30 [.slice none 0 0, .slice none 0 0, .slice none 0 0] :: wyK Y Z T W A C D B O U V cw cl cc cd cb co cu cv b1 b2 b3 b4) ?_ (fun hS34 => ?_)
  rintro ⟨t1, x6, x9, x10⟩
  dsimp only
  refine RG.a2 3 11 rfl rfl (fun X3 hX3 => ?_) (fun X11 hX11 => ?_)
  refine TL.call (M := []) rfl (enters Tryz.func16 rfl rfl) (List.Perm.refl _) rfl (fun w hw => by
      exact twinCustom_tw (hC.ext (Chg.ext hw.chg))) ?_
  rintro t2
  refine TL.bun ?_
  refine TL.nil ?_
  refine TQ.nxt (hX3 _ _ hl9 ?_)
  exact RG.meet (hS45 ⟨t1, t2, x6, x9, x10⟩) fs9 kt9
  refine TL.m (Mk.al ty_zr33) ?_
  intro x11
  refine TL.nil ?_
  refine TQ.nxt (hX11 _ _ hl9 ?_)
  exact RG.meet (hS49 ⟨t1, x6, x9, x10, x11⟩) fs9 kt9
  refine RG.later 16 [0, 1, 2, 3, 4, 7, 10, 11] 8 (fun (⟨t1, t2, x10, x11⟩ : (TLx) × (TCx) × (Nat) × (Nat)) => ((41, wyL Y t1) :: (43, wyC Z t2) :: (16, .pointer (some ⟨x10, 0, none⟩)) :: (17, .pointer (some ⟨x11, 0, none⟩)) :: wyF Y Z T W A L C D B O U V cw cl cn cc cd cb co cu cv b1 b2 b3 b4 : Fr)) (fun (⟨t1, t2, x10, x11⟩ : (TLx) × (TCx) × (Nat) × (Nat)) => bun (wyA Y t1) :: bun (wyB Z t2) :: .blk x10 30 [.slice none 0 0, .slice none 0 0, .slice none 0 0] :: .blk x11 33 [.int .i64 0, .int .i64 0, .slice none 0 0, .slice none 0 0, .slice none 0 0] :: wyK Y Z T W A C D B O U V cw cl cc cd cb co cu cv b1 b2 b3 b4) ?_ (fun hS33 => ?_)
  rintro ⟨t1, t2, x10, x11⟩
  dsimp only
  refine RG.a3 5 6 9 rfl rfl rfl (fun X5 hX5 => ?_) (fun X6 hX6 => ?_) (fun X9 hX9 => ?_)
  refine TL.call (M := []) rfl (enters Tryz.func17 rfl rfl) (List.Perm.refl _) rfl (fun w hw => by
      exact twinTroop_any (hT.ext (Chg.ext hw.chg))) ?_
  rintro t3
  refine TL.bun ?_
  refine TL.nil ?_
  refine TQ.nxt (hX5 _ _ hl9 ?_)
  exact RG.meet (hS44 ⟨t1, t2, t3, x10, x11⟩) fs9 kt9
  refine TL.m Mk.bl ?_
  intro x6
  refine TL.nil ?_
  refine TQ.nxt (hX6 _ _ hl9 ?_)
  exact RG.meet (hS47 ⟨t1, t2, x6, x10, x11⟩) fs9 kt9
  refine TL.m (Mk.al ty_zr25) ?_
  intro x9
  refine TL.nil ?_
  refine TQ.nxt (hX9 _ _ hl9 ?_)
  exact RG.meet (hS48 ⟨t1, t2, x9, x10, x11⟩) fs9 kt9
  refine RG.later 16 [0, 1, 2, 3, 4, 7, 9, 11] 8 (fun (⟨t1, t2, x9, x11⟩ : (TLx) × (TCx) × (Nat) × (Nat)) => ((41, wyL Y t1) :: (43, wyC Z t2) :: (15, .pointer (some ⟨x9, 0, none⟩)) :: (17, .pointer (some ⟨x11, 0, none⟩)) :: wyF Y Z T W A L C D B O U V cw cl cn cc cd cb co cu cv b1 b2 b3 b4 : Fr)) (fun (⟨t1, t2, x9, x11⟩ : (TLx) × (TCx) × (Nat) × (Nat)) => bun (wyA Y t1) :: bun (wyB Z t2) :: .blk x9 25 [.slice none 0 0, .slice none 0 0] :: .blk x11 33 [.int .i64 0, .int .i64 0, .slice none 0 0, .slice none 0 0, .slice none 0 0] :: wyK Y Z T W A C D B O U V cw cl cc cd cb co cu cv b1 b2 b3 b4) ?_ (fun hS32 => ?_)
  rintro ⟨t1, t2, x9, x11⟩
  dsimp only
  refine RG.a3 5 6 10 rfl rfl rfl (fun X5 hX5 => ?_) (fun X6 hX6 => ?_) (fun X10 hX10 => ?_)
  refine TL.call (M := []) rfl (enters Tryz.func17 rfl rfl) (List.Perm.refl _) rfl (fun w hw => by
      exact twinTroop_any (hT.ext (Chg.ext hw.chg))) ?_
  rintro t3
  refine TL.bun ?_
  refine TL.nil ?_
  refine TQ.nxt (hX5 _ _ hl9 ?_)
  exact RG.meet (hS43 ⟨t1, t2, t3, x9, x11⟩) fs9 kt9
  refine TL.m Mk.bl ?_
  intro x6
  refine TL.nil ?_
  refine TQ.nxt (hX6 _ _ hl9 ?_)
  exact RG.meet (hS46 ⟨t1, t2, x6, x9, x11⟩) fs9 kt9
  refine TL.m (Mk.al ty_zr30) ?_
  intro x10
  refine TL.nil ?_
  refine TQ.nxt (hX10 _ _ hl9 ?_)
  exact RG.meet (hS48 ⟨t1, t2, x9, x10, x11⟩) fs9 kt9
  refine RG.later 16 [0, 1, 2, 3, 4, 7, 9, 10] 8 (fun (⟨t1, t2, x9, x10⟩ : (TLx) × (TCx) × (Nat) × (Nat)) => ((41, wyL Y t1) :: (43, wyC Z t2) :: (15, .pointer (some ⟨x9, 0, none⟩)) :: (16, .pointer (some ⟨x10, 0, none⟩)) :: wyF Y Z T W A L C D B O U V cw cl cn cc cd cb co cu cv b1 b2 b3 b4 : Fr)) (fun (⟨t1, t2, x9, x10⟩ : (TLx) × (TCx) × (Nat) × (Nat)) => bun (wyA Y t1) :: bun (wyB Z t2) :: .blk x9 25 [.slice none 0 0, .slice none 0 0] :: .blk x10 30 [.slice none 0 0, .slice none 0 0, .slice none 0 0] :: wyK Y Z T W A C D B O U V cw cl cc cd cb co cu cv b1 b2 b3 b4) ?_ (fun hS31 => ?_)
  rintro ⟨t1, t2, x9, x10⟩
  dsimp only
  refine RG.a3 5 6 11 rfl rfl rfl (fun X5 hX5 => ?_) (fun X6 hX6 => ?_) (fun X11 hX11 => ?_)
  refine TL.call (M := []) rfl (enters Tryz.func17 rfl rfl) (List.Perm.refl _) rfl (fun w hw => by
      exact twinTroop_any (hT.ext (Chg.ext hw.chg))) ?_
  rintro t3
  refine TL.bun ?_
  refine TL.nil ?_
  refine TQ.nxt (hX5 _ _ hl9 ?_)
  exact RG.meet (hS42 ⟨t1, t2, t3, x9, x10⟩) fs9 kt9
  refine TL.m Mk.bl ?_
  intro x6
  refine TL.nil ?_
  refine TQ.nxt (hX6 _ _ hl9 ?_)
  exact RG.meet (hS45 ⟨t1, t2, x6, x9, x10⟩) fs9 kt9
  refine TL.m (Mk.al ty_zr33) ?_
  intro x11
  refine TL.nil ?_
  refine TQ.nxt (hX11 _ _ hl9 ?_)
  exact RG.meet (hS48 ⟨t1, t2, x9, x10, x11⟩) fs9 kt9
  refine RG.later 16 [0, 1, 2, 3, 4, 6, 7, 11] 8 (fun (⟨t1, t2, x6, x11⟩ : (TLx) × (TCx) × (Nat) × (Nat)) => ((41, wyL Y t1) :: (43, wyC Z t2) :: (46, .slice (some ⟨x6, 0, none⟩) 0 0) :: (17, .pointer (some ⟨x11, 0, none⟩)) :: wyF Y Z T W A L C D B O U V cw cl cn cc cd cb co cu cv b1 b2 b3 b4 : Fr)) (fun (⟨t1, t2, x6, x11⟩ : (TLx) × (TCx) × (Nat) × (Nat)) => bun (wyA Y t1) :: bun (wyB Z t2) :: .blk x6 3 [] :: .blk x11 33 [.int .i64 0, .int .i64 0, .slice none 0 0, .slice none 0 0, .slice none 0 0] :: wyK Y Z T W A C D B O U V cw cl cc cd cb co cu cv b1 b2 b3 b4) ?_ (fun hS30 => ?_)
  rintro ⟨t1, t2, x6, x11⟩
  dsimp only
  refine RG.a3 5 9 10 rfl rfl rfl (fun X5 hX5 => ?_) (fun X9 hX9 => ?_) (fun X10 hX10 => ?_)
  refine TL.call (M := []) rfl (enters Tryz.func17 rfl rfl) (List.Perm.refl _) rfl (fun w hw => by
      exact twinTroop_any (hT.ext (Chg.ext hw.chg))) ?_
  rintro t3
  refine TL.bun ?_
  refine TL.nil ?_
  refine TQ.nxt (hX5 _ _ hl9 ?_)
  exact RG.meet (hS41 ⟨t1, t2, t3, x6, x11⟩) fs9 kt9
  refine TL.m (Mk.al ty_zr25) ?_
  intro x9
  refine TL.nil ?_
  refine TQ.nxt (hX9 _ _ hl9 ?_)
  exact RG.meet (hS46 ⟨t1, t2, x6, x9, x11⟩) fs9 kt9
  refine TL.m (Mk.al ty_zr30) ?_
  intro x10
  refine TL.nil ?_
  refine TQ.nxt (hX10 _ _ hl9 ?_)
  exact RG.meet (hS47 ⟨t1, t2, x6, x10, x11⟩) fs9 kt9
  refine RG.later 16 [0, 1, 2, 3, 4, 6, 7, 10] 8 (fun (⟨t1, t2, x6, x10⟩ : (TLx) × (TCx) × (Nat) × (Nat)) => ((41, wyL Y t1) :: (43, wyC Z t2) :: (46, .slice (some ⟨x6, 0, none⟩) 0 0) :: (16, .pointer (some ⟨x10, 0, none⟩)) :: wyF Y Z T W A L C D B O U V cw cl cn cc cd cb co cu cv b1 b2 b3 b4 : Fr)) (fun (⟨t1, t2, x6, x10⟩ : (TLx) × (TCx) × (Nat) × (Nat)) => bun (wyA Y t1) :: bun (wyB Z t2) :: .blk x6 3 [] :: .blk x10 30 [.slice none 0 0, .slice none 0 0, .slice none 0 0] :: wyK Y Z T W A C D B O U V cw cl cc cd cb co cu cv b1 b2 b3 b4) ?_ (fun hS29 => ?_)
  rintro ⟨t1, t2, x6, x10⟩
  dsimp only
  refine RG.a3 5 9 11 rfl rfl rfl (fun X5 hX5 => ?_) (fun X9 hX9 => ?_) (fun X11 hX11 => ?_)
  refine TL.call (M := []) rfl (enters Tryz.func17 rfl rfl) (List.Perm.refl _) rfl (fun w hw => by
      exact twinTroop_any (hT.ext (Chg.ext hw.chg))) ?_
  rintro t3
  refine TL.bun ?_
  refine TL.nil ?_
  refine TQ.nxt (hX5 _ _ hl9 ?_)
  exact RG.meet (hS40 ⟨t1, t2, t3, x6, x10⟩) fs9 kt9
  refine TL.m (Mk.al ty_zr25) ?_
  intro x9
  refine TL.nil ?_
  refine TQ.nxt (hX9 _ _ hl9 ?_)
  exact RG.meet (hS45 ⟨t1, t2, x6, x9, x10⟩) fs9 kt9
  refine TL.m (Mk.al ty_zr33) ?_
  intro x11
  refine TL.nil ?_
  refine TQ.nxt (hX11 _ _ hl9 ?_)
  exact RG.meet (hS47 ⟨t1, t2, x6, x10, x11⟩) fs9 kt9
  refine RG.later 16 [0, 1, 2, 3, 4, 6, 7, 9] 8 (fun (⟨t1, t2, x6, x9⟩ : (TLx) × (TCx) × (Nat) × (Nat)) => ((41, wyL Y t1) :: (43, wyC Z t2) :: (46, .slice (some ⟨x6, 0, none⟩) 0 0) :: (15, .pointer (some ⟨x9, 0, none⟩)) :: wyF Y Z T W A L C D B O U V cw cl cn cc cd cb co cu cv b1 b2 b3 b4 : Fr)) (fun (⟨t1, t2, x6, x9⟩ : (TLx) × (TCx) × (Nat) × (Nat)) => bun (wyA Y t1) :: bun (wyB Z t2) :: .blk x6 3 [] :: .blk x9 25 [.slice none 0 0, .slice none 0 0] :: wyK Y Z T W A C D B O U V cw cl cc cd cb co cu cv b1 b2 b3 b4) ?_ (fun hS28 => ?_)
  rintro ⟨t1, t2, x6, x9⟩
  dsimp only
  refine RG.a3 5 10 11 rfl rfl rfl (fun X5 hX5 => ?_) (fun X10 hX10 => ?_) (fun X11 hX11 => ?_)
  refine TL.call (M := []) rfl (enters Tryz.func17 rfl rfl) (List.Perm.refl _) rfl (fun w hw => by
      exact twinTroop_any (hT.ext (Chg.ext hw.chg))) ?_
  rintro t3
  refine TL.bun ?_
  refine TL.nil ?_
  refine TQ.nxt (hX5 _ _ hl9 ?_)
  exact RG.meet (hS39 ⟨t1, t2, t3, x6, x9⟩) fs9 kt9
  refine TL.m (Mk.al ty_zr30) ?_
  intro x10
  refine TL.nil ?_
  refine TQ.nxt (hX10 _ _ hl9 ?_)
  exact RG.meet (hS45 ⟨t1, t2, x6, x9, x10⟩) fs9 kt9
  refine TL.m (Mk.al ty_zr33) ?_
  intro x11
  refine TL.nil ?_
  refine TQ.nxt (hX11 _ _ hl9 ?_)
  exact RG.meet (hS46 ⟨t1, t2, x6, x9, x11⟩) fs9 kt9
  refine RG.later 16 [0, 1, 2, 3, 4, 5, 7, 11] 8 (fun (⟨t1, t2, t3, x11⟩ : (TLx) × (TCx) × (TTx) × (Nat)) => ((41, wyL Y t1) :: (43, wyC Z t2) :: (45, wyT T t3) :: (17, .pointer (some ⟨x11, 0, none⟩)) :: wyF Y Z T W A L C D B O U V cw cl cn cc cd cb co cu cv b1 b2 b3 b4 : Fr)) (fun (⟨t1, t2, t3, x11⟩ : (TLx) × (TCx) × (TTx) × (Nat)) => bun (wyA Y t1) :: bun (wyB Z t2) :: bun (twT T t3) :: .blk x11 33 [.int .i64 0, .int .i64 0, .slice none 0 0, .slice none 0 0, .slice none 0 0] :: wyK Y Z T W A C D B O U V cw cl cc cd cb co cu cv b1 b2 b3 b4) ?_ (fun hS27 => ?_)
  rintro ⟨t1, t2, t3, x11⟩
  dsimp only
  refine RG.a3 6 9 10 rfl rfl rfl (fun X6 hX6 => ?_) (fun X9 hX9 => ?_) (fun X10 hX10 => ?_)
  refine TL.m Mk.bl ?_
  intro x6
  refine TL.nil ?_
  refine TQ.nxt (hX6 _ _ hl9 ?_)
  exact RG.meet (hS41 ⟨t1, t2, t3, x6, x11⟩) fs9 kt9
  refine TL.m (Mk.al ty_zr25) ?_
  intro x9
  refine TL.nil ?_
  refine TQ.nxt (hX9 _ _ hl9 ?_)
  exact RG.meet (hS43 ⟨t1, t2, t3, x9, x11⟩) fs9 kt9
  refine TL.m (Mk.al ty_zr30) ?_
  intro x10
  refine TL.nil ?_
  refine TQ.nxt (hX10 _ _ hl9 ?_)
  exact RG.meet (hS44 ⟨t1, t2, t3, x10, x11⟩) fs9 kt9
  refine RG.later 16 [0, 1, 2, 3, 4, 5, 7, 10] 8 (fun (⟨t1, t2, t3, x10⟩ : (TLx) × (TCx) × (TTx) × (Nat)) => ((41, wyL Y t1) :: (43, wyC Z t2) :: (45, wyT T t3) :: (16, .pointer (some ⟨x10, 0, none⟩)) :: wyF Y Z T W A L C D B O U V cw cl cn cc cd cb co cu cv b1 b2 b3 b4 : Fr)) (fun (⟨t1, t2, t3, x10⟩ : (TLx) × (TCx) × (TTx) × (Nat)) => bun (wyA Y t1) :: bun (wyB Z t2) :: bun (twT T t3) :: .blk x10 30 [.slice none 0 0, .slice none 0 0, .slice none 0 0] :: wyK Y Z T W A C D B O U V cw cl cc cd cb co cu cv b1 b2 b3 b4) ?_ (fun hS26 => ?_)
  rintro ⟨t1, t2, t3, x10⟩
  dsimp only
  refine RG.a3 6 9 11 rfl rfl rfl (fun X6 hX6 => ?_) (fun X9 hX9 => ?_) (fun X11 hX11 => ?_)
  refine TL.m Mk.bl ?_
  intro x6
  refine TL.nil ?_
  refine TQ.nxt (hX6 _ _ hl9 ?_)
  exact RG.meet (hS40 ⟨t1, t2, t3, x6, x10⟩) fs9 kt9
  refine TL.m (Mk.al ty_zr25) ?_
  intro x9
  refine TL.nil ?_
  refine TQ.nxt (hX9 _ _ hl9 ?_)
  exact RG.meet (hS42 ⟨t1, t2, t3, x9, x10⟩) fs9 kt9
  refine TL.m (Mk.al ty_zr33) ?_
  intro x11
  refine TL.nil ?_
  refine TQ.nxt (hX11 _ _ hl9 ?_)
  exact RG.meet (hS44 ⟨t1, t2, t3, x10, x11⟩) fs9 kt9
  refine RG.later 16 [0, 1, 2, 3, 4, 5, 7, 9] 8 (fun (⟨t1, t2, t3, x9⟩ : (TLx) × (TCx) × (TTx) × (Nat)) => ((41, wyL Y t1) :: (43, wyC Z t2) :: (45, wyT T t3) :: (15, .pointer (some ⟨x9, 0, none⟩)) :: wyF Y Z T W A L C D B O U V cw cl cn cc cd cb co cu cv b1 b2 b3 b4 : Fr)) (fun (⟨t1, t2, t3, x9⟩ : (TLx) × (TCx) × (TTx) × (Nat)) => bun (wyA Y t1) :: bun (wyB Z t2) :: bun (twT T t3) :: .blk x9 25 [.slice none 0 0, .slice none 0 0] :: wyK Y Z T W A C D B O U V cw cl cc cd cb co cu cv b1 b2 b3 b4) ?_ (fun hS25 => ?_)
  rintro ⟨t1, t2, t3, x9⟩
  dsimp only
  refine RG.a3 6 10 11 rfl rfl rfl (fun X6 hX6 => ?_) (fun X10 hX10 => ?_) (fun X11 hX11 => ?_)
  refine TL.m Mk.bl ?_
  intro x6
  refine TL.nil ?_
  refine TQ.nxt (hX6 _ _ hl9 ?_)
  exact RG.meet (hS39 ⟨t1, t2, t3, x6, x9⟩) fs9 kt9
  refine TL.m (Mk.al ty_zr30) ?_
  intro x10
  refine TL.nil ?_
  refine TQ.nxt (hX10 _ _ hl9 ?_)
  exact RG.meet (hS42 ⟨t1, t2, t3, x9, x10⟩) fs9 kt9
  refine TL.m (Mk.al ty_zr33) ?_
  intro x11
  refine TL.nil ?_
  refine TQ.nxt (hX11 _ _ hl9 ?_)
  exact RG.meet (hS43 ⟨t1, t2, t3, x9, x11⟩) fs9 kt9
  refine RG.later 16 [0, 1, 2, 3, 4, 5, 6, 7] 8 (fun (⟨t1, t2, t3, x6⟩ : (TLx) × (TCx) × (TTx) × (Nat)) => ((41, wyL Y t1) :: (43, wyC Z t2) :: (45, wyT T t3) :: (46, .slice (some ⟨x6, 0, none⟩) 0 0) :: wyF Y Z T W A L C D B O U V cw cl cn cc cd cb co cu cv b1 b2 b3 b4 : Fr)) (fun (⟨t1, t2, t3, x6⟩ : (TLx) × (TCx) × (TTx) × (Nat)) => bun (wyA Y t1) :: bun (wyB Z t2) :: bun (twT T t3) :: .blk x6 3 [] :: wyK Y Z T W A C D B O U V cw cl cc cd cb co cu cv b1 b2 b3 b4) ?_ (fun hS24 => ?_)
  rintro ⟨t1, t2, t3, x6⟩
  dsimp only
  refine RG.a4 8 9 10 11 rfl rfl rfl rfl (fun X8 hX8 => ?_) (fun X9 hX9 => ?_) (fun X10 hX10 => ?_) (fun X11 hX11 => ?_)
  refine TL.ob (b := x6) (sz := 1) (r := fun _ => []) pk9 rfl ?_
  first | refine TL.a0 ty_et31 ?_ | refine TL.ap ty_et31 ?_
  intro A8 c8
  refine TL.nil ?_
  refine TQ.nxt (hX8 _ _ hl9 ?_)
  refine RG.a3 9 10 11 rfl rfl rfl (fun X9 hX9 => ?_) (fun X10 hX10 => ?_) (fun X11 hX11 => ?_)
  refine TL.m (Mk.al ty_zr25) ?_
  intro x9
  refine TL.nil ?_
  refine TQ.nxt (hX9 _ _ hl9 ?_)
  exact RG.meet (hS50 ⟨t1, t2, t3, A8, c8, x9⟩) fs9 kt9
  refine TL.m (Mk.al ty_zr30) ?_
  intro x10
  refine TL.nil ?_
  refine TQ.nxt (hX10 _ _ hl9 ?_)
  exact RG.meet (hS51 ⟨t1, t2, t3, A8, c8, x10⟩) fs9 kt9
  refine TL.m (Mk.al ty_zr33) ?_
  intro x11
  refine TL.nil ?_
  refine TQ.nxt (hX11 _ _ hl9 ?_)
  exact RG.meet (hS52 ⟨t1, t2, t3, A8, c8, x11⟩) fs9 kt9
  refine TL.m (Mk.al ty_zr25) ?_
  intro x9
  refine TL.nil ?_
  refine TQ.nxt (hX9 _ _ hl9 ?_)
  exact RG.meet (hS39 ⟨t1, t2, t3, x6, x9⟩) fs9 kt9
  refine TL.m (Mk.al ty_zr30) ?_
  intro x10
  refine TL.nil ?_
  refine TQ.nxt (hX10 _ _ hl9 ?_)
  exact RG.meet (hS40 ⟨t1, t2, t3, x6, x10⟩) fs9 kt9
  refine TL.m (Mk.al ty_zr33) ?_
  intro x11
  refine TL.nil ?_
  refine TQ.nxt (hX11 _ _ hl9 ?_)
  exact RG.meet (hS41 ⟨t1, t2, t3, x6, x11⟩) fs9 kt9
  refine RG.later 16 [0, 2, 4, 7, 9, 10, 11] 9 (fun (⟨x9, x10, x11⟩ : (Nat) × (Nat) × (Nat)) => ((15, .pointer (some ⟨x9, 0, none⟩)) :: (16, .pointer (some ⟨x10, 0, none⟩)) :: (17, .pointer (some ⟨x11, 0, none⟩)) :: wyF Y Z T W A L C D B O U V cw cl cn cc cd cb co cu cv b1 b2 b3 b4 : Fr)) (fun (⟨x9, x10, x11⟩ : (Nat) × (Nat) × (Nat)) => .blk x9 25 [.slice none 0 0, .slice none 0 0] :: .blk x10 30 [.slice none 0 0, .slice none 0 0, .slice none 0 0] :: .blk x11 33 [.int .i64 0, .int .i64 0, .slice none 0 0, .slice none 0 0, .slice none 0 0] :: wyK Y Z T W A C D B O U V cw cl cc cd cb co cu cv b1 b2 b3 b4) ?_ (fun hS23 => ?_)
  rintro ⟨x9, x10, x11⟩
  dsimp only
  refine RG.a2 1 6 rfl rfl (fun X1 hX1 => ?_) (fun X6 hX6 => ?_)
  refine TL.call (M := []) rfl (enters Tryz.func15 rfl rfl) (List.Perm.refl _) rfl (fun w hw => by
      exact twin3_any (hL.ext (Chg.ext hw.chg))) ?_
  rintro t1
  refine TL.bun ?_
  refine TL.nil ?_
  refine TQ.nxt (hX1 _ _ hl9 ?_)
  exact RG.meet (hS37 ⟨t1, x9, x10, x11⟩) fs9 kt9
  refine TL.m Mk.bl ?_
  intro x6
  refine TL.nil ?_
  refine TQ.nxt (hX6 _ _ hl9 ?_)
  exact RG.meet (hS38 ⟨x6, x9, x10, x11⟩) fs9 kt9
  refine RG.later 16 [0, 2, 4, 6, 7, 10, 11] 9 (fun (⟨x6, x10, x11⟩ : (Nat) × (Nat) × (Nat)) => ((46, .slice (some ⟨x6, 0, none⟩) 0 0) :: (16, .pointer (some ⟨x10, 0, none⟩)) :: (17, .pointer (some ⟨x11, 0, none⟩)) :: wyF Y Z T W A L C D B O U V cw cl cn cc cd cb co cu cv b1 b2 b3 b4 : Fr)) (fun (⟨x6, x10, x11⟩ : (Nat) × (Nat) × (Nat)) => .blk x6 3 [] :: .blk x10 30 [.slice none 0 0, .slice none 0 0, .slice none 0 0] :: .blk x11 33 [.int .i64 0, .int .i64 0, .slice none 0 0, .slice none 0 0, .slice none 0 0] :: wyK Y Z T W A C D B O U V cw cl cc cd cb co cu cv b1 b2 b3 b4) ?_ (fun hS22 => ?_)
  rintro ⟨x6, x10, x11⟩
  dsimp only
  refine RG.a2 1 9 rfl rfl (fun X1 hX1 => ?_) (fun X9 hX9 => ?_)
  refine TL.call (M := []) rfl (enters Tryz.func15 rfl rfl) (List.Perm.refl _) rfl (fun w hw => by
      exact twin3_any (hL.ext (Chg.ext hw.chg))) ?_
  rintro t1
  refine TL.bun ?_
  refine TL.nil ?_
  refine TQ.nxt (hX1 _ _ hl9 ?_)
  exact RG.meet (hS36 ⟨t1, x6, x10, x11⟩) fs9 kt9
  refine TL.m (Mk.al ty_zr25) ?_
  intro x9
  refine TL.nil ?_
  refine TQ.nxt (hX9 _ _ hl9 ?_)
  exact RG.meet (hS38 ⟨x6, x9, x10, x11⟩) fs9 kt9
  refine RG.later 16 [0, 2, 4, 6, 7, 9, 11] 9 (fun (⟨x6, x9, x11⟩ : (Nat) × (Nat) × (Nat)) => ((46, .slice (some ⟨x6, 0, none⟩) 0 0) :: (15, .pointer (some ⟨x9, 0, none⟩)) :: (17, .pointer (some ⟨x11, 0, none⟩)) :: wyF Y Z T W A L C D B O U V cw cl cn cc cd cb co cu cv b1 b2 b3 b4 : Fr)) (fun (⟨x6, x9, x11⟩ : (Nat) × (Nat) × (Nat)) => .blk x6 3 [] :: .blk x9 25 [.slice none 0 0, .slice none 0 0] :: .blk x11 33 [.int .i64 0, .int .i64 0, .slice none 0 0, .slice none 0 0, .slice none 0 0] :: wyK Y Z T W A C D B O U V cw cl cc cd cb co cu cv b1 b2 b3 b4) ?_ (fun hS21 => ?_)
  rintro ⟨x6, x9, x11⟩
  dsimp only
  refine RG.a2 1 10 rfl rfl (fun X1 hX1 => ?_) (fun X10 hX10 => ?_)
  refine TL.call (M := []) rfl (enters Tryz.func15 rfl rfl) (List.Perm.refl _) rfl (fun w hw => by
      exact twin3_any (hL.ext (Chg.ext hw.chg))) ?_
  rintro t1
  refine TL.bun ?_
  refine TL.nil ?_
  refine TQ.nxt (hX1 _ _ hl9 ?_)
  exact RG.meet (hS35 ⟨t1, x6, x9, x11⟩) fs9 kt9
  refine TL.m (Mk.al ty_zr30) ?_
  intro x10
  refine TL.nil ?_
  refine TQ.nxt (hX10 _ _ hl9 ?_)
  exact RG.meet (hS38 ⟨x6, x9, x10, x11⟩) fs9 kt9
  refine RG.later 16 [0, 2, 4, 6, 7, 9, 10] 9 (fun (⟨x6, x9, x10⟩ : (Nat) × (Nat) × (Nat)) => ((46, .slice (some ⟨x6, 0, none⟩) 0 0) :: (15, .pointer (some ⟨x9, 0, none⟩)) :: (16, .pointer (some ⟨x10, 0, none⟩)) :: wyF Y Z T W A L C D B O U V cw cl cn cc cd cb co cu cv b1 b2 b3 b4 : Fr)) (fun (⟨x6, x9, x10⟩ : (Nat) × (Nat) × (Nat)) => .blk x6 3 [] :: .blk x9 25 [.slice none 0 0, .slice none 0 0] :: .blk x10 30 [.slice none 0 0, .slice none 0 0, .slice none 0 0] :: wyK Y Z T W A C D B O U V cw cl cc cd cb co cu cv b1 b2 b3 b4) ?_ (fun hS20 => ?_)
  rintro ⟨x6, x9, x10⟩
  dsimp only
  refine RG.a2 1 11 rfl rfl (fun X1 hX1 => ?_) (fun X11 hX11 => ?_)
  refine TL.call (M := []) rfl (enters Tryz.func15 rfl rfl) (List.Perm.refl _) rfl (fun w hw => by
      exact twin3_any (hL.ext (Chg.ext hw.chg))) ?_
  rintro t1
  refine TL.bun ?_
  refine TL.nil ?_
  refine TQ.nxt (hX1 _ _ hl9 ?_)
  exact RG.meet (hS34 ⟨t1, x6, x9, x10⟩) fs9 kt9
  refine TL.m (Mk.al ty_zr33) ?_
  intro x11
  refine TL.nil ?_
  refine TQ.nxt (hX11 _ _ hl9 ?_)
  exact RG.meet (hS38 ⟨x6, x9, x10, x11⟩) fs9 kt9
  refine RG.later 16 [0, 1, 2, 4, 7, 10, 11] 9 (fun (⟨t1, x10, x11⟩ : (TLx) × (Nat) × (Nat)) => ((41, wyL Y t1) :: (16, .pointer (some ⟨x10, 0, none⟩)) :: (17, .pointer (some ⟨x11, 0, none⟩)) :: wyF Y Z T W A L C D B O U V cw cl cn cc cd cb co cu cv b1 b2 b3 b4 : Fr)) (fun (⟨t1, x10, x11⟩ : (TLx) × (Nat) × (Nat)) => bun (wyA Y t1) :: .blk x10 30 [.slice none 0 0, .slice none 0 0, .slice none 0 0] :: .blk x11 33 [.int .i64 0, .int .i64 0, .slice none 0 0, .slice none 0 0, .slice none 0 0] :: wyK Y Z T W A C D B O U V cw cl cc cd cb co cu cv b1 b2 b3 b4) ?_ (fun hS19 => ?_)
  rintro ⟨t1, x10, x11⟩
  dsimp only
  refine RG.a3 3 6 9 rfl rfl rfl (fun X3 hX3 => ?_) (fun X6 hX6 => ?_) (fun X9 hX9 => ?_)
  refine TL.call (M := []) rfl (enters Tryz.func16 rfl rfl) (List.Perm.refl _) rfl (fun w hw => by
      exact twinCustom_tw (hC.ext (Chg.ext hw.chg))) ?_
  rintro t2
  refine TL.bun ?_
  refine TL.nil ?_
  refine TQ.nxt (hX3 _ _ hl9 ?_)
  exact RG.meet (hS33 ⟨t1, t2, x10, x11⟩) fs9 kt9
  refine TL.m Mk.bl ?_
  intro x6
  refine TL.nil ?_
  refine TQ.nxt (hX6 _ _ hl9 ?_)
  exact RG.meet (hS36 ⟨t1, x6, x10, x11⟩) fs9 kt9
  refine TL.m (Mk.al ty_zr25) ?_
  intro x9
  refine TL.nil ?_
  refine TQ.nxt (hX9 _ _ hl9 ?_)
  exact RG.meet (hS37 ⟨t1, x9, x10, x11⟩) fs9 kt9
  refine RG.later 16 [0, 1, 2, 4, 7, 9, 11] 9 (fun (⟨t1, x9, x11⟩ : (TLx) × (Nat) × (Nat)) => ((41, wyL Y t1) :: (15, .pointer (some ⟨x9, 0, none⟩)) :: (17, .pointer (some ⟨x11, 0, none⟩)) :: wyF Y Z T W A L C D B O U V cw cl cn cc cd cb co cu cv b1 b2 b3 b4 : Fr)) (fun (⟨t1, x9, x11⟩ : (TLx) × (Nat) × (Nat)) => bun (wyA Y t1) :: .blk x9 25 [.slice none 0 0, .slice none 0 0] :: .blk x11 33 [.int .i64 0, .int .i64 0, .slice none 0 0, .slice none 0 0, .slice none 0 0] :: wyK Y Z T W A C D B O U V cw cl cc cd cb co cu cv b1 b2 b3 b4) ?_ (fun hS18 => ?_)
  rintro ⟨t1, x9, x11⟩
  dsimp only
  refine RG.a3 3 6 10 rfl rfl rfl (fun X3 hX3 => ?_) (fun X6 hX6 => ?_) (fun X10 hX10 => ?_)
  refine TL.call (M := []) rfl (enters Tryz.func16 rfl rfl) (List.Perm.refl _) rfl (fun w hw => by
      exact twinCustom_tw (hC.ext (Chg.ext hw.chg))) ?_
  rintro t2
  refine TL.bun ?_
  refine TL.nil ?_
  refine TQ.nxt (hX3 _ _ hl9 ?_)
  exact RG.meet (hS32 ⟨t1, t2, x9, x11⟩) fs9 kt9
  refine TL.m Mk.bl ?_
  intro x6
  refine TL.nil ?_
  refine TQ.nxt (hX6 _ _ hl9 ?_)
  exact RG.meet (hS35 ⟨t1, x6, x9, x11⟩) fs9 kt9
  refine TL.m (Mk.al ty_zr30) ?_
  intro x10
  refine TL.nil ?_
  refine TQ.nxt (hX10 _ _ hl9 ?_)
  exact RG.meet (hS37 ⟨t1, x9, x10, x11⟩) fs9 kt9
  refine RG.later 16 [0, 1, 2, 4, 7, 9, 10] 9 (fun (⟨t1, x9, x10⟩ : (TLx) × (Nat) × (Nat)) => ((41, wyL Y t1) :: (15, .pointer (some ⟨x9, 0, none⟩)) :: (16, .pointer (some ⟨x10, 0, none⟩)) :: wyF Y Z T W A L C D B O U V cw cl cn cc cd cb co cu cv b1 b2 b3 b4 : Fr)) (fun (⟨t1, x9, x10⟩ : (TLx) × (Nat) × (Nat)) => bun (wyA Y t1) :: .blk x9 25 [.slice none 0 0, .slice none 0 0] :: .blk x10 30 [.slice none 0 0, .slice none 0 0, .slice none 0 0] :: wyK Y Z T W A C D B O U V cw cl cc cd cb co cu cv b1 b2 b3 b4) ?_ (fun hS17 => ?_)
  rintro ⟨t1, x9, x10⟩
  dsimp only
  refine RG.a3 3 6 11 rfl rfl rfl (fun X3 hX3 => ?_) (fun X6 hX6 => ?_) (fun X11 hX11 => ?_)
  refine TL.call (M := []) rfl (enters Tryz.func16 rfl rfl) (List.Perm.refl _) rfl (fun w hw => by
      exact twinCustom_tw (hC.ext (Chg.ext hw.chg))) ?_
  rintro t2
  refine TL.bun ?_
  refine TL.nil ?_
  refine TQ.nxt (hX3 _ _ hl9 ?_)
  exact RG.meet (hS31 ⟨t1, t2, x9, x10⟩) fs9 kt9
  refine TL.m Mk.bl ?_
  intro x6
  refine TL.nil ?_
  refine TQ.nxt (hX6 _ _ hl9 ?_)
  exact RG.meet (hS34 ⟨t1, x6, x9, x10⟩) fs9 kt9
  refine TL.m (Mk.al ty_zr33) ?_
  intro x11
  refine TL.nil ?_
  refine TQ.nxt (hX11 _ _ hl9 ?_)
  exact RG.meet (hS37 ⟨t1, x9, x10, x11⟩) fs9 kt9
  refine RG.later 16 [0, 1, 2, 4, 6, 7, 11] 9 (fun (⟨t1, x6, x11⟩ : (TLx) × (Nat) × (Nat)) => ((41, wyL Y t1) :: (46, .slice (some ⟨x6, 0, none⟩) 0 0) :: (17, .pointer (some ⟨x11, 0, none⟩)) :: wyF Y Z T W A L C D B O U V cw cl cn cc cd cb co cu cv b1 b2 b3 b4 : Fr)) (fun (⟨t1, x6, x11⟩ : (TLx) × (Nat) × (Nat)) => bun (wyA Y t1) :: .blk x6 3 [] :: .blk x11 33 [.int .i64 0, .int .i64 0, .slice none 0 0, .slice none 0 0, .slice none 0 0] :: wyK Y Z T W A C D B O U V cw cl cc cd cb co cu cv b1 b2 b3 b4) ?_ (fun hS16 => ?_)
  rintro ⟨t1, x6, x11⟩
  dsimp only
  refine RG.a3 3 9 10 rfl rfl rfl (fun X3 hX3 => ?_) (fun X9 hX9 => ?_) (fun X10 hX10 => ?_)
  refine TL.call (M := []) rfl (enters Tryz.func16 rfl rfl) (List.Perm.refl _) rfl (fun w hw => by
      exact twinCustom_tw (hC.ext (Chg.ext hw.chg))) ?_
  rintro t2
  refine TL.bun ?_
  refine TL.nil ?_
  refine TQ.nxt (hX3 _ _ hl9 ?_)
  exact RG.meet (hS30 ⟨t1, t2, x6, x11⟩) fs9 kt9
  refine TL.m (Mk.al ty_zr25) ?_
  intro x9
  refine TL.nil ?_
  refine TQ.nxt (hX9 _ _ hl9 ?_)
  exact RG.meet (hS35 ⟨t1, x6, x9, x11⟩) fs9 kt9
  refine TL.m (Mk.al ty_zr30) ?_
  intro x10
  refine TL.nil ?_
  refine TQ.nxt (hX10 _ _ hl9 ?_)
  exact RG.meet (hS36 ⟨t1, x6, x10, x11⟩) fs9 kt9
  refine RG.later 16 [0, 1, 2, 4, 6, 7, 10] 9 (fun (⟨t1, x6, x10⟩ : (TLx) × (Nat) × (Nat)) => ((41, wyL Y t1) :: (46, .slice (some ⟨x6, 0, none⟩) 0 0) :: (16, .pointer (some ⟨x10, 0, none⟩)) :: wyF Y Z T W A L C D B O U V cw cl cn cc cd cb co cu cv b1 b2 b3 b4 : Fr)) (fun (⟨t1, x6, x10⟩ : (TLx) × (Nat) × (Nat)) => bun (wyA Y t1) :: .blk x6 3 [] :: .blk x10 30 [.slice none 0 0, .slice none 0 0, .slice none 0 0] :: wyK Y Z T W A C D B O U V cw cl cc cd cb co cu cv b1 b2 b3 b4) ?_ (fun hS15 => ?_)
  rintro ⟨t1, x6, x10⟩
  dsimp only
  refine RG.a3 3 9 11 rfl rfl rfl (fun X3 hX3 => ?_) (fun X9 hX9 => ?_) (fun X11 hX11 => ?_)
  refine TL.call (M := []) rfl (enters Tryz.func16 rfl rfl) (List.Perm.refl _) rfl (fun w hw => by
      exact twinCustom_tw (hC.ext (Chg.ext hw.chg))) ?_
  rintro t2
  refine TL.bun ?_
  refine TL.nil ?_
  refine TQ.nxt (hX3 _ _ hl9 ?_)
  exact RG.meet (hS29 ⟨t1, t2, x6, x10⟩) fs9 kt9
  refine TL.m (Mk.al ty_zr25) ?_
  intro x9
  refine TL.nil ?_
  refine TQ.nxt (hX9 _ _ hl9 ?_)
  exact RG.meet (hS34 ⟨t1, x6, x9, x10⟩) fs9 kt9
  refine TL.m (Mk.al ty_zr33) ?_
  intro x11
  refine TL.nil ?_
  refine TQ.nxt (hX11 _ _ hl9 ?_)
  exact RG.meet (hS36 ⟨t1, x6, x10, x11⟩) fs9 kt9
  refine RG.later 16 [0, 1, 2, 4, 6, 7, 9] 9 (fun (⟨t1, x6, x9⟩ : (TLx) × (Nat) × (Nat)) => ((41, wyL Y t1) :: (46, .slice (some ⟨x6, 0, none⟩) 0 0) :: (15, .pointer (some ⟨x9, 0, none⟩)) :: wyF Y Z T W A L C D B O U V cw cl cn cc cd cb co cu cv b1 b2 b3 b4 : Fr)) (fun (⟨t1, x6, x9⟩ : (TLx) × (Nat) × (Nat)) => bun (wyA Y t1) :: .blk x6 3 [] :: .blk x9 25 [.slice none 0 0, .slice none 0 0] :: wyK Y Z T W A C D B O U V cw cl cc cd cb co cu cv b1 b2 b3 b4) ?_ (fun hS14 => ?_)
  rintro ⟨t1, x6, x9⟩
  dsimp only
  refine RG.a3 3 10 11 rfl rfl rfl (fun X3 hX3 => ?_) (fun X10 hX10 => ?_) (fun X11 hX11 => ?_)
  refine TL.call (M := []) rfl (enters Tryz.func16 rfl rfl) (List.Perm.refl _) rfl (fun w hw => by
      exact twinCustom_tw (hC.ext (Chg.ext hw.chg))) ?_
  rintro t2
  refine TL.bun ?_
  refine TL.nil ?_
  refine TQ.nxt (hX3 _ _ hl9 ?_)
  exact RG.meet (hS28 ⟨t1, t2, x6, x9⟩) fs9 kt9
  refine TL.m (Mk.al ty_zr30) ?_
  intro x10
  refine TL.nil ?_
  refine TQ.nxt (hX10 _ _ hl9 ?_)
  exact RG.meet (hS34 ⟨t1, x6, x9, x10⟩) fs9 kt9
  refine TL.m (Mk.al ty_zr33) ?_
  intro x11
  refine TL.nil ?_
  refine TQ.nxt (hX11 _ _ hl9 ?_)
  exact RG.meet (hS35 ⟨t1, x6, x9, x11⟩) fs9 kt9
  refine RG.later 16 [0, 1, 2, 3, 4, 7, 11] 9 (fun (⟨t1, t2, x11⟩ : (TLx) × (TCx) × (Nat)) => ((41, wyL Y t1) :: (43, wyC Z t2) :: (17, .pointer (some ⟨x11, 0, none⟩)) :: wyF Y Z T W A L C D B O U V cw cl cn cc cd cb co cu cv b1 b2 b3 b4 : Fr)) (fun (⟨t1, t2, x11⟩ : (TLx) × (TCx) × (Nat)) => bun (wyA Y t1) :: bun (wyB Z t2) :: .blk x11 33 [.int .i64 0, .int .i64 0, .slice none 0 0, .slice none 0 0, .slice none 0 0] :: wyK Y Z T W A C D B O U V cw cl cc cd cb co cu cv b1 b2 b3 b4) ?_ (fun hS13 => ?_)
  rintro ⟨t1, t2, x11⟩
  dsimp only
  refine RG.a4 5 6 9 10 rfl rfl rfl rfl (fun X5 hX5 => ?_) (fun X6 hX6 => ?_) (fun X9 hX9 => ?_) (fun X10 hX10 => ?_)
  refine TL.call (M := []) rfl (enters Tryz.func17 rfl rfl) (List.Perm.refl _) rfl (fun w hw => by
      exact twinTroop_any (hT.ext (Chg.ext hw.chg))) ?_
  rintro t3
  refine TL.bun ?_
  refine TL.nil ?_
  refine TQ.nxt (hX5 _ _ hl9 ?_)
  exact RG.meet (hS27 ⟨t1, t2, t3, x11⟩) fs9 kt9
  refine TL.m Mk.bl ?_
  intro x6
  refine TL.nil ?_
  refine TQ.nxt (hX6 _ _ hl9 ?_)
  exact RG.meet (hS30 ⟨t1, t2, x6, x11⟩) fs9 kt9
  refine TL.m (Mk.al ty_zr25) ?_
  intro x9
  refine TL.nil ?_
  refine TQ.nxt (hX9 _ _ hl9 ?_)
  exact RG.meet (hS32 ⟨t1, t2, x9, x11⟩) fs9 kt9
  refine TL.m (Mk.al ty_zr30) ?_
  intro x10
  refine TL.nil ?_
  refine TQ.nxt (hX10 _ _ hl9 ?_)
  exact RG.meet (hS33 ⟨t1, t2, x10, x11⟩) fs9 kt9
  refine RG.later 16 [0, 1, 2, 3, 4, 7, 10] 9 (fun (⟨t1, t2, x10⟩ : (TLx) × (TCx) × (Nat)) => ((41, wyL Y t1) :: (43, wyC Z t2) :: (16, .pointer (some ⟨x10, 0, none⟩)) :: wyF Y Z T W A L C D B O U V cw cl cn cc cd cb co cu cv b1 b2 b3 b4 : Fr)) (fun (⟨t1, t2, x10⟩ : (TLx) × (TCx) × (Nat)) => bun (wyA Y t1) :: bun (wyB Z t2) :: .blk x10 30 [.slice none 0 0, .slice none 0 0, .slice none 0 0] :: wyK Y Z T W A C D B O U V cw cl cc cd cb co cu cv b1 b2 b3 b4) ?_ (fun hS12 => ?_)
  rintro ⟨t1, t2, x10⟩
  dsimp only
  refine RG.a4 5 6 9 11 rfl rfl rfl rfl (fun X5 hX5 => ?_) (fun X6 hX6 => ?_) (fun X9 hX9 => ?_) (fun X11 hX11 => ?_)
  refine TL.call (M := []) rfl (enters Tryz.func17 rfl rfl) (List.Perm.refl _) rfl (fun w hw => by
      exact twinTroop_any (hT.ext (Chg.ext hw.chg))) ?_
  rintro t3
  refine TL.bun ?_
  refine TL.nil ?_
  refine TQ.nxt (hX5 _ _ hl9 ?_)
  exact RG.meet (hS26 ⟨t1, t2, t3, x10⟩) fs9 kt9
  refine TL.m Mk.bl ?_
  intro x6
  refine TL.nil ?_
  refine TQ.nxt (hX6 _ _ hl9 ?_)
  exact RG.meet (hS29 ⟨t1, t2, x6, x10⟩) fs9 kt9
  refine TL.m (Mk.al ty_zr25) ?_
  intro x9
  refine TL.nil ?_
  refine TQ.nxt (hX9 _ _ hl9 ?_)
  exact RG.meet (hS31 ⟨t1, t2, x9, x10⟩) fs9 kt9
  refine TL.m (Mk.al ty_zr33) ?_
  intro x11
  refine TL.nil ?_
  refine TQ.nxt (hX11 _ _ hl9 ?_)
  exact RG.meet (hS33 ⟨t1, t2, x10, x11⟩) fs9 kt9
  refine RG.later 16 [0, 1, 2, 3, 4, 7, 9] 9 (fun (⟨t1, t2, x9⟩ : (TLx) × (TCx) × (Nat)) => ((41, wyL Y t1) :: (43, wyC Z t2) :: (15, .pointer (some ⟨x9, 0, none⟩)) :: wyF Y Z T W A L C D B O U V cw cl cn cc cd cb co cu cv b1 b2 b3 b4 : Fr)) (fun (⟨t1, t2, x9⟩ : (TLx) × (TCx) × (Nat)) => bun (wyA Y t1) :: bun (wyB Z t2) :: .blk x9 25 [.slice none 0 0, .slice none 0 0] :: wyK Y Z T W A C D B O U V cw cl cc cd cb co cu cv b1 b2 b3 b4) ?_ (fun hS11 => ?_)
  rintro ⟨t1, t2, x9⟩
  dsimp only
  refine RG.a4 5 6 10 11 rfl rfl rfl rfl (fun X5 hX5 => ?_) (fun X6 hX6 => ?_) (fun X10 hX10 => ?_) (fun X11 hX11 => ?_)
  refine TL.call (M := []) rfl (enters Tryz.func17 rfl rfl) (List.Perm.refl _) rfl (fun w hw => by
      exact twinTroop_any (hT.ext (Chg.ext hw.chg))) ?_
  rintro t3
  refine TL.bun ?_
  refine TL.nil ?_
  refine TQ.nxt (hX5 _ _ hl9 ?_)
  exact RG.meet (hS25 ⟨t1, t2, t3, x9⟩) fs9 kt9
  refine TL.m Mk.bl ?_
  intro x6
  refine TL.nil ?_
  refine TQ.nxt (hX6 _ _ hl9 ?_)
  exact RG.meet (hS28 ⟨t1, t2, x6, x9⟩) fs9 kt9
  refine TL.m (Mk.al ty_zr30) ?_
  intro x10
  refine TL.nil ?_
  refine TQ.nxt (hX10 _ _ hl9 ?_)
  exact RG.meet (hS31 ⟨t1, t2, x9, x10⟩) fs9 kt9
  refine TL.m (Mk.al ty_zr33) ?_
  intro x11
  refine TL.nil ?_
  refine TQ.nxt (hX11 _ _ hl9 ?_)
  exact RG.meet (hS32 ⟨t1, t2, x9, x11⟩) fs9 kt9
  refine RG.later 16 [0, 1, 2, 3, 4, 6, 7] 9 (fun (⟨t1, t2, x6⟩ : (TLx) × (TCx) × (Nat)) => ((41, wyL Y t1) :: (43, wyC Z t2) :: (46, .slice (some ⟨x6, 0, none⟩) 0 0) :: wyF Y Z T W A L C D B O U V cw cl cn cc cd cb co cu cv b1 b2 b3 b4 : Fr)) (fun (⟨t1, t2, x6⟩ : (TLx) × (TCx) × (Nat)) => bun (wyA Y t1) :: bun (wyB Z t2) :: .blk x6 3 [] :: wyK Y Z T W A C D B O U V cw cl cc cd cb co cu cv b1 b2 b3 b4) ?_ (fun hS10 => ?_)
  rintro ⟨t1, t2, x6⟩
  dsimp only
  refine RG.a4 5 9 10 11 rfl rfl rfl rfl (fun X5 hX5 => ?_) (fun X9 hX9 => ?_) (fun X10 hX10 => ?_) (fun X11 hX11 => ?_)
  refine TL.call (M := []) rfl (enters Tryz.func17 rfl rfl) (List.Perm.refl _) rfl (fun w hw => by
      exact twinTroop_any (hT.ext (Chg.ext hw.chg))) ?_
  rintro t3
  refine TL.bun ?_
  refine TL.nil ?_
  refine TQ.nxt (hX5 _ _ hl9 ?_)
  exact RG.meet (hS24 ⟨t1, t2, t3, x6⟩) fs9 kt9
  refine TL.m (Mk.al ty_zr25) ?_
  intro x9
  refine TL.nil ?_
  refine TQ.nxt (hX9 _ _ hl9 ?_)
  exact RG.meet (hS28 ⟨t1, t2, x6, x9⟩) fs9 kt9
  refine TL.m (Mk.al ty_zr30) ?_
  intro x10
  refine TL.nil ?_
  refine TQ.nxt (hX10 _ _ hl9 ?_)
  exact RG.meet (hS29 ⟨t1, t2, x6, x10⟩) fs9 kt9
  refine TL.m (Mk.al ty_zr33) ?_
  intro x11
  refine TL.nil ?_
  refine TQ.nxt (hX11 _ _ hl9 ?_)
  exact RG.meet (hS30 ⟨t1, t2, x6, x11⟩) fs9 kt9
  refine RG.later 16 [0, 2, 4, 7, 10, 11] 10 (fun (⟨x10, x11⟩ : (Nat) × (Nat)) => ((16, .pointer (some ⟨x10, 0, none⟩)) :: (17, .pointer (some ⟨x11, 0, none⟩)) :: wyF Y Z T W A L C D B O U V cw cl cn cc cd cb co cu cv b1 b2 b3 b4 : Fr)) (fun (⟨x10, x11⟩ : (Nat) × (Nat)) => .blk x10 30 [.slice none 0 0, .slice none 0 0, .slice none 0 0] :: .blk x11 33 [.int .i64 0, .int .i64 0, .slice none 0 0, .slice none 0 0, .slice none 0 0] :: wyK Y Z T W A C D B O U V cw cl cc cd cb co cu cv b1 b2 b3 b4) ?_ (fun hS9 => ?_)
  rintro ⟨x10, x11⟩
  dsimp only
  refine RG.a3 1 6 9 rfl rfl rfl (fun X1 hX1 => ?_) (fun X6 hX6 => ?_) (fun X9 hX9 => ?_)
  refine TL.call (M := []) rfl (enters Tryz.func15 rfl rfl) (List.Perm.refl _) rfl (fun w hw => by
      exact twin3_any (hL.ext (Chg.ext hw.chg))) ?_
  rintro t1
  refine TL.bun ?_
  refine TL.nil ?_
  refine TQ.nxt (hX1 _ _ hl9 ?_)
  exact RG.meet (hS19 ⟨t1, x10, x11⟩) fs9 kt9
  refine TL.m Mk.bl ?_
  intro x6
  refine TL.nil ?_
  refine TQ.nxt (hX6 _ _ hl9 ?_)
  exact RG.meet (hS22 ⟨x6, x10, x11⟩) fs9 kt9
  refine TL.m (Mk.al ty_zr25) ?_
  intro x9
  refine TL.nil ?_
  refine TQ.nxt (hX9 _ _ hl9 ?_)
  exact RG.meet (hS23 ⟨x9, x10, x11⟩) fs9 kt9
  refine RG.later 16 [0, 2, 4, 7, 9, 11] 10 (fun (⟨x9, x11⟩ : (Nat) × (Nat)) => ((15, .pointer (some ⟨x9, 0, none⟩)) :: (17, .pointer (some ⟨x11, 0, none⟩)) :: wyF Y Z T W A L C D B O U V cw cl cn cc cd cb co cu cv b1 b2 b3 b4 : Fr)) (fun (⟨x9, x11⟩ : (Nat) × (Nat)) => .blk x9 25 [.slice none 0 0, .slice none 0 0] :: .blk x11 33 [.int .i64 0, .int .i64 0, .slice none 0 0, .slice none 0 0, .slice none 0 0] :: wyK Y Z T W A C D B O U V cw cl cc cd cb co cu cv b1 b2 b3 b4) ?_ (fun hS8 => ?_)
  rintro ⟨x9, x11⟩
  dsimp only
  refine RG.a3 1 6 10 rfl rfl rfl (fun X1 hX1 => ?_) (fun X6 hX6 => ?_) (fun X10 hX10 => ?_)
  refine TL.call (M := []) rfl (enters Tryz.func15 rfl rfl) (List.Perm.refl _) rfl (fun w hw => by
      exact twin3_any (hL.ext (Chg.ext hw.chg))) ?_
  rintro t1
  refine TL.bun ?_
  refine TL.nil ?_
  refine TQ.nxt (hX1 _ _ hl9 ?_)
  exact RG.meet (hS18 ⟨t1, x9, x11⟩) fs9 kt9
  refine TL.m Mk.bl ?_
  intro x6
  refine TL.nil ?_
  refine TQ.nxt (hX6 _ _ hl9 ?_)
  exact RG.meet (hS21 ⟨x6, x9, x11⟩) fs9 kt9
  refine TL.m (Mk.al ty_zr30) ?_
  intro x10
  refine TL.nil ?_
  refine TQ.nxt (hX10 _ _ hl9 ?_)
  exact RG.meet (hS23 ⟨x9, x10, x11⟩) fs9 kt9
  refine RG.later 16 [0, 2, 4, 7, 9, 10] 10 (fun (⟨x9, x10⟩ : (Nat) × (Nat)) => ((15, .pointer (some ⟨x9, 0, none⟩)) :: (16, .pointer (some ⟨x10, 0, none⟩)) :: wyF Y Z T W A L C D B O U V cw cl cn cc cd cb co cu cv b1 b2 b3 b4 : Fr)) (fun (⟨x9, x10⟩ : (Nat) × (Nat)) => .blk x9 25 [.slice none 0 0, .slice none 0 0] :: .blk x10 30 [.slice none 0 0, .slice none 0 0, .slice none 0 0] :: wyK Y Z T W A C D B O U V cw cl cc cd cb co cu cv b1 b2 b3 b4) ?_ (fun hS7 => ?_)
  rintro ⟨x9, x10⟩
  dsimp only
  refine RG.a3 1 6 11 rfl rfl rfl (fun X1 hX1 => ?_) (fun X6 hX6 => ?_) (fun X11 hX11 => ?_)
  refine TL.call (M := []) rfl (enters Tryz.func15 rfl rfl) (List.Perm.refl _) rfl (fun w hw => by
      exact twin3_any (hL.ext (Chg.ext hw.chg))) ?_
  rintro t1
  refine TL.bun ?_
  refine TL.nil ?_
  refine TQ.nxt (hX1 _ _ hl9 ?_)
  exact RG.meet (hS17 ⟨t1, x9, x10⟩) fs9 kt9
  refine TL.m Mk.bl ?_
  intro x6
  refine TL.nil ?_
  refine TQ.nxt (hX6 _ _ hl9 ?_)
  exact RG.meet (hS20 ⟨x6, x9, x10⟩) fs9 kt9
  refine TL.m (Mk.al ty_zr33) ?_
  intro x11
  refine TL.nil ?_
  refine TQ.nxt (hX11 _ _ hl9 ?_)
  exact RG.meet (hS23 ⟨x9, x10, x11⟩) fs9 kt9
  refine RG.later 16 [0, 2, 4, 6, 7, 11] 10 (fun (⟨x6, x11⟩ : (Nat) × (Nat)) => ((46, .slice (some ⟨x6, 0, none⟩) 0 0) :: (17, .pointer (some ⟨x11, 0, none⟩)) :: wyF Y Z T W A L C D B O U V cw cl cn cc cd cb co cu cv b1 b2 b3 b4 : Fr)) (fun (⟨x6, x11⟩ : (Nat) × (Nat)) => .blk x6 3 [] :: .blk x11 33 [.int .i64 0, .int .i64 0, .slice none 0 0, .slice none 0 0, .slice none 0 0] :: wyK Y Z T W A C D B O U V cw cl cc cd cb co cu cv b1 b2 b3 b4) ?_ (fun hS6 => ?_)
  rintro ⟨x6, x11⟩
  dsimp only
  refine RG.a3 1 9 10 rfl rfl rfl (fun X1 hX1 => ?_) (fun X9 hX9 => ?_) (fun X10 hX10 => ?_)
  refine TL.call (M := []) rfl (enters Tryz.func15 rfl rfl) (List.Perm.refl _) rfl (fun w hw => by
      exact twin3_any (hL.ext (Chg.ext hw.chg))) ?_
  rintro t1
  refine TL.bun ?_
  refine TL.nil ?_
  refine TQ.nxt (hX1 _ _ hl9 ?_)
  exact RG.meet (hS16 ⟨t1, x6, x11⟩) fs9 kt9
  refine TL.m (Mk.al ty_zr25) ?_
  intro x9
  refine TL.nil ?_
  refine TQ.nxt (hX9 _ _ hl9 ?_)
  exact RG.meet (hS21 ⟨x6, x9, x11⟩) fs9 kt9
  refine TL.m (Mk.al ty_zr30) ?_
  intro x10
  refine TL.nil ?_
  refine TQ.nxt (hX10 _ _ hl9 ?_)
  exact RG.meet (hS22 ⟨x6, x10, x11⟩) fs9 kt9
  refine RG.later 16 [0, 2, 4, 6, 7, 10] 10 (fun (⟨x6, x10⟩ : (Nat) × (Nat)) => ((46, .slice (some ⟨x6, 0, none⟩) 0 0) :: (16, .pointer (some ⟨x10, 0, none⟩)) :: wyF Y Z T W A L C D B O U V cw cl cn cc cd cb co cu cv b1 b2 b3 b4 : Fr)) (fun (⟨x6, x10⟩ : (Nat) × (Nat)) => .blk x6 3 [] :: .blk x10 30 [.slice none 0 0, .slice none 0 0, .slice none 0 0] :: wyK Y Z T W A C D B O U V cw cl cc cd cb co cu cv b1 b2 b3 b4) ?_ (fun hS5 => ?_)
  rintro ⟨x6, x10⟩
  dsimp only
  refine RG.a3 1 9 11 rfl rfl rfl (fun X1 hX1 => ?_) (fun X9 hX9 => ?_) (fun X11 hX11 => ?_)
  refine TL.call (M := []) rfl (enters Tryz.func15 rfl rfl) (List.Perm.refl _) rfl (fun w hw => by
      exact twin3_any (hL.ext (Chg.ext hw.chg))) ?_
  rintro t1
  refine TL.bun ?_
  refine TL.nil ?_
  refine TQ.nxt (hX1 _ _ hl9 ?_)
  exact RG.meet (hS15 ⟨t1, x6, x10⟩) fs9 kt9
  refine TL.m (Mk.al ty_zr25) ?_
  intro x9
  refine TL.nil ?_
  refine TQ.nxt (hX9 _ _ hl9 ?_)
  exact RG.meet (hS20 ⟨x6, x9, x10⟩) fs9 kt9
  refine TL.m (Mk.al ty_zr33) ?_
  intro x11
  refine TL.nil ?_
  refine TQ.nxt (hX11 _ _ hl9 ?_)
  exact RG.meet (hS22 ⟨x6, x10, x11⟩) fs9 kt9
  refine RG.later 16 [0, 2, 4, 6, 7, 9] 10 (fun (⟨x6, x9⟩ : (Nat) × (Nat)) => ((46, .slice (some ⟨x6, 0, none⟩) 0 0) :: (15, .pointer (some ⟨x9, 0, none⟩)) :: wyF Y Z T W A L C D B O U V cw cl cn cc cd cb co cu cv b1 b2 b3 b4 : Fr)) (fun (⟨x6, x9⟩ : (Nat) × (Nat)) => .blk x6 3 [] :: .blk x9 25 [.slice none 0 0, .slice none 0 0] :: wyK Y Z T W A C D B O U V cw cl cc cd cb co cu cv b1 b2 b3 b4) ?_ (fun hS4 => ?_)
  rintro ⟨x6, x9⟩
  dsimp only
  refine RG.a3 1 10 11 rfl rfl rfl (fun X1 hX1 => ?_) (fun X10 hX10 => ?_) (fun X11 hX11 => ?_)
  refine TL.call (M := []) rfl (enters Tryz.func15 rfl rfl) (List.Perm.refl _) rfl (fun w hw => by
      exact twin3_any (hL.ext (Chg.ext hw.chg))) ?_
  rintro t1
  refine TL.bun ?_
  refine TL.nil ?_
  refine TQ.nxt (hX1 _ _ hl9 ?_)
  exact RG.meet (hS14 ⟨t1, x6, x9⟩) fs9 kt9
  refine TL.m (Mk.al ty_zr30) ?_
  intro x10
  refine TL.nil ?_
  refine TQ.nxt (hX10 _ _ hl9 ?_)
  exact RG.meet (hS20 ⟨x6, x9, x10⟩) fs9 kt9
  refine TL.m (Mk.al ty_zr33) ?_
  intro x11
  refine TL.nil ?_
  refine TQ.nxt (hX11 _ _ hl9 ?_)
  exact RG.meet (hS21 ⟨x6, x9, x11⟩) fs9 kt9
  refine RG.later 16 [0, 1, 2, 4, 7, 11] 10 (fun (⟨t1, x11⟩ : (TLx) × (Nat)) => ((41, wyL Y t1) :: (17, .pointer (some ⟨x11, 0, none⟩)) :: wyF Y Z T W A L C D B O U V cw cl cn cc cd cb co cu cv b1 b2 b3 b4 : Fr)) (fun (⟨t1, x11⟩ : (TLx) × (Nat)) => bun (wyA Y t1) :: .blk x11 33 [.int .i64 0, .int .i64 0, .slice none 0 0, .slice none 0 0, .slice none 0 0] :: wyK Y Z T W A C D B O U V cw cl cc cd cb co cu cv b1 b2 b3 b4) ?_ (fun hS3 => ?_)
  rintro ⟨t1, x11⟩
  dsimp only
  refine RG.a4 3 6 9 10 rfl rfl rfl rfl (fun X3 hX3 => ?_) (fun X6 hX6 => ?_) (fun X9 hX9 => ?_) (fun X10 hX10 => ?_)
  refine TL.call (M := []) rfl (enters Tryz.func16 rfl rfl) (List.Perm.refl _) rfl (fun w hw => by
      exact twinCustom_tw (hC.ext (Chg.ext hw.chg))) ?_
  rintro t2
  refine TL.bun ?_
  refine TL.nil ?_
  refine TQ.nxt (hX3 _ _ hl9 ?_)
  exact RG.meet (hS13 ⟨t1, t2, x11⟩) fs9 kt9
  refine TL.m Mk.bl ?_
  intro x6
  refine TL.nil ?_
  refine TQ.nxt (hX6 _ _ hl9 ?_)
  exact RG.meet (hS16 ⟨t1, x6, x11⟩) fs9 kt9
  refine TL.m (Mk.al ty_zr25) ?_
  intro x9
  refine TL.nil ?_
  refine TQ.nxt (hX9 _ _ hl9 ?_)
  exact RG.meet (hS18 ⟨t1, x9, x11⟩) fs9 kt9
  refine TL.m (Mk.al ty_zr30) ?_
  intro x10
  refine TL.nil ?_
  refine TQ.nxt (hX10 _ _ hl9 ?_)
  exact RG.meet (hS19 ⟨t1, x10, x11⟩) fs9 kt9
  refine RG.later 16 [0, 1, 2, 4, 7, 10] 10 (fun (⟨t1, x10⟩ : (TLx) × (Nat)) => ((41, wyL Y t1) :: (16, .pointer (some ⟨x10, 0, none⟩)) :: wyF Y Z T W A L C D B O U V cw cl cn cc cd cb co cu cv b1 b2 b3 b4 : Fr)) (fun (⟨t1, x10⟩ : (TLx) × (Nat)) => bun (wyA Y t1) :: .blk x10 30 [.slice none 0 0, .slice none 0 0, .slice none 0 0] :: wyK Y Z T W A C D B O U V cw cl cc cd cb co cu cv b1 b2 b3 b4) ?_ (fun hS2 => ?_)
  rintro ⟨t1, x10⟩
  dsimp only
  refine RG.a4 3 6 9 11 rfl rfl rfl rfl (fun X3 hX3 => ?_) (fun X6 hX6 => ?_) (fun X9 hX9 => ?_) (fun X11 hX11 => ?_)
  refine TL.call (M := []) rfl (enters Tryz.func16 rfl rfl) (List.Perm.refl _) rfl (fun w hw => by
      exact twinCustom_tw (hC.ext (Chg.ext hw.chg))) ?_
  rintro t2
  refine TL.bun ?_
  refine TL.nil ?_
  refine TQ.nxt (hX3 _ _ hl9 ?_)
  exact RG.meet (hS12 ⟨t1, t2, x10⟩) fs9 kt9
  refine TL.m Mk.bl ?_
  intro x6
  refine TL.nil ?_
  refine TQ.nxt (hX6 _ _ hl9 ?_)
  exact RG.meet (hS15 ⟨t1, x6, x10⟩) fs9 kt9
  refine TL.m (Mk.al ty_zr25) ?_
  intro x9
  refine TL.nil ?_
  refine TQ.nxt (hX9 _ _ hl9 ?_)
  exact RG.meet (hS17 ⟨t1, x9, x10⟩) fs9 kt9
  refine TL.m (Mk.al ty_zr33) ?_
  intro x11
  refine TL.nil ?_
  refine TQ.nxt (hX11 _ _ hl9 ?_)
  exact RG.meet (hS19 ⟨t1, x10, x11⟩) fs9 kt9
  refine RG.later 16 [0, 1, 2, 4, 7, 9] 10 (fun (⟨t1, x9⟩ : (TLx) × (Nat)) => ((41, wyL Y t1) :: (15, .pointer (some ⟨x9, 0, none⟩)) :: wyF Y Z T W A L C D B O U V cw cl cn cc cd cb co cu cv b1 b2 b3 b4 : Fr)) (fun (⟨t1, x9⟩ : (TLx) × (Nat)) => bun (wyA Y t1) :: .blk x9 25 [.slice none 0 0, .slice none 0 0] :: wyK Y Z T W A C D B O U V cw cl cc cd cb co cu cv b1 b2 b3 b4) ?_ (fun hS1 => ?_)
  rintro ⟨t1, x9⟩
  dsimp only
  refine RG.a4 3 6 10 11 rfl rfl rfl rfl (fun X3 hX3 => ?_) (fun X6 hX6 => ?_) (fun X10 hX10 => ?_) (fun X11 hX11 => ?_)
  refine TL.call (M := []) rfl (enters Tryz.func16 rfl rfl) (List.Perm.refl _) rfl (fun w hw => by
      exact twinCustom_tw (hC.ext (Chg.ext hw.chg))) ?_
  rintro t2
  refine TL.bun ?_
  refine TL.nil ?_
  refine TQ.nxt (hX3 _ _ hl9 ?_)
  exact RG.meet (hS11 ⟨t1, t2, x9⟩) fs9 kt9
  refine TL.m Mk.bl ?_
  intro x6
  refine TL.nil ?_
  refine TQ.nxt (hX6 _ _ hl9 ?_)
  exact RG.meet (hS14 ⟨t1, x6, x9⟩) fs9 kt9
  refine TL.m (Mk.al ty_zr30) ?_
  intro x10
  refine TL.nil ?_
  refine TQ.nxt (hX10 _ _ hl9 ?_)
  exact RG.meet (hS17 ⟨t1, x9, x10⟩) fs9 kt9
  refine TL.m (Mk.al ty_zr33) ?_
  intro x11
  refine TL.nil ?_
  refine TQ.nxt (hX11 _ _ hl9 ?_)
  exact RG.meet (hS18 ⟨t1, x9, x11⟩) fs9 kt9
  refine RG.later 16 [0, 1, 2, 4, 6, 7] 10 (fun (⟨t1, x6⟩ : (TLx) × (Nat)) => ((41, wyL Y t1) :: (46, .slice (some ⟨x6, 0, none⟩) 0 0) :: wyF Y Z T W A L C D B O U V cw cl cn cc cd cb co cu cv b1 b2 b3 b4 : Fr)) (fun (⟨t1, x6⟩ : (TLx) × (Nat)) => bun (wyA Y t1) :: .blk x6 3 [] :: wyK Y Z T W A C D B O U V cw cl cc cd cb co cu cv b1 b2 b3 b4) ?_ (fun hS0 => ?_)
  rintro ⟨t1, x6⟩
  dsimp only
  refine RG.a4 3 9 10 11 rfl rfl rfl rfl (fun X3 hX3 => ?_) (fun X9 hX9 => ?_) (fun X10 hX10 => ?_) (fun X11 hX11 => ?_)
  refine TL.call (M := []) rfl (enters Tryz.func16 rfl rfl) (List.Perm.refl _) rfl (fun w hw => by
      exact twinCustom_tw (hC.ext (Chg.ext hw.chg))) ?_
  rintro t2
  refine TL.bun ?_
  refine TL.nil ?_
  refine TQ.nxt (hX3 _ _ hl9 ?_)
  exact RG.meet (hS10 ⟨t1, t2, x6⟩) fs9 kt9
  refine TL.m (Mk.al ty_zr25) ?_
  intro x9
  refine TL.nil ?_
  refine TQ.nxt (hX9 _ _ hl9 ?_)
  exact RG.meet (hS14 ⟨t1, x6, x9⟩) fs9 kt9
  refine TL.m (Mk.al ty_zr30) ?_
  intro x10
  refine TL.nil ?_
  refine TQ.nxt (hX10 _ _ hl9 ?_)
  exact RG.meet (hS15 ⟨t1, x6, x10⟩) fs9 kt9
  refine TL.m (Mk.al ty_zr33) ?_
  intro x11
  refine TL.nil ?_
  refine TQ.nxt (hX11 _ _ hl9 ?_)
  exact RG.meet (hS16 ⟨t1, x6, x11⟩) fs9 kt9
  refine RG.a5 1 6 9 10 11 rfl rfl rfl rfl rfl (fun X1 hX1 => ?_) (fun X6 hX6 => ?_) (fun X9 hX9 => ?_) (fun X10 hX10 => ?_) (fun X11 hX11 => ?_)
  refine TL.call (M := []) rfl (enters Tryz.func15 rfl rfl) (List.Perm.refl _) rfl (fun w hw => by
      exact twin3_any (hL.ext (Chg.ext hw.chg))) ?_
  rintro t1
  refine TL.bun ?_
  refine TL.nil ?_
  refine TQ.nxt (hX1 _ _ hl9 ?_)
  refine RG.a5 3 6 9 10 11 rfl rfl rfl rfl rfl (fun X3 hX3 => ?_) (fun X6 hX6 => ?_) (fun X9 hX9 => ?_) (fun X10 hX10 => ?_) (fun X11 hX11 => ?_)
  refine TL.call (M := []) rfl (enters Tryz.func16 rfl rfl) (List.Perm.refl _) rfl (fun w hw => by
      exact twinCustom_tw (hC.ext (Chg.ext hw.chg))) ?_
  rintro t2
  refine TL.bun ?_
  refine TL.nil ?_
  refine TQ.nxt (hX3 _ _ hl9 ?_)
  refine RG.a5 5 6 9 10 11 rfl rfl rfl rfl rfl (fun X5 hX5 => ?_) (fun X6 hX6 => ?_) (fun X9 hX9 => ?_) (fun X10 hX10 => ?_) (fun X11 hX11 => ?_)
  refine TL.call (M := []) rfl (enters Tryz.func17 rfl rfl) (List.Perm.refl _) rfl (fun w hw => by
      exact twinTroop_any (hT.ext (Chg.ext hw.chg))) ?_
  rintro t3
  refine TL.bun ?_
  refine TL.nil ?_
  refine TQ.nxt (hX5 _ _ hl9 ?_)
  refine RG.a4 6 9 10 11 rfl rfl rfl rfl (fun X6 hX6 => ?_) (fun X9 hX9 => ?_) (fun X10 hX10 => ?_) (fun X11 hX11 => ?_)
  refine TL.m Mk.bl ?_
  intro x6
  refine TL.nil ?_
  refine TQ.nxt (hX6 _ _ hl9 ?_)
  exact RG.meet (hS24 ⟨t1, t2, t3, x6⟩) fs9 kt9
  refine TL.m (Mk.al ty_zr25) ?_
  intro x9
  refine TL.nil ?_
  refine TQ.nxt (hX9 _ _ hl9 ?_)
  exact RG.meet (hS25 ⟨t1, t2, t3, x9⟩) fs9 kt9
  refine TL.m (Mk.al ty_zr30) ?_
  intro x10
  refine TL.nil ?_
  refine TQ.nxt (hX10 _ _ hl9 ?_)
  exact RG.meet (hS26 ⟨t1, t2, t3, x10⟩) fs9 kt9
  refine TL.m (Mk.al ty_zr33) ?_
  intro x11
  refine TL.nil ?_
  refine TQ.nxt (hX11 _ _ hl9 ?_)
  exact RG.meet (hS27 ⟨t1, t2, t3, x11⟩) fs9 kt9
  refine TL.m Mk.bl ?_
  intro x6
  refine TL.nil ?_
  refine TQ.nxt (hX6 _ _ hl9 ?_)
  exact RG.meet (hS10 ⟨t1, t2, x6⟩) fs9 kt9
  refine TL.m (Mk.al ty_zr25) ?_
  intro x9
  refine TL.nil ?_
  refine TQ.nxt (hX9 _ _ hl9 ?_)
  exact RG.meet (hS11 ⟨t1, t2, x9⟩) fs9 kt9
  refine TL.m (Mk.al ty_zr30) ?_
  intro x10
  refine TL.nil ?_
  refine TQ.nxt (hX10 _ _ hl9 ?_)
  exact RG.meet (hS12 ⟨t1, t2, x10⟩) fs9 kt9
  refine TL.m (Mk.al ty_zr33) ?_
  intro x11
  refine TL.nil ?_
  refine TQ.nxt (hX11 _ _ hl9 ?_)
  exact RG.meet (hS13 ⟨t1, t2, x11⟩) fs9 kt9
  refine TL.m Mk.bl ?_
  intro x6
  refine TL.nil ?_
  refine TQ.nxt (hX6 _ _ hl9 ?_)
  exact RG.meet (hS0 ⟨t1, x6⟩) fs9 kt9
  refine TL.m (Mk.al ty_zr25) ?_
  intro x9
  refine TL.nil ?_
  refine TQ.nxt (hX9 _ _ hl9 ?_)
  exact RG.meet (hS1 ⟨t1, x9⟩) fs9 kt9
  refine TL.m (Mk.al ty_zr30) ?_
  intro x10
  refine TL.nil ?_
  refine TQ.nxt (hX10 _ _ hl9 ?_)
  exact RG.meet (hS2 ⟨t1, x10⟩) fs9 kt9
  refine TL.m (Mk.al ty_zr33) ?_
  intro x11
  refine TL.nil ?_
  refine TQ.nxt (hX11 _ _ hl9 ?_)
  exact RG.meet (hS3 ⟨t1, x11⟩) fs9 kt9
  refine TL.m Mk.bl ?_
  intro x6
  refine TL.nil ?_
  refine TQ.nxt (hX6 _ _ hl9 ?_)
  refine RG.a4 1 9 10 11 rfl rfl rfl rfl (fun X1 hX1 => ?_) (fun X9 hX9 => ?_) (fun X10 hX10 => ?_) (fun X11 hX11 => ?_)
  refine TL.call (M := []) rfl (enters Tryz.func15 rfl rfl) (List.Perm.refl _) rfl (fun w hw => by
      exact twin3_any (hL.ext (Chg.ext hw.chg))) ?_
  rintro t1
  refine TL.bun ?_
  refine TL.nil ?_
  refine TQ.nxt (hX1 _ _ hl9 ?_)
  exact RG.meet (hS0 ⟨t1, x6⟩) fs9 kt9
  refine TL.m (Mk.al ty_zr25) ?_
  intro x9
  refine TL.nil ?_
  refine TQ.nxt (hX9 _ _ hl9 ?_)
  exact RG.meet (hS4 ⟨x6, x9⟩) fs9 kt9
  refine TL.m (Mk.al ty_zr30) ?_
  intro x10
  refine TL.nil ?_
  refine TQ.nxt (hX10 _ _ hl9 ?_)
  exact RG.meet (hS5 ⟨x6, x10⟩) fs9 kt9
  refine TL.m (Mk.al ty_zr33) ?_
  intro x11
  refine TL.nil ?_
  refine TQ.nxt (hX11 _ _ hl9 ?_)
  exact RG.meet (hS6 ⟨x6, x11⟩) fs9 kt9
  refine TL.m (Mk.al ty_zr25) ?_
  intro x9
  refine TL.nil ?_
  refine TQ.nxt (hX9 _ _ hl9 ?_)
  refine RG.a4 1 6 10 11 rfl rfl rfl rfl (fun X1 hX1 => ?_) (fun X6 hX6 => ?_) (fun X10 hX10 => ?_) (fun X11 hX11 => ?_)
  refine TL.call (M := []) rfl (enters Tryz.func15 rfl rfl) (List.Perm.refl _) rfl (fun w hw => by
      exact twin3_any (hL.ext (Chg.ext hw.chg))) ?_
  rintro t1
  refine TL.bun ?_
  refine TL.nil ?_
  refine TQ.nxt (hX1 _ _ hl9 ?_)
  exact RG.meet (hS1 ⟨t1, x9⟩) fs9 kt9
  refine TL.m Mk.bl ?_
  intro x6
  refine TL.nil ?_
  refine TQ.nxt (hX6 _ _ hl9 ?_)
  exact RG.meet (hS4 ⟨x6, x9⟩) fs9 kt9
  refine TL.m (Mk.al ty_zr30) ?_
  intro x10
  refine TL.nil ?_
  refine TQ.nxt (hX10 _ _ hl9 ?_)
  exact RG.meet (hS7 ⟨x9, x10⟩) fs9 kt9
  refine TL.m (Mk.al ty_zr33) ?_
  intro x11
  refine TL.nil ?_
  refine TQ.nxt (hX11 _ _ hl9 ?_)
  exact RG.meet (hS8 ⟨x9, x11⟩) fs9 kt9
  refine TL.m (Mk.al ty_zr30) ?_
  intro x10
  refine TL.nil ?_
  refine TQ.nxt (hX10 _ _ hl9 ?_)
  refine RG.a4 1 6 9 11 rfl rfl rfl rfl (fun X1 hX1 => ?_) (fun X6 hX6 => ?_) (fun X9 hX9 => ?_) (fun X11 hX11 => ?_)
  refine TL.call (M := []) rfl (enters Tryz.func15 rfl rfl) (List.Perm.refl _) rfl (fun w hw => by
      exact twin3_any (hL.ext (Chg.ext hw.chg))) ?_
  rintro t1
  refine TL.bun ?_
  refine TL.nil ?_
  refine TQ.nxt (hX1 _ _ hl9 ?_)
  exact RG.meet (hS2 ⟨t1, x10⟩) fs9 kt9
  refine TL.m Mk.bl ?_
  intro x6
  refine TL.nil ?_
  refine TQ.nxt (hX6 _ _ hl9 ?_)
  exact RG.meet (hS5 ⟨x6, x10⟩) fs9 kt9
  refine TL.m (Mk.al ty_zr25) ?_
  intro x9
  refine TL.nil ?_
  refine TQ.nxt (hX9 _ _ hl9 ?_)
  exact RG.meet (hS7 ⟨x9, x10⟩) fs9 kt9
  refine TL.m (Mk.al ty_zr33) ?_
  intro x11
  refine TL.nil ?_
  refine TQ.nxt (hX11 _ _ hl9 ?_)
  exact RG.meet (hS9 ⟨x10, x11⟩) fs9 kt9
  refine TL.m (Mk.al ty_zr33) ?_
  intro x11
  refine TL.nil ?_
  refine TQ.nxt (hX11 _ _ hl9 ?_)
  refine RG.a4 1 6 9 10 rfl rfl rfl rfl (fun X1 hX1 => ?_) (fun X6 hX6 => ?_) (fun X9 hX9 => ?_) (fun X10 hX10 => ?_)
  refine TL.call (M := []) rfl (enters Tryz.func15 rfl rfl) (List.Perm.refl _) rfl (fun w hw => by
      exact twin3_any (hL.ext (Chg.ext hw.chg))) ?_
  rintro t1
  refine TL.bun ?_
  refine TL.nil ?_
  refine TQ.nxt (hX1 _ _ hl9 ?_)
  exact RG.meet (hS3 ⟨t1, x11⟩) fs9 kt9
  refine TL.m Mk.bl ?_
  intro x6
  refine TL.nil ?_
  refine TQ.nxt (hX6 _ _ hl9 ?_)
  exact RG.meet (hS6 ⟨x6, x11⟩) fs9 kt9
  refine TL.m (Mk.al ty_zr25) ?_
  intro x9
  refine TL.nil ?_
  refine TQ.nxt (hX9 _ _ hl9 ?_)
  exact RG.meet (hS8 ⟨x9, x11⟩) fs9 kt9
  refine TL.m (Mk.al ty_zr30) ?_
  intro x10
  refine TL.nil ?_
  refine TQ.nxt (hX10 _ _ hl9 ?_)
  exact RG.meet (hS9 ⟨x10, x11⟩) fs9 kt9
  refine TW.region ?_
  refine TL.p (Pu.lds ty_ag25) ?_
  refine TL.p (Pu.lds ty_ag30) ?_
  refine TL.p (Pu.lds ty_ag33) ?_
  refine TL.cr rfl (enters Tryz.func14 rfl rfl) (fun w hw => by
      exact great7_any (hRA.sat hw Apart.nil)) ?_
  refine TL.p Pu.mv ?_
  refine TL.guard (t := 35) rfl (fun hg1 => ?_) (fun hg1 => ?_)
  refine TL.gs ?_
  refine TL.gs ?_
  refine TL.gs ?_
  refine TL.p Pu.kt ?_
  refine TL.nil ?_
  exact TQ.sub (by repeat (first | exact trivial | refine ⟨rfl, ?_⟩ | refine ⟨trivial, ?_⟩ | refine ⟨(by show some (Value.bool _) = some (Value.bool _); first | (simp [hg1]; done) | (refine congrArg (fun z => some (Value.bool z)) (Bool.eq_iff_iff.2 ?_); simp [hg1]; omega)), ?_⟩)) ks9 hJ1
  refine TL.gd Pu.mv ?_
  refine TL.gd (Pu.ln Tryz.underlying31) ?_
  refine TL.gd Pu.gt ?_
  refine TL.p Pu.kf ?_
  refine TL.nil ?_
  exact TQ.sub (by repeat (first | exact trivial | refine ⟨rfl, ?_⟩ | refine ⟨trivial, ?_⟩ | refine ⟨(by show some (Value.bool _) = some (Value.bool _); first | (simp [hg1]; done) | (refine congrArg (fun z => some (Value.bool z)) (Bool.eq_iff_iff.2 ?_); simp [hg1]; omega)), ?_⟩)) ks9 hJ1
end
end Go.Proofs.YtmonkjnfjgidbaaGreatDoor
