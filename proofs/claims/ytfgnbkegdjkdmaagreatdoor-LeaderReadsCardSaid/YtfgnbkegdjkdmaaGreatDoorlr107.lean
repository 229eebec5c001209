/-
  The statement LeaderReadsCardSaid: for every text the law LeaderReads returns true, and its argument reads afterwards as before; the tables and errors of the library that are listed read as the program's text lays them, by the tie that is given. No other condition.
-/
import Derived.Test.YtfgnbkegdjkdmaaGreatDoorlr105
import Derived.Test.YtfgnbkegdjkdmaaGreatDoorlr106
import Derived.Test.YtfgnbkegdjkdmaaGreatDoorlr104
import Derived.JoinedOf
import Derived.Test.YtfgnbkegdjkdmaaGreatDoorCards
import Derived.Test.YtfgnbkegdjkdmaaGreatDoorlr101
import Derived.SevenTiedAt
import Derived.Handed
import Derived.SizedLaws
import Derived.Test.YtfgnbkegdjkdmaaGreatDoorTie
import Derived.Lib.LaidTab
import Derived.Stop.LaidErr
import Derived.Shelf.Vars
import Derived.Lay
namespace Go.Proofs.YtfgnbkegdjkdmaaGreatDoor
set_option linter.all false
set_option linter.unusedVariables false
set_option linter.unusedSimpArgs false
open Go.RowKit Go.Lib
section
variable {w : World} {A B : Option Addr} {n c d : Nat}
set_option maxRecDepth 100000 in
theorem sameRowsR_any (f : Nat → Nat → Int) (hA : RdR w 14 A n fun i => rwL (f i)) (hB : RdR w 14 B n fun i => rwL (f i)) (hn : n ≤ 1000000) :
  Calls Tryz.prog 18 #[.slice A n c, .slice B n d] w (Ret w (.bool true)) := by
 refine K_enter (S := []) (K := []) Tryz.func18 rfl Tryz.ntmps18 rfl (Sat.start _) ?_
 refine TW.seq fun Y1 hY1 => TW.region ?_
 refine TL.p Pu.as ?_
 refine TL.nil (TQ.thenN (hY1 _ _ ?_))
 refine TW.seq fun Y2 hY2 => ?_
 refine TW.seq fun Y3 hY3 => TW.region ?_
 refine TL.p Pu.mv ?_
 refine TL.p (Pu.ln Tryz.underlying22) ?_
 refine TL.p Pu.mv ?_
 refine TL.p (Pu.ln Tryz.underlying22) ?_
 refine TL.p Pu.ne ?_
 refine TL.nil (TQ.thenN (hY3 _ _ ?_))
 refine TW.condF rfl ((by simp)) ?_
 refine TW.skip ?_
 refine TQ.thenN (hY2 _ _ ?_)
 refine TW.seq fun Y4 hY4 => ?_
 refine TW.seq fun Y5 hY5 => TW.region ?_
 refine TL.p Pu.as ?_
 refine TL.nil (TQ.thenN (hY5 _ _ ?_))
 refine TW.block ?_
 refine TW.loop1 (fun (k : Nat) => [(5, .int .i64 (k : Int)), (0, .slice A n c), (1, .slice B n d)]) (fun k => []) (fun k => k ≤ n) (fun k => n - k) 0 fs9 ?_ ?_ ?_
 exact ks9
 exact Nat.zero_le _
 rintro k hk Z0 hZ0
 refine TW.seq fun Y6 hY6 => ?_
 refine TW.seq fun Y7 hY7 => TW.region ?_
 refine TL.p Pu.mv ?_
 refine TL.p Pu.mv ?_
 refine TL.p (Pu.ln Tryz.underlying22) ?_
 refine TL.p Pu.lt ?_
 refine TL.nil (TQ.thenN (hY7 _ _ ?_))
 refine TW.cond rfl (fun hc1 => ?_) (fun hc1 => ?_)
 try simp only [zcb9] at hc1
 refine TW.skip ?_
 refine TQ.thenN (hY6 _ _ ?_)
 refine TW.seq fun Y8 hY8 => ?_
 refine TW.block ?_
 refine TW.seq fun Y9 hY9 => ?_
 refine TW.dw 9 ?_
 refine RK.tk Pu.mv ?_
 refine RK.tk Pu.mv ?_
 refine RK.tk (Pu.el ty_et22) ?_
 refine RK.tk (Pu.lds ty_ag48) ?_
 refine RK.tk Pu.mv ?_
 refine RK.tk Pu.mv ?_
 refine RK.tk (Pu.el ty_et22) ?_
 refine RK.tk (Pu.lds ty_ag48) ?_
 refine RK.tk Pu.bn ?_
 refine RK.ch [] ?_ trivial
 refine WK.n ?_
 refine TL.nil (TQ.thenN (hY9 _ _ ?_))
 refine TW.condF rfl ((by simp)) ?_
 refine TW.skip ?_
 refine TQ.blkN ?_
 refine TQ.thenN (hY8 _ _ ?_)
 refine TW.region ?_
 refine TL.p Pu.mv ?_
 refine TL.p Pu.ad ?_
 refine TL.p Pu.as ?_
 refine TL.nil ?_
 refine TQ.thenN (hZ0 (k + 1) _ _ ?_ ?_ fs9 ?_)
 exact (by omega)
 exact zom9
 exact ks9
 try simp only [zcb9] at hc1
 refine TW.exit ?_
 refine TQ.thenX ?_
 refine TQ.thenX ?_
 refine TQ.blkX ?_
 refine TQ.thenN (hY4 _ _ ?_)
 refine TW.seq fun Y10 hY10 => TW.region ?_
 refine TL.p Pu.as ?_
 refine TL.nil (TQ.thenN (hY10 _ _ ?_))
 refine TW.ret ?_
 refine TQ.ret Tryz.results18 rfl ((.tmp rfl .nil)) ?_
 exact fun w hw => Ret.of hw
set_option maxRecDepth 100000 in
theorem sameInts_any (v : Nat → Int) (hA : RdR w 1 A n fun i => [.int .i64 (v i)]) (hB : RdR w 1 B n fun i => [.int .i64 (v i)]) (hn : n ≤ 1000000) :
  Calls Tryz.prog 20 #[.slice A n c, .slice B n d] w (Ret w (.bool true)) := by
 refine K_enter (S := []) (K := []) Tryz.func20 rfl Tryz.ntmps20 rfl (Sat.start _) ?_
 refine TW.seq fun Y1 hY1 => TW.region ?_
 refine TL.p Pu.as ?_
 refine TL.nil (TQ.thenN (hY1 _ _ ?_))
 refine TW.seq fun Y2 hY2 => ?_
 refine TW.seq fun Y3 hY3 => TW.region ?_
 refine TL.p Pu.mv ?_
 refine TL.p (Pu.ln Tryz.underlying42) ?_
 refine TL.p Pu.mv ?_
 refine TL.p (Pu.ln Tryz.underlying42) ?_
 refine TL.p Pu.ne ?_
 refine TL.nil (TQ.thenN (hY3 _ _ ?_))
 refine TW.condF rfl ((by simp)) ?_
 refine TW.skip ?_
 refine TQ.thenN (hY2 _ _ ?_)
 refine TW.seq fun Y4 hY4 => ?_
 refine TW.seq fun Y5 hY5 => TW.region ?_
 refine TL.p Pu.as ?_
 refine TL.nil (TQ.thenN (hY5 _ _ ?_))
 refine TW.block ?_
 refine TW.loop1 (fun (k : Nat) => [(5, .int .i64 (k : Int)), (0, .slice A n c), (1, .slice B n d)]) (fun k => []) (fun k => k ≤ n) (fun k => n - k) 0 fs9 ?_ ?_ ?_
 exact ks9
 exact Nat.zero_le _
 rintro k hk Z0 hZ0
 refine TW.seq fun Y6 hY6 => ?_
 refine TW.seq fun Y7 hY7 => TW.region ?_
 refine TL.p Pu.mv ?_
 refine TL.p Pu.mv ?_
 refine TL.p (Pu.ln Tryz.underlying42) ?_
 refine TL.p Pu.lt ?_
 refine TL.nil (TQ.thenN (hY7 _ _ ?_))
 refine TW.cond rfl (fun hc1 => ?_) (fun hc1 => ?_)
 try simp only [zcb9] at hc1
 refine TW.skip ?_
 refine TQ.thenN (hY6 _ _ ?_)
 refine TW.seq fun Y8 hY8 => ?_
 refine TW.block ?_
 refine TW.seq fun Y9 hY9 => ?_
 refine TW.dw 9 ?_
 refine RK.tk Pu.mv ?_
 refine RK.tk Pu.mv ?_
 refine RK.tk (Pu.el ty_et42) ?_
 refine RK.tk (Pu.ld ty_sc3) ?_
 refine RK.tk Pu.mv ?_
 refine RK.tk Pu.mv ?_
 refine RK.tk (Pu.el ty_et42) ?_
 refine RK.tk (Pu.ld ty_sc3) ?_
 refine RK.tk Pu.ne ?_
 refine RK.ch [] ?_ trivial
 refine WK.n ?_
 refine TL.nil (TQ.thenN (hY9 _ _ ?_))
 refine TW.condF rfl ((by simp)) ?_
 refine TW.skip ?_
 refine TQ.blkN ?_
 refine TQ.thenN (hY8 _ _ ?_)
 refine TW.region ?_
 refine TL.p Pu.mv ?_
 refine TL.p Pu.ad ?_
 refine TL.p Pu.as ?_
 refine TL.nil ?_
 refine TQ.thenN (hZ0 (k + 1) _ _ ?_ ?_ fs9 ?_)
 exact (by omega)
 exact zom9
 exact ks9
 try simp only [zcb9] at hc1
 refine TW.exit ?_
 refine TQ.thenX ?_
 refine TQ.thenX ?_
 refine TQ.blkX ?_
 refine TQ.thenN (hY4 _ _ ?_)
 refine TW.seq fun Y10 hY10 => TW.region ?_
 refine TL.p Pu.as ?_
 refine TL.nil (TQ.thenN (hY10 _ _ ?_))
 refine TW.ret ?_
 refine TQ.ret Tryz.results20 rfl ((.tmp rfl .nil)) ?_
 exact fun w hw => Ret.of hw
set_option maxRecDepth 100000 in
set_option maxHeartbeats 2000000 in
theorem neLtr9 (x y : Operand) (a b k e f g h : Int) (m : Bool) (w : World) : (do eqGuard .neq 51 x y (.agg #[.int .i64 a, .int .i64 b, .int .u8 k, .int .i64 e, .int .i64 f, .int .i64 g, .int .i64 h, .bool m]) (.agg #[.int .i64 a, .int .i64 b, .int .u8 k, .int .i64 e, .int .i64 f, .int .i64 g, .int .i64 h, .bool m]); binOp .neq 51 (.agg #[.int .i64 a, .int .i64 b, .int .u8 k, .int .i64 e, .int .i64 f, .int .i64 g, .int .i64 h, .bool m]) (.agg #[.int .i64 a, .int .i64 b, .int .u8 k, .int .i64 e, .int .i64 f, .int .i64 g, .int .i64 h, .bool m]) : Sem Value).run Tryz.prog w = .ok (.bool false) w := by
 go_simp
set_option maxRecDepth 100000 in
theorem sameLettersR_any (g : Nat → Ltr) (hA : RdR w 8 A n fun i => ltL (g i)) (hB : RdR w 8 B n fun i => ltL (g i)) (hn : n ≤ 1000000) :
  Calls Tryz.prog 19 #[.slice A n c, .slice B n d] w (Ret w (.bool true)) := by
 refine K_enter (S := []) (K := []) Tryz.func19 rfl Tryz.ntmps19 rfl (Sat.start _) ?_
 refine TW.seq fun Y1 hY1 => TW.region ?_
 refine TL.p Pu.as ?_
 refine TL.nil (TQ.thenN (hY1 _ _ ?_))
 refine TW.seq fun Y2 hY2 => ?_
 refine TW.seq fun Y3 hY3 => TW.region ?_
 refine TL.p Pu.mv ?_
 refine TL.p (Pu.ln Tryz.underlying23) ?_
 refine TL.p Pu.mv ?_
 refine TL.p (Pu.ln Tryz.underlying23) ?_
 refine TL.p Pu.ne ?_
 refine TL.nil (TQ.thenN (hY3 _ _ ?_))
 refine TW.condF rfl ((by simp)) ?_
 refine TW.skip ?_
 refine TQ.thenN (hY2 _ _ ?_)
 refine TW.seq fun Y4 hY4 => ?_
 refine TW.seq fun Y5 hY5 => TW.region ?_
 refine TL.p Pu.as ?_
 refine TL.nil (TQ.thenN (hY5 _ _ ?_))
 refine TW.block ?_
 refine TW.loop1 (fun (k : Nat) => [(5, .int .i64 (k : Int)), (0, .slice A n c), (1, .slice B n d)]) (fun k => []) (fun k => k ≤ n) (fun k => n - k) 0 fs9 ?_ ?_ ?_
 exact ks9
 exact Nat.zero_le _
 rintro k hk Z0 hZ0
 refine TW.seq fun Y6 hY6 => ?_
 refine TW.seq fun Y7 hY7 => TW.region ?_
 refine TL.p Pu.mv ?_
 refine TL.p Pu.mv ?_
 refine TL.p (Pu.ln Tryz.underlying23) ?_
 refine TL.p Pu.lt ?_
 refine TL.nil (TQ.thenN (hY7 _ _ ?_))
 refine TW.cond rfl (fun hc1 => ?_) (fun hc1 => ?_)
 try simp only [zcb9] at hc1
 refine TW.skip ?_
 refine TQ.thenN (hY6 _ _ ?_)
 refine TW.seq fun Y8 hY8 => ?_
 refine TW.block ?_
 refine TW.seq fun Y9 hY9 => ?_
 refine TW.dw 9 ?_
 refine RK.tk Pu.mv ?_
 refine RK.tk Pu.mv ?_
 refine RK.tk (Pu.el ty_et23) ?_
 refine RK.tk (Pu.lds ty_ag51) ?_
 refine RK.tk Pu.mv ?_
 refine RK.tk Pu.mv ?_
 refine RK.tk (Pu.el ty_et23) ?_
 refine RK.tk (Pu.lds ty_ag51) ?_
 refine RK.tk (Pu.bn (r := .bool false) rfl rfl (fun w => neLtr9 _ _ _ _ _ _ _ _ _ _ w)) ?_
 refine RK.ch [] ?_ trivial
 refine WK.n ?_
 refine TL.nil (TQ.thenN (hY9 _ _ ?_))
 refine TW.condF rfl (rfl) ?_
 refine TW.skip ?_
 refine TQ.blkN ?_
 refine TQ.thenN (hY8 _ _ ?_)
 refine TW.region ?_
 refine TL.p Pu.mv ?_
 refine TL.p Pu.ad ?_
 refine TL.p Pu.as ?_
 refine TL.nil ?_
 refine TQ.thenN (hZ0 (k + 1) _ _ ?_ ?_ fs9 ?_)
 exact (by omega)
 exact zom9
 exact ks9
 try simp only [zcb9] at hc1
 refine TW.exit ?_
 refine TQ.thenX ?_
 refine TQ.thenX ?_
 refine TQ.blkX ?_
 refine TQ.thenN (hY4 _ _ ?_)
 refine TW.seq fun Y10 hY10 => TW.region ?_
 refine TL.p Pu.as ?_
 refine TL.nil (TQ.thenN (hY10 _ _ ?_))
 refine TW.ret ?_
 refine TQ.ret Tryz.results19 rfl ((.tmp rfl .nil)) ?_
 exact fun w hw => Ret.of hw
set_option maxRecDepth 100000 in
set_option maxHeartbeats 2000000 in
theorem sameLogR_any {e : Nat → Ent} {EA EB : Nat → Option Addr} {EC ED : Nat → Nat} (hA : LogIn w A n e EA EC) (hB : LogIn w B n e EB ED) (hn : n ≤ 1000000) (hl : ∀ i, i < n → (e i).args.length ≤ 1000000) :
  Calls Tryz.prog 9 #[.slice A n c, .slice B n d] w (Ret w (.bool true)) := by
 have hRA := hA.rd
 have hRB := hB.rd
 refine K_enter (S := []) (K := []) Tryz.func9 rfl Tryz.ntmps9 rfl (Sat.start _) ?_
 refine TW.seq fun Y1 hY1 => TW.region ?_
 refine TL.p Pu.as ?_
 refine TL.nil (TQ.thenN (hY1 _ _ ?_))
 refine TW.seq fun Y2 hY2 => ?_
 refine TW.seq fun Y3 hY3 => TW.region ?_
 refine TL.p Pu.mv ?_
 refine TL.p (Pu.ln Tryz.underlying31) ?_
 refine TL.p Pu.mv ?_
 refine TL.p (Pu.ln Tryz.underlying31) ?_
 refine TL.p Pu.ne ?_
 refine TL.nil (TQ.thenN (hY3 _ _ ?_))
 refine TW.condF rfl ((by simp)) ?_
 refine TW.skip ?_
 refine TQ.thenN (hY2 _ _ ?_)
 refine TW.seq fun Y4 hY4 => ?_
 refine TW.seq fun Y5 hY5 => TW.region ?_
 refine TL.p Pu.as ?_
 refine TL.nil (TQ.thenN (hY5 _ _ ?_))
 refine TW.block ?_
 refine TW.loop1 (fun (k : Nat) => [(5, .int .i64 (k : Int)), (0, .slice A n c), (1, .slice B n d)]) (fun k => []) (fun k => k ≤ n) (fun k => n - k) 0 fs9 ?_ ?_ ?_
 exact ks9
 exact Nat.zero_le _
 rintro k hk Z0 hZ0
 refine TW.seq fun Y6 hY6 => ?_
 refine TW.seq fun Y7 hY7 => TW.region ?_
 refine TL.p Pu.mv ?_
 refine TL.p Pu.mv ?_
 refine TL.p (Pu.ln Tryz.underlying31) ?_
 refine TL.p Pu.lt ?_
 refine TL.nil (TQ.thenN (hY7 _ _ ?_))
 refine TW.cond rfl (fun hc1 => ?_) (fun hc1 => ?_)
 try simp only [zcb9] at hc1
 have hkn : k < n := by omega
 have hl9 := hl k hkn
 have hAk := hA.args k hkn
 have hBk := hB.args k hkn
 refine TW.skip ?_
 refine TQ.thenN (hY6 _ _ ?_)
 refine TW.seq fun Y8 hY8 => ?_
 refine TW.block ?_
 refine TW.seq fun Y9 hY9 => ?_
 refine TW.dw 38 ?_
 refine RK.tk Pu.mv ?_
 refine RK.tk Pu.mv ?_
 refine RK.tk (Pu.el ty_et31) ?_
 refine RK.tk (by first | exact Pu.fb ty_fa62_0 | exact Pu.fe ty_fa62_0) ?_
 refine RK.tk (Pu.ld ty_sc3) ?_
 refine RK.tk Pu.mv ?_
 refine RK.tk Pu.mv ?_
 refine RK.tk (Pu.el ty_et31) ?_
 refine RK.tk (by first | exact Pu.fb ty_fa62_0 | exact Pu.fe ty_fa62_0) ?_
 refine RK.tk (Pu.ld ty_sc3) ?_
 refine RK.tk (Pu.bv (b' := false) Pu.ne (by simp)) ?_
 refine RK.tk Pu.mv ?_
 refine RK.tk Pu.mv ?_
 refine RK.tk Pu.mv ?_
 refine RK.tk (Pu.el ty_et31) ?_
 refine RK.tk (by first | exact Pu.fb ty_fa62_1 | exact Pu.fe ty_fa62_1) ?_
 refine RK.tk (Pu.ld ty_sc9) ?_
 refine RK.tk Pu.mv ?_
 refine RK.tk Pu.mv ?_
 refine RK.tk (Pu.el ty_et31) ?_
 refine RK.tk (by first | exact Pu.fb ty_fa62_1 | exact Pu.fe ty_fa62_1) ?_
 refine RK.tk (Pu.ld ty_sc9) ?_
 refine RK.tk (Pu.bv (b' := false) Pu.sne (by simp)) ?_
 refine RK.tk Pu.kf ?_
 refine RK.tk Pu.mv ?_
 refine RK.tk Pu.mv ?_
 refine RK.tk Pu.mv ?_
 refine RK.tk (Pu.el ty_et31) ?_
 refine RK.tk (by first | exact Pu.fb ty_fa62_2 | exact Pu.fe ty_fa62_2) ?_
 refine RK.tk (Pu.ld ty_sc42) ?_
 refine RK.tk Pu.mv ?_
 refine RK.tk Pu.mv ?_
 refine RK.tk (Pu.el ty_et31) ?_
 refine RK.tk (by first | exact Pu.fb ty_fa62_2 | exact Pu.fe ty_fa62_2) ?_
 refine RK.tk (Pu.ld ty_sc42) ?_
 refine RK.keep ?_
 refine RK.keep ?_
 refine RK.keep ?_
 refine RK.ch [false, true, true] ?_ trivial
 refine WK.cr rfl (enters Tryz.func20 rfl rfl) (fun w hw => by
   exact sameInts_any (fun j => (e k).args.getD j 0) (hAk.sat hw Apart.nil) (hBk.sat hw Apart.nil) hl9) ?_
 refine WK.p Pu.no ?_
 refine WK.lit (t := 53) (b' := false) rfl (rfl) ?_
 refine WK.p Pu.kf ?_
 refine WK.n ?_
 refine TL.nil (TQ.thenN (hY9 _ _ ?_))
 refine TW.condF rfl rfl ?_
 refine TW.skip ?_
 refine TQ.blkN ?_
 refine TQ.thenN (hY8 _ _ ?_)
 refine TW.region ?_
 refine TL.p Pu.mv ?_
 refine TL.p Pu.ad ?_
 refine TL.p Pu.as ?_
 refine TL.nil ?_
 refine TQ.thenN (hZ0 (k + 1) _ _ ?_ ?_ fs9 ?_)
 exact (by omega)
 exact zom9
 exact ks9
 try simp only [zcb9] at hc1
 refine TW.exit ?_
 refine TQ.thenX ?_
 refine TQ.thenX ?_
 refine TQ.blkX ?_
 refine TQ.thenN (hY4 _ _ ?_)
 refine TW.seq fun Y10 hY10 => TW.region ?_
 refine TL.p Pu.as ?_
 refine TL.nil (TQ.thenN (hY10 _ _ ?_))
 refine TW.ret ?_
 refine TQ.ret Tryz.results9 rfl ((.tmp rfl .nil)) ?_
 exact fun w hw => Ret.of hw
set_option maxRecDepth 100000 in
theorem sameBookR_any {nr nl cr cl dr dl : Nat} {R R' L L' : Option Addr} (f : Nat → Nat → Int) (g : Nat → Ltr) (hR : RdR w 14 R nr fun i => rwL (f i)) (hR' : RdR w 14 R' nr fun i => rwL (f i)) (hL : RdR w 8 L nl fun i => ltL (g i)) (hL' : RdR w 8 L' nl fun i => ltL (g i)) (h1 : nr ≤ 1000000) (h2 : nl ≤ 1000000) :
  Calls Tryz.prog 8 #[.agg #[.slice R nr cr, .slice L nl cl], .agg #[.slice R' nr dr, .slice L' nl dl]] w (Ret w (.bool true)) := by
 refine K_enter (S := []) (K := []) Tryz.func8 rfl Tryz.ntmps8 rfl (Sat.start _) ?_
 refine TW.seq fun Y1 hY1 => TW.region ?_
 refine TL.m Mk.bx ?_
 intro b1
 refine TL.m Mk.bx ?_
 intro b2
 refine TL.p Pu.as ?_
 refine TL.nil (TQ.thenN (hY1 _ _ ?_))
 refine TW.seq fun Y2 hY2 => TW.region ?_
 refine TL.p (by first | exact Pu.fb ty_fa25_0 | exact Pu.fe ty_fa25_0) ?_
 refine TL.p (Pu.ld ty_sc22) ?_
 refine TL.p (by first | exact Pu.fb ty_fa25_0 | exact Pu.fe ty_fa25_0) ?_
 refine TL.p (Pu.ld ty_sc22) ?_
 refine TL.cr rfl (enters Tryz.func18 rfl rfl) (fun w hw => by
   exact sameRowsR_any f (hR.sat hw Apart.nil) (hR'.sat hw Apart.nil) h1) ?_
 refine TL.lit (t := 9) (b' := true) rfl (rfl) ?_
 refine TL.p Pu.mv ?_
 refine TL.gd (by first | exact Pu.fb ty_fa25_1 | exact Pu.fe ty_fa25_1) ?_
 refine TL.gd (Pu.ld ty_sc23) ?_
 refine TL.gd (by first | exact Pu.fb ty_fa25_1 | exact Pu.fe ty_fa25_1) ?_
 refine TL.gd (Pu.ld ty_sc23) ?_
 refine TL.cr rfl (enters Tryz.func19 rfl rfl) (fun w hw => by
   exact sameLettersR_any g (hL.sat hw Apart.nil) (hL'.sat hw Apart.nil) h2) ?_
 refine TL.lit (t := 15) (b' := true) rfl (rfl) ?_
 refine TL.p Pu.kt ?_
 refine TL.p Pu.as ?_
 refine TL.nil (TQ.thenN (hY2 _ _ ?_))
 refine TW.ret ?_
 refine TQ.ret Tryz.results8 rfl ((.tmp rfl .nil)) ?_
 exact fun w hw => Ret.of hw
end
end Go.Proofs.YtfgnbkegdjkdmaaGreatDoor
namespace Go.Proofs.YtfgnbkegdjkdmaaGreatDoor
set_option linter.all false
set_option linter.unusedVariables false
set_option linter.unusedSimpArgs false
open Go.RowKit Go.Lib
theorem cm_len {w : List UInt8} {n : Nat} (h : cmB w n = true) : n ≤ 20 := by
 unfold cmB at h
 obtain ⟨p, hp, h1⟩ := List.any_eq_true.1 h
 have h2 : ∀ p, p ∈ cmT → p.2 ≤ 20 := by decide
 have h3 := h2 p hp
 rw [Bool.and_eq_true, decide_eq_true_eq, decide_eq_true_eq] at h1
 omega
def CtL (c : Cont) : Prop := CtOk c ∧ ∀ x, x ∈ c.log → x.args.length ≤ 20
theorem tk_len {isLog : Bool} {c c' : Cont} {ls : List (List UInt8)} (h : addL isLog c ls = some c') (hc : CtL c) : CtL c' := by
  refine ⟨tk_ok h hc.1, ?_⟩
  have h2 := hc.2
  unfold addL at h
  cases isLog with
  | false =>
    rw [if_neg (by decide)] at h
    cases ls with
    | nil => cases h
    | cons f l =>
      change (nmsL l).bind _ = some c' at h
      cases hn : nmsL l with
      | none => rw [hn] at h; cases h
      | some m =>
        rw [hn] at h
        simp only [Option.bind_some] at h
        split at h
        · cases h
        · split at h
          · cases h; exact h2
          · split at h
            · cases h; exact h2
            · cases h
  | true =>
    rw [if_pos rfl] at h
    match ls, h with
    | f :: d :: w :: l, h =>
      rw [addG_cons] at h
      split at h
      · cases hd : valL d with
        | none => rw [hd] at h; cases h
        | some k =>
          rw [hd] at h
          cases hn : nmsL l with
          | none => rw [hn] at h; cases h
          | some m =>
            rw [hn] at h
            simp only [Option.bind_some] at h
            split at h
            · rename_i hcm
              cases h
              intro x hx
              rcases List.mem_append.1 hx with hx | hx
              · exact h2 x hx
              · rw [List.mem_singleton.1 hx]
                exact cm_len hcm
            · cases h
      · cases h
theorem rd_ok {isLog : Bool} : ∀ {k s n : Nat} {c : Cont} {t : List UInt8}, CtL c → CtL (rdF isLog k c s n t).2.2
 | 0, s, n, c, t, h => h
 | k + 1, s, n, c, t, h => by
  rw [rdF]
  split
  · exact h
  · dsimp only
    split
    · exact h
    · generalize hv : lnV isLog c s n _ _ _ = v
      cases v with
      | bad e => exact h
      | fin => exact h
      | go c' =>
       refine rd_ok ?_
       unfold lnV at hv
       split at hv
       · cases hv
       · dsimp only at hv
         split at hv
         · cases hv
         · split at hv
           · split at hv
             · split at hv
               · cases hv
               · split at hv <;> cases hv
             · cases hv
           · split at hv
             · cases hv
             · rename_i c2 ha
               split at hv
               · cases hv; exact tk_len ha h
               · cases hv
theorem rdW_ok {isLog : Bool} {t : List UInt8} : CtL (rdC (rdW isLog t)) := by
 have h0 : CtL ⟨[], [], []⟩ := ⟨⟨Nat.zero_le _, Nat.zero_le _⟩, fun _ h => by cases h⟩
 unfold rdC
 split
 · unfold rdW
   split
   · exact h0
   · exact rd_ok h0
 · exact h0
theorem ent_getD {es es' : List (Ent × Option Addr × Nat)} (h : es.map (·.1) = es'.map (·.1)) (i : Nat) : (es.getD i enD).1 = (es'.getD i enD).1 := by
 have h1 := congrArg (fun l => l[i]?) h
 simp only [List.getElem?_map] at h1
 rw [List.getD_eq_getElem?_getD, List.getD_eq_getElem?_getD]
 cases hx : es[i]? with
 | none =>
  rw [hx] at h1
  cases hy : es'[i]? with
  | none => rfl
  | some y => rw [hy] at h1; cases h1
 | some x =>
  rw [hx] at h1
  cases hy : es'[i]? with
  | none => rw [hy] at h1; cases h1
  | some y => rw [hy] at h1; exact Option.some.inj h1
section
variable {S0 : List Nat} {w0 w : World} {K : List Fact}
theorem logIn_of {S : Lg} (hw : Sat S0 w0 K w) (h1 : Fact.own S.A S.es.length S.c 62 3 (enT S.es) ∈ K) (h2 : bun (agF S.es) ∈ K) : LogIn w S.A S.es.length (fun i => (S.es.getD i enD).1) (fun i => (S.es.getD i enD).2.1) (fun i => (S.es.getD i enD).2.2) := by
 refine ⟨OwnR.rdr (hw.holds _ h1), fun i hi => ?_⟩
 have h3 : S.es.getD i enD ∈ S.es := by
  rw [List.getD_eq_getElem?_getD, List.getElem?_eq_getElem hi]
  exact List.getElem_mem hi
 exact OwnR.rdr (bun_get hw h2 (List.mem_map.2 ⟨_, h3, rfl⟩))
end
set_option maxRecDepth 100000 in
set_option maxHeartbeats 4000000 in
theorem lawReads_any {t : List UInt8} {w : World} (hE : RdW w) : Calls Tryz.prog 3 #[sv t] w (Ret w (.bool true)) := by
 refine K_enter (S := []) (K := []) Tryz.func3 rfl Tryz.ntmps3 rfl (Sat.start _) ?_
 refine TW.seq fun Y1 hY1 => TW.region ?_
 refine TL.p Pu.as ?_
 refine TL.nil (TQ.thenN (hY1 _ _ ?_))
 refine TW.seq fun Y2 hY2 => ?_
 refine TW.seq fun Y3 hY3 => TW.region ?_
 refine TL.p Pu.mv ?_
 refine TL.p (Pu.sln Tryz.underlying9) ?_
 refine TL.p Pu.gt ?_
 refine TL.nil (TQ.thenN (hY3 _ _ ?_))
 refine TW.cond rfl (fun hc0 => ?_) (fun hc0 => ?_)
 try simp only [zcb9] at hc0
 refine TW.seq fun Y4 hY4 => TW.region ?_
 refine TL.p Pu.as ?_
 refine TL.nil (TQ.thenN (hY4 _ _ ?_))
 refine TW.ret ?_
 refine TQ.thenR ?_
 refine TQ.ret Tryz.results3 rfl ((.tmp rfl .nil)) ?_
 exact fun w hw => Ret.of hw
 try simp only [zcb9] at hc0
 have ht : t.length ≤ 40000 := by omega
 refine TW.skip ?_
 refine TQ.thenN (hY2 _ _ ?_)
 refine TW.seq fun Y5 hY5 => TW.region ?_
 refine TL.p Pu.mv ?_
 refine TL.call (M := []) rfl (enters Tryz.func4 rfl rfl) (List.Perm.refl _) rfl (fun w hw => by
   exact readBook_any (hE.sat hw Far.nil) ht) ?_
 rintro ⟨⟨⟨la, ea⟩, Sa⟩, h1a, h2a, h3a⟩
 refine TL.p Pu.mv ?_
 refine TL.p Pu.ex ?_
 refine TL.p Pu.ex ?_
 refine TL.p Pu.ex ?_
 refine TL.m (Mk.al ty_zr25) ?_
 intro b1
 first | refine TL.st ty_sz25 ?_ | refine TL.se ty_sz25 ?_
 refine TL.p Pu.as ?_
 refine TL.p Pu.as ?_
 refine TL.nil (TQ.thenN (hY5 _ _ ?_))
 refine TW.seq fun Y6 hY6 => TW.region ?_
 refine TL.p Pu.mv ?_
 refine TL.call (M := []) rfl (enters Tryz.func5 rfl rfl) (List.Perm.refl _) rfl (fun w hw => by
   exact rBook_any ht _) ?_
 rintro ⟨⟨⟨lb, eb⟩, Sb⟩, h1b, h2b, h3b⟩
 refine TL.p Pu.mv ?_
 refine TL.p Pu.ex ?_
 refine TL.p Pu.ex ?_
 refine TL.p Pu.ex ?_
 refine TL.m (Mk.al ty_zr25) ?_
 intro b2
 first | refine TL.st ty_sz25 ?_ | refine TL.se ty_sz25 ?_
 refine TL.p Pu.as ?_
 refine TL.p Pu.as ?_
 refine TL.nil (TQ.thenN (hY6 _ _ ?_))
 refine TW.seq fun Y7 hY7 => TW.region ?_
 refine TL.p Pu.mv ?_
 refine TL.call (M := []) rfl (enters Tryz.func6 rfl rfl) (List.Perm.refl _) rfl (fun w hw => by
   exact readLog_any (hE.sat hw Far.nil) ht) ?_
 rintro ⟨⟨⟨lx, ex⟩, Sx⟩, h1x, h2x, h3x⟩
 refine TL.p Pu.mv ?_
 refine TL.p Pu.ex ?_
 refine TL.p Pu.ex ?_
 refine TL.p Pu.ex ?_
 refine TL.p Pu.as ?_
 refine TL.p Pu.as ?_
 refine TL.p Pu.as ?_
 refine TL.nil (TQ.thenN (hY7 _ _ ?_))
 refine TW.seq fun Y8 hY8 => TW.region ?_
 refine TL.p Pu.mv ?_
 refine TL.call (M := []) rfl (enters Tryz.func7 rfl rfl) (List.Perm.refl _) rfl (fun w hw => by
   exact rLog_any ht _) ?_
 rintro ⟨⟨⟨ly, ey⟩, Sy⟩, h1y, h2y, h3y⟩
 refine TL.p Pu.mv ?_
 refine TL.p Pu.ex ?_
 refine TL.p Pu.ex ?_
 refine TL.p Pu.ex ?_
 refine TL.p Pu.as ?_
 refine TL.p Pu.as ?_
 refine TL.p Pu.as ?_
 refine TL.nil (TQ.thenN (hY8 _ _ ?_))
 dsimp only
 simp only [bkO, lgO, List.cons_append, List.nil_append]
 dsimp only at h1a h2a h3a h1b h2b h3b h1x h2x h3x h1y h2y h3y
 obtain rfl : la = lb := h1a.trans h1b.symm
 obtain rfl : ea = eb := h2a.trans h2b.symm
 obtain rfl : lx = ly := h1x.trans h1y.symm
 obtain rfl : ex = ey := h2x.trans h2y.symm
 have hco : CtL (Bk.cont Sa) := by rw [h3a]; exact rdW_ok
 have hcx : CtL (Lg.cont Sx) := by rw [h3x]; exact rdW_ok
 have hab : Sa.rows = Sb.rows ∧ Sa.lets = Sb.lets := by
  have h := h3a.trans h3b.symm
  exact ⟨congrArg Cont.rows h, congrArg Cont.letters h⟩
 have hxy : Sx.es.map (·.1) = Sy.es.map (·.1) := congrArg Cont.log (h3x.trans h3y.symm)
 have hxl : Sx.es.length = Sy.es.length := by have h := congrArg List.length hxy; rwa [List.length_map, List.length_map] at h
 have hn1 : Sa.rows.length + Sa.lets.length ≤ 300 := hco.1.1
 have hn2 : Sx.es.length ≤ 200 := by have h : (Sx.es.map (·.1)).length ≤ 200 := hcx.1.2; rwa [List.length_map] at h
 have hla : ∀ i, i < Sx.es.length → (Sx.es.getD i enD).1.args.length ≤ 1000000 := fun i hi => by
  have h : (Sx.es.getD i enD).1 ∈ Sx.es.map (·.1) := by
   rw [List.getD_eq_getElem?_getD, List.getElem?_eq_getElem hi]
   exact List.mem_map.2 ⟨_, List.getElem_mem hi, rfl⟩
  have h9 := hcx.2 _ h
  omega
 rw [← hab.1, ← hab.2]
 refine TW.seq fun Y9 hY9 => TW.region ?_
 refine TL.p (Pu.lds ty_ag25) ?_
 refine TL.p (Pu.lds ty_ag25) ?_
 refine TL.cr rfl (enters Tryz.func8 rfl rfl) (fun w hw => by
   exact sameBookR_any (fOf Sa.rows) (gOf Sa.lets) (OwnR.rdr (hw.holds (.own Sa.R Sa.rows.length Sa.cr 48 14 (rwT Sa.rows)) (Pick.mem pk9))) (OwnR.rdr (hw.holds (.own Sb.R Sa.rows.length Sb.cr 48 14 (rwT Sa.rows)) (Pick.mem pk9))) (OwnR.rdr (hw.holds (.own Sa.L Sa.lets.length Sa.cl 51 8 (ltT Sa.lets)) (Pick.mem pk9))) (OwnR.rdr (hw.holds (.own Sb.L Sa.lets.length Sb.cl 51 8 (ltT Sa.lets)) (Pick.mem pk9))) (by omega) (by omega)) ?_
 refine TL.lit (t := 44) (b' := true) rfl (rfl) ?_
 refine TL.p Pu.mv ?_
 refine TL.gd Pu.mv ?_
 refine TL.gd Pu.mv ?_
 refine TL.gd Pu.eq ?_
 refine TL.lit (t := 48) (b' := true) rfl ((decide_eq_true rfl)) ?_
 refine TL.p Pu.kt ?_
 refine TL.p Pu.mv ?_
 refine TL.gd Pu.mv ?_
 refine TL.gd Pu.mv ?_
 refine TL.gd Pu.eq ?_
 refine TL.lit (t := 53) (b' := true) rfl ((decide_eq_true rfl)) ?_
 refine TL.p Pu.kt ?_
 refine TL.p Pu.mv ?_
 refine TL.gd Pu.mv ?_
 refine TL.gd Pu.mv ?_
 refine TL.cr rfl (enters Tryz.func9 rfl rfl) (fun w hw => by
   have hA := logIn_of (S := Sx) hw (Pick.mem pk9) (Pick.mem pk9)
   have hB := logIn_of (S := Sy) hw (Pick.mem pk9) (Pick.mem pk9)
   have he : (fun i => (Sy.es.getD i enD).1) = fun i => (Sx.es.getD i enD).1 := funext fun i => (ent_getD hxy i).symm
   rw [he, ← hxl] at hB
   rw [← hxl]
   exact sameLogR_any hA hB (by omega) hla) ?_
 refine TL.lit (t := 58) (b' := true) rfl (rfl) ?_
 refine TL.p Pu.kt ?_
 refine TL.p Pu.mv ?_
 refine TL.gd Pu.mv ?_
 refine TL.gd Pu.mv ?_
 refine TL.gd Pu.eq ?_
 refine TL.lit (t := 63) (b' := true) rfl ((decide_eq_true rfl)) ?_
 refine TL.p Pu.kt ?_
 refine TL.p Pu.mv ?_
 refine TL.gd Pu.mv ?_
 refine TL.gd Pu.mv ?_
 refine TL.gd Pu.eq ?_
 refine TL.lit (t := 68) (b' := true) rfl ((decide_eq_true rfl)) ?_
 refine TL.p Pu.kt ?_
 refine TL.p Pu.as ?_
 refine TL.nil (TQ.thenN (hY9 _ _ ?_))
 refine TW.ret ?_
 refine TQ.ret Tryz.results3 rfl ((.tmp rfl .nil)) ?_
 exact fun w hw => Ret.of hw
end Go.Proofs.YtfgnbkegdjkdmaaGreatDoor
namespace Go.Proofs.YtfgnbkegdjkdmaaGreatDoor
set_option linter.all false
set_option linter.unusedVariables false
set_option linter.unusedSimpArgs false
open Go.RowKit
set_option maxRecDepth 100000
theorem leaderReads_f2 : mapsRowed Tryz.prog = true := by kernel_rfl
theorem leaderReads_f9 : (Rows.leaderReadsRow.inPlace == Tryz.prog.inPlace 3) = true := by kernel_rfl
theorem leaderReads_f10 : (Rows.leaderReadsRow.unfollowed == Tryz.prog.unfollowed 3) = true := by kernel_rfl
theorem leaderReads_f11 : (Rows.leaderReadsRow.recurses == Tryz.prog.recurses 3) = true := by kernel_rfl
theorem leaderReads_f12 : (Rows.leaderReadsRow.named == Tryz.prog.varsNamed 3) = true := by kernel_rfl
theorem leaderReads_f22 : (Rows.leaderReadsRow.plainKeys == Tryz.prog.plainKeys) = true := by kernel_rfl
theorem leaderReads_f24 : Tryz.prog.stopsHeard = true := by kernel_rfl
theorem leaderReads_f25 : Tryz.prog.mayEnter = true := by kernel_rfl
theorem leaderReads_closed : joinedFacts Tryz.prog 3 Tryz.f3 Rows.leaderReadsSpec Rows.leaderReadsRow = true := by
 unfold joinedFacts
 simp only [Bool.and_eq_true]
 refine ⟨⟨⟨⟨⟨⟨⟨⟨⟨⟨⟨⟨⟨⟨⟨⟨⟨⟨⟨⟨⟨⟨⟨⟨⟨⟨⟨⟨⟨⟨⟨?_, ?_⟩, ?_⟩, ?_⟩, ?_⟩, ?_⟩, ?_⟩, ?_⟩, ?_⟩, ?_⟩, ?_⟩, ?_⟩, ?_⟩, ?_⟩, ?_⟩, ?_⟩, ?_⟩, ?_⟩, ?_⟩, ?_⟩, ?_⟩, ?_⟩, ?_⟩, ?_⟩, ?_⟩, ?_⟩, ?_⟩, ?_⟩, ?_⟩, ?_⟩, ?_⟩, ?_⟩
 · kernel_rfl
 · exact Tryz.laidOut
 · exact leaderReads_f2
 · kernel_rfl
 · kernel_rfl
 · kernel_rfl
 · kernel_rfl
 · kernel_rfl
 · kernel_rfl
 · exact leaderReads_f9
 · exact leaderReads_f10
 · exact leaderReads_f11
 · exact leaderReads_f12
 · kernel_rfl
 · kernel_rfl
 · kernel_rfl
 · kernel_rfl
 · kernel_rfl
 · kernel_rfl
 · kernel_rfl
 · kernel_rfl
 · kernel_rfl
 · exact leaderReads_f22
 · kernel_rfl
 · exact leaderReads_f24
 · exact leaderReads_f25
 · kernel_rfl
 · kernel_rfl
 · kernel_rfl
 · kernel_rfl
 · kernel_rfl
 · kernel_rfl
end Go.Proofs.YtfgnbkegdjkdmaaGreatDoor
namespace Go.Proofs.YtfgnbkegdjkdmaaGreatDoor
set_option linter.all false
set_option linter.unusedVariables false
set_option linter.unusedSimpArgs false
open Go.RowKit
set_option maxRecDepth 100000
theorem leaderReads_wft : OpenClaim.wfByText (OpenSpec.ofChange Rows.leaderReadsSpec) Rows.leaderReadsRow = true := by kernel_rfl
theorem leaderReads_lks : true = Tryz.prog.looks [] := by kernel_rfl
theorem leaderReads_gby : false = OpenClaim.goesBy Rows.leaderReadsRow Tryz.prog := by kernel_rfl
end Go.Proofs.YtfgnbkegdjkdmaaGreatDoor
namespace Go.Proofs.YtfgnbkegdjkdmaaGreatDoor
set_option linter.all false
set_option linter.unusedVariables false
set_option linter.unusedSimpArgs false
theorem row_of_walk {H : Type} {enc : TypeId × Value → H} {a : Assume} {C : Checked} {os : Os} {f : FuncId} {fn : Func} {s : ChangeSpec} {conds : List PathCond} {apart fresh handsOn again : Bool} {X : World → Array Value → Prop}
    (hX : ∀ (w w' : World) (args : Array Value), w.heap = w'.heap → X w args → X w' args)
    (own : ownKnob C.prog.godebug = none) (started : os.Started) (noInit : C.prog.inits.idxOf? f = none) (hfn : C.prog.funcs[f]? = some fn)
    (witness : ∃ (w : World) (tape : Tape) (i : Input), w.os = os ∧ (w.forCall tape i).Shaped C.prog ∧ i.vars = [] ∧ Input.okWide C.prog (w.forCall tape i) .any w.heap.size f i ∧
      ((s.pre enc C.prog fn conds apart (w.forCall tape i).memory i.args ∧ X (w.forCall tape i).memory i.args) ∧ sizedMet enc C.prog fn (OpenSpec.ofChange s) apart (w.forCall tape i).memory i.args) ∧ a.holds C.prog (lone (Frame.enter C.prog f i.args .normal) [] (w.forCall tape i)))
    (walk : ∀ (W : World) (base : Nat) (args : Array Value) (ds gs : List (DataW H)) (before : List MemPlace),
      (∀ (j : Nat) t v, fn.params[j]? = some t → args[j]? = some v → Value.okWide C.prog W .any base t v) →
      DataW.Whole enc C.prog fn.params.toList s.vars apart W args.toList ds gs before →
      (DataW.weightsEach C.prog (fn.params.toList ++ s.plain.varTypes C.prog) (ds ++ gs)).all (· ≤ reachBytes) = true → X W args → W.ShapedOpen C.prog →
      Calls C.prog f args W fun e W' => ∃ v, e = .returned v ∧ s.post enc C.prog fn apart fresh handsOn again W args v W') :
    ReturnsInHanded a C os f .any (fun w args => (s.pre enc C.prog fn conds apart w args ∧ X w args) ∧ sizedMet enc C.prog fn (OpenSpec.ofChange s) apart w args) (s.post enc C.prog fn apart fresh handsOn again) :=
  returnsInHanded_of_calls own started noInit witness fun w tape i _ hsh _ hok hpre _ => by
    obtain ⟨_, _, _, fn', hfn', _, _, _, _, hval⟩ := hok
    have e : fn' = fn := Option.some.inj (hfn'.symm.trans hfn)
    subst e
    obtain ⟨⟨⟨ds, gs, before, hw, _⟩, hx⟩, hz⟩ := hpre
    have hw' := DataW.Whole.of_heap (w' := w.forCall tape i) (by rfl) hw
    refine (walk (w.forCall tape i) w.heap.size i.args ds gs before hval hw' (hz.weights hw) (hX _ _ _ (by rfl) hx) hsh).mono ?_
    rintro e W' ⟨v, rfl, hp⟩
    exact ChangeSpec.post_blind hp
end Go.Proofs.YtfgnbkegdjkdmaaGreatDoor
namespace Go.Proofs.YtfgnbkegdjkdmaaGreatDoor
set_option linter.all false
set_option linter.unusedVariables false
set_option linter.unusedSimpArgs false
open Go.ChangeShapes Go.WideShapes Go.ChangeAt Go.RowKit Go.Deep
open Go.ChangeMaps (open_string)
theorem star_errors : "*" ++ "errors.errorString" = "*errors.errorString" := by decide
theorem row_errors (u : TypeId) (h : Tryz.prog.typeName? 3 u = some "*errors.errorString") : u = 273 :=
 typeName_ptr_named (nm := "errors.errorString") (by rw [star_errors]; kernel_rfl) (by kernel_rfl) (by decide) u (by rw [star_errors]; exact h)
theorem sent_cell {n : String} {text : List UInt8} {r : List (String × DataW Unit)} {W : World} {g : Nat} (h : laidMet Tryz.prog ((n, .iface "*errors.errorString" (.ptr (.agg [.lit (.string text)]))) :: r) W) (hg : Tryz.prog.globalNamed n = some g) (ht : (Tryz.prog.globals[g]?).map (·.type) = some 73) :
  ∃ v, W.cell? ⟨g, 0, none⟩ = some v ∧ (v = .nilIface ∨ ∃ te pe, v = .iface te pe) := by
 obtain ⟨a0, s0, hv0, -, -, -⟩ := laid_sentinel h hg ht Tryz.underlying73 row_errors Tryz.underlying273 Tryz.underlying275 rfl rfl Tryz.underlying9 (by kernel_rfl) (by kernel_rfl)
 exact ⟨_, by have h0 := World.var?_cell hg hv0 0; simpa using h0, .inr ⟨_, _, rfl⟩⟩
set_option maxRecDepth 100000 in
theorem rdW_of_laid {W : World} (h : laidMetH Tryz.prog Rows.leaderReadsRow.laid W) (hsh : W.ShapedOpen Tryz.prog) : RdW W := by
 rw [MakeChecks.laidMetH_plain _ _ _ (by kernel_rfl)] at h
 have h1 := laidMet.tail (laidMet.tail h)
 have h2 := laidMet.tail (laidMet.tail h1)
 have h3 := laidMet.tail h2
 refine ⟨Lib.tabIs_of_head (g := 3) (t := 277) (e := 191) (n := 20) (by kernel_rfl) (by kernel_rfl) Tryz.underlying277 Tryz.underlying191 (by kernel_rfl) (by kernel_rfl) h1, ?_, ?_, ?_⟩
 · exact cell_of_shapedOpen_int (P := Tryz.prog) (g := 0) (t := 3) (zero := #[.int .i64 0]) hsh (of_decide_eq_true (by kernel_rfl)) (by kernel_rfl) rfl (by kernel_rfl) (by kernel_rfl) Tryz.underlying3
 · exact sent_cell h3 (by kernel_rfl) (by kernel_rfl)
 · exact sent_cell h2 (by kernel_rfl) (by kernel_rfl)
set_option maxRecDepth 100000 in
theorem leaderReads_door (os : Os) (args : Array Value) : laidMetH Tryz.prog Rows.leaderReadsRow.laid ((World.laidAll Tryz.prog os Rows.leaderReadsRow.laid).forCall (fun _ _ => 0) ⟨#[], args, []⟩).memory :=
 by rw [MakeChecks.laidMetH_plain _ _ _ (by kernel_rfl)]; exact laidMet_laidAll _ (by kernel_rfl) (by kernel_rfl)
set_option maxRecDepth 100000 in
theorem leaderReads_lifted (os : Os) (started : os.Started) (H : Type) (enc : TypeId × Value → H) :
    ReturnsInHanded {} Tryz.checked os 3 .any (fun w args => (Rows.leaderReadsSpec.pre enc Tryz.prog Tryz.f3 [] false w args ∧ laidMetH Tryz.prog Rows.leaderReadsRow.laid w) ∧ sizedMet enc Tryz.prog Tryz.f3 (OpenSpec.ofChange Rows.leaderReadsSpec) false w args) (Rows.leaderReadsSpec.post enc Tryz.prog Tryz.f3 false true false false) := by
  refine row_of_walk (C := Tryz.checked) (X := fun w _ => laidMetH Tryz.prog Rows.leaderReadsRow.laid w) (fun _ _ _ hh h => h.of_heap hh) Tryz.own started (by kernel_rfl) Tryz.func3
    (ChangeSpec.witness_shaped (enc := enc) (C := Tryz.checked) (os := os) (X := fun w _ => laidMetH Tryz.prog Rows.leaderReadsRow.laid w) false (World.laidAll Tryz.prog os Rows.leaderReadsRow.laid) #[.string ⟨#[]⟩] 8 (World.laidAll_os _ _ _) (World.shaped_of_ZipB (by kernel_rfl) (by kernel_rfl)) (by kernel_rfl) (by kernel_rfl) (by kernel_rfl) (leaderReads_door os _)) ?_
  intro W base args ds gs before hval0 hW hsz hLd hsh
  have hval : ∀ (j : Nat) t v, Tryz.f3.params[j]? = some t → args[j]? = some v → Value.okWide Tryz.prog W .any base t v := hval0
  have hW' := hW
  obtain ⟨p, q, hA0, hV, rfl, hfz, hnd⟩ := hW
  have hA : DataW.TrodAll enc Tryz.prog W 0 (fun _ => true) true Tryz.f3.params.toList args.toList ds p := hA0
  have hA1 := hA
  rw [Tryz.params3] at hA hval
  obtain ⟨v0, d0, rfl, rfl, h0⟩ := trodAll_one hA
  obtain ⟨rfl, rfl⟩ := trodVars_none hV
  have hE : RdW W := rdW_of_laid hLd hsh
  obtain ⟨s, rfl, rfl, rfl, hs⟩ := open_string Tryz.underlying9 (hval 0 9 v0 rfl rfl) h0
  have hwk := lawReads_any (t := s.data.toList) hE
  rw [← sv_bytes] at hwk
  clear hA0 hval0
  simp only [List.append_nil] at hW'
  refine (hwk).mono ?_
  rintro e W' ⟨rfl, hb⟩
  exact ⟨_, rfl, law_post Tryz.laidOut rfl hW' hA1 (by kernel_rfl) (by kernel_rfl) Tryz.underlying4 rfl hb⟩
theorem leaderReads_row : Rows.LeaderReadsSaid :=
  OpenClaim.holds_of_wide 3 Tryz.f3 rfl rfl rfl rfl rfl rfl rfl ⟨rfl, rfl, rfl, rfl, rfl⟩ rfl rfl rfl rfl rfl (by kernel_rfl) Tryz.func3 leaderReads_closed
    (of_decide_eq_true (by kernel_rfl)) (by unfold Func.isWrapper; first | (rw [if_pos (by decide +kernel)]; kernel_rfl) | (rw [if_neg (by decide +kernel)]; exact ⟨rfl, rfl⟩))
    (fun os started H enc _ => leaderReads_lifted os started H enc)
theorem leaderReads_holds : Rows.LeaderReadsCardSaid :=
  Claim7.holds_tied_plain_at .later [] [.data, .data, .data, .data, .sentinel, .sentinel, .data, .pinned] true _ true
    leaderReads_row (fun _ h => by cases h) leaderReads_wft (fun _ h => by cases h) leaderReads_row_tie rfl ⟨rfl, rfl⟩ (by kernel_rfl) rfl
    (fun f fn hf hfn => by
      obtain rfl : f = 3 := Option.some.inj ((show Tryz.prog.funcNamed "azalai/azalailaw10.LeaderReads" = some 3 by kernel_rfl).symm.trans hf) |>.symm
      obtain rfl : fn = Tryz.f3 := (Option.some.inj (Tryz.func3.symm.trans hfn)).symm
      exact ⟨leaderReads_lks, fun j t ht => by
        have hall : (Tryz.f3.params.toList.all fun u => !Tryz.prog.wantsStandIn u) = true := by kernel_rfl
        have hm : t ∈ Tryz.f3.params.toList := by simpa using Array.mem_of_getElem? ht
        exact (show Tryz.prog.wantsStandIn t = false by simpa using List.all_eq_true.1 hall t hm)⟩)
    leaderReads_gby
end Go.Proofs.YtfgnbkegdjkdmaaGreatDoor
