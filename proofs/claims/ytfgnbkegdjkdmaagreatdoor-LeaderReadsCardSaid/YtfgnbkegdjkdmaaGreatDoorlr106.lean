/-
  Part 6 of the proof of leaderReads_holds: declarations of several texts, in build order. No condition on a program.
-/
import Derived.Test.YtfgnbkegdjkdmaaGreatDoorlr105
import Derived.Test.YtfgnbkegdjkdmaaGreatDoorlr101
namespace Go.Proofs.YtfgnbkegdjkdmaaGreatDoor
set_option linter.all false
set_option linter.unusedVariables false
set_option linter.unusedSimpArgs false
open Go.RowKit Go.Lib
def bkN (b : Nat) (S : Bk) : List Fact := [.blk b 57 [.slice S.R S.rows.length S.cr, .slice S.L S.lets.length S.cl, .slice none 0 0, .bool false], .own S.R S.rows.length S.cr 48 14 (rwT S.rows), .own S.L S.lets.length S.cl 51 8 (ltT S.lets)]
theorem bkN_row {b c cl : Nat} {A L : Option Addr} {rows lets : List (List Int)} {m : List Int} : bkN b ⟨A, c, rows ++ [m], L, cl, lets⟩ = [.blk b 57 [.slice A (rows.length + 1) c, .slice L lets.length cl, .slice none 0 0, .bool false], .own A (rows.length + 1) c 48 14 (rwT (rows ++ [m])), .own L lets.length cl 51 8 (ltT lets)] := by
 simp only [bkN, List.length_append, List.length_cons, List.length_nil, Nat.zero_add]
theorem bkN_let {b c cl : Nat} {A L : Option Addr} {rows lets : List (List Int)} {m : List Int} : bkN b ⟨A, c, rows, L, cl, lets ++ [m]⟩ = [.blk b 57 [.slice A rows.length c, .slice L (lets.length + 1) cl, .slice none 0 0, .bool false], .own A rows.length c 48 14 (rwT rows), .own L (lets.length + 1) cl 51 8 (ltT (lets ++ [m]))] := by
 simp only [bkN, List.length_append, List.length_cons, List.length_nil, Nat.zero_add]
theorem tk_any {isLog : Bool} {c c1 c2 : Cont} {ls : List (List UInt8)} (h : TkR isLog c ls false c1) : TkR isLog c ls false c2 := by
 unfold TkR
 rw [h.no]
section
variable {t f : List UInt8} {l : List (List UInt8)} {S : Bk} {M : List (Nat × Nat)}
theorem retB_row {S0 : List Nat} {w0 w : World} {K K1 K2 K3 : List Fact} {b c : Nat} {A : Option Addr} {ms : List Int} (hw : Sat S0 w0 K w) (h1 : Pick K (.blk b 57 [.slice A (S.rows.length + 1) c, .slice S.L S.lets.length S.cl, .slice none 0 0, .bool false]) K1)
  (h2 : Pick K1 (.own A (S.rows.length + 1) c 48 14 (catR S.rows.length (rwT S.rows) (fun _ => rowF9 ms))) K2) (h3 : Pick K2 (.own S.L S.lets.length S.cl 51 8 (ltT S.lets)) K3) : Sat S0 w0 (bkN b ⟨A, c, S.rows ++ [ms], S.L, S.cl, S.lets⟩) w := by
 rw [bkN_row]
 exact hw.sub (KSub.cons h1 (KSub.own h2 (rwT_app rfl) (KSub.cons h3 KSub.nil)))
theorem retB_let {S0 : List Nat} {w0 w : World} {K K1 K2 K3 : List Fact} {b c : Nat} {A : Option Addr} {ms : List Int} (h8 : ms.length = 8) (hw : Sat S0 w0 K w) (h1 : Pick K (.blk b 57 [.slice S.R S.rows.length S.cr, .slice A (S.lets.length + 1) c, .slice none 0 0, .bool false]) K1)
  (h2 : Pick K1 (.own A (S.lets.length + 1) c 51 8 (catR S.lets.length (ltT S.lets) (fun _ => ltL (ltrW ms)))) K2) (h3 : Pick K2 (.own S.R S.rows.length S.cr 48 14 (rwT S.rows)) K3) : Sat S0 w0 (bkN b ⟨S.R, S.cr, S.rows, A, c, S.lets ++ [ltrX ms]⟩) w := by
 rw [bkN_let]
 exact (hw.sub (L := [.blk b 57 [.slice S.R S.rows.length S.cr, .slice A (S.lets.length + 1) c, .slice none 0 0, .bool false], .own A (S.lets.length + 1) c 51 8 (ltT (S.lets ++ [ltrX ms])), .own S.R S.rows.length S.cr 48 14 (rwT S.rows)]) (KSub.cons h1 (KSub.own h2 (ltT_app h8 rfl) (KSub.cons h3 KSub.nil)))).sub (KSub.cons pk9 (KSub.cons pk9 (KSub.cons pk9 KSub.nil)))
set_option maxRecDepth 100000 in
set_option maxHeartbeats 4000000 in
theorem rAddB_any {b n cp : Nat} {A : Option Addr} {w : World} (ht : t.length ≤ 40000) (hn : n = l.length + 1) (hl : n ≤ 40001) (hW : WdIn t M (f :: l)) (hS : CtOk S.cont)
  (hM : Sat (feet (bkN b S)) w (bkN b S) w) (hR : RdR w 2 A n (mkT M)) (hA : Apart (feet (bkN b S)) A) :
  CallsK Tryz.prog 34 #[.pointer (some ⟨b, 0, none⟩), sv t, .slice A n cp] (bkN b S) w { x : Bool × Bk // TkR false S.cont (f :: l) x.1 x.2.cont } (fun x => .bool x.1.1) (fun x => bkN b x.1.2) := by
 obtain ⟨ok, ms, hN⟩ := nmR_ex l
 have hml := hN.len
 have hS1 : S.rows.length + S.lets.length ≤ 300 := hS.1
 obtain ⟨hw1, hw2, hw3⟩ := hW 0 (Nat.succ_pos _)
 obtain ⟨v1, hv1⟩ : ∃ b, decide (f = [82]) = b := ⟨_, rfl⟩
 obtain ⟨v2, hv2⟩ : ∃ b, decide ((ms.length : Int) = 14) = b := ⟨_, rfl⟩
 obtain ⟨v3, hv3⟩ : ∃ b, decide ((S.lets.length : Int) = 0) = b := ⟨_, rfl⟩
 obtain ⟨v4, hv4⟩ : ∃ b, decide (f = [76]) = b := ⟨_, rfl⟩
 obtain ⟨v5, hv5⟩ : ∃ b, decide ((ms.length : Int) = 8) = b := ⟨_, rfl⟩
 obtain ⟨v6, hv6⟩ : ∃ b, decide (((S.rows.length + S.lets.length + 0 : Nat) : Int) = 300) = b := ⟨_, rfl⟩
 refine K_enter (S := feet (bkN b S)) (K := [.blk b 57 [.slice S.R S.rows.length S.cr, .slice S.L S.lets.length S.cl, .slice none 0 0, .bool false], .own S.R S.rows.length S.cr 48 14 (rwT S.rows), .own S.L S.lets.length S.cl 51 8 (ltT S.lets)]) Tryz.func34 rfl Tryz.ntmps34 rfl hM ?_
 refine TW.seq fun Y1 hY1 => TW.region ?_
 refine TL.p Pu.as ?_
 refine TL.nil (TQ.thenN (hY1 _ _ ?_))
 refine TW.seq fun Y2 hY2 => ?_
 refine TW.dw 11 ?_
 refine RK.tk Pu.mv ?_
 refine RK.tk Pu.mv ?_
 refine RK.tk (Pu.el (q := 0) ty_et80 (hk := rfl)) ?_
 refine RK.tk (by first | exact Pu.fb ty_fa85_0 | exact Pu.fe ty_fa85_0) ?_
 refine RK.tk (Pu.ld ty_sc3) ?_
 refine RK.tk Pu.mv ?_
 refine RK.tk (Pu.el (q := 0) ty_et80 (hk := rfl)) ?_
 refine RK.tk (by first | exact Pu.fb ty_fa85_1 | exact Pu.fe ty_fa85_1) ?_
 refine RK.tk (Pu.ld ty_sc3) ?_
 refine RK.tk (Pu.sw (b := f) (Pu.ssb Tryz.underlying9 (p := (M.getD 0 (0, 0)).1) (q := (M.getD 0 (0, 0)).2)) hw3) ?_
 refine RK.tk Pu.as ?_
 refine RK.ch [] ?_ trivial
 refine WK.n ?_
 refine TL.nil (TQ.thenN (hY2 _ _ ?_))
 refine TW.seq fun Y3 hY3 => ?_
 refine TW.seq fun Y4 hY4 => TW.region ?_
 refine TL.p Pu.mv ?_
 refine TL.p (by first | exact Pu.nn | exact Pu.nc) ?_
 refine TL.p (by first | exact Pu.fb ty_fa57_2 | exact Pu.fe ty_fa57_2) ?_
 refine TL.p (Pu.ld ty_sc4) ?_
 refine TL.nil (TQ.thenN (hY4 _ _ ?_))
 refine TW.condF rfl (rfl) ?_
 refine TW.skip ?_
 refine TQ.thenN (hY3 _ _ ?_)
 refine TW.seq fun Y5 hY5 => TW.region ?_
 refine TL.p Pu.mv ?_
 refine TL.p Pu.mv ?_
 refine TL.call (M := []) rfl (enters Tryz.func33 rfl rfl) (List.Perm.refl _) rfl (fun w hw => by
   exact rNumbers_any (ws := f :: l) (M := M) (j := 1) ht (by rw [List.length_cons]; omega) hl (by omega) hW hN (hR.sat hw hA)) ?_
 rintro ⟨B, c⟩
 refine TL.p Pu.mv ?_
 refine TL.p Pu.ex ?_
 refine TL.p Pu.ex ?_
 refine TL.p Pu.as ?_
 refine TL.p Pu.as ?_
 refine TL.nil (TQ.thenN (hY5 _ _ ?_))
 refine TW.seq fun Y6 hY6 => ?_
 refine TW.seq fun Y7 hY7 => ?_
 refine TW.join [(110, .bool (!ok || v6))] ?_ (fun hJ1 => ?_)
 refine TQ.thenN (hY7 _ _ ?_)
 refine TW.cond rfl (fun hc3 => ?_) (fun hc3 => ?_)
 try simp only [zcb9] at hc3
 have hno := tkB_no (S := S) (f := f) hN (by rcases hc3 with h | h; exact .inl (by simpa using h); exact .inr (by rw [h] at hv6; have := of_decide_eq_true hv6; omega))
 refine TW.seq fun Y8 hY8 => TW.region ?_
 refine TL.p Pu.as ?_
 refine TL.nil (TQ.thenN (hY8 _ _ ?_))
 refine TW.ret ?_
 refine TQ.thenR ?_
 refine TQ.ret Tryz.results34 rfl ((.tmp rfl .nil)) ?_
 first
 | exact fun w hw => ⟨⟨(false, S), hno _⟩, rfl, hw.sub ks9⟩
 | exact fun w hw => ⟨⟨(true, ⟨_, _, S.rows ++ [ms], S.L, S.cl, S.lets⟩), tkB_row hms h300 h14⟩, rfl, retB_row hw pk9 pk9 pk9⟩
 | exact fun w hw => ⟨⟨(lettB ms, S), by have h9 := tkB_let (f := f) hms h300 h8; rw [hxl] at h9 ⊢; exact tk_any h9⟩, rfl, hw.sub ks9⟩
 | exact fun w hw => ⟨⟨(lettB ms, ⟨S.R, S.cr, S.rows, _, _, S.lets ++ [ltrX ms]⟩), tkB_let (f := f) hms h300 h8⟩, rfl, retB_let h8.2 hw pk9 pk9 pk9⟩
 | exact fun w hw => ⟨⟨(false, S), tkB_else hms h300 h14 h8 _⟩, rfl, hw.sub ks9⟩
 | trace_state
 try simp only [zcb9] at hc3
 have hms := nm_yes hN (by simpa using hc3.1)
 have h300 : ¬ S.rows.length + S.lets.length = 300 := by have h := hc3.2; rw [h] at hv6; have := of_decide_eq_false hv6; omega
 refine TW.skip ?_
 refine TQ.thenN (hY6 _ _ ?_)
 refine TW.seq fun Y9 hY9 => ?_
 refine TW.seq fun Y10 hY10 => ?_
 refine TW.join [(126, .bool (v1 && v2 && v3))] ?_ (fun hJ2 => ?_)
 refine TQ.thenN (hY10 _ _ ?_)
 refine TW.cond rfl (fun hc4 => ?_) (fun hc4 => ?_)
 try simp only [zcb9] at hc4
 have h14 : f = [82] ∧ ms.length = 14 ∧ S.lets.length = 0 := by
  obtain ⟨⟨h1, h2⟩, h3⟩ := hc4
  rw [h1] at hv1
  rw [h2] at hv2
  rw [h3] at hv3
  have := of_decide_eq_true hv2
  have := of_decide_eq_true hv3
  exact ⟨of_decide_eq_true hv1, by omega, by omega⟩
 refine TW.seq fun Y11 hY11 => ?_
 refine TW.ex0k ([] : List Fact) ?_
 refine RG.tk 0 rfl Pu.mv ?_
 refine RG.tk 1 rfl Pu.mv ?_
 refine RG.tk 6 rfl Pu.mv ?_
 refine RG.a2 2 7 rfl rfl (fun X2 hX2 => ?_) (fun X7 hX7 => ?_)
 refine TL.p (by first | exact Pu.nn | exact Pu.nc) ?_
 refine TL.nil ?_
 refine TQ.nxt (hX2 _ _ hl9 ?_)
 refine RG.tk 3 rfl (by first | exact Pu.fb ty_fa57_0 | exact Pu.fe ty_fa57_0) ?_
 refine RG.tk 4 rfl (by first | exact Pu.fb ty_fa25_0 | exact Pu.fe ty_fa25_0) ?_
 refine RG.a2 5 7 rfl rfl (fun X5 hX5 => ?_) (fun X7 hX7 => ?_)
 refine TL.p (Pu.ld ty_sc22) ?_
 refine TL.nil ?_
 refine TQ.nxt (hX5 _ _ hl9 ?_)
 refine RG.a1 7 rfl (fun X7 hX7 => ?_)
 refine TL.cr rfl (enters Tryz.func50 rfl rfl) (fun w hw => by
   exact rRow_any h14.2.1 (OwnR.rdr (hw.own pk9))) ?_
 refine TL.nil ?_
 refine TQ.nxt (hX7 _ _ hl9 ?_)
 refine RG.a1 8 rfl (fun X8 hX8 => ?_)
 refine TL.m Mk.bl ?_
 intro b1
 refine TL.nil ?_
 refine TQ.nxt (hX8 _ _ hl9 ?_)
 refine RG.a1 9 rfl (fun X9 hX9 => ?_)
 refine TL.obn (n := 1) (sz := 14) (r := fun _ => rowF9 ms) pk9 (by simp [flatR, rowF9, rwL, h14.2.1]) (fun _ _ => rfl) ?_
 first | refine TL.a0 ty_et22 ?_ | refine TL.ap ty_et22 ?_
 intro A2 c2
 refine TL.nil ?_
 refine TQ.nxt (hX9 _ _ hl9 ?_)
 refine RG.a1 10 rfl (fun X10 hX10 => ?_)
 refine TL.p (by first | exact Pu.nn | exact Pu.nc) ?_
 refine TL.nil ?_
 refine TQ.nxt (hX10 _ _ hl9 ?_)
 refine RG.tk 11 rfl (by first | exact Pu.fb ty_fa57_0 | exact Pu.fe ty_fa57_0) ?_
 refine RG.tk 12 rfl (by first | exact Pu.fb ty_fa25_0 | exact Pu.fe ty_fa25_0) ?_
 refine RG.a1 13 rfl (fun X13 hX13 => ?_)
 first | refine TL.st ty_sz22 ?_ | refine TL.se ty_sz22 ?_
 refine TL.nil ?_
 refine TQ.nxt (hX13 _ _ hl9 ?_)
 refine RG.nil ?_ (by kernel_rfl)
 refine TQ.thenN (hY11 _ _ ?_)
 refine TW.seq fun Y12 hY12 => TW.region ?_
 refine TL.p Pu.as ?_
 refine TL.nil (TQ.thenN (hY12 _ _ ?_))
 refine TW.ret ?_
 refine TQ.thenR ?_
 refine TQ.ret Tryz.results34 rfl ((.tmp rfl .nil)) ?_
 first
 | exact fun w hw => ⟨⟨(false, S), hno _⟩, rfl, hw.sub ks9⟩
 | exact fun w hw => ⟨⟨(true, ⟨_, _, S.rows ++ [ms], S.L, S.cl, S.lets⟩), tkB_row hms h300 h14⟩, rfl, retB_row hw pk9 pk9 pk9⟩
 | exact fun w hw => ⟨⟨(lettB ms, S), by have h9 := tkB_let (f := f) hms h300 h8; rw [hxl] at h9 ⊢; exact tk_any h9⟩, rfl, hw.sub ks9⟩
 | exact fun w hw => ⟨⟨(lettB ms, ⟨S.R, S.cr, S.rows, _, _, S.lets ++ [ltrX ms]⟩), tkB_let (f := f) hms h300 h8⟩, rfl, retB_let h8.2 hw pk9 pk9 pk9⟩
 | exact fun w hw => ⟨⟨(false, S), tkB_else hms h300 h14 h8 _⟩, rfl, hw.sub ks9⟩
 | trace_state
 refine TL.cr rfl (enters Tryz.func50 rfl rfl) (fun w hw => by
   exact rRow_any h14.2.1 (OwnR.rdr (hw.own pk9))) ?_
 refine TL.nil ?_
 refine TQ.nxt (hX7 _ _ hl9 ?_)
 refine RG.a2 5 8 rfl rfl (fun X5 hX5 => ?_) (fun X8 hX8 => ?_)
 refine TL.p (Pu.ld ty_sc22) ?_
 refine TL.nil ?_
 refine TQ.nxt (hX5 _ _ hl9 ?_)
 refine RG.a1 8 rfl (fun X8 hX8 => ?_)
 refine TL.m Mk.bl ?_
 intro b3
 refine TL.nil ?_
 refine TQ.nxt (hX8 _ _ hl9 ?_)
 refine RG.a1 9 rfl (fun X9 hX9 => ?_)
 refine TL.obn (n := 1) (sz := 14) (r := fun _ => rowF9 ms) pk9 (by simp [flatR, rowF9, rwL, h14.2.1]) (fun _ _ => rfl) ?_
 first | refine TL.a0 ty_et22 ?_ | refine TL.ap ty_et22 ?_
 intro A4 c4
 refine TL.nil ?_
 refine TQ.nxt (hX9 _ _ hl9 ?_)
 refine RG.a1 10 rfl (fun X10 hX10 => ?_)
 refine TL.p (by first | exact Pu.nn | exact Pu.nc) ?_
 refine TL.nil ?_
 refine TQ.nxt (hX10 _ _ hl9 ?_)
 refine RG.tk 11 rfl (by first | exact Pu.fb ty_fa57_0 | exact Pu.fe ty_fa57_0) ?_
 refine RG.tk 12 rfl (by first | exact Pu.fb ty_fa25_0 | exact Pu.fe ty_fa25_0) ?_
 refine RG.a1 13 rfl (fun X13 hX13 => ?_)
 first | refine TL.st ty_sz22 ?_ | refine TL.se ty_sz22 ?_
 refine TL.nil ?_
 refine TQ.nxt (hX13 _ _ hl9 ?_)
 refine RG.nil ?_ (by kernel_rfl)
 refine TQ.thenN (hY11 _ _ ?_)
 refine TW.seq fun Y13 hY13 => TW.region ?_
 refine TL.p Pu.as ?_
 refine TL.nil (TQ.thenN (hY13 _ _ ?_))
 refine TW.ret ?_
 refine TQ.thenR ?_
 refine TQ.ret Tryz.results34 rfl ((.tmp rfl .nil)) ?_
 first
 | exact fun w hw => ⟨⟨(false, S), hno _⟩, rfl, hw.sub ks9⟩
 | exact fun w hw => ⟨⟨(true, ⟨_, _, S.rows ++ [ms], S.L, S.cl, S.lets⟩), tkB_row hms h300 h14⟩, rfl, retB_row hw pk9 pk9 pk9⟩
 | exact fun w hw => ⟨⟨(lettB ms, S), by have h9 := tkB_let (f := f) hms h300 h8; rw [hxl] at h9 ⊢; exact tk_any h9⟩, rfl, hw.sub ks9⟩
 | exact fun w hw => ⟨⟨(lettB ms, ⟨S.R, S.cr, S.rows, _, _, S.lets ++ [ltrX ms]⟩), tkB_let (f := f) hms h300 h8⟩, rfl, retB_let h8.2 hw pk9 pk9 pk9⟩
 | exact fun w hw => ⟨⟨(false, S), tkB_else hms h300 h14 h8 _⟩, rfl, hw.sub ks9⟩
 | trace_state
 refine TL.m Mk.bl ?_
 intro b5
 refine TL.nil ?_
 refine TQ.nxt (hX8 _ _ hl9 ?_)
 refine RG.a1 5 rfl (fun X5 hX5 => ?_)
 refine TL.p (Pu.ld ty_sc22) ?_
 refine TL.nil ?_
 refine TQ.nxt (hX5 _ _ hl9 ?_)
 refine RG.a1 9 rfl (fun X9 hX9 => ?_)
 refine TL.obn (n := 1) (sz := 14) (r := fun _ => rowF9 ms) pk9 (by simp [flatR, rowF9, rwL, h14.2.1]) (fun _ _ => rfl) ?_
 first | refine TL.a0 ty_et22 ?_ | refine TL.ap ty_et22 ?_
 intro A6 c6
 refine TL.nil ?_
 refine TQ.nxt (hX9 _ _ hl9 ?_)
 refine RG.a1 10 rfl (fun X10 hX10 => ?_)
 refine TL.p (by first | exact Pu.nn | exact Pu.nc) ?_
 refine TL.nil ?_
 refine TQ.nxt (hX10 _ _ hl9 ?_)
 refine RG.tk 11 rfl (by first | exact Pu.fb ty_fa57_0 | exact Pu.fe ty_fa57_0) ?_
 refine RG.tk 12 rfl (by first | exact Pu.fb ty_fa25_0 | exact Pu.fe ty_fa25_0) ?_
 refine RG.a1 13 rfl (fun X13 hX13 => ?_)
 first | refine TL.st ty_sz22 ?_ | refine TL.se ty_sz22 ?_
 refine TL.nil ?_
 refine TQ.nxt (hX13 _ _ hl9 ?_)
 refine RG.nil ?_ (by kernel_rfl)
 refine TQ.thenN (hY11 _ _ ?_)
 refine TW.seq fun Y14 hY14 => TW.region ?_
 refine TL.p Pu.as ?_
 refine TL.nil (TQ.thenN (hY14 _ _ ?_))
 refine TW.ret ?_
 refine TQ.thenR ?_
 refine TQ.ret Tryz.results34 rfl ((.tmp rfl .nil)) ?_
 first
 | exact fun w hw => ⟨⟨(false, S), hno _⟩, rfl, hw.sub ks9⟩
 | exact fun w hw => ⟨⟨(true, ⟨_, _, S.rows ++ [ms], S.L, S.cl, S.lets⟩), tkB_row hms h300 h14⟩, rfl, retB_row hw pk9 pk9 pk9⟩
 | exact fun w hw => ⟨⟨(lettB ms, S), by have h9 := tkB_let (f := f) hms h300 h8; rw [hxl] at h9 ⊢; exact tk_any h9⟩, rfl, hw.sub ks9⟩
 | exact fun w hw => ⟨⟨(lettB ms, ⟨S.R, S.cr, S.rows, _, _, S.lets ++ [ltrX ms]⟩), tkB_let (f := f) hms h300 h8⟩, rfl, retB_let h8.2 hw pk9 pk9 pk9⟩
 | exact fun w hw => ⟨⟨(false, S), tkB_else hms h300 h14 h8 _⟩, rfl, hw.sub ks9⟩
 | trace_state
 refine TL.cr rfl (enters Tryz.func50 rfl rfl) (fun w hw => by
   exact rRow_any h14.2.1 (OwnR.rdr (hw.own pk9))) ?_
 refine TL.nil ?_
 refine TQ.nxt (hX7 _ _ hl9 ?_)
 refine RG.a2 2 8 rfl rfl (fun X2 hX2 => ?_) (fun X8 hX8 => ?_)
 refine TL.p (by first | exact Pu.nn | exact Pu.nc) ?_
 refine TL.nil ?_
 refine TQ.nxt (hX2 _ _ hl9 ?_)
 refine RG.tk 3 rfl (by first | exact Pu.fb ty_fa57_0 | exact Pu.fe ty_fa57_0) ?_
 refine RG.tk 4 rfl (by first | exact Pu.fb ty_fa25_0 | exact Pu.fe ty_fa25_0) ?_
 refine RG.a2 5 8 rfl rfl (fun X5 hX5 => ?_) (fun X8 hX8 => ?_)
 refine TL.p (Pu.ld ty_sc22) ?_
 refine TL.nil ?_
 refine TQ.nxt (hX5 _ _ hl9 ?_)
 refine RG.a1 8 rfl (fun X8 hX8 => ?_)
 refine TL.m Mk.bl ?_
 intro b7
 refine TL.nil ?_
 refine TQ.nxt (hX8 _ _ hl9 ?_)
 refine RG.a1 9 rfl (fun X9 hX9 => ?_)
 refine TL.obn (n := 1) (sz := 14) (r := fun _ => rowF9 ms) pk9 (by simp [flatR, rowF9, rwL, h14.2.1]) (fun _ _ => rfl) ?_
 first | refine TL.a0 ty_et22 ?_ | refine TL.ap ty_et22 ?_
 intro A8 c8
 refine TL.nil ?_
 refine TQ.nxt (hX9 _ _ hl9 ?_)
 refine RG.a1 10 rfl (fun X10 hX10 => ?_)
 refine TL.p (by first | exact Pu.nn | exact Pu.nc) ?_
 refine TL.nil ?_
 refine TQ.nxt (hX10 _ _ hl9 ?_)
 refine RG.tk 11 rfl (by first | exact Pu.fb ty_fa57_0 | exact Pu.fe ty_fa57_0) ?_
 refine RG.tk 12 rfl (by first | exact Pu.fb ty_fa25_0 | exact Pu.fe ty_fa25_0) ?_
 refine RG.a1 13 rfl (fun X13 hX13 => ?_)
 first | refine TL.st ty_sz22 ?_ | refine TL.se ty_sz22 ?_
 refine TL.nil ?_
 refine TQ.nxt (hX13 _ _ hl9 ?_)
 refine RG.nil ?_ (by kernel_rfl)
 refine TQ.thenN (hY11 _ _ ?_)
 refine TW.seq fun Y15 hY15 => TW.region ?_
 refine TL.p Pu.as ?_
 refine TL.nil (TQ.thenN (hY15 _ _ ?_))
 refine TW.ret ?_
 refine TQ.thenR ?_
 refine TQ.ret Tryz.results34 rfl ((.tmp rfl .nil)) ?_
 first
 | exact fun w hw => ⟨⟨(false, S), hno _⟩, rfl, hw.sub ks9⟩
 | exact fun w hw => ⟨⟨(true, ⟨_, _, S.rows ++ [ms], S.L, S.cl, S.lets⟩), tkB_row hms h300 h14⟩, rfl, retB_row hw pk9 pk9 pk9⟩
 | exact fun w hw => ⟨⟨(lettB ms, S), by have h9 := tkB_let (f := f) hms h300 h8; rw [hxl] at h9 ⊢; exact tk_any h9⟩, rfl, hw.sub ks9⟩
 | exact fun w hw => ⟨⟨(lettB ms, ⟨S.R, S.cr, S.rows, _, _, S.lets ++ [ltrX ms]⟩), tkB_let (f := f) hms h300 h8⟩, rfl, retB_let h8.2 hw pk9 pk9 pk9⟩
 | exact fun w hw => ⟨⟨(false, S), tkB_else hms h300 h14 h8 _⟩, rfl, hw.sub ks9⟩
 | trace_state
 refine TL.m Mk.bl ?_
 intro b9
 refine TL.nil ?_
 refine TQ.nxt (hX8 _ _ hl9 ?_)
 refine RG.a1 5 rfl (fun X5 hX5 => ?_)
 refine TL.p (Pu.ld ty_sc22) ?_
 refine TL.nil ?_
 refine TQ.nxt (hX5 _ _ hl9 ?_)
 refine RG.a1 9 rfl (fun X9 hX9 => ?_)
 refine TL.obn (n := 1) (sz := 14) (r := fun _ => rowF9 ms) pk9 (by simp [flatR, rowF9, rwL, h14.2.1]) (fun _ _ => rfl) ?_
 first | refine TL.a0 ty_et22 ?_ | refine TL.ap ty_et22 ?_
 intro A10 c10
 refine TL.nil ?_
 refine TQ.nxt (hX9 _ _ hl9 ?_)
 refine RG.a1 10 rfl (fun X10 hX10 => ?_)
 refine TL.p (by first | exact Pu.nn | exact Pu.nc) ?_
 refine TL.nil ?_
 refine TQ.nxt (hX10 _ _ hl9 ?_)
 refine RG.tk 11 rfl (by first | exact Pu.fb ty_fa57_0 | exact Pu.fe ty_fa57_0) ?_
 refine RG.tk 12 rfl (by first | exact Pu.fb ty_fa25_0 | exact Pu.fe ty_fa25_0) ?_
 refine RG.a1 13 rfl (fun X13 hX13 => ?_)
 first | refine TL.st ty_sz22 ?_ | refine TL.se ty_sz22 ?_
 refine TL.nil ?_
 refine TQ.nxt (hX13 _ _ hl9 ?_)
 refine RG.nil ?_ (by kernel_rfl)
 refine TQ.thenN (hY11 _ _ ?_)
 refine TW.seq fun Y16 hY16 => TW.region ?_
 refine TL.p Pu.as ?_
 refine TL.nil (TQ.thenN (hY16 _ _ ?_))
 refine TW.ret ?_
 refine TQ.thenR ?_
 refine TQ.ret Tryz.results34 rfl ((.tmp rfl .nil)) ?_
 first
 | exact fun w hw => ⟨⟨(false, S), hno _⟩, rfl, hw.sub ks9⟩
 | exact fun w hw => ⟨⟨(true, ⟨_, _, S.rows ++ [ms], S.L, S.cl, S.lets⟩), tkB_row hms h300 h14⟩, rfl, retB_row hw pk9 pk9 pk9⟩
 | exact fun w hw => ⟨⟨(lettB ms, S), by have h9 := tkB_let (f := f) hms h300 h8; rw [hxl] at h9 ⊢; exact tk_any h9⟩, rfl, hw.sub ks9⟩
 | exact fun w hw => ⟨⟨(lettB ms, ⟨S.R, S.cr, S.rows, _, _, S.lets ++ [ltrX ms]⟩), tkB_let (f := f) hms h300 h8⟩, rfl, retB_let h8.2 hw pk9 pk9 pk9⟩
 | exact fun w hw => ⟨⟨(false, S), tkB_else hms h300 h14 h8 _⟩, rfl, hw.sub ks9⟩
 | trace_state
 refine TL.m Mk.bl ?_
 intro b11
 refine TL.nil ?_
 refine TQ.nxt (hX8 _ _ hl9 ?_)
 refine RG.a1 2 rfl (fun X2 hX2 => ?_)
 refine TL.p (by first | exact Pu.nn | exact Pu.nc) ?_
 refine TL.nil ?_
 refine TQ.nxt (hX2 _ _ hl9 ?_)
 refine RG.tk 3 rfl (by first | exact Pu.fb ty_fa57_0 | exact Pu.fe ty_fa57_0) ?_
 refine RG.tk 4 rfl (by first | exact Pu.fb ty_fa25_0 | exact Pu.fe ty_fa25_0) ?_
 refine RG.a1 5 rfl (fun X5 hX5 => ?_)
 refine TL.p (Pu.ld ty_sc22) ?_
 refine TL.nil ?_
 refine TQ.nxt (hX5 _ _ hl9 ?_)
 refine RG.a1 9 rfl (fun X9 hX9 => ?_)
 refine TL.obn (n := 1) (sz := 14) (r := fun _ => rowF9 ms) pk9 (by simp [flatR, rowF9, rwL, h14.2.1]) (fun _ _ => rfl) ?_
 first | refine TL.a0 ty_et22 ?_ | refine TL.ap ty_et22 ?_
 intro A12 c12
 refine TL.nil ?_
 refine TQ.nxt (hX9 _ _ hl9 ?_)
 refine RG.a1 10 rfl (fun X10 hX10 => ?_)
 refine TL.p (by first | exact Pu.nn | exact Pu.nc) ?_
 refine TL.nil ?_
 refine TQ.nxt (hX10 _ _ hl9 ?_)
 refine RG.tk 11 rfl (by first | exact Pu.fb ty_fa57_0 | exact Pu.fe ty_fa57_0) ?_
 refine RG.tk 12 rfl (by first | exact Pu.fb ty_fa25_0 | exact Pu.fe ty_fa25_0) ?_
 refine RG.a1 13 rfl (fun X13 hX13 => ?_)
 first | refine TL.st ty_sz22 ?_ | refine TL.se ty_sz22 ?_
 refine TL.nil ?_
 refine TQ.nxt (hX13 _ _ hl9 ?_)
 refine RG.nil ?_ (by kernel_rfl)
 refine TQ.thenN (hY11 _ _ ?_)
 refine TW.seq fun Y17 hY17 => TW.region ?_
 refine TL.p Pu.as ?_
 refine TL.nil (TQ.thenN (hY17 _ _ ?_))
 refine TW.ret ?_
 refine TQ.thenR ?_
 refine TQ.ret Tryz.results34 rfl ((.tmp rfl .nil)) ?_
 first
 | exact fun w hw => ⟨⟨(false, S), hno _⟩, rfl, hw.sub ks9⟩
 | exact fun w hw => ⟨⟨(true, ⟨_, _, S.rows ++ [ms], S.L, S.cl, S.lets⟩), tkB_row hms h300 h14⟩, rfl, retB_row hw pk9 pk9 pk9⟩
 | exact fun w hw => ⟨⟨(lettB ms, S), by have h9 := tkB_let (f := f) hms h300 h8; rw [hxl] at h9 ⊢; exact tk_any h9⟩, rfl, hw.sub ks9⟩
 | exact fun w hw => ⟨⟨(lettB ms, ⟨S.R, S.cr, S.rows, _, _, S.lets ++ [ltrX ms]⟩), tkB_let (f := f) hms h300 h8⟩, rfl, retB_let h8.2 hw pk9 pk9 pk9⟩
 | exact fun w hw => ⟨⟨(false, S), tkB_else hms h300 h14 h8 _⟩, rfl, hw.sub ks9⟩
 | trace_state
 try simp only [zcb9] at hc4
 have h14 : ¬ (f = [82] ∧ ms.length = 14 ∧ S.lets.length = 0) := by
  rintro ⟨h1, h2, h3⟩
  rcases hc4 with (h | h) | h
  rw [h] at hv1; exact of_decide_eq_false hv1 h1
  rw [h] at hv2; exact of_decide_eq_false hv2 (by omega)
  rw [h] at hv3; exact of_decide_eq_false hv3 (by omega)
 refine TW.skip ?_
 refine TQ.thenN (hY9 _ _ ?_)
 refine TW.seq fun Y18 hY18 => ?_
 refine TW.seq fun Y19 hY19 => ?_
 refine TW.join [(146, .bool (v4 && v5))] ?_ (fun hJ3 => ?_)
 refine TQ.thenN (hY19 _ _ ?_)
 refine TW.cond rfl (fun hc5 => ?_) (fun hc5 => ?_)
 try simp only [zcb9] at hc5
 have h8 : f = [76] ∧ ms.length = 8 := by
  obtain ⟨h1, h2⟩ := hc5
  rw [h1] at hv4
  rw [h2] at hv5
  have := of_decide_eq_true hv5
  exact ⟨of_decide_eq_true hv4, by omega⟩
 refine TW.seq fun Y20 hY20 => TW.region ?_
 refine TL.p Pu.mv ?_
 refine TL.call (M := []) rfl (enters Tryz.func51 rfl rfl) (List.Perm.refl _) rfl (fun w hw => by
   exact rLetter_any h8.2 (OwnR.rdr (hw.own pk9))) ?_
 rintro ⟨x, hx⟩
 refine TL.p Pu.mv ?_
 refine TL.p Pu.ex ?_
 refine TL.p Pu.ex ?_
 refine TL.m (Mk.al ty_zr51) ?_
 intro b13
 first | refine TL.st ty_sz51 ?_ | refine TL.se ty_sz51 ?_
 refine TL.p Pu.as ?_
 refine TL.nil (TQ.thenN (hY20 _ _ ?_))
 refine TW.seq fun Y21 hY21 => ?_
 refine TW.seq fun Y22 hY22 => TW.region ?_
 refine TL.p Pu.mv ?_
 refine TL.nil (TQ.thenN (hY22 _ _ ?_))
 refine TW.cond rfl (fun hc6 => ?_) (fun hc6 => ?_)
 try simp only [zcb9] at hc6
 have hxl : lettB ms = true := by simpa using hc6
 obtain rfl : x = ltrW ms := hx hxl
 refine TW.ex0k ([] : List Fact) ?_
 refine RG.tk 0 rfl Pu.mv ?_
 refine RG.tk 1 rfl Pu.mv ?_
 refine RG.a2 2 6 rfl rfl (fun X2 hX2 => ?_) (fun X6 hX6 => ?_)
 refine TL.p (by first | exact Pu.nn | exact Pu.nc) ?_
 refine TL.nil ?_
 refine TQ.nxt (hX2 _ _ hl9 ?_)
 refine RG.tk 3 rfl (by first | exact Pu.fb ty_fa57_0 | exact Pu.fe ty_fa57_0) ?_
 refine RG.tk 4 rfl (by first | exact Pu.fb ty_fa25_1 | exact Pu.fe ty_fa25_1) ?_
 refine RG.a2 5 6 rfl rfl (fun X5 hX5 => ?_) (fun X6 hX6 => ?_)
 refine TL.p (Pu.ld ty_sc23) ?_
 refine TL.nil ?_
 refine TQ.nxt (hX5 _ _ hl9 ?_)
 refine RG.a1 6 rfl (fun X6 hX6 => ?_)
 refine TL.p (Pu.lds ty_ag51) ?_
 refine TL.nil ?_
 refine TQ.nxt (hX6 _ _ hl9 ?_)
 refine RG.a1 7 rfl (fun X7 hX7 => ?_)
 refine TL.m Mk.bl ?_
 intro b14
 refine TL.nil ?_
 refine TQ.nxt (hX7 _ _ hl9 ?_)
 refine RG.a1 8 rfl (fun X8 hX8 => ?_)
 refine TL.obn (n := 1) (sz := 8) (r := fun _ => ltL (ltrW ms)) pk9 (by rfl) (fun _ _ => rfl) ?_
 first | refine TL.a0 ty_et23 ?_ | refine TL.ap ty_et23 ?_
 intro A15 c15
 refine TL.nil ?_
 refine TQ.nxt (hX8 _ _ hl9 ?_)
 refine RG.a1 9 rfl (fun X9 hX9 => ?_)
 refine TL.p (by first | exact Pu.nn | exact Pu.nc) ?_
 refine TL.nil ?_
 refine TQ.nxt (hX9 _ _ hl9 ?_)
 refine RG.tk 10 rfl (by first | exact Pu.fb ty_fa57_0 | exact Pu.fe ty_fa57_0) ?_
 refine RG.tk 11 rfl (by first | exact Pu.fb ty_fa25_1 | exact Pu.fe ty_fa25_1) ?_
 refine RG.a1 12 rfl (fun X12 hX12 => ?_)
 first | refine TL.st ty_sz23 ?_ | refine TL.se ty_sz23 ?_
 refine TL.nil ?_
 refine TQ.nxt (hX12 _ _ hl9 ?_)
 refine RG.nil ?_ (by kernel_rfl)
 refine TQ.thenN (hY21 _ _ ?_)
 refine TW.seq fun Y23 hY23 => TW.region ?_
 refine TL.p Pu.mv ?_
 refine TL.p Pu.as ?_
 refine TL.nil (TQ.thenN (hY23 _ _ ?_))
 refine TW.ret ?_
 refine TQ.thenR ?_
 refine TQ.ret Tryz.results34 rfl ((.tmp rfl .nil)) ?_
 first
 | exact fun w hw => ⟨⟨(false, S), hno _⟩, rfl, hw.sub ks9⟩
 | exact fun w hw => ⟨⟨(true, ⟨_, _, S.rows ++ [ms], S.L, S.cl, S.lets⟩), tkB_row hms h300 h14⟩, rfl, retB_row hw pk9 pk9 pk9⟩
 | exact fun w hw => ⟨⟨(lettB ms, S), by have h9 := tkB_let (f := f) hms h300 h8; rw [hxl] at h9 ⊢; exact tk_any h9⟩, rfl, hw.sub ks9⟩
 | exact fun w hw => ⟨⟨(lettB ms, ⟨S.R, S.cr, S.rows, _, _, S.lets ++ [ltrX ms]⟩), tkB_let (f := f) hms h300 h8⟩, rfl, retB_let h8.2 hw pk9 pk9 pk9⟩
 | exact fun w hw => ⟨⟨(false, S), tkB_else hms h300 h14 h8 _⟩, rfl, hw.sub ks9⟩
 | trace_state
 refine TL.p (Pu.lds ty_ag51) ?_
 refine TL.nil ?_
 refine TQ.nxt (hX6 _ _ hl9 ?_)
 refine RG.a2 5 7 rfl rfl (fun X5 hX5 => ?_) (fun X7 hX7 => ?_)
 refine TL.p (Pu.ld ty_sc23) ?_
 refine TL.nil ?_
 refine TQ.nxt (hX5 _ _ hl9 ?_)
 refine RG.a1 7 rfl (fun X7 hX7 => ?_)
 refine TL.m Mk.bl ?_
 intro b16
 refine TL.nil ?_
 refine TQ.nxt (hX7 _ _ hl9 ?_)
 refine RG.a1 8 rfl (fun X8 hX8 => ?_)
 refine TL.obn (n := 1) (sz := 8) (r := fun _ => ltL (ltrW ms)) pk9 (by rfl) (fun _ _ => rfl) ?_
 first | refine TL.a0 ty_et23 ?_ | refine TL.ap ty_et23 ?_
 intro A17 c17
 refine TL.nil ?_
 refine TQ.nxt (hX8 _ _ hl9 ?_)
 refine RG.a1 9 rfl (fun X9 hX9 => ?_)
 refine TL.p (by first | exact Pu.nn | exact Pu.nc) ?_
 refine TL.nil ?_
 refine TQ.nxt (hX9 _ _ hl9 ?_)
 refine RG.tk 10 rfl (by first | exact Pu.fb ty_fa57_0 | exact Pu.fe ty_fa57_0) ?_
 refine RG.tk 11 rfl (by first | exact Pu.fb ty_fa25_1 | exact Pu.fe ty_fa25_1) ?_
 refine RG.a1 12 rfl (fun X12 hX12 => ?_)
 first | refine TL.st ty_sz23 ?_ | refine TL.se ty_sz23 ?_
 refine TL.nil ?_
 refine TQ.nxt (hX12 _ _ hl9 ?_)
 refine RG.nil ?_ (by kernel_rfl)
 refine TQ.thenN (hY21 _ _ ?_)
 refine TW.seq fun Y24 hY24 => TW.region ?_
 refine TL.p Pu.mv ?_
 refine TL.p Pu.as ?_
 refine TL.nil (TQ.thenN (hY24 _ _ ?_))
 refine TW.ret ?_
 refine TQ.thenR ?_
 refine TQ.ret Tryz.results34 rfl ((.tmp rfl .nil)) ?_
 first
 | exact fun w hw => ⟨⟨(false, S), hno _⟩, rfl, hw.sub ks9⟩
 | exact fun w hw => ⟨⟨(true, ⟨_, _, S.rows ++ [ms], S.L, S.cl, S.lets⟩), tkB_row hms h300 h14⟩, rfl, retB_row hw pk9 pk9 pk9⟩
 | exact fun w hw => ⟨⟨(lettB ms, S), by have h9 := tkB_let (f := f) hms h300 h8; rw [hxl] at h9 ⊢; exact tk_any h9⟩, rfl, hw.sub ks9⟩
 | exact fun w hw => ⟨⟨(lettB ms, ⟨S.R, S.cr, S.rows, _, _, S.lets ++ [ltrX ms]⟩), tkB_let (f := f) hms h300 h8⟩, rfl, retB_let h8.2 hw pk9 pk9 pk9⟩
 | exact fun w hw => ⟨⟨(false, S), tkB_else hms h300 h14 h8 _⟩, rfl, hw.sub ks9⟩
 | trace_state
 refine TL.m Mk.bl ?_
 intro b18
 refine TL.nil ?_
 refine TQ.nxt (hX7 _ _ hl9 ?_)
 refine RG.a1 5 rfl (fun X5 hX5 => ?_)
 refine TL.p (Pu.ld ty_sc23) ?_
 refine TL.nil ?_
 refine TQ.nxt (hX5 _ _ hl9 ?_)
 refine RG.a1 8 rfl (fun X8 hX8 => ?_)
 refine TL.obn (n := 1) (sz := 8) (r := fun _ => ltL (ltrW ms)) pk9 (by rfl) (fun _ _ => rfl) ?_
 first | refine TL.a0 ty_et23 ?_ | refine TL.ap ty_et23 ?_
 intro A19 c19
 refine TL.nil ?_
 refine TQ.nxt (hX8 _ _ hl9 ?_)
 refine RG.a1 9 rfl (fun X9 hX9 => ?_)
 refine TL.p (by first | exact Pu.nn | exact Pu.nc) ?_
 refine TL.nil ?_
 refine TQ.nxt (hX9 _ _ hl9 ?_)
 refine RG.tk 10 rfl (by first | exact Pu.fb ty_fa57_0 | exact Pu.fe ty_fa57_0) ?_
 refine RG.tk 11 rfl (by first | exact Pu.fb ty_fa25_1 | exact Pu.fe ty_fa25_1) ?_
 refine RG.a1 12 rfl (fun X12 hX12 => ?_)
 first | refine TL.st ty_sz23 ?_ | refine TL.se ty_sz23 ?_
 refine TL.nil ?_
 refine TQ.nxt (hX12 _ _ hl9 ?_)
 refine RG.nil ?_ (by kernel_rfl)
 refine TQ.thenN (hY21 _ _ ?_)
 refine TW.seq fun Y25 hY25 => TW.region ?_
 refine TL.p Pu.mv ?_
 refine TL.p Pu.as ?_
 refine TL.nil (TQ.thenN (hY25 _ _ ?_))
 refine TW.ret ?_
 refine TQ.thenR ?_
 refine TQ.ret Tryz.results34 rfl ((.tmp rfl .nil)) ?_
 first
 | exact fun w hw => ⟨⟨(false, S), hno _⟩, rfl, hw.sub ks9⟩
 | exact fun w hw => ⟨⟨(true, ⟨_, _, S.rows ++ [ms], S.L, S.cl, S.lets⟩), tkB_row hms h300 h14⟩, rfl, retB_row hw pk9 pk9 pk9⟩
 | exact fun w hw => ⟨⟨(lettB ms, S), by have h9 := tkB_let (f := f) hms h300 h8; rw [hxl] at h9 ⊢; exact tk_any h9⟩, rfl, hw.sub ks9⟩
 | exact fun w hw => ⟨⟨(lettB ms, ⟨S.R, S.cr, S.rows, _, _, S.lets ++ [ltrX ms]⟩), tkB_let (f := f) hms h300 h8⟩, rfl, retB_let h8.2 hw pk9 pk9 pk9⟩
 | exact fun w hw => ⟨⟨(false, S), tkB_else hms h300 h14 h8 _⟩, rfl, hw.sub ks9⟩
 | trace_state
 refine TL.p (Pu.lds ty_ag51) ?_
 refine TL.nil ?_
 refine TQ.nxt (hX6 _ _ hl9 ?_)
 refine RG.a2 2 7 rfl rfl (fun X2 hX2 => ?_) (fun X7 hX7 => ?_)
 refine TL.p (by first | exact Pu.nn | exact Pu.nc) ?_
 refine TL.nil ?_
 refine TQ.nxt (hX2 _ _ hl9 ?_)
 refine RG.tk 3 rfl (by first | exact Pu.fb ty_fa57_0 | exact Pu.fe ty_fa57_0) ?_
 refine RG.tk 4 rfl (by first | exact Pu.fb ty_fa25_1 | exact Pu.fe ty_fa25_1) ?_
 refine RG.a2 5 7 rfl rfl (fun X5 hX5 => ?_) (fun X7 hX7 => ?_)
 refine TL.p (Pu.ld ty_sc23) ?_
 refine TL.nil ?_
 refine TQ.nxt (hX5 _ _ hl9 ?_)
 refine RG.a1 7 rfl (fun X7 hX7 => ?_)
 refine TL.m Mk.bl ?_
 intro b20
 refine TL.nil ?_
 refine TQ.nxt (hX7 _ _ hl9 ?_)
 refine RG.a1 8 rfl (fun X8 hX8 => ?_)
 refine TL.obn (n := 1) (sz := 8) (r := fun _ => ltL (ltrW ms)) pk9 (by rfl) (fun _ _ => rfl) ?_
 first | refine TL.a0 ty_et23 ?_ | refine TL.ap ty_et23 ?_
 intro A21 c21
 refine TL.nil ?_
 refine TQ.nxt (hX8 _ _ hl9 ?_)
 refine RG.a1 9 rfl (fun X9 hX9 => ?_)
 refine TL.p (by first | exact Pu.nn | exact Pu.nc) ?_
 refine TL.nil ?_
 refine TQ.nxt (hX9 _ _ hl9 ?_)
 refine RG.tk 10 rfl (by first | exact Pu.fb ty_fa57_0 | exact Pu.fe ty_fa57_0) ?_
 refine RG.tk 11 rfl (by first | exact Pu.fb ty_fa25_1 | exact Pu.fe ty_fa25_1) ?_
 refine RG.a1 12 rfl (fun X12 hX12 => ?_)
 first | refine TL.st ty_sz23 ?_ | refine TL.se ty_sz23 ?_
 refine TL.nil ?_
 refine TQ.nxt (hX12 _ _ hl9 ?_)
 refine RG.nil ?_ (by kernel_rfl)
 refine TQ.thenN (hY21 _ _ ?_)
 refine TW.seq fun Y26 hY26 => TW.region ?_
 refine TL.p Pu.mv ?_
 refine TL.p Pu.as ?_
 refine TL.nil (TQ.thenN (hY26 _ _ ?_))
 refine TW.ret ?_
 refine TQ.thenR ?_
 refine TQ.ret Tryz.results34 rfl ((.tmp rfl .nil)) ?_
 first
 | exact fun w hw => ⟨⟨(false, S), hno _⟩, rfl, hw.sub ks9⟩
 | exact fun w hw => ⟨⟨(true, ⟨_, _, S.rows ++ [ms], S.L, S.cl, S.lets⟩), tkB_row hms h300 h14⟩, rfl, retB_row hw pk9 pk9 pk9⟩
 | exact fun w hw => ⟨⟨(lettB ms, S), by have h9 := tkB_let (f := f) hms h300 h8; rw [hxl] at h9 ⊢; exact tk_any h9⟩, rfl, hw.sub ks9⟩
 | exact fun w hw => ⟨⟨(lettB ms, ⟨S.R, S.cr, S.rows, _, _, S.lets ++ [ltrX ms]⟩), tkB_let (f := f) hms h300 h8⟩, rfl, retB_let h8.2 hw pk9 pk9 pk9⟩
 | exact fun w hw => ⟨⟨(false, S), tkB_else hms h300 h14 h8 _⟩, rfl, hw.sub ks9⟩
 | trace_state
 refine TL.m Mk.bl ?_
 intro b22
 refine TL.nil ?_
 refine TQ.nxt (hX7 _ _ hl9 ?_)
 refine RG.a1 5 rfl (fun X5 hX5 => ?_)
 refine TL.p (Pu.ld ty_sc23) ?_
 refine TL.nil ?_
 refine TQ.nxt (hX5 _ _ hl9 ?_)
 refine RG.a1 8 rfl (fun X8 hX8 => ?_)
 refine TL.obn (n := 1) (sz := 8) (r := fun _ => ltL (ltrW ms)) pk9 (by rfl) (fun _ _ => rfl) ?_
 first | refine TL.a0 ty_et23 ?_ | refine TL.ap ty_et23 ?_
 intro A23 c23
 refine TL.nil ?_
 refine TQ.nxt (hX8 _ _ hl9 ?_)
 refine RG.a1 9 rfl (fun X9 hX9 => ?_)
 refine TL.p (by first | exact Pu.nn | exact Pu.nc) ?_
 refine TL.nil ?_
 refine TQ.nxt (hX9 _ _ hl9 ?_)
 refine RG.tk 10 rfl (by first | exact Pu.fb ty_fa57_0 | exact Pu.fe ty_fa57_0) ?_
 refine RG.tk 11 rfl (by first | exact Pu.fb ty_fa25_1 | exact Pu.fe ty_fa25_1) ?_
 refine RG.a1 12 rfl (fun X12 hX12 => ?_)
 first | refine TL.st ty_sz23 ?_ | refine TL.se ty_sz23 ?_
 refine TL.nil ?_
 refine TQ.nxt (hX12 _ _ hl9 ?_)
 refine RG.nil ?_ (by kernel_rfl)
 refine TQ.thenN (hY21 _ _ ?_)
 refine TW.seq fun Y27 hY27 => TW.region ?_
 refine TL.p Pu.mv ?_
 refine TL.p Pu.as ?_
 refine TL.nil (TQ.thenN (hY27 _ _ ?_))
 refine TW.ret ?_
 refine TQ.thenR ?_
 refine TQ.ret Tryz.results34 rfl ((.tmp rfl .nil)) ?_
 first
 | exact fun w hw => ⟨⟨(false, S), hno _⟩, rfl, hw.sub ks9⟩
 | exact fun w hw => ⟨⟨(true, ⟨_, _, S.rows ++ [ms], S.L, S.cl, S.lets⟩), tkB_row hms h300 h14⟩, rfl, retB_row hw pk9 pk9 pk9⟩
 | exact fun w hw => ⟨⟨(lettB ms, S), by have h9 := tkB_let (f := f) hms h300 h8; rw [hxl] at h9 ⊢; exact tk_any h9⟩, rfl, hw.sub ks9⟩
 | exact fun w hw => ⟨⟨(lettB ms, ⟨S.R, S.cr, S.rows, _, _, S.lets ++ [ltrX ms]⟩), tkB_let (f := f) hms h300 h8⟩, rfl, retB_let h8.2 hw pk9 pk9 pk9⟩
 | exact fun w hw => ⟨⟨(false, S), tkB_else hms h300 h14 h8 _⟩, rfl, hw.sub ks9⟩
 | trace_state
 refine TL.m Mk.bl ?_
 intro b24
 refine TL.nil ?_
 refine TQ.nxt (hX7 _ _ hl9 ?_)
 refine RG.a1 2 rfl (fun X2 hX2 => ?_)
 refine TL.p (by first | exact Pu.nn | exact Pu.nc) ?_
 refine TL.nil ?_
 refine TQ.nxt (hX2 _ _ hl9 ?_)
 refine RG.tk 3 rfl (by first | exact Pu.fb ty_fa57_0 | exact Pu.fe ty_fa57_0) ?_
 refine RG.tk 4 rfl (by first | exact Pu.fb ty_fa25_1 | exact Pu.fe ty_fa25_1) ?_
 refine RG.a1 5 rfl (fun X5 hX5 => ?_)
 refine TL.p (Pu.ld ty_sc23) ?_
 refine TL.nil ?_
 refine TQ.nxt (hX5 _ _ hl9 ?_)
 refine RG.a1 8 rfl (fun X8 hX8 => ?_)
 refine TL.obn (n := 1) (sz := 8) (r := fun _ => ltL (ltrW ms)) pk9 (by rfl) (fun _ _ => rfl) ?_
 first | refine TL.a0 ty_et23 ?_ | refine TL.ap ty_et23 ?_
 intro A25 c25
 refine TL.nil ?_
 refine TQ.nxt (hX8 _ _ hl9 ?_)
 refine RG.a1 9 rfl (fun X9 hX9 => ?_)
 refine TL.p (by first | exact Pu.nn | exact Pu.nc) ?_
 refine TL.nil ?_
 refine TQ.nxt (hX9 _ _ hl9 ?_)
 refine RG.tk 10 rfl (by first | exact Pu.fb ty_fa57_0 | exact Pu.fe ty_fa57_0) ?_
 refine RG.tk 11 rfl (by first | exact Pu.fb ty_fa25_1 | exact Pu.fe ty_fa25_1) ?_
 refine RG.a1 12 rfl (fun X12 hX12 => ?_)
 first | refine TL.st ty_sz23 ?_ | refine TL.se ty_sz23 ?_
 refine TL.nil ?_
 refine TQ.nxt (hX12 _ _ hl9 ?_)
 refine RG.nil ?_ (by kernel_rfl)
 refine TQ.thenN (hY21 _ _ ?_)
 refine TW.seq fun Y28 hY28 => TW.region ?_
 refine TL.p Pu.mv ?_
 refine TL.p Pu.as ?_
 refine TL.nil (TQ.thenN (hY28 _ _ ?_))
 refine TW.ret ?_
 refine TQ.thenR ?_
 refine TQ.ret Tryz.results34 rfl ((.tmp rfl .nil)) ?_
 first
 | exact fun w hw => ⟨⟨(false, S), hno _⟩, rfl, hw.sub ks9⟩
 | exact fun w hw => ⟨⟨(true, ⟨_, _, S.rows ++ [ms], S.L, S.cl, S.lets⟩), tkB_row hms h300 h14⟩, rfl, retB_row hw pk9 pk9 pk9⟩
 | exact fun w hw => ⟨⟨(lettB ms, S), by have h9 := tkB_let (f := f) hms h300 h8; rw [hxl] at h9 ⊢; exact tk_any h9⟩, rfl, hw.sub ks9⟩
 | exact fun w hw => ⟨⟨(lettB ms, ⟨S.R, S.cr, S.rows, _, _, S.lets ++ [ltrX ms]⟩), tkB_let (f := f) hms h300 h8⟩, rfl, retB_let h8.2 hw pk9 pk9 pk9⟩
 | exact fun w hw => ⟨⟨(false, S), tkB_else hms h300 h14 h8 _⟩, rfl, hw.sub ks9⟩
 | trace_state
 try simp only [zcb9] at hc6
 have hxl : lettB ms = false := by simpa using hc6
 refine TW.skip ?_
 refine TQ.thenN (hY21 _ _ ?_)
 refine TW.seq fun Y29 hY29 => TW.region ?_
 refine TL.p Pu.mv ?_
 refine TL.p Pu.as ?_
 refine TL.nil (TQ.thenN (hY29 _ _ ?_))
 refine TW.ret ?_
 refine TQ.thenR ?_
 refine TQ.ret Tryz.results34 rfl ((.tmp rfl .nil)) ?_
 first
 | exact fun w hw => ⟨⟨(false, S), hno _⟩, rfl, hw.sub ks9⟩
 | exact fun w hw => ⟨⟨(true, ⟨_, _, S.rows ++ [ms], S.L, S.cl, S.lets⟩), tkB_row hms h300 h14⟩, rfl, retB_row hw pk9 pk9 pk9⟩
 | exact fun w hw => ⟨⟨(lettB ms, S), by have h9 := tkB_let (f := f) hms h300 h8; rw [hxl] at h9 ⊢; exact tk_any h9⟩, rfl, hw.sub ks9⟩
 | exact fun w hw => ⟨⟨(lettB ms, ⟨S.R, S.cr, S.rows, _, _, S.lets ++ [ltrX ms]⟩), tkB_let (f := f) hms h300 h8⟩, rfl, retB_let h8.2 hw pk9 pk9 pk9⟩
 | exact fun w hw => ⟨⟨(false, S), tkB_else hms h300 h14 h8 _⟩, rfl, hw.sub ks9⟩
 | trace_state
 try simp only [zcb9] at hc5
 have h8 : ¬ (f = [76] ∧ ms.length = 8) := by
  rintro ⟨h1, h2⟩
  rcases hc5 with h | h
  rw [h] at hv4; exact of_decide_eq_false hv4 h1
  rw [h] at hv5; exact of_decide_eq_false hv5 (by omega)
 refine TW.skip ?_
 refine TQ.thenN (hY18 _ _ ?_)
 refine TW.seq fun Y30 hY30 => TW.region ?_
 refine TL.p Pu.as ?_
 refine TL.nil (TQ.thenN (hY30 _ _ ?_))
 refine TW.ret ?_
 refine TQ.ret Tryz.results34 rfl ((.tmp rfl .nil)) ?_
 first
 | exact fun w hw => ⟨⟨(false, S), hno _⟩, rfl, hw.sub ks9⟩
 | exact fun w hw => ⟨⟨(true, ⟨_, _, S.rows ++ [ms], S.L, S.cl, S.lets⟩), tkB_row hms h300 h14⟩, rfl, retB_row hw pk9 pk9 pk9⟩
 | exact fun w hw => ⟨⟨(lettB ms, S), by have h9 := tkB_let (f := f) hms h300 h8; rw [hxl] at h9 ⊢; exact tk_any h9⟩, rfl, hw.sub ks9⟩
 | exact fun w hw => ⟨⟨(lettB ms, ⟨S.R, S.cr, S.rows, _, _, S.lets ++ [ltrX ms]⟩), tkB_let (f := f) hms h300 h8⟩, rfl, retB_let h8.2 hw pk9 pk9 pk9⟩
 | exact fun w hw => ⟨⟨(false, S), tkB_else hms h300 h14 h8 _⟩, rfl, hw.sub ks9⟩
 | trace_state
 refine TW.region ?_
 refine TL.p Pu.mv ?_
 refine TL.p (Pu.bv Pu.seq_ hv4) ?_
 refine TL.p Pu.mv ?_
 refine TL.guard (t := 142) rfl (fun hg1 => ?_) (fun hg1 => ?_)
 refine TL.gd Pu.mv ?_
 refine TL.gd (Pu.ln Tryz.underlying42) ?_
 refine TL.gd (Pu.bv Pu.eq hv5) ?_
 refine TL.p Pu.kt ?_
 refine TL.nil ?_
 exact TQ.sub (by repeat (first | exact trivial | refine ⟨rfl, ?_⟩ | refine ⟨trivial, ?_⟩ | refine ⟨(by show some (Value.bool _) = some (Value.bool _); first | (simp [hg1]; done) | (refine congrArg (fun z => some (Value.bool z)) (Bool.eq_iff_iff.2 ?_); simp [hg1]; omega)), ?_⟩)) ks9 hJ3
 refine TL.gs ?_
 refine TL.gs ?_
 refine TL.gs ?_
 refine TL.p Pu.kf ?_
 refine TL.nil ?_
 exact TQ.sub (by repeat (first | exact trivial | refine ⟨rfl, ?_⟩ | refine ⟨trivial, ?_⟩ | refine ⟨(by show some (Value.bool _) = some (Value.bool _); first | (simp [hg1]; done) | (refine congrArg (fun z => some (Value.bool z)) (Bool.eq_iff_iff.2 ?_); simp [hg1]; omega)), ?_⟩)) ks9 hJ3
 refine TW.region ?_
 refine TL.p Pu.mv ?_
 refine TL.p (Pu.bv Pu.seq_ hv1) ?_
 refine TL.p Pu.mv ?_
 refine TL.guard (t := 113) rfl (fun hg2 => ?_) (fun hg2 => ?_)
 refine TL.gd Pu.mv ?_
 refine TL.gd (Pu.ln Tryz.underlying42) ?_
 refine TL.gd (Pu.bv Pu.eq hv2) ?_
 refine TL.p Pu.kt ?_
 refine TL.p Pu.mv ?_
 refine TL.guard (t := 118) rfl (fun hg3 => ?_) (fun hg3 => ?_)
 refine TL.gd Pu.mv ?_
 refine TL.gd (by first | exact Pu.nn | exact Pu.nc) ?_
 refine TL.gd (by first | exact Pu.fb ty_fa57_0 | exact Pu.fe ty_fa57_0) ?_
 refine TL.gd (by first | exact Pu.fb ty_fa25_1 | exact Pu.fe ty_fa25_1) ?_
 refine TL.gd (Pu.ld ty_sc23) ?_
 refine TL.gd (Pu.ln Tryz.underlying23) ?_
 refine TL.gd (Pu.bv Pu.eq hv3) ?_
 refine TL.p Pu.kt ?_
 refine TL.nil ?_
 exact TQ.sub (by repeat (first | exact trivial | refine ⟨rfl, ?_⟩ | refine ⟨trivial, ?_⟩ | refine ⟨(by show some (Value.bool _) = some (Value.bool _); first | (simp [hg2, hg3]; done) | (refine congrArg (fun z => some (Value.bool z)) (Bool.eq_iff_iff.2 ?_); simp [hg2, hg3]; omega)), ?_⟩)) ks9 hJ2
 refine TL.gs ?_
 refine TL.gs ?_
 refine TL.gs ?_
 refine TL.gs ?_
 refine TL.gs ?_
 refine TL.gs ?_
 refine TL.gs ?_
 refine TL.p Pu.kf ?_
 refine TL.nil ?_
 exact TQ.sub (by repeat (first | exact trivial | refine ⟨rfl, ?_⟩ | refine ⟨trivial, ?_⟩ | refine ⟨(by show some (Value.bool _) = some (Value.bool _); first | (simp [hg2, hg3]; done) | (refine congrArg (fun z => some (Value.bool z)) (Bool.eq_iff_iff.2 ?_); simp [hg2, hg3]; omega)), ?_⟩)) ks9 hJ2
 refine TL.gs ?_
 refine TL.gs ?_
 refine TL.gs ?_
 refine TL.p Pu.kf ?_
 refine TL.p Pu.mv ?_
 refine TL.gs ?_
 refine TL.gs ?_
 refine TL.gs ?_
 refine TL.gs ?_
 refine TL.gs ?_
 refine TL.gs ?_
 refine TL.gs ?_
 refine TL.p Pu.kf ?_
 refine TL.nil ?_
 exact TQ.sub (by repeat (first | exact trivial | refine ⟨rfl, ?_⟩ | refine ⟨trivial, ?_⟩ | refine ⟨(by show some (Value.bool _) = some (Value.bool _); first | (simp [hg2]; done) | (refine congrArg (fun z => some (Value.bool z)) (Bool.eq_iff_iff.2 ?_); simp [hg2]; omega)), ?_⟩)) ks9 hJ2
 refine TW.region ?_
 refine TL.p Pu.mv ?_
 refine TL.p Pu.no ?_
 refine TL.p Pu.mv ?_
 refine TL.guard (t := 106) rfl (fun hg4 => ?_) (fun hg4 => ?_)
 refine TL.gs ?_
 refine TL.gs ?_
 refine TL.gs ?_
 refine TL.p Pu.kt ?_
 refine TL.nil ?_
 exact TQ.sub (by repeat (first | exact trivial | refine ⟨rfl, ?_⟩ | refine ⟨trivial, ?_⟩ | refine ⟨(by show some (Value.bool _) = some (Value.bool _); first | (simp [hg4]; done) | (refine congrArg (fun z => some (Value.bool z)) (Bool.eq_iff_iff.2 ?_); simp [hg4]; omega)), ?_⟩)) ks9 hJ1
 refine TL.gd Pu.mv ?_
 refine TL.cr rfl (enters Tryz.func48 rfl rfl) (fun w hw => by
   exact rCount_any (by omega) (OldB.of_blk (hw.holds (.blk b 57 [.slice S.R S.rows.length S.cr, .slice S.L S.lets.length S.cl, .slice none 0 0, .bool false]) (Pick.mem pk9)))) ?_
 refine TL.gd (Pu.bv Pu.eq hv6) ?_
 refine TL.p Pu.kf ?_
 refine TL.nil ?_
 exact TQ.sub (by repeat (first | exact trivial | refine ⟨rfl, ?_⟩ | refine ⟨trivial, ?_⟩ | refine ⟨(by show some (Value.bool _) = some (Value.bool _); first | (simp [hg4]; done) | (refine congrArg (fun z => some (Value.bool z)) (Bool.eq_iff_iff.2 ?_); simp [hg4]; omega)), ?_⟩)) ks9 hJ1
end
end Go.Proofs.YtfgnbkegdjkdmaaGreatDoor
namespace Go.Proofs.YtfgnbkegdjkdmaaGreatDoor
set_option linter.all false
set_option linter.unusedVariables false
set_option linter.unusedSimpArgs false
open Go.RowKit Go.Lib
def lgN (b : Nat) (S : Lg) : List Fact := [.blk b 57 [.slice none 0 0, .slice none 0 0, .slice S.A S.es.length S.c, .bool true], .own S.A S.es.length S.c 62 3 (enT S.es), bun (agF S.es)]
theorem lgN_app {b c : Nat} {A : Option Addr} {es : List (Ent × Option Addr × Nat)} {x : Ent × Option Addr × Nat} : lgN b ⟨A, c, es ++ [x]⟩ = [.blk b 57 [.slice none 0 0, .slice none 0 0, .slice A (es.length + 1) c, .bool true], .own A (es.length + 1) c 62 3 (enT (es ++ [x])), bun (agF es ++ [.own x.2.1 x.1.args.length x.2.2 3 1 (iL x.1.args)])] := by
 simp only [lgN, agF, List.length_append, List.length_cons, List.length_nil, Nat.zero_add, List.map_append, List.map_cons, List.map_nil]
theorem va_nm {d : List UInt8} {v : Int} {b : Bool} (h : VaR d (v, b)) : NmR [d] b (if b = true then [v] else []) := by
 rcases h with ⟨h1, h2⟩ | ⟨h1, h2⟩
 · obtain rfl : b = true := h1
   refine .inl ⟨rfl, ?_⟩
   unfold nmsL
   rw [h2]
   rfl
 · obtain rfl : b = false := h1
   refine .inr ⟨rfl, ?_, rfl⟩
   unfold nmsL
   rw [h2]
   rfl
section
variable {t f : List UInt8} {l0 : List (List UInt8)} {S : Lg} {M : List (Nat × Nat)}
set_option maxRecDepth 100000 in
set_option maxHeartbeats 4000000 in
theorem rAddG_any {b n cp : Nat} {A : Option Addr} {w : World} (ht : t.length ≤ 40000) (hn : n = l0.length + 1) (hl : n ≤ 40001) (hW : WdIn t M (f :: l0)) (hS : CtOk S.cont)
    (hM : Sat (feet (lgN b S)) w (lgN b S) w) (hR : RdR w 2 A n (mkT M)) (hA : Apart (feet (lgN b S)) A) :
    CallsK Tryz.prog 34 #[.pointer (some ⟨b, 0, none⟩), sv t, .slice A n cp] (lgN b S) w { x : Bool × Lg // TkR true S.cont (f :: l0) x.1 x.2.cont } (fun x => .bool x.1.1) (fun x => lgN b x.1.2) := by
  have hS1 : S.es.length ≤ 200 := by have h1 := hS.2; rw [show S.cont.log = S.es.map (·.1) from rfl, List.length_map] at h1; exact h1
  obtain ⟨hw1, hw2, hw3⟩ := hW 0 (Nat.succ_pos _)
  obtain ⟨v1, hv1⟩ : ∃ b, decide (f = [68]) = b := ⟨_, rfl⟩
  obtain ⟨v3, hv3⟩ : ∃ b, decide (((0 + 0 + S.es.length : Nat) : Int) = 200) = b := ⟨_, rfl⟩
  refine K_enter (S := feet (lgN b S)) (K := [.blk b 57 [.slice none 0 0, .slice none 0 0, .slice S.A S.es.length S.c, .bool true], .own S.A S.es.length S.c 62 3 (enT S.es), bun (agF S.es)]) Tryz.func34 rfl Tryz.ntmps34 rfl hM ?_
  refine TW.seq fun Y1 hY1 => TW.region ?_
  refine TL.p Pu.as ?_
  refine TL.nil (TQ.thenN (hY1 _ _ ?_))
  refine TW.seq fun Y2 hY2 => ?_
  refine TW.dw 11 ?_
  refine RK.tk Pu.mv ?_
  refine RK.tk Pu.mv ?_
  refine RK.tk (Pu.el (q := 0) ty_et80 (hk := rfl)) ?_
  refine RK.tk (by first | exact Pu.fb ty_fa85_0 | exact Pu.fe ty_fa85_0) ?_
  refine RK.tk (Pu.ld ty_sc3) ?_
  refine RK.tk Pu.mv ?_
  refine RK.tk (Pu.el (q := 0) ty_et80 (hk := rfl)) ?_
  refine RK.tk (by first | exact Pu.fb ty_fa85_1 | exact Pu.fe ty_fa85_1) ?_
  refine RK.tk (Pu.ld ty_sc3) ?_
  refine RK.tk (Pu.sw (b := f) (Pu.ssb Tryz.underlying9 (p := (M.getD 0 (0, 0)).1) (q := (M.getD 0 (0, 0)).2)) hw3) ?_
  refine RK.tk Pu.as ?_
  refine RK.ch [] ?_ trivial
  refine WK.n ?_
  refine TL.nil (TQ.thenN (hY2 _ _ ?_))
  refine TW.seq fun Y3 hY3 => ?_
  refine TW.seq fun Y4 hY4 => TW.region ?_
  refine TL.p Pu.mv ?_
  refine TL.p (by first | exact Pu.nn | exact Pu.nc) ?_
  refine TL.p (by first | exact Pu.fb ty_fa57_2 | exact Pu.fe ty_fa57_2) ?_
  refine TL.p (Pu.ld ty_sc4) ?_
  refine TL.nil (TQ.thenN (hY4 _ _ ?_))
  refine TW.condT rfl (rfl) ?_
  refine TW.seq fun Y5 hY5 => ?_
  refine TW.seq fun Y6 hY6 => ?_
  refine TW.join [(42, .bool (!v1 || decide ((n : Int) < 3) || v3))] ?_ (fun hJ1 => ?_)
  refine TQ.thenN (hY6 _ _ ?_)
  refine TW.cond rfl (fun hc1 => ?_) (fun hc1 => ?_)
  try simp only [zcb9] at hc1
  have hno := tkG_no (S := S) (ls := f :: l0) (by
    rcases hc1 with (h | h) | h
    refine .inl fun e => ?_
    have e : f = [68] := e
    rw [decide_eq_true e] at hv1
    rw [← hv1] at h
    exact absurd h (by decide)
    exact .inr (.inl (by rw [List.length_cons]; omega))
    rw [h] at hv3
    have := of_decide_eq_true hv3
    exact .inr (.inr (by omega)))
  refine TW.seq fun Y7 hY7 => TW.region ?_
  refine TL.p Pu.as ?_
  refine TL.nil (TQ.thenN (hY7 _ _ ?_))
  refine TW.ret ?_
  refine TQ.thenR ?_
  refine TQ.thenR ?_
  refine TQ.ret Tryz.results34 rfl ((.tmp rfl .nil)) ?_
  first
  | exact fun w hw => ⟨⟨(false, S), hno _⟩, rfl, hw.sub ks9⟩
  | (intro w hw
     refine ⟨⟨(true, ⟨A2, c2, S.es ++ [(⟨v, x, m2⟩, B2, e2)]⟩), ?_⟩, rfl, ?_⟩
     have e9 : (⟨A2, c2, S.es ++ [(⟨v, x, m2⟩, B2, e2)]⟩ : Lg).cont = ⟨[], [], S.es.map (·.1) ++ [⟨v, x, m2⟩]⟩ := by simp only [Lg.cont, List.map_append, List.map_cons, List.map_nil]
     rw [e9]
     exact hgo
     show Sat _ _ (lgN b ⟨A2, c2, S.es ++ [(⟨v, x, m2⟩, B2, e2)]⟩) _
     rw [lgN_app]
     have h9 := hw.sub (L := [.own B2 m2.length e2 3 1 (iL m2), bun (agF S.es), .blk b 57 [.slice none 0 0, .slice none 0 0, .slice A2 (S.es.length + 1) c2, .bool true], .own A2 (S.es.length + 1) c2 62 3 (enT (S.es ++ [(⟨v, x, m2⟩, B2, e2)]))]) (KSub.cons pk9 (KSub.cons pk9 (KSub.cons pk9 (KSub.own pk9 (enT_app rfl) KSub.nil))))
     exact (bun_add h9).sub (KSub.cons pk9 (KSub.cons pk9 (KSub.cons pk9 KSub.nil))))
  | trace_state
  try simp only [zcb9] at hc1
  obtain ⟨⟨h1, h3⟩, h200⟩ := hc1
  have h1' : v1 = true := by simpa using h1
  rw [h1'] at hv1
  have hfe := of_decide_eq_true hv1
  subst hfe
  rw [h200] at hv3
  have h200' : ¬ S.es.length = 200 := by have := of_decide_eq_false hv3; omega
  obtain ⟨d, x, l, rfl⟩ : ∃ d x l, l0 = d :: x :: l := by
    match l0, hn with
    | [], hn => simp at hn; omega
    | [_], hn => simp at hn; omega
    | d :: x :: l, _ => exact ⟨d, x, l, rfl⟩
  simp only [List.length_cons] at hn
  obtain ⟨ok2, m2, hN2⟩ := nmR_ex l
  have hm2 := hN2.len
  obtain ⟨hd1, hd2, hd3⟩ := hW 1 (by simp)
  obtain ⟨hx1, hx2, hx3⟩ := hW 2 (by simp)
  have hd3' : (t.drop (M.getD 1 (0, 0)).1).take ((M.getD 1 (0, 0)).2 - (M.getD 1 (0, 0)).1) = d := hd3
  have hx3' : (t.drop (M.getD 2 (0, 0)).1).take ((M.getD 2 (0, 0)).2 - (M.getD 2 (0, 0)).1) = x := hx3
  have hdl : d.length ≤ 40000 := by rw [← hd3', List.length_take, List.length_drop]; omega
  refine TW.skip ?_
  refine TQ.thenN (hY5 _ _ ?_)
  refine TW.seq fun Y8 hY8 => ?_
  refine TW.dw 16 ?_
  refine RK.tk Pu.mv ?_
  refine RK.tk Pu.mv ?_
  refine RK.tk (Pu.el (q := 1) ty_et80 (hk := rfl)) ?_
  refine RK.tk (by first | exact Pu.fb ty_fa85_0 | exact Pu.fe ty_fa85_0) ?_
  refine RK.tk (Pu.ld ty_sc3) ?_
  refine RK.tk Pu.mv ?_
  refine RK.tk (Pu.el (q := 1) ty_et80 (hk := rfl)) ?_
  refine RK.tk (by first | exact Pu.fb ty_fa85_1 | exact Pu.fe ty_fa85_1) ?_
  refine RK.tk (Pu.ld ty_sc3) ?_
  refine RK.tk (Pu.sw (b := d) (Pu.ssb Tryz.underlying9 (p := (M.getD 1 (0, 0)).1) (q := (M.getD 1 (0, 0)).2)) hd3') ?_
  refine RK.keep ?_
  refine RK.keep ?_
  refine RK.keep ?_
  refine RK.keep ?_
  refine RK.keep ?_
  refine RK.keep ?_
  refine RK.ch [false, true, true, true, true, true] ?_ trivial
  refine WK.call rfl (enters Tryz.func31 rfl rfl) rfl (fun w hw => by
      exact value_any hdl _) ?_
  rintro ⟨⟨v, o1⟩, hva⟩
  refine WK.p Pu.mv ?_
  refine WK.p Pu.ex ?_
  refine WK.p Pu.ex ?_
  refine WK.p Pu.as ?_
  refine WK.p Pu.as ?_
  refine WK.n ?_
  refine TL.nil (TQ.thenN (hY8 _ _ ?_))
  have hN1 := va_nm hva
  refine TW.seq fun Y9 hY9 => TW.region ?_
  refine TL.p Pu.mv ?_
  refine TL.p Pu.mv ?_
  refine TL.call (M := []) rfl (enters Tryz.func33 rfl rfl) (List.Perm.refl _) rfl (fun w hw => by
      exact rNumbers_any (ws := [68] :: d :: x :: l) (M := M) (j := 3) ht (by simp only [List.length_cons]; omega) hl (by omega) hW hN2 (hR.sat hw hA)) ?_
  rintro ⟨B2, e2⟩
  refine TL.p Pu.mv ?_
  refine TL.p Pu.ex ?_
  refine TL.p Pu.ex ?_
  refine TL.p Pu.as ?_
  refine TL.p Pu.as ?_
  refine TL.nil (TQ.thenN (hY9 _ _ ?_))
  refine TW.seq fun Y10 hY10 => ?_
  refine TW.dw 11 ?_
  refine RK.tk Pu.mv ?_
  refine RK.tk Pu.mv ?_
  refine RK.tk (Pu.el (q := 2) ty_et80 (hk := rfl)) ?_
  refine RK.tk (by first | exact Pu.fb ty_fa85_0 | exact Pu.fe ty_fa85_0) ?_
  refine RK.tk (Pu.ld ty_sc3) ?_
  refine RK.tk Pu.mv ?_
  refine RK.tk (Pu.el (q := 2) ty_et80 (hk := rfl)) ?_
  refine RK.tk (by first | exact Pu.fb ty_fa85_1 | exact Pu.fe ty_fa85_1) ?_
  refine RK.tk (Pu.ld ty_sc3) ?_
  refine RK.tk (Pu.sw (b := x) (Pu.ssb Tryz.underlying9 (p := (M.getD 2 (0, 0)).1) (q := (M.getD 2 (0, 0)).2)) hx3') ?_
  refine RK.tk Pu.as ?_
  refine RK.ch [] ?_ trivial
  refine WK.n ?_
  refine TL.nil (TQ.thenN (hY10 _ _ ?_))
  refine TW.seq fun Y11 hY11 => ?_
  refine TW.seq fun Y12 hY12 => ?_
  refine TW.join [(84, .bool (!o1 || !ok2 || !cmB x m2.length))] ?_ (fun hJ2 => ?_)
  refine TQ.thenN (hY12 _ _ ?_)
  refine TW.cond rfl (fun hc2 => ?_) (fun hc2 => ?_)
  try simp only [zcb9] at hc2
  have hno := tkG_bad (S := S) (w := x) h200' hN1 hN2 (by
    rcases hc2 with (h | h) | h
    exact .inl (by simpa using h)
    exact .inr (.inl (by simpa using h))
    exact .inr (.inr (by simpa using h)))
  refine TW.seq fun Y13 hY13 => TW.region ?_
  refine TL.p Pu.as ?_
  refine TL.nil (TQ.thenN (hY13 _ _ ?_))
  refine TW.ret ?_
  refine TQ.thenR ?_
  refine TQ.thenR ?_
  refine TQ.ret Tryz.results34 rfl ((.tmp rfl .nil)) ?_
  first
  | exact fun w hw => ⟨⟨(false, S), hno _⟩, rfl, hw.sub ks9⟩
  | (intro w hw
     refine ⟨⟨(true, ⟨A2, c2, S.es ++ [(⟨v, x, m2⟩, B2, e2)]⟩), ?_⟩, rfl, ?_⟩
     have e9 : (⟨A2, c2, S.es ++ [(⟨v, x, m2⟩, B2, e2)]⟩ : Lg).cont = ⟨[], [], S.es.map (·.1) ++ [⟨v, x, m2⟩]⟩ := by simp only [Lg.cont, List.map_append, List.map_cons, List.map_nil]
     rw [e9]
     exact hgo
     show Sat _ _ (lgN b ⟨A2, c2, S.es ++ [(⟨v, x, m2⟩, B2, e2)]⟩) _
     rw [lgN_app]
     have h9 := hw.sub (L := [.own B2 m2.length e2 3 1 (iL m2), bun (agF S.es), .blk b 57 [.slice none 0 0, .slice none 0 0, .slice A2 (S.es.length + 1) c2, .bool true], .own A2 (S.es.length + 1) c2 62 3 (enT (S.es ++ [(⟨v, x, m2⟩, B2, e2)]))]) (KSub.cons pk9 (KSub.cons pk9 (KSub.cons pk9 (KSub.own pk9 (enT_app rfl) KSub.nil))))
     exact (bun_add h9).sub (KSub.cons pk9 (KSub.cons pk9 (KSub.cons pk9 KSub.nil))))
  | trace_state
  try simp only [zcb9] at hc2
  obtain ⟨⟨ho1, ho2⟩, ho3⟩ : (o1 = true ∧ ok2 = true) ∧ cmB x m2.length = true := by simpa using hc2
  subst ho1
  subst ho2
  have hgo := tkG_good (S := S) (k := v) h200' hN1 hN2 ho3
  have hS3 : S.es.length + 1 ≤ 201 := by omega
  refine TW.skip ?_
  refine TQ.thenN (hY11 _ _ ?_)
  refine TW.seq fun Y14 hY14 => TW.region ?_
  refine TL.p Pu.mv ?_
  refine TL.p Pu.mv ?_
  refine TL.p (by first | exact Pu.nn | exact Pu.nc) ?_
  refine TL.p (by first | exact Pu.fb ty_fa57_1 | exact Pu.fe ty_fa57_1) ?_
  refine TL.p (Pu.ld ty_sc31) ?_
  refine TL.p Pu.mv ?_
  refine TL.p Pu.mv ?_
  refine TL.p Pu.mv ?_
  refine TL.p (Pu.bd (v := .agg #[.int .i64 v, sv x, .slice B2 m2.length e2]) rfl (by intro w; simp only [sv]; go_simp)) ?_
  refine TL.m Mk.bl ?_
  intro b1
  first | refine TL.a0 ty_et31 ?_ | refine TL.ap ty_et31 ?_
  intro A2 c2
  refine TL.p (by first | exact Pu.nn | exact Pu.nc) ?_
  refine TL.p (by first | exact Pu.fb ty_fa57_1 | exact Pu.fe ty_fa57_1) ?_
  first | refine TL.st ty_sz31 ?_ | refine TL.se ty_sz31 ?_
  refine TL.nil (TQ.thenN (hY14 _ _ ?_))
  refine TW.seq fun Y15 hY15 => TW.region ?_
  refine TL.p Pu.as ?_
  refine TL.nil (TQ.thenN (hY15 _ _ ?_))
  refine TW.ret ?_
  refine TQ.thenR ?_
  refine TQ.ret Tryz.results34 rfl ((.tmp rfl .nil)) ?_
  first
  | exact fun w hw => ⟨⟨(false, S), hno _⟩, rfl, hw.sub ks9⟩
  | (intro w hw
     refine ⟨⟨(true, ⟨A2, c2, S.es ++ [(⟨v, x, m2⟩, B2, e2)]⟩), ?_⟩, rfl, ?_⟩
     have e9 : (⟨A2, c2, S.es ++ [(⟨v, x, m2⟩, B2, e2)]⟩ : Lg).cont = ⟨[], [], S.es.map (·.1) ++ [⟨v, x, m2⟩]⟩ := by simp only [Lg.cont, List.map_append, List.map_cons, List.map_nil]
     rw [e9]
     exact hgo
     show Sat _ _ (lgN b ⟨A2, c2, S.es ++ [(⟨v, x, m2⟩, B2, e2)]⟩) _
     rw [lgN_app]
     have h9 := hw.sub (L := [.own B2 m2.length e2 3 1 (iL m2), bun (agF S.es), .blk b 57 [.slice none 0 0, .slice none 0 0, .slice A2 (S.es.length + 1) c2, .bool true], .own A2 (S.es.length + 1) c2 62 3 (enT (S.es ++ [(⟨v, x, m2⟩, B2, e2)]))]) (KSub.cons pk9 (KSub.cons pk9 (KSub.cons pk9 (KSub.own pk9 (enT_app rfl) KSub.nil))))
     exact (bun_add h9).sub (KSub.cons pk9 (KSub.cons pk9 (KSub.cons pk9 KSub.nil))))
  | trace_state
  refine TW.region ?_
  refine TL.p Pu.mv ?_
  refine TL.p Pu.no ?_
  refine TL.p Pu.mv ?_
  refine TL.guard (t := 75) rfl (fun hg1 => ?_) (fun hg1 => ?_)
  refine TL.gs ?_
  refine TL.gs ?_
  refine TL.p Pu.kt ?_
  refine TL.p Pu.mv ?_
  refine TL.gs ?_
  refine TL.gs ?_
  refine TL.gs ?_
  refine TL.gs ?_
  refine TL.p Pu.kt ?_
  refine TL.nil ?_
  exact TQ.sub (by repeat (first | exact trivial | refine ⟨rfl, ?_⟩ | refine ⟨trivial, ?_⟩ | refine ⟨(by show some (Value.bool _) = some (Value.bool _); first | (simp [hg1]; done) | (refine congrArg (fun z => some (Value.bool z)) (Bool.eq_iff_iff.2 ?_); simp [hg1]; omega)), ?_⟩)) ks9 hJ2
  refine TL.gd Pu.mv ?_
  refine TL.gd Pu.no ?_
  refine TL.p Pu.kf ?_
  refine TL.p Pu.mv ?_
  refine TL.guard (t := 79) rfl (fun hg2 => ?_) (fun hg2 => ?_)
  refine TL.gs ?_
  refine TL.gs ?_
  refine TL.gs ?_
  refine TL.gs ?_
  refine TL.p Pu.kt ?_
  refine TL.nil ?_
  exact TQ.sub (by repeat (first | exact trivial | refine ⟨rfl, ?_⟩ | refine ⟨trivial, ?_⟩ | refine ⟨(by show some (Value.bool _) = some (Value.bool _); first | (simp [hg1, hg2]; done) | (refine congrArg (fun z => some (Value.bool z)) (Bool.eq_iff_iff.2 ?_); simp [hg1, hg2]; omega)), ?_⟩)) ks9 hJ2
  refine TL.gd Pu.mv ?_
  refine TL.gd Pu.mv ?_
  refine TL.cr rfl (enters Tryz.func49 rfl rfl) (fun w hw => by
      exact command_any (by omega)) ?_
  refine TL.gd Pu.no ?_
  refine TL.p Pu.kf ?_
  refine TL.nil ?_
  exact TQ.sub (by repeat (first | exact trivial | refine ⟨rfl, ?_⟩ | refine ⟨trivial, ?_⟩ | refine ⟨(by show some (Value.bool _) = some (Value.bool _); first | (simp [hg1, hg2]; done) | (refine congrArg (fun z => some (Value.bool z)) (Bool.eq_iff_iff.2 ?_); simp [hg1, hg2]; omega)), ?_⟩)) ks9 hJ2
  refine TW.region ?_
  refine TL.p Pu.mv ?_
  refine TL.p (Pu.bv (b' := !v1) Pu.sne (congrArg Bool.not hv1)) ?_
  refine TL.p Pu.mv ?_
  refine TL.guard (t := 33) rfl (fun hg3 => ?_) (fun hg3 => ?_)
  refine TL.gs ?_
  refine TL.gs ?_
  refine TL.gs ?_
  refine TL.p Pu.kt ?_
  refine TL.p Pu.mv ?_
  refine TL.gs ?_
  refine TL.gs ?_
  refine TL.gs ?_
  refine TL.p Pu.kt ?_
  refine TL.nil ?_
  exact TQ.sub (by repeat (first | exact trivial | refine ⟨rfl, ?_⟩ | refine ⟨trivial, ?_⟩ | refine ⟨(by show some (Value.bool _) = some (Value.bool _); first | (simp [hg3]; done) | (refine congrArg (fun z => some (Value.bool z)) (Bool.eq_iff_iff.2 ?_); simp [hg3]; omega)), ?_⟩)) ks9 hJ1
  refine TL.gd Pu.mv ?_
  refine TL.gd (Pu.ln Tryz.underlying80) ?_
  refine TL.gd Pu.lt ?_
  refine TL.p Pu.kf ?_
  refine TL.p Pu.mv ?_
  refine TL.guard (t := 38) rfl (fun hg4 => ?_) (fun hg4 => ?_)
  refine TL.gs ?_
  refine TL.gs ?_
  refine TL.gs ?_
  refine TL.p Pu.kt ?_
  refine TL.nil ?_
  exact TQ.sub (by repeat (first | exact trivial | refine ⟨rfl, ?_⟩ | refine ⟨trivial, ?_⟩ | refine ⟨(by show some (Value.bool _) = some (Value.bool _); first | (simp [hg3, hg4]; done) | (refine congrArg (fun z => some (Value.bool z)) (Bool.eq_iff_iff.2 ?_); simp [hg3, hg4]; omega)), ?_⟩)) ks9 hJ1
  refine TL.gd Pu.mv ?_
  refine TL.cr rfl (enters Tryz.func48 rfl rfl) (fun w hw => by
      exact rCount_any (by omega) (OldB.of_blk (hw.holds (.blk b 57 [.slice none 0 0, .slice none 0 0, .slice S.A S.es.length S.c, .bool true]) (Pick.mem pk9)))) ?_
  refine TL.gd (Pu.bv Pu.eq hv3) ?_
  refine TL.p Pu.kf ?_
  refine TL.nil ?_
  exact TQ.sub (by repeat (first | exact trivial | refine ⟨rfl, ?_⟩ | refine ⟨trivial, ?_⟩ | refine ⟨(by show some (Value.bool _) = some (Value.bool _); first | (simp [hg3, hg4]; done) | (refine congrArg (fun z => some (Value.bool z)) (Bool.eq_iff_iff.2 ?_); simp [hg3, hg4]; omega)), ?_⟩)) ks9 hJ1
end
end Go.Proofs.YtfgnbkegdjkdmaaGreatDoor
namespace Go.Proofs.YtfgnbkegdjkdmaaGreatDoor
set_option linter.all false
set_option linter.unusedVariables false
set_option linter.unusedSimpArgs false
open Go.RowKit Go.Lib
theorem TW.ocapM {c : Cx} {Q : Exit → Act → World → Prop} {F : Fr} {K K' : List Fact} {x : Code} {A : Option Addr} {n cp : Nat} {E : TypeId} {sz : Nat} {r : Nat → List Value} (hp : Pick K (.own A n cp E sz r) K') (h : n ≤ cp → TW c x Q F K) : TW c x Q F K := fun a w hF hK =>
 h (OwnR.cap (hK.holds (.own A n cp E sz r) hp.mem)) a w hF hK
section
variable {St : Type} {φ : St → Fact} {ct : St → Cont} {isLog : Bool}
def AddsK (φ : St → Fact) (ct : St → Cont) (isLog : Bool) (b : Nat) (t : List UInt8) : Prop := ∀ (s : St) (f : List UInt8) (l0 : List (List UInt8)) (M : List (Nat × Nat)) (n cp : Nat) (A : Option Addr) (w : World), n = l0.length + 1 → n ≤ 40001 → WdIn t M (f :: l0) → CtOk (ct s) →
 Sat (feet [φ s]) w [φ s] w → RdR w 2 A n (mkT M) → Apart (feet [φ s]) A →
 CallsK Tryz.prog 34 #[.pointer (some ⟨b, 0, none⟩), sv t, .slice A n cp] [φ s] w { x : Bool × St // TkR isLog (ct s) (f :: l0) x.1 (ct x.2) } (fun x => .bool x.1.1) (fun x => [φ x.1.2])
set_option maxRecDepth 100000 in
set_option maxHeartbeats 8000000 in
theorem read_any {t : List UInt8} {s0 : St} {b : Nat} {w : World} (hAd : AddsK φ ct isLog b t) (h0 : ct s0 = ⟨[], [], []⟩) (ht : t.length ≤ 40000) (hM : Sat (feet [φ s0]) w [φ s0] w) :
    CallsK Tryz.prog 15 #[.pointer (some ⟨b, 0, none⟩), sv t] [φ s0] w { x : (Int × Int) × St // UnR ct (rdW isLog t) x } (fun x => .tuple #[.int .i64 x.1.1.1, .int .i64 x.1.1.2]) (fun x => [φ x.1.2]) := by
  refine K_enter (S := feet [φ s0]) (K := [φ s0]) Tryz.func15 rfl Tryz.ntmps15 rfl hM ?_
  refine TW.seq fun Y1 hY1 => TW.region ?_
  refine TL.p Pu.as ?_
  refine TL.p Pu.as ?_
  refine TL.nil (TQ.thenN (hY1 _ _ ?_))
  refine TW.seq fun Y2 hY2 => ?_
  refine TW.seq fun Y3 hY3 => TW.region ?_
  refine TL.p Pu.mv ?_
  refine TL.p (Pu.sln Tryz.underlying9) ?_
  refine TL.p Pu.gt ?_
  refine TL.nil (TQ.thenN (hY3 _ _ ?_))
  refine TW.cond rfl (fun hc0 => ?_) (fun hc0 => ?_)
  try simp only [zcb9] at hc0
  have hV : rdW isLog t = (0, 9, ⟨[], [], []⟩) := by unfold rdW; rw [if_pos (by omega)]
  refine TW.seq fun Y4 hY4 => TW.region ?_
  refine TL.p Pu.as ?_
  refine TL.p Pu.as ?_
  refine TL.nil (TQ.thenN (hY4 _ _ ?_))
  refine TW.ret ?_
  refine TQ.thenR ?_
  refine TQ.ret Tryz.results15 rfl ((.tmp rfl (.tmp rfl .nil))) ?_
  exact fun w hw => ⟨⟨((_, _), s0), UnR.err hV (by decide) s0⟩, rfl, hw.sub (KSub.cons pk9 KSub.nil)⟩
  try simp only [zcb9] at hc0
  have ht3 : t.length ≤ 30000 := by omega
  have hV : rdW isLog t = rdF isLog t.length (ct s0) 23 0 t := by unfold rdW; rw [if_neg (by omega), h0]; rfl
  obtain ⟨V, hVV⟩ : ∃ V, rdW isLog t = V := ⟨_, rfl⟩
  rw [hVV] at hV
  refine TW.skip ?_
  refine TQ.thenN (hY2 _ _ ?_)
  refine TW.seq fun Y5 hY5 => TW.region ?_
  refine TL.p Pu.as ?_
  refine TL.nil (TQ.thenN (hY5 _ _ ?_))
  refine TW.seq fun Y6 hY6 => ?_
  refine TW.seq fun Y7 hY7 => TW.region ?_
  refine TL.p Pu.as ?_
  refine TL.nil (TQ.thenN (hY7 _ _ ?_))
  refine TW.block ?_
  refine TW.loop3 (fun (n : Nat) (p : Nat) (s : St) => [(7, .int .i64 ((n : Int) + 1)), (6, .int .i64 (p : Int)), (0, .pointer (some ⟨b, 0, none⟩)), (1, sv t)]) (fun n p s => [φ s]) (fun n p s => rdF isLog (t.drop p).length (ct s) (ckL 23 (t.take p)) n (t.drop p) = V ∧ p ≤ t.length ∧ n ≤ p ∧ (n = 0 ∨ p < t.length) ∧ CtOk (ct s)) (fun n p s => t.length - p) 0 0 s0 fs9 ?_ ?_ ?_
  exact ks9
  exact ⟨hV.symm, Nat.zero_le _, Nat.le_refl _, .inl rfl, by rw [h0]; exact ⟨Nat.zero_le _, Nat.zero_le _⟩⟩
  rintro n p s ⟨hV1, hp, hnp, hn0, hct⟩ Z0 hZ0
  refine TW.seq fun Y8 hY8 => ?_
  refine TW.seq fun Y9 hY9 => TW.region ?_
  refine TL.p Pu.mv ?_
  refine TL.p Pu.mv ?_
  refine TL.p (Pu.sln Tryz.underlying9) ?_
  refine TL.p Pu.lt ?_
  refine TL.nil (TQ.thenN (hY9 _ _ ?_))
  refine TW.cond rfl (fun hc1 => ?_) (fun hc1 => ?_)
  try simp only [zcb9] at hc1
  have hpl : p < t.length := by omega
  refine TW.skip ?_
  refine TQ.thenN (hY8 _ _ ?_)
  refine TW.seq fun Y10 hY10 => ?_
  refine TW.block ?_
  refine TW.seq fun Y11 hY11 => TW.region ?_
  refine TL.p Pu.mv ?_
  refine TL.p Pu.as ?_
  refine TL.nil (TQ.thenN (hY11 _ _ ?_))
  refine TW.seq fun Y12 hY12 => ?_
  refine TW.block ?_
  refine TW.loop1 (fun (k : Nat) => [(8, .int .i64 ((p + k : Nat) : Int)), (7, .int .i64 ((n : Int) + 1)), (6, .int .i64 (p : Int)), (0, .pointer (some ⟨b, 0, none⟩)), (1, sv t)]) (fun k => [φ s]) (fun k => 10 ∉ (t.drop p).take k ∧ p + k ≤ t.length) (fun k => t.length - p - k) 0 fs9 ?_ ?_ ?_
  exact ks9
  exact ⟨by simp, by omega⟩
  rintro k ⟨hk10, hkt⟩ Z1 hZ1
  obtain ⟨u, hu⟩ : ∃ u, t.getD (p + k) 0 = u := ⟨_, rfl⟩
  obtain ⟨g0, hq0⟩ : ∃ b, decide (((p + k : Nat) : Int) < (t.length : Int)) = b := ⟨_, rfl⟩
  obtain ⟨g1, hq1⟩ : ∃ b, decide ((u.toNat : Int) = 10) = b := ⟨_, rfl⟩
  have hgu : g0 = true → t[p + k]? = some u := fun h => by
    rw [h] at hq0
    have := of_decide_eq_true hq0
    rw [← hu]
    exact get9 (by omega)
  refine TW.seq fun Y13 hY13 => ?_
  refine TW.seq fun Y14 hY14 => ?_
  refine TW.join [(34, .bool (g0 && !g1))] ?_ (fun hJ1 => ?_)
  refine TQ.thenN (hY14 _ _ ?_)
  refine TW.cond rfl (fun hc2 => ?_) (fun hc2 => ?_)
  try simp only [zcb9] at hc2
  have hk2 : p + k < t.length ∧ t.getD (p + k) 0 ≠ 10 := by
    obtain ⟨h1, h2⟩ := hc2
    rw [h1] at hq0
    have h3 := of_decide_eq_true hq0
    refine ⟨by omega, fun e => ?_⟩
    rw [hu] at e
    subst e
    have h4 : g1 = true := by rw [← hq1]; rfl
    rw [h4] at h2
    exact absurd h2 (by decide)
  refine TW.skip ?_
  refine TQ.thenN (hY13 _ _ ?_)
  refine TW.block ?_
  refine TW.region ?_
  refine TL.p Pu.mv ?_
  refine TL.p Pu.ad ?_
  refine TL.p Pu.as ?_
  refine TL.nil ?_
  refine TQ.blkN ?_
  refine TQ.thenN (hZ1 (k + 1) _ _ ?_ ?_ fs9 ?_)
  exact ⟨nl_more hk10 hk2.1 hk2.2, by omega⟩
  exact zom9
  exact ks9
  try simp only [zcb9] at hc2
  have hend : p + k = t.length ∨ (p + k < t.length ∧ t.getD (p + k) 0 = 10) := by
    rcases hc2 with h | h
    rw [h] at hq0
    have := of_decide_eq_false hq0
    exact .inl (by omega)
    have h4 : g1 = true := by simpa using h
    rw [h4] at hq1
    have h5 := of_decide_eq_true hq1
    rcases Nat.lt_or_ge (p + k) t.length with h6 | h6
    refine .inr ⟨h6, ?_⟩
    rw [hu]
    have h7 : (10 : UInt8).toNat = 10 := rfl
    exact UInt8.toNat_inj.1 (by omega)
    exact .inl (by omega)
  refine TW.exit ?_
  refine TQ.thenX ?_
  refine TQ.thenX ?_
  refine TQ.blkX ?_
  refine TQ.thenN (hY12 _ _ ?_)
  refine TW.seq fun Y15 hY15 => ?_
  refine TW.seq fun Y16 hY16 => TW.region ?_
  refine TL.p Pu.mv ?_
  refine TL.p Pu.mv ?_
  refine TL.p (Pu.sln Tryz.underlying9) ?_
  refine TL.p Pu.eq ?_
  refine TL.nil (TQ.thenN (hY16 _ _ ?_))
  refine TW.cond rfl (fun hc3 => ?_) (fun hc3 => ?_)
  try simp only [zcb9] at hc3
  have hVe : V = ((n : Int) + 1, 103, ct s) := by rw [← hV1]; exact v_no (nl_all hk10 (by omega))
  refine TW.seq fun Y17 hY17 => TW.region ?_
  refine TL.p Pu.mv ?_
  refine TL.p Pu.as ?_
  refine TL.p Pu.as ?_
  refine TL.nil (TQ.thenN (hY17 _ _ ?_))
  refine TW.ret ?_
  refine TQ.thenR ?_
  refine TQ.blkR ?_
  refine TQ.thenR ?_
  refine TQ.thenR ?_
  refine TQ.blkR ?_
  refine TQ.thenR ?_
  refine TQ.ret Tryz.results15 rfl ((.tmp rfl (.tmp rfl .nil))) ?_
  first
  | exact fun w hw => ⟨⟨((_, _), s2), UnR.err (hVV.trans hVe) (by decide) s2⟩, rfl, hw.sub (KSub.cons pk9 KSub.nil)⟩
  | exact fun w hw => ⟨⟨((_, _), s), UnR.err (hVV.trans hVe) (by decide) s⟩, rfl, hw.sub (KSub.cons pk9 KSub.nil)⟩
  | exact fun w hw => ⟨⟨((0, 0), s), UnR.fin (hVV.trans hVe)⟩, rfl, hw.sub (KSub.cons pk9 KSub.nil)⟩
  | trace_state
  try simp only [zcb9] at hc3
  have hq : p + k < t.length := by omega
  have hqb : t.getD (p + k) 0 = 10 := by
    rcases hend with h | h
    omega
    exact h.2
  obtain ⟨X, hX⟩ : ∃ X, X = (t.drop p).take (p + k - p) := ⟨_, rfl⟩
  have hXk : X = (t.drop p).take k := by rw [hX, Nat.add_sub_cancel_left]
  obtain ⟨R, hR⟩ : ∃ R, t.drop (p + k + 1) = R := ⟨_, rfl⟩
  have hcut : t.drop p = X ++ 10 :: R := by rw [← hR, hX]; exact nl_cut (by omega) hq hqb
  have hx10 : 10 ∉ X := by rw [hXk]; exact hk10
  obtain ⟨L, hL⟩ : ∃ L, mkR p X = L := ⟨_, rfl⟩
  obtain ⟨σ, hσ⟩ : ∃ σ, ckL 23 (t.take p) = σ := ⟨_, rfl⟩
  have hXl : X.length = k := by rw [hXk, List.length_take, List.length_drop]; omega
  rw [hcut, hσ] at hV1
  refine TW.skip ?_
  refine TQ.thenN (hY15 _ _ ?_)
  refine TW.seq fun Y18 hY18 => TW.region ?_
  refine TL.p Pu.mv ?_
  refine TL.p Pu.mv ?_
  refine TL.p Pu.mv ?_
  refine TL.call (M := []) rfl (enters Tryz.func30 rfl rfl) (List.Perm.refl _) rfl (fun w hw => by
      have h9 := marks_any ht ⟨by omega, by omega⟩ hX
      rw [hL] at h9
      exact h9 _) ?_
  rintro ⟨A, c⟩
  refine TL.p Pu.as ?_
  refine TL.nil (TQ.thenN (hY18 _ _ ?_))
  refine TW.seq fun Y19 hY19 => ?_
  refine TW.ocapM (A := A) (n := L.length) (cp := c) pk9 fun hcap => ?_
  refine TW.seq fun Y20 hY20 => TW.region ?_
  refine TL.p Pu.mv ?_
  refine TL.p (Pu.ln Tryz.underlying80) ?_
  refine TL.p Pu.lt ?_
  refine TL.nil (TQ.thenN (hY20 _ _ ?_))
  refine TW.cond rfl (fun hc4 => ?_) (fun hc4 => ?_)
  try simp only [zcb9] at hc4
  have hVe : V = ((n : Int) + 1, 103, ct s) := by
    rw [← hV1]
    by_cases he : [] ∈ spW 32 X
    exact v_emp hx10 he
    have hLe : L = mkP p (spW 32 X) := by rw [← hL]; unfold mkR; rw [if_neg he]
    refine v_line hx10 (sp_few ?_)
    rw [hLe, mkP_len] at hc4
    omega
  refine TW.seq fun Y21 hY21 => TW.region ?_
  refine TL.p Pu.mv ?_
  refine TL.p Pu.as ?_
  refine TL.p Pu.as ?_
  refine TL.nil (TQ.thenN (hY21 _ _ ?_))
  refine TW.ret ?_
  refine TQ.thenR ?_
  refine TQ.blkR ?_
  refine TQ.thenR ?_
  refine TQ.thenR ?_
  refine TQ.blkR ?_
  refine TQ.thenR ?_
  refine TQ.ret Tryz.results15 rfl ((.tmp rfl (.tmp rfl .nil))) ?_
  first
  | exact fun w hw => ⟨⟨((_, _), s2), UnR.err (hVV.trans hVe) (by decide) s2⟩, rfl, hw.sub (KSub.cons pk9 KSub.nil)⟩
  | exact fun w hw => ⟨⟨((_, _), s), UnR.err (hVV.trans hVe) (by decide) s⟩, rfl, hw.sub (KSub.cons pk9 KSub.nil)⟩
  | exact fun w hw => ⟨⟨((0, 0), s), UnR.fin (hVV.trans hVe)⟩, rfl, hw.sub (KSub.cons pk9 KSub.nil)⟩
  | trace_state
  try simp only [zcb9] at hc4
  have he : [] ∉ spW 32 X := fun he => by
    rw [mkR_none he] at hL
    rw [← hL] at hc4
    simp at hc4
  have hLe : L = mkP p (spW 32 X) := by rw [← hL]; unfold mkR; rw [if_neg he]
  have hL2 : 2 ≤ (spW 32 X).length := by rw [hLe, mkP_len] at hc4; omega
  obtain ⟨a, z, f, l0, hXe, hz, hws, hwx⟩ := sp_more hL2
  have hLn : L.length = l0.length + 2 := by rw [hLe, mkP_len, hwx]; simp
  have hWA : ∀ i, i < l0.length + 2 → (L.getD i (0, 0)).1 ≤ (L.getD i (0, 0)).2 ∧ (L.getD i (0, 0)).2 ≤ t.length ∧ (t.drop (L.getD i (0, 0)).1).take ((L.getD i (0, 0)).2 - (L.getD i (0, 0)).1) = ((f :: l0) ++ [z]).getD i [] := fun i hi => by
    have h := mkP_at hX (by omega) (by omega) (k := i) (by rw [hwx, List.length_append, List.length_cons]; exact hi)
    rw [← hLe, hwx] at h
    exact h
  have hWd : WdIn t L (f :: l0) := fun i hi => by
    have h := hWA i (by rw [List.length_cons] at hi; omega)
    rwa [List.getD_eq_getElem?_getD (l := (f :: l0) ++ [z]), List.getElem?_append_left hi, ← List.getD_eq_getElem?_getD] at h
  obtain ⟨hz1, hz2, hz3⟩ := hWA (l0.length + 1) (by omega)
  have hz4 : ((f :: l0) ++ [z]).getD (l0.length + 1) [] = z := by rw [List.getD_eq_getElem?_getD, List.getElem?_append_right (by simp)]; simp
  rw [hz4] at hz3
  obtain ⟨hf1, hf2, hf3⟩ := hWd 0 (Nat.succ_pos _)
  have hf3' : (t.drop (L.getD 0 (0, 0)).1).take ((L.getD 0 (0, 0)).2 - (L.getD 0 (0, 0)).1) = f := hf3
  have hend2 : (L.getD l0.length (0, 0)).2 = p + a.length := by rw [hLe]; exact mkP_end hwx hws
  have hzl : z.length ≤ 40000 := by rw [← hz3, List.length_take, List.length_drop]; omega
  have hal : a.length + z.length + 1 = k := by rw [hXe, List.length_append, List.length_cons] at hXl; omega
  have hl0 : l0.length ≤ a.length := by have h := spW_count (c := 32) (a := a); rw [hws, List.length_cons] at h; omega
  have hta : (t.drop p).take a.length = a := by rw [hcut, hXe, List.append_assoc]; exact List.take_left' rfl
  have hcka : ckL 23 (t.take (p + a.length)) = ckL σ a := by rw [ck_at (by omega), hσ, hta]
  have hckn : ckL 23 (t.take (p + k + 1)) = ckL (ckL σ a) (32 :: z ++ [10]) := by
    rw [Nat.add_assoc, ck_at (by omega), hσ, hcut, ← ckL_app]
    congr 1
    rw [hXe, show a ++ 32 :: z ++ 10 :: R = (a ++ (32 :: z ++ [10])) ++ R by simp]
    exact List.take_left' (by simp; omega)
  subst hXe
  refine TW.skip ?_
  refine TQ.thenN (hY19 _ _ ?_)
  refine TW.seq fun Y22 hY22 => ?_
  refine TW.dw 22 ?_
  refine RK.tk Pu.mv ?_
  refine RK.tk Pu.mv ?_
  refine RK.tk Pu.mv ?_
  refine RK.tk (Pu.ln Tryz.underlying80) ?_
  refine RK.tk Pu.sb ?_
  refine RK.tk (Pu.el (q := l0.length + 1) ty_et80 (hk := by omega)) ?_
  refine RK.tk (by first | exact Pu.fb ty_fa85_0 | exact Pu.fe ty_fa85_0) ?_
  refine RK.tk (Pu.ld ty_sc3) ?_
  refine RK.tk Pu.mv ?_
  refine RK.tk Pu.mv ?_
  refine RK.tk (Pu.ln Tryz.underlying80) ?_
  refine RK.tk Pu.sb ?_
  refine RK.tk (Pu.el (q := l0.length + 1) ty_et80 (hk := by omega)) ?_
  refine RK.tk (by first | exact Pu.fb ty_fa85_1 | exact Pu.fe ty_fa85_1) ?_
  refine RK.tk (Pu.ld ty_sc3) ?_
  refine RK.tk (Pu.sw (b := z) (Pu.ssb Tryz.underlying9 (p := (L.getD (l0.length + 1) (0, 0)).1) (q := (L.getD (l0.length + 1) (0, 0)).2)) hz3) ?_
  refine RK.keep ?_
  refine RK.keep ?_
  refine RK.keep ?_
  refine RK.keep ?_
  refine RK.keep ?_
  refine RK.keep ?_
  refine RK.ch [false, true, true, true, true, true] ?_ trivial
  refine WK.call rfl (enters Tryz.func31 rfl rfl) rfl (fun w hw => by
      exact value_any hzl _) ?_
  rintro ⟨⟨kk, o1⟩, hva⟩
  refine WK.p Pu.mv ?_
  refine WK.p Pu.ex ?_
  refine WK.p Pu.ex ?_
  refine WK.p Pu.as ?_
  refine WK.p Pu.as ?_
  refine WK.n ?_
  refine TL.nil (TQ.thenN (hY22 _ _ ?_))
  refine TW.seq fun Y23 hY23 => ?_
  refine TW.seq fun Y24 hY24 => TW.region ?_
  refine TL.p Pu.mv ?_
  refine TL.p Pu.no ?_
  refine TL.nil (TQ.thenN (hY24 _ _ ?_))
  refine TW.cond rfl (fun hc5 => ?_) (fun hc5 => ?_)
  try simp only [zcb9] at hc5
  have hVe : V = ((n : Int) + 1, 103, ct s) := by
    rw [← hV1]
    refine v_key hx10 hz hws (.inl ?_)
    rcases hva with ⟨h, _⟩ | ⟨_, h⟩
    have h2 : o1 = true := h
    rw [h2] at hc5
    simp at hc5
    exact h
  refine TW.seq fun Y25 hY25 => TW.region ?_
  refine TL.p Pu.mv ?_
  refine TL.p Pu.as ?_
  refine TL.p Pu.as ?_
  refine TL.nil (TQ.thenN (hY25 _ _ ?_))
  refine TW.ret ?_
  refine TQ.thenR ?_
  refine TQ.blkR ?_
  refine TQ.thenR ?_
  refine TQ.thenR ?_
  refine TQ.blkR ?_
  refine TQ.thenR ?_
  refine TQ.ret Tryz.results15 rfl ((.tmp rfl (.tmp rfl .nil))) ?_
  first
  | exact fun w hw => ⟨⟨((_, _), s2), UnR.err (hVV.trans hVe) (by decide) s2⟩, rfl, hw.sub (KSub.cons pk9 KSub.nil)⟩
  | exact fun w hw => ⟨⟨((_, _), s), UnR.err (hVV.trans hVe) (by decide) s⟩, rfl, hw.sub (KSub.cons pk9 KSub.nil)⟩
  | exact fun w hw => ⟨⟨((0, 0), s), UnR.fin (hVV.trans hVe)⟩, rfl, hw.sub (KSub.cons pk9 KSub.nil)⟩
  | trace_state
  try simp only [zcb9] at hc5
  have hkv : valL z = some kk := by
    rcases hva with ⟨_, h⟩ | ⟨h, _⟩
    exact h
    have h2 : o1 = false := h
    rw [h2] at hc5
    simp at hc5
  obtain ⟨r9, hr9⟩ : ∃ b, decide (kk = (ckL σ a : Int)) = b := ⟨_, rfl⟩
  obtain ⟨vE, hvE⟩ : ∃ b, decide (f = [69]) = b := ⟨_, rfl⟩
  obtain ⟨ok2, m2, hN2⟩ := nmR_ex l0
  have hm2 := hN2.len
  refine TW.skip ?_
  refine TQ.thenN (hY23 _ _ ?_)
  refine TW.seq fun Y26 hY26 => TW.region ?_
  refine TL.p Pu.mv ?_
  refine TL.p Pu.mv ?_
  refine TL.p Pu.mv ?_
  refine TL.p Pu.mv ?_
  refine TL.p (Pu.ln Tryz.underlying80) ?_
  refine TL.p Pu.sb ?_
  refine TL.p (Pu.el (q := l0.length) ty_et80 (hk := by omega)) ?_
  refine TL.p (by first | exact Pu.fb ty_fa85_1 | exact Pu.fe ty_fa85_1) ?_
  refine TL.p (Pu.ld ty_sc3) ?_
  refine TL.p (Pu.sw (b := t.take (p + a.length)) (Pu.ssh Tryz.underlying9 (q := (L.getD l0.length (0, 0)).2)) (by rw [hend2])) ?_
  refine TL.cr rfl (enters Tryz.func32 rfl rfl) (fun w hw => by
      have h9 := sum_any (t := t.take (p + a.length)) (by rw [List.length_take]; omega)
      rw [hcka] at h9
      exact h9 _) ?_
  refine TL.p (Pu.bv Pu.eq hr9) ?_
  refine TL.p Pu.as ?_
  refine TL.nil (TQ.thenN (hY26 _ _ ?_))
  refine TW.seq fun Y27 hY27 => ?_
  refine TW.seq fun Y28 hY28 => ?_
  refine TW.dw 11 ?_
  refine RK.tk Pu.mv ?_
  refine RK.tk Pu.mv ?_
  refine RK.tk (Pu.el (q := 0) ty_et80 (hk := rfl)) ?_
  refine RK.tk (by first | exact Pu.fb ty_fa85_0 | exact Pu.fe ty_fa85_0) ?_
  refine RK.tk (Pu.ld ty_sc3) ?_
  refine RK.tk Pu.mv ?_
  refine RK.tk (Pu.el (q := 0) ty_et80 (hk := rfl)) ?_
  refine RK.tk (by first | exact Pu.fb ty_fa85_1 | exact Pu.fe ty_fa85_1) ?_
  refine RK.tk (Pu.ld ty_sc3) ?_
  refine RK.tk (Pu.sw (b := f) (Pu.ssb Tryz.underlying9 (p := (L.getD 0 (0, 0)).1) (q := (L.getD 0 (0, 0)).2)) hf3') ?_
  refine RK.tk (Pu.bv Pu.seq_ hvE) ?_
  refine RK.ch [] ?_ trivial
  refine WK.n ?_
  refine TL.nil (TQ.thenN (hY28 _ _ ?_))
  refine TW.cond rfl (fun hc6 => ?_) (fun hc6 => ?_)
  try simp only [zcb9] at hc6
  have hfE : f = [69] := by rw [hc6] at hvE; exact of_decide_eq_true hvE
  subst hfE
  obtain ⟨g4, hq4⟩ : ∃ b, decide ((m2.length : Int) = 1) = b := ⟨_, rfl⟩
  obtain ⟨g5, hq5⟩ : ∃ b, decide (((p + k : Nat) : Int) + 1 < (t.length : Int)) = b := ⟨_, rfl⟩
  refine TW.seq fun Y29 hY29 => TW.region ?_
  refine TL.p Pu.mv ?_
  refine TL.p Pu.mv ?_
  refine TL.p Pu.mv ?_
  refine TL.p (Pu.ln Tryz.underlying80) ?_
  refine TL.p Pu.sb ?_
  refine TL.p (Pu.sh ty_et80 (q := l0.length + 1) (hk := by omega)) ?_
  refine TL.call (M := []) rfl (enters Tryz.func33 rfl rfl) (List.Perm.refl _) rfl (fun w hw => by
      exact rNumbers_any (ws := [69] :: l0) (M := L) (j := 1) ht (by rw [List.length_cons]) (by omega) (by omega) hWd hN2 ((OwnR.rdr (hw.own pk9)).less (by omega))) ?_
  rintro ⟨B2, e2⟩
  refine TL.p Pu.mv ?_
  refine TL.p Pu.ex ?_
  refine TL.p Pu.ex ?_
  refine TL.p Pu.as ?_
  refine TL.p Pu.as ?_
  refine TL.nil (TQ.thenN (hY29 _ _ ?_))
  refine TW.seq fun Y30 hY30 => ?_
  refine TW.seq fun Y31 hY31 => ?_
  refine TW.join [(119, .bool (!ok2 || !g4 || g5))] ?_ (fun hJ2 => ?_)
  refine TQ.thenN (hY31 _ _ ?_)
  refine TW.cond rfl (fun hc7 => ?_) (fun hc7 => ?_)
  try simp only [zcb9] at hc7
  have hVe : V = ((n : Int) + 1, 103, ct s) := by
    rw [← hV1]
    refine v_badE hx10 hz hws hkv ?_
    rcases hc7 with (h | h) | h
    rcases hN2 with ⟨h1, _⟩ | ⟨_, h1, _⟩
    rw [h1] at h; simp at h
    exact .inl fun m e => by rw [h1] at e; cases e
    refine .inl fun m e => ?_
    have h4 : g4 = false := by simpa using h
    rw [h4] at hq4
    have h5 := of_decide_eq_false hq4
    rcases hN2 with ⟨_, h1⟩ | ⟨_, h1, _⟩
    rw [h1] at e; cases e; exact h5 rfl
    rw [h1] at e; cases e
    refine .inr fun e => ?_
    rw [h] at hq5
    have h5 := of_decide_eq_true hq5
    have h6 := congrArg List.length (hR.trans e)
    rw [List.length_drop, List.length_nil] at h6
    omega
  refine TW.seq fun Y32 hY32 => TW.region ?_
  refine TL.p Pu.mv ?_
  refine TL.p Pu.as ?_
  refine TL.p Pu.as ?_
  refine TL.nil (TQ.thenN (hY32 _ _ ?_))
  refine TW.ret ?_
  refine TQ.thenR ?_
  refine TQ.thenR ?_
  refine TQ.blkR ?_
  refine TQ.thenR ?_
  refine TQ.thenR ?_
  refine TQ.blkR ?_
  refine TQ.thenR ?_
  refine TQ.ret Tryz.results15 rfl ((.tmp rfl (.tmp rfl .nil))) ?_
  first
  | exact fun w hw => ⟨⟨((_, _), s2), UnR.err (hVV.trans hVe) (by decide) s2⟩, rfl, hw.sub (KSub.cons pk9 KSub.nil)⟩
  | exact fun w hw => ⟨⟨((_, _), s), UnR.err (hVV.trans hVe) (by decide) s⟩, rfl, hw.sub (KSub.cons pk9 KSub.nil)⟩
  | exact fun w hw => ⟨⟨((0, 0), s), UnR.fin (hVV.trans hVe)⟩, rfl, hw.sub (KSub.cons pk9 KSub.nil)⟩
  | trace_state
  try simp only [zcb9] at hc7
  obtain ⟨⟨ho2, h4⟩, h5⟩ := hc7
  have ho2' : ok2 = true := by simpa using ho2
  have h4' : g4 = true := by simpa using h4
  rw [h4'] at hq4
  have hm1 := of_decide_eq_true hq4
  rw [h5] at hq5
  have hp1 := of_decide_eq_false hq5
  have hR0 : R = [] := by rw [← hR]; exact List.drop_eq_nil_of_le (by omega)
  subst ho2'
  obtain ⟨m0, rfl⟩ : ∃ m0, m2 = [m0] := by
    match m2, hm1 with
    | [m0], _ => exact ⟨m0, rfl⟩
    | [], h => simp at h
    | _ :: _ :: _, h => simp at h; omega
  have hVo : V = if kk = (ckL σ a : Int) ∧ m0 = (n : Int) then (0, 0, ct s) else ((n : Int) + 1, 104, ct s) := by
    rw [← hV1, hR0]
    exact v_okE hx10 hz hws hkv (nm_yes hN2 rfl)
  obtain ⟨g6, hq6⟩ : ∃ b, decide (m0 = (n : Int)) = b := ⟨_, rfl⟩
  rw [show ([m0] : List Int).length = 1 from rfl]
  refine TW.skip ?_
  refine TQ.thenN (hY30 _ _ ?_)
  refine TW.seq fun Y33 hY33 => ?_
  refine TW.seq fun Y34 hY34 => ?_
  refine TW.join [(130, .bool (!r9 || !g6))] ?_ (fun hJ3 => ?_)
  refine TQ.thenN (hY34 _ _ ?_)
  refine TW.cond rfl (fun hc8 => ?_) (fun hc8 => ?_)
  try simp only [zcb9] at hc8
  have hVe : V = ((n : Int) + 1, 104, ct s) := by
    rw [hVo, if_neg]
    rintro ⟨h1, h2⟩
    rcases hc8 with h | h
    have h3 : r9 = false := by simpa using h
    rw [h3] at hr9
    exact of_decide_eq_false hr9 h1
    have h3 : g6 = false := by simpa using h
    rw [h3] at hq6
    exact of_decide_eq_false hq6 h2
  refine TW.seq fun Y35 hY35 => TW.region ?_
  refine TL.p Pu.mv ?_
  refine TL.p Pu.as ?_
  refine TL.p Pu.as ?_
  refine TL.nil (TQ.thenN (hY35 _ _ ?_))
  refine TW.ret ?_
  refine TQ.thenR ?_
  refine TQ.thenR ?_
  refine TQ.blkR ?_
  refine TQ.thenR ?_
  refine TQ.thenR ?_
  refine TQ.blkR ?_
  refine TQ.thenR ?_
  refine TQ.ret Tryz.results15 rfl ((.tmp rfl (.tmp rfl .nil))) ?_
  first
  | exact fun w hw => ⟨⟨((_, _), s2), UnR.err (hVV.trans hVe) (by decide) s2⟩, rfl, hw.sub (KSub.cons pk9 KSub.nil)⟩
  | exact fun w hw => ⟨⟨((_, _), s), UnR.err (hVV.trans hVe) (by decide) s⟩, rfl, hw.sub (KSub.cons pk9 KSub.nil)⟩
  | exact fun w hw => ⟨⟨((0, 0), s), UnR.fin (hVV.trans hVe)⟩, rfl, hw.sub (KSub.cons pk9 KSub.nil)⟩
  | trace_state
  try simp only [zcb9] at hc8
  have hVe : V = (0, 0, ct s) := by
    obtain ⟨h1, h2⟩ := hc8
    have h1' : r9 = true := by simpa using h1
    have h2' : g6 = true := by simpa using h2
    rw [h1'] at hr9
    rw [h2'] at hq6
    rw [hVo, if_pos ⟨of_decide_eq_true hr9, of_decide_eq_true hq6⟩]
  refine TW.skip ?_
  refine TQ.thenN (hY33 _ _ ?_)
  refine TW.seq fun Y36 hY36 => TW.region ?_
  refine TL.p Pu.as ?_
  refine TL.p Pu.as ?_
  refine TL.nil (TQ.thenN (hY36 _ _ ?_))
  refine TW.ret ?_
  refine TQ.thenR ?_
  refine TQ.blkR ?_
  refine TQ.thenR ?_
  refine TQ.thenR ?_
  refine TQ.blkR ?_
  refine TQ.thenR ?_
  refine TQ.ret Tryz.results15 rfl ((.tmp rfl (.tmp rfl .nil))) ?_
  first
  | exact fun w hw => ⟨⟨((_, _), s2), UnR.err (hVV.trans hVe) (by decide) s2⟩, rfl, hw.sub (KSub.cons pk9 KSub.nil)⟩
  | exact fun w hw => ⟨⟨((_, _), s), UnR.err (hVV.trans hVe) (by decide) s⟩, rfl, hw.sub (KSub.cons pk9 KSub.nil)⟩
  | exact fun w hw => ⟨⟨((0, 0), s), UnR.fin (hVV.trans hVe)⟩, rfl, hw.sub (KSub.cons pk9 KSub.nil)⟩
  | trace_state
  refine TW.region ?_
  refine TL.p Pu.mv ?_
  refine TL.p Pu.no ?_
  refine TL.p Pu.mv ?_
  refine TL.guard (t := 123) rfl (fun hg1 => ?_) (fun hg1 => ?_)
  refine TL.gs ?_
  refine TL.gs ?_
  refine TL.gs ?_
  refine TL.gs ?_
  refine TL.gs ?_
  refine TL.gs ?_
  refine TL.p Pu.kt ?_
  refine TL.nil ?_
  exact TQ.sub (by repeat (first | exact trivial | refine ⟨rfl, ?_⟩ | refine ⟨trivial, ?_⟩ | refine ⟨(by show some (Value.bool _) = some (Value.bool _); first | (simp [hg1]; done) | (refine congrArg (fun z => some (Value.bool z)) (Bool.eq_iff_iff.2 ?_); simp [hg1]; omega)), ?_⟩)) ks9 hJ3
  refine TL.gd Pu.mv ?_
  refine TL.gd (Pu.el (q := 0) ty_et42 (hk := rfl)) ?_
  refine TL.gd (Pu.iv (a := ([m0] : List Int).getD 0 0) (b := m0) (Pu.ld ty_sc3) rfl) ?_
  refine TL.gd Pu.mv ?_
  refine TL.gd (Pu.iv (b := (n : Int)) Pu.sb (by omega)) ?_
  refine TL.gd (Pu.bv (b' := !g6) Pu.ne (congrArg Bool.not hq6)) ?_
  refine TL.p Pu.kf ?_
  refine TL.nil ?_
  exact TQ.sub (by repeat (first | exact trivial | refine ⟨rfl, ?_⟩ | refine ⟨trivial, ?_⟩ | refine ⟨(by show some (Value.bool _) = some (Value.bool _); first | (simp [hg1]; done) | (refine congrArg (fun z => some (Value.bool z)) (Bool.eq_iff_iff.2 ?_); simp [hg1]; omega)), ?_⟩)) ks9 hJ3
  refine TW.region ?_
  refine TL.p Pu.mv ?_
  refine TL.p Pu.no ?_
  refine TL.p Pu.mv ?_
  refine TL.guard (t := 108) rfl (fun hg2 => ?_) (fun hg2 => ?_)
  refine TL.gs ?_
  refine TL.gs ?_
  refine TL.gs ?_
  refine TL.p Pu.kt ?_
  refine TL.p Pu.mv ?_
  refine TL.gs ?_
  refine TL.gs ?_
  refine TL.gs ?_
  refine TL.gs ?_
  refine TL.gs ?_
  refine TL.p Pu.kt ?_
  refine TL.nil ?_
  exact TQ.sub (by repeat (first | exact trivial | refine ⟨rfl, ?_⟩ | refine ⟨trivial, ?_⟩ | refine ⟨(by show some (Value.bool _) = some (Value.bool _); first | (simp [hg2]; done) | (refine congrArg (fun z => some (Value.bool z)) (Bool.eq_iff_iff.2 ?_); simp [hg2]; omega)), ?_⟩)) ks9 hJ2
  refine TL.gd Pu.mv ?_
  refine TL.gd (Pu.ln Tryz.underlying42) ?_
  refine TL.gd (Pu.bv (b' := !g4) Pu.ne (congrArg Bool.not hq4)) ?_
  refine TL.p Pu.kf ?_
  refine TL.p Pu.mv ?_
  refine TL.guard (t := 113) rfl (fun hg3 => ?_) (fun hg3 => ?_)
  refine TL.gs ?_
  refine TL.gs ?_
  refine TL.gs ?_
  refine TL.gs ?_
  refine TL.gs ?_
  refine TL.p Pu.kt ?_
  refine TL.nil ?_
  exact TQ.sub (by repeat (first | exact trivial | refine ⟨rfl, ?_⟩ | refine ⟨trivial, ?_⟩ | refine ⟨(by show some (Value.bool _) = some (Value.bool _); first | (simp [hg2, hg3]; done) | (refine congrArg (fun z => some (Value.bool z)) (Bool.eq_iff_iff.2 ?_); simp [hg2, hg3]; omega)), ?_⟩)) ks9 hJ2
  refine TL.gd Pu.mv ?_
  refine TL.gd Pu.ad ?_
  refine TL.gd Pu.mv ?_
  refine TL.gd (Pu.sln Tryz.underlying9) ?_
  refine TL.gd (Pu.bv Pu.lt hq5) ?_
  refine TL.p Pu.kf ?_
  refine TL.nil ?_
  exact TQ.sub (by repeat (first | exact trivial | refine ⟨rfl, ?_⟩ | refine ⟨trivial, ?_⟩ | refine ⟨(by show some (Value.bool _) = some (Value.bool _); first | (simp [hg2, hg3]; done) | (refine congrArg (fun z => some (Value.bool z)) (Bool.eq_iff_iff.2 ?_); simp [hg2, hg3]; omega)), ?_⟩)) ks9 hJ2
  try simp only [zcb9] at hc6
  have hfE : f ≠ [69] := by rw [hc6] at hvE; exact of_decide_eq_false hvE
  have hf0 : f ≠ [] := fun e => he (by rw [hwx, e]; simp)
  have hTk : V = match addL isLog (ct s) (f :: l0) with
      | none => ((n : Int) + 1, 103, ct s)
      | some c' => if kk = (ckL σ a : Int) then rdF isLog R.length c' (ckL (ckL σ a) (32 :: z ++ [10])) (n + 1) R else ((n : Int) + 1, 104, ct s) := by
    rw [← hV1]
    exact v_take hx10 hz hws hkv hf0 hfE
  refine TW.skip ?_
  refine TQ.thenN (hY27 _ _ ?_)
  refine TW.seq fun Y37 hY37 => ?_
  refine TW.seq fun Y38 hY38 => TW.region ?_
  refine TL.p Pu.mv ?_
  refine TL.p Pu.mv ?_
  refine TL.p Pu.mv ?_
  refine TL.p Pu.mv ?_
  refine TL.p (Pu.ln Tryz.underlying80) ?_
  refine TL.p Pu.sb ?_
  refine TL.p (Pu.sh ty_et80 (q := l0.length + 1) (hk := by omega)) ?_
  refine TL.call rfl (enters Tryz.func34 rfl rfl) (M := [φ s]) (Pick.perm pk9) rfl (fun w hw => by
      have hw9 := hw.sub (L := [φ s]) (KSub.cons pk9 KSub.nil)
      have hap := (hw.sub (L := [φ s] ++ [.own A L.length c 85 2 (mkT L)]) (KSub.cons pk9 (KSub.cons pk9 KSub.nil))).apartO (A := A) (n := L.length) (c := c) (E := 85) (sz := 2) (r := mkT L) (by simp)
      exact hAd s f l0 L (l0.length + 1) c A w rfl (by omega) hWd hct hw9.self ((OwnR.rdr (hw.own pk9)).less (by omega)) hap) ?_
  rintro ⟨⟨bt, s2⟩, htk⟩
  dsimp only at htk ⊢
  simp only [List.cons_append, List.nil_append]
  refine TL.p Pu.no ?_
  refine TL.nil (TQ.thenN (hY38 _ _ ?_))
  refine TW.cond rfl (fun hc9 => ?_) (fun hc9 => ?_)
  try simp only [zcb9] at hc9
  have hVe : V = ((n : Int) + 1, 103, ct s) := by
    have hbt : bt = false := by simpa using hc9
    subst hbt
    rw [hTk, htk.no]
  refine TW.seq fun Y39 hY39 => TW.region ?_
  refine TL.p Pu.mv ?_
  refine TL.p Pu.as ?_
  refine TL.p Pu.as ?_
  refine TL.nil (TQ.thenN (hY39 _ _ ?_))
  refine TW.ret ?_
  refine TQ.thenR ?_
  refine TQ.blkR ?_
  refine TQ.thenR ?_
  refine TQ.thenR ?_
  refine TQ.blkR ?_
  refine TQ.thenR ?_
  refine TQ.ret Tryz.results15 rfl ((.tmp rfl (.tmp rfl .nil))) ?_
  first
  | exact fun w hw => ⟨⟨((_, _), s2), UnR.err (hVV.trans hVe) (by decide) s2⟩, rfl, hw.sub (KSub.cons pk9 KSub.nil)⟩
  | exact fun w hw => ⟨⟨((_, _), s), UnR.err (hVV.trans hVe) (by decide) s⟩, rfl, hw.sub (KSub.cons pk9 KSub.nil)⟩
  | exact fun w hw => ⟨⟨((0, 0), s), UnR.fin (hVV.trans hVe)⟩, rfl, hw.sub (KSub.cons pk9 KSub.nil)⟩
  | trace_state
  try simp only [zcb9] at hc9
  have hbt : bt = true := by simpa using hc9
  subst hbt
  refine TW.skip ?_
  refine TQ.thenN (hY37 _ _ ?_)
  refine TW.seq fun Y40 hY40 => ?_
  refine TW.seq fun Y41 hY41 => TW.region ?_
  refine TL.p Pu.mv ?_
  refine TL.p Pu.no ?_
  refine TL.nil (TQ.thenN (hY41 _ _ ?_))
  refine TW.cond rfl (fun hc10 => ?_) (fun hc10 => ?_)
  try simp only [zcb9] at hc10
  have hVe : V = ((n : Int) + 1, 104, ct s) := by
    have h3 : r9 = false := by simpa using hc10
    rw [h3] at hr9
    rw [hTk, htk.yes]
    exact if_neg (of_decide_eq_false hr9)
  refine TW.seq fun Y42 hY42 => TW.region ?_
  refine TL.p Pu.mv ?_
  refine TL.p Pu.as ?_
  refine TL.p Pu.as ?_
  refine TL.nil (TQ.thenN (hY42 _ _ ?_))
  refine TW.ret ?_
  refine TQ.thenR ?_
  refine TQ.blkR ?_
  refine TQ.thenR ?_
  refine TQ.thenR ?_
  refine TQ.blkR ?_
  refine TQ.thenR ?_
  refine TQ.ret Tryz.results15 rfl ((.tmp rfl (.tmp rfl .nil))) ?_
  first
  | exact fun w hw => ⟨⟨((_, _), s2), UnR.err (hVV.trans hVe) (by decide) s2⟩, rfl, hw.sub (KSub.cons pk9 KSub.nil)⟩
  | exact fun w hw => ⟨⟨((_, _), s), UnR.err (hVV.trans hVe) (by decide) s⟩, rfl, hw.sub (KSub.cons pk9 KSub.nil)⟩
  | exact fun w hw => ⟨⟨((0, 0), s), UnR.fin (hVV.trans hVe)⟩, rfl, hw.sub (KSub.cons pk9 KSub.nil)⟩
  | trace_state
  try simp only [zcb9] at hc10
  have hVn : V = rdF isLog R.length (ct s2) (ckL (ckL σ a) (32 :: z ++ [10])) (n + 1) R := by
    have h3 : r9 = true := by simpa using hc10
    rw [h3] at hr9
    rw [hTk, htk.yes]
    exact if_pos (of_decide_eq_true hr9)
  refine TW.skip ?_
  refine TQ.thenN (hY40 _ _ ?_)
  refine TW.seq fun Y43 hY43 => TW.region ?_
  refine TL.p Pu.mv ?_
  refine TL.p Pu.ad ?_
  refine TL.p Pu.as ?_
  refine TL.nil (TQ.thenN (hY43 _ _ ?_))
  refine TW.seq fun Y44 hY44 => TW.region ?_
  refine TL.p Pu.mv ?_
  refine TL.p Pu.mv ?_
  refine TL.p (Pu.sln Tryz.underlying9) ?_
  refine TL.p Pu.eq ?_
  refine TL.nil (TQ.thenN (hY44 _ _ ?_))
  refine TW.cond rfl (fun hc11 => ?_) (fun hc11 => ?_)
  try simp only [zcb9] at hc11
  have hVe : V = ((n : Int) + 1 + 1, 103, ct s2) := by
    have hR0 : R = [] := by rw [← hR]; exact List.drop_eq_nil_of_le (by omega)
    rw [hVn, hR0]
    exact v_no (by simp)
  refine TW.seq fun Y45 hY45 => TW.region ?_
  refine TL.p Pu.mv ?_
  refine TL.p Pu.ad ?_
  refine TL.p Pu.as ?_
  refine TL.p Pu.as ?_
  refine TL.nil (TQ.thenN (hY45 _ _ ?_))
  refine TW.ret ?_
  refine TQ.blkR ?_
  refine TQ.thenR ?_
  refine TQ.thenR ?_
  refine TQ.blkR ?_
  refine TQ.thenR ?_
  refine TQ.ret Tryz.results15 rfl ((.tmp rfl (.tmp rfl .nil))) ?_
  first
  | exact fun w hw => ⟨⟨((_, _), s2), UnR.err (hVV.trans hVe) (by decide) s2⟩, rfl, hw.sub (KSub.cons pk9 KSub.nil)⟩
  | exact fun w hw => ⟨⟨((_, _), s), UnR.err (hVV.trans hVe) (by decide) s⟩, rfl, hw.sub (KSub.cons pk9 KSub.nil)⟩
  | exact fun w hw => ⟨⟨((0, 0), s), UnR.fin (hVV.trans hVe)⟩, rfl, hw.sub (KSub.cons pk9 KSub.nil)⟩
  | trace_state
  try simp only [zcb9] at hc11
  refine TW.skip ?_
  refine TQ.blkN ?_
  refine TQ.thenN (hY10 _ _ ?_)
  refine TW.region ?_
  refine TL.p Pu.mv ?_
  refine TL.p Pu.ad ?_
  refine TL.p Pu.as ?_
  refine TL.nil ?_
  refine TQ.thenN (hZ0 (n + 1) (p + k + 1) s2 _ _ ?_ ?_ fs9 ?_)
  refine ⟨?_, by omega, by omega, .inr (by omega), tk_ok htk.yes hct⟩
  rw [hckn, hR, hVn]
  omega
  exact ks9
  refine TW.region ?_
  refine TL.p Pu.mv ?_
  refine TL.p Pu.mv ?_
  refine TL.p (Pu.sln Tryz.underlying9) ?_
  refine TL.p (Pu.bv Pu.lt hq0) ?_
  refine TL.p Pu.mv ?_
  refine TL.guard (t := 29) rfl (fun hg4 => ?_) (fun hg4 => ?_)
  refine TL.gd Pu.mv ?_
  refine TL.gd Pu.mv ?_
  refine TL.gd (Pu.six (k := p + k) Tryz.underlying9 (hgu (by assumption)) (hk := Int.toNat_natCast _)) ?_
  refine TL.gd (Pu.bv (b' := !g1) Pu.ne (congrArg Bool.not hq1)) ?_
  refine TL.p Pu.kt ?_
  refine TL.nil ?_
  exact TQ.sub (by repeat (first | exact trivial | refine ⟨rfl, ?_⟩ | refine ⟨trivial, ?_⟩ | refine ⟨(by show some (Value.bool _) = some (Value.bool _); first | (simp [hg4]; done) | (refine congrArg (fun z => some (Value.bool z)) (Bool.eq_iff_iff.2 ?_); simp [hg4]; omega)), ?_⟩)) ks9 hJ1
  refine TL.gs ?_
  refine TL.gs ?_
  refine TL.gs ?_
  refine TL.gs ?_
  refine TL.p Pu.kf ?_
  refine TL.nil ?_
  exact TQ.sub (by repeat (first | exact trivial | refine ⟨rfl, ?_⟩ | refine ⟨trivial, ?_⟩ | refine ⟨(by show some (Value.bool _) = some (Value.bool _); first | (simp [hg4]; done) | (refine congrArg (fun z => some (Value.bool z)) (Bool.eq_iff_iff.2 ?_); simp [hg4]; omega)), ?_⟩)) ks9 hJ1
  try simp only [zcb9] at hc1
  have hn00 : n = 0 := by omega
  subst hn00
  have hVe : V = (1, 103, ct s) := by rw [← hV1]; exact v_no (by rw [List.drop_eq_nil_of_le (by omega)]; simp)
  refine TW.exit ?_
  refine TQ.thenX ?_
  refine TQ.thenX ?_
  refine TQ.blkX ?_
  refine TQ.thenN (hY6 _ _ ?_)
  refine TW.seq fun Y46 hY46 => TW.region ?_
  refine TL.p Pu.as ?_
  refine TL.p Pu.as ?_
  refine TL.nil (TQ.thenN (hY46 _ _ ?_))
  refine TW.ret ?_
  refine TQ.ret Tryz.results15 rfl ((.tmp rfl (.tmp rfl .nil))) ?_
  first
  | exact fun w hw => ⟨⟨((_, _), s2), UnR.err (hVV.trans hVe) (by decide) s2⟩, rfl, hw.sub (KSub.cons pk9 KSub.nil)⟩
  | exact fun w hw => ⟨⟨((_, _), s), UnR.err (hVV.trans hVe) (by decide) s⟩, rfl, hw.sub (KSub.cons pk9 KSub.nil)⟩
  | exact fun w hw => ⟨⟨((0, 0), s), UnR.fin (hVV.trans hVe)⟩, rfl, hw.sub (KSub.cons pk9 KSub.nil)⟩
  | trace_state
end
end Go.Proofs.YtfgnbkegdjkdmaaGreatDoor
namespace Go.Proofs.YtfgnbkegdjkdmaaGreatDoor
set_option linter.all false
set_option linter.unusedVariables false
set_option linter.unusedSimpArgs false
open Go.RowKit Go.Lib
theorem addsB {t : List UInt8} (b : Nat) (ht : t.length ≤ 40000) : AddsK (fun S => bun (bkN b S)) Bk.cont false b t := by
 intro s f l0 M n cp A w hn hl hW hct hM hR hA
 rw [feet_bun] at hA
 exact bun_call (rAddB_any ht hn hl hW hct (unbun1 hM) hR hA)
theorem addsG {t : List UInt8} (b : Nat) (ht : t.length ≤ 40000) : AddsK (fun S => bun (lgN b S)) Lg.cont true b t := by
 intro s f l0 M n cp A w hn hl hW hct hM hR hA
 rw [feet_bun] at hA
 exact bun_call (rAddG_any ht hn hl hW hct (unbun1 hM) hR hA)
set_option maxRecDepth 100000 in
set_option maxHeartbeats 4000000 in
theorem rBook_any {t : List UInt8} (ht : t.length ≤ 40000) (w : World) : CallsK Tryz.prog 5 #[sv t] [] w { x : (Int × Int) × Bk // RdR9 Bk.cont (rdW false t) x }
  (fun x => .tuple #[.agg #[.slice x.1.2.R x.1.2.rows.length x.1.2.cr, .slice x.1.2.L x.1.2.lets.length x.1.2.cl], .int .i64 x.1.1.1, .int .i64 x.1.1.2]) (fun x => bkO x.1.2) := by
 refine K_enter (S := []) (K := []) Tryz.func5 rfl Tryz.ntmps5 rfl (Sat.start _) ?_
 refine TW.seq fun Y1 hY1 => TW.region ?_
 refine TL.m (Mk.al ty_zr25) ?_
 intro b1
 refine TL.p Pu.as ?_
 refine TL.p Pu.as ?_
 refine TL.nil (TQ.thenN (hY1 _ _ ?_))
 refine TW.seq fun Y2 hY2 => TW.region ?_
 refine TL.p Pu.bd ?_
 refine TL.m Mk.bx ?_
 intro b2
 refine TL.p Pu.as ?_
 refine TL.nil (TQ.thenN (hY2 _ _ ?_))
 refine TW.seq fun Y3 hY3 => ?_
 refine TW.seq fun Y4 hY4 => TW.region ?_
 refine TL.p Pu.mv ?_
 refine TL.p Pu.mv ?_
 refine TL.subK (K' := bkN b2 bk0 ++ [.blk b1 25 [.slice none 0 0, .slice none 0 0]]) (KSub.cons pk9 (KSub.nilOwn (KSub.nilOwn (KSub.cons pk9 KSub.nil)))) ?_
 refine TL.bun ?_
 refine TL.call rfl (enters Tryz.func15 rfl rfl) (M := [bun (bkN b2 bk0)]) (List.Perm.refl _) rfl (fun w hw => by
   exact read_any (φ := fun S => bun (bkN b2 S)) (addsB b2 ht) rfl ht (hw.sub (KSub.cons pk9 KSub.nil)).self) ?_
 rintro ⟨⟨⟨ln, er⟩, S⟩, hx⟩
 dsimp only
 refine TL.unb (K1 := bkN b2 S) pk9 ?_
 refine TL.p Pu.mv ?_
 refine TL.p Pu.ex ?_
 refine TL.p Pu.ex ?_
 refine TL.p Pu.as ?_
 refine TL.p Pu.as ?_
 refine TL.nil (TQ.thenN (hY4 _ _ ?_))
 refine TW.seq fun Y5 hY5 => TW.region ?_
 refine TL.p Pu.mv ?_
 refine TL.p Pu.ne ?_
 refine TL.nil (TQ.thenN (hY5 _ _ ?_))
 refine TW.cond rfl (fun hc0 => ?_) (fun hc0 => ?_)
 try simp only [zcb9] at hc0
 refine TW.seq fun Y6 hY6 => TW.region ?_
 refine TL.p Pu.bd ?_
 refine TL.p Pu.mv ?_
 refine TL.p Pu.mv ?_
 first | refine TL.st ty_sz25 ?_ | refine TL.se ty_sz25 ?_
 refine TL.p Pu.as ?_
 refine TL.p Pu.as ?_
 refine TL.nil (TQ.thenN (hY6 _ _ ?_))
 refine TW.ret ?_
 refine TQ.thenR ?_
 refine TQ.ret Tryz.results5 rfl ((RV.cs ty_ag25 (.tmp rfl (.tmp rfl .nil)))) ?_
 exact fun w hw => ⟨⟨((ln, er), bk0), RdR9.err hx (by simpa using hc0) rfl⟩, rfl, hw.sub (KSub.nilOwn (KSub.nilOwn KSub.nil))⟩
 try simp only [zcb9] at hc0
 refine TW.skip ?_
 refine TQ.thenN (hY3 _ _ ?_)
 refine TW.seq fun Y7 hY7 => TW.region ?_
 refine TL.p Pu.mv ?_
 refine TL.p (by first | exact Pu.nn | exact Pu.nc) ?_
 refine TL.p (by first | exact Pu.fb ty_fa57_0 | exact Pu.fe ty_fa57_0) ?_
 refine TL.p (Pu.lds ty_ag25) ?_
 first | refine TL.st ty_sz25 ?_ | refine TL.se ty_sz25 ?_
 refine TL.p Pu.as ?_
 refine TL.p Pu.as ?_
 refine TL.nil (TQ.thenN (hY7 _ _ ?_))
 refine TW.ret ?_
 refine TQ.ret Tryz.results5 rfl ((RV.cs ty_ag25 (.tmp rfl (.tmp rfl .nil)))) ?_
 exact fun w hw => ⟨⟨((0, 0), S), RdR9.ok hx (by simpa using hc0)⟩, rfl, hw.sub (KSub.cons pk9 (KSub.cons pk9 KSub.nil))⟩
set_option maxRecDepth 100000 in
set_option maxHeartbeats 4000000 in
theorem rLog_any {t : List UInt8} (ht : t.length ≤ 40000) (w : World) : CallsK Tryz.prog 7 #[sv t] [] w { x : (Int × Int) × Lg // RdR9 Lg.cont (rdW true t) x }
  (fun x => .tuple #[.slice x.1.2.A x.1.2.es.length x.1.2.c, .int .i64 x.1.1.1, .int .i64 x.1.1.2]) (fun x => lgO x.1.2) := by
 refine K_enter (S := []) (K := []) Tryz.func7 rfl Tryz.ntmps7 rfl (Sat.start _) ?_
 refine TW.seq fun Y1 hY1 => TW.region ?_
 refine TL.p Pu.as ?_
 refine TL.p Pu.as ?_
 refine TL.p Pu.as ?_
 refine TL.nil (TQ.thenN (hY1 _ _ ?_))
 refine TW.seq fun Y2 hY2 => TW.region ?_
 refine TL.p Pu.bd ?_
 refine TL.m Mk.bx ?_
 intro b1
 refine TL.p Pu.as ?_
 refine TL.nil (TQ.thenN (hY2 _ _ ?_))
 refine TW.seq fun Y3 hY3 => ?_
 refine TW.seq fun Y4 hY4 => TW.region ?_
 refine TL.p Pu.mv ?_
 refine TL.p Pu.mv ?_
 refine TL.subK (K' := ([] : List Fact) ++ [.blk b1 57 [.slice none 0 0, .slice none 0 0, .slice none 0 0, .bool true]]) (KSub.cons pk9 KSub.nil) ?_
 refine TL.bun ?_
 refine TL.subK (K' := lgN b1 lg0 ++ []) (KSub.cons pk9 (KSub.nilOwn (KSub.cons pk9 KSub.nil))) ?_
 refine TL.bun ?_
 refine TL.call rfl (enters Tryz.func15 rfl rfl) (M := [bun (lgN b1 lg0)]) (List.Perm.refl _) rfl (fun w hw => by
   exact read_any (φ := fun S => bun (lgN b1 S)) (addsG b1 ht) rfl ht hw.self) ?_
 rintro ⟨⟨⟨ln, er⟩, S⟩, hx⟩
 dsimp only
 refine TL.unb (K1 := lgN b1 S) pk9 ?_
 refine TL.p Pu.mv ?_
 refine TL.p Pu.ex ?_
 refine TL.p Pu.ex ?_
 refine TL.p Pu.as ?_
 refine TL.p Pu.as ?_
 refine TL.nil (TQ.thenN (hY4 _ _ ?_))
 refine TW.seq fun Y5 hY5 => TW.region ?_
 refine TL.p Pu.mv ?_
 refine TL.p Pu.ne ?_
 refine TL.nil (TQ.thenN (hY5 _ _ ?_))
 refine TW.cond rfl (fun hc0 => ?_) (fun hc0 => ?_)
 try simp only [zcb9] at hc0
 refine TW.seq fun Y6 hY6 => TW.region ?_
 refine TL.p Pu.mv ?_
 refine TL.p Pu.mv ?_
 refine TL.p Pu.as ?_
 refine TL.p Pu.as ?_
 refine TL.p Pu.as ?_
 refine TL.nil (TQ.thenN (hY6 _ _ ?_))
 refine TW.ret ?_
 refine TQ.thenR ?_
 refine TQ.ret Tryz.results7 rfl ((.tmp rfl (.tmp rfl (.tmp rfl .nil)))) ?_
 exact fun w hw => ⟨⟨((ln, er), lg0), RdR9.err hx (by simpa using hc0) rfl⟩, rfl, by
  have h9 := hw.sub (L := [.own none 0 0 62 3 (enT [])]) (KSub.nilOwn KSub.nil)
  exact (Sat.bun (K1 := []) (K := [.own none 0 0 62 3 (enT [])]) h9).sub (KSub.cons pk9 (KSub.cons pk9 KSub.nil))⟩
 try simp only [zcb9] at hc0
 refine TW.skip ?_
 refine TQ.thenN (hY3 _ _ ?_)
 refine TW.seq fun Y7 hY7 => TW.region ?_
 refine TL.p Pu.mv ?_
 refine TL.p (by first | exact Pu.nn | exact Pu.nc) ?_
 refine TL.p (by first | exact Pu.fb ty_fa57_1 | exact Pu.fe ty_fa57_1) ?_
 refine TL.p (Pu.ld ty_sc31) ?_
 refine TL.p Pu.as ?_
 refine TL.p Pu.as ?_
 refine TL.p Pu.as ?_
 refine TL.nil (TQ.thenN (hY7 _ _ ?_))
 refine TW.ret ?_
 refine TQ.ret Tryz.results7 rfl ((.tmp rfl (.tmp rfl (.tmp rfl .nil)))) ?_
 exact fun w hw => ⟨⟨((0, 0), S), RdR9.ok hx (by simpa using hc0)⟩, rfl, hw.sub (KSub.cons pk9 (KSub.cons pk9 KSub.nil))⟩
end Go.Proofs.YtfgnbkegdjkdmaaGreatDoor
