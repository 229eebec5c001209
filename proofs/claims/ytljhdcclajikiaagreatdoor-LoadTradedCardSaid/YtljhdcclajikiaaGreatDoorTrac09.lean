/-
  Part 9 of the proof of loadTraded_holds: declarations of several texts, in build order. No condition on a program.
-/
import Derived.Test.YtljhdcclajikiaaGreatDoorTrac08
import Derived.Test.YtljhdcclajikiaaGreatDoorTrac07
namespace Go.Proofs.YtljhdcclajikiaaGreatDoor
set_option linter.all false
set_option linter.unusedVariables false
set_option linter.unusedSimpArgs false
open Go.RowKit
set_option maxRecDepth 100000 in
set_option maxHeartbeats 2000000 in
theorem loadTrade_any {w : World} {A AT Af AP : Option Addr} {np cp m cT nf cf nP cP : Nat} {pk : Nat → Nat → Int} {a : Nat → Nat → Option Addr} {l c : Nat → Nat → Nat} {v : Nat → Nat → Nat → Int} {F : List Int} {P : Nat → Nat → Int} {b : Int}
    (hL : Lay w A AT np m pk a l c v) (hF : RdR w 1 Af nf (iL F)) (hnf : nf = F.length) (hf : nf ≤ 1000) (hPR : RdR w 3 AP nP (fun k => putL (P k))) (hnP : nP ≤ 1000) (hP2 : ∀ k, k < nP → 0 ≤ P k 2) :
    CallsK Tryz.prog 8 #[.slice A np cp, .slice AT m cT, .slice Af nf cf, .slice AP nP cP, .int .i64 b] [] w TRx
      (fun z => .tuple #[.slice z.1.1.1 (tradeN np pk m l v F P nP b) z.1.1.2, .slice z.2.1 (tradeM np pk m l v F P nP b).length z.2.2, .int .i64 (tradeC np pk m l v F P nP b)])
      (fun z => .own z.2.1 (tradeM np pk m l v F P nP b).length z.2.2 3 1 (iL (tradeM np pk m l v F P nP b)) :: tiesX (tradeN np pk m l v F P nP b) (tradeT pk m l v F P nP b) z.1) := by
  refine K_enter (S := []) (K := []) Tryz.func8 rfl Tryz.ntmps8 rfl (Sat.start _) ?_
  refine TW.seq fun Y1 hY1 => ?_
  refine TW.region ?_
  refine TL.m Mk.bx ?_
  intro b1
  refine TL.m Mk.bx ?_
  intro b2
  refine TL.m Mk.bx ?_
  intro b3
  refine TL.m Mk.bx ?_
  intro b4
  refine TL.m Mk.bx ?_
  intro b5
  refine TL.m (Mk.al ty_zr23) ?_
  intro b6
  refine TL.m (Mk.al ty_zr24) ?_
  intro b7
  refine TL.p Pu.as ?_
  refine TL.nil ?_
  refine TQ.thenN (hY1 _ _ ?_)
  refine TW.seq fun Y2 hY2 => ?_
  refine TW.region ?_
  refine TL.p Pu.fn ?_
  refine TL.call rfl (enters Tryz.func27 rfl rfl) (M := [.blk b7 24 [.slice none 0 0], .blk b6 23 [.slice none 0 0]]) (List.Perm.refl _) rfl (fun w hw => by
      have hB1 : Blk w b1 22 #[.slice A np cp] := hw.holds (.blk b1 22 [.slice A np cp]) (by simp)
      have hB2 : Blk w b2 23 #[.slice AT m cT] := hw.holds (.blk b2 23 [.slice AT m cT]) (by simp)
      have hB3 : Blk w b3 24 #[.slice Af nf cf] := hw.holds (.blk b3 24 [.slice Af nf cf]) (by simp)
      have hB4 : Blk w b4 25 #[.slice AP nP cP] := hw.holds (.blk b4 25 [.slice AP nP cP]) (by simp)
      have hB5 : Blk w b5 3 #[.int .i64 b] := hw.holds (.blk b5 3 [.int .i64 b]) (by simp)
      have hnd := hw.nd
      simp [feet, Fact.foot] at hnd
      obtain ⟨hself, hge⟩ := feet_new (M := [.blk b7 24 [.slice none 0 0], .blk b6 23 [.slice none 0 0]]) hw (List.Perm.refl _)
      have hbel := Chg.ext hw.chg
      have m1 : b1 ∉ [b7, b6] := by simp; omega
      have m2 : b2 ∉ [b7, b6] := by simp; omega
      have m3 : b3 ∉ [b7, b6] := by simp; omega
      have m4 : b4 ∉ [b7, b6] := by simp; omega
      have m5 : b5 ∉ [b7, b6] := by simp; omega
      exact trying_any (M := [.blk b7 24 [.slice none 0 0], .blk b6 23 [.slice none 0 0]]) (code := tradeC np pk m l v F P nP b) (fs := []) (cs := [.pointer (some ⟨b1, 0, none⟩), .pointer (some ⟨b2, 0, none⟩), .pointer (some ⟨b5, 0, none⟩), .pointer (some ⟨b3, 0, none⟩), .pointer (some ⟨b4, 0, none⟩), .pointer (some ⟨b6, 0, none⟩), .pointer (some ⟨b7, 0, none⟩)]) (enters Tryz.func28 rfl rfl) hself fun w' hw' =>
        trade1_any (cp := cp) (cT := cT) (cf := cf) (cP := cP) hL hF hnf hf hPR hnP hP2 (old_below hbel hw' hge) hge ((OldB.of_blk (cs := [_]) hB1).sat hw' m1) ((OldB.of_blk (cs := [_]) hB2).sat hw' m2) ((OldB.of_blk (cs := [_]) hB5).sat hw' m5) ((OldB.of_blk (cs := [_]) hB3).sat hw' m3) ((OldB.of_blk (cs := [_]) hB4).sat hw' m4) m1 m2 m5 m3 m4 hw'.self) ?_
  rintro ⟨⟨⟨An, cn⟩, X, D⟩, ⟨Am, cm⟩⟩
  refine TL.perm List.perm_append_comm ?_
  simp only [tradeF, List.cons_append, List.nil_append]
  refine TL.p Pu.as ?_
  refine TL.nil ?_
  refine TQ.thenN (hY2 _ _ ?_)
  refine TW.seq fun Y3 hY3 => ?_
  refine TW.ex0k [] ?_
  refine RG.tk 2 rfl Pu.mv ?_
  refine RG.a2 0 1 rfl rfl (fun X0 hX0 => ?_) (fun X1 hX1 => ?_)
  · refine TL.p (Pu.ld ty_sc23) ?_
    refine TL.nil ?_
    refine TQ.nxt (hX0 _ _ (by repeat (first | exact HasL.nil | refine HasL.cons (by repeat (first | exact Pick.hd | apply Pick.tl)) ?_)) ?_)
    refine RG.a2 1 3 rfl rfl (fun X1 hX1 => ?_) (fun X3 hX3 => ?_)
    · refine TL.p (Pu.ld ty_sc24) ?_
      refine TL.nil ?_
      refine TQ.nxt (hX1 _ _ (by repeat (first | exact HasL.nil | refine HasL.cons (by repeat (first | exact Pick.hd | apply Pick.tl)) ?_)) ?_)
      refine RG.a1 3 rfl (fun X3 hX3 => ?_)
      first | refine TL.st ty_sz23 ?_ | refine TL.se ty_sz23 ?_
      refine TL.nil ?_
      refine TQ.nxt (hX3 _ _ (by repeat (first | exact HasL.nil | refine HasL.cons (by repeat (first | exact Pick.hd | apply Pick.tl)) ?_)) ?_)
      refine RG.a1 4 rfl (fun X4 hX4 => ?_)
      first | refine TL.st ty_sz24 ?_ | refine TL.se ty_sz24 ?_
      refine TL.nil ?_
      refine TQ.nxt (hX4 _ _ (by repeat (first | exact HasL.nil | refine HasL.cons (by repeat (first | exact Pick.hd | apply Pick.tl)) ?_)) ?_)
      refine RG.tk 5 rfl Pu.as ?_
      refine RG.nil ?_ (by kernel_rfl)
      refine TQ.thenN (hY3 _ _ ?_)
      refine TW.ret ?_
      refine TQ.ret Tryz.results8 rfl ((RV.c1 ty_sc23 (RV.c1 ty_sc24 (.tmp rfl .nil)))) ?_
      exact fun w hw => ⟨(((An, cn), X, D), (Am, cm)), rfl, hw.sub (by repeat (first | refine KSub.cons (by repeat (first | exact Pick.hd | apply Pick.tl)) ?_ | exact KSub.refl _ | refine KSub.drop ?_))⟩
    · first | refine TL.st ty_sz23 ?_ | refine TL.se ty_sz23 ?_
      refine TL.nil ?_
      refine TQ.nxt (hX3 _ _ (by repeat (first | exact HasL.nil | refine HasL.cons (by repeat (first | exact Pick.hd | apply Pick.tl)) ?_)) ?_)
      refine RG.a1 1 rfl (fun X1 hX1 => ?_)
      refine TL.p (Pu.ld ty_sc24) ?_
      refine TL.nil ?_
      refine TQ.nxt (hX1 _ _ (by repeat (first | exact HasL.nil | refine HasL.cons (by repeat (first | exact Pick.hd | apply Pick.tl)) ?_)) ?_)
      refine RG.a1 4 rfl (fun X4 hX4 => ?_)
      first | refine TL.st ty_sz24 ?_ | refine TL.se ty_sz24 ?_
      refine TL.nil ?_
      refine TQ.nxt (hX4 _ _ (by repeat (first | exact HasL.nil | refine HasL.cons (by repeat (first | exact Pick.hd | apply Pick.tl)) ?_)) ?_)
      refine RG.tk 5 rfl Pu.as ?_
      refine RG.nil ?_ (by kernel_rfl)
      refine TQ.thenN (hY3 _ _ ?_)
      refine TW.ret ?_
      refine TQ.ret Tryz.results8 rfl ((RV.c1 ty_sc23 (RV.c1 ty_sc24 (.tmp rfl .nil)))) ?_
      exact fun w hw => ⟨(((An, cn), X, D), (Am, cm)), rfl, hw.sub (by repeat (first | refine KSub.cons (by repeat (first | exact Pick.hd | apply Pick.tl)) ?_ | exact KSub.refl _ | refine KSub.drop ?_))⟩
  · refine TL.p (Pu.ld ty_sc24) ?_
    refine TL.nil ?_
    refine TQ.nxt (hX1 _ _ (by repeat (first | exact HasL.nil | refine HasL.cons (by repeat (first | exact Pick.hd | apply Pick.tl)) ?_)) ?_)
    refine RG.a1 0 rfl (fun X0 hX0 => ?_)
    refine TL.p (Pu.ld ty_sc23) ?_
    refine TL.nil ?_
    refine TQ.nxt (hX0 _ _ (by repeat (first | exact HasL.nil | refine HasL.cons (by repeat (first | exact Pick.hd | apply Pick.tl)) ?_)) ?_)
    refine RG.a1 3 rfl (fun X3 hX3 => ?_)
    first | refine TL.st ty_sz23 ?_ | refine TL.se ty_sz23 ?_
    refine TL.nil ?_
    refine TQ.nxt (hX3 _ _ (by repeat (first | exact HasL.nil | refine HasL.cons (by repeat (first | exact Pick.hd | apply Pick.tl)) ?_)) ?_)
    refine RG.a1 4 rfl (fun X4 hX4 => ?_)
    first | refine TL.st ty_sz24 ?_ | refine TL.se ty_sz24 ?_
    refine TL.nil ?_
    refine TQ.nxt (hX4 _ _ (by repeat (first | exact HasL.nil | refine HasL.cons (by repeat (first | exact Pick.hd | apply Pick.tl)) ?_)) ?_)
    refine RG.tk 5 rfl Pu.as ?_
    refine RG.nil ?_ (by kernel_rfl)
    refine TQ.thenN (hY3 _ _ ?_)
    refine TW.ret ?_
    refine TQ.ret Tryz.results8 rfl ((RV.c1 ty_sc23 (RV.c1 ty_sc24 (.tmp rfl .nil)))) ?_
    exact fun w hw => ⟨(((An, cn), X, D), (Am, cm)), rfl, hw.sub (by repeat (first | refine KSub.cons (by repeat (first | exact Pick.hd | apply Pick.tl)) ?_ | exact KSub.refl _ | refine KSub.drop ?_))⟩
end Go.Proofs.YtljhdcclajikiaaGreatDoor
namespace Go.Proofs.YtljhdcclajikiaaGreatDoor
set_option linter.all false
set_option linter.unusedVariables false
set_option linter.unusedSimpArgs false
open Go.RowKit
theorem indexSpan_any {g : FuncId} {fs cs : List Value} {A : Option Addr} {n cp : Nat} {v : Nat → Nat → Int} {p : Nat → Bool} {M : Nat → List Fact} {w : World} (hen : Enters Tryz.prog g) (hn : n ≤ 9223372036854775807)
    (hR : RdR w 2 A n (fun k => spL (v k 0) (v k 1))) (hA : 0 < n → Apart (feet (M 0)) A) (hM : Sat (feet (M 0)) w (M 0) w) (hfe : ∀ k, feet (M k) = feet (M 0))
    (hg : ∀ k, k < n → (∀ j, j < k → p j = false) → ∀ w', Sat (feet (M 0)) w (M k) w' → CallsK Tryz.prog g (fs ++ [Value.agg (spL (v k 0) (v k 1)).toArray] ++ cs).toArray (M k) w' Unit (fun _ => .bool (p k)) (fun _ => M (k + 1))) :
    CallsK Tryz.prog 127 #[.slice A n cp, .func (.func g) fs.toArray cs.toArray] (M 0) w (Fst p n) (fun x => .int .i64 (if x.1 < n then (x.1 : Int) else -1)) (fun x => M (aft n x.1)) := by
  refine K_enter (S := feet (M 0)) (K := M 0) Tryz.func127 rfl Tryz.ntmps127 rfl hM ?_
  refine TW.seq fun Y1 hY1 => ?_
  refine TW.region ?_
  refine TL.p Pu.as ?_
  refine TL.nil ?_
  refine TQ.thenN (hY1 _ _ ?_)
  refine TW.seq fun Y2 hY2 => ?_
  refine TW.seq fun Y3 hY3 => ?_
  refine TW.region ?_
  refine TL.p Pu.mv ?_
  refine TL.p (Pu.ln Tryz.underlying81) ?_
  refine TL.p Pu.mv ?_
  refine TL.nil ?_
  refine TQ.thenN (hY3 _ _ ?_)
  refine TW.block ?_
  refine TW.loop1 (fun (k : Nat) => [(8, .int .i64 (k : Int)), (7, .int .i64 (n : Int)), (0, .slice A n cp), (1, .func (.func g) fs.toArray cs.toArray)]) (fun k => M k) (fun k => k ≤ n ∧ ∀ j, j < k → p j = false) (fun k => n - k) 0 (by repeat (first | exact trivial | refine ⟨rfl, ?_⟩ | refine ⟨trivial, ?_⟩)) ?_ ?_ ?_
  · exact KSub.refl _
  · exact ⟨by omega, fun j hj => by omega⟩
  rintro k ⟨hk, hall⟩ Z0 hZ0
  refine TW.seq fun Y4 hY4 => ?_
  refine TW.region ?_
  refine TL.p Pu.lt ?_
  refine TL.nil ?_
  refine TQ.thenN (hY4 _ _ ?_)
  refine TW.seq fun Y5 hY5 => ?_
  refine TW.cond rfl (fun hc0 => ?_) (fun hc0 => ?_)
  · try simp only [decide_eq_true_eq, decide_eq_false_iff_not, Bool.not_eq_true', Bool.not_eq_false', Bool.and_eq_true, Bool.or_eq_true, Bool.and_eq_false_iff, Bool.or_eq_false_iff, Int.not_lt, Int.not_le] at hc0
    have hkn : k < n := by omega
    have hA := hA (by omega)
    refine TW.skip ?_
    refine TQ.thenN (hY5 _ _ ?_)
    refine TW.seq fun Y6 hY6 => ?_
    refine TW.block ?_
    refine TW.seq fun Y7 hY7 => ?_
    refine TW.region ?_
    refine TL.p Pu.mv ?_
    refine TL.p Pu.as ?_
    refine TL.nil ?_
    refine TQ.thenN (hY7 _ _ ?_)
    refine TW.seq fun Y8 hY8 => ?_
    refine TW.region ?_
    refine TL.p Pu.mv ?_
    refine TL.p Pu.mv ?_
    refine TL.p Pu.mv ?_
    refine TL.p (Pu.el ty_et81) ?_
    refine TL.p (Pu.lds ty_ag47) ?_
    refine TL.cvk rfl rfl hen (by rw [List.append_nil]) (fun w hw => by
        exact hg k (by omega) hall w hw) ?_
    intro _
    refine TL.nil ?_
    refine TQ.thenN (hY8 _ _ ?_)
    refine TW.cond rfl (fun hc1 => ?_) (fun hc1 => ?_)
    · try simp only [decide_eq_true_eq, decide_eq_false_iff_not, Bool.not_eq_true', Bool.not_eq_false', Bool.and_eq_true, Bool.or_eq_true, Bool.and_eq_false_iff, Bool.or_eq_false_iff, Int.not_lt, Int.not_le] at hc1
      refine TW.seq fun Y9 hY9 => ?_
      refine TW.region ?_
      refine TL.p Pu.mv ?_
      refine TL.p Pu.as ?_
      refine TL.nil ?_
      refine TQ.thenN (hY9 _ _ ?_)
      refine TW.ret ?_
      refine TQ.blkR ?_
      refine TQ.thenR ?_
      refine TQ.thenR ?_
      refine TQ.blkR ?_
      refine TQ.thenR ?_
      refine TQ.ret Tryz.results127 rfl ((.tmp rfl .nil)) ?_
      exact fun w hw => ⟨⟨k, by omega, hall, fun _ => hc1⟩, by simp [hkn]; rfl, by simpa [aft, hkn] using hw⟩
    · try simp only [decide_eq_true_eq, decide_eq_false_iff_not, Bool.not_eq_true', Bool.not_eq_false', Bool.and_eq_true, Bool.or_eq_true, Bool.and_eq_false_iff, Bool.or_eq_false_iff, Int.not_lt, Int.not_le] at hc1
      refine TW.skip ?_
      refine TQ.blkN ?_
      refine TQ.thenN (hY6 _ _ ?_)
      refine TW.region ?_
      refine TL.p Pu.ad ?_
      refine TL.p Pu.mv ?_
      refine TL.nil ?_
      refine TQ.thenN (hZ0 (k + 1) _ _ ?_ ?_ (by repeat (first | exact trivial | refine ⟨rfl, ?_⟩ | refine ⟨trivial, ?_⟩)) ?_)
      · refine ⟨by omega, fun j hj => ?_⟩
        by_cases h : j = k
        · subst h; exact hc1
        · exact hall j (by omega)
      · exact (by first | omega | (simp only []; omega) | (simp; omega))
      · rw [List.append_nil]; exact KSub.refl _
  · try simp only [decide_eq_true_eq, decide_eq_false_iff_not, Bool.not_eq_true', Bool.not_eq_false', Bool.and_eq_true, Bool.or_eq_true, Bool.and_eq_false_iff, Bool.or_eq_false_iff, Int.not_lt, Int.not_le] at hc0
    have hkn : k = n := by omega
    refine TW.exit ?_
    refine TQ.thenX ?_
    refine TQ.thenX ?_
    refine TQ.blkX ?_
    refine TQ.thenN (hY2 _ _ ?_)
    refine TW.seq fun Y10 hY10 => ?_
    refine TW.region ?_
    refine TL.p Pu.as ?_
    refine TL.nil ?_
    refine TQ.thenN (hY10 _ _ ?_)
    refine TW.ret ?_
    refine TQ.ret Tryz.results127 rfl ((.tmp rfl .nil)) ?_
    exact fun w hw => ⟨⟨k, by omega, hall, fun h => by omega⟩, by simp [hkn]; rfl, by simpa [aft, hkn] using hw⟩
theorem hasSpan_st {g : FuncId} {fs cs : List Value} {A : Option Addr} {n cp : Nat} {v : Nat → Nat → Int} {p : Nat → Bool} {M : Nat → List Fact} {w : World} (hen : Enters Tryz.prog g) (hn : n ≤ 9223372036854775807)
    (hR : RdR w 2 A n (fun k => spL (v k 0) (v k 1))) (hA : 0 < n → Apart (feet (M 0)) A) (hM : Sat (feet (M 0)) w (M 0) w) (hfe : ∀ k, feet (M k) = feet (M 0))
    (hg : ∀ k, k < n → (∀ j, j < k → p j = false) → ∀ w', Sat (feet (M 0)) w (M k) w' → CallsK Tryz.prog g (fs ++ [Value.agg (spL (v k 0) (v k 1)).toArray] ++ cs).toArray (M k) w' Unit (fun _ => .bool (p k)) (fun _ => M (k + 1))) :
    CallsK Tryz.prog 121 #[.slice A n cp, .func (.func g) fs.toArray cs.toArray] (M 0) w (Fst p n) (fun x => .bool (decide (x.1 < n))) (fun x => M (aft n x.1)) := by
  refine K_enter (S := feet (M 0)) (K := M 0) Tryz.func121 rfl Tryz.ntmps121 rfl hM ?_
  refine TW.seq fun Y1 hY1 => ?_
  refine TW.region ?_
  refine TL.p Pu.as ?_
  refine TL.nil ?_
  refine TQ.thenN (hY1 _ _ ?_)
  refine TW.seq fun Y2 hY2 => ?_
  refine TW.region ?_
  refine TL.p Pu.mv ?_
  refine TL.p Pu.mv ?_
  refine TL.call rfl (enters Tryz.func127 rfl rfl) (by rw [List.append_nil]) rfl (fun w hw => by
      exact indexSpan_any hen hn (hR.sat0 hw hA) hA hw.self hfe (fun k hk hp w' hw' => hg k hk hp w' (hw'.from hw.chg fun _ hb => .inl hb))) ?_
  intro x
  refine TL.p Pu.ge ?_
  refine TL.p Pu.as ?_
  refine TL.nil ?_
  refine TQ.thenN (hY2 _ _ ?_)
  refine TW.ret ?_
  refine TQ.ret Tryz.results121 rfl ((.tmp rfl .nil)) ?_
  exact fun w hw => ⟨x, by by_cases h : x.1 < n <;> simp [retV, h], by simpa using hw⟩
theorem hasSpan_any {g : FuncId} {fs cs : List Value} {A : Option Addr} {n cp : Nat} {v : Nat → Nat → Int} {p : Nat → Bool} {w : World} (hen : Enters Tryz.prog g) (hn : n ≤ 9223372036854775807)
    (hR : RdR w 2 A n (fun k => spL (v k 0) (v k 1))) (hg : ∀ k, k < n → ∀ w', Below w.heap.size w w' → Calls Tryz.prog g (fs ++ [Value.agg (spL (v k 0) (v k 1)).toArray] ++ cs).toArray w' (Ret w' (.bool (p k)))) :
    Calls Tryz.prog 121 #[.slice A n cp, .func (.func g) fs.toArray cs.toArray] w (Ret w (.bool (anyB n p))) :=
  CallsK.retOf (hasSpan_st (M := fun _ => []) hen hn hR (fun _ => Apart.nil) (Sat.start w) (fun _ => rfl) fun k hk _ w' hw' => CallsK.ret (hg k hk w' (Chg.ext hw'.chg))) fun x => by rw [x.any]; rfl
theorem from1_any (x lo hi : Int) (b1 b2 : Nat) (w : World) (h1 : OldB w b1 [.int .i64 lo]) (h2 : OldB w b2 [.int .i64 hi]) :
    Calls Tryz.prog 126 #[.int .i64 x, .pointer (some ⟨b1, 0, none⟩), .pointer (some ⟨b2, 0, none⟩)] w (Ret w (.bool (!inB5 lo hi x))) := by
  refine K_enter (S := []) (K := []) Tryz.func126 rfl Tryz.ntmps126 rfl (Sat.start _) ?_
  refine TW.seq fun Y1 hY1 => ?_
  refine TW.region ?_
  refine TL.p Pu.as ?_
  refine TL.nil ?_
  refine TQ.thenN (hY1 _ _ ?_)
  refine TW.seq fun Y2 hY2 => ?_
  refine TW.join [(4, .bool (decide (x < lo) || decide (hi < x)))] ?_ (fun hJ1 => ?_)
  · refine TQ.thenN (hY2 _ _ ?_)
    refine TW.ret ?_
    refine TQ.ret Tryz.results126 rfl ((.tmp rfl .nil)) ?_
    exact fun w hw => ⟨ret_bool (by unfold inB5; rw [Bool.eq_iff_iff]; simp only [Bool.not_eq_true', Bool.and_eq_false_iff, Bool.or_eq_true, decide_eq_true_eq, decide_eq_false_iff_not]; omega), Chg.ext hw.chg⟩
  refine TW.region ?_
  refine TL.p Pu.mv ?_
  refine TL.p (by first | exact (Pu.ld ty_sc3) | exact (Pu.ldo ty_sc3)) ?_
  refine TL.p Pu.lt ?_
  refine TL.p Pu.mv ?_
  refine TL.guard (t := 8) rfl (fun hg1 => ?_) (fun hg1 => ?_)
  · refine TL.gs ?_
    refine TL.gs ?_
    refine TL.gs ?_
    refine TL.p Pu.kt ?_
    refine TL.p Pu.as ?_
    refine TL.nil ?_
    exact TQ.sub (by repeat (first | exact trivial | refine ⟨rfl, ?_⟩ | refine ⟨trivial, ?_⟩ | refine ⟨(by show some (Value.bool _) = some (Value.bool _); simp [hg1]), ?_⟩)) (by repeat (first | exact KSub.nil | refine KSub.cons (by repeat (first | exact Pick.hd | apply Pick.tl)) ?_)) hJ1
  · refine TL.gd Pu.mv ?_
    refine TL.gd (by first | exact (Pu.ld ty_sc3) | exact (Pu.ldo ty_sc3)) ?_
    refine TL.gd Pu.gt ?_
    refine TL.p Pu.kf ?_
    refine TL.p Pu.as ?_
    refine TL.nil ?_
    exact TQ.sub (by repeat (first | exact trivial | refine ⟨rfl, ?_⟩ | refine ⟨trivial, ?_⟩ | refine ⟨(by show some (Value.bool _) = some (Value.bool _); simp [hg1]), ?_⟩)) (by repeat (first | exact KSub.nil | refine KSub.cons (by repeat (first | exact Pick.hd | apply Pick.tl)) ?_)) hJ1
theorem from_any (lo hi : Int) {A : Option Addr} {n cp : Nat} {v : Nat → Int} {w : World} (hn : n ≤ 9223372036854775807) (hR : RdR w 1 A n (fun k => [.int .i64 (v k)])) :
    Calls Tryz.prog 120 #[.int .i64 lo, .int .i64 hi, .slice A n cp] w (Ret w (.bool (allB n fun k => inB5 lo hi (v k)))) := by
  refine K_enter (S := []) (K := []) Tryz.func120 rfl Tryz.ntmps120 rfl (Sat.start _) ?_
  refine TW.seq fun Y1 hY1 => ?_
  refine TW.region ?_
  refine TL.m Mk.bx ?_
  intro b1
  refine TL.m Mk.bx ?_
  intro b2
  refine TL.p Pu.as ?_
  refine TL.nil ?_
  refine TQ.thenN (hY1 _ _ ?_)
  refine TW.seq fun Y2 hY2 => ?_
  refine TW.region ?_
  refine TL.p Pu.mv ?_
  refine TL.p Pu.fn ?_
  refine TL.cr rfl (enters Tryz.func70 rfl rfl) (fun w hw => by
      have h1 := OldB.of_blk (hw.holds (.blk b1 3 [.int .i64 lo]) (by simp))
      have h2 := OldB.of_blk (hw.holds (.blk b2 3 [.int .i64 hi]) (by simp))
      exact hasInt_any (fs := []) (p := fun k => !inB5 lo hi (v k)) (enters Tryz.func126 rfl rfl) hn (hR.sat hw Apart.nil) fun k hk w' hb => from1_any _ _ _ b1 b2 w' (h1.ext hb) (h2.ext hb)) ?_
  refine TL.p Pu.no ?_
  refine TL.p Pu.as ?_
  refine TL.nil ?_
  refine TQ.thenN (hY2 _ _ ?_)
  refine TW.ret ?_
  refine TQ.ret Tryz.results120 rfl ((.tmp rfl .nil)) ?_
  exact fun w hw => ⟨ret_bool (by rw [not_anyB]; simp), Chg.ext hw.chg⟩
theorem fromOne_any (lo hi x : Int) {b E : Nat} {w : World} (h : Blk w b E #[.int .i64 x]) :
    Calls Tryz.prog 120 #[.int .i64 lo, .int .i64 hi, .slice (some ⟨b, 0, none⟩) 1 1] w (Ret w (.bool (inB5 lo hi x))) := by
  have := from_any lo hi (n := 1) (cp := 1) (v := fun _ => x) (by decide) (RdR.blk (cs := [.int .i64 x]) h rfl (fun _ _ => rfl))
  simpa [allB] using this
theorem fromTwo_any (lo hi x y : Int) {b E : Nat} {w : World} (h : Blk w b E #[.int .i64 x, .int .i64 y]) :
    Calls Tryz.prog 120 #[.int .i64 lo, .int .i64 hi, .slice (some ⟨b, 0, none⟩) 2 2] w (Ret w (.bool (inB5 lo hi x && inB5 lo hi y))) := by
  have := from_any lo hi (n := 2) (cp := 2) (v := fun k => if k = 0 then x else y) (by decide) (RdR.blk (cs := [.int .i64 x, .int .i64 y]) h rfl (fun _ _ => rfl))
  simpa [allB, List.range_succ] using this
theorem ordered1_any (x y lo hi : Int) (b1 b2 : Nat) (w : World) (h1 : OldB w b1 [.int .i64 lo]) (h2 : OldB w b2 [.int .i64 hi]) :
    Calls Tryz.prog 122 #[.agg (spL x y).toArray, .pointer (some ⟨b1, 0, none⟩), .pointer (some ⟨b2, 0, none⟩)] w (Ret w (.bool (!ordB5 lo hi x y))) := by
  refine K_enter (S := []) (K := []) Tryz.func122 rfl Tryz.ntmps122 rfl (Sat.start _) ?_
  refine TW.seq fun Y1 hY1 => ?_
  refine TW.region ?_
  refine TL.m Mk.bx ?_
  intro b1
  refine TL.p Pu.as ?_
  refine TL.nil ?_
  refine TQ.thenN (hY1 _ _ ?_)
  refine TW.seq fun Y2 hY2 => ?_
  refine TW.join [(4, .bool (decide (y < x) || !(inB5 lo hi x && inB5 lo hi y)))] ?_ (fun hJ1 => ?_)
  · refine TQ.thenN (hY2 _ _ ?_)
    refine TW.ret ?_
    refine TQ.ret Tryz.results122 rfl ((.tmp rfl .nil)) ?_
    exact fun w hw => ⟨ret_bool (by unfold ordB5 inB5; rw [Bool.eq_iff_iff]; simp only [Bool.not_eq_true', Bool.and_eq_false_iff, Bool.or_eq_true, decide_eq_true_eq, decide_eq_false_iff_not]; omega), Chg.ext hw.chg⟩
  refine TW.region ?_
  refine TL.p (by first | exact Pu.fb ty_fa47_0 | exact Pu.fe ty_fa47_0) ?_
  refine TL.p (by first | exact (Pu.ld ty_sc3) | exact (Pu.ldo ty_sc3)) ?_
  refine TL.p (by first | exact Pu.fb ty_fa47_1 | exact Pu.fe ty_fa47_1) ?_
  refine TL.p (by first | exact (Pu.ld ty_sc3) | exact (Pu.ldo ty_sc3)) ?_
  refine TL.p Pu.gt ?_
  refine TL.p Pu.mv ?_
  refine TL.guard (t := 10) rfl (fun hg1 => ?_) (fun hg1 => ?_)
  · refine TL.gs ?_
    refine TL.gs ?_
    refine TL.gs ?_
    refine TL.gs ?_
    refine TL.gs ?_
    refine TL.gs ?_
    refine TL.gs ?_
    refine TL.gs ?_
    refine TL.gs ?_
    refine TL.p Pu.kt ?_
    refine TL.p Pu.as ?_
    refine TL.nil ?_
    exact TQ.sub (by repeat (first | exact trivial | refine ⟨rfl, ?_⟩ | refine ⟨trivial, ?_⟩ | refine ⟨(by show some (Value.bool _) = some (Value.bool _); simp [hg1]), ?_⟩)) (by repeat (first | exact KSub.nil | refine KSub.cons (by repeat (first | exact Pick.hd | apply Pick.tl)) ?_)) hJ1
  · refine TL.gd (by first | exact (Pu.ld ty_sc3) | exact (Pu.ldo ty_sc3)) ?_
    refine TL.gd (by first | exact (Pu.ld ty_sc3) | exact (Pu.ldo ty_sc3)) ?_
    refine TL.gd (by first | exact Pu.fb ty_fa47_0 | exact Pu.fe ty_fa47_0) ?_
    refine TL.gd (by first | exact (Pu.ld ty_sc3) | exact (Pu.ldo ty_sc3)) ?_
    refine TL.gd (by first | exact Pu.fb ty_fa47_1 | exact Pu.fe ty_fa47_1) ?_
    refine TL.gd (by first | exact (Pu.ld ty_sc3) | exact (Pu.ldo ty_sc3)) ?_
    refine TL.gm Mk.bl ?_
    intro b2
    refine TL.cr rfl (enters Tryz.func120 rfl rfl) (fun w hw => by
        exact fromTwo_any _ _ _ _ (hw.holds _ (List.mem_cons_self ..))) ?_
    refine TL.gd Pu.no ?_
    refine TL.p Pu.kf ?_
    refine TL.p Pu.as ?_
    refine TL.nil ?_
    exact TQ.sub (by repeat (first | exact trivial | refine ⟨rfl, ?_⟩ | refine ⟨trivial, ?_⟩ | refine ⟨(by show some (Value.bool _) = some (Value.bool _); simp [hg1]), ?_⟩)) (by repeat (first | exact KSub.nil | refine KSub.cons (by repeat (first | exact Pick.hd | apply Pick.tl)) ?_)) hJ1
theorem ordered_any (lo hi : Int) {A : Option Addr} {n cp : Nat} {v : Nat → Nat → Int} {w : World} (hn : n ≤ 9223372036854775807) (hR : RdR w 2 A n (fun k => spL (v k 0) (v k 1))) :
    Calls Tryz.prog 108 #[.int .i64 lo, .int .i64 hi, .slice A n cp] w (Ret w (.bool (allB n fun k => ordB5 lo hi (v k 0) (v k 1)))) := by
  refine K_enter (S := []) (K := []) Tryz.func108 rfl Tryz.ntmps108 rfl (Sat.start _) ?_
  refine TW.seq fun Y1 hY1 => ?_
  refine TW.region ?_
  refine TL.m Mk.bx ?_
  intro b1
  refine TL.m Mk.bx ?_
  intro b2
  refine TL.p Pu.as ?_
  refine TL.nil ?_
  refine TQ.thenN (hY1 _ _ ?_)
  refine TW.seq fun Y2 hY2 => ?_
  refine TW.region ?_
  refine TL.p Pu.mv ?_
  refine TL.p Pu.fn ?_
  refine TL.cr rfl (enters Tryz.func121 rfl rfl) (fun w hw => by
      have h1 := OldB.of_blk (hw.holds (.blk b1 3 [.int .i64 lo]) (by simp))
      have h2 := OldB.of_blk (hw.holds (.blk b2 3 [.int .i64 hi]) (by simp))
      exact hasSpan_any (fs := []) (v := v) (p := fun k => !ordB5 lo hi (v k 0) (v k 1)) (enters Tryz.func122 rfl rfl) hn (hR.sat hw Apart.nil) fun k hk w' hb => ordered1_any _ _ _ _ b1 b2 w' (h1.ext hb) (h2.ext hb)) ?_
  refine TL.p Pu.no ?_
  refine TL.p Pu.as ?_
  refine TL.nil ?_
  refine TQ.thenN (hY2 _ _ ?_)
  refine TW.ret ?_
  refine TQ.ret Tryz.results108 rfl ((.tmp rfl .nil)) ?_
  exact fun w hw => ⟨ret_bool (by rw [not_anyB]; simp), Chg.ext hw.chg⟩
theorem orderedOne_any (lo hi x y : Int) {b E : Nat} {w : World} (h : Blk w b E #[.int .i64 x, .int .i64 y]) :
    Calls Tryz.prog 108 #[.int .i64 lo, .int .i64 hi, .slice (some ⟨b, 0, none⟩) 1 1] w (Ret w (.bool (ordB5 lo hi x y))) := by
  have := ordered_any lo hi (n := 1) (cp := 1) (v := fun _ j => if j = 0 then x else y) (by decide) (RdR.blk (cs := [.int .i64 x, .int .i64 y]) h rfl (fun _ _ => rfl))
  simpa [allB] using this
def breedL (f : Nat → Int) : List Value := [.int .i64 (f 0), .int .i64 (f 1), .int .i64 (f 2), .int .i64 (f 3), .int .i64 (f 4), .int .i64 (f 5), .int .i64 (f 6), .int .i64 (f 7), .int .i64 (f 8), .int .i64 (f 9), .int .i64 (f 10), .int .i64 (f 11), .int .i64 (f 12), .int .i64 (f 13), .int .i64 (f 14), .int .i64 (f 15), .int .i64 (f 16)]
def camL (g : Nat → Int) (m : Bool) : List Value := [.int .i64 (g 0), .int .i64 (g 1), .int .i64 (g 2), .int .i64 (g 3), .int .i64 (g 4), .int .i64 (g 5), .bool m]
def breedOk (f : Nat → Int) : Bool := inB5 1 1000000 (f 0) && inB5 1 1000000 (f 1) && (ordB5 0 100000 (f 2) (f 3) && ordB5 0 100000 (f 4) (f 5) && ordB5 0 100000 (f 6) (f 7) && ordB5 0 100000 (f 8) (f 9) && ordB5 0 100000 (f 10) (f 11) && ordB5 0 100000 (f 12) (f 13)) && ordB5 0 1000000 (f 15) (f 16) && inB5 0 1000 (f 14)
def camOk (f g : Nat → Int) : Bool := ordB5 0 (f 0) (g 0) (g 1) && ordB5 0 (f 1) (g 2) (g 3) && ordB5 0 1000 (g 4) (g 5)
def camCode (f g : Nat → Int) : Int := if breedOk f then (if camOk f g then 0 else 11) else 10
theorem orderedSix_any (lo hi : Int) (f : Nat → Int) {b E : Nat} {w : World} (h : Blk w b E #[.int .i64 (f 2), .int .i64 (f 3), .int .i64 (f 4), .int .i64 (f 5), .int .i64 (f 6), .int .i64 (f 7), .int .i64 (f 8), .int .i64 (f 9), .int .i64 (f 10), .int .i64 (f 11), .int .i64 (f 12), .int .i64 (f 13)]) :
    Calls Tryz.prog 108 #[.int .i64 lo, .int .i64 hi, .slice (some ⟨b, 0, none⟩) 6 6] w (Ret w (.bool (ordB5 lo hi (f 2) (f 3) && ordB5 lo hi (f 4) (f 5) && ordB5 lo hi (f 6) (f 7) && ordB5 lo hi (f 8) (f 9) && ordB5 lo hi (f 10) (f 11) && ordB5 lo hi (f 12) (f 13)))) := by
  have := ordered_any lo hi (n := 6) (cp := 6) (v := fun k j => f (2 + 2 * k + j)) (by decide) (RdR.blk (cs := [.int .i64 (f 2), .int .i64 (f 3), .int .i64 (f 4), .int .i64 (f 5), .int .i64 (f 6), .int .i64 (f 7), .int .i64 (f 8), .int .i64 (f 9), .int .i64 (f 10), .int .i64 (f 11), .int .i64 (f 12), .int .i64 (f 13)]) h rfl (fun _ _ => rfl))
  simpa [allB, List.range_succ, Bool.and_assoc] using this
set_option maxRecDepth 100000 in
theorem checkBreed_any (f : Nat → Int) (w : World) : Calls Tryz.prog 107 #[.agg (breedL f).toArray] w (Ret w (.int .i64 (if breedOk f then 0 else 10))) := by
  refine K_enter (S := []) (K := []) Tryz.func107 rfl Tryz.ntmps107 rfl (Sat.start _) ?_
  refine TW.seq fun Y1 hY1 => ?_
  refine TW.region ?_
  refine TL.m Mk.bx ?_
  intro b1
  refine TL.p Pu.as ?_
  refine TL.nil ?_
  refine TQ.thenN (hY1 _ _ ?_)
  refine TW.seq fun Y2 hY2 => ?_
  refine TW.seq fun Y3 hY3 => ?_
  refine TW.join [(40, .bool (!breedOk f))] ?_ (fun hJ1 => ?_)
  · refine TQ.thenN (hY3 _ _ ?_)
    refine TW.cond rfl (fun hc0 => ?_) (fun hc0 => ?_)
    · try simp only [decide_eq_true_eq, decide_eq_false_iff_not, Bool.not_eq_true', Bool.not_eq_false', Bool.and_eq_true, Bool.or_eq_true, Bool.and_eq_false_iff, Bool.or_eq_false_iff, Int.not_lt, Int.not_le] at hc0
      refine TW.seq fun Y4 hY4 => ?_
      refine TW.region ?_
      refine TL.p Pu.as ?_
      refine TL.nil ?_
      refine TQ.thenN (hY4 _ _ ?_)
      refine TW.ret ?_
      refine TQ.thenR ?_
      refine TQ.ret Tryz.results107 rfl ((.tmp rfl .nil)) ?_
      exact fun w hw => ⟨ret_int (by have : breedOk f = false := by simpa using hc0
                                     rw [this]; rfl), Chg.ext hw.chg⟩
    · try simp only [decide_eq_true_eq, decide_eq_false_iff_not, Bool.not_eq_true', Bool.not_eq_false', Bool.and_eq_true, Bool.or_eq_true, Bool.and_eq_false_iff, Bool.or_eq_false_iff, Int.not_lt, Int.not_le] at hc0
      refine TW.skip ?_
      refine TQ.thenN (hY2 _ _ ?_)
      refine TW.seq fun Y5 hY5 => ?_
      refine TW.region ?_
      refine TL.p Pu.as ?_
      refine TL.nil ?_
      refine TQ.thenN (hY5 _ _ ?_)
      refine TW.ret ?_
      refine TQ.ret Tryz.results107 rfl ((.tmp rfl .nil)) ?_
      exact fun w hw => ⟨ret_int (by have : breedOk f = true := by simpa using hc0
                                     rw [this]; rfl), Chg.ext hw.chg⟩
  refine TW.region ?_
  refine TL.p (by first | exact Pu.fb ty_fa65_0 | exact Pu.fe ty_fa65_0) ?_
  refine TL.p (Pu.ld ty_sc3) ?_
  refine TL.p (by first | exact Pu.fb ty_fa65_1 | exact Pu.fe ty_fa65_1) ?_
  refine TL.p (Pu.ld ty_sc3) ?_
  refine TL.m Mk.bl ?_
  intro b2
  refine TL.cr rfl (enters Tryz.func120 rfl rfl) (fun w hw => by
      exact fromTwo_any _ _ _ _ (hw.holds _ (List.mem_cons_self ..))) ?_
  refine TL.p Pu.no ?_
  refine TL.p Pu.mv ?_
  refine TL.guard (t := 10) rfl (fun hg1 => ?_) (fun hg1 => ?_)
  · refine TL.gs ?_
    refine TL.gs ?_
    refine TL.gs ?_
    refine TL.gs ?_
    refine TL.gs ?_
    refine TL.gs ?_
    refine TL.gs ?_
    refine TL.gs ?_
    refine TL.gs ?_
    refine TL.gs ?_
    refine TL.gs ?_
    refine TL.gs ?_
    refine TL.gs ?_
    refine TL.gs ?_
    refine TL.gs ?_
    refine TL.p Pu.kt ?_
    refine TL.p Pu.mv ?_
    refine TL.gs ?_
    refine TL.gs ?_
    refine TL.gs ?_
    refine TL.gs ?_
    refine TL.gs ?_
    refine TL.p Pu.kt ?_
    refine TL.p Pu.mv ?_
    refine TL.gs ?_
    refine TL.gs ?_
    refine TL.gs ?_
    refine TL.gs ?_
    refine TL.gs ?_
    refine TL.p Pu.kt ?_
    refine TL.nil ?_
    exact TQ.sub (by repeat (first | exact trivial | refine ⟨rfl, ?_⟩ | refine ⟨trivial, ?_⟩ | refine ⟨(by show some (Value.bool _) = some (Value.bool _); simp [hg1, breedOk]), ?_⟩)) (by repeat (first | exact KSub.nil | refine KSub.cons (by repeat (first | exact Pick.hd | apply Pick.tl)) ?_)) hJ1
  · refine TL.gd (by first | exact Pu.fb ty_fa65_2 | exact Pu.fe ty_fa65_2) ?_
    refine TL.gd (Pu.lds ty_ag47) ?_
    refine TL.gd (by first | exact Pu.fb ty_fa65_3 | exact Pu.fe ty_fa65_3) ?_
    refine TL.gd (Pu.lds ty_ag47) ?_
    refine TL.gd (by first | exact Pu.fb ty_fa65_4 | exact Pu.fe ty_fa65_4) ?_
    refine TL.gd (Pu.lds ty_ag47) ?_
    refine TL.gd (by first | exact Pu.fb ty_fa65_5 | exact Pu.fe ty_fa65_5) ?_
    refine TL.gd (Pu.lds ty_ag47) ?_
    refine TL.gd (by first | exact Pu.fb ty_fa65_6 | exact Pu.fe ty_fa65_6) ?_
    refine TL.gd (Pu.lds ty_ag47) ?_
    refine TL.gd (by first | exact Pu.fb ty_fa65_7 | exact Pu.fe ty_fa65_7) ?_
    refine TL.gd (Pu.lds ty_ag47) ?_
    refine TL.gm Mk.bl ?_
    intro b3
    refine TL.cr rfl (enters Tryz.func108 rfl rfl) (fun w hw => by
        exact orderedSix_any _ _ f (hw.holds _ (List.mem_cons_self ..))) ?_
    refine TL.gd Pu.no ?_
    refine TL.p Pu.kf ?_
    refine TL.p Pu.mv ?_
    refine TL.guard (t := 27) rfl (fun hg2 => ?_) (fun hg2 => ?_)
    · refine TL.gs ?_
      refine TL.gs ?_
      refine TL.gs ?_
      refine TL.gs ?_
      refine TL.gs ?_
      refine TL.p Pu.kt ?_
      refine TL.p Pu.mv ?_
      refine TL.gs ?_
      refine TL.gs ?_
      refine TL.gs ?_
      refine TL.gs ?_
      refine TL.gs ?_
      refine TL.p Pu.kt ?_
      refine TL.nil ?_
      exact TQ.sub (by repeat (first | exact trivial | refine ⟨rfl, ?_⟩ | refine ⟨trivial, ?_⟩ | refine ⟨(by show some (Value.bool _) = some (Value.bool _); simp [hg1, hg2, breedOk]), ?_⟩)) (by repeat (first | exact KSub.nil | refine KSub.cons (by repeat (first | exact Pick.hd | apply Pick.tl)) ?_)) hJ1
    · refine TL.gd (by first | exact Pu.fb ty_fa65_9 | exact Pu.fe ty_fa65_9) ?_
      refine TL.gd (Pu.lds ty_ag47) ?_
      refine TL.gm Mk.bl ?_
      intro b4
      refine TL.cr rfl (enters Tryz.func108 rfl rfl) (fun w hw => by
          exact orderedOne_any _ _ _ _ (hw.holds _ (List.mem_cons_self ..))) ?_
      refine TL.gd Pu.no ?_
      refine TL.p Pu.kf ?_
      refine TL.p Pu.mv ?_
      refine TL.guard (t := 34) rfl (fun hg3 => ?_) (fun hg3 => ?_)
      · refine TL.gs ?_
        refine TL.gs ?_
        refine TL.gs ?_
        refine TL.gs ?_
        refine TL.gs ?_
        refine TL.p Pu.kt ?_
        refine TL.nil ?_
        exact TQ.sub (by repeat (first | exact trivial | refine ⟨rfl, ?_⟩ | refine ⟨trivial, ?_⟩ | refine ⟨(by show some (Value.bool _) = some (Value.bool _); simp [hg1, hg2, hg3, breedOk]), ?_⟩)) (by repeat (first | exact KSub.nil | refine KSub.cons (by repeat (first | exact Pick.hd | apply Pick.tl)) ?_)) hJ1
      · refine TL.gd (by first | exact Pu.fb ty_fa65_8 | exact Pu.fe ty_fa65_8) ?_
        refine TL.gd (Pu.ld ty_sc3) ?_
        refine TL.gm Mk.bl ?_
        intro b5
        refine TL.cr rfl (enters Tryz.func120 rfl rfl) (fun w hw => by
            exact fromOne_any _ _ _ (hw.holds _ (List.mem_cons_self ..))) ?_
        refine TL.gd Pu.no ?_
        refine TL.p Pu.kf ?_
        refine TL.nil ?_
        exact TQ.sub (by repeat (first | exact trivial | refine ⟨rfl, ?_⟩ | refine ⟨trivial, ?_⟩ | refine ⟨(by show some (Value.bool _) = some (Value.bool _); simp [hg1, hg2, hg3, breedOk]), ?_⟩)) (by repeat (first | exact KSub.nil | refine KSub.cons (by repeat (first | exact Pick.hd | apply Pick.tl)) ?_)) hJ1
set_option maxRecDepth 100000 in
theorem checkCamel_any (f g : Nat → Int) (m : Bool) (w : World) : Calls Tryz.prog 80 #[.agg (breedL f).toArray, .agg (camL g m).toArray] w (Ret w (.int .i64 (camCode f g))) := by
  refine K_enter (S := []) (K := []) Tryz.func80 rfl Tryz.ntmps80 rfl (Sat.start _) ?_
  refine TW.seq fun Y1 hY1 => ?_
  refine TW.region ?_
  refine TL.m Mk.bx ?_
  intro b1
  refine TL.m Mk.bx ?_
  intro b2
  refine TL.p Pu.as ?_
  refine TL.nil ?_
  refine TQ.thenN (hY1 _ _ ?_)
  refine TW.seq fun Y2 hY2 => ?_
  refine TW.seq fun Y3 hY3 => ?_
  refine TW.region ?_
  refine TL.p (Pu.lds ty_ag65) ?_
  refine TL.cr rfl (enters Tryz.func107 rfl rfl) (fun w hw => by
      exact checkBreed_any f _) ?_
  refine TL.p Pu.as ?_
  refine TL.nil ?_
  refine TQ.thenN (hY3 _ _ ?_)
  refine TW.seq fun Y4 hY4 => ?_
  refine TW.region ?_
  refine TL.p Pu.mv ?_
  refine TL.p Pu.ne ?_
  refine TL.nil ?_
  refine TQ.thenN (hY4 _ _ ?_)
  refine TW.cond rfl (fun hc0 => ?_) (fun hc0 => ?_)
  · try simp only [decide_eq_true_eq, decide_eq_false_iff_not, Bool.not_eq_true', Bool.not_eq_false', Bool.and_eq_true, Bool.or_eq_true, Bool.and_eq_false_iff, Bool.or_eq_false_iff, Int.not_lt, Int.not_le] at hc0
    refine TW.seq fun Y5 hY5 => ?_
    refine TW.region ?_
    refine TL.p Pu.mv ?_
    refine TL.p Pu.as ?_
    refine TL.nil ?_
    refine TQ.thenN (hY5 _ _ ?_)
    refine TW.ret ?_
    refine TQ.thenR ?_
    refine TQ.ret Tryz.results80 rfl ((.tmp rfl .nil)) ?_
    exact fun w hw => ⟨ret_int (by
      cases h : breedOk f with
      | true => simp [h] at hc0
      | false => unfold camCode; rw [h]; rfl), Chg.ext hw.chg⟩
  · try simp only [decide_eq_true_eq, decide_eq_false_iff_not, Bool.not_eq_true', Bool.not_eq_false', Bool.and_eq_true, Bool.or_eq_true, Bool.and_eq_false_iff, Bool.or_eq_false_iff, Int.not_lt, Int.not_le] at hc0
    refine TW.skip ?_
    refine TQ.thenN (hY2 _ _ ?_)
    refine TW.seq fun Y6 hY6 => ?_
    refine TW.seq fun Y7 hY7 => ?_
    refine TW.join [(33, .bool (!camOk f g))] ?_ (fun hJ1 => ?_)
    · refine TQ.thenN (hY7 _ _ ?_)
      refine TW.cond rfl (fun hc1 => ?_) (fun hc1 => ?_)
      · try simp only [decide_eq_true_eq, decide_eq_false_iff_not, Bool.not_eq_true', Bool.not_eq_false', Bool.and_eq_true, Bool.or_eq_true, Bool.and_eq_false_iff, Bool.or_eq_false_iff, Int.not_lt, Int.not_le] at hc1
        refine TW.seq fun Y8 hY8 => ?_
        refine TW.region ?_
        refine TL.p Pu.as ?_
        refine TL.nil ?_
        refine TQ.thenN (hY8 _ _ ?_)
        refine TW.ret ?_
        refine TQ.thenR ?_
        refine TQ.ret Tryz.results80 rfl ((.tmp rfl .nil)) ?_
        exact fun w hw => ⟨ret_int (by
          have h2 : camOk f g = false := by simpa using hc1
          cases h : breedOk f with
          | true => unfold camCode; rw [h, h2]; rfl
          | false => simp [h] at hc0), Chg.ext hw.chg⟩
      · try simp only [decide_eq_true_eq, decide_eq_false_iff_not, Bool.not_eq_true', Bool.not_eq_false', Bool.and_eq_true, Bool.or_eq_true, Bool.and_eq_false_iff, Bool.or_eq_false_iff, Int.not_lt, Int.not_le] at hc1
        refine TW.skip ?_
        refine TQ.thenN (hY6 _ _ ?_)
        refine TW.seq fun Y9 hY9 => ?_
        refine TW.region ?_
        refine TL.p Pu.as ?_
        refine TL.nil ?_
        refine TQ.thenN (hY9 _ _ ?_)
        refine TW.ret ?_
        refine TQ.ret Tryz.results80 rfl ((.tmp rfl .nil)) ?_
        exact fun w hw => ⟨ret_int (by
          have h2 : camOk f g = true := by simpa using hc1
          cases h : breedOk f with
          | true => unfold camCode; rw [h, h2]; rfl
          | false => simp [h] at hc0), Chg.ext hw.chg⟩
    refine TW.region ?_
    refine TL.p (by first | exact Pu.fb ty_fa65_0 | exact Pu.fe ty_fa65_0) ?_
    refine TL.p (Pu.ld ty_sc3) ?_
    refine TL.p (by first | exact Pu.fb ty_fa67_0 | exact Pu.fe ty_fa67_0) ?_
    refine TL.p (Pu.lds ty_ag47) ?_
    refine TL.m Mk.bl ?_
    intro b3
    refine TL.cr rfl (enters Tryz.func108 rfl rfl) (fun w hw => by
        exact orderedOne_any _ _ _ _ (hw.holds _ (List.mem_cons_self ..))) ?_
    refine TL.p Pu.no ?_
    refine TL.p Pu.mv ?_
    refine TL.guard (t := 18) rfl (fun hg1 => ?_) (fun hg1 => ?_)
    · refine TL.gs ?_
      refine TL.gs ?_
      refine TL.gs ?_
      refine TL.gs ?_
      refine TL.gs ?_
      refine TL.gs ?_
      refine TL.gs ?_
      refine TL.p Pu.kt ?_
      refine TL.p Pu.mv ?_
      refine TL.gs ?_
      refine TL.gs ?_
      refine TL.gs ?_
      refine TL.gs ?_
      refine TL.gs ?_
      refine TL.p Pu.kt ?_
      refine TL.nil ?_
      exact TQ.sub (by repeat (first | exact trivial | refine ⟨rfl, ?_⟩ | refine ⟨trivial, ?_⟩ | refine ⟨(by show some (Value.bool _) = some (Value.bool _); simp [hg1, camOk]), ?_⟩)) (by repeat (first | exact KSub.nil | refine KSub.cons (by repeat (first | exact Pick.hd | apply Pick.tl)) ?_)) hJ1
    · refine TL.gd (by first | exact Pu.fb ty_fa65_1 | exact Pu.fe ty_fa65_1) ?_
      refine TL.gd (Pu.ld ty_sc3) ?_
      refine TL.gd (by first | exact Pu.fb ty_fa67_1 | exact Pu.fe ty_fa67_1) ?_
      refine TL.gd (Pu.lds ty_ag47) ?_
      refine TL.gm Mk.bl ?_
      intro b4
      refine TL.cr rfl (enters Tryz.func108 rfl rfl) (fun w hw => by
          exact orderedOne_any _ _ _ _ (hw.holds _ (List.mem_cons_self ..))) ?_
      refine TL.gd Pu.no ?_
      refine TL.p Pu.kf ?_
      refine TL.p Pu.mv ?_
      refine TL.guard (t := 27) rfl (fun hg2 => ?_) (fun hg2 => ?_)
      · refine TL.gs ?_
        refine TL.gs ?_
        refine TL.gs ?_
        refine TL.gs ?_
        refine TL.gs ?_
        refine TL.p Pu.kt ?_
        refine TL.nil ?_
        exact TQ.sub (by repeat (first | exact trivial | refine ⟨rfl, ?_⟩ | refine ⟨trivial, ?_⟩ | refine ⟨(by show some (Value.bool _) = some (Value.bool _); simp [hg1, hg2, camOk]), ?_⟩)) (by repeat (first | exact KSub.nil | refine KSub.cons (by repeat (first | exact Pick.hd | apply Pick.tl)) ?_)) hJ1
      · refine TL.gd (by first | exact Pu.fb ty_fa67_2 | exact Pu.fe ty_fa67_2) ?_
        refine TL.gd (Pu.lds ty_ag47) ?_
        refine TL.gm Mk.bl ?_
        intro b5
        refine TL.cr rfl (enters Tryz.func108 rfl rfl) (fun w hw => by
            exact orderedOne_any _ _ _ _ (hw.holds _ (List.mem_cons_self ..))) ?_
        refine TL.gd Pu.no ?_
        refine TL.p Pu.kf ?_
        refine TL.nil ?_
        exact TQ.sub (by repeat (first | exact trivial | refine ⟨rfl, ?_⟩ | refine ⟨trivial, ?_⟩ | refine ⟨(by show some (Value.bool _) = some (Value.bool _); simp [hg1, hg2, camOk]), ?_⟩)) (by repeat (first | exact KSub.nil | refine KSub.cons (by repeat (first | exact Pick.hd | apply Pick.tl)) ?_)) hJ1
end Go.Proofs.YtljhdcclajikiaaGreatDoor
namespace Go.Proofs.YtljhdcclajikiaaGreatDoor
set_option linter.all false
set_option linter.unusedVariables false
set_option linter.unusedSimpArgs false
open Go.RowKit
def upD (a b : Int) : Int := (a + b - 1) / b
def prodT (t : Nat → Int) (x : Int) : Nat → Int
  | 0 => x
  | k + 1 => prodT t x k * t k
theorem ceil_any (a b : Int) (w : World) (ha : 0 ≤ a) (ha2 : a ≤ 1000000000000000) (hb : 0 < b) (hb2 : b ≤ 1000000000000) : Calls Tryz.prog 110 #[.int .i64 a, .int .i64 b] w (Ret w (.int .i64 (upD a b))) := by
  refine K_enter (S := []) (K := []) Tryz.func110 rfl Tryz.ntmps110 rfl (Sat.start _) ?_
  refine TW.seq fun Y1 hY1 => ?_
  refine TW.region ?_
  refine TL.p Pu.as ?_
  refine TL.nil ?_
  refine TQ.thenN (hY1 _ _ ?_)
  refine TW.seq fun Y2 hY2 => ?_
  refine TW.region ?_
  refine TL.p Pu.mv ?_
  refine TL.p Pu.mv ?_
  refine TL.p Pu.ad ?_
  refine TL.p Pu.sb ?_
  refine TL.p Pu.mv ?_
  refine TL.p Pu.qu ?_
  refine TL.p Pu.as ?_
  refine TL.nil ?_
  refine TQ.thenN (hY2 _ _ ?_)
  refine TW.ret ?_
  refine TQ.ret Tryz.results110 rfl ((.tmp rfl .nil)) ?_
  exact fun w hw => Ret.of hw
theorem camRest_any (n x y : Int) (w : World) (hn : 0 ≤ n ∧ n ≤ 1000000000000) (hx : 0 ≤ x ∧ x ≤ 1000000000000) (hy : 0 ≤ y ∧ y ≤ 1000000000000) : Calls Tryz.prog 124 #[.int .i64 n, .agg (spL x y).toArray] w (Ret w (.agg #[.int .i64 (n - y), .int .i64 (n - x)])) := by
  refine K_enter (S := []) (K := []) Tryz.func124 rfl Tryz.ntmps124 rfl (Sat.start _) ?_
  refine TW.seq fun Y1 hY1 => ?_
  refine TW.region ?_
  refine TL.m Mk.bx ?_
  intro b1
  refine TL.m (Mk.al ty_zr47) ?_
  intro b2
  refine TL.nil ?_
  refine TQ.thenN (hY1 _ _ ?_)
  refine TW.seq fun Y2 hY2 => ?_
  refine TW.region ?_
  refine TL.p Pu.mv ?_
  refine TL.p (by first | exact Pu.fb ty_fa47_1 | exact Pu.fe ty_fa47_1) ?_
  refine TL.p (Pu.ld ty_sc3) ?_
  refine TL.p Pu.sb ?_
  refine TL.p Pu.mv ?_
  refine TL.p (by first | exact Pu.fb ty_fa47_0 | exact Pu.fe ty_fa47_0) ?_
  refine TL.p (Pu.ld ty_sc3) ?_
  refine TL.p Pu.sb ?_
  refine TL.p Pu.bd ?_
  first | refine TL.st ty_sz47 ?_ | refine TL.se ty_sz47 ?_
  refine TL.nil ?_
  refine TQ.thenN (hY2 _ _ ?_)
  refine TW.ret ?_
  refine TQ.ret Tryz.results124 rfl ((RV.cs ty_ag47 .nil)) ?_
  exact fun w hw => Ret.of hw
theorem scaled_any {T : Option Addr} {n cp : Nat} {t : Nat → Int} (x y b : Int) (w : World) (hR : RdR w 1 T n (fun k => [.int .i64 (t k)])) (hn : n ≤ 1000) (hx : ∀ k, k ≤ n → 0 ≤ prodT t x k ∧ prodT t x k ≤ 1000000000000000) (hy : ∀ k, k ≤ n → 0 ≤ prodT t y k ∧ prodT t y k ≤ 1000000000000000) (hb : 0 < b ∧ b ≤ 1000000000000) :
    Calls Tryz.prog 123 #[.agg (spL x y).toArray, .int .i64 b, .slice T n cp] w (Ret w (.agg #[.int .i64 (prodT t x n / b), .int .i64 (upD (prodT t y n) b)])) := by
  have hxn := hx n (Nat.le_refl _)
  have hyn := hy n (Nat.le_refl _)
  refine K_enter (S := []) (K := []) Tryz.func123 rfl Tryz.ntmps123 rfl (Sat.start _) ?_
  refine TW.seq fun Y1 hY1 => ?_
  refine TW.region ?_
  refine TL.m Mk.bx ?_
  intro b1
  refine TL.m (Mk.al ty_zr47) ?_
  intro b2
  refine TL.nil ?_
  refine TQ.thenN (hY1 _ _ ?_)
  refine TW.seq fun Y2 hY2 => ?_
  refine TW.seq fun Y3 hY3 => ?_
  refine TW.region ?_
  refine TL.p Pu.mv ?_
  refine TL.p (Pu.ln Tryz.underlying24) ?_
  refine TL.p Pu.mv ?_
  refine TL.nil ?_
  refine TQ.thenN (hY3 _ _ ?_)
  refine TW.block ?_
  refine TW.loop1 (fun (k : Nat) => [(11, .int .i64 (k : Int)), (10, .int .i64 (n : Int)), (9, .slice T n cp), (3, .pointer (some ⟨b1, 0, none⟩)), (6, .pointer (some ⟨b2, 0, none⟩)), (1, .int .i64 b)]) (fun k => [.blk b1 47 (spL (prodT t x k) (prodT t y k)), .blk b2 47 (spL 0 0)]) (fun k => k ≤ n) (fun k => n - k) 0 (by repeat (first | exact trivial | refine ⟨rfl, ?_⟩ | refine ⟨trivial, ?_⟩)) ?_ ?_ ?_
  · exact (by repeat (first | exact KSub.nil | refine KSub.cons (by repeat (first | exact Pick.hd | apply Pick.tl)) ?_))
  · exact Nat.zero_le _
  rintro k hk Z0 hZ0
  refine TW.seq fun Y4 hY4 => ?_
  refine TW.region ?_
  refine TL.p Pu.lt ?_
  refine TL.nil ?_
  refine TQ.thenN (hY4 _ _ ?_)
  refine TW.seq fun Y5 hY5 => ?_
  refine TW.cond rfl (fun hc0 => ?_) (fun hc0 => ?_)
  · try simp only [decide_eq_true_eq, decide_eq_false_iff_not, Bool.not_eq_true', Bool.not_eq_false', Bool.and_eq_true, Bool.or_eq_true, Bool.and_eq_false_iff, Bool.or_eq_false_iff, Int.not_lt, Int.not_le] at hc0
    have hkn : k < n := by omega
    have hxk := hx (k + 1) (by omega)
    have hyk := hy (k + 1) (by omega)
    simp only [prodT] at hxk hyk
    refine TW.skip ?_
    refine TQ.thenN (hY5 _ _ ?_)
    refine TW.seq fun Y6 hY6 => ?_
    refine TW.block ?_
    refine TW.seq fun Y7 hY7 => ?_
    refine TW.region ?_
    refine TL.p (Pu.el ty_et24) ?_
    refine TL.p (Pu.ld ty_sc3) ?_
    refine TL.p Pu.as ?_
    refine TL.nil ?_
    refine TQ.thenN (hY7 _ _ ?_)
    refine TW.region ?_
    refine TL.p (by first | exact Pu.fb ty_fa47_0 | exact Pu.fe ty_fa47_0) ?_
    refine TL.p (Pu.ld ty_sc3) ?_
    refine TL.p Pu.mv ?_
    refine TL.p Pu.ml ?_
    refine TL.p (by first | exact Pu.fb ty_fa47_1 | exact Pu.fe ty_fa47_1) ?_
    refine TL.p (Pu.ld ty_sc3) ?_
    refine TL.p Pu.mv ?_
    refine TL.p Pu.ml ?_
    refine TL.p (by first | exact Pu.fb ty_fa47_0 | exact Pu.fe ty_fa47_0) ?_
    first | refine TL.st ty_sz3 ?_ | refine TL.se ty_sz3 ?_
    refine TL.p (by first | exact Pu.fb ty_fa47_1 | exact Pu.fe ty_fa47_1) ?_
    first | refine TL.st ty_sz3 ?_ | refine TL.se ty_sz3 ?_
    refine TL.nil ?_
    refine TQ.blkN ?_
    refine TQ.thenN (hY6 _ _ ?_)
    refine TW.region ?_
    refine TL.p Pu.ad ?_
    refine TL.p Pu.mv ?_
    refine TL.nil ?_
    refine TQ.thenN (hZ0 (k + 1) _ _ ?_ ?_ (by repeat (first | exact trivial | refine ⟨rfl, ?_⟩ | refine ⟨trivial, ?_⟩)) ?_)
    · exact (by omega)
    · exact (by first | omega | (simp only []; omega) | (simp; omega))
    · exact (by repeat (first | exact KSub.nil | refine KSub.cons (by repeat (first | exact Pick.hd | apply Pick.tl)) ?_))
  · try simp only [decide_eq_true_eq, decide_eq_false_iff_not, Bool.not_eq_true', Bool.not_eq_false', Bool.and_eq_true, Bool.or_eq_true, Bool.and_eq_false_iff, Bool.or_eq_false_iff, Int.not_lt, Int.not_le] at hc0
    obtain rfl : k = n := by omega
    refine TW.exit ?_
    refine TQ.thenX ?_
    refine TQ.thenX ?_
    refine TQ.blkX ?_
    refine TQ.thenN (hY2 _ _ ?_)
    refine TW.seq fun Y8 hY8 => ?_
    refine TW.dw 9 ?_
    refine RK.tk (by first | exact Pu.fb ty_fa47_0 | exact Pu.fe ty_fa47_0) ?_
    refine RK.tk (Pu.ld ty_sc3) ?_
    refine RK.tk Pu.mv ?_
    refine RK.tk Pu.qu ?_
    refine RK.tk (by first | exact Pu.fb ty_fa47_1 | exact Pu.fe ty_fa47_1) ?_
    refine RK.tk (Pu.ld ty_sc3) ?_
    refine RK.tk Pu.mv ?_
    refine RK.keep ?_
    refine RK.keep ?_
    refine RK.ch [false, true] ?_ trivial
    refine WK.cr rfl (enters Tryz.func110 rfl rfl) (fun w hw => by
        exact ceil_any _ _ _ (by omega) (by omega) (by omega) (by omega)) ?_
    refine WK.p Pu.bd ?_
    refine WK.n ?_
    first | refine TL.st ty_sz47 ?_ | refine TL.se ty_sz47 ?_
    refine TL.nil ?_
    refine TQ.thenN (hY8 _ _ ?_)
    refine TW.ret ?_
    refine TQ.ret Tryz.results123 rfl ((RV.cs ty_ag47 .nil)) ?_
    exact fun w hw => Ret.of hw
theorem scaled2_any {b1 E : Nat} (x y b : Int) (w : World) (hB : Blk w b1 E #[.int .i64 2, .int .i64 1000]) (hx : 0 ≤ x ∧ x ≤ 1000000) (hy : 0 ≤ y ∧ y ≤ 1000000) (hb : 0 < b ∧ b ≤ 1000000000000) :
    Calls Tryz.prog 123 #[.agg (spL x y).toArray, .int .i64 b, .slice (some ⟨b1, 0, none⟩) 2 2] w (Ret w (.agg #[.int .i64 (2000 * x / b), .int .i64 (upD (2000 * y) b)])) := by
  have e : ∀ x : Int, prodT (fun k => if k = 0 then 2 else 1000) x 2 = 2000 * x := fun x => by
    simp only [prodT]
    simp
    omega
  have hq : ∀ x : Int, 0 ≤ x ∧ x ≤ 1000000 → ∀ k, k ≤ 2 → 0 ≤ prodT (fun k => if k = 0 then 2 else 1000) x k ∧ prodT (fun k => if k = 0 then 2 else 1000) x k ≤ 1000000000000000 := fun x hx k hk => by
    have : k = 0 ∨ k = 1 ∨ k = 2 := by omega
    rcases this with rfl | rfl | rfl
    · simp only [prodT]; omega
    · simp only [prodT]; simp; omega
    · rw [e]; omega
  have := scaled_any (n := 2) (cp := 2) (t := fun k => if k = 0 then 2 else 1000) x y b w (RdR.blk (cs := [.int .i64 2, .int .i64 1000]) hB rfl (fun _ _ => rfl)) (by omega) (hq x hx) (hq y hy) hb
  rw [e, e] at this
  exact this
theorem breedOk_iff (f : Nat → Int) : breedOk f = true ↔ (1 ≤ f 0 ∧ f 0 ≤ 1000000) ∧ (1 ≤ f 1 ∧ f 1 ≤ 1000000) ∧ (0 ≤ f 2 ∧ f 2 ≤ f 3 ∧ f 3 ≤ 100000) ∧ (0 ≤ f 4 ∧ f 4 ≤ f 5 ∧ f 5 ≤ 100000) ∧ (0 ≤ f 6 ∧ f 6 ≤ f 7 ∧ f 7 ≤ 100000) ∧ (0 ≤ f 8 ∧ f 8 ≤ f 9 ∧ f 9 ≤ 100000) ∧ (0 ≤ f 10 ∧ f 10 ≤ f 11 ∧ f 11 ≤ 100000) ∧ (0 ≤ f 12 ∧ f 12 ≤ f 13 ∧ f 13 ≤ 100000) ∧ (0 ≤ f 15 ∧ f 15 ≤ f 16 ∧ f 16 ≤ 1000000) ∧ 0 ≤ f 14 ∧ f 14 ≤ 1000 := by
  unfold breedOk ordB5 inB5
  simp only [Bool.and_eq_true, decide_eq_true_eq]
  omega
theorem camOk_iff (f g : Nat → Int) : camOk f g = true ↔ (0 ≤ g 0 ∧ g 0 ≤ g 1 ∧ g 1 ≤ f 0) ∧ (0 ≤ g 2 ∧ g 2 ≤ g 3 ∧ g 3 ≤ f 1) ∧ (0 ≤ g 4 ∧ g 4 ≤ g 5 ∧ g 5 ≤ 1000) := by
  unfold camOk ordB5
  simp only [Bool.and_eq_true, decide_eq_true_eq]
  omega
def minK (c : Int) (x : Nat → Int) : Nat → Int
  | 0 => c
  | k + 1 => min (minK c x k) (x k)
def fitLo (f g : Nat → Int) : Int := min (min (min 1000 (2000 * g 0 / f 0)) (2000 * g 2 / f 1)) (1000 - g 5)
def fitHi (f g : Nat → Int) : Int := min (min (min 1000 (upD (2000 * g 1) (f 0))) (upD (2000 * g 3) (f 1))) (1000 - g 4)
def spans3 (x y : Nat → Int) : List Value := [.int .i64 (x 0), .int .i64 (y 0), .int .i64 (x 1), .int .i64 (y 1), .int .i64 (x 2), .int .i64 (y 2)]
set_option maxRecDepth 100000 in
theorem index_sp3 (x y : Nat → Int) (j : Nat) (hj : j < 3) (w : World) : (Instr.index 167 (.agg (spans3 x y).toArray) (.int .i64 (j : Int))).run Tryz.prog w = .ok (.agg #[.int .i64 (x j), .int .i64 (y j)]) w := by
  have h : j = 0 ∨ j = 1 ∨ j = 2 := by omega
  rcases h with rfl | rfl | rfl
  · unfold spans3; go_simp; rfl
  · unfold spans3; go_simp; rfl
  · unfold spans3; go_simp; rfl
def fitX (f g : Nat → Int) : Nat → Int
  | 0 => 2000 * g 0 / f 0
  | 1 => 2000 * g 2 / f 1
  | _ => 1000 - g 5
def fitY (f g : Nat → Int) : Nat → Int
  | 0 => upD (2000 * g 1) (f 0)
  | 1 => upD (2000 * g 3) (f 1)
  | _ => 1000 - g 4
def beastL (f g : Nat → Int) (m : Bool) : List Value := breedL f ++ camL g m
set_option maxRecDepth 100000 in
set_option maxHeartbeats 1000000 in
theorem fitness_any (f g : Nat → Int) (m : Bool) (w : World) (hf : breedOk f = true) (hg : camOk f g = true) :
    Calls Tryz.prog 109 #[.agg (beastL f g m).toArray] w (Ret w (.agg #[.int .i64 (fitLo f g), .int .i64 (fitHi f g)])) := by
  have h1 := (breedOk_iff f).1 hf
  have h2 := (camOk_iff f g).1 hg
  unfold beastL breedL camL
  refine K_enter (S := []) (K := []) Tryz.func109 rfl Tryz.ntmps109 rfl (Sat.start _) ?_
  refine TW.seq fun Y1 hY1 => ?_
  refine TW.region ?_
  refine TL.m Mk.bx ?_
  intro b1
  refine TL.m (Mk.al ty_zr47) ?_
  intro b2
  refine TL.nil ?_
  refine TQ.thenN (hY1 _ _ ?_)
  refine TW.seq fun Y2 hY2 => ?_
  refine TW.region ?_
  refine TL.p Pu.bd ?_
  refine TL.m (Mk.al ty_zr47) ?_
  intro b3
  first | refine TL.st ty_sz47 ?_ | refine TL.se ty_sz47 ?_
  refine TL.nil ?_
  refine TQ.thenN (hY2 _ _ ?_)
  refine TW.seq fun Y3 hY3 => ?_
  refine TW.seq fun Y4 hY4 => ?_
  refine TW.expl (fun (x6 : Nat) => ([(28, .int .i64 0), (27, .agg (spans3 (fitX f g) (fitY f g)).toArray), (3, .pointer (some ⟨b3, 0, none⟩)), (2, .pointer (some ⟨b2, 0, none⟩))] : Fr)) (fun (x6 : Nat) => [.blk b3 47 (spL 1000 1000), .blk b2 47 (spL 0 0)]) Drop.done ?_ (fun hE => ?_)
  · rintro x6
    refine TQ.thenN (hY4 _ _ ?_)
    refine TW.block ?_
    refine TW.loop1 (fun (k : Nat) => [(28, .int .i64 (k : Int)), (27, .agg (spans3 (fitX f g) (fitY f g)).toArray), (3, .pointer (some ⟨b3, 0, none⟩)), (2, .pointer (some ⟨b2, 0, none⟩))]) (fun k => [.blk b3 47 (spL (minK 1000 (fitX f g) k) (minK 1000 (fitY f g) k)), .blk b2 47 (spL 0 0)]) (fun k => k ≤ 3) (fun k => 3 - k) 0 (by repeat (first | exact trivial | refine ⟨rfl, ?_⟩ | refine ⟨trivial, ?_⟩)) ?_ ?_ ?_
    · exact (by repeat (first | exact KSub.nil | refine KSub.cons (by repeat (first | exact Pick.hd | apply Pick.tl)) ?_))
    · exact Nat.zero_le _
    rintro k hk Z0 hZ0
    refine TW.seq fun Y5 hY5 => ?_
    refine TW.region ?_
    refine TL.p Pu.lt ?_
    refine TL.nil ?_
    refine TQ.thenN (hY5 _ _ ?_)
    refine TW.seq fun Y6 hY6 => ?_
    refine TW.cond rfl (fun hc0 => ?_) (fun hc0 => ?_)
    · try simp only [decide_eq_true_eq, decide_eq_false_iff_not, Bool.not_eq_true', Bool.not_eq_false', Bool.and_eq_true, Bool.or_eq_true, Bool.and_eq_false_iff, Bool.or_eq_false_iff, Int.not_lt, Int.not_le] at hc0
      refine TW.skip ?_
      refine TQ.thenN (hY6 _ _ ?_)
      refine TW.seq fun Y7 hY7 => ?_
      refine TW.block ?_
      refine TW.seq fun Y8 hY8 => ?_
      refine TW.region ?_
      refine TL.p (Pu.ix rfl rfl (fun w => index_sp3 _ _ k (by omega) w)) ?_
      refine TL.m (Mk.al ty_zr47) ?_
      intro b4
      first | refine TL.st ty_sz47 ?_ | refine TL.se ty_sz47 ?_
      refine TL.nil ?_
      refine TQ.thenN (hY8 _ _ ?_)
      refine TW.region ?_
      refine TL.p (by first | exact Pu.fb ty_fa47_0 | exact Pu.fe ty_fa47_0) ?_
      refine TL.p (Pu.ld ty_sc3) ?_
      refine TL.p (by first | exact Pu.fb ty_fa47_0 | exact Pu.fe ty_fa47_0) ?_
      refine TL.p (Pu.ld ty_sc3) ?_
      refine TL.p Pu.mn ?_
      refine TL.p (by first | exact Pu.fb ty_fa47_1 | exact Pu.fe ty_fa47_1) ?_
      refine TL.p (Pu.ld ty_sc3) ?_
      refine TL.p (by first | exact Pu.fb ty_fa47_1 | exact Pu.fe ty_fa47_1) ?_
      refine TL.p (Pu.ld ty_sc3) ?_
      refine TL.p Pu.mn ?_
      refine TL.p Pu.bd ?_
      first | refine TL.st ty_sz47 ?_ | refine TL.se ty_sz47 ?_
      refine TL.nil ?_
      refine TQ.blkN ?_
      refine TQ.thenN (hY7 _ _ ?_)
      refine TW.region ?_
      refine TL.p Pu.ad ?_
      refine TL.p Pu.mv ?_
      refine TL.nil ?_
      refine TQ.thenN (hZ0 (k + 1) _ _ ?_ ?_ (by repeat (first | exact trivial | refine ⟨rfl, ?_⟩ | refine ⟨trivial, ?_⟩)) ?_)
      · exact (by omega)
      · exact (by first | omega | (simp only []; omega) | (simp; omega))
      · exact (by repeat (first | exact KSub.nil | refine KSub.cons (by repeat (first | exact Pick.hd | apply Pick.tl)) ?_))
    · try simp only [decide_eq_true_eq, decide_eq_false_iff_not, Bool.not_eq_true', Bool.not_eq_false', Bool.and_eq_true, Bool.or_eq_true, Bool.and_eq_false_iff, Bool.or_eq_false_iff, Int.not_lt, Int.not_le] at hc0
      obtain rfl : k = 3 := by omega
      refine TW.exit ?_
      refine TQ.thenX ?_
      refine TQ.thenX ?_
      refine TQ.blkX ?_
      refine TQ.thenN (hY3 _ _ ?_)
      refine TW.seq fun Y9 hY9 => ?_
      refine TW.region ?_
      refine TL.p (Pu.lds ty_ag47) ?_
      first | refine TL.st ty_sz47 ?_ | refine TL.se ty_sz47 ?_
      refine TL.nil ?_
      refine TQ.thenN (hY9 _ _ ?_)
      refine TW.ret ?_
      refine TQ.ret Tryz.results109 rfl ((RV.cs ty_ag47 .nil)) ?_
      exact fun w hw => Ret.of hw
  refine RG.tk 0 rfl (by first | exact Pu.fb ty_fa131_1 | exact Pu.fe ty_fa131_1) ?_
  refine RG.tk 1 rfl (by first | exact Pu.fb ty_fa67_0 | exact Pu.fe ty_fa67_0) ?_
  refine RG.tk 2 rfl (Pu.lds ty_ag47) ?_
  refine RG.tk 3 rfl (by first | exact Pu.fb ty_fa131_0 | exact Pu.fe ty_fa131_0) ?_
  refine RG.tk 4 rfl (by first | exact Pu.fb ty_fa65_0 | exact Pu.fe ty_fa65_0) ?_
  refine RG.tk 5 rfl (Pu.ld ty_sc3) ?_
  refine RG.tk 8 rfl (by first | exact Pu.fb ty_fa131_1 | exact Pu.fe ty_fa131_1) ?_
  refine RG.tk 9 rfl (by first | exact Pu.fb ty_fa67_1 | exact Pu.fe ty_fa67_1) ?_
  refine RG.tk 10 rfl (Pu.lds ty_ag47) ?_
  refine RG.tk 11 rfl (by first | exact Pu.fb ty_fa131_0 | exact Pu.fe ty_fa131_0) ?_
  refine RG.tk 12 rfl (by first | exact Pu.fb ty_fa65_1 | exact Pu.fe ty_fa65_1) ?_
  refine RG.tk 13 rfl (Pu.ld ty_sc3) ?_
  refine RG.tk 16 rfl (by first | exact Pu.fb ty_fa131_1 | exact Pu.fe ty_fa131_1) ?_
  refine RG.tk 17 rfl (by first | exact Pu.fb ty_fa67_2 | exact Pu.fe ty_fa67_2) ?_
  refine RG.tk 18 rfl (Pu.lds ty_ag47) ?_
  refine RG.tk 21 rfl Pu.mv ?_
  refine RG.a2 6 14 rfl rfl (fun X6 hX6 => ?_) (fun X14 hX14 => ?_)
  · refine TL.m Mk.bl ?_
    intro x6
    refine TL.nil ?_
    refine TQ.nxt (hX6 _ _ (by repeat (first | exact HasL.nil | refine HasL.cons (by repeat (first | exact Pick.hd | apply Pick.tl)) ?_)) ?_)
    refine RG.a2 7 14 rfl rfl (fun X7 hX7 => ?_) (fun X14 hX14 => ?_)
    · refine TL.cr rfl (enters Tryz.func123 rfl rfl) (fun w hw => by
          exact scaled2_any _ _ _ _ (hw.holds (.blk x6 3 [.int .i64 2, .int .i64 1000]) (by simp)) (by omega) (by omega) (by omega)) ?_
      refine TL.nil ?_
      refine TQ.nxt (hX7 _ _ (by repeat (first | exact HasL.nil | refine HasL.cons (by repeat (first | exact Pick.hd | apply Pick.tl)) ?_)) ?_)
      refine RG.a1 14 rfl (fun X14 hX14 => ?_)
      refine TL.m Mk.bl ?_
      intro x14
      refine TL.nil ?_
      refine TQ.nxt (hX14 _ _ (by repeat (first | exact HasL.nil | refine HasL.cons (by repeat (first | exact Pick.hd | apply Pick.tl)) ?_)) ?_)
      refine RG.a1 15 rfl (fun X15 hX15 => ?_)
      refine TL.cr rfl (enters Tryz.func123 rfl rfl) (fun w hw => by
          exact scaled2_any _ _ _ _ (hw.holds (.blk x14 3 [.int .i64 2, .int .i64 1000]) (by simp)) (by omega) (by omega) (by omega)) ?_
      refine TL.nil ?_
      refine TQ.nxt (hX15 _ _ (by repeat (first | exact HasL.nil | refine HasL.cons (by repeat (first | exact Pick.hd | apply Pick.tl)) ?_)) ?_)
      refine RG.a1 19 rfl (fun X19 hX19 => ?_)
      refine TL.cr rfl (enters Tryz.func124 rfl rfl) (fun w hw => by
          exact camRest_any _ _ _ _ (by omega) (by omega) (by omega)) ?_
      refine TL.nil ?_
      refine TQ.nxt (hX19 _ _ (by repeat (first | exact HasL.nil | refine HasL.cons (by repeat (first | exact Pick.hd | apply Pick.tl)) ?_)) ?_)
      refine RG.tk 20 rfl Pu.bd ?_
      exact RG.nil (TQ.sub (by repeat (first | exact trivial | refine ⟨rfl, ?_⟩ | refine ⟨trivial, ?_⟩)) (by repeat (first | exact KSub.nil | refine KSub.cons (by repeat (first | exact Pick.hd | apply Pick.tl)) ?_ | exact KSub.refl _ | refine KSub.drop ?_)) (hE x6)) (by kernel_rfl)
    · refine TL.m Mk.bl ?_
      intro x14
      refine TL.nil ?_
      refine TQ.nxt (hX14 _ _ (by repeat (first | exact HasL.nil | refine HasL.cons (by repeat (first | exact Pick.hd | apply Pick.tl)) ?_)) ?_)
      refine RG.a1 7 rfl (fun X7 hX7 => ?_)
      refine TL.cr rfl (enters Tryz.func123 rfl rfl) (fun w hw => by
          exact scaled2_any _ _ _ _ (hw.holds (.blk x6 3 [.int .i64 2, .int .i64 1000]) (by simp)) (by omega) (by omega) (by omega)) ?_
      refine TL.nil ?_
      refine TQ.nxt (hX7 _ _ (by repeat (first | exact HasL.nil | refine HasL.cons (by repeat (first | exact Pick.hd | apply Pick.tl)) ?_)) ?_)
      refine RG.a1 15 rfl (fun X15 hX15 => ?_)
      refine TL.cr rfl (enters Tryz.func123 rfl rfl) (fun w hw => by
          exact scaled2_any _ _ _ _ (hw.holds (.blk x14 3 [.int .i64 2, .int .i64 1000]) (by simp)) (by omega) (by omega) (by omega)) ?_
      refine TL.nil ?_
      refine TQ.nxt (hX15 _ _ (by repeat (first | exact HasL.nil | refine HasL.cons (by repeat (first | exact Pick.hd | apply Pick.tl)) ?_)) ?_)
      refine RG.a1 19 rfl (fun X19 hX19 => ?_)
      refine TL.cr rfl (enters Tryz.func124 rfl rfl) (fun w hw => by
          exact camRest_any _ _ _ _ (by omega) (by omega) (by omega)) ?_
      refine TL.nil ?_
      refine TQ.nxt (hX19 _ _ (by repeat (first | exact HasL.nil | refine HasL.cons (by repeat (first | exact Pick.hd | apply Pick.tl)) ?_)) ?_)
      refine RG.tk 20 rfl Pu.bd ?_
      exact RG.nil (TQ.sub (by repeat (first | exact trivial | refine ⟨rfl, ?_⟩ | refine ⟨trivial, ?_⟩)) (by repeat (first | exact KSub.nil | refine KSub.cons (by repeat (first | exact Pick.hd | apply Pick.tl)) ?_ | exact KSub.refl _ | refine KSub.drop ?_)) (hE x6)) (by kernel_rfl)
  · refine TL.m Mk.bl ?_
    intro x14
    refine TL.nil ?_
    refine TQ.nxt (hX14 _ _ (by repeat (first | exact HasL.nil | refine HasL.cons (by repeat (first | exact Pick.hd | apply Pick.tl)) ?_)) ?_)
    refine RG.a1 6 rfl (fun X6 hX6 => ?_)
    refine TL.m Mk.bl ?_
    intro x6
    refine TL.nil ?_
    refine TQ.nxt (hX6 _ _ (by repeat (first | exact HasL.nil | refine HasL.cons (by repeat (first | exact Pick.hd | apply Pick.tl)) ?_)) ?_)
    refine RG.a1 7 rfl (fun X7 hX7 => ?_)
    refine TL.cr rfl (enters Tryz.func123 rfl rfl) (fun w hw => by
        exact scaled2_any _ _ _ _ (hw.holds (.blk x6 3 [.int .i64 2, .int .i64 1000]) (by simp)) (by omega) (by omega) (by omega)) ?_
    refine TL.nil ?_
    refine TQ.nxt (hX7 _ _ (by repeat (first | exact HasL.nil | refine HasL.cons (by repeat (first | exact Pick.hd | apply Pick.tl)) ?_)) ?_)
    refine RG.a1 15 rfl (fun X15 hX15 => ?_)
    refine TL.cr rfl (enters Tryz.func123 rfl rfl) (fun w hw => by
        exact scaled2_any _ _ _ _ (hw.holds (.blk x14 3 [.int .i64 2, .int .i64 1000]) (by simp)) (by omega) (by omega) (by omega)) ?_
    refine TL.nil ?_
    refine TQ.nxt (hX15 _ _ (by repeat (first | exact HasL.nil | refine HasL.cons (by repeat (first | exact Pick.hd | apply Pick.tl)) ?_)) ?_)
    refine RG.a1 19 rfl (fun X19 hX19 => ?_)
    refine TL.cr rfl (enters Tryz.func124 rfl rfl) (fun w hw => by
        exact camRest_any _ _ _ _ (by omega) (by omega) (by omega)) ?_
    refine TL.nil ?_
    refine TQ.nxt (hX19 _ _ (by repeat (first | exact HasL.nil | refine HasL.cons (by repeat (first | exact Pick.hd | apply Pick.tl)) ?_)) ?_)
    refine RG.tk 20 rfl Pu.bd ?_
    exact RG.nil (TQ.sub (by repeat (first | exact trivial | refine ⟨rfl, ?_⟩ | refine ⟨trivial, ?_⟩)) (by repeat (first | exact KSub.nil | refine KSub.cons (by repeat (first | exact Pick.hd | apply Pick.tl)) ?_ | exact KSub.refl _ | refine KSub.drop ?_)) (hE x6)) (by kernel_rfl)
end Go.Proofs.YtljhdcclajikiaaGreatDoor
namespace Go.Proofs.YtljhdcclajikiaaGreatDoor
set_option linter.all false
set_option linter.unusedVariables false
set_option linter.unusedSimpArgs false
open Go.RowKit
theorem upD_nn {a b : Int} (ha : 0 ≤ a) (hb : 0 < b) : 0 ≤ upD a b := Int.ediv_nonneg (by omega) (by omega)
theorem fit_bd {f g : Nat → Int} (hf : breedOk f = true) (hg : camOk f g = true) : 0 ≤ fitLo f g ∧ fitLo f g ≤ 1000 ∧ 0 ≤ fitHi f g ∧ fitHi f g ≤ 1000 := by
  have h1 := (breedOk_iff f).1 hf
  have h2 := (camOk_iff f g).1 hg
  have a1 : 0 ≤ 2000 * g 0 / f 0 := Int.ediv_nonneg (by omega) (by omega)
  have a2 : 0 ≤ 2000 * g 2 / f 1 := Int.ediv_nonneg (by omega) (by omega)
  have a3 : 0 ≤ upD (2000 * g 1) (f 0) := upD_nn (by omega) (by omega)
  have a4 : 0 ≤ upD (2000 * g 3) (f 1) := upD_nn (by omega) (by omega)
  unfold fitLo fitHi
  omega
def carLo (f g : Nat → Int) : Int := f 15 * fitLo f g / 1000
def carHi (f g : Nat → Int) : Int := upD (f 16 * fitHi f g) 1000
theorem camCode_ok {f g : Nat → Int} (h : camCode f g = 0) : breedOk f = true ∧ camOk f g = true := by
  unfold camCode at h
  cases h1 : breedOk f with
  | false => rw [h1] at h; simp at h
  | true =>
    cases h2 : camOk f g with
    | false => rw [h1, h2] at h; simp at h
    | true => exact ⟨rfl, rfl⟩
set_option maxRecDepth 100000 in
theorem carries1_any (f g : Nat → Int) (m : Bool) (w : World) (hf : breedOk f = true) (hg : camOk f g = true) :
    Calls Tryz.prog 81 #[.agg (beastL f g m).toArray] w (Ret w (.agg #[.int .i64 (carLo f g), .int .i64 (carHi f g)])) := by
  have h1 := (breedOk_iff f).1 hf
  have h3 := fit_bd hf hg
  have m1 : 0 ≤ f 15 * fitLo f g ∧ f 15 * fitLo f g ≤ 1000000 * 1000 := mulB (by omega) (by omega) (by omega) (by omega)
  have m2 : 0 ≤ f 16 * fitHi f g ∧ f 16 * fitHi f g ≤ 1000000 * 1000 := mulB (by omega) (by omega) (by omega) (by omega)
  have hfit := fitness_any f g m w hf hg
  unfold beastL breedL camL
  refine K_enter (S := []) (K := []) Tryz.func81 rfl Tryz.ntmps81 rfl (Sat.start _) ?_
  refine TW.seq fun Y1 hY1 => ?_
  refine TW.region ?_
  refine TL.m Mk.bx ?_
  intro b1
  refine TL.m (Mk.al ty_zr47) ?_
  intro b2
  refine TL.nil ?_
  refine TQ.thenN (hY1 _ _ ?_)
  refine TW.seq fun Y2 hY2 => ?_
  refine TW.region ?_
  refine TL.p (Pu.lds ty_ag131) ?_
  refine TL.cr rfl (enters Tryz.func109 rfl rfl) (fun w hw => by
      exact fitness_any f g m _ hf hg) ?_
  refine TL.m (Mk.al ty_zr47) ?_
  intro b3
  first | refine TL.st ty_sz47 ?_ | refine TL.se ty_sz47 ?_
  refine TL.nil ?_
  refine TQ.thenN (hY2 _ _ ?_)
  refine TW.seq fun Y3 hY3 => ?_
  refine TW.dw 17 ?_
  refine RK.tk (by first | exact Pu.fb ty_fa131_0 | exact Pu.fe ty_fa131_0) ?_
  refine RK.tk (by first | exact Pu.fb ty_fa65_9 | exact Pu.fe ty_fa65_9) ?_
  refine RK.tk (by first | exact Pu.fb ty_fa47_0 | exact Pu.fe ty_fa47_0) ?_
  refine RK.tk (Pu.ld ty_sc3) ?_
  refine RK.tk (by first | exact Pu.fb ty_fa47_0 | exact Pu.fe ty_fa47_0) ?_
  refine RK.tk (Pu.ld ty_sc3) ?_
  refine RK.tk Pu.ml ?_
  refine RK.tk Pu.qu ?_
  refine RK.tk (by first | exact Pu.fb ty_fa131_0 | exact Pu.fe ty_fa131_0) ?_
  refine RK.tk (by first | exact Pu.fb ty_fa65_9 | exact Pu.fe ty_fa65_9) ?_
  refine RK.tk (by first | exact Pu.fb ty_fa47_1 | exact Pu.fe ty_fa47_1) ?_
  refine RK.tk (Pu.ld ty_sc3) ?_
  refine RK.tk (by first | exact Pu.fb ty_fa47_1 | exact Pu.fe ty_fa47_1) ?_
  refine RK.tk (Pu.ld ty_sc3) ?_
  refine RK.tk Pu.ml ?_
  refine RK.keep ?_
  refine RK.keep ?_
  refine RK.ch [false, true] ?_ trivial
  refine WK.cr rfl (enters Tryz.func110 rfl rfl) (fun w hw => by
      exact ceil_any _ _ _ (by omega) (by omega) (by omega) (by omega)) ?_
  refine WK.p Pu.bd ?_
  refine WK.n ?_
  first | refine TL.st ty_sz47 ?_ | refine TL.se ty_sz47 ?_
  refine TL.nil ?_
  refine TQ.thenN (hY3 _ _ ?_)
  refine TW.ret ?_
  refine TQ.ret Tryz.results81 rfl ((RV.cs ty_ag47 .nil)) ?_
  exact fun w hw => Ret.of hw
def carR (f g : Nat → Int) : List Value := if camCode f g = 0 then [.agg #[.int .i64 (carLo f g), .int .i64 (carHi f g)], .int .i64 0] else [.agg #[.int .i64 0, .int .i64 0], .int .i64 (camCode f g)]
set_option maxRecDepth 100000 in
theorem carries_any (f g : Nat → Int) (m : Bool) (w : World) : Calls Tryz.prog 51 #[.agg (breedL f).toArray, .agg (camL g m).toArray] w (Ret w (.tuple (carR f g).toArray)) := by
  refine K_enter (S := []) (K := []) Tryz.func51 rfl Tryz.ntmps51 rfl (Sat.start _) ?_
  refine TW.seq fun Y1 hY1 => ?_
  refine TW.region ?_
  refine TL.m Mk.bx ?_
  intro b1
  refine TL.m Mk.bx ?_
  intro b2
  refine TL.m (Mk.al ty_zr47) ?_
  intro b3
  refine TL.p Pu.as ?_
  refine TL.nil ?_
  refine TQ.thenN (hY1 _ _ ?_)
  refine TW.seq fun Y2 hY2 => ?_
  refine TW.seq fun Y3 hY3 => ?_
  refine TW.region ?_
  refine TL.p (Pu.lds ty_ag65) ?_
  refine TL.p (Pu.lds ty_ag67) ?_
  refine TL.cr rfl (enters Tryz.func80 rfl rfl) (fun w hw => by
      exact checkCamel_any f g m _) ?_
  refine TL.p Pu.as ?_
  refine TL.nil ?_
  refine TQ.thenN (hY3 _ _ ?_)
  refine TW.seq fun Y4 hY4 => ?_
  refine TW.region ?_
  refine TL.p Pu.mv ?_
  refine TL.p Pu.ne ?_
  refine TL.nil ?_
  refine TQ.thenN (hY4 _ _ ?_)
  refine TW.cond rfl (fun hc0 => ?_) (fun hc0 => ?_)
  · try simp only [decide_eq_true_eq, decide_eq_false_iff_not, Bool.not_eq_true', Bool.not_eq_false', Bool.and_eq_true, Bool.or_eq_true, Bool.and_eq_false_iff, Bool.or_eq_false_iff, Int.not_lt, Int.not_le] at hc0
    have hbad : camCode f g ≠ 0 := hc0
    refine TW.seq fun Y5 hY5 => ?_
    refine TW.region ?_
    refine TL.p Pu.bd ?_
    refine TL.p Pu.mv ?_
    first | refine TL.st ty_sz47 ?_ | refine TL.se ty_sz47 ?_
    refine TL.p Pu.as ?_
    refine TL.nil ?_
    refine TQ.thenN (hY5 _ _ ?_)
    refine TW.ret ?_
    refine TQ.thenR ?_
    refine TQ.ret Tryz.results51 rfl ((RV.cs ty_ag47 (.tmp rfl .nil))) ?_
    exact fun w hw => ⟨by unfold carR; rw [if_neg hbad]; rfl, Chg.ext hw.chg⟩
  · try simp only [decide_eq_true_eq, decide_eq_false_iff_not, Bool.not_eq_true', Bool.not_eq_false', Bool.and_eq_true, Bool.or_eq_true, Bool.and_eq_false_iff, Bool.or_eq_false_iff, Int.not_lt, Int.not_le] at hc0
    have hgood : camCode f g = 0 := by simpa using hc0
    obtain ⟨hf, hg⟩ := camCode_ok hgood
    refine TW.skip ?_
    refine TQ.thenN (hY2 _ _ ?_)
    refine TW.seq fun Y6 hY6 => ?_
    refine TW.region ?_
    refine TL.p (Pu.lds ty_ag65) ?_
    refine TL.p (Pu.lds ty_ag67) ?_
    refine TL.p Pu.bd ?_
    refine TL.cr rfl (enters Tryz.func81 rfl rfl) (fun w hw => by
        exact carries1_any f g m _ hf hg) ?_
    first | refine TL.st ty_sz47 ?_ | refine TL.se ty_sz47 ?_
    refine TL.p Pu.as ?_
    refine TL.nil ?_
    refine TQ.thenN (hY6 _ _ ?_)
    refine TW.ret ?_
    refine TQ.ret Tryz.results51 rfl ((RV.cs ty_ag47 (.tmp rfl .nil))) ?_
    exact fun w hw => ⟨by unfold carR; rw [if_pos hgood]; first | rfl | skip, Chg.ext hw.chg⟩
section
variable {c : Cx} {F : Fr} {K : List Fact} {d : Option Tmp} {ty : TypeId} {pos : String} {af : Array Edge} {g : Option (Nat × Bool)} {k : IntKind} {i j m n : Int} {x y z u : Operand}
end
end Go.Proofs.YtljhdcclajikiaaGreatDoor
namespace Go.Proofs.YtljhdcclajikiaaGreatDoor
set_option linter.all false
set_option linter.unusedVariables false
set_option linter.unusedSimpArgs false
open Go.RowKit
theorem KSub.val {K K' L : List Fact} {b : Nat} {E : TypeId} {k : IntKind} {i j : Int} (hp : Pick K (.blk b E [.int k i]) K') (e : i = j) (h : KSub K' L) : KSub K (.blk b E [.int k j] :: L) := by
  subst e; exact .cons hp h
def readyV (bal wl wh cl ch : Int) : Int := if ch < wl then 0 else if bal = 2 ∧ cl < wh then 1 else bal
theorem balV_form (a b c d e : Int) : balV a b c d e = 0 ∨ balV a b c d e = 1 ∨ balV a b c d e = 2 := by
  unfold balV
  split
  · exact .inr (.inr rfl)
  · split
    · exact .inl rfl
    · exact .inr (.inl rfl)
def readyC (np : Nat) (pk : Nat → Nat → Int) (l : Nat → Nat) (v : Nat → Nat → Int) (b : Int) (f g : Nat → Int) : Int :=
  if check1 np pk l v = 0 then (if camCode f g = 0 then (if inB5 0 1000000000 b then 0 else 2) else camCode f g) else check1 np pk l v
def readyF (pk : Nat → Nat → Int) (l : Nat → Nat) (v : Nat → Nat → Int) (b : Int) (f g : Nat → Int) : Int :=
  readyV (balF pk l v b) (wlo pk (catI l v) (tot l 3)) (whi pk (catI l v) (tot l 3)) (carLo f g) (carHi f g)
def readyR (np : Nat) (pk : Nat → Nat → Int) (l : Nat → Nat) (v : Nat → Nat → Int) (b : Int) (f g : Nat → Int) : Int := if readyC np pk l v b f g = 0 then readyF pk l v b f g else 0
theorem readyC_ok {np : Nat} {pk : Nat → Nat → Int} {l : Nat → Nat} {v : Nat → Nat → Int} {b : Int} {f g : Nat → Int} (h1 : check1 np pk l v = 0) (h2 : camCode f g = 0) (h3 : inB5 0 1000000000 b = true) : readyC np pk l v b f g = 0 := by
  unfold readyC; rw [if_pos h1, if_pos h2, h3]; rfl
theorem carR_ok {f g : Nat → Int} (h : camCode f g = 0) : carR f g = [.agg #[.int .i64 (carLo f g), .int .i64 (carHi f g)], .int .i64 (camCode f g)] := by
  unfold carR; rw [if_pos h, h]
theorem carR_no {f g : Nat → Int} (h : camCode f g ≠ 0) : carR f g = [.agg #[.int .i64 0, .int .i64 0], .int .i64 (camCode f g)] := by
  unfold carR; rw [if_neg h]
def canLo (f g : Nat → Int) : Int := if camCode f g = 0 then carLo f g else 0
def canHi (f g : Nat → Int) : Int := if camCode f g = 0 then carHi f g else 0
theorem carR_form (f g : Nat → Int) : carR f g = [.agg #[.int .i64 (canLo f g), .int .i64 (canHi f g)], .int .i64 (camCode f g)] := by
  unfold canLo canHi
  by_cases h : camCode f g = 0
  · rw [if_pos h, if_pos h]; exact carR_ok h
  · rw [if_neg h, if_neg h]; exact carR_no h
theorem need_self (e : Int) (w : World) : Calls Tryz.prog 40 #[.bool (decide (e = 0)), .int .i64 e] w (Try w errs e (.tuple #[])) := by
  refine K_enter (S := []) (K := []) Tryz.func40 rfl Tryz.ntmps40 rfl (Sat.start _) ?_
  refine TW.seq fun Y1 hY1 => ?_
  refine TW.region ?_
  refine TL.p Pu.mv ?_
  refine TL.p Pu.no ?_
  refine TL.nil ?_
  refine TQ.thenN (hY1 _ _ ?_)
  refine TW.cond rfl (fun hc0 => ?_) (fun hc0 => ?_)
  · try simp only [decide_eq_true_eq, decide_eq_false_iff_not, Bool.not_eq_true', Bool.not_eq_false', Bool.and_eq_true, Bool.or_eq_true, Bool.and_eq_false_iff, Bool.or_eq_false_iff, Int.not_lt, Int.not_le] at hc0
    have hb : e ≠ 0 := by simpa using hc0
    refine TW.region ?_
    refine TL.p Pu.mv ?_
    refine TL.p Pu.fc ?_
    refine TL.pn rfl (by intro w; first | (go_simp; done) | (go_simp; rfl)) ?_
    refine TQ.pan rfl ?_
    exact fun w hw => Try.no (L := []) hb hw
  · try simp only [decide_eq_true_eq, decide_eq_false_iff_not, Bool.not_eq_true', Bool.not_eq_false', Bool.and_eq_true, Bool.or_eq_true, Bool.and_eq_false_iff, Bool.or_eq_false_iff, Int.not_lt, Int.not_le] at hc0
    have hb : e = 0 := by simpa using hc0
    refine TW.skip ?_
    refine TQ.end Tryz.results40 rfl (.nil) ?_
    exact fun w hw => Try.ok (L := []) hb hw
set_option maxRecDepth 100000 in
set_option maxHeartbeats 800000 in
theorem ready1_any {W0 w : World} {A : Option Addr} {np cp bp bt bf bg bb x : Nat} {pk : Nat → Nat → Int} {a : Nat → Option Addr} {l c : Nat → Nat} {v : Nat → Nat → Int} {b : Int} {f g : Nat → Int} {m : Bool}
    (hL : Lay1 W0 A np pk a l v) (hb : Below W0.heap.size W0 w) (hS : ∀ b ∈ [x], W0.heap.size ≤ b)
    (h1 : OldB w bp [.slice A np cp]) (h2 : OldB w bt (tieL a l c)) (h3 : OldB w bb [.int .i64 b]) (h4 : OldB w bf (breedL f)) (h5 : OldB w bg (camL g m)) (n1 : bp ∉ [x]) (n2 : bt ∉ [x]) (n3 : bb ∉ [x]) (n4 : bf ∉ [x]) (n5 : bg ∉ [x])
    (hM : Sat [x] w [.blk x 5 [.int .u8 0]] w) :
    Doing Tryz.prog 50 #[.pointer (some ⟨bp, 0, none⟩), .pointer (some ⟨bt, 0, none⟩), .pointer (some ⟨bf, 0, none⟩), .pointer (some ⟨bg, 0, none⟩), .pointer (some ⟨bb, 0, none⟩), .pointer (some ⟨x, 0, none⟩)] [.blk x 5 [.int .u8 0]] Unit
      (fun _ => if readyC np pk l v b f g = 0 then [.blk x 5 [.int .u8 (readyF pk l v b f g)]] else [.blk x 5 [.int .u8 0]]) (readyC np pk l v b f g) w := by
  have hnp := hL.hnp
  have ap1 := apart_of n1
  have ap2 := apart_of n2
  have ap3 := apart_of n3
  have ap4 := apart_of n4
  have ap5 := apart_of n5
  have hL1 := hL.ext hb
  refine K_enter (args := [.pointer (some ⟨bp, 0, none⟩), .pointer (some ⟨bt, 0, none⟩), .pointer (some ⟨bf, 0, none⟩), .pointer (some ⟨bg, 0, none⟩), .pointer (some ⟨bb, 0, none⟩), .pointer (some ⟨x, 0, none⟩)]) (S := [x]) (K := [.blk x 5 [.int .u8 0]]) Tryz.func50 rfl Tryz.ntmps50 rfl hM ?_
  refine TW.seq fun Y1 hY1 => ?_
  refine TW.region ?_
  refine TL.p (by first | exact (Pu.ld ty_sc22) | exact (Pu.ldo ty_sc22)) ?_
  refine TL.p (by first | exact (Pu.lds ty_ag34) | exact (Pu.ldso ty_ag34)) ?_
  refine TL.m Mk.bl ?_
  intro b1
  refine TL.ct rfl (enters Tryz.func29 rfl rfl) (fun w hw => by
      have hLw := (hL.ext (old_below hb hw hS)).lay (c := c) (b := b1) (E := 34) (hw.holds (.blk b1 34 (tieL a l c)) (by simp [tieL]))
      exact hLw.check) (fun hp1 => ?_) (fun hp1 => ?_)
  rotate_left
  · have hq1 : check1 np pk l v ≠ 0 := hp1
    have hcode : readyC np pk l v b f g = check1 np pk l v := if_neg hq1
    refine TQ.thenP ?_
    refine TQ.pan rfl ?_
    exact fun w hw => Doing.no () (by first | exact hp3 | exact hp2 | exact hp1) hcode (fun h => if_neg h) hw (by repeat (first | exact KSub.nil | refine KSub.cons (by repeat (first | exact Pick.hd | apply Pick.tl)) ?_))
  refine TL.nil ?_
  refine TQ.thenN (hY1 _ _ ?_)
  refine TW.seq fun Y2 hY2 => ?_
  refine TW.region ?_
  refine TL.p (by first | exact (Pu.lds ty_ag65) | exact (Pu.ldso ty_ag65)) ?_
  refine TL.p (by first | exact (Pu.lds ty_ag67) | exact (Pu.ldso ty_ag67)) ?_
  refine TL.cr rfl (enters Tryz.func51 rfl rfl) (fun w hw => by
      have h9 := carries_any f g m w
      rw [carR_form] at h9
      exact h9) ?_
  refine TL.p Pu.mv ?_
  refine TL.p Pu.ex ?_
  refine TL.p Pu.ex ?_
  refine TL.m (Mk.al ty_zr47) ?_
  intro b2
  first | refine TL.st ty_sz47 ?_ | refine TL.se ty_sz47 ?_
  refine TL.p Pu.as ?_
  refine TL.nil ?_
  refine TQ.thenN (hY2 _ _ ?_)
  refine TW.seq fun Y3 hY3 => ?_
  refine TW.region ?_
  refine TL.p Pu.mv ?_
  refine TL.p Pu.eq ?_
  refine TL.p Pu.mv ?_
  refine TL.ct rfl (enters Tryz.func40 rfl rfl) (fun w hw => by
      exact need_self (camCode f g) _) (fun hp2 => ?_) (fun hp2 => ?_)
  rotate_left
  · have hq1 : check1 np pk l v = 0 := hp1
    have hcode : readyC np pk l v b f g = camCode f g := by unfold readyC; rw [if_pos hq1, if_neg hp2]
    refine TQ.thenP ?_
    refine TQ.pan rfl ?_
    exact fun w hw => Doing.no () (by first | exact hp3 | exact hp2 | exact hp1) hcode (fun h => if_neg h) hw (by repeat (first | exact KSub.nil | refine KSub.cons (by repeat (first | exact Pick.hd | apply Pick.tl)) ?_))
  refine TL.nil ?_
  refine TQ.thenN (hY3 _ _ ?_)
  refine TW.seq fun Y4 hY4 => ?_
  refine TW.region ?_
  refine TL.p (by first | exact (Pu.ld ty_sc3) | exact (Pu.ldo ty_sc3)) ?_
  refine TL.ct rfl (enters Tryz.func30 rfl rfl) (fun w hw => by
      exact bounded_any _ _) (fun hp3 => ?_) (fun hp3 => ?_)
  rotate_left
  · have hq1 : check1 np pk l v = 0 := hp1
    have hcode : readyC np pk l v b f g = (if inB5 0 1000000000 b then 0 else 2) := by unfold readyC; rw [if_pos hq1, if_pos hp2]
    refine TQ.thenP ?_
    refine TQ.pan rfl ?_
    exact fun w hw => Doing.no () (by first | exact hp3 | exact hp2 | exact hp1) hcode (fun h => if_neg h) hw (by repeat (first | exact KSub.nil | refine KSub.cons (by repeat (first | exact Pick.hd | apply Pick.tl)) ?_))
  refine TL.nil ?_
  refine TQ.thenN (hY4 _ _ ?_)
  refine TW.seq fun Y5 hY5 => ?_
  refine TW.dw 5 ?_
  refine RK.tk (by first | exact (Pu.lds ty_ag34) | exact (Pu.ldso ty_ag34)) ?_
  refine RK.tk (by first | exact (Pu.ld ty_sc22) | exact (Pu.ldo ty_sc22)) ?_
  refine RK.keep ?_
  refine RK.keep ?_
  refine RK.float [.slice none 0 0, .slice none 0 0, .slice none 0 0, .slice none 0 0] ?_
  refine RK.ch [false, true] ?_ ⟨ty_zr84, trivial⟩
  refine WK.call rfl (enters Tryz.func33 rfl rfl) rfl (fun w hw => by
      have hLw := hL.ext (old_below hb hw hS)
      exact rests_any hLw.hG hnp (check1_ok hp1).2.1 hLw.hR) ?_
  rintro ⟨Ar, cr⟩
  refine WK.p Pu.bd ?_
  refine WK.n ?_
  intro b3
  first | refine TL.st ty_sz84 ?_ | refine TL.se ty_sz84 ?_
  refine TL.nil ?_
  refine TQ.thenN (hY5 _ _ ?_)
  refine TW.seq fun Y6 hY6 => ?_
  refine TW.dw 5 ?_
  refine RK.tk (by first | exact (Pu.lds ty_ag84) | exact (Pu.ldso ty_ag84)) ?_
  refine RK.tk (by first | exact (Pu.lds ty_ag34) | exact (Pu.ldso ty_ag34)) ?_
  refine RK.keep ?_
  refine RK.keep ?_
  refine RK.float [.int .i64 0, .int .i64 0] ?_
  refine RK.ch [false, false] ?_ ⟨ty_zr47, trivial⟩
  refine WK.call rfl (enters Tryz.func44 rfl rfl) rfl (fun w hw => by
      have hLw := hL.ext (old_below hb hw hS)
      have h9 := all_any (a := a) (l := l) (c := c) (v := v) (by have := hL.hL; omega) hLw.hI
      rw [catN_catI] at h9
      exact h9) ?_
  rintro ⟨Ac, cc⟩
  refine WK.cr rfl (enters Tryz.func43 rfl rfl) (fun w hw => by
      have hLw := hL.ext (old_below hb hw hS)
      obtain ⟨k1, k2, k3, k4⟩ := check1_ok hp1
      rw [tot3] at k4
      have hRr := OwnR.rdr (hw.holds (.own Ar np cr 47 2 (fun q => spL (rl (pk q)) (rh (pk q)))) (by simp))
      exact weight_any (a := a) (l := l) (c := c) (Ar := Ar) (cr := cr) (v := catI l v) (RestOk.of_packs k2) (show tot l 3 ≤ 1000 by rw [tot3]; omega) (inx_cat k3) hRr (OwnR.rdr (hw.holds (.own Ac (tot l 3) cc 3 1 (fun k => [.int .i64 (catI l v k)])) (by simp)))) ?_
  refine WK.n ?_
  intro b4
  first | refine TL.st ty_sz47 ?_ | refine TL.se ty_sz47 ?_
  refine TL.nil ?_
  refine TQ.thenN (hY6 _ _ ?_)
  refine TW.seq fun Y7 hY7 => ?_
  refine TW.region ?_
  refine TL.p (by first | exact (Pu.lds ty_ag84) | exact (Pu.ldso ty_ag84)) ?_
  refine TL.p (by first | exact (Pu.ld ty_sc3) | exact (Pu.ldo ty_sc3)) ?_
  refine TL.cr rfl (enters Tryz.func38 rfl rfl) (fun w hw => by
      have hLw := hL.ext (old_below hb hw hS)
      obtain ⟨k1, k2, k3, k4⟩ := check1_ok hp1
      rw [tot3] at k4
      have hRr := OwnR.rdr (hw.holds (.own Ar np cr 47 2 (fun q => spL (rl (pk q)) (rh (pk q)))) (by simp))
      have hbb := need_yes (by decide) hp3
      simp only [inB5, Bool.and_eq_true, decide_eq_true_eq] at hbb
      have hl2 : ∀ j, j < 2 → l j ≤ 1000 := fun j hj => by
        have : j = 0 ∨ j = 1 := by omega
        rcases this with rfl | rfl <;> omega
      exact balance_any (a := a) (l := l) (c := c) (Ar := Ar) (cr := cr) (RestOk.of_packs k2) (by omega) hl2 (fun j hj => k3 j (by omega)) hRr (fun j hj => hLw.hI j (by omega))) ?_
  first | refine TL.st ty_sz5 ?_ | refine TL.se ty_sz5 ?_
  refine TL.nil ?_
  refine TQ.thenN (hY7 _ _ ?_)
  refine TW.seq fun Y8 hY8 => ?_
  refine TW.seq fun Y9 hY9 => ?_
  refine TW.region ?_
  refine TL.p (by first | exact Pu.fb ty_fa47_0 | exact Pu.fe ty_fa47_0) ?_
  refine TL.p (by first | exact (Pu.ld ty_sc3) | exact (Pu.ldo ty_sc3)) ?_
  refine TL.p (by first | exact Pu.fb ty_fa47_1 | exact Pu.fe ty_fa47_1) ?_
  refine TL.p (by first | exact (Pu.ld ty_sc3) | exact (Pu.ldo ty_sc3)) ?_
  refine TL.p Pu.gt ?_
  refine TL.nil ?_
  refine TQ.thenN (hY9 _ _ ?_)
  refine TW.cond rfl (fun hc0 => ?_) (fun hc0 => ?_)
  · try simp only [decide_eq_true_eq, decide_eq_false_iff_not, Bool.not_eq_true', Bool.not_eq_false', Bool.and_eq_true, Bool.or_eq_true, Bool.and_eq_false_iff, Bool.or_eq_false_iff, Int.not_lt, Int.not_le] at hc0
    refine TW.region ?_
    first | refine TL.st ty_sz5 ?_ | refine TL.se ty_sz5 ?_
    refine TL.nil ?_
    refine TQ.thenN (hY8 _ _ ?_)
    refine TW.seq fun Y10 hY10 => ?_
    refine TW.region ?_
    refine TL.p (by first | exact (Pu.ld ty_sc5) | exact (Pu.ldo ty_sc5)) ?_
    refine TL.p Pu.eq ?_
    refine TL.p Pu.mv ?_
    refine TL.guard (t := 44) rfl (fun hg1 => ?_) (fun hg1 => ?_)
    · try simp only [decide_eq_true_eq, decide_eq_false_iff_not, Bool.not_eq_true', Bool.not_eq_false', Int.natCast_pos] at hg1
      refine TL.gd (by first | exact Pu.fb ty_fa47_1 | exact Pu.fe ty_fa47_1) ?_
      refine TL.gd (by first | exact (Pu.ld ty_sc3) | exact (Pu.ldo ty_sc3)) ?_
      refine TL.gd (by first | exact Pu.fb ty_fa47_0 | exact Pu.fe ty_fa47_0) ?_
      refine TL.gd (by first | exact (Pu.ld ty_sc3) | exact (Pu.ldo ty_sc3)) ?_
      refine TL.gd Pu.gt ?_
      refine TL.p Pu.kt ?_
      refine TL.nil ?_
      refine TQ.thenN (hY10 _ _ ?_)
      refine TW.cond rfl (fun hc1 => ?_) (fun hc1 => ?_)
      · try simp only [decide_eq_true_eq, decide_eq_false_iff_not, Bool.not_eq_true', Bool.not_eq_false', Bool.and_eq_true, Bool.or_eq_true, Bool.and_eq_false_iff, Bool.or_eq_false_iff, Int.not_lt, Int.not_le] at hc1
        refine TW.region ?_
        first | refine TL.st ty_sz5 ?_ | refine TL.se ty_sz5 ?_
        refine TL.nil ?_
        refine TQ.end Tryz.results50 rfl (.nil) ?_
        have hcar : canLo f g = carLo f g ∧ canHi f g = carHi f g := ⟨if_pos hp2, if_pos hp2⟩
        have hbal := balV_form (wlo pk (v 0) (l 0)) (whi pk (v 0) (l 0)) (wlo pk (v 1) (l 1)) (whi pk (v 1) (l 1)) b
        obtain ⟨e1, e2⟩ := hcar
        refine fun w hw => Doing.yes () (readyC_ok hp1 hp2 (need_yes (by decide) hp3)) (fun h => if_pos h) hw (KSub.val (by repeat (first | exact Pick.hd | apply Pick.tl)) ?_ KSub.nil)
        unfold readyF readyV balF
        rw [← e1, ← e2]
        unfold wlo whi at *
        generalize balV _ _ _ _ _ = B at *
        (repeat' split) <;> omega
      · try simp only [decide_eq_true_eq, decide_eq_false_iff_not, Bool.not_eq_true', Bool.not_eq_false', Bool.and_eq_true, Bool.or_eq_true, Bool.and_eq_false_iff, Bool.or_eq_false_iff, Int.not_lt, Int.not_le] at hc1
        refine TW.skip ?_
        refine TQ.end Tryz.results50 rfl (.nil) ?_
        have hcar : canLo f g = carLo f g ∧ canHi f g = carHi f g := ⟨if_pos hp2, if_pos hp2⟩
        have hbal := balV_form (wlo pk (v 0) (l 0)) (whi pk (v 0) (l 0)) (wlo pk (v 1) (l 1)) (whi pk (v 1) (l 1)) b
        obtain ⟨e1, e2⟩ := hcar
        refine fun w hw => Doing.yes () (readyC_ok hp1 hp2 (need_yes (by decide) hp3)) (fun h => if_pos h) hw (KSub.val (by repeat (first | exact Pick.hd | apply Pick.tl)) ?_ KSub.nil)
        unfold readyF readyV balF
        rw [← e1, ← e2]
        unfold wlo whi at *
        generalize balV _ _ _ _ _ = B at *
        (repeat' split) <;> omega
    · try simp only [decide_eq_true_eq, decide_eq_false_iff_not, Bool.not_eq_true', Bool.not_eq_false', Int.natCast_pos] at hg1
      refine TL.gs ?_
      refine TL.gs ?_
      refine TL.gs ?_
      refine TL.gs ?_
      refine TL.gs ?_
      refine TL.p Pu.kf ?_
      refine TL.nil ?_
      refine TQ.thenN (hY10 _ _ ?_)
      refine TW.condF rfl rfl ?_
      refine TW.skip ?_
      refine TQ.end Tryz.results50 rfl (.nil) ?_
      have hcar : canLo f g = carLo f g ∧ canHi f g = carHi f g := ⟨if_pos hp2, if_pos hp2⟩
      have hbal := balV_form (wlo pk (v 0) (l 0)) (whi pk (v 0) (l 0)) (wlo pk (v 1) (l 1)) (whi pk (v 1) (l 1)) b
      obtain ⟨e1, e2⟩ := hcar
      refine fun w hw => Doing.yes () (readyC_ok hp1 hp2 (need_yes (by decide) hp3)) (fun h => if_pos h) hw (KSub.val (by repeat (first | exact Pick.hd | apply Pick.tl)) ?_ KSub.nil)
      unfold readyF readyV balF
      rw [← e1, ← e2]
      unfold wlo whi at *
      generalize balV _ _ _ _ _ = B at *
      (repeat' split) <;> omega
  · try simp only [decide_eq_true_eq, decide_eq_false_iff_not, Bool.not_eq_true', Bool.not_eq_false', Bool.and_eq_true, Bool.or_eq_true, Bool.and_eq_false_iff, Bool.or_eq_false_iff, Int.not_lt, Int.not_le] at hc0
    refine TW.skip ?_
    refine TQ.thenN (hY8 _ _ ?_)
    refine TW.seq fun Y11 hY11 => ?_
    refine TW.region ?_
    refine TL.p (by first | exact (Pu.ld ty_sc5) | exact (Pu.ldo ty_sc5)) ?_
    refine TL.p Pu.eq ?_
    refine TL.p Pu.mv ?_
    refine TL.guard (t := 44) rfl (fun hg2 => ?_) (fun hg2 => ?_)
    · try simp only [decide_eq_true_eq, decide_eq_false_iff_not, Bool.not_eq_true', Bool.not_eq_false', Int.natCast_pos] at hg2
      refine TL.gd (by first | exact Pu.fb ty_fa47_1 | exact Pu.fe ty_fa47_1) ?_
      refine TL.gd (by first | exact (Pu.ld ty_sc3) | exact (Pu.ldo ty_sc3)) ?_
      refine TL.gd (by first | exact Pu.fb ty_fa47_0 | exact Pu.fe ty_fa47_0) ?_
      refine TL.gd (by first | exact (Pu.ld ty_sc3) | exact (Pu.ldo ty_sc3)) ?_
      refine TL.gd Pu.gt ?_
      refine TL.p Pu.kt ?_
      refine TL.nil ?_
      refine TQ.thenN (hY11 _ _ ?_)
      refine TW.cond rfl (fun hc1 => ?_) (fun hc1 => ?_)
      · try simp only [decide_eq_true_eq, decide_eq_false_iff_not, Bool.not_eq_true', Bool.not_eq_false', Bool.and_eq_true, Bool.or_eq_true, Bool.and_eq_false_iff, Bool.or_eq_false_iff, Int.not_lt, Int.not_le] at hc1
        refine TW.region ?_
        first | refine TL.st ty_sz5 ?_ | refine TL.se ty_sz5 ?_
        refine TL.nil ?_
        refine TQ.end Tryz.results50 rfl (.nil) ?_
        have hcar : canLo f g = carLo f g ∧ canHi f g = carHi f g := ⟨if_pos hp2, if_pos hp2⟩
        have hbal := balV_form (wlo pk (v 0) (l 0)) (whi pk (v 0) (l 0)) (wlo pk (v 1) (l 1)) (whi pk (v 1) (l 1)) b
        obtain ⟨e1, e2⟩ := hcar
        refine fun w hw => Doing.yes () (readyC_ok hp1 hp2 (need_yes (by decide) hp3)) (fun h => if_pos h) hw (KSub.val (by repeat (first | exact Pick.hd | apply Pick.tl)) ?_ KSub.nil)
        unfold readyF readyV balF
        rw [← e1, ← e2]
        unfold wlo whi at *
        generalize balV _ _ _ _ _ = B at *
        (repeat' split) <;> omega
      · try simp only [decide_eq_true_eq, decide_eq_false_iff_not, Bool.not_eq_true', Bool.not_eq_false', Bool.and_eq_true, Bool.or_eq_true, Bool.and_eq_false_iff, Bool.or_eq_false_iff, Int.not_lt, Int.not_le] at hc1
        refine TW.skip ?_
        refine TQ.end Tryz.results50 rfl (.nil) ?_
        have hcar : canLo f g = carLo f g ∧ canHi f g = carHi f g := ⟨if_pos hp2, if_pos hp2⟩
        have hbal := balV_form (wlo pk (v 0) (l 0)) (whi pk (v 0) (l 0)) (wlo pk (v 1) (l 1)) (whi pk (v 1) (l 1)) b
        obtain ⟨e1, e2⟩ := hcar
        refine fun w hw => Doing.yes () (readyC_ok hp1 hp2 (need_yes (by decide) hp3)) (fun h => if_pos h) hw (KSub.val (by repeat (first | exact Pick.hd | apply Pick.tl)) ?_ KSub.nil)
        unfold readyF readyV balF
        rw [← e1, ← e2]
        unfold wlo whi at *
        generalize balV _ _ _ _ _ = B at *
        (repeat' split) <;> omega
    · try simp only [decide_eq_true_eq, decide_eq_false_iff_not, Bool.not_eq_true', Bool.not_eq_false', Int.natCast_pos] at hg2
      refine TL.gs ?_
      refine TL.gs ?_
      refine TL.gs ?_
      refine TL.gs ?_
      refine TL.gs ?_
      refine TL.p Pu.kf ?_
      refine TL.nil ?_
      refine TQ.thenN (hY11 _ _ ?_)
      refine TW.condF rfl rfl ?_
      refine TW.skip ?_
      refine TQ.end Tryz.results50 rfl (.nil) ?_
      have hcar : canLo f g = carLo f g ∧ canHi f g = carHi f g := ⟨if_pos hp2, if_pos hp2⟩
      have hbal := balV_form (wlo pk (v 0) (l 0)) (whi pk (v 0) (l 0)) (wlo pk (v 1) (l 1)) (whi pk (v 1) (l 1)) b
      obtain ⟨e1, e2⟩ := hcar
      refine fun w hw => Doing.yes () (readyC_ok hp1 hp2 (need_yes (by decide) hp3)) (fun h => if_pos h) hw (KSub.val (by repeat (first | exact Pick.hd | apply Pick.tl)) ?_ KSub.nil)
      unfold readyF readyV balF
      rw [← e1, ← e2]
      unfold wlo whi at *
      generalize balV _ _ _ _ _ = B at *
      (repeat' split) <;> omega
set_option maxRecDepth 100000 in
set_option maxHeartbeats 1000000 in
theorem loadReady_any {w : World} {A : Option Addr} {np cp : Nat} {pk : Nat → Nat → Int} {a : Nat → Option Addr} {l c : Nat → Nat} {v : Nat → Nat → Int} {b : Int} {f g : Nat → Int} {m : Bool} (hL : Lay1 w A np pk a l v) :
    Calls Tryz.prog 21 #[.agg (breedL f).toArray, .agg (camL g m).toArray, .slice A np cp, .agg (tieL a l c).toArray, .int .i64 b] w (Ret w (.tuple #[.int .u8 (readyR np pk l v b f g), .int .i64 (readyC np pk l v b f g)])) := by
  refine K_enter (S := []) (K := []) Tryz.func21 rfl Tryz.ntmps21 rfl (Sat.start _) ?_
  refine TW.seq fun Y1 hY1 => ?_
  refine TW.region ?_
  refine TL.m Mk.bx ?_
  intro b1
  refine TL.m Mk.bx ?_
  intro b2
  refine TL.m Mk.bx ?_
  intro b3
  refine TL.m Mk.bx ?_
  intro b4
  refine TL.m Mk.bx ?_
  intro b5
  refine TL.m (Mk.al ty_zr5) ?_
  intro b6
  refine TL.p Pu.as ?_
  refine TL.nil ?_
  refine TQ.thenN (hY1 _ _ ?_)
  refine TW.seq fun Y2 hY2 => ?_
  refine TW.region ?_
  refine TL.p Pu.fn ?_
  refine TL.call rfl (enters Tryz.func27 rfl rfl) (M := [.blk b6 5 [.int .u8 0]]) (List.Perm.refl _) rfl (fun w hw => by
      have hB1 : Blk w b1 65 (breedL f).toArray := hw.holds (.blk b1 65 (breedL f)) (by simp [breedL])
      have hB2 : Blk w b2 67 (camL g m).toArray := hw.holds (.blk b2 67 (camL g m)) (by simp [camL])
      have hB3 : Blk w b3 22 #[.slice A np cp] := hw.holds (.blk b3 22 [.slice A np cp]) (by simp)
      have hB4 : Blk w b4 34 (tieL a l c).toArray := hw.holds (.blk b4 34 (tieL a l c)) (by simp [tieL])
      have hB5 : Blk w b5 3 #[.int .i64 b] := hw.holds (.blk b5 3 [.int .i64 b]) (by simp)
      have hnd := hw.nd
      simp [feet, Fact.foot] at hnd
      obtain ⟨hself, hge⟩ := feet_new (M := [.blk b6 5 [.int .u8 0]]) hw (List.Perm.refl _)
      have hbel := Chg.ext hw.chg
      have m1 : b1 ∉ [b6] := by simp; omega
      have m2 : b2 ∉ [b6] := by simp; omega
      have m3 : b3 ∉ [b6] := by simp; omega
      have m4 : b4 ∉ [b6] := by simp; omega
      have m5 : b5 ∉ [b6] := by simp; omega
      have ht := trying_any (M := [.blk b6 5 [.int .u8 0]]) (code := readyC np pk l v b f g) (fs := []) (cs := [.pointer (some ⟨b3, 0, none⟩), .pointer (some ⟨b4, 0, none⟩), .pointer (some ⟨b1, 0, none⟩), .pointer (some ⟨b2, 0, none⟩), .pointer (some ⟨b5, 0, none⟩), .pointer (some ⟨b6, 0, none⟩)]) (enters Tryz.func50 rfl rfl) hself fun w' hw' =>
        ready1_any (c := c) (cp := cp) hL (old_below hbel hw' hge) hge ((OldB.of_blk (cs := [_]) hB3).sat hw' m3) ((OldB.of_blk hB4).sat hw' m4) ((OldB.of_blk (cs := [_]) hB5).sat hw' m5) ((OldB.of_blk hB1).sat hw' m1) ((OldB.of_blk hB2).sat hw' m2) m3 m4 m5 m1 m2 hw'.self
      refine Calls.mono (R' := fun e w' => ∃ x : Unit, e = .returned (.int .i64 (readyC np pk l v b f g)) ∧ Sat (feet [.blk b6 5 [.int .u8 0]]) w [.blk b6 5 [.int .u8 (readyR np pk l v b f g)]] w') ht ?_
      rintro e w' ⟨x, he, hs⟩
      refine ⟨(), he, ?_⟩
      unfold readyR
      by_cases h0 : readyC np pk l v b f g = 0
      · replace hs : Sat _ w (if readyC np pk l v b f g = 0 then _ else _) w' := hs
        rw [if_pos h0] at hs
        rw [if_pos h0]
        exact hs
      · replace hs : Sat _ w (if readyC np pk l v b f g = 0 then _ else _) w' := hs
        rw [if_neg h0] at hs
        rw [if_neg h0]
        exact hs) ?_
  rintro ⟨⟩
  refine TL.p Pu.as ?_
  refine TL.nil ?_
  refine TQ.thenN (hY2 _ _ ?_)
  refine TW.seq fun Y3 hY3 => ?_
  refine TW.region ?_
  refine TL.p (Pu.ld ty_sc5) ?_
  refine TL.p Pu.mv ?_
  first | refine TL.st ty_sz5 ?_ | refine TL.se ty_sz5 ?_
  refine TL.p Pu.as ?_
  refine TL.nil ?_
  refine TQ.thenN (hY3 _ _ ?_)
  refine TW.ret ?_
  refine TQ.ret Tryz.results21 rfl ((RV.c1 ty_sc5 (.tmp rfl .nil))) ?_
  exact fun w hw => Ret.of hw
end Go.Proofs.YtljhdcclajikiaaGreatDoor
