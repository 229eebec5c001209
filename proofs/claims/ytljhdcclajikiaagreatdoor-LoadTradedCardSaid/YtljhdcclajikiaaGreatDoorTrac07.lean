/-
  Part 7 of the proof of loadTraded_holds: declarations of several texts, in build order. No condition on a program.
-/
import Derived.Test.YtljhdcclajikiaaGreatDoorTrac06
import Derived.Test.YtljhdcclajikiaaGreatDoorTrac01
import Derived.Test.YtljhdcclajikiaaGreatDoorTrac05
namespace Go.Proofs.YtljhdcclajikiaaGreatDoor
set_option linter.all false
set_option linter.unusedVariables false
set_option linter.unusedSimpArgs false
open Go.RowKit
theorem OldB.chg {w w' : World} {S : List Nat} {b : Nat} {cs : List Value} (h : OldB w b cs) (hc : Chg S w w') (hb : b ∉ S) : OldB w' b cs := ⟨Nat.lt_of_lt_of_le h.1 hc.size, fun j v hv => by rw [hc.cell h.1 hb]; exact h.2 j v hv⟩
theorem RdR.chg0 {w w' : World} {S : List Nat} {sz n : Nat} {A : Option Addr} {r : Nat → List Value} (h : RdR w sz A n r) (hc : Chg S w w') (hA : 0 < n → Apart S A) : RdR w' sz A n r := ⟨fun hn => h.rd.chg hc (hA hn) hn, h.len⟩
theorem moved11_any {w : World} {bx m cm : Nat} {B : Option Addr} {M : List Int} (x : Int) (hm : m = M.length) (h1 : m ≤ 1000000) (hb : OldB w bx [.slice B m cm]) (hM : RdR w 1 B m (iL M)) :
    Calls Tryz.prog 67 #[.int .i64 x, .pointer (some ⟨bx, 0, none⟩)] w (Ret w (.bool (M.contains x))) := by
  refine K_enter (S := []) (K := []) Tryz.func67 rfl Tryz.ntmps67 rfl (Sat.start _) ?_
  refine TW.seq fun Y1 hY1 => ?_
  refine TW.region ?_
  refine TL.p Pu.as ?_
  refine TL.nil ?_
  refine TQ.thenN (hY1 _ _ ?_)
  refine TW.seq fun Y2 hY2 => ?_
  refine TW.region ?_
  refine TL.p (by first | exact (Pu.ld ty_sc24) | exact (Pu.ldo ty_sc24)) ?_
  refine TL.p Pu.mv ?_
  refine TL.cr rfl (enters Tryz.func60 rfl rfl) (fun w hw => by
      exact hasI_any x hm h1 (hM.sat hw Apart.nil)) ?_
  refine TL.p Pu.as ?_
  refine TL.nil ?_
  refine TQ.thenN (hY2 _ _ ?_)
  refine TW.ret ?_
  refine TQ.ret Tryz.results67 rfl ((.tmp rfl .nil)) ?_
  exact fun w hw => Ret.of hw
set_option maxRecDepth 100000 in
theorem moved1_any {W : World} {bx n n2 m cp cq cm : Nat} {A C B : Option Addr} {L L2 M : List Int} (hn : n = L.length) (hn2 : n2 = L2.length) (hm : m = M.length) (h1 : n ≤ 1000) (h2 : n2 ≤ 1000) (h3 : m ≤ 1000) (hL : RdR W 1 A n (iL L)) (hL2 : RdR W 1 C n2 (iL L2)) (hb : OldB W bx [.slice B m cm]) (hM : RdR W 1 B m (iL M)) :
    CallsK Tryz.prog 66 #[.slice A n cp, .slice C n2 cq, .pointer (some ⟨bx, 0, none⟩)] [] W (Option Addr × Nat) (fun x => .slice x.1 (mvd L L2 M).length x.2) (fun x => [.own x.1 (mvd L L2 M).length x.2 3 1 (iL (mvd L L2 M))]) := by
  refine K_enter (S := []) (K := []) Tryz.func66 rfl Tryz.ntmps66 rfl (Sat.start _) ?_
  refine TW.seq fun Y1 hY1 => ?_
  refine TW.region ?_
  refine TL.p Pu.as ?_
  refine TL.nil ?_
  refine TQ.thenN (hY1 _ _ ?_)
  refine TW.seq fun Y2 hY2 => ?_
  refine TW.region ?_
  refine TL.p Pu.mv ?_
  refine TL.call (M := []) rfl (enters Tryz.func45 rfl rfl) (List.Perm.refl _) rfl (fun w hw => by
      exact cloneI_any (v := fun k => L.getD k 0) (by omega) (hL.sat hw Apart.nil)) ?_
  rintro ⟨A1, c1⟩
  refine TL.p Pu.fn ?_
  refine TL.call rfl (enters Tryz.func58 rfl rfl) (List.Perm.refl _) rfl (fun w hw => by
      have hO : OwnR w A1 n c1 3 1 (iL L) := hw.holds (.own A1 n c1 3 1 (fun k => [.int .i64 (L.getD k 0)])) (List.mem_cons_self ..)
      have hge := hw.ge
      refine deleteI_any (fs := []) (cs := [.pointer (some ⟨bx, 0, none⟩)]) (p := fun x => M.contains x) hn (by omega) (enters Tryz.func67 rfl rfl) hO fun x w' hc => ?_
      have hap : ∀ b ∈ feet [Fact.own A1 n c1 3 1 (iL L)], W.heap.size ≤ b := fun b hb9 => by
        rcases hge b hb9 with h | h
        · cases h
        · exact h
      exact moved11_any x hm (by omega) ((hb.sat hw (by simp)).chg hc (fun h => by have := hap bx h; have := hb.1; omega)) ((hM.sat hw Apart.nil).chg0 hc (hM.apart hap))) ?_
  intro _
  refine TL.p Pu.as ?_
  refine TL.nil ?_
  refine TQ.thenN (hY2 _ _ ?_)
  refine TW.seq fun Y3 hY3 => ?_
  refine TW.seq fun Y4 hY4 => ?_
  refine TW.region ?_
  refine TL.p Pu.mv ?_
  refine TL.p (Pu.ln Tryz.underlying24) ?_
  refine TL.p Pu.mv ?_
  refine TL.nil ?_
  refine TQ.thenN (hY4 _ _ ?_)
  refine TW.block ?_
  refine TW.loop5 (fun (k : Nat) (A2 : Option Addr) (c2 : Nat) (T : List Int) (t : Nat) => [(15, .int .i64 (k : Int)), (14, .int .i64 (n2 : Int)), (13, .slice C n2 cq), (6, .slice A2 t c2), (2, .pointer (some ⟨bx, 0, none⟩))]) (fun k A2 c2 T t => [.own A2 t c2 3 1 (iL T)]) (fun k A2 c2 T t => k ≤ n2 ∧ t = T.length ∧ T = L.filter (fun x => !M.contains x) ++ (L2.take k).filter (fun x => M.contains x)) (fun k A2 c2 T t => n2 - k) 0 _ _ (L.filter fun x => !M.contains x) _ (by repeat (first | exact trivial | refine ⟨rfl, ?_⟩ | refine ⟨trivial, ?_⟩)) ?_ ?_ ?_
  · exact (by repeat (first | exact KSub.nil | refine KSub.cons (by repeat (first | exact Pick.hd | apply Pick.tl)) ?_))
  · exact ⟨Nat.zero_le _, rfl, by simp⟩
  rintro k A2 c2 T t ⟨hk, ht, hT⟩ Z0 hZ0
  have htl : t ≤ 2000 := by
    have h4 := List.length_filter_le (fun x => !M.contains x) L
    have h5 := List.length_filter_le (fun x => M.contains x) (L2.take k)
    rw [ht, hT, List.length_append]
    rw [List.length_take] at h5
    omega
  refine TW.seq fun Y5 hY5 => ?_
  refine TW.region ?_
  refine TL.p Pu.lt ?_
  refine TL.nil ?_
  refine TQ.thenN (hY5 _ _ ?_)
  refine TW.seq fun Y6 hY6 => ?_
  refine TW.cond rfl (fun hc0 => ?_) (fun hc0 => ?_)
  · try simp only [decide_eq_true_eq, decide_eq_false_iff_not, Bool.not_eq_true', Bool.not_eq_false', Bool.and_eq_true, Bool.or_eq_true, Bool.and_eq_false_iff, Bool.or_eq_false_iff, Int.not_lt, Int.not_le] at hc0
    have hkn : k < n2 := by omega
    have hft : (L2.take (k + 1)).filter (fun x => M.contains x) = if M.contains (L2.getD k 0) = true then (L2.take k).filter (fun x => M.contains x) ++ [L2.getD k 0] else (L2.take k).filter (fun x => M.contains x) := filter_take (by omega)
    refine TW.skip ?_
    refine TQ.thenN (hY6 _ _ ?_)
    refine TW.seq fun Y7 hY7 => ?_
    refine TW.block ?_
    refine TW.seq fun Y8 hY8 => ?_
    refine TW.region ?_
    refine TL.p (Pu.el ty_et24) ?_
    refine TL.p (by first | exact (Pu.ld ty_sc3) | exact (Pu.ldo ty_sc3)) ?_
    refine TL.p Pu.as ?_
    refine TL.nil ?_
    refine TQ.thenN (hY8 _ _ ?_)
    refine TW.seq fun Y9 hY9 => ?_
    refine TW.region ?_
    refine TL.p (by first | exact (Pu.ld ty_sc24) | exact (Pu.ldo ty_sc24)) ?_
    refine TL.p Pu.mv ?_
    refine TL.cr rfl (enters Tryz.func60 rfl rfl) (fun w hw => by
        exact hasI_any _ hm (by omega) (hM.sat hw Apart.nil)) ?_
    refine TL.nil ?_
    refine TQ.thenN (hY9 _ _ ?_)
    refine TW.cond rfl (fun hc1 => ?_) (fun hc1 => ?_)
    · try simp only [decide_eq_true_eq, decide_eq_false_iff_not, Bool.not_eq_true', Bool.not_eq_false', Bool.and_eq_true, Bool.or_eq_true, Bool.and_eq_false_iff, Bool.or_eq_false_iff, Int.not_lt, Int.not_le] at hc1
      obtain ⟨T', hT'⟩ : ∃ y, y = T ++ [L2.getD k 0] := ⟨_, rfl⟩
      have s1 : t + 1 = T'.length := by rw [hT', List.length_append, ← ht]; rfl
      have s2 : T' = L.filter (fun x => !M.contains x) ++ (L2.take (k + 1)).filter (fun x => M.contains x) := by rw [hT', hT, hft, if_pos hc1, List.append_assoc]
      refine TW.region ?_
      refine TL.p Pu.mv ?_
      refine TL.p Pu.mv ?_
      refine TL.m Mk.bl ?_
      intro b1
      first | refine TL.a0 ty_et24 ?_ | refine TL.ap ty_et24 ?_
      intro A2 c2
      refine TL.p Pu.as ?_
      refine TL.nil ?_
      refine TQ.blkN ?_
      refine TQ.thenN (hY7 _ _ ?_)
      refine TW.region ?_
      refine TL.p Pu.ad ?_
      refine TL.p Pu.mv ?_
      refine TL.nil ?_
      refine TQ.thenN (hZ0 (k + 1) _ _ T' _ _ _ ?_ ?_ (by repeat (first | exact trivial | refine ⟨rfl, ?_⟩ | refine ⟨trivial, ?_⟩)) ?_)
      · exact ⟨by omega, s1, s2⟩
      · exact (by first | omega | (simp only []; omega) | (simp; omega))
      · first
          | exact KSub.own Pick.hd (iL_app ht hT' rfl) KSub.nil
          | exact KSub.own Pick.hd (fun i _ => by rw [hT']) KSub.nil
    · try simp only [decide_eq_true_eq, decide_eq_false_iff_not, Bool.not_eq_true', Bool.not_eq_false', Bool.and_eq_true, Bool.or_eq_true, Bool.and_eq_false_iff, Bool.or_eq_false_iff, Int.not_lt, Int.not_le] at hc1
      obtain ⟨T', hT'⟩ : ∃ y, y = T := ⟨_, rfl⟩
      have s1 : t = T'.length := by rw [hT', ← ht]
      have s2 : T' = L.filter (fun x => !M.contains x) ++ (L2.take (k + 1)).filter (fun x => M.contains x) := by rw [hT', hT, hft, if_neg (by rw [hc1]; decide)]
      refine TW.skip ?_
      refine TQ.blkN ?_
      refine TQ.thenN (hY7 _ _ ?_)
      refine TW.region ?_
      refine TL.p Pu.ad ?_
      refine TL.p Pu.mv ?_
      refine TL.nil ?_
      refine TQ.thenN (hZ0 (k + 1) _ _ T' _ _ _ ?_ ?_ (by repeat (first | exact trivial | refine ⟨rfl, ?_⟩ | refine ⟨trivial, ?_⟩)) ?_)
      · exact ⟨by omega, s1, s2⟩
      · exact (by first | omega | (simp only []; omega) | (simp; omega))
      · first
          | exact KSub.own Pick.hd (iL_app ht hT' rfl) KSub.nil
          | exact KSub.own Pick.hd (fun i _ => by rw [hT']) KSub.nil
  · try simp only [decide_eq_true_eq, decide_eq_false_iff_not, Bool.not_eq_true', Bool.not_eq_false', Bool.and_eq_true, Bool.or_eq_true, Bool.and_eq_false_iff, Bool.or_eq_false_iff, Int.not_lt, Int.not_le] at hc0
    obtain rfl : k = n2 := by omega
    have hT2 : srt T = mvd L L2 M := by rw [hT, hn2, List.take_length]; rfl
    refine TW.exit ?_
    refine TQ.thenX ?_
    refine TQ.thenX ?_
    refine TQ.blkX ?_
    refine TQ.thenN (hY3 _ _ ?_)
    refine TW.seq fun Y10 hY10 => ?_
    refine TW.region ?_
    refine TL.p Pu.mv ?_
    refine TL.call rfl (enters Tryz.func36 rfl rfl) (List.Perm.refl _) rfl (fun w hw => by
        exact sortI_any ht (by omega) (hw.holds (.own A2 t c2 3 1 (iL T)) (List.mem_cons_self ..))) ?_
    intro _
    refine TL.nil ?_
    refine TQ.thenN (hY10 _ _ ?_)
    refine TW.seq fun Y11 hY11 => ?_
    refine TW.region ?_
    refine TL.p Pu.mv ?_
    refine TL.p Pu.as ?_
    refine TL.nil ?_
    refine TQ.thenN (hY11 _ _ ?_)
    refine TW.ret ?_
    refine TQ.ret Tryz.results66 rfl ((.tmp rfl .nil)) ?_
    exact fun w hw => ⟨(A2, c2), by rw [← hT2, srt_len, ← ht]; rfl, by
      rw [← hT2, srt_len, ← ht]
      exact hw.sub (by repeat (first | exact KSub.nil | refine KSub.cons (by repeat (first | exact Pick.hd | apply Pick.tl)) ?_))⟩
abbrev MVx := (Option Addr × Nat) × (Option Addr × Nat)
def mvT (a : Nat → Option Addr) (l c : Nat → Nat) (L0 L1 M : List Int) (x : MVx) : List Value := [.slice x.1.1 (mvd L0 L1 M).length x.1.2, .slice x.2.1 (mvd L1 L0 M).length x.2.2, .slice (a 2) (l 2) (c 2)]
def mvK (L0 L1 M : List Int) (x : MVx) : List Fact := [.own x.1.1 (mvd L0 L1 M).length x.1.2 3 1 (iL (mvd L0 L1 M)), .own x.2.1 (mvd L1 L0 M).length x.2.2 3 1 (iL (mvd L1 L0 M))]
set_option maxRecDepth 100000 in
set_option maxHeartbeats 1000000 in
theorem moved_any {W : World} {m cm nr cr : Nat} {a : Nat → Option Addr} {l c : Nat → Nat} {Ar B : Option Addr} {L0 L1 M : List Int} (h0 : l 0 = L0.length) (h1 : l 1 = L1.length) (hm : m = M.length) (h2 : l 0 ≤ 1000) (h3 : l 1 ≤ 1000) (h4 : m ≤ 1000) (hL0 : RdR W 1 (a 0) (l 0) (iL L0)) (hL1 : RdR W 1 (a 1) (l 1) (iL L1)) (hM : RdR W 1 B m (iL M)) :
    CallsK Tryz.prog 35 #[.agg (tiedL a l c Ar nr cr).toArray, .slice B m cm] [] W MVx (fun x => .agg (mvT a l c L0 L1 M x ++ [Value.slice Ar nr cr]).toArray) (mvK L0 L1 M) := by
  unfold tiedL
  refine K_enter (S := []) (K := []) Tryz.func35 rfl Tryz.ntmps35 rfl (Sat.start _) ?_
  refine TW.seq fun Y1 hY1 => ?_
  refine TW.region ?_
  refine TL.m Mk.bx ?_
  intro b1
  refine TL.m Mk.bx ?_
  intro b2
  refine TL.m (Mk.al ty_zr84) ?_
  intro b3
  refine TL.nil ?_
  refine TQ.thenN (hY1 _ _ ?_)
  refine TW.seq fun Y2 hY2 => ?_
  refine TW.region ?_
  refine TL.p Pu.fn ?_
  refine TL.p Pu.as ?_
  refine TL.nil ?_
  refine TQ.thenN (hY2 _ _ ?_)
  refine TW.seq fun Y3 hY3 => ?_
  refine TW.ex0k [.blk b1 84 [.slice (a 0) (l 0) (c 0), .slice (a 1) (l 1) (c 1), .slice (a 2) (l 2) (c 2), .slice Ar nr cr], .blk b2 24 [.slice B m cm]] ?_
  refine RG.tk 0 rfl Pu.mv ?_
  refine RG.tk 1 rfl (by first | exact Pu.fb ty_fa84_0 | exact Pu.fe ty_fa84_0) ?_
  refine RG.tk 2 rfl (by first | exact Pu.fb ty_fa34_0 | exact Pu.fe ty_fa34_0) ?_
  refine RG.tk 3 rfl (Pu.ld ty_sc24) ?_
  refine RG.tk 4 rfl (by first | exact Pu.fb ty_fa84_0 | exact Pu.fe ty_fa84_0) ?_
  refine RG.tk 5 rfl (by first | exact Pu.fb ty_fa34_1 | exact Pu.fe ty_fa34_1) ?_
  refine RG.tk 6 rfl (Pu.ld ty_sc24) ?_
  refine RG.tk 8 rfl Pu.mv ?_
  refine RG.tk 9 rfl (by first | exact Pu.fb ty_fa84_0 | exact Pu.fe ty_fa84_0) ?_
  refine RG.tk 10 rfl (by first | exact Pu.fb ty_fa34_1 | exact Pu.fe ty_fa34_1) ?_
  refine RG.tk 11 rfl (Pu.ld ty_sc24) ?_
  refine RG.tk 12 rfl (by first | exact Pu.fb ty_fa84_0 | exact Pu.fe ty_fa84_0) ?_
  refine RG.tk 13 rfl (by first | exact Pu.fb ty_fa34_0 | exact Pu.fe ty_fa34_0) ?_
  refine RG.tk 14 rfl (Pu.ld ty_sc24) ?_
  refine RG.tk 16 rfl (by first | exact Pu.fb ty_fa84_0 | exact Pu.fe ty_fa84_0) ?_
  refine RG.tk 17 rfl (by first | exact Pu.fb ty_fa34_2 | exact Pu.fe ty_fa34_2) ?_
  refine RG.tk 18 rfl (Pu.ld ty_sc24) ?_
  refine RG.tk 20 rfl (by first | exact Pu.fb ty_fa84_1 | exact Pu.fe ty_fa84_1) ?_
  refine RG.tk 21 rfl (Pu.ld ty_sc81) ?_
  refine RG.a1 7 rfl (fun X7 hX7 => ?_)
  refine TL.cvk rfl rfl (enters Tryz.func66 rfl rfl) (M := []) (List.Perm.refl _) (fun w hw => by
      exact moved1_any h0 h1 hm (by omega) (by omega) (by omega) (hL0.sat hw Apart.nil) (hL1.sat hw Apart.nil) (OldB.of_blk (hw.holds (.blk b2 24 [.slice B m cm]) (by simp))) (hM.sat hw Apart.nil)) ?_
  rintro ⟨A1, c1⟩
  refine TL.nil ?_
  refine TQ.nxt (hX7 _ _ (by repeat (first | exact HasL.nil | refine HasL.cons (by repeat (first | exact Pick.hd | apply Pick.tl)) ?_)) ?_)
  refine RG.a1 15 rfl (fun X15 hX15 => ?_)
  refine TL.cvk rfl rfl (enters Tryz.func66 rfl rfl) (M := []) (List.Perm.refl _) (fun w hw => by
      exact moved1_any h1 h0 hm (by omega) (by omega) (by omega) (hL1.sat hw Apart.nil) (hL0.sat hw Apart.nil) (OldB.of_blk (hw.holds (.blk b2 24 [.slice B m cm]) (by simp))) (hM.sat hw Apart.nil)) ?_
  rintro ⟨A2, c2⟩
  refine TL.nil ?_
  refine TQ.nxt (hX15 _ _ (by repeat (first | exact HasL.nil | refine HasL.cons (by repeat (first | exact Pick.hd | apply Pick.tl)) ?_)) ?_)
  refine RG.a1 19 rfl (fun X19 hX19 => ?_)
  refine TL.p Pu.bd ?_
  refine TL.nil ?_
  refine TQ.nxt (hX19 _ _ (by repeat (first | exact HasL.nil | refine HasL.cons (by repeat (first | exact Pick.hd | apply Pick.tl)) ?_)) ?_)
  refine RG.a1 22 rfl (fun X22 hX22 => ?_)
  refine TL.p Pu.bd ?_
  refine TL.nil ?_
  refine TQ.nxt (hX22 _ _ (by repeat (first | exact HasL.nil | refine HasL.cons (by repeat (first | exact Pick.hd | apply Pick.tl)) ?_)) ?_)
  refine RG.a1 23 rfl (fun X23 hX23 => ?_)
  first | refine TL.st ty_sz84 ?_ | refine TL.se ty_sz84 ?_
  refine TL.nil ?_
  refine TQ.nxt (hX23 _ _ (by repeat (first | exact HasL.nil | refine HasL.cons (by repeat (first | exact Pick.hd | apply Pick.tl)) ?_)) ?_)
  refine RG.nil ?_ (by kernel_rfl)
  refine TQ.thenN (hY3 _ _ ?_)
  refine TW.ret ?_
  refine TQ.ret Tryz.results35 rfl ((RV.cs ty_ag84 .nil)) ?_
  exact fun w hw => ⟨((A1, c1), (A2, c2)), rfl, hw.sub (by unfold mvK; repeat (first | exact KSub.nil | refine KSub.cons (by repeat (first | exact Pick.hd | apply Pick.tl)) ?_))⟩
end Go.Proofs.YtljhdcclajikiaaGreatDoor
namespace Go.Proofs.YtljhdcclajikiaaGreatDoor
set_option linter.all false
set_option linter.unusedVariables false
set_option linter.unusedSimpArgs false
open Go.RowKit
def TWi (l : Nat) (c : Cx) (code : Code) (Q : Exit → Act → World → Prop) (F : Fr) (K : List Fact) : Prop := ∀ a w, FS c.n c.D F a → Sat c.S c.w0 K w → code.wpIn (Fence.wide.inRound l) 0 c.P Q a w
theorem operIn {P : Program} {l m : Nat} {o : Oper} {a : Act} {w : World} {K K' : Act → World → Prop} {Q : Exit → Act → World → Prop} (hK : ∀ a w, K a w → K' a w) (hnd : ∀ c, o.op ≠ .defer c) (h : o.wp P a w K Q) : o.wpIn (Fence.wide.inRound l) m P a w K' Q := by
  refine ⟨fun _ _ => trivial, ?_⟩
  rw [Fence.inRound_round, Oper.semAt_some l a.eval o hnd]
  unfold Oper.wp at h
  generalize (execOp a.eval o).run P w = r at *
  cases r with
  | ok x w' =>
    cases x <;> simp only [Oper.upon] at h <;> simp only [Oper.uponIn]
    case value u => exact hK _ _ h
    case skip => exact hK _ _ h
    case defer d => exact hK _ _ h
    case enter f args =>
      refine ⟨fun h9 => (by simp [Fence.wide] at h9), CallsIn.inRound l (callsIn_wide.2 (Calls.mono h fun e w'' he => ?_))⟩
      cases e with
      | returned u => exact hK _ _ he
      | panicked ch => exact he
      | outgrown => exact he
    case row row args =>
      refine ⟨fun h9 => (by simp [Fence.wide] at h9), fun c cs _ => ?_⟩
      obtain ⟨v, w'', r1, s1⟩ := h c cs
      exact ⟨v, w'', hK _ _ r1, stepsIn_wide.2 s1⟩
  | halt x w' => cases x <;> simp only [Oper.upon] at h <;> exact h
theorem operWide {P : Program} {m : Nat} {o : Oper} {a : Act} {w : World} {Z K' : Act → World → Prop} {Q : Exit → Act → World → Prop} (hK : ∀ a w, Z a w → K' a w) (h : o.wp P a w Z (nxt Z Q)) : o.wpIn Fence.wide m P a w K' Q := by
  refine ⟨fun _ _ => trivial, ?_⟩
  rw [Fence.wide_round, Oper.semAt_none]
  unfold Oper.wp at h
  generalize (execOp a.eval o).run P w = r at *
  cases r with
  | ok x w' =>
    cases x <;> simp only [Oper.upon] at h <;> simp only [Oper.uponIn]
    case value u => exact hK _ _ h
    case skip => exact hK _ _ h
    case defer d => exact hK _ _ h
    case enter f args =>
      refine ⟨fun h9 => (by simp [Fence.wide] at h9), callsIn_wide.2 (Calls.mono h fun e w'' he => ?_)⟩
      cases e with
      | returned u => exact hK _ _ he
      | panicked ch => exact he
      | outgrown => obtain ⟨x, y, z⟩ := he; exact ⟨x, y, z⟩
    case row row args =>
      refine ⟨fun h9 => (by simp [Fence.wide] at h9), fun c cs _ => ?_⟩
      obtain ⟨v, w'', r1, s1⟩ := h c cs
      exact ⟨v, w'', hK _ _ r1, stepsIn_wide.2 s1⟩
  | halt x w' => cases x <;> simp only [Oper.upon] at h <;> exact h
def noDeferL (l : List Oper) : Bool := l.all fun o => match o.op with | .defer _ => false | _ => true
theorem listIn {P : Program} {ops : Array Oper} {Q : Exit → Act → World → Prop} {l m : Nat} (hL : ¬ LetsOut Q) : ∀ (rest : List Oper), noDeferL rest = true → ∀ a w, wpList P ops Q rest a w → wpListIn (Fence.wide.inRound l) m P ops Q rest a w
  | [], _, _, _, h => h
  | o :: rest, hn, a, w, h => by
    simp only [noDeferL, List.all_cons, Bool.and_eq_true] at hn
    unfold wpList at h
    unfold wpListIn
    split
    · rename_i hw
      rw [if_pos hw] at h
      rcases h with h | ⟨_, h⟩
      · exact operIn (fun a w h => listIn hL rest hn.2 a w h) (fun c e => by rw [e] at hn; simp at hn) h
      · exact absurd h hL
    · rename_i hw
      rw [if_neg hw] at h
      exact ⟨fun _ _ => trivial, listIn hL rest hn.2 _ _ h⟩
theorem rounds_mono {F : Fence} {n : Nat} {P : Program} {x : Code} {Q : Exit → Act → World → Prop} : ∀ {m m' : Nat} {a : Act} {w : World}, m ≤ m' → Code.roundsIn F n P x Q m a w → Code.roundsIn F n P x Q m' a w
  | 0, _, _, _, _, h => h.elim
  | m + 1, 0, _, _, hm, _ => by omega
  | m + 1, m' + 1, a, w, hm, h => by
    refine wpIn_mono h fun e a w he => ?_
    cases e with
    | normal => exact rounds_mono (by omega) he
    | _ => exact he
section
variable {l : Nat} {c : Cx} {Q : Exit → Act → World → Prop} {F F' : Fr} {K K' K0 : List Fact} {ops : Array Oper} {rest : List Oper} {d : Option Tmp} {ty : TypeId} {pos : String} {af : Array Edge} {g : Option (Nat × Bool)}
theorem TWi.seq {x y : Code} (h : ∀ Y : Act → World → Prop, (∀ F K, TWi l c y Q F K → TQ c (fun _ => Y) .normal F K) → TWi l c x (Exit.then Y Q) F K) : TWi l c (.seq x y) Q F K := fun a w hF hK =>
  wpIn_seq (h (y.wpIn (Fence.wide.inRound l) 0 c.P Q) (fun _ _ h => h) a w hF hK)
theorem TWi.block {i : Nat} {x : Code} (h : TWi l c x (Exit.inBlock i Q) F K) : TWi l c (.block i x) Q F K := fun a w hF hK => wpIn_block (h a w hF hK)
theorem TWi.ret (h : TQ c Q .ret F K) : TWi l c .ret Q F K := fun a w hF hK => wpIn_ret (h a w hF hK)
theorem TWi.exit {i : Nat} (h : TQ c Q (.exit i) F K) : TWi l c (.exit i) Q F K := fun a w hF hK => wpIn_exit (h a w hF hK)
theorem TWi.skip (h : TQ c Q .normal F K) : TWi l c .skip Q F K := fun a w hF hK => wpIn_skip (h a w hF hK)
theorem TWi.cond {x : Operand} {s t : Code} {b : Bool} (hx : ev F x = some (.bool b)) (ht : b = true → TWi l c s Q F K) (hf : b = false → TWi l c t Q F K) : TWi l c (.cond x s t) Q F K := fun a w hF hK =>
  wpIn_cond_split (hF.evl hx) (fun e => ht e a w hF hK) (fun e => hf e a w hF hK)
theorem TWi.condT {x : Operand} {s t : Code} {b : Bool} (hx : ev F x = some (.bool b)) (hb : b = true) (h : TWi l c s Q F K) : TWi l c (.cond x s t) Q F K := TWi.cond hx (fun _ => h) (fun e => by rw [hb] at e; cases e)
theorem TWi.condF {x : Operand} {s t : Code} {b : Bool} (hx : ev F x = some (.bool b)) (hb : b = false) (h : TWi l c t Q F K) : TWi l c (.cond x s t) Q F K := TWi.cond hx (fun e => by rw [hb] at e; cases e) (fun _ => h)
theorem TWi.sub {x : Code} (hF : fsub F F') (hK : KSub K K') (h : TWi l c x Q F' K') : TWi l c x Q F K := fun a w hf hk => h a w (hf.sub (fsub_spec hF)) (hk.sub hK)
theorem TWi.subK {x : Code} (hK : KSub K K') (h : TWi l c x Q F K') : TWi l c x Q F K := fun a w hf hk => h a w hf (hk.sub hK)
theorem TWi.join {x : Code} (E : Fr) (h : TQ c Q .normal (E ++ F) K) (r : TQ c Q .normal (E ++ F) K → TWi l c x Q F K) : TWi l c x Q F K := r h
theorem TWi.region {id : Nat} {os : List Oper} (h : TL c os.toArray Q os F K) (hnd : noDeferL os = true := by rfl) (hL : ¬ LetsOut Q := by (rintro ⟨_, _, h⟩; exact h)) : TWi l c (.region id os.toArray false) Q F K := fun a w hF hK => wpIn_region_lit (listIn hL os hnd a w (h a w hF hK))
theorem TWi.dw {id : Nat} {os : List Oper} (nf : Nat) (h : RK c os.toArray Q nf 0 (os.take nf) [] [] (Array.replicate nf false) nf F K) (hm : c.P.follows .mixedOrders = true := by rfl) (hT : tailOk os.toArray nf = true := by kernel_rfl) (hp : Pan Q := by (intro d _ _ _ _; cases d <;> exact Iff.rfl)) (hnd : noDefer os.toArray = true := by kernel_rfl) (hL : ¬ LetsOut Q := by (rintro ⟨_, _, h⟩; exact h)) : TWi l c (.region id os.toArray true) Q F K := fun a w hF hK =>
  RW.beginIn hm hT hp hnd hL fun hb => h a w _ hF hK hb
theorem TWi.any {id : Nat} {os : List Oper} (hm : c.P.follows .mixedOrders = true) (hnd : noDefer os.toArray = true) (hL : ¬ LetsOut Q) (h : ∀ a w, FS c.n c.D F a → Sat c.S c.w0 K w → wpAnyH c.P .any os.toArray Q (Sat c.S c.w0 K0) os.length (Array.replicate os.length false) a w) : TWi l c (.region id os.toArray true) Q F K := fun a w hF hK => by
  refine wpIn_region_any hm (anyIn hnd hL _ _ _ _ (wpAny_of_held (S := Sat c.S c.w0 K0) _ _ _ _ ?_))
  rw [List.size_toArray]
  exact h a w.drew hF (hK.ext (keep_drew w))
theorem TWi.rf {id : Nat} {os : List Oper} (hd : Drop F K K0) (h : RF c os.toArray Q K0 0 os [] (Array.replicate os.length false) os.length F K) (hm : c.P.follows .mixedOrders = true := by rfl) (hp : Pan Q := by (intro d _ _ _ _; cases d <;> exact Iff.rfl)) (hnd : noDefer os.toArray = true := by kernel_rfl) (hL : ¬ LetsOut Q := by (rintro ⟨_, _, h⟩; exact h)) : TWi l c (.region id os.toArray true) Q F K :=
  TWi.any (K0 := K0) hm hnd hL fun a w hF hK => h rfl (fun p hp => by cases hp) hp a w hF hK
theorem TWi.ex0k {id : Nat} {os : List Oper} (K0 : List Fact) (h2 : RG c os.toArray Q K0 [] (Array.replicate os.length false) os.length F K) (hm : c.P.follows .mixedOrders = true := by rfl) (hnd : noDefer os.toArray = true := by kernel_rfl) (hL : ¬ LetsOut Q := by (rintro ⟨_, _, h⟩; exact h)) : TWi l c (.region id os.toArray true) Q F K :=
  TWi.any (K0 := K0) hm hnd hL fun a w hF hK => h2 (fun p hp => by cases hp) a w hF hK
theorem TWi.ex0 {id : Nat} {os : List Oper} (hd : Drop F K K0) (h2 : RG c os.toArray Q K0 [] (Array.replicate os.length false) os.length F K) (hm : c.P.follows .mixedOrders = true := by rfl) (hnd : noDefer os.toArray = true := by kernel_rfl) (hL : ¬ LetsOut Q := by (rintro ⟨_, _, h⟩; exact h)) : TWi l c (.region id os.toArray true) Q F K := TWi.ex0k K0 h2 hm hnd hL
theorem TWi.expl {id : Nat} {os : List Oper} {X : Type} (Fj : X → Fr) (Kj : X → List Fact) (hd : Drop F K K0) (h1 : ∀ x, TQ c Q .normal (Fj x) (Kj x)) (h2 : (∀ x, TQ c Q .normal (Fj x) (Kj x)) → RG c os.toArray Q K0 [] (Array.replicate os.length false) os.length F K) (hm : c.P.follows .mixedOrders = true := by rfl) (hnd : noDefer os.toArray = true := by kernel_rfl) (hL : ¬ LetsOut Q := by (rintro ⟨_, _, h⟩; exact h)) : TWi l c (.region id os.toArray true) Q F K := TWi.ex0k K0 (h2 h1) hm hnd hL
theorem TWi.expk {id : Nat} {os : List Oper} {X : Type} (K0 : List Fact) (Fj : X → Fr) (Kj : X → List Fact) (h1 : ∀ x, TQ c Q .normal (Fj x) (Kj x)) (h2 : (∀ x, TQ c Q .normal (Fj x) (Kj x)) → RG c os.toArray Q K0 [] (Array.replicate os.length false) os.length F K) (hm : c.P.follows .mixedOrders = true := by rfl) (hnd : noDefer os.toArray = true := by kernel_rfl) (hL : ¬ LetsOut Q := by (rintro ⟨_, _, h⟩; exact h)) : TWi l c (.region id os.toArray true) Q F K := TWi.ex0k K0 (h2 h1) hm hnd hL
theorem TWi.loop {ι : Type} {x : Code} (FI : ι → Fr) (KI : ι → List Fact) (μ : ι → Nat) (i0 : ι) (hF : fsub F (FI i0)) (hK : KSub K (KI i0))
    (round : ∀ i, ∀ Y : Act → World → Prop, (∀ j F K, μ j < μ i → fsub F (FI j) → KSub K (KI j) → TQ c (fun _ => Y) .normal F K) → TWi l c x (Exit.then Y Q) (FI i) (KI i)) : TWi l c (.loop x) Q F K := fun a w hf hk => by
  have key : ∀ (k : Nat) (i : ι) (a : Act) (w : World), μ i = k → FS c.n c.D (FI i) a → Sat c.S c.w0 (KI i) w → Code.roundsIn (Fence.wide.inRound l) 0 c.P x Q (k + 1) a w := by
    intro k
    induction k using Nat.strongRecOn with
    | _ k ih =>
      rintro i a w rfl hf hk
      rw [roundsIn_succ]
      refine round i _ (fun j F K hj hF hK a w h1 h2 => ?_) a w hf hk
      exact rounds_mono (by omega) (ih (μ j) hj j a w rfl (h1.sub (fsub_spec hF)) (h2.sub hK))
  exact wpIn_loop_rounds _ (key _ i0 a w rfl (hf.sub (fsub_spec hF)) (hk.sub hK))
theorem TWi.loop1 {ι1 : Type} {x : Code} (FI : ι1 → Fr) (KI : ι1 → List Fact) (p : ι1 → Prop) (μ : ι1 → Nat) (i1 : ι1) (hF : fsub F (FI i1)) (hK : KSub K (KI i1)) (hp : p i1)
    (round : ∀ i1, p i1 → ∀ Y : Act → World → Prop, (∀ j1 F K, p j1 → μ j1 < μ i1 → fsub F (FI j1) → KSub K (KI j1) → TQ c (fun _ => Y) .normal F K) → TWi l c x (Exit.then Y Q) (FI i1) (KI i1)) : TWi l c (.loop x) Q F K :=
  TWi.loop (ι := { t : ι1 // p t }) (fun t => FI t.1) (fun t => KI t.1) (fun t => μ t.1) ⟨i1, hp⟩ hF hK fun t Y hY => round t.1 t.2 Y fun j1 F K h1 h2 h3 h4 => hY ⟨j1, h1⟩ F K h2 h3 h4
theorem TWi.loop2 {ι1 ι2 : Type} {x : Code} (FI : ι1 → ι2 → Fr) (KI : ι1 → ι2 → List Fact) (p : ι1 → ι2 → Prop) (μ : ι1 → ι2 → Nat) (i1 : ι1) (i2 : ι2) (hF : fsub F (FI i1 i2)) (hK : KSub K (KI i1 i2)) (hp : p i1 i2)
    (round : ∀ i1 i2, p i1 i2 → ∀ Y : Act → World → Prop, (∀ j1 j2 F K, p j1 j2 → μ j1 j2 < μ i1 i2 → fsub F (FI j1 j2) → KSub K (KI j1 j2) → TQ c (fun _ => Y) .normal F K) → TWi l c x (Exit.then Y Q) (FI i1 i2) (KI i1 i2)) : TWi l c (.loop x) Q F K :=
  TWi.loop (ι := { t : ι1 × ι2 // p t.1 t.2 }) (fun t => FI t.1.1 t.1.2) (fun t => KI t.1.1 t.1.2) (fun t => μ t.1.1 t.1.2) ⟨(i1, i2), hp⟩ hF hK fun t Y hY => round t.1.1 t.1.2 t.2 Y fun j1 j2 F K h1 h2 h3 h4 => hY ⟨(j1, j2), h1⟩ F K h2 h3 h4
theorem TWi.loop3 {ι1 ι2 ι3 : Type} {x : Code} (FI : ι1 → ι2 → ι3 → Fr) (KI : ι1 → ι2 → ι3 → List Fact) (p : ι1 → ι2 → ι3 → Prop) (μ : ι1 → ι2 → ι3 → Nat) (i1 : ι1) (i2 : ι2) (i3 : ι3) (hF : fsub F (FI i1 i2 i3)) (hK : KSub K (KI i1 i2 i3)) (hp : p i1 i2 i3)
    (round : ∀ i1 i2 i3, p i1 i2 i3 → ∀ Y : Act → World → Prop, (∀ j1 j2 j3 F K, p j1 j2 j3 → μ j1 j2 j3 < μ i1 i2 i3 → fsub F (FI j1 j2 j3) → KSub K (KI j1 j2 j3) → TQ c (fun _ => Y) .normal F K) → TWi l c x (Exit.then Y Q) (FI i1 i2 i3) (KI i1 i2 i3)) : TWi l c (.loop x) Q F K :=
  TWi.loop (ι := { t : ι1 × ι2 × ι3 // p t.1 t.2.1 t.2.2 }) (fun t => FI t.1.1 t.1.2.1 t.1.2.2) (fun t => KI t.1.1 t.1.2.1 t.1.2.2) (fun t => μ t.1.1 t.1.2.1 t.1.2.2) ⟨(i1, i2, i3), hp⟩ hF hK fun t Y hY => round t.1.1 t.1.2.1 t.1.2.2 t.2 Y fun j1 j2 j3 F K h1 h2 h3 h4 => hY ⟨(j1, j2, j3), h1⟩ F K h2 h3 h4
theorem TWi.loop4 {ι1 ι2 ι3 ι4 : Type} {x : Code} (FI : ι1 → ι2 → ι3 → ι4 → Fr) (KI : ι1 → ι2 → ι3 → ι4 → List Fact) (p : ι1 → ι2 → ι3 → ι4 → Prop) (μ : ι1 → ι2 → ι3 → ι4 → Nat) (i1 : ι1) (i2 : ι2) (i3 : ι3) (i4 : ι4) (hF : fsub F (FI i1 i2 i3 i4)) (hK : KSub K (KI i1 i2 i3 i4)) (hp : p i1 i2 i3 i4)
    (round : ∀ i1 i2 i3 i4, p i1 i2 i3 i4 → ∀ Y : Act → World → Prop, (∀ j1 j2 j3 j4 F K, p j1 j2 j3 j4 → μ j1 j2 j3 j4 < μ i1 i2 i3 i4 → fsub F (FI j1 j2 j3 j4) → KSub K (KI j1 j2 j3 j4) → TQ c (fun _ => Y) .normal F K) → TWi l c x (Exit.then Y Q) (FI i1 i2 i3 i4) (KI i1 i2 i3 i4)) : TWi l c (.loop x) Q F K :=
  TWi.loop (ι := { t : ι1 × ι2 × ι3 × ι4 // p t.1 t.2.1 t.2.2.1 t.2.2.2 }) (fun t => FI t.1.1 t.1.2.1 t.1.2.2.1 t.1.2.2.2) (fun t => KI t.1.1 t.1.2.1 t.1.2.2.1 t.1.2.2.2) (fun t => μ t.1.1 t.1.2.1 t.1.2.2.1 t.1.2.2.2) ⟨(i1, i2, i3, i4), hp⟩ hF hK fun t Y hY => round t.1.1 t.1.2.1 t.1.2.2.1 t.1.2.2.2 t.2 Y fun j1 j2 j3 j4 F K h1 h2 h3 h4 => hY ⟨(j1, j2, j3, j4), h1⟩ F K h2 h3 h4
theorem TWi.loop5 {ι1 ι2 ι3 ι4 ι5 : Type} {x : Code} (FI : ι1 → ι2 → ι3 → ι4 → ι5 → Fr) (KI : ι1 → ι2 → ι3 → ι4 → ι5 → List Fact) (p : ι1 → ι2 → ι3 → ι4 → ι5 → Prop) (μ : ι1 → ι2 → ι3 → ι4 → ι5 → Nat) (i1 : ι1) (i2 : ι2) (i3 : ι3) (i4 : ι4) (i5 : ι5) (hF : fsub F (FI i1 i2 i3 i4 i5)) (hK : KSub K (KI i1 i2 i3 i4 i5)) (hp : p i1 i2 i3 i4 i5)
    (round : ∀ i1 i2 i3 i4 i5, p i1 i2 i3 i4 i5 → ∀ Y : Act → World → Prop, (∀ j1 j2 j3 j4 j5 F K, p j1 j2 j3 j4 j5 → μ j1 j2 j3 j4 j5 < μ i1 i2 i3 i4 i5 → fsub F (FI j1 j2 j3 j4 j5) → KSub K (KI j1 j2 j3 j4 j5) → TQ c (fun _ => Y) .normal F K) → TWi l c x (Exit.then Y Q) (FI i1 i2 i3 i4 i5) (KI i1 i2 i3 i4 i5)) : TWi l c (.loop x) Q F K :=
  TWi.loop (ι := { t : ι1 × ι2 × ι3 × ι4 × ι5 // p t.1 t.2.1 t.2.2.1 t.2.2.2.1 t.2.2.2.2 }) (fun t => FI t.1.1 t.1.2.1 t.1.2.2.1 t.1.2.2.2.1 t.1.2.2.2.2) (fun t => KI t.1.1 t.1.2.1 t.1.2.2.1 t.1.2.2.2.1 t.1.2.2.2.2) (fun t => μ t.1.1 t.1.2.1 t.1.2.2.1 t.1.2.2.2.1 t.1.2.2.2.2) ⟨(i1, i2, i3, i4, i5), hp⟩ hF hK fun t Y hY => round t.1.1 t.1.2.1 t.1.2.2.1 t.1.2.2.2.1 t.1.2.2.2.2 t.2 Y fun j1 j2 j3 j4 j5 F K h1 h2 h3 h4 => hY ⟨(j1, j2, j3, j4, j5), h1⟩ F K h2 h3 h4
theorem TWi.loop6 {ι1 ι2 ι3 ι4 ι5 ι6 : Type} {x : Code} (FI : ι1 → ι2 → ι3 → ι4 → ι5 → ι6 → Fr) (KI : ι1 → ι2 → ι3 → ι4 → ι5 → ι6 → List Fact) (p : ι1 → ι2 → ι3 → ι4 → ι5 → ι6 → Prop) (μ : ι1 → ι2 → ι3 → ι4 → ι5 → ι6 → Nat) (i1 : ι1) (i2 : ι2) (i3 : ι3) (i4 : ι4) (i5 : ι5) (i6 : ι6) (hF : fsub F (FI i1 i2 i3 i4 i5 i6)) (hK : KSub K (KI i1 i2 i3 i4 i5 i6)) (hp : p i1 i2 i3 i4 i5 i6)
    (round : ∀ i1 i2 i3 i4 i5 i6, p i1 i2 i3 i4 i5 i6 → ∀ Y : Act → World → Prop, (∀ j1 j2 j3 j4 j5 j6 F K, p j1 j2 j3 j4 j5 j6 → μ j1 j2 j3 j4 j5 j6 < μ i1 i2 i3 i4 i5 i6 → fsub F (FI j1 j2 j3 j4 j5 j6) → KSub K (KI j1 j2 j3 j4 j5 j6) → TQ c (fun _ => Y) .normal F K) → TWi l c x (Exit.then Y Q) (FI i1 i2 i3 i4 i5 i6) (KI i1 i2 i3 i4 i5 i6)) : TWi l c (.loop x) Q F K :=
  TWi.loop (ι := { t : ι1 × ι2 × ι3 × ι4 × ι5 × ι6 // p t.1 t.2.1 t.2.2.1 t.2.2.2.1 t.2.2.2.2.1 t.2.2.2.2.2 }) (fun t => FI t.1.1 t.1.2.1 t.1.2.2.1 t.1.2.2.2.1 t.1.2.2.2.2.1 t.1.2.2.2.2.2) (fun t => KI t.1.1 t.1.2.1 t.1.2.2.1 t.1.2.2.2.1 t.1.2.2.2.2.1 t.1.2.2.2.2.2) (fun t => μ t.1.1 t.1.2.1 t.1.2.2.1 t.1.2.2.2.1 t.1.2.2.2.2.1 t.1.2.2.2.2.2) ⟨(i1, i2, i3, i4, i5, i6), hp⟩ hF hK fun t Y hY => round t.1.1 t.1.2.1 t.1.2.2.1 t.1.2.2.2.1 t.1.2.2.2.2.1 t.1.2.2.2.2.2 t.2 Y fun j1 j2 j3 j4 j5 j6 F K h1 h2 h3 h4 => hY ⟨(j1, j2, j3, j4, j5, j6), h1⟩ F K h2 h3 h4
def TLi (c : Cx) (ops : Array Oper) (Q : Exit → Act → World → Prop) (rest : List Oper) (F : Fr) (K : List Fact) : Prop := ∀ a w, FS c.n c.D F a → Sat c.S c.w0 K w → wpListIn Fence.wide 1 c.P ops Q rest a w
theorem TW.regionI {id : Nat} {os : List Oper} (h : TLi c os.toArray Q os F K) : TW c (.region id os.toArray false) Q F K := fun a w hF hK => (wpIn_wide (n := 1)).1 (wpIn_region_lit (h a w hF hK))
theorem TLi.nil (h : TQ c Q .normal F K) : TLi c ops Q [] F K := fun a w hF hK => h a w hF hK
theorem TLi.op {o : Oper} (h : ∀ Z : Act → World → Prop, (∀ F2 K2, TLi c ops Q rest F2 K2 → TQ c (fun _ => Z) .normal F2 K2) → TL c ops (nxt Z Q) [o] F K) (hL : ¬ LetsOut Q := by (rintro ⟨_, _, h⟩; exact h)) : TLi c ops Q (o :: rest) F K := fun a w hF hK => by
  have h1 := h (wpListIn Fence.wide 1 c.P ops Q rest) (fun F2 K2 h2 a w h3 h4 => h2 a w h3 h4) a w hF hK
  unfold wpList at h1
  unfold wpListIn
  split
  · rename_i hw
    rw [if_pos hw] at h1
    rcases h1 with h1 | ⟨_, h2⟩
    · exact operWide (fun _ _ h => h) h1
    · obtain ⟨x, y, z⟩ := h2
      exact absurd ⟨x, y, z⟩ hL
  · rename_i hw
    rw [if_neg hw] at h1
    exact ⟨fun _ _ => trivial, h1⟩
theorem TLi.guard {t : Nat} {b : Bool} (ht : fget F t = some (.bool b)) (h1 : b = true → TLi c ops Q rest ((t, .bool true) :: F) K) (h2 : b = false → TLi c ops Q rest ((t, .bool false) :: F) K) : TLi c ops Q rest F K := fun a w hF hK => by
  have key : ∀ b', b = b' → FS c.n c.D ((t, .bool b') :: F) a := fun b' e => ⟨hF.size, hF.dfs, fun u v hv => by
    subst e
    simp only [fget] at hv
    cases hb : Nat.beq t u with
    | true => rw [hb] at hv; have := beq_iff.1 hb; subst this; injection hv with hv; subst hv; exact hF.get _ _ ht
    | false => rw [hb] at hv; exact hF.get _ _ hv⟩
  cases hb : b
  · exact h2 hb a w (key _ hb) hK
  · exact h1 hb a w (key _ hb) hK
theorem TLi.yi {l : Nat} {x : Operand} {xs : List Operand} {ts : Array TypeId} {us : List Value} {R1 R2 : Type} {K1 : R1 → List Fact} {K2 : R2 → List Fact} (hf : ev F x = some (.func (.yield l) #[] #[])) (hx : evs F xs = some us)
    (hy : ∀ w, Sat c.S c.w0 K w → YieldAt Fence.wide 0 c.P l us.toArray w fun e w' => (e = .returned (.bool true) ∧ ∃ r, Sat c.S c.w0 (K1 r) w') ∨ (e = .returned (.bool false) ∧ ∃ r, Sat c.S c.w0 (K2 r) w'))
    (h1 : ∀ r, TLi c ops Q rest (fput F d (.bool true)) (K1 r)) (h2 : ∀ r, TLi c ops Q rest (fput F d (.bool false)) (K2 r)) (hg : gdB F ops g = some true := by rfl) (hd : dok d c.n = true := by rfl) :
    TLi c ops Q (⟨d, .call { callee := .value x, args := xs.toArray, argTypes := ts }, ty, pos, af, g⟩ :: rest) F K := fun a w hF hK => by
  unfold wpListIn
  rw [if_pos (hF.wanted hg)]
  obtain ⟨fn, tmps, assign, body, hy1, hy2⟩ := hy w hK
  have e1 := hF.evl hf
  have e2 := hF.evsl hx
  have hr : (execOp a.eval ⟨d, .call { callee := .value x, args := xs.toArray, argTypes := ts }, ty, pos, af, g⟩).run c.P w = .ok (.round l fn tmps assign body) w := by
    simp only [execOp, resolve, e1, Deferred.ofValue, List.map_toArray, e2, Sem.run_bind, Sem.run_pure, Result.andThen_ok, invoke]
    simpa using hy1
  refine ⟨fun _ _ => trivial, ?_⟩
  rw [Fence.wide_round, Oper.semAt_none, hr, Oper.uponIn_round]
  refine ⟨fun h9 => (by simp [Fence.wide] at h9), hy2.mono ?_⟩
  rintro e w' (⟨rfl, r, hs⟩ | ⟨rfl, r, hs⟩)
  · exact h1 r _ _ (hF.fput hd _) hs
  · exact h2 r _ _ (hF.fput hd _) hs
theorem Sat.newO {S : List Nat} {w0 w : World} (h : Sat S w0 K w) (o : Obj) (ho : o.isCells = false) : Sat S w0 (.obj w.heap.size o :: K) (w.alloc o) :=
  h.add (L := [_]) (Sat.one (Chg.of_ext ((Below.refl _ _).alloc (Nat.le_refl _) _)) (by simp [Fact.foot]) (fun b hb => by simp [Fact.foot] at hb; subst hb; exact .inr (Nat.le_refl _)) ⟨World.alloc_heap_new w o, ho⟩)
theorem Sat.putO {S : List Nat} {w0 w : World} {b : Nat} {o o' : Obj} (h : Sat S w0 (.obj b o :: K) w) (ho : o'.isCells = false) : Sat S w0 (.obj b o' :: K) (w.putObj b o') :=
  h.turn (φ' := .obj b o') (Chg.grown (grownBy_putObj' w b o')) (by simp [Fact.foot]) (fun x hx => .inl hx) ⟨World.putObj_heap_same (lt_of_get (h.holds (.obj b o) (by simp)).1), ho⟩
def putF : List Tmp → List Value → Fr → Fr
  | p :: ps, v :: vs, F => putF ps vs ((p, v) :: F)
  | _, _, F => F
theorem FS.putF {n : Nat} : ∀ {ps : List Tmp} {vs : List Value} {F : Fr} {t : Array Value}, FS n [] F { tmps := t, defers := [] } → (ps.all fun p => Nat.blt p n) = true → FS n [] (Go.Proofs.YtljhdcclajikiaaGreatDoor.putF ps vs F) { tmps := (ps.zip vs).foldl (fun t (p, v) => t.setIfInBounds p v) t, defers := [] }
  | [], _, _, _, h, _ => by simpa [Go.Proofs.YtljhdcclajikiaaGreatDoor.putF] using h
  | _ :: _, [], _, _, h, _ => by simpa [Go.Proofs.YtljhdcclajikiaaGreatDoor.putF] using h
  | p :: ps, v :: vs, F, t, h, hp => by
    simp only [List.all_cons, Bool.and_eq_true] at hp
    have := FS.putF (ps := ps) (vs := vs) (h.put hp.1 v) hp.2
    simpa [Go.Proofs.YtljhdcclajikiaaGreatDoor.putF, Act.put] using this
def RB (c : Cx) {R Rx : Type} (KN : R → List Fact) (jx : Rx → Code) (KX : Rx → List Fact) : Exit → Act → World → Prop
  | .normal, _, w => ∃ r, Sat c.S c.w0 (KN r) w
  | .ret, _, w => ∃ x, jx x = .ret ∧ Sat c.S c.w0 (KX x) w
  | .exit i, _, w => ∃ x, jx x = .exit i ∧ Sat c.S c.w0 (KX x) w
  | _, _, _ => False
theorem TQ.rbN {R Rx : Type} {KN : R → List Fact} {jx : Rx → Code} {KX : Rx → List Fact} (r : R) (hK : KSub K (KN r)) : TQ c (RB c KN jx KX) .normal F K := fun _ _ _ h => ⟨r, h.sub hK⟩
def IterK (P : Program) (gf : FuncId) (lb : List Value) (M : List Fact) (G : Type) (enc : Nat → G → List Value) (Y Y' : Nat → G → List Fact) (N : Nat) (L : List Fact) (S : List Nat) (w0 : World) : Prop :=
  ∀ (l : Nat) (R Rx : Type) (J : Nat → R → List Fact) (Jx : Rx → List Fact) (r0 : R) (w : World), Sat S w0 (M ++ J 0 r0) w →
    (∀ q g r w', q < N → Sat S w0 (Y q g ++ J q r) w' → YieldAt Fence.wide 0 P l (enc q g).toArray w' fun e w'' => (e = .returned (.bool true) ∧ ∃ r', Sat S w0 (Y' q g ++ J (q + 1) r') w'') ∨ (e = .returned (.bool false) ∧ ∃ x, Sat S w0 (Y' q g ++ Jx x) w'')) →
    Calls P gf (.func (.yield l) #[] #[] :: lb).toArray w fun e w' => (∃ v, e = .returned v) ∧ ((∃ r, Sat S w0 (L ++ J N r) w') ∨ ∃ x, Sat S w0 (Jx x) w')
theorem perm_objs (A B : List Fact) (x y : Fact) : (A ++ (x :: y :: B)).Perm (x :: y :: (A ++ B)) := List.perm_middle.trans (List.Perm.cons _ List.perm_middle)
theorem TW.range {g : Operand} {ps : List Tmp} {assign body : Code} {gf : Nat} {lb : List Value} {M L : List Fact} {G R Rx : Type} {enc : Nat → G → List Value} {Y Y' : Nat → G → List Fact} {N : Nat} (J : Nat → R → List Fact) (jx : Rx → Code) (Jx : Rx → List Fact) (r0 : R)
    (it : IterK c.P gf lb M G enc Y Y' N L c.S c.w0) (hKs : KSub K (M ++ J 0 r0))
    (round : ∀ (l D : Nat) (o1 o1' o2 : Obj) (q : Nat) (g : G) (r : R), q < N → ∀ Z : Act → World → Prop,
      (∀ F2 K1 K2, Pick K1 (.obj l o1) K2 → TWi l { c with D := [] } body (RB { c with D := [] } (fun r' => .obj l o1' :: .obj D o2 :: (Y' q g ++ J (q + 1) r')) jx (fun x => .obj l o1' :: .obj D o2 :: (Y' q g ++ Jx x))) F2 (.obj l o1' :: K2) → TQ { c with D := [] } (fun _ => Z) .normal F2 K1) →
      TWi l { c with D := [] } assign (Exit.then Z (fun _ _ _ => False)) (putF ps (enc q g) F) (.obj l o1 :: .obj D o2 :: (Y q g ++ J q r)))
    (done : ∀ (D : Nat) (r : R), TQ { c with D := { target := .collected D, args := #[] } :: c.D } Q .normal F (.obj D (.deferred (some [])) :: (L ++ J N r)))
    (stop : ∀ (D : Nat) (x : Rx), TW { c with D := { target := .collected D, args := #[] } :: c.D } (jx x) Q F (.obj D (.deferred (some [])) :: Jx x))
    (hg : ev F g = some (.func (.func gf) #[] lb.toArray) := by rfl) (eg : Enters c.P gf) (hps : ∀ q g, (enc q g).length = ps.length := by (intro _ _; rfl)) (hpn : (ps.all fun p => Nat.blt p c.n) = true := by rfl) :
    TW c (.rangeFunc g ps.toArray assign body) Q F K := fun a w hF hK => by
  refine (wpIn_wide (n := 2)).1 (wpIn_rangeFunc fun fn _ => ?_)
  obtain ⟨rc, hrc⟩ : ∃ rc : LoopState → Option Code → Loop, rc = fun st pe => { state := st, pending := pe, fn, tmps := a.tmps, params := ps.toArray, assign, body, defers := w.heap.size } := ⟨_, rfl⟩
  obtain ⟨W1, hW1⟩ : ∃ W1, (w.alloc (.deferred (some []))).alloc (.loop (rc .ready none)) = W1 := ⟨_, rfl⟩
  have hs := ((hK.sub hKs).newO (.deferred (some [])) rfl).newO (.loop (rc .ready none)) rfl
  rw [World.size_alloc, hW1] at hs
  have hFr : FS c.n ({ target := .collected w.heap.size, args := #[] } :: c.D) F { a with defers := [{ target := .collected w.heap.size, args := #[] }] ++ a.defers } := ⟨hF.size, by rw [hF.dfs]; rfl, hF.get⟩
  refine ⟨w.heap.size + 1, [{ target := .collected w.heap.size, args := #[] }], W1, { target := .fn (.func gf) lb.toArray, args := #[.func (.yield (w.heap.size + 1)) #[] #[]] }, W1, gf, (.func (.yield (w.heap.size + 1)) #[] #[] :: lb).toArray, W1, ?_, ?_, fun _ _ => trivial, ?_, fun _ => by decide, ?_⟩
  · rw [← hW1, hrc]; exact run_enterLoop_outer _ _ _ _ _
  · have := hF.evl hg
    simp only [resolve, this]
    simp [go_sem]
  · have := eg (.func (.yield (w.heap.size + 1)) #[] #[] :: lb).toArray W1
    have e : #[Value.func (.yield (w.heap.size + 1)) #[] #[]] ++ lb.toArray = (.func (.yield (w.heap.size + 1)) #[] #[] :: lb).toArray := by simp
    simp only [invoke, e]
    exact this
  · refine callsIn_wide.2 (Calls.mono (it (w.heap.size + 1) R Rx (fun q r => .obj (w.heap.size + 1) (.loop (rc .ready none)) :: .obj w.heap.size (.deferred (some [])) :: J q r) (fun x => .obj (w.heap.size + 1) (.loop (rc .done (some (jx x)))) :: .obj w.heap.size (.deferred (some [])) :: Jx x) r0 W1 (hs.perm (perm_objs M _ _ _).symm) ?_) ?_)
    · intro q g r w' hq hw'
      replace hw' := hw'.perm (perm_objs _ _ _ _)
      have hl : w'.heap[w.heap.size + 1]? = some (.loop (rc .ready none)) := (hw'.holds (.obj _ _) (by simp)).1
      have hy := run_yield (P := c.P) (args := (enc q g).toArray) hl (by rw [hrc]; simp [hps q g])
      rw [hrc] at hy
      refine ⟨fn, _, assign, body, hy, roundIn_of_wpIn trivial ?_⟩
      have hF0 : FS c.n [] F { tmps := a.tmps, defers := [] } := ⟨hF.size, rfl, hF.get⟩
      have hF1 := hF0.putF (vs := enc q g) hpn
      simp only [List.zip_toArray, List.foldl_toArray]
      refine round (w.heap.size + 1) w.heap.size (.loop (rc .ready none)) (.loop { rc .ready none with state := .busy }) (.deferred (some [])) q g r hq _ ?_ _ w' hF1 hw'
      intro F2 K1 K2 hp hb a1 w1 hF2 hK1
      have h1 := hK1.pick hp
      have hl1 : w1.heap[w.heap.size + 1]? = some (.loop (rc .ready none)) := (h1.holds (.obj _ _) (by simp)).1
      refine ⟨_, run_beginRound hl1 (by rw [hrc]), wpIn_mono (hb a1 _ hF2 (h1.putO rfl)) ?_⟩
      have fin : ∀ (jump : Option Code) (w3 : World), w3.heap[w.heap.size + 1]? = some (.loop { rc .ready none with state := .busy }) → (Instr.endRound (w.heap.size + 1) jump).run c.P w3 = .ok (.bool jump.isNone) (w3.putObj (w.heap.size + 1) (.loop (rc (if jump.isNone then .ready else .done) jump))) := fun jump w3 h3 => by
        have := run_endRound (P := c.P) jump h3
        rw [hrc] at this ⊢
        exact this
      rintro e a3 w3 he
      cases e with
      | normal =>
        obtain ⟨r', h3⟩ := he
        exact ⟨_, _, fin none w3 (h3.holds (.obj _ _) (by simp)).1, .inl ⟨rfl, r', (h3.putO rfl).perm (perm_objs _ _ _ _).symm⟩⟩
      | ret =>
        obtain ⟨x, hx, h3⟩ := he
        exact ⟨_, _, fin (some .ret) w3 (h3.holds (.obj _ _) (by simp)).1, .inr ⟨rfl, x, by rw [hx]; exact (h3.putO rfl).perm (perm_objs _ _ _ _).symm⟩⟩
      | exit i =>
        obtain ⟨x, hx, h3⟩ := he
        exact ⟨_, _, fin (some (.exit i)) w3 (h3.holds (.obj _ _) (by simp)).1, .inr ⟨rfl, x, by rw [hx]; exact (h3.putO rfl).perm (perm_objs _ _ _ _).symm⟩⟩
      | goto t => exact he.elim
      | panic ch => exact he.elim
      | outgrown => exact he.elim
    · rintro e w2 ⟨⟨v, rfl⟩, ⟨r, h2⟩ | ⟨x, h2⟩⟩
      · replace h2 := h2.perm (perm_objs _ _ _ _)
        have hl : w2.heap[w.heap.size + 1]? = some (.loop (rc .ready none)) := (h2.holds (.obj _ _) (by simp)).1
        refine ⟨none, _, by have := run_endLoop (P := c.P) hl (by rw [hrc]; simp); rw [hrc] at this; exact this, ?_⟩
        exact done w.heap.size r _ _ hFr ((h2.putO rfl).sub (KSub.drop (KSub.refl _)))
      · have hl : w2.heap[w.heap.size + 1]? = some (.loop (rc .done (some (jx x)))) := (h2.holds (.obj _ _) (by simp)).1
        refine ⟨some (jx x), _, by have := run_endLoop (P := c.P) hl (by rw [hrc]; simp); rw [hrc] at this; exact this, ?_⟩
        exact (wpIn_wide (n := 2)).2 (stop w.heap.size x _ _ hFr ((h2.putO rfl).sub (KSub.drop (KSub.refl _))))
theorem K_enterM {P : Program} {f : FuncId} {fn : Func} {code : Code} {n : Nat} {args : List Value} {R : Ending → World → Prop} {w w0 : World} {S : List Nat} {K : List Fact} (hf : P.funcs[f]? = some fn) (hb : fn.body = some code) (hn : fn.ntmps = n) (hl : Nat.ble args.length n = true) (hS : Sat S w0 K w)
    (h : TW ⟨P, n, [], S, w0⟩ code (bodyPostM Fence.wide 2 P fn R) (zipF 0 args) K) : Calls P f args.toArray w R := by
  refine calls_of_marks hf hb ?_
  rw [hn]
  exact h _ _ (FS.start (Nat.le_of_ble_eq_true hl)) hS
theorem K_enterW {P : Program} {f : FuncId} {fn : Func} {code : Code} {n : Nat} {args : List Value} {R : Ending → World → Prop} {w w0 : World} {S : List Nat} {K : List Fact} (hf : P.funcs[f]? = some fn) (hb : fn.body = some code) (hn : fn.ntmps = n) (hl : Nat.ble args.length n = true) (hS : Sat S w0 K w)
    (h : TW ⟨P, n, [], S, w0⟩ code (bodyPost P fn R) (zipF 0 args) K) : Calls P f args.toArray w R := by
  refine calls_of_wp hf hb ?_
  rw [hn]
  exact h _ _ (FS.start (Nat.le_of_ble_eq_true hl)) hS
theorem TQ.retM {fn : Func} {R : Ending → World → Prop} {rs : List ResultVar} {vs : List Value} {D : Nat} (hr : fn.results = rs.toArray) (hp : Pick K (.obj D (.deferred (some []))) K') (hv : RV c F K' rs vs) (h : ∀ w, Sat c.S c.w0 K' w → R (.returned (retV vs)) w) (hD : c.D = [{ target := .collected D, args := #[] }] := by rfl) : TQ c (bodyPostM Fence.wide 2 c.P fn R) .ret F K := fun a w hF hK => by
  have h1 := hK.pick hp
  have hd : w.heap[D]? = some (.deferred (some [])) := (h1.holds (.obj _ _) (by simp)).1
  have h2 : Sat c.S c.w0 K' (w.putObj D (.deferred none)) := (h1.putO (o' := .deferred none) rfl).sub (KSub.drop (KSub.refl _))
  obtain ⟨t, ds⟩ := a
  have e : ds = [{ target := .collected D, args := #[] }] := hF.dfs.trans hD
  subst e
  exact ret_marks hd (hv.results hr hF h2) (h _ h2)
end
end Go.Proofs.YtljhdcclajikiaaGreatDoor
namespace Go.Proofs.YtljhdcclajikiaaGreatDoor
set_option linter.all false
set_option linter.unusedVariables false
set_option linter.unusedSimpArgs false
open Go.RowKit
section
variable {c : Cx} {F : Fr} {K K' : List Fact}
theorem TW.seqD {Q : Exit → Act → World → Prop} {x y : Code} (h : ∀ Y : Act → World → Prop, (∀ D F K, TW { c with D := D } y Q F K → TQ { c with D := D } (fun _ => Y) .normal F K) → TW c x (Exit.then Y Q) F K) : TW c (.seq x y) Q F K := fun a w hF hK =>
  wp_seq (h (y.wp c.P Q) (fun _ _ _ h => h) a w hF hK)
theorem TQ.panM {fn : Func} {R : Ending → World → Prop} {ch : List PanicEntry} {D : Nat} (hp : Pick K (.obj D (.deferred (some []))) K') (h : ∀ w, Sat c.S c.w0 K' w → R (.panicked ch) w) (hD : c.D = [{ target := .collected D, args := #[] }] := by rfl) : TQ c (bodyPostM Fence.wide 2 c.P fn R) (.panic ch) F K := fun a w hF hK => by
  have h1 := hK.pick hp
  have hd : w.heap[D]? = some (.deferred (some [])) := (h1.holds (.obj _ _) (by simp)).1
  have h2 : Sat c.S c.w0 K' (w.putObj D (.deferred none)) := (h1.putO (o' := .deferred none) rfl).sub (KSub.drop (KSub.refl _))
  obtain ⟨t, ds⟩ := a
  have e : ds = [{ target := .collected D, args := #[] }] := hF.dfs.trans hD
  subst e
  exact ⟨by simp, .inl ⟨D, _, rfl, run_takeDeferred hd, h _ h2⟩⟩
end
end Go.Proofs.YtljhdcclajikiaaGreatDoor
namespace Go.Proofs.YtljhdcclajikiaaGreatDoor
set_option linter.all false
set_option linter.unusedVariables false
set_option linter.unusedSimpArgs false
open Go.RowKit
theorem sets_any {w : World} {A : Option Addr} {n cp : Nat} : CallsK Tryz.prog 64 #[.slice A n cp] [] w Nat (fun b => .func (.func 93) #[] #[.pointer (some ⟨b, 0, none⟩)]) (fun b => [.blk b 24 [.slice A n cp]]) := by
  refine K_enter (S := []) (K := []) Tryz.func64 rfl Tryz.ntmps64 rfl (Sat.start _) ?_
  refine TW.seq fun Y1 hY1 => ?_
  refine TW.region ?_
  refine TL.m Mk.bx ?_
  intro b1
  refine TL.p Pu.as ?_
  refine TL.nil ?_
  refine TQ.thenN (hY1 _ _ ?_)
  refine TW.seq fun Y2 hY2 => ?_
  refine TW.region ?_
  refine TL.p Pu.fn ?_
  refine TL.p Pu.as ?_
  refine TL.nil ?_
  refine TQ.thenN (hY2 _ _ ?_)
  refine TW.ret ?_
  refine TQ.ret Tryz.results64 rfl ((.tmp rfl .nil)) ?_
  exact fun w hw => ⟨b1, rfl, hw.sub (by repeat (first | exact KSub.nil | refine KSub.cons (by repeat (first | exact Pick.hd | apply Pick.tl)) ?_))⟩
def setsM (A : Option Addr) (n cp b : Nat) (L : List Int) : List Fact := [.blk b 24 [.slice A n cp], .own A n cp 3 1 (iL L)]
def setsY (A : Option Addr) (n cp b : Nat) (L : List Int) (q : Nat) (g : Option Addr × Nat) : List Fact := .own g.1 (sel L q n).length g.2 3 1 (iL (sel L q n)) :: setsM A n cp b L
set_option maxRecDepth 100000 in
set_option maxHeartbeats 1000000 in
theorem sets1_iter {A : Option Addr} {n cp b : Nat} {L : List Int} {S : List Nat} {W0 : World} (hn : n = L.length) (h1 : n ≤ 30) :
    IterK Tryz.prog 93 [.pointer (some ⟨b, 0, none⟩)] (setsM A n cp b L) (Option Addr × Nat) (fun q g => [.slice g.1 (sel L q n).length g.2]) (setsY A n cp b L) (fun _ _ => setsM A n cp b L) (2 ^ n) (setsM A n cp b L) S W0 := by
  intro lY R Rx J Jx r0 W hS hround
  have hpow : 2 ^ n ≤ 1073741824 := Nat.le_trans (Nat.pow_le_pow_right (by omega) h1) (by decide)
  refine K_enterW (S := S) (K := .blk b 24 [.slice A n cp] :: .own A n cp 3 1 (iL L) :: J 0 r0) Tryz.func93 rfl Tryz.ntmps93 rfl hS ?_
  refine TW.seq fun Y1 hY1 => ?_
  refine TW.region ?_
  refine TL.p (by first | exact (Pu.ld ty_sc24) | exact (Pu.ldo ty_sc24)) ?_
  refine TL.p (Pu.ln Tryz.underlying24) ?_
  refine TL.p Pu.sl1 ?_
  refine TL.p Pu.mv ?_
  refine TL.nil ?_
  refine TQ.thenN (hY1 _ _ ?_)
  refine TW.block ?_
  refine TW.loop2 (fun (q : Nat) (r : R) => [(10, .int .i64 (q : Int)), (9, .int .i64 ((2 ^ n : Nat) : Int)), (0, .func (.yield lY) #[] #[]), (1, .pointer (some ⟨b, 0, none⟩))]) (fun q r => .blk b 24 [.slice A n cp] :: .own A n cp 3 1 (iL L) :: J q r) (fun q r => q ≤ 2 ^ n) (fun q r => 2 ^ n - q) 0 r0 (by repeat (first | exact trivial | refine ⟨rfl, ?_⟩ | refine ⟨trivial, ?_⟩)) ?_ ?_ ?_
  · exact (by repeat (first | exact KSub.nil | refine KSub.cons (by repeat (first | exact Pick.hd | apply Pick.tl)) ?_ | exact KSub.refl _ | refine KSub.drop ?_))
  · exact Nat.zero_le _
  rintro q r hq Z0 hZ0
  refine TW.seq fun Y2 hY2 => ?_
  refine TW.region ?_
  refine TL.p Pu.lt ?_
  refine TL.nil ?_
  refine TQ.thenN (hY2 _ _ ?_)
  refine TW.seq fun Y3 hY3 => ?_
  refine TW.cond rfl (fun hc0 => ?_) (fun hc0 => ?_)
  · try simp only [decide_eq_true_eq, decide_eq_false_iff_not, Bool.not_eq_true', Bool.not_eq_false', Bool.and_eq_true, Bool.or_eq_true, Bool.and_eq_false_iff, Bool.or_eq_false_iff, Int.not_lt, Int.not_le] at hc0
    have hqn : q < 2 ^ n := by omega
    refine TW.skip ?_
    refine TQ.thenN (hY3 _ _ ?_)
    refine TW.seq fun Y4 hY4 => ?_
    refine TW.block ?_
    refine TW.seq fun Y5 hY5 => ?_
    refine TW.region ?_
    refine TL.p Pu.mv ?_
    refine TL.p Pu.as ?_
    refine TL.nil ?_
    refine TQ.thenN (hY5 _ _ ?_)
    refine TW.seq fun Y6 hY6 => ?_
    refine TW.region ?_
    refine TL.p Pu.as ?_
    refine TL.nil ?_
    refine TQ.thenN (hY6 _ _ ?_)
    refine TW.seq fun Y7 hY7 => ?_
    refine TW.seq fun Y8 hY8 => ?_
    refine TW.region ?_
    refine TL.p (by first | exact (Pu.ld ty_sc24) | exact (Pu.ldo ty_sc24)) ?_
    refine TL.p (Pu.ln Tryz.underlying24) ?_
    refine TL.p Pu.mv ?_
    refine TL.nil ?_
    refine TQ.thenN (hY8 _ _ ?_)
    refine TW.block ?_
    refine TW.loop5 (fun (i : Nat) (B : Option Addr) (cb : Nat) (T : List Int) (t : Nat) => [(15, .int .i64 (i : Int)), (14, .int .i64 (n : Int)), (13, .slice A n cp), (4, .slice B t cb), (3, .int .i64 (q : Int)), (10, .int .i64 (q : Int)), (9, .int .i64 ((2 ^ n : Nat) : Int)), (0, .func (.yield lY) #[] #[]), (1, .pointer (some ⟨b, 0, none⟩))]) (fun i B cb T t => .own B t cb 3 1 (iL T) :: .blk b 24 [.slice A n cp] :: .own A n cp 3 1 (iL L) :: J q r) (fun i B cb T t => i ≤ n ∧ t = T.length ∧ T = sel L q i) (fun i B cb T t => n - i) 0 none 0 [] 0 (by repeat (first | exact trivial | refine ⟨rfl, ?_⟩ | refine ⟨trivial, ?_⟩)) ?_ ?_ ?_
    · exact KSub.nilOwn (KSub.refl _)
    · exact ⟨Nat.zero_le _, rfl, rfl⟩
    rintro i B cb T t ⟨hi, ht, hT⟩ Z1 hZ1
    have htl : t ≤ i := by rw [ht, hT]; exact sel_len i
    refine TW.seq fun Y9 hY9 => ?_
    refine TW.region ?_
    refine TL.p Pu.lt ?_
    refine TL.nil ?_
    refine TQ.thenN (hY9 _ _ ?_)
    refine TW.seq fun Y10 hY10 => ?_
    refine TW.cond rfl (fun hc1 => ?_) (fun hc1 => ?_)
    · try simp only [decide_eq_true_eq, decide_eq_false_iff_not, Bool.not_eq_true', Bool.not_eq_false', Bool.and_eq_true, Bool.or_eq_true, Bool.and_eq_false_iff, Bool.or_eq_false_iff, Int.not_lt, Int.not_le] at hc1
      have hin : i < n := by omega
      refine TW.skip ?_
      refine TQ.thenN (hY10 _ _ ?_)
      refine TW.seq fun Y11 hY11 => ?_
      refine TW.block ?_
      refine TW.seq fun Y12 hY12 => ?_
      refine TW.region ?_
      refine TL.p Pu.mv ?_
      refine TL.p (Pu.el ty_et24) ?_
      refine TL.p (by first | exact (Pu.ld ty_sc3) | exact (Pu.ldo ty_sc3)) ?_
      refine TL.p Pu.as ?_
      refine TL.p Pu.as ?_
      refine TL.nil ?_
      refine TQ.thenN (hY12 _ _ ?_)
      refine TW.seq fun Y13 hY13 => ?_
      refine TW.region ?_
      refine TL.p Pu.mv ?_
      refine TL.p Pu.mv ?_
      refine TL.p Pu.srN ?_
      refine TL.p (Pu.an1 (hm := by have := Nat.div_le_self q (2 ^ i); omega)) ?_
      refine TL.p Pu.eq ?_
      refine TL.nil ?_
      refine TQ.thenN (hY13 _ _ ?_)
      refine TW.cond rfl (fun hc2 => ?_) (fun hc2 => ?_)
      · try simp only [decide_eq_true_eq, decide_eq_false_iff_not, Bool.not_eq_true', Bool.not_eq_false', Bool.and_eq_true, Bool.or_eq_true, Bool.and_eq_false_iff, Bool.or_eq_false_iff, Int.not_lt, Int.not_le] at hc2
        have hbit : q / 2 ^ i % 2 = 1 := by omega
        obtain ⟨T', hT'⟩ : ∃ y, y = T ++ [L.getD i 0] := ⟨_, rfl⟩
        have s1 : t + 1 = T'.length := by rw [hT', List.length_append, ← ht]; rfl
        have s2 : T' = sel L q (i + 1) := by rw [hT', hT]; simp only [sel]; rw [if_pos hbit]
        refine TW.region ?_
        refine TL.p Pu.mv ?_
        refine TL.p Pu.mv ?_
        refine TL.m Mk.bl ?_
        intro b1
        first | refine TL.a0 ty_et24 ?_ | refine TL.ap ty_et24 ?_
        intro A2 c2
        refine TL.p Pu.as ?_
        refine TL.nil ?_
        refine TQ.blkN ?_
        refine TQ.thenN (hY11 _ _ ?_)
        refine TW.region ?_
        refine TL.p Pu.ad ?_
        refine TL.p Pu.mv ?_
        refine TL.nil ?_
        refine TQ.thenN (hZ1 (i + 1) _ _ T' _ _ _ ?_ ?_ (by repeat (first | exact trivial | refine ⟨rfl, ?_⟩ | refine ⟨trivial, ?_⟩)) ?_)
        · exact ⟨by omega, s1, s2⟩
        · exact (by first | omega | (simp only []; omega) | (simp; omega))
        · first
            | exact KSub.own Pick.hd (iL_app ht hT' rfl) (KSub.drop (KSub.refl _))
            | exact KSub.own Pick.hd (iL_app ht hT' rfl) (KSub.refl _)
            | exact KSub.own Pick.hd (fun i _ => by rw [hT']) (KSub.refl _)
      · try simp only [decide_eq_true_eq, decide_eq_false_iff_not, Bool.not_eq_true', Bool.not_eq_false', Bool.and_eq_true, Bool.or_eq_true, Bool.and_eq_false_iff, Bool.or_eq_false_iff, Int.not_lt, Int.not_le] at hc2
        have hbit : ¬ q / 2 ^ i % 2 = 1 := by omega
        obtain ⟨T', hT'⟩ : ∃ y, y = T := ⟨_, rfl⟩
        have s1 : t = T'.length := by rw [hT', ← ht]
        have s2 : T' = sel L q (i + 1) := by rw [hT', hT]; simp only [sel]; rw [if_neg hbit]
        refine TW.skip ?_
        refine TQ.blkN ?_
        refine TQ.thenN (hY11 _ _ ?_)
        refine TW.region ?_
        refine TL.p Pu.ad ?_
        refine TL.p Pu.mv ?_
        refine TL.nil ?_
        refine TQ.thenN (hZ1 (i + 1) _ _ T' _ _ _ ?_ ?_ (by repeat (first | exact trivial | refine ⟨rfl, ?_⟩ | refine ⟨trivial, ?_⟩)) ?_)
        · exact ⟨by omega, s1, s2⟩
        · exact (by first | omega | (simp only []; omega) | (simp; omega))
        · first
            | exact KSub.own Pick.hd (iL_app ht hT' rfl) (KSub.drop (KSub.refl _))
            | exact KSub.own Pick.hd (iL_app ht hT' rfl) (KSub.refl _)
            | exact KSub.own Pick.hd (fun i _ => by rw [hT']) (KSub.refl _)
    · try simp only [decide_eq_true_eq, decide_eq_false_iff_not, Bool.not_eq_true', Bool.not_eq_false', Bool.and_eq_true, Bool.or_eq_true, Bool.and_eq_false_iff, Bool.or_eq_false_iff, Int.not_lt, Int.not_le] at hc1
      obtain rfl : i = n := by omega
      subst hT ht
      refine TW.exit ?_
      refine TQ.thenX ?_
      refine TQ.thenX ?_
      refine TQ.blkX ?_
      refine TQ.thenN (hY7 _ _ ?_)
      refine TW.seq fun Y14 hY14 => ?_
      refine TW.regionI ?_
      refine TLi.op (fun U1 hU1 => ?_) (by rintro ⟨_, _, h⟩; first | exact h | (obtain ⟨⟨_, h⟩, _⟩ := h; cases h) | cases h)
      refine TL.p Pu.mv ?_
      refine TL.nil ?_
      refine TQ.nxt (hU1 _ _ ?_)
      refine TLi.op (fun U2 hU2 => ?_) (by rintro ⟨_, _, h⟩; first | exact h | (obtain ⟨⟨_, h⟩, _⟩ := h; cases h) | cases h)
      refine TL.p Pu.mv ?_
      refine TL.nil ?_
      refine TQ.nxt (hU2 _ _ ?_)
      refine TLi.yi rfl rfl (fun w hw => by
          exact hround q (B, cb) r w hqn hw) ?_ ?_
      · intro r'
        refine TLi.op (fun U3 hU3 => ?_) (by rintro ⟨_, _, h⟩; first | exact h | (obtain ⟨⟨_, h⟩, _⟩ := h; cases h) | cases h)
        refine TL.p Pu.no ?_
        refine TL.nil ?_
        refine TQ.nxt (hU3 _ _ ?_)
        refine TLi.nil ?_
        refine TQ.thenN (hY14 _ _ ?_)
        refine TW.condF rfl rfl ?_
        refine TW.skip ?_
        refine TQ.blkN ?_
        refine TQ.thenN (hY4 _ _ ?_)
        refine TW.region ?_
        refine TL.p Pu.ad ?_
        refine TL.p Pu.mv ?_
        refine TL.nil ?_
        refine TQ.thenN (hZ0 (q + 1) r' _ _ ?_ ?_ (by repeat (first | exact trivial | refine ⟨rfl, ?_⟩ | refine ⟨trivial, ?_⟩)) ?_)
        · exact (by omega)
        · exact (by first | omega | (simp only []; omega) | (simp; omega))
        · exact KSub.refl _
      · intro x
        refine TLi.op (fun U4 hU4 => ?_) (by rintro ⟨_, _, h⟩; first | exact h | (obtain ⟨⟨_, h⟩, _⟩ := h; cases h) | cases h)
        refine TL.p Pu.no ?_
        refine TL.nil ?_
        refine TQ.nxt (hU4 _ _ ?_)
        refine TLi.nil ?_
        refine TQ.thenN (hY14 _ _ ?_)
        refine TW.condT rfl rfl ?_
        refine TW.ret ?_
        refine TQ.blkR ?_
        refine TQ.thenR ?_
        refine TQ.thenR ?_
        refine TQ.blkR ?_
        refine TQ.ret Tryz.results93 rfl (.nil) ?_
        exact fun w hw => ⟨⟨_, rfl⟩, .inr ⟨x, hw.sub (KSub.dropL _ (KSub.refl _))⟩⟩
  · try simp only [decide_eq_true_eq, decide_eq_false_iff_not, Bool.not_eq_true', Bool.not_eq_false', Bool.and_eq_true, Bool.or_eq_true, Bool.and_eq_false_iff, Bool.or_eq_false_iff, Int.not_lt, Int.not_le] at hc0
    obtain rfl : q = 2 ^ n := by omega
    refine TW.exit ?_
    refine TQ.thenX ?_
    refine TQ.thenX ?_
    refine TQ.blkX ?_
    refine TQ.end Tryz.results93 rfl (.nil) ?_
    exact fun w hw => ⟨⟨_, rfl⟩, .inl ⟨r, hw⟩⟩
end Go.Proofs.YtljhdcclajikiaaGreatDoor
namespace Go.Proofs.YtljhdcclajikiaaGreatDoor
set_option linter.all false
set_option linter.unusedVariables false
set_option linter.unusedSimpArgs false
open Go.RowKit
def wL (r : Nat → Int) (L : List Int) : Int := wS r (fun k => L.getD k 0) L.length
def InxL (L : List Int) (nr : Nat) : Prop := ∀ x ∈ L, 0 ≤ x ∧ x < nr
theorem InxL.inx {L : List Int} {nr : Nat} (h : InxL L nr) : Inx (fun k => L.getD k 0) L.length nr := fun k hk => h _ (mem_getD hk)
theorem mem_mvd {S C M : List Int} {x : Int} : x ∈ mvd S C M ↔ x ∈ S ∧ x ∉ M ∨ x ∈ C ∧ x ∈ M := by
  unfold mvd
  rw [mem_srt, List.mem_append, List.mem_filter, List.mem_filter]
  simp
theorem InxL.mvd {S C M : List Int} {nr : Nat} (h : InxL S nr) (k : InxL C nr) : InxL (mvd S C M) nr := fun x hx => by
  rcases mem_mvd.1 hx with h1 | h1
  · exact h x h1.1
  · exact k x h1.1
theorem mvd_len {S C M : List Int} : (mvd S C M).length ≤ S.length + C.length := by
  unfold mvd
  rw [srt_len, List.length_append]
  have h4 := List.length_filter_le (fun x => !M.contains x) S
  have h5 := List.length_filter_le (fun x => M.contains x) C
  omega
def mvOk (r0 r1 : Nat → Int) (b : Int) (L0 L1 M : List Int) : Bool := decide (balV (wL r0 (mvd L0 L1 M)) (wL r1 (mvd L0 L1 M)) (wL r0 (mvd L1 L0 M)) (wL r1 (mvd L1 L0 M)) b = 2)
theorem lt2 {P : Nat → Prop} (h0 : P 0) (h1 : P 1) : ∀ j, j < 2 → P j := fun j hj => by
  have : j = 0 ∨ j = 1 := by omega
  rcases this with rfl | rfl
  · exact h0
  · exact h1
theorem movedBal_any {w : World} {nr cr : Nat} {a : Nat → Option Addr} {l c : Nat → Nat} {Ar : Option Addr} {r0 r1 : Nat → Int} {L0 L1 M : List Int} {x : MVx} {b : Int} (hr : RestOk r0 r1 nr) (hb : 0 ≤ b ∧ b ≤ 1000000000000) (h0 : L0.length + L1.length ≤ 1000) (i0 : InxL L0 nr) (i1 : InxL L1 nr)
    (hR : RdR w 2 Ar nr (fun q => spL (r0 q) (r1 q))) (hL0 : RdR w 1 x.1.1 (mvd L0 L1 M).length (iL (mvd L0 L1 M))) (hL1 : RdR w 1 x.2.1 (mvd L1 L0 M).length (iL (mvd L1 L0 M))) :
    Calls Tryz.prog 38 #[.agg (mvT a l c L0 L1 M x ++ [Value.slice Ar nr cr]).toArray, .int .i64 b] w (Ret w (.int .u8 (balV (wL r0 (mvd L0 L1 M)) (wL r1 (mvd L0 L1 M)) (wL r0 (mvd L1 L0 M)) (wL r1 (mvd L1 L0 M)) b))) := by
  have m0 := mvd_len (S := L0) (C := L1) (M := M)
  have m1 := mvd_len (S := L1) (C := L0) (M := M)
  exact balance_any (a := fun j => if j = 0 then x.1.1 else if j = 1 then x.2.1 else a 2) (l := fun j => if j = 0 then (mvd L0 L1 M).length else if j = 1 then (mvd L1 L0 M).length else l 2) (c := fun j => if j = 0 then x.1.2 else if j = 1 then x.2.2 else c 2)
    (v := fun j => if j = 0 then fun k => (mvd L0 L1 M).getD k 0 else fun k => (mvd L1 L0 M).getD k 0) hr hb
    (lt2 (P := fun j => (if j = 0 then (mvd L0 L1 M).length else if j = 1 then (mvd L1 L0 M).length else l 2) ≤ 1000) (by show (mvd L0 L1 M).length ≤ 1000; omega) (by show (mvd L1 L0 M).length ≤ 1000; omega))
    (lt2 (P := fun j => Inx (if j = 0 then fun k => (mvd L0 L1 M).getD k 0 else fun k => (mvd L1 L0 M).getD k 0) (if j = 0 then (mvd L0 L1 M).length else if j = 1 then (mvd L1 L0 M).length else l 2) nr) (i0.mvd i1).inx (i1.mvd i0).inx) hR
    (lt2 (P := fun j => RdR w 1 (if j = 0 then x.1.1 else if j = 1 then x.2.1 else a 2) (if j = 0 then (mvd L0 L1 M).length else if j = 1 then (mvd L1 L0 M).length else l 2) (fun k => [.int .i64 ((if j = 0 then fun k => (mvd L0 L1 M).getD k 0 else fun k => (mvd L1 L0 M).getD k 0) k)])) hL0 hL1)
theorem KSub.valI {K K' L : List Fact} {b : Nat} {E : TypeId} {k : IntKind} {i j : Int} (hp : Pick K (.blk b E [.int k i]) K') (e : i = j) (h : KSub K' L) : KSub K (.blk b E [.int k j] :: L) := by
  subst e; exact .cons hp h
theorem concat2_any {w : World} {A0 A1 : Option Addr} {n0 n1 c0 c1 b E : Nat} {L0 L1 : List Int} (h0 : n0 = L0.length) (h1 : n1 = L1.length) (h2 : n0 + n1 ≤ 1000000) (hb : Blk w b E #[.slice A0 n0 c0, .slice A1 n1 c1]) (hR0 : RdR w 1 A0 n0 (iL L0)) (hR1 : RdR w 1 A1 n1 (iL L1)) :
    CallsK Tryz.prog 63 #[.slice (some ⟨b, 0, none⟩) 2 2] [] w (Option Addr × Nat) (fun x => .slice x.1 (L0 ++ L1).length x.2) (fun x => [.own x.1 (L0 ++ L1).length x.2 3 1 (iL (L0 ++ L1))]) := by
  subst h0 h1
  have e : tot (fun i => if i = 0 then L0.length else L1.length) 2 = (L0 ++ L1).length := by simp [tot]
  refine (concat_any (a := fun i => if i = 0 then A0 else A1) (l := fun i => if i = 0 then L0.length else L1.length) (c := fun i => if i = 0 then c0 else c1) (v := fun i => if i = 0 then fun k => L0.getD k 0 else fun k => L1.getD k 0) (by decide) (by rw [e, List.length_append]; omega)
    (RdR.blk (cs := [.slice A0 L0.length c0, .slice A1 L1.length c1]) hb rfl (fun i hi => rfl)) (lt2 (P := fun i => RdR w 1 (if i = 0 then A0 else A1) (if i = 0 then L0.length else L1.length) (fun k => [.int .i64 ((if i = 0 then fun k => L0.getD k 0 else fun k => L1.getD k 0) k)])) hR0 hR1)).mono ?_
  rintro e' w' ⟨x, rfl, hs⟩
  refine ⟨x, by rw [e], ?_⟩
  rw [e] at hs
  refine hs.sub (KSub.own Pick.hd (fun i hi => ?_) KSub.nil)
  rw [← iL_cat rfl]
  simp only [catN, catR, tot, iL, Nat.zero_add, Nat.not_lt_zero, if_false, if_true, Nat.sub_zero]
  by_cases h : i < L0.length
  · rw [if_pos h, if_pos h]
  · rw [if_neg h, if_neg h]; rfl
def setJ (bT bB bS bF : Nat) (tl : List Value) (b : Int) (s : List Int × Nat) (r : Option Addr × Nat) : List Fact :=
  [.blk bF 3 [.int .i64 (s.2 : Int)], .blk bS 24 [.slice r.1 s.1.length r.2], .own r.1 s.1.length r.2 3 1 (iL s.1), .blk bT 84 tl, .blk bB 3 [.int .i64 b]]
def sidesL (L0 L1 : List Int) : List Int := srt (L0 ++ L1)
def bestS (r0 r1 : Nat → Int) (b : Int) (L0 L1 : List Int) (q : Nat) : List Int × Nat := setRun (sidesL L0 L1) (mvOk r0 r1 b L0 L1) q
def bestE (r0 r1 : Nat → Int) (b : Int) (L0 L1 : List Int) : List Int × Nat := bestS r0 r1 b L0 L1 (2 ^ (L0.length + L1.length))
def bestC (r0 r1 : Nat → Int) (b : Int) (L0 L1 : List Int) : Int := if (bestE r0 r1 b L0 L1).2 ≤ L0.length + L1.length then 0 else 52
theorem sides_len {L0 L1 : List Int} : (sidesL L0 L1).length = L0.length + L1.length := by unfold sidesL; rw [srt_len, List.length_append]
theorem bestS_step {r0 r1 : Nat → Int} {b : Int} {L0 L1 : List Int} {q n : Nat} (hn : n = L0.length + L1.length) : bestS r0 r1 b L0 L1 (q + 1) = setStep (mvOk r0 r1 b L0 L1) (bestS r0 r1 b L0 L1 q) (sel (sidesL L0 L1) q n) := by
  subst hn
  unfold bestS
  rw [← sides_len]
  rfl
set_option maxRecDepth 100000 in
set_option maxHeartbeats 4000000 in
theorem settle_any {W : World} {nr cr : Nat} {a : Nat → Option Addr} {l c : Nat → Nat} {Ar : Option Addr} {r0 r1 : Nat → Int} {L0 L1 : List Int} {b : Int} (h0 : l 0 = L0.length) (h1 : l 1 = L1.length) (hl : l 0 + l 1 ≤ 30) (hr : RestOk r0 r1 nr) (hb : 0 ≤ b ∧ b ≤ 1000000000000) (i0 : InxL L0 nr) (i1 : InxL L1 nr)
    (hR : RdR W 2 Ar nr (fun q => spL (r0 q) (r1 q))) (hL0 : RdR W 1 (a 0) (l 0) (iL L0)) (hL1 : RdR W 1 (a 1) (l 1) (iL L1)) :
    TryK Tryz.prog 34 #[.agg (tiedL a l c Ar nr cr).toArray, .int .i64 b] [] (Option Addr × Nat) (fun x => .slice x.1 (bestE r0 r1 b L0 L1).1.length x.2) (fun x => [.own x.1 (bestE r0 r1 b L0 L1).1.length x.2 3 1 (iL (bestE r0 r1 b L0 L1).1)]) errs (bestC r0 r1 b L0 L1) W := by
  replace h0 : l 0 ≤ L0.length ∧ L0.length ≤ l 0 := ⟨Nat.le_of_eq h0, Nat.le_of_eq h0.symm⟩
  replace h1 : l 1 ≤ L1.length ∧ L1.length ≤ l 1 := ⟨Nat.le_of_eq h1, Nat.le_of_eq h1.symm⟩
  have hlen : (L0 ++ L1).length ≤ 30 ∧ (L0 ++ L1).length ≤ L0.length + L1.length ∧ L0.length + L1.length ≤ (L0 ++ L1).length := by rw [List.length_append]; omega
  unfold TryK tiedL
  refine K_enterM (S := []) (K := []) Tryz.func34 rfl Tryz.ntmps34 rfl (Sat.start _) ?_
  refine TW.seqD fun Y1 hY1 => ?_
  refine TW.region ?_
  refine TL.m Mk.bx ?_
  intro b1
  refine TL.m Mk.bx ?_
  intro b2
  refine TL.p Pu.as ?_
  refine TL.nil ?_
  refine TQ.thenN (hY1 _ _ _ ?_)
  refine TW.seqD fun Y2 hY2 => ?_
  refine TW.region ?_
  refine TL.p (by first | exact Pu.fb ty_fa84_0 | exact Pu.fe ty_fa84_0) ?_
  refine TL.p (by first | exact Pu.fb ty_fa34_0 | exact Pu.fe ty_fa34_0) ?_
  refine TL.p (Pu.ld ty_sc24) ?_
  refine TL.p (by first | exact Pu.fb ty_fa84_0 | exact Pu.fe ty_fa84_0) ?_
  refine TL.p (by first | exact Pu.fb ty_fa34_1 | exact Pu.fe ty_fa34_1) ?_
  refine TL.p (Pu.ld ty_sc24) ?_
  refine TL.m Mk.bl ?_
  intro b3
  refine TL.call (M := []) rfl (enters Tryz.func63 rfl rfl) (List.Perm.refl _) rfl (fun w hw => by
      exact concat2_any (Nat.le_antisymm h0.1 h0.2) (Nat.le_antisymm h1.1 h1.2) (by omega) (hw.holds (.blk b3 24 [.slice (a 0) (l 0) (c 0), .slice (a 1) (l 1) (c 1)]) (by simp)) (hL0.sat hw Apart.nil) (hL1.sat hw Apart.nil)) ?_
  rintro ⟨A4, c4⟩
  obtain ⟨n, hn⟩ : ∃ n, n = (L0 ++ L1).length := ⟨_, rfl⟩
  refine TL.p Pu.as ?_
  refine TL.nil ?_
  refine TQ.thenN (hY2 _ _ _ ?_)
  refine TW.seqD fun Y3 hY3 => ?_
  refine TW.region ?_
  refine TL.p Pu.mv ?_
  refine TL.call rfl (enters Tryz.func36 rfl rfl) (List.Perm.refl _) rfl (fun w hw => by
      exact sortI_any rfl (by omega) (hw.holds (.own A4 (L0 ++ L1).length c4 3 1 (iL (L0 ++ L1))) (List.mem_cons_self ..))) ?_
  intro _
  refine TL.nil ?_
  refine TQ.thenN (hY3 _ _ _ ?_)
  refine TW.seqD fun Y4 hY4 => ?_
  refine TW.region ?_
  refine TL.m (Mk.al ty_zr24) ?_
  intro b4
  refine TL.nil ?_
  refine TQ.thenN (hY4 _ _ _ ?_)
  refine TW.seqD fun Y5 hY5 => ?_
  refine TW.region ?_
  refine TL.p Pu.mv ?_
  refine TL.p (Pu.ln Tryz.underlying24) ?_
  refine TL.p Pu.ad ?_
  refine TL.m (Mk.al ty_zr3) ?_
  intro b5
  first | refine TL.st ty_sz3 ?_ | refine TL.se ty_sz3 ?_
  refine TL.nil ?_
  refine TQ.thenN (hY5 _ _ _ ?_)
  refine TW.seqD fun Y6 hY6 => ?_
  refine TW.seqD fun Y7 hY7 => ?_
  refine TW.region ?_
  refine TL.p Pu.mv ?_
  refine TL.call (M := []) rfl (enters Tryz.func64 rfl rfl) (List.Perm.refl _) rfl (fun w hw => by
      exact sets_any) ?_
  rintro bL
  refine TL.nil ?_
  refine TQ.thenN (hY7 _ _ _ ?_)
  refine TW.block ?_
  refine TW.range (fun (q : Nat) (r : Option Addr × Nat) => setJ b1 b2 b4 b5 [.slice (a 0) (l 0) (c 0), .slice (a 1) (l 1) (c 1), .slice (a 2) (l 2) (c 2), .slice Ar nr cr] b (bestS r0 r1 b L0 L1 q) r) (fun x : Empty => x.elim) (fun x => x.elim) ((none, 0)) (sets1_iter (A := A4) (n := (L0 ++ L1).length) (cp := c4) (b := bL) (L := sidesL L0 L1) (srt_len _).symm hlen.1) ?_ ?_ ?_ ?_ (eg := enters Tryz.func93 rfl rfl)
  · unfold setsM setJ
    refine KSub.cons (by repeat (first | exact Pick.hd | apply Pick.tl)) (KSub.cons (by repeat (first | exact Pick.hd | apply Pick.tl)) (KSub.valI (by repeat (first | exact Pick.hd | apply Pick.tl)) ?_ (KSub.cons (by repeat (first | exact Pick.hd | apply Pick.tl)) (KSub.nilOwn (KSub.cons (by repeat (first | exact Pick.hd | apply Pick.tl)) (KSub.cons (by repeat (first | exact Pick.hd | apply Pick.tl)) KSub.nil))))))
    show (((L0 ++ L1).length : Nat) : Int) + 1 = (((sidesL L0 L1).length + 1 : Nat) : Int)
    rw [sides_len]
    omega
  · rintro lR DR oR oR1 oR2 q ⟨B, cb⟩ ⟨A7, c7⟩ hq ZR0 hZR0
    simp only [setsY, setsM, setJ, List.cons_append, List.nil_append]
    generalize hS : bestS r0 r1 b L0 L1 q = s at *
    have hsl := sel_len (L := sidesL L0 L1) (b := q) (L0 ++ L1).length
    have hsb : s.2 ≤ (L0 ++ L1).length + 1 ∧ s.1.length ≤ (L0 ++ L1).length := by
      have := setRun_le (L := sidesL L0 L1) (ok := mvOk r0 r1 b L0 L1) q
      rw [sides_len] at this
      rw [← hS]
      unfold bestS
      omega
    have hstep := bestS_step (r0 := r0) (r1 := r1) (b := b) (q := q) (show (L0 ++ L1).length = L0.length + L1.length by omega)
    rw [hS] at hstep
    generalize hM : sel (sidesL L0 L1) q (L0 ++ L1).length = M at *
    refine TWi.region ?_
    refine TL.p Pu.as ?_
    refine TL.nil ?_
    refine TQ.thenN (hZR0 _ _ _ Pick.hd ?_)
    refine TWi.block ?_
    refine TWi.seq fun Y8 hY8 => ?_
    refine TWi.join [(40, .bool (decide ((M.length : Int) < (s.2 : Int)) || (decide ((M.length : Int) = (s.2 : Int)) && decide (cmpI M s.1 < 0))))] ?_ (fun hJ1 => ?_)
    · refine TQ.thenN (hY8 _ _ ?_)
      refine TWi.cond rfl (fun hc0 => ?_) (fun hc0 => ?_)
      · try simp only [decide_eq_true_eq, decide_eq_false_iff_not, Bool.not_eq_true', Bool.not_eq_false', Bool.and_eq_true, Bool.or_eq_true, Bool.and_eq_false_iff, Bool.or_eq_false_iff, Int.not_lt, Int.not_le] at hc0
        have hbetter : M.length < s.2 ∨ M.length = s.2 ∧ cmpI M s.1 < 0 := by
          rcases hc0 with h | ⟨h, h'⟩
          · exact .inl (by omega)
          · exact .inr ⟨by omega, h'⟩
        refine TWi.seq fun Y9 hY9 => ?_
        refine TWi.dw 6 ?_
        refine RK.tk (Pu.lds ty_ag84) ?_
        refine RK.tk Pu.mv ?_
        refine RK.keep ?_
        refine RK.tk (Pu.ld ty_sc3) ?_
        refine RK.keep ?_
        refine RK.keep ?_
        refine RK.ch [false, false, true] ?_ trivial
        refine WK.call rfl (enters Tryz.func35 rfl rfl) rfl (fun w hw => by
            exact moved_any (a := a) (l := l) (c := c) (M := M) (Nat.le_antisymm h0.1 h0.2) (Nat.le_antisymm h1.1 h1.2) rfl (by omega) (by omega) (by omega) (hL0.sat hw Apart.nil) (hL1.sat hw Apart.nil) (OwnR.rdr (hw.holds (.own B M.length cb 3 1 (iL M)) (by simp)))) ?_
        rintro ⟨⟨A8, c8⟩, ⟨A9, c9⟩⟩
        refine WK.cr rfl (enters Tryz.func38 rfl rfl) (fun w hw => by
            exact movedBal_any (a := a) (l := l) (c := c) (M := M) (x := ((A8, c8), (A9, c9))) hr hb (by omega) i0 i1 (hR.sat hw Apart.nil) (OwnR.rdr (hw.holds (.own A8 (mvd L0 L1 M).length c8 3 1 (iL (mvd L0 L1 M))) (by simp [mvK]))) (OwnR.rdr (hw.holds (.own A9 (mvd L1 L0 M).length c9 3 1 (iL (mvd L1 L0 M))) (by simp [mvK])))) ?_
        refine WK.p Pu.eq ?_
        refine WK.n ?_
        refine TL.nil ?_
        refine TQ.thenN (hY9 _ _ ?_)
        refine TWi.cond rfl (fun hc1 => ?_) (fun hc1 => ?_)
        · try simp only [decide_eq_true_eq, decide_eq_false_iff_not, Bool.not_eq_true', Bool.not_eq_false', Bool.and_eq_true, Bool.or_eq_true, Bool.and_eq_false_iff, Bool.or_eq_false_iff, Int.not_lt, Int.not_le] at hc1
          have hst : bestS r0 r1 b L0 L1 (q + 1) = (M, M.length) := by rw [hstep]; unfold setStep; rw [if_pos ⟨hbetter, by unfold mvOk; exact decide_eq_true hc1⟩]
          obtain ⟨r', hr'⟩ : ∃ y : Option Addr × Nat, y = (B, cb) := ⟨_, rfl⟩
          refine TWi.region ?_
          refine TL.p Pu.mv ?_
          refine TL.p Pu.mv ?_
          refine TL.p (Pu.ln Tryz.underlying24) ?_
          first | refine TL.st ty_sz24 ?_ | refine TL.se ty_sz24 ?_
          first | refine TL.st ty_sz3 ?_ | refine TL.se ty_sz3 ?_
          refine TL.nil ?_
          refine TQ.blkN ?_
          refine TQ.rbN (r') ?_
          simp only [setsM, setJ, hst, hr', mvK, List.cons_append, List.nil_append]
          repeat (first | exact KSub.nil | refine KSub.cons (by repeat (first | exact Pick.hd | apply Pick.tl)) ?_)
        · try simp only [decide_eq_true_eq, decide_eq_false_iff_not, Bool.not_eq_true', Bool.not_eq_false', Bool.and_eq_true, Bool.or_eq_true, Bool.and_eq_false_iff, Bool.or_eq_false_iff, Int.not_lt, Int.not_le] at hc1
          have hst : bestS r0 r1 b L0 L1 (q + 1) = s := by rw [hstep]; unfold setStep; rw [if_neg (fun h => by have := h.2; unfold mvOk at this; exact hc1 (of_decide_eq_true this))]
          obtain ⟨r', hr'⟩ : ∃ y : Option Addr × Nat, y = (A7, c7) := ⟨_, rfl⟩
          refine TWi.skip ?_
          refine TQ.blkN ?_
          refine TQ.rbN (r') ?_
          simp only [setsM, setJ, hst, hr', mvK, List.cons_append, List.nil_append]
          repeat (first | exact KSub.nil | refine KSub.cons (by repeat (first | exact Pick.hd | apply Pick.tl)) ?_)
      · try simp only [decide_eq_true_eq, decide_eq_false_iff_not, Bool.not_eq_true', Bool.not_eq_false', Bool.and_eq_true, Bool.or_eq_true, Bool.and_eq_false_iff, Bool.or_eq_false_iff, Int.not_lt, Int.not_le] at hc0
        have hnot : ¬ ((M.length < s.2 ∨ M.length = s.2 ∧ cmpI M s.1 < 0) ∧ mvOk r0 r1 b L0 L1 M = true) := by
          rintro ⟨h | ⟨h, h'⟩, _⟩
          · have := hc0.1; omega
          · rcases hc0.2 with h8 | h8
            · omega
            · omega
        obtain ⟨r', hr'⟩ : ∃ y : Option Addr × Nat, y = (A7, c7) := ⟨_, rfl⟩
        have hst : bestS r0 r1 b L0 L1 (q + 1) = s := by rw [hstep]; unfold setStep; rw [if_neg hnot]
        refine TWi.skip ?_
        refine TQ.blkN ?_
        refine TQ.rbN (r') ?_
        simp only [setsM, setJ, hst, hr', mvK, List.cons_append, List.nil_append]
        repeat (first | exact KSub.nil | refine KSub.cons (by repeat (first | exact Pick.hd | apply Pick.tl)) ?_)
    refine TWi.region ?_
    refine TL.p Pu.mv ?_
    refine TL.p (Pu.ln Tryz.underlying24) ?_
    refine TL.p (Pu.ld ty_sc3) ?_
    refine TL.p Pu.lt ?_
    refine TL.p Pu.mv ?_
    refine TL.guard (t := 29) rfl (fun hg1 => ?_) (fun hg1 => ?_)
    · refine TL.gs ?_
      refine TL.gs ?_
      refine TL.gs ?_
      refine TL.gs ?_
      refine TL.gs ?_
      refine TL.gs ?_
      refine TL.gs ?_
      refine TL.gs ?_
      refine TL.gs ?_
      refine TL.gs ?_
      refine TL.p Pu.kt ?_
      refine TL.nil ?_
      exact TQ.sub (by repeat (first | exact trivial | refine ⟨rfl, ?_⟩ | refine ⟨trivial, ?_⟩ | refine ⟨(by show some (Value.bool _) = some (Value.bool _); simp [hg1, -Int.ofNat_lt, -Int.ofNat_le]), ?_⟩)) (by repeat (first | exact KSub.nil | refine KSub.cons (by repeat (first | exact Pick.hd | apply Pick.tl)) ?_ | exact KSub.refl _ | refine KSub.drop ?_)) hJ1
    · refine TL.gd Pu.mv ?_
      refine TL.gd (Pu.ln Tryz.underlying24) ?_
      refine TL.gd (Pu.ld ty_sc3) ?_
      refine TL.gd Pu.eq ?_
      refine TL.gd Pu.mv ?_
      refine TL.guard (t := 34) rfl (fun hg2 => ?_) (fun hg2 => ?_)
      · refine TL.gd Pu.mv ?_
        refine TL.gd (Pu.ld ty_sc24) ?_
        refine TL.cr rfl (enters Tryz.func65 rfl rfl) (fun w hw => by
            exact compareI_any (L := M) (M := s.1) rfl rfl (by omega) (by omega) (OwnR.rdr (hw.holds (.own B M.length cb 3 1 (iL M)) (by simp))) (OwnR.rdr (hw.holds (.own A7 s.1.length c7 3 1 (iL s.1)) (by simp)))) ?_
        refine TL.gd Pu.lt ?_
        refine TL.gd Pu.kt ?_
        refine TL.p Pu.kf ?_
        refine TL.nil ?_
        exact TQ.sub (by repeat (first | exact trivial | refine ⟨rfl, ?_⟩ | refine ⟨trivial, ?_⟩ | refine ⟨(by show some (Value.bool _) = some (Value.bool _); simp [hg1, hg2, -Int.ofNat_lt, -Int.ofNat_le]), ?_⟩)) (by repeat (first | exact KSub.nil | refine KSub.cons (by repeat (first | exact Pick.hd | apply Pick.tl)) ?_ | exact KSub.refl _ | refine KSub.drop ?_)) hJ1
      · refine TL.gs ?_
        refine TL.gs ?_
        refine TL.gs ?_
        refine TL.gs ?_
        refine TL.gd Pu.kf ?_
        refine TL.p Pu.kf ?_
        refine TL.nil ?_
        exact TQ.sub (by repeat (first | exact trivial | refine ⟨rfl, ?_⟩ | refine ⟨trivial, ?_⟩ | refine ⟨(by show some (Value.bool _) = some (Value.bool _); simp [hg1, hg2, -Int.ofNat_lt, -Int.ofNat_le]), ?_⟩)) (by repeat (first | exact KSub.nil | refine KSub.cons (by repeat (first | exact Pick.hd | apply Pick.tl)) ?_ | exact KSub.refl _ | refine KSub.drop ?_)) hJ1
  · rintro DR ⟨A7, c7⟩
    simp only [setsM, setJ, List.cons_append, List.nil_append]
    generalize hS : bestS r0 r1 b L0 L1 (2 ^ (L0 ++ L1).length) = s at *
    have hE : bestE r0 r1 b L0 L1 = s := by unfold bestE; rw [show L0.length + L1.length = (L0 ++ L1).length by omega]; exact hS
    have hcode : bestC r0 r1 b L0 L1 = if decide ((s.2 : Int) ≤ ((L0 ++ L1).length : Int)) = true then 0 else 52 := by
      unfold bestC
      rw [hE]
      by_cases h : s.2 ≤ L0.length + L1.length
      · rw [if_pos h, if_pos (decide_eq_true (by omega))]
      · rw [if_neg h, if_neg (by rw [decide_eq_true_eq]; omega)]
    refine TQ.blkN ?_
    refine TQ.thenN (hY6 _ _ _ ?_)
    refine TW.seqD fun Y10 hY10 => ?_
    refine TW.region ?_
    refine TL.p (Pu.ld ty_sc3) ?_
    refine TL.p Pu.mv ?_
    refine TL.p (Pu.ln Tryz.underlying24) ?_
    refine TL.p Pu.le ?_
    refine TL.ct rfl (enters Tryz.func40 rfl rfl) (fun w hw => by
        exact need_any _ _ _ (by decide)) (fun hp1 => ?_) (fun hp1 => ?_)
    rotate_left
    · refine TQ.thenP ?_
      refine TQ.panM (by repeat (first | exact Pick.hd | apply Pick.tl)) ?_
      exact fun w hw => .inr ⟨by rw [hcode]; exact hp1, by rw [hcode], hw.sub KSub.nil⟩
    refine TL.nil ?_
    refine TQ.thenN (hY10 _ _ _ ?_)
    refine TW.seqD fun Y11 hY11 => ?_
    refine TW.region ?_
    refine TL.p (Pu.ld ty_sc24) ?_
    refine TL.p Pu.as ?_
    refine TL.nil ?_
    refine TQ.thenN (hY11 _ _ _ ?_)
    refine TW.ret ?_
    refine TQ.retM Tryz.results34 (by repeat (first | exact Pick.hd | apply Pick.tl)) ((.tmp rfl .nil)) ?_
    exact fun w hw => .inl ⟨by rw [hcode]; exact hp1, (A7, c7), by rw [hE]; rfl, by rw [hE]; exact hw.sub (by repeat (first | exact KSub.nil | refine KSub.cons (by repeat (first | exact Pick.hd | apply Pick.tl)) ?_))⟩
  · intro _ x; exact x.elim
end Go.Proofs.YtljhdcclajikiaaGreatDoor
namespace Go.Proofs.YtljhdcclajikiaaGreatDoor
set_option linter.all false
set_option linter.unusedVariables false
set_option linter.unusedSimpArgs false
open Go.RowKit
section
variable {w : World} {A : Option Addr} {np cp : Nat} {pk : Nat → Nat → Int} {a : Nat → Option Addr} {l c : Nat → Nat} {v : Nat → Nat → Int}
def askedV (np : Nat) (pk : Nat → Nat → Int) (l : Nat → Nat) (v : Nat → Nat → Int) (b : Int) : Int := if check1 np pk l v = 0 then (if inB5 0 1000000000 b then 0 else 2) else check1 np pk l v
def balF (pk : Nat → Nat → Int) (l : Nat → Nat) (v : Nat → Nat → Int) (b : Int) : Int := balV (wlo pk (v 0) (l 0)) (whi pk (v 0) (l 0)) (wlo pk (v 1) (l 1)) (whi pk (v 1) (l 1)) b
def balR (np : Nat) (pk : Nat → Nat → Int) (l : Nat → Nat) (v : Nat → Nat → Int) (b : Int) : Int := if askedV np pk l v b = 0 then balF pk l v b else 0
end
set_option maxRecDepth 100000 in
set_option maxHeartbeats 400000 in
theorem balance1_any {W0 w : World} {A : Option Addr} {np cp bp bt bb x : Nat} {pk : Nat → Nat → Int} {a : Nat → Option Addr} {l c : Nat → Nat} {v : Nat → Nat → Int} {b : Int}
    (hL : Lay1 W0 A np pk a l v) (hb : Below W0.heap.size W0 w) (hS : ∀ b ∈ [x], W0.heap.size ≤ b)
    (h1 : OldB w bp [.slice A np cp]) (h2 : OldB w bt (tieL a l c)) (h3 : OldB w bb [.int .i64 b]) (n1 : bp ∉ [x]) (n2 : bt ∉ [x]) (n3 : bb ∉ [x])
    (hM : Sat [x] w [.blk x 5 [.int .u8 0]] w) :
    Doing Tryz.prog 37 #[.pointer (some ⟨bp, 0, none⟩), .pointer (some ⟨bt, 0, none⟩), .pointer (some ⟨bb, 0, none⟩), .pointer (some ⟨x, 0, none⟩)] [.blk x 5 [.int .u8 0]] Unit
      (fun _ => if askedV np pk l v b = 0 then [.blk x 5 [.int .u8 (balF pk l v b)]] else [.blk x 5 [.int .u8 0]]) (askedV np pk l v b) w := by
  have hnp := hL.hnp
  have ap1 := apart_of n1
  have ap2 := apart_of n2
  have ap3 := apart_of n3
  have hL1 := hL.ext hb
  refine K_enter (args := [.pointer (some ⟨bp, 0, none⟩), .pointer (some ⟨bt, 0, none⟩), .pointer (some ⟨bb, 0, none⟩), .pointer (some ⟨x, 0, none⟩)]) (S := [x]) (K := [.blk x 5 [.int .u8 0]]) Tryz.func37 rfl Tryz.ntmps37 rfl hM ?_
  refine TW.seq fun Y1 hY1 => ?_
  refine TW.region ?_
  refine TL.p (by first | exact (Pu.ld ty_sc22) | exact (Pu.ldo ty_sc22)) ?_
  refine TL.p (by first | exact (Pu.lds ty_ag34) | exact (Pu.ldso ty_ag34)) ?_
  refine TL.m Mk.bl ?_
  intro b1
  refine TL.ct rfl (enters Tryz.func29 rfl rfl) (fun w hw => by
      have hLw := (hL.ext (old_below hb hw hS)).lay (c := c) (b := b1) (E := 34) (hw.holds (.blk b1 34 (tieL a l c)) (by simp [tieL]))
      exact hLw.check) (fun hp1 => ?_) (fun hp1 => ?_)
  rotate_left
  · have hp1' : check1 np pk l v ≠ 0 := hp1
    have hcode : askedV np pk l v b = check1 np pk l v := if_neg hp1'
    refine TQ.thenP ?_
    refine TQ.pan rfl ?_
    exact fun w hw => Doing.no () (by first | exact hp2 | exact hp1) hcode (fun h => if_neg h) hw (by repeat (first | exact KSub.nil | refine KSub.cons (by repeat (first | exact Pick.hd | apply Pick.tl)) ?_))
  refine TL.nil ?_
  refine TQ.thenN (hY1 _ _ ?_)
  refine TW.seq fun Y2 hY2 => ?_
  refine TW.region ?_
  refine TL.p (by first | exact (Pu.ld ty_sc3) | exact (Pu.ldo ty_sc3)) ?_
  refine TL.ct rfl (enters Tryz.func30 rfl rfl) (fun w hw => by
      exact bounded_any _ _) (fun hp2 => ?_) (fun hp2 => ?_)
  rotate_left
  · have hp1' : check1 np pk l v = 0 := hp1
    have hcode : askedV np pk l v b = (if inB5 0 1000000000 b then 0 else 2) := if_pos hp1'
    refine TQ.thenP ?_
    refine TQ.pan rfl ?_
    exact fun w hw => Doing.no () (by first | exact hp2 | exact hp1) hcode (fun h => if_neg h) hw (by repeat (first | exact KSub.nil | refine KSub.cons (by repeat (first | exact Pick.hd | apply Pick.tl)) ?_))
  refine TL.nil ?_
  refine TQ.thenN (hY2 _ _ ?_)
  refine TW.dw 6 ?_
  refine RK.tk (by first | exact (Pu.lds ty_ag34) | exact (Pu.ldso ty_ag34)) ?_
  refine RK.tk (by first | exact (Pu.ld ty_sc22) | exact (Pu.ldo ty_sc22)) ?_
  refine RK.keep ?_
  refine RK.keep ?_
  refine RK.tk (by first | exact (Pu.ld ty_sc3) | exact (Pu.ldo ty_sc3)) ?_
  refine RK.keep ?_
  refine RK.ch [false, true, false] ?_ trivial
  refine WK.call rfl (enters Tryz.func33 rfl rfl) rfl (fun w hw => by
      have hLw := hL.ext (old_below hb hw hS)
      exact rests_any hLw.hG hnp (check1_ok hp1).2.1 hLw.hR) ?_
  rintro ⟨Ar, cr⟩
  refine WK.p Pu.bd ?_
  refine WK.cr rfl (enters Tryz.func38 rfl rfl) (fun w hw => by
      have hLw := hL.ext (old_below hb hw hS)
      obtain ⟨k1, k2, k3, k4⟩ := check1_ok hp1
      rw [tot3] at k4
      have hRr := OwnR.rdr (hw.holds (.own Ar np cr 47 2 (fun q => spL (rl (pk q)) (rh (pk q)))) (by simp))
      have hbb := need_yes (by decide) hp2
      have hl2 : ∀ j, j < 2 → l j ≤ 1000 := fun j hj => by
        have : j = 0 ∨ j = 1 := by omega
        rcases this with rfl | rfl <;> omega
      simp only [inB5, Bool.and_eq_true, decide_eq_true_eq] at hbb
      exact balance_any (a := a) (l := l) (c := c) (Ar := Ar) (cr := cr) (RestOk.of_packs k2) (by omega) hl2 (fun j hj => k3 j (by omega)) hRr (fun j hj => hLw.hI j (by omega))) ?_
  refine WK.n ?_
  first | refine TL.st ty_sz5 ?_ | refine TL.se ty_sz5 ?_
  refine TL.nil ?_
  refine TQ.end Tryz.results37 rfl (.nil) ?_
  exact fun w hw => Doing.yes () (by unfold askedV; rw [if_pos (show check1 np pk l v = 0 from hp1)]; exact hp2) (fun h => if_pos h) hw (by repeat (first | exact KSub.nil | refine KSub.cons (by repeat (first | exact Pick.hd | apply Pick.tl)) ?_))
set_option maxRecDepth 100000 in
set_option maxHeartbeats 1000000 in
theorem loadBalance_any {w : World} {A : Option Addr} {np cp : Nat} {pk : Nat → Nat → Int} {a : Nat → Option Addr} {l c : Nat → Nat} {v : Nat → Nat → Int} {b : Int} (hL : Lay1 w A np pk a l v) :
    Calls Tryz.prog 9 #[.slice A np cp, .agg (tieL a l c).toArray, .int .i64 b] w (Ret w (.tuple #[.int .u8 (balR np pk l v b), .int .i64 (askedV np pk l v b)])) := by
  refine K_enter (S := []) (K := []) Tryz.func9 rfl Tryz.ntmps9 rfl (Sat.start _) ?_
  refine TW.seq fun Y1 hY1 => ?_
  refine TW.region ?_
  refine TL.m Mk.bx ?_
  intro b1
  refine TL.m Mk.bx ?_
  intro b2
  refine TL.m Mk.bx ?_
  intro b3
  refine TL.m (Mk.al ty_zr5) ?_
  intro b4
  refine TL.p Pu.as ?_
  refine TL.nil ?_
  refine TQ.thenN (hY1 _ _ ?_)
  refine TW.seq fun Y2 hY2 => ?_
  refine TW.region ?_
  refine TL.p Pu.fn ?_
  refine TL.call rfl (enters Tryz.func27 rfl rfl) (M := [.blk b4 5 [.int .u8 0]]) (List.Perm.refl _) rfl (fun w hw => by
      have hB1 : Blk w b1 22 #[.slice A np cp] := hw.holds (.blk b1 22 [.slice A np cp]) (by simp)
      have hB2 : Blk w b2 34 (tieL a l c).toArray := hw.holds (.blk b2 34 (tieL a l c)) (by simp [tieL])
      have hB3 : Blk w b3 3 #[.int .i64 b] := hw.holds (.blk b3 3 [.int .i64 b]) (by simp)
      have hnd := hw.nd
      simp [feet, Fact.foot] at hnd
      obtain ⟨hself, hge⟩ := feet_new (M := [.blk b4 5 [.int .u8 0]]) hw (List.Perm.refl _)
      have hbel := Chg.ext hw.chg
      have m1 : b1 ∉ [b4] := by simp; omega
      have m2 : b2 ∉ [b4] := by simp; omega
      have m3 : b3 ∉ [b4] := by simp; omega
      have ht := trying_any (M := [.blk b4 5 [.int .u8 0]]) (code := askedV np pk l v b) (fs := []) (cs := [.pointer (some ⟨b1, 0, none⟩), .pointer (some ⟨b2, 0, none⟩), .pointer (some ⟨b3, 0, none⟩), .pointer (some ⟨b4, 0, none⟩)]) (enters Tryz.func37 rfl rfl) hself fun w' hw' =>
        balance1_any (c := c) (cp := cp) hL (old_below hbel hw' hge) hge ((OldB.of_blk (cs := [_]) hB1).sat hw' m1) ((OldB.of_blk hB2).sat hw' m2) ((OldB.of_blk (cs := [_]) hB3).sat hw' m3) m1 m2 m3 hw'.self
      refine Calls.mono (R' := fun e w' => ∃ x : Unit, e = .returned (.int .i64 (askedV np pk l v b)) ∧ Sat (feet [.blk b4 5 [.int .u8 0]]) w [.blk b4 5 [.int .u8 (balR np pk l v b)]] w') ht ?_
      rintro e w' ⟨x, he, hs⟩
      refine ⟨(), he, ?_⟩
      unfold balR
      by_cases h0 : askedV np pk l v b = 0
      · replace hs : Sat _ w (if askedV np pk l v b = 0 then _ else _) w' := hs
        rw [if_pos h0] at hs
        rw [if_pos h0]
        exact hs
      · replace hs : Sat _ w (if askedV np pk l v b = 0 then _ else _) w' := hs
        rw [if_neg h0] at hs
        rw [if_neg h0]
        exact hs) ?_
  rintro ⟨⟩
  refine TL.p Pu.as ?_
  refine TL.nil ?_
  refine TQ.thenN (hY2 _ _ ?_)
  refine TW.seq fun Y3 hY3 => ?_
  refine TW.region ?_
  refine TL.p (Pu.ld ty_sc5) ?_
  refine TL.p Pu.mv ?_
  first | refine TL.st ty_sz5 ?_ | refine TL.se ty_sz5 ?_
  refine TL.p Pu.as ?_
  refine TL.nil ?_
  refine TQ.thenN (hY3 _ _ ?_)
  refine TW.ret ?_
  refine TQ.ret Tryz.results9 rfl ((RV.c1 ty_sc5 (.tmp rfl .nil))) ?_
  exact fun w hw => Ret.of hw
end Go.Proofs.YtljhdcclajikiaaGreatDoor
namespace Go.Proofs.YtljhdcclajikiaaGreatDoor
set_option linter.all false
set_option linter.unusedVariables false
set_option linter.unusedSimpArgs false
open Go.RowKit
section
variable {np : Nat} {pk : Nat → Nat → Int} {l : Nat → Nat} {v : Nat → Nat → Int} {b : Int}
def lft (l : Nat → Nat) (v : Nat → Nat → Int) : List Int := toI (v 0) (l 0)
def rgt (l : Nat → Nat) (v : Nat → Nat → Int) : List Int := toI (v 1) (l 1)
def settB (pk : Nat → Nat → Int) (l : Nat → Nat) (v : Nat → Nat → Int) (b : Int) : List Int × Nat := bestE (fun q => rl (pk q)) (fun q => rh (pk q)) b (lft l v) (rgt l v)
def settD (pk : Nat → Nat → Int) (l : Nat → Nat) (v : Nat → Nat → Int) (b : Int) : Int := bestC (fun q => rl (pk q)) (fun q => rh (pk q)) b (lft l v) (rgt l v)
def settC (np : Nat) (pk : Nat → Nat → Int) (l : Nat → Nat) (v : Nat → Nat → Int) (b : Int) : Int := if askedV np pk l v b = 0 then settD pk l v b else askedV np pk l v b
def settL (np : Nat) (pk : Nat → Nat → Int) (l : Nat → Nat) (v : Nat → Nat → Int) (b : Int) : List Int := if settC np pk l v b = 0 then (settB pk l v b).1 else []
theorem inxL_toI {u : Nat → Int} {n N : Nat} (h : Inx u n N) : InxL (toI u n) N := fun x hx => by
  unfold toI at hx
  obtain ⟨k, hk, rfl⟩ := List.mem_map.1 hx
  exact h k (List.mem_range.1 hk)
end
def settF (x : Nat) (np : Nat) (pk : Nat → Nat → Int) (l : Nat → Nat) (v : Nat → Nat → Int) (b : Int) (y : Option Addr × Nat) : List Fact := [.blk x 24 [.slice y.1 (settL np pk l v b).length y.2], .own y.1 (settL np pk l v b).length y.2 3 1 (iL (settL np pk l v b))]
theorem settF_no {M K : List Fact} {x np : Nat} {pk : Nat → Nat → Int} {l : Nat → Nat} {v : Nat → Nat → Int} {b : Int} {w w' : World} {code : Int} (hc : code ≠ 0) (e : settC np pk l v b = code) (hs : Sat (feet M) w K w') (hK : KSub K [.blk x 24 [.slice none 0 0]]) :
    ∃ y : Option Addr × Nat, Sat (feet M) w (settF x np pk l v b y) w' ∧ Ending.panicked (errs code) = if settC np pk l v b = 0 then .returned (.tuple #[]) else .panicked (errs (settC np pk l v b)) := by
  subst e
  refine ⟨(none, 0), ?_, by rw [if_neg hc]⟩
  unfold settF settL
  rw [if_neg hc]
  exact (hs.sub hK).sub (KSub.cons Pick.hd (KSub.nilOwn KSub.nil))
set_option maxRecDepth 100000 in
set_option maxHeartbeats 1000000 in
theorem settle1_any {W0 w : World} {A : Option Addr} {np cp bp bt bb x : Nat} {pk : Nat → Nat → Int} {a : Nat → Option Addr} {l c : Nat → Nat} {v : Nat → Nat → Int} {b : Int}
    (hL : Lay1 W0 A np pk a l v) (hb : Below W0.heap.size W0 w) (hS : ∀ b ∈ [x], W0.heap.size ≤ b)
    (h1 : OldB w bp [.slice A np cp]) (h2 : OldB w bt (tieL a l c)) (h3 : OldB w bb [.int .i64 b]) (n1 : bp ∉ [x]) (n2 : bt ∉ [x]) (n3 : bb ∉ [x])
    (hM : Sat [x] w [.blk x 24 [.slice none 0 0]] w) :
    Doing Tryz.prog 49 #[.pointer (some ⟨bp, 0, none⟩), .pointer (some ⟨bt, 0, none⟩), .pointer (some ⟨bb, 0, none⟩), .pointer (some ⟨x, 0, none⟩)] [.blk x 24 [.slice none 0 0]] (Option Addr × Nat)
      (settF x np pk l v b) (settC np pk l v b) w := by
  have hnp := hL.hnp
  have ap1 := apart_of n1
  have ap2 := apart_of n2
  have ap3 := apart_of n3
  have hL1 := hL.ext hb
  refine K_enter (args := [.pointer (some ⟨bp, 0, none⟩), .pointer (some ⟨bt, 0, none⟩), .pointer (some ⟨bb, 0, none⟩), .pointer (some ⟨x, 0, none⟩)]) (S := [x]) (K := [.blk x 24 [.slice none 0 0]]) Tryz.func49 rfl Tryz.ntmps49 rfl hM ?_
  refine TW.seq fun Y1 hY1 => ?_
  refine TW.region ?_
  refine TL.p (by first | exact (Pu.ld ty_sc22) | exact (Pu.ldo ty_sc22)) ?_
  refine TL.p (by first | exact (Pu.lds ty_ag34) | exact (Pu.ldso ty_ag34)) ?_
  refine TL.m Mk.bl ?_
  intro b1
  refine TL.ct rfl (enters Tryz.func29 rfl rfl) (fun w hw => by
      have hLw := (hL.ext (old_below hb hw hS)).lay (c := c) (b := b1) (E := 34) (hw.holds (.blk b1 34 (tieL a l c)) (by simp [tieL]))
      exact hLw.check) (fun hp1 => ?_) (fun hp1 => ?_)
  rotate_left
  · have hp1' : check1 np pk l v ≠ 0 := hp1
    have hask : askedV np pk l v b = check1 np pk l v := if_neg hp1'
    have hcode : settC np pk l v b = check1 np pk l v := by unfold settC; rw [hask, if_neg hp1']
    refine TQ.thenP ?_
    refine TQ.pan rfl ?_
    exact fun w hw => settF_no (by first | exact hp3 | exact hp2 | exact hp1) hcode hw (by repeat (first | exact KSub.nil | refine KSub.cons (by repeat (first | exact Pick.hd | apply Pick.tl)) ?_))
  refine TL.nil ?_
  refine TQ.thenN (hY1 _ _ ?_)
  refine TW.seq fun Y2 hY2 => ?_
  refine TW.region ?_
  refine TL.p (by first | exact (Pu.ld ty_sc3) | exact (Pu.ldo ty_sc3)) ?_
  refine TL.ct rfl (enters Tryz.func30 rfl rfl) (fun w hw => by
      exact bounded_any _ _) (fun hp2 => ?_) (fun hp2 => ?_)
  rotate_left
  · have hp1' : check1 np pk l v = 0 := hp1
    have hask : askedV np pk l v b = (if inB5 0 1000000000 b then 0 else 2) := if_pos hp1'
    have hcode : settC np pk l v b = (if inB5 0 1000000000 b then 0 else 2) := by unfold settC; rw [hask, if_neg hp2]
    refine TQ.thenP ?_
    refine TQ.pan rfl ?_
    exact fun w hw => settF_no (by first | exact hp3 | exact hp2 | exact hp1) hcode hw (by repeat (first | exact KSub.nil | refine KSub.cons (by repeat (first | exact Pick.hd | apply Pick.tl)) ?_))
  refine TL.nil ?_
  refine TQ.thenN (hY2 _ _ ?_)
  refine TW.ex0k [] ?_
  refine RG.tk 0 rfl (by first | exact (Pu.lds ty_ag34) | exact (Pu.ldso ty_ag34)) ?_
  refine RG.tk 1 rfl (by first | exact (Pu.ld ty_sc22) | exact (Pu.ldo ty_sc22)) ?_
  refine RG.tk 4 rfl (by first | exact (Pu.ld ty_sc3) | exact (Pu.ldo ty_sc3)) ?_
  refine RG.a1 2 rfl (fun X2 hX2 => ?_)
  refine TL.call (M := []) rfl (enters Tryz.func33 rfl rfl) (List.Perm.refl _) rfl (fun w hw => by
      have hLw := hL.ext (old_below hb hw hS)
      exact rests_any hLw.hG hnp (check1_ok hp1).2.1 hLw.hR) ?_
  rintro ⟨Ar, cr⟩
  refine TL.nil ?_
  refine TQ.nxt (hX2 _ _ (by repeat (first | exact HasL.nil | refine HasL.cons (by repeat (first | exact Pick.hd | apply Pick.tl)) ?_)) ?_)
  refine RG.tk 3 rfl Pu.bd ?_
  refine RG.a1 5 rfl (fun X5 hX5 => ?_)
  refine TL.ctk rfl (enters Tryz.func34 rfl rfl) (M := []) (List.Perm.refl _) (fun w hw => by
      have hLw := hL.ext (old_below hb hw hS)
      obtain ⟨k1, k2, k3, k4⟩ := check1_ok hp1
      rw [tot3] at k4
      have hRr := OwnR.rdr (hw.holds (.own Ar np cr 47 2 (fun q => spL (rl (pk q)) (rh (pk q)))) (by simp))
      have hbb := need_yes (by decide) hp2
      simp only [inB5, Bool.and_eq_true, decide_eq_true_eq] at hbb
      have t0 := (hLw.hI 0 (by omega)).toI
      have t1 := (hLw.hI 1 (by omega)).toI
      rw [toI_len] at t0 t1
      exact settle_any (a := a) (l := l) (c := c) (Ar := Ar) (cr := cr) (L0 := lft l v) (L1 := rgt l v) toI_len.symm toI_len.symm (by omega) (RestOk.of_packs k2) (by omega) (inxL_toI (k3 0 (by omega))) (inxL_toI (k3 1 (by omega))) hRr t0 t1) ?_ (fun hp3 => ?_)
  rotate_left
  · have hask : askedV np pk l v b = 0 := by unfold askedV; rw [if_pos (show check1 np pk l v = 0 from hp1)]; exact hp2
    have hcode : settC np pk l v b = settD pk l v b := by unfold settC; rw [if_pos hask]
    refine TQ.nxtP ?_
    refine TQ.pan rfl ?_
    exact fun w hw => settF_no (by first | exact hp3 | exact hp2 | exact hp1) hcode hw (by repeat (first | exact KSub.nil | refine KSub.cons (by repeat (first | exact Pick.hd | apply Pick.tl)) ?_))
  rintro ⟨As, cs⟩ hp3
  refine TL.nil ?_
  refine TQ.nxt (hX5 _ _ (by repeat (first | exact HasL.nil | refine HasL.cons (by repeat (first | exact Pick.hd | apply Pick.tl)) ?_)) ?_)
  refine RG.a1 6 rfl (fun X6 hX6 => ?_)
  first | refine TL.st ty_sz24 ?_ | refine TL.se ty_sz24 ?_
  refine TL.nil ?_
  refine TQ.nxt (hX6 _ _ (by repeat (first | exact HasL.nil | refine HasL.cons (by repeat (first | exact Pick.hd | apply Pick.tl)) ?_)) ?_)
  refine RG.nil ?_ (by kernel_rfl)
  refine TQ.end Tryz.results49 rfl (.nil) ?_
  have hask : askedV np pk l v b = 0 := by unfold askedV; rw [if_pos (show check1 np pk l v = 0 from hp1)]; exact hp2
  have hcode : settC np pk l v b = 0 := by unfold settC; rw [if_pos hask]; exact hp3
  have hlist : settL np pk l v b = (settB pk l v b).1 := if_pos hcode
  exact fun w hw => ⟨(As, cs), by
    unfold settF
    rw [hlist]
    exact hw.sub (by repeat (first | exact KSub.nil | refine KSub.cons (by repeat (first | exact Pick.hd | apply Pick.tl)) ?_)), by rw [if_pos hcode]; rfl⟩
set_option maxRecDepth 100000 in
set_option maxHeartbeats 1000000 in
theorem loadSettle_any {w : World} {A : Option Addr} {np cp : Nat} {pk : Nat → Nat → Int} {a : Nat → Option Addr} {l c : Nat → Nat} {v : Nat → Nat → Int} {b : Int} (hL : Lay1 w A np pk a l v) :
    CallsK Tryz.prog 19 #[.slice A np cp, .agg (tieL a l c).toArray, .int .i64 b] [] w (Option Addr × Nat) (fun y => .tuple #[.slice y.1 (settL np pk l v b).length y.2, .int .i64 (settC np pk l v b)]) (fun y => [.own y.1 (settL np pk l v b).length y.2 3 1 (iL (settL np pk l v b))]) := by
  refine K_enter (S := []) (K := []) Tryz.func19 rfl Tryz.ntmps19 rfl (Sat.start _) ?_
  refine TW.seq fun Y1 hY1 => ?_
  refine TW.region ?_
  refine TL.m Mk.bx ?_
  intro b1
  refine TL.m Mk.bx ?_
  intro b2
  refine TL.m Mk.bx ?_
  intro b3
  refine TL.m (Mk.al ty_zr24) ?_
  intro b4
  refine TL.p Pu.as ?_
  refine TL.nil ?_
  refine TQ.thenN (hY1 _ _ ?_)
  refine TW.seq fun Y2 hY2 => ?_
  refine TW.region ?_
  refine TL.p Pu.fn ?_
  refine TL.call rfl (enters Tryz.func27 rfl rfl) (M := [.blk b4 24 [.slice none 0 0]]) (List.Perm.refl _) rfl (fun w hw => by
      have hB1 : Blk w b1 22 #[.slice A np cp] := hw.holds (.blk b1 22 [.slice A np cp]) (by simp)
      have hB2 : Blk w b2 34 (tieL a l c).toArray := hw.holds (.blk b2 34 (tieL a l c)) (by simp [tieL])
      have hB3 : Blk w b3 3 #[.int .i64 b] := hw.holds (.blk b3 3 [.int .i64 b]) (by simp)
      have hnd := hw.nd
      simp [feet, Fact.foot] at hnd
      obtain ⟨hself, hge⟩ := feet_new (M := [.blk b4 24 [.slice none 0 0]]) hw (List.Perm.refl _)
      have hbel := Chg.ext hw.chg
      have m1 : b1 ∉ [b4] := by simp; omega
      have m2 : b2 ∉ [b4] := by simp; omega
      have m3 : b3 ∉ [b4] := by simp; omega
      exact trying_any (M := [.blk b4 24 [.slice none 0 0]]) (code := settC np pk l v b) (fs := []) (cs := [.pointer (some ⟨b1, 0, none⟩), .pointer (some ⟨b2, 0, none⟩), .pointer (some ⟨b3, 0, none⟩), .pointer (some ⟨b4, 0, none⟩)]) (enters Tryz.func49 rfl rfl) hself fun w' hw' =>
        settle1_any (c := c) (cp := cp) hL (old_below hbel hw' hge) hge ((OldB.of_blk (cs := [_]) hB1).sat hw' m1) ((OldB.of_blk hB2).sat hw' m2) ((OldB.of_blk (cs := [_]) hB3).sat hw' m3) m1 m2 m3 hw'.self) ?_
  rintro ⟨As, cs⟩
  simp only [settF, List.cons_append, List.nil_append]
  refine TL.p Pu.as ?_
  refine TL.nil ?_
  refine TQ.thenN (hY2 _ _ ?_)
  refine TW.seq fun Y3 hY3 => ?_
  refine TW.region ?_
  refine TL.p (Pu.ld ty_sc24) ?_
  refine TL.p Pu.mv ?_
  first | refine TL.st ty_sz24 ?_ | refine TL.se ty_sz24 ?_
  refine TL.p Pu.as ?_
  refine TL.nil ?_
  refine TQ.thenN (hY3 _ _ ?_)
  refine TW.ret ?_
  refine TQ.ret Tryz.results19 rfl ((RV.c1 ty_sc24 (.tmp rfl .nil))) ?_
  exact fun w hw => ⟨(As, cs), rfl, hw.sub (by repeat (first | exact KSub.nil | refine KSub.cons (by repeat (first | exact Pick.hd | apply Pick.tl)) ?_))⟩
end Go.Proofs.YtljhdcclajikiaaGreatDoor
namespace Go.Proofs.YtljhdcclajikiaaGreatDoor
set_option linter.all false
set_option linter.unusedVariables false
set_option linter.unusedSimpArgs false
open Go.RowKit
def ownsT (X : Nat → Option Addr) (T : Nat → List Int) (D : Nat → Nat) : Nat → List Fact
  | 0 => []
  | s + 1 => .own (X s) (T s).length (D s) 3 1 (iL (T s)) :: ownsT X T D s
def ownsTX (X : Nat → Option Addr) (T : Nat → List Int) (D : Nat → Nat) (s : Nat) : Nat → List Fact
  | 0 => []
  | n + 1 => if n = s then ownsT X T D n else .own (X n) (T n).length (D n) 3 1 (iL (T n)) :: ownsTX X T D s n
def tieX (X : Nat → Option Addr) (T : Nat → List Int) (D : Nat → Nat) (i : Nat) : List Value := [.slice (X (3 * i)) (T (3 * i)).length (D (3 * i)), .slice (X (3 * i + 1)) (T (3 * i + 1)).length (D (3 * i + 1)), .slice (X (3 * i + 2)) (T (3 * i + 2)).length (D (3 * i + 2))]
section
variable {X X2 : Nat → Option Addr} {T T2 : Nat → List Int} {D D2 : Nat → Nat} {s : Nat}
theorem ownsT_congr : ∀ {n : Nat}, (∀ i, i < n → X i = X2 i ∧ T i = T2 i ∧ D i = D2 i) → ownsT X T D n = ownsT X2 T2 D2 n
  | 0, _ => rfl
  | n + 1, h => by
    obtain ⟨h1, h2, h3⟩ := h n (by omega)
    simp only [ownsT, h1, h2, h3, ownsT_congr (n := n) fun i hi => h i (by omega)]
theorem ownsT_perm : ∀ {n : Nat}, s < n → (ownsT X T D n).Perm (.own (X s) (T s).length (D s) 3 1 (iL (T s)) :: ownsTX X T D s n)
  | n + 1, h => by
    by_cases hs : n = s
    · subst hs
      simp only [ownsT, ownsTX, if_true]
      exact List.Perm.refl _
    · simp only [ownsT, ownsTX, if_neg hs]
      exact ((ownsT_perm (n := n) (by omega)).cons _).trans (List.Perm.swap _ _ _)
theorem ownsT_mem {n : Nat} (h : s < n) : Fact.own (X s) (T s).length (D s) 3 1 (iL (T s)) ∈ ownsT X T D n := (ownsT_perm h).mem_iff.2 (by simp)
theorem ownsT_put {k2 : Nat} {A : Option Addr} {c2 : Nat} {L : List Int} {r : Nat → List Value} (hk : k2 = L.length) (hr : ∀ i, i < k2 → r i = iL L i) : ∀ {n : Nat}, s < n → KSub (.own A k2 c2 3 1 r :: ownsTX X T D s n) (ownsT (updN X s A) (updN T s L) (updN D s c2) n)
  | n + 1, hs => by
    by_cases hn : n = s
    · subst hn
      have e1 : updN X n A n = A := if_pos rfl
      have e2 : updN T n L n = L := if_pos rfl
      have e3 : updN D n c2 n = c2 := if_pos rfl
      simp only [ownsTX, ownsT, if_true, e1, e2, e3, ← hk]
      refine KSub.own Pick.hd hr ?_
      rw [ownsT_congr (X := X) (T := T) (D := D) (X2 := updN X n A) (T2 := updN T n L) (D2 := updN D n c2) fun i hi => ⟨(if_neg (by omega)).symm, (if_neg (by omega)).symm, (if_neg (by omega)).symm⟩]
      exact KSub.refl _
    · have e1 : updN X s A n = X n := if_neg hn
      have e2 : updN T s L n = T n := if_neg hn
      have e3 : updN D s c2 n = D n := if_neg hn
      simp only [ownsTX, ownsT, if_neg hn, e1, e2, e3]
      exact KSub.cons (Pick.tl Pick.hd) (ownsT_put hk hr (by omega))
end
theorem ownsT_next {X : Nat → Option Addr} {T : Nat → List Int} {D : Nat → Nat} {n k2 c2 : Nat} {A : Option Addr} {L : List Int} {r : Nat → List Value} (hk : k2 = L.length) (hr : ∀ i, i < k2 → r i = iL L i) : KSub (.own A k2 c2 3 1 r :: ownsT X T D n) (ownsT (updN X n A) (updN T n L) (updN D n c2) (n + 1)) := by
  have e1 : updN X n A n = A := if_pos rfl
  have e2 : updN T n L n = L := if_pos rfl
  have e3 : updN D n c2 n = c2 := if_pos rfl
  simp only [ownsT, e1, e2, e3, ← hk]
  refine KSub.own Pick.hd hr ?_
  rw [ownsT_congr (X := X) (T := T) (D := D) (X2 := updN X n A) (T2 := updN T n L) (D2 := updN D n c2) fun i hi => ⟨(if_neg (by omega)).symm, (if_neg (by omega)).symm, (if_neg (by omega)).symm⟩]
  exact KSub.refl _
structure ArrT (P : Program) (t E : TypeId) (n sz : Nat) : Prop where
  ht : P.underlying t = some (.array n E)
  hs : ∀ w, (sizeOf E).run P w = .ok sz w
theorem Pu.ea {c : Cx} {F : Fr} {K : List Fact} {d : Option Tmp} {t E ty : TypeId} {pos : String} {af : Array Edge} {g : Option (Nat × Bool)} {x y : Operand} {b n sz q : Nat} {kk : IntKind} {i : Int} (hT : ArrT c.P t E n sz) (hx : ev F x = some (.pointer (some ⟨b, 0, none⟩)) := by rfl) (hy : ev F y = some (.int kk i) := by rfl) (hk : i.toNat = q := by first | exact Int.toNat_natCast _ | rfl) (h0 : 0 ≤ i := by omega) (h1 : i < n := by omega) :
    Pu c F K ⟨d, .indexAddr t x y, ty, pos, af, g⟩ (.pointer (elA (some ⟨b, 0, none⟩) q sz 0)) := fun a w hF _ => by
  simp [execOp, hF.evl hx, hF.evl hy, Instr.indexAt, asIntOf, run_underlying hT.ht, Instr.sureAddr, h0, h1, hT.hs, elA, hk]
theorem arr3 : ArrT Tryz.prog 35 24 3 1 := ⟨Tryz.underlying35, fun w => by kernel_rfl⟩
end Go.Proofs.YtljhdcclajikiaaGreatDoor
